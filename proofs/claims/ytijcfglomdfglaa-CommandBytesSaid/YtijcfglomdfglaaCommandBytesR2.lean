/- The Go functions refine their models, part 2. -/
import Derived.Test.YtijcfglomdfglaaCommandBytesR1
set_option linter.unusedVariables false
set_option linter.unusedSimpArgs false
set_option maxRecDepth 100000
set_option maxHeartbeats 4000000
namespace Go.Proofs.Ytijcfglomdfglaa
open Go Go.V
attribute [local irreducible] wpList Code.wp wpQuiet Calls bodyPost Oper.wp wpS Nx PendOK YieldsIn
theorem command_readWrites_ref {w0 w : World} {I : HL} {R : SP} {a0 : octet_Reader} {p0 : Value}  (hst : St w0 w I [at_octet_Reader p0 a0] R) {r : ((List api_Write) × octet_Reader)} (hm : command_readWrites a0 = some r) :
  Calls Try.prog 54 #[p0] w fun e w' => ∃ (I' : HL) (q0_0 : Value), e = .returned (q0_0) ∧ I.le I' ∧ St w0 w' I' [ownS ty_api_Write q0_0 r.1, at_octet_Reader p0 r.2] R := by
 unfold command_readWrites at hm
 refine calls_start (args := [p0]) Try.func54 rfl Try.ntmps54 (Nat.le_of_ble_eq_true rfl) ?_
 have hI0 := HL.le.refl I
 refine wp_seq (wp_region_lit ?_)
 refine wv ((.slice none 0 0)) rfl rfl rfl ?_
 refine wl_nil (then_n (wp_seq (wp_region_lit ?_)))
 refine wv ((.slice none 0 0)) rfl rfl rfl ?_
 refine wl_nil (then_n (wp_seq (wp_seq (wp_region_lit ?_))))
 refine wv (p0) rfl rfl rfl ?_
 obtain ⟨t388, ht389, hm⟩ := bind_some hm
 refine wl_call rfl rfl (x_call Try.call41 rfl (vs := [p0, .int .i64 (32:Int)]) rfl) ?_
 refine (octet_Reader_Count_ref hst.to1 ht389).mono ?_
 rintro _ w390 ⟨rfl, hst⟩
 refine ⟨_, rfl, ?_⟩
 replace hst := hst.of1
 refine wv (.int .i64 (0:Int)) rfl rfl rfl ?_
 refine wl_nil (then_n (wp_block ?_))
 replace hst := hst.own_nil ty_api_Write
 obtain ⟨n516, hm⟩ := loopO_some hm
 refine wp_loop_n (fun n a w => ∃ (I514 : HL) (z509 : octet_Reader) (z510 : (List api_Write)) (z513 : Int) (v511 : Value) (σ515 : Nat → Value), loopN (command_readWrites_l0 t388) n (z509, z510, z513) = some r ∧ a = Fr 21 (upd (upd (upd (upd σ515 0 (p0)) 3 (v511)) 5 (.int .i64 t388.1)) 6 (.int .i64 z513)) ∧ I.le I514 ∧ St w0 w I514 [ownS ty_api_Write v511 z510, at_octet_Reader p0 z509] R) n516 ⟨_, t388.2, [], (0:Int), (.slice none 0 0), _, hm, ((fr_upd (t := 0) (v := p0) rfl).trans ((fr_upd (t := 3) (v := (.slice none 0 0)) rfl).trans ((fr_upd (t := 5) (v := .int .i64 t388.1) rfl).trans ((fr_upd (t := 6) (v := .int .i64 (0:Int)) rfl).trans rfl)))), (HL.le.refl _), hst⟩ ?_
 rintro n522 _ w517 ⟨I514, z509, z510, z513, v511, σ515, hm, rfl, hL518, hst⟩
 obtain ⟨n519, y520, rfl, hm, hx521⟩ := loopN_some hm
 dsimp only [command_readWrites_l0] at hm
 replace hI0 := hI0.trans hL518
 refine wp_seq (wp_region_lit ?_)
 refine wv (.bool (decide (z513 < t388.1))) rfl rfl rfl ?_
 refine wl_nil (then_n (wp_seq ?_))
 refine bsplit (decide (z513 < t388.1)) (fun hc523 => ?_) (fun hc523 => ?_)
 ·skip
  replace hm := bif_t hc523 hm
  refine wp_ift (congrArg Value.bool hc523) ?_
  refine wp_skip (then_n (wp_seq (wp_block (wp_region_lit ?_))))
  refine wv (v511) rfl rfl rfl ?_
  refine wv (p0) rfl rfl rfl ?_
  replace hst := hst.pull1
  obtain ⟨t524, ht525, hm⟩ := bind_some hm
  refine wl_call rfl rfl (x_call Try.call40 rfl (vs := [p0, .int .i64 (8:Int)]) rfl) ?_
  refine (octet_Reader_Num_ref hst.to1 ht525).mono ?_
  rintro _ w526 ⟨rfl, hst⟩
  refine ⟨_, rfl, ?_⟩
  replace hst := hst.of1
  obtain ⟨t529, ht530, hm⟩ := bind_some hm
  refine wl_call rfl rfl (x_call Try.call44 rfl (vs := [.int .u64 t524.1]) rfl) ?_
  refine (number_Back_ref hst.to0 ht530).mono ?_
  rintro _ w531 ⟨rfl, hst⟩
  refine ⟨_, rfl, ?_⟩
  replace hst := hst.of0
  refine wv (p0) rfl rfl rfl ?_
  obtain ⟨t534, ht535, hm⟩ := bind_some hm
  refine wl_call rfl rfl (x_call Try.call42 rfl (vs := [p0]) rfl) ?_
  refine (octet_Reader_Flag_ref hst.to1 ht535).mono ?_
  rintro _ w536 ⟨rfl, hst⟩
  refine ⟨_, rfl, ?_⟩
  replace hst := hst.of1
  refine wv (p0) rfl rfl rfl ?_
  obtain ⟨t539, ht540, hm⟩ := bind_some hm
  refine wl_call rfl rfl (x_call Try.call43 rfl (vs := [p0, .int .i64 (256:Int)]) rfl) ?_
  refine (octet_Reader_Bytes_ref hst.to1 ht540).mono ?_
  rintro _ w541 ⟨v544, rfl, hst⟩
  refine ⟨_, rfl, ?_⟩
  replace hst := hst.of2
  refine wv (.agg #[.float .f64 t529, .bool t534.1, v544]) rfl rfl (by obtain ⟨_, _, hv_, _⟩ := hst.sv0; rw [hv_]; kernel_rfl) ?_
  obtain ⟨I548, hI549, f550, hst⟩ := hst.own_fix
  replace hI0 := hI0.trans hI549
  replace hL518 := hL518.trans hI549
  obtain ⟨b551, w552, ew553, eb554, hst⟩ := hst.lits (E := ty_api_Write) (xs := [({ At := t529, Del := t534.1, Val := t539.1 } : api_Write)]) [[.float .f64 t529, .bool t534.1, v544]] 73 1 rfl (Reps.cons ⟨_, rfl, f550, one_of_sliceV (ro_sliceV f550)⟩ Reps.nil)
  refine wl_run (v := (.slice (some ⟨b551, 0, none⟩) 1 1)) (w' := w552) rfl rfl (x_als (by kernel_rfl) ew553 eb554) ?_
  obtain ⟨hg556, hm⟩ := gd_some hm
  replace hst := hst.pull2
  obtain ⟨v557, w558, hr559, hst⟩ := run_append elem_35 Try.underlying35 hst hst.src1 (room_of hg556 rfl) 35
  refine wl_run (v := v557) (w' := w558) rfl rfl (x_append rfl rfl hr559) ?_
  refine wv (v557) rfl rfl rfl ?_
  refine wl_nil (blk_n (then_n (wp_region_lit ?_)))
  refine wv (.int .i64 (IntKind.i64.wrap (z513 + (1:Int)))) rfl rfl rfl ?_
  refine wv (.int .i64 (IntKind.i64.wrap (z513 + (1:Int)))) rfl rfl rfl ?_
  refine wl_nil (then_n ?_)
  replace hst := hst.pull2
  replace hst := hst.pull1
  replace hst := hst.keep2
  obtain rfl := some_inj hm
  exact ⟨_, Nat.lt_succ_self _, _, t539.2, (z510 ++ ([({ At := t529, Del := t534.1, Val := t539.1 } : api_Write)])), (IntKind.i64.wrap (z513 + (1:Int))), v557, _, hx521, ((fr_upd (t := 0) (v := p0) rfl).trans ((fr_upd (t := 3) (v := v557) rfl).trans ((fr_upd (t := 5) (v := .int .i64 t388.1) rfl).trans ((fr_upd (t := 6) (v := .int .i64 (IntKind.i64.wrap (z513 + (1:Int)))) rfl).trans rfl)))), hL518, hst⟩
 ·skip
  replace hm := bif_f hc523 hm
  refine wp_iff (congrArg Value.bool hc523) ?_
  refine wp_exit (then_x (then_x ?_))
  replace hm := inr_up hm hx521
  refine blk_x (then_n (wp_seq (wp_region_lit ?_)))
  refine wv (v511) rfl rfl rfl ?_
  refine wv (v511) rfl rfl rfl ?_
  refine wl_nil (then_n (wp_ret ?_))
  obtain rfl := some_inj hm
  refine post_ret (vs := [v511]) Try.results54 (rvs_cons (rv_tmp rfl) rvs_nil) ?_
  replace hst := hst.pull1
  replace hst := hst.pull1
  exact ⟨_, v511, rfl, hI0, hst.keep2⟩

theorem command_ReadReply_ref {w0 w : World} {I : HL} {R : SP} {a0 : octet_Reader} {p0 : Value}  (hst : St w0 w I [at_octet_Reader p0 a0] R) {r : (api_Reply × octet_Reader)} (hm : command_ReadReply a0 = some r) :
  Calls Try.prog 16 #[p0] w fun e w' => ∃ (I' : HL) (q0_0 : Value) (q0_1 : Value), e = .returned (.agg #[.int .i64 r.1.E, .int .u64 r.1.Epoch, .int .u64 r.1.Index, q0_0, q0_1]) ∧ I.le I' ∧ St w0 w' I' [ownS ty_api_Got q0_0 r.1.Gots, ownS (tySl ty_api_Pair) q0_1 r.1.Scans, at_octet_Reader p0 r.2] R := by
 unfold command_ReadReply at hm
 refine calls_start (args := [p0]) Try.func16 rfl Try.ntmps16 (Nat.le_of_ble_eq_true rfl) ?_
 have hI0 := HL.le.refl I
 refine wp_seq (wp_region_lit ?_)
 obtain ⟨b1338, w1339, ew1340, eb1341, hst⟩ := hst.box [.int .i64 (0:Int), .int .u64 (0:Int), .int .u64 (0:Int), (.slice none 0 0), (.slice none 0 0)] 39
 refine wl_run (v := .pointer (some ⟨b1338, 0, none⟩)) (w' := w1339) rfl rfl (x_al (by kernel_rfl) ew1340 eb1341) ?_
 refine wl_nil (then_n (wp_seq (wp_region_lit ?_)))
 refine wv (p0) rfl rfl rfl ?_
 replace hst := hst.pull1
 obtain ⟨t1343, ht1344, hm⟩ := bind_some hm
 refine wl_call rfl rfl (x_call Try.call40 rfl (vs := [p0, .int .i64 (1:Int)]) rfl) ?_
 refine (octet_Reader_Num_ref hst.to1 ht1344).mono ?_
 rintro _ w1345 ⟨rfl, hst⟩
 refine ⟨_, rfl, ?_⟩
 replace hst := hst.of1
 refine wv (.int .i64 (IntKind.i64.wrap t1343.1)) rfl rfl (by kernel_rfl) ?_
 refine wv (p0) rfl rfl rfl ?_
 obtain ⟨t1348, ht1349, hm⟩ := bind_some hm
 refine wl_call rfl rfl (x_call Try.call40 rfl (vs := [p0, .int .i64 (8:Int)]) rfl) ?_
 refine (octet_Reader_Num_ref hst.to1 ht1349).mono ?_
 rintro _ w1350 ⟨rfl, hst⟩
 refine ⟨_, rfl, ?_⟩
 replace hst := hst.of1
 refine wv (p0) rfl rfl rfl ?_
 obtain ⟨t1353, ht1354, hm⟩ := bind_some hm
 refine wl_call rfl rfl (x_call Try.call40 rfl (vs := [p0, .int .i64 (8:Int)]) rfl) ?_
 refine (octet_Reader_Num_ref hst.to1 ht1354).mono ?_
 rintro _ w1355 ⟨rfl, hst⟩
 refine ⟨_, rfl, ?_⟩
 replace hst := hst.of1
 refine wv (.agg #[.int .i64 (IntKind.i64.wrap t1343.1), .int .u64 t1348.1, .int .u64 t1353.1, (.slice none 0 0), (.slice none 0 0)]) rfl rfl (by kernel_rfl) ?_
 obtain ⟨b1362, w1363, ew1364, eb1365, hst⟩ := hst.box [.int .i64 (0:Int), .int .u64 (0:Int), .int .u64 (0:Int), (.slice none 0 0), (.slice none 0 0)] 39
 refine wl_run (v := .pointer (some ⟨b1362, 0, none⟩)) (w' := w1363) rfl rfl (x_al (by kernel_rfl) ew1364 eb1365) ?_
 obtain ⟨w1367, hr1368, hst⟩ := hst.boxStore (P := Try.prog) (t := 39) (cs' := [.int .i64 (IntKind.i64.wrap t1343.1), .int .u64 t1348.1, .int .u64 t1353.1, (.slice none 0 0), (.slice none 0 0)]) 0 (.agg #[.int .i64 (IntKind.i64.wrap t1343.1), .int .u64 t1348.1, .int .u64 t1353.1, (.slice none 0 0), (.slice none 0 0)]) Try.sizeOf39 (Nat.le_of_ble_eq_true rfl) (ones_cons rfl (ones_cons rfl (ones_cons rfl (ones_cons rfl (ones_cons rfl ones_nil))))) (by kernel_rfl)
 refine wl_unit rfl rfl (x_unit hr1368) ?_
 refine wl_nil (then_n ?_)
 obtain ⟨y1516, hm, hx1517⟩ := bind_some hm
 refine wp_cut (fun a w => ∃ (I1513 : HL) (z1509 : octet_Reader) (z1512 : (List api_Got)) (v1511 : Value) (σ1514 : Nat → Value), (command_ReadReply_j0 t1343 t1348 t1353) (z1509, z1512) = some r ∧ a = Fr 54 (upd (upd (upd σ1514 0 (p0)) 2 (.pointer (some ⟨b1338, 0, none⟩))) 3 (.pointer (some ⟨b1362, 0, none⟩))) ∧ I.le I1513 ∧ St w0 w I1513 [at_octet_Reader p0 z1509, cells b1338 [.int .i64 (0:Int), .int .u64 (0:Int), .int .u64 (0:Int), (.slice none 0 0), (.slice none 0 0)], cells b1362 [.int .i64 (IntKind.i64.wrap t1343.1), .int .u64 t1348.1, .int .u64 t1353.1, v1511, (.slice none 0 0)], ownS ty_api_Got v1511 z1512] R) ?_ ?_
 ·skip
  have hL1518 := HL.le.refl I
  refine wp_seq (wp_region_lit ?_)
  refine wv (p0) rfl rfl rfl ?_
  replace hst := hst.pull1
  obtain ⟨t1369, ht1370, hm⟩ := bind_some hm
  refine wl_call rfl rfl (x_call Try.call41 rfl (vs := [p0, .int .i64 (32:Int)]) rfl) ?_
  refine (octet_Reader_Count_ref hst.to1 ht1370).mono ?_
  rintro _ w1371 ⟨rfl, hst⟩
  refine ⟨_, rfl, ?_⟩
  replace hst := hst.of1
  refine wv (.int .i64 (0:Int)) rfl rfl rfl ?_
  refine wl_nil (then_n (wp_block ?_))
  replace hst := hst.own_nil ty_api_Got
  obtain ⟨n1473, hm⟩ := loopO_some hm
  refine wp_loop_n (fun n a w => ∃ (I1471 : HL) (z1466 : (List api_Got)) (z1469 : octet_Reader) (z1470 : Int) (v1467 : Value) (σ1472 : Nat → Value), loopN (command_ReadReply_l1 t1369) n (z1466, z1469, z1470) = some y1516 ∧ a = Fr 54 (upd (upd (upd (upd (upd σ1472 0 (p0)) 2 (.pointer (some ⟨b1338, 0, none⟩))) 3 (.pointer (some ⟨b1362, 0, none⟩))) 14 (.int .i64 t1369.1)) 15 (.int .i64 z1470)) ∧ I.le I1471 ∧ St w0 w I1471 [ownS ty_api_Got v1467 z1466, at_octet_Reader p0 z1469, cells b1362 [.int .i64 (IntKind.i64.wrap t1343.1), .int .u64 t1348.1, .int .u64 t1353.1, v1467, (.slice none 0 0)], cells b1338 [.int .i64 (0:Int), .int .u64 (0:Int), .int .u64 (0:Int), (.slice none 0 0), (.slice none 0 0)]] R) n1473 ⟨_, [], t1369.2, (0:Int), (.slice none 0 0), _, hm, ((fr_upd (t := 0) (v := p0) rfl).trans ((fr_upd (t := 2) (v := .pointer (some ⟨b1338, 0, none⟩)) rfl).trans ((fr_upd (t := 3) (v := .pointer (some ⟨b1362, 0, none⟩)) rfl).trans ((fr_upd (t := 14) (v := .int .i64 t1369.1) rfl).trans ((fr_upd (t := 15) (v := .int .i64 (0:Int)) rfl).trans rfl))))), (HL.le.refl _), hst⟩ ?_
  rintro n1479 _ w1474 ⟨I1471, z1466, z1469, z1470, v1467, σ1472, hm, rfl, hL1475, hst⟩
  obtain ⟨n1476, y1477, rfl, hm, hx1478⟩ := loopN_some hm
  dsimp only [command_ReadReply_l1] at hm
  replace hI0 := hI0.trans hL1475
  replace hL1518 := hL1518.trans hL1475
  refine wp_seq (wp_region_lit ?_)
  refine wv (.bool (decide (z1470 < t1369.1))) rfl rfl rfl ?_
  refine wl_nil (then_n (wp_seq ?_))
  refine bsplit (decide (z1470 < t1369.1)) (fun hc1480 => ?_) (fun hc1480 => ?_)
  ·skip
   replace hm := bif_t hc1480 hm
   refine wp_ift (congrArg Value.bool hc1480) ?_
   refine wp_skip (then_n (wp_seq (wp_block ?_)))
   refine wp_region_St hst 11 [0, 1, 2, 3, 4, 5, 6, 7, 8, 9, 10] [0, 1, 0, 4, 0, 28, 60, 124, 255, 511, 1023] [] rfl (by kernel_rfl) (by kernel_rfl) Try.mixed (by kernel_rfl) ?_
   refine wsr (.pointer (some ⟨b1362, 3, none⟩)) 0 rfl rfl rfl (by kernel_rfl) (fun w hst => x_field rfl Try.underlying39 rfl Try.sizeOf36 rfl) ?_
   refine wsr (v1467) 1 rfl rfl rfl (by kernel_rfl) (fun w hst => x_load rfl Try.isAgg36 (hst.bc2 rfl)) ?_
   refine wsr (p0) 2 rfl rfl rfl (by kernel_rfl) (fun w hst => rfl) ?_
   refine wsr (p0) 4 rfl rfl rfl (by kernel_rfl) (fun w hst => rfl) ?_
   refine ws_e1 3 (by kernel_rfl) ?_
   refine nxe [5, 6, 7, 8, 9, 10] (by kernel_rfl) rfl rfl ?_
   clear hst
   intro w hst
   replace hst := hst.pull1
   obtain ⟨t1481, ht1482, hm⟩ := bind_some hm
   refine we_call rfl (x_call Try.call42 rfl (vs := [p0]) rfl) ?_
   refine (octet_Reader_Flag_ref hst.to1 ht1482).mono ?_
   rintro _ w1483 ⟨rfl, hst⟩
   refine ⟨_, rfl, ?_⟩
   replace hst := hst.of1
   refine ws_next (pend' := [(4, p0), (1, v1467), (0, .pointer (some ⟨b1362, 3, none⟩))]) hst (by kernel_rfl) (pkr rfl rfl (fun w hst => rfl) (pkr rfl rfl (fun w hst => x_load rfl Try.isAgg36 (hst.bc2 rfl)) (pkr rfl rfl (fun w hst => x_field rfl Try.underlying39 rfl Try.sizeOf36 rfl) pk_nil))) ?_
   refine ws_e1 5 (by kernel_rfl) ?_
   refine nxe [6, 7, 8, 9, 10] (by kernel_rfl) rfl rfl ?_
   clear hst
   intro w hst
   obtain ⟨t1486, ht1487, hm⟩ := bind_some hm
   refine we_call rfl (x_call Try.call43 rfl (vs := [p0, .int .i64 (256:Int)]) rfl) ?_
   refine (octet_Reader_Bytes_ref hst.to1 ht1487).mono ?_
   rintro _ w1488 ⟨v1491, rfl, hst⟩
   refine ⟨_, rfl, ?_⟩
   replace hst := hst.of2
   refine ws_next (pend' := [(1, v1467), (0, .pointer (some ⟨b1362, 3, none⟩))]) hst (by kernel_rfl) (pkr rfl rfl (fun w hst => x_load rfl Try.isAgg36 (hst.bc3 rfl)) (pkr rfl rfl (fun w hst => x_field rfl Try.underlying39 rfl Try.sizeOf36 rfl) pk_nil)) ?_
   refine wsr (.agg #[.bool t1481.1, v1491]) 6 rfl rfl rfl (by kernel_rfl) (fun w hst => by obtain ⟨_, _, hv_, _⟩ := hst.sv0; rw [hv_]; kernel_rfl) ?_
   refine ws_e1 7 (by kernel_rfl) ?_
   refine nxe [8, 9, 10] (by kernel_rfl) rfl rfl ?_
   clear hst
   intro w hst
   obtain ⟨I1495, hI1496, f1497, hst⟩ := hst.own_fix
   replace hI0 := hI0.trans hI1496
   replace hL1518 := hL1518.trans hI1496
   replace hL1475 := hL1475.trans hI1496
   obtain ⟨b1498, w1499, ew1500, eb1501, hst⟩ := hst.lits (E := ty_api_Got) (xs := [({ Has := t1481.1, Val := t1486.1 } : api_Got)]) [[.bool t1481.1, v1491]] 51 1 rfl (Reps.cons ⟨_, rfl, f1497, one_of_sliceV (ro_sliceV f1497)⟩ Reps.nil)
   refine we_run (v := (.slice (some ⟨b1498, 0, none⟩) 1 1)) (w' := w1499) rfl (x_als (by kernel_rfl) ew1500 eb1501) ?_
   refine ws_next (pend' := [(1, v1467), (0, .pointer (some ⟨b1362, 3, none⟩))]) hst (by kernel_rfl) (pkr rfl rfl (fun w hst => x_load rfl Try.isAgg36 (hst.bc3 rfl)) (pkr rfl rfl (fun w hst => x_field rfl Try.underlying39 rfl Try.sizeOf36 rfl) pk_nil)) ?_
   refine ws_e1 8 (by kernel_rfl) ?_
   refine nxe [9, 10] (by kernel_rfl) rfl rfl ?_
   clear hst
   intro w hst
   obtain ⟨hg1503, hm⟩ := gd_some hm
   replace hst := hst.pull2
   obtain ⟨v1504, w1505, hr1506, hst⟩ := run_append elem_36 Try.underlying36 hst hst.src1 (room_of hg1503 rfl) 36
   refine we_run (v := v1504) (w' := w1505) rfl (x_append rfl rfl hr1506) ?_
   refine ws_next (pend' := []) hst (by kernel_rfl) pk_nil ?_
   refine wsr (.pointer (some ⟨b1362, 3, none⟩)) 9 rfl rfl rfl (by kernel_rfl) (fun w hst => x_field rfl Try.underlying39 rfl Try.sizeOf36 rfl) ?_
   refine ws_e1 10 (by kernel_rfl) ?_
   refine nxe [] (by kernel_rfl) rfl rfl ?_
   clear hst
   intro w hst
   replace hst := hst.pull3
   obtain ⟨w1507, hr1508, hst⟩ := hst.boxStore1 (P := Try.prog) (t := 36) (cs' := [.int .i64 (IntKind.i64.wrap t1343.1), .int .u64 t1348.1, .int .u64 t1353.1, v1504, (.slice none 0 0)]) 3 v1504 (one_of_sliceV hst.sv1) Try.sizeOf36 rfl rfl
   refine we_unit rfl (x_unit hr1508) ?_
   refine ws_next (pend' := []) hst (by kernel_rfl) pk_nil ?_
   refine ws_nil ?_
   intro w hst
   refine blk_n (then_n (wp_region_lit ?_))
   refine wv (.int .i64 (IntKind.i64.wrap (z1470 + (1:Int)))) rfl rfl rfl ?_
   refine wv (.int .i64 (IntKind.i64.wrap (z1470 + (1:Int)))) rfl rfl rfl ?_
   refine wl_nil (then_n ?_)
   replace hst := hst.pull4
   replace hst := hst.pull1
   replace hst := hst.pull4
   replace hst := hst.pull3
   replace hst := hst.keep4
   obtain rfl := some_inj hm
   exact ⟨_, Nat.lt_succ_self _, _, (z1466 ++ ([({ Has := t1481.1, Val := t1486.1 } : api_Got)])), t1486.2, (IntKind.i64.wrap (z1470 + (1:Int))), v1504, _, hx1478, ((fr_upd (t := 0) (v := p0) rfl).trans ((fr_upd (t := 2) (v := .pointer (some ⟨b1338, 0, none⟩)) rfl).trans ((fr_upd (t := 3) (v := .pointer (some ⟨b1362, 0, none⟩)) rfl).trans ((fr_upd (t := 14) (v := .int .i64 t1369.1) rfl).trans ((fr_upd (t := 15) (v := .int .i64 (IntKind.i64.wrap (z1470 + (1:Int)))) rfl).trans rfl))))), hL1475, hst⟩
  ·skip
   replace hm := bif_f hc1480 hm
   refine wp_iff (congrArg Value.bool hc1480) ?_
   refine wp_exit (then_x (then_x ?_))
   replace hm := inr_up hm hx1478
   refine blk_x (then_n ?_)
   replace hst := hst.pull2
   replace hst := hst.pull3
   replace hst := hst.pull3
   replace hst := hst.keep4
   obtain rfl := some_inj hm
   exact ⟨_, z1469, z1466, v1467, _, hx1517, ((fr_upd (t := 0) (v := p0) rfl).trans ((fr_upd (t := 2) (v := .pointer (some ⟨b1338, 0, none⟩)) rfl).trans ((fr_upd (t := 3) (v := .pointer (some ⟨b1362, 0, none⟩)) rfl).trans rfl))), hL1518, hst⟩
 ·skip
  clear hst
  rintro _ w1519 ⟨I1513, z1509, z1512, v1511, σ1514, hm, rfl, hL1515, hst⟩
  dsimp only [command_ReadReply_j0] at hm
  replace hI0 := hI0.trans hL1515
  refine wp_seq (wp_seq (wp_region_lit ?_))
  refine wv (p0) rfl rfl rfl ?_
  obtain ⟨t1520, ht1521, hm⟩ := bind_some hm
  refine wl_call rfl rfl (x_call Try.call41 rfl (vs := [p0, .int .i64 (32:Int)]) rfl) ?_
  refine (octet_Reader_Count_ref hst.to1 ht1521).mono ?_
  rintro _ w1522 ⟨rfl, hst⟩
  refine ⟨_, rfl, ?_⟩
  replace hst := hst.of1
  refine wv (.int .i64 (0:Int)) rfl rfl rfl ?_
  refine wl_nil (then_n (wp_block ?_))
  replace hst := hst.own_nil (tySl ty_api_Pair)
  obtain ⟨n2077, hm⟩ := loopO_some hm
  refine wp_loop_n (fun n a w => ∃ (I2075 : HL) (z2070 : (List (List api_Pair))) (z2073 : octet_Reader) (z2074 : Int) (v2071 : Value) (σ2076 : Nat → Value), loopN (command_ReadReply_l2 t1520 t1343 t1348 t1353 z1512) n (z2070, z2073, z2074) = some r ∧ a = Fr 54 (upd (upd (upd (upd (upd σ2076 0 (p0)) 2 (.pointer (some ⟨b1338, 0, none⟩))) 3 (.pointer (some ⟨b1362, 0, none⟩))) 29 (.int .i64 t1520.1)) 30 (.int .i64 z2074)) ∧ I1513.le I2075 ∧ St w0 w I2075 [ownS (tySl ty_api_Pair) v2071 z2070, at_octet_Reader p0 z2073, cells b1338 [.int .i64 (0:Int), .int .u64 (0:Int), .int .u64 (0:Int), (.slice none 0 0), (.slice none 0 0)], cells b1362 [.int .i64 (IntKind.i64.wrap t1343.1), .int .u64 t1348.1, .int .u64 t1353.1, v1511, v2071], ownS ty_api_Got v1511 z1512] R) n2077 ⟨_, [], t1520.2, (0:Int), (.slice none 0 0), _, hm, ((fr_upd (t := 0) (v := p0) rfl).trans ((fr_upd (t := 2) (v := .pointer (some ⟨b1338, 0, none⟩)) rfl).trans ((fr_upd (t := 3) (v := .pointer (some ⟨b1362, 0, none⟩)) rfl).trans ((fr_upd (t := 29) (v := .int .i64 t1520.1) rfl).trans ((fr_upd (t := 30) (v := .int .i64 (0:Int)) rfl).trans rfl))))), (HL.le.refl _), hst⟩ ?_
  rintro n2083 _ w2078 ⟨I2075, z2070, z2073, z2074, v2071, σ2076, hm, rfl, hL2079, hst⟩
  obtain ⟨n2080, y2081, rfl, hm, hx2082⟩ := loopN_some hm
  dsimp only [command_ReadReply_l2] at hm
  replace hI0 := hI0.trans hL2079
  refine wp_seq (wp_region_lit ?_)
  refine wv (.bool (decide (z2074 < t1520.1))) rfl rfl rfl ?_
  refine wl_nil (then_n (wp_seq ?_))
  refine bsplit (decide (z2074 < t1520.1)) (fun hc2084 => ?_) (fun hc2084 => ?_)
  ·skip
   replace hm := bif_t hc2084 hm
   refine wp_ift (congrArg Value.bool hc2084) ?_
   refine wp_skip (then_n (wp_seq (wp_block (wp_seq (wp_region_lit ?_)))))
   refine wv ((.slice none 0 0)) rfl rfl rfl ?_
   refine wl_nil (then_n ?_)
   obtain ⟨y2245, hm, hx2246⟩ := bind_some hm
   refine wp_cut (fun a w => ∃ (I2242 : HL) (z2238 : octet_Reader) (z2241 : (List api_Pair)) (v2240 : Value) (σ2243 : Nat → Value), (command_ReadReply_j3 z2070 z2074) (z2238, z2241) = some y2081 ∧ a = Fr 54 (upd (upd (upd (upd (upd (upd σ2243 0 (p0)) 2 (.pointer (some ⟨b1338, 0, none⟩))) 3 (.pointer (some ⟨b1362, 0, none⟩))) 4 (v2240)) 29 (.int .i64 t1520.1)) 30 (.int .i64 z2074)) ∧ I2075.le I2242 ∧ St w0 w I2242 [at_octet_Reader p0 z2238, cells b1338 [.int .i64 (0:Int), .int .u64 (0:Int), .int .u64 (0:Int), (.slice none 0 0), (.slice none 0 0)], cells b1362 [.int .i64 (IntKind.i64.wrap t1343.1), .int .u64 t1348.1, .int .u64 t1353.1, v1511, v2071], ownS ty_api_Got v1511 z1512, ownS (tySl ty_api_Pair) v2071 z2070, ownS ty_api_Pair v2240 z2241] R) ?_ ?_
   ·skip
    have hL2247 := HL.le.refl I2075
    refine wp_seq (wp_region_lit ?_)
    refine wv (p0) rfl rfl rfl ?_
    replace hst := hst.pull1
    obtain ⟨t2086, ht2087, hm⟩ := bind_some hm
    refine wl_call rfl rfl (x_call Try.call41 rfl (vs := [p0, .int .i64 (64:Int)]) rfl) ?_
    refine (octet_Reader_Count_ref hst.to1 ht2087).mono ?_
    rintro _ w2088 ⟨rfl, hst⟩
    refine ⟨_, rfl, ?_⟩
    replace hst := hst.of1
    refine wv (.int .i64 (0:Int)) rfl rfl rfl ?_
    refine wl_nil (then_n (wp_block ?_))
    replace hst := hst.own_nil ty_api_Pair
    obtain ⟨n2199, hm⟩ := loopO_some hm
    refine wp_loop_n (fun n a w => ∃ (I2197 : HL) (z2192 : octet_Reader) (z2193 : Int) (z2194 : (List api_Pair)) (v2195 : Value) (σ2198 : Nat → Value), loopN (command_ReadReply_l4 t2086) n (z2192, z2193, z2194) = some y2245 ∧ a = Fr 54 (upd (upd (upd (upd (upd (upd (upd (upd σ2198 0 (p0)) 2 (.pointer (some ⟨b1338, 0, none⟩))) 3 (.pointer (some ⟨b1362, 0, none⟩))) 4 (v2195)) 29 (.int .i64 t1520.1)) 30 (.int .i64 z2074)) 33 (.int .i64 t2086.1)) 34 (.int .i64 z2193)) ∧ I2075.le I2197 ∧ St w0 w I2197 [ownS ty_api_Pair v2195 z2194, at_octet_Reader p0 z2192, ownS (tySl ty_api_Pair) v2071 z2070, cells b1338 [.int .i64 (0:Int), .int .u64 (0:Int), .int .u64 (0:Int), (.slice none 0 0), (.slice none 0 0)], cells b1362 [.int .i64 (IntKind.i64.wrap t1343.1), .int .u64 t1348.1, .int .u64 t1353.1, v1511, v2071], ownS ty_api_Got v1511 z1512] R) n2199 ⟨_, t2086.2, (0:Int), [], (.slice none 0 0), _, hm, ((fr_upd (t := 0) (v := p0) rfl).trans ((fr_upd (t := 2) (v := .pointer (some ⟨b1338, 0, none⟩)) rfl).trans ((fr_upd (t := 3) (v := .pointer (some ⟨b1362, 0, none⟩)) rfl).trans ((fr_upd (t := 4) (v := (.slice none 0 0)) rfl).trans ((fr_upd (t := 29) (v := .int .i64 t1520.1) rfl).trans ((fr_upd (t := 30) (v := .int .i64 z2074) rfl).trans ((fr_upd (t := 33) (v := .int .i64 t2086.1) rfl).trans ((fr_upd (t := 34) (v := .int .i64 (0:Int)) rfl).trans rfl)))))))), (HL.le.refl _), hst⟩ ?_
    rintro n2205 _ w2200 ⟨I2197, z2192, z2193, z2194, v2195, σ2198, hm, rfl, hL2201, hst⟩
    obtain ⟨n2202, y2203, rfl, hm, hx2204⟩ := loopN_some hm
    dsimp only [command_ReadReply_l4] at hm
    replace hI0 := hI0.trans hL2201
    replace hL2079 := hL2079.trans hL2201
    replace hL2247 := hL2247.trans hL2201
    refine wp_seq (wp_region_lit ?_)
    refine wv (.bool (decide (z2193 < t2086.1))) rfl rfl rfl ?_
    refine wl_nil (then_n (wp_seq ?_))
    refine bsplit (decide (z2193 < t2086.1)) (fun hc2206 => ?_) (fun hc2206 => ?_)
    ·skip
     replace hm := bif_t hc2206 hm
     refine wp_ift (congrArg Value.bool hc2206) ?_
     refine wp_skip (then_n (wp_seq (wp_block (wp_region_lit ?_))))
     refine wv (v2195) rfl rfl rfl ?_
     refine wv (p0) rfl rfl rfl ?_
     replace hst := hst.pull1
     obtain ⟨t2207, ht2208, hm⟩ := bind_some hm
     refine wl_call rfl rfl (x_call Try.call40 rfl (vs := [p0, .int .i64 (8:Int)]) rfl) ?_
     refine (octet_Reader_Num_ref hst.to1 ht2208).mono ?_
     rintro _ w2209 ⟨rfl, hst⟩
     refine ⟨_, rfl, ?_⟩
     replace hst := hst.of1
     obtain ⟨t2212, ht2213, hm⟩ := bind_some hm
     refine wl_call rfl rfl (x_call Try.call44 rfl (vs := [.int .u64 t2207.1]) rfl) ?_
     refine (number_Back_ref hst.to0 ht2213).mono ?_
     rintro _ w2214 ⟨rfl, hst⟩
     refine ⟨_, rfl, ?_⟩
     replace hst := hst.of0
     refine wv (p0) rfl rfl rfl ?_
     obtain ⟨t2217, ht2218, hm⟩ := bind_some hm
     refine wl_call rfl rfl (x_call Try.call43 rfl (vs := [p0, .int .i64 (256:Int)]) rfl) ?_
     refine (octet_Reader_Bytes_ref hst.to1 ht2218).mono ?_
     rintro _ w2219 ⟨v2222, rfl, hst⟩
     refine ⟨_, rfl, ?_⟩
     replace hst := hst.of2
     refine wv (.agg #[.float .f64 t2212, v2222]) rfl rfl (by obtain ⟨_, _, hv_, _⟩ := hst.sv0; rw [hv_]; kernel_rfl) ?_
     obtain ⟨I2226, hI2227, f2228, hst⟩ := hst.own_fix
     replace hI0 := hI0.trans hI2227
     replace hL2079 := hL2079.trans hI2227
     replace hL2247 := hL2247.trans hI2227
     replace hL2201 := hL2201.trans hI2227
     obtain ⟨b2229, w2230, ew2231, eb2232, hst⟩ := hst.lits (E := ty_api_Pair) (xs := [({ At := t2212, Val := t2217.1 } : api_Pair)]) [[.float .f64 t2212, v2222]] 54 1 rfl (Reps.cons ⟨_, rfl, f2228, one_of_sliceV (ro_sliceV f2228)⟩ Reps.nil)
     refine wl_run (v := (.slice (some ⟨b2229, 0, none⟩) 1 1)) (w' := w2230) rfl rfl (x_als (by kernel_rfl) ew2231 eb2232) ?_
     obtain ⟨hg2234, hm⟩ := gd_some hm
     replace hst := hst.pull2
     obtain ⟨v2235, w2236, hr2237, hst⟩ := run_append elem_52 Try.underlying52 hst hst.src1 (room_of hg2234 rfl) 52
     refine wl_run (v := v2235) (w' := w2236) rfl rfl (x_append rfl rfl hr2237) ?_
     refine wv (v2235) rfl rfl rfl ?_
     refine wl_nil (blk_n (then_n (wp_region_lit ?_)))
     refine wv (.int .i64 (IntKind.i64.wrap (z2193 + (1:Int)))) rfl rfl rfl ?_
     refine wv (.int .i64 (IntKind.i64.wrap (z2193 + (1:Int)))) rfl rfl rfl ?_
     refine wl_nil (then_n ?_)
     replace hst := hst.pull6
     replace hst := hst.pull6
     replace hst := hst.pull6
     replace hst := hst.pull6
     replace hst := hst.pull6
     replace hst := hst.pull5
     replace hst := hst.keep6
     obtain rfl := some_inj hm
     exact ⟨_, Nat.lt_succ_self _, _, t2217.2, (IntKind.i64.wrap (z2193 + (1:Int))), (z2194 ++ ([({ At := t2212, Val := t2217.1 } : api_Pair)])), v2235, _, hx2204, ((fr_upd (t := 0) (v := p0) rfl).trans ((fr_upd (t := 2) (v := .pointer (some ⟨b1338, 0, none⟩)) rfl).trans ((fr_upd (t := 3) (v := .pointer (some ⟨b1362, 0, none⟩)) rfl).trans ((fr_upd (t := 4) (v := v2235) rfl).trans ((fr_upd (t := 29) (v := .int .i64 t1520.1) rfl).trans ((fr_upd (t := 30) (v := .int .i64 z2074) rfl).trans ((fr_upd (t := 33) (v := .int .i64 t2086.1) rfl).trans ((fr_upd (t := 34) (v := .int .i64 (IntKind.i64.wrap (z2193 + (1:Int)))) rfl).trans rfl)))))))), hL2201, hst⟩
    ·skip
     replace hm := bif_f hc2206 hm
     refine wp_iff (congrArg Value.bool hc2206) ?_
     refine wp_exit (then_x (then_x ?_))
     replace hm := inr_up hm hx2204
     refine blk_x (then_n ?_)
     replace hst := hst.pull2
     replace hst := hst.pull5
     replace hst := hst.pull5
     replace hst := hst.pull5
     replace hst := hst.pull5
     replace hst := hst.keep6
     obtain rfl := some_inj hm
     exact ⟨_, z2192, z2194, v2195, _, hx2246, ((fr_upd (t := 0) (v := p0) rfl).trans ((fr_upd (t := 2) (v := .pointer (some ⟨b1338, 0, none⟩)) rfl).trans ((fr_upd (t := 3) (v := .pointer (some ⟨b1362, 0, none⟩)) rfl).trans ((fr_upd (t := 4) (v := v2195) rfl).trans ((fr_upd (t := 29) (v := .int .i64 t1520.1) rfl).trans ((fr_upd (t := 30) (v := .int .i64 z2074) rfl).trans rfl)))))), hL2247, hst⟩
   ·skip
    clear hst
    rintro _ w2248 ⟨I2242, z2238, z2241, v2240, σ2243, hm, rfl, hL2244, hst⟩
    dsimp only [command_ReadReply_j3] at hm
    replace hI0 := hI0.trans hL2244
    replace hL2079 := hL2079.trans hL2244
    refine wp_region_lit ?_
    refine wv (.pointer (some ⟨b1362, 4, none⟩)) rfl rfl (x_field rfl Try.underlying39 rfl Try.sizeOf37 rfl) ?_
    refine wv (v2071) rfl rfl (x_load rfl Try.isAgg37 (hst.bc2 rfl)) ?_
    refine wv (v2240) rfl rfl rfl ?_
    replace hst := hst.pull5
    obtain ⟨I2250, hI2251, f2252, hst⟩ := hst.own_fix
    replace hI0 := hI0.trans hI2251
    replace hL2079 := hL2079.trans hI2251
    obtain ⟨b2253, w2254, ew2255, eb2256, hst⟩ := hst.lits (E := (tySl ty_api_Pair)) (xs := [z2241]) [[v2240]] 52 1 rfl (Reps.cons ⟨_, rfl, f2252, one_of_sliceV (ro_sliceV f2252)⟩ Reps.nil)
    refine wl_run (v := (.slice (some ⟨b2253, 0, none⟩) 1 1)) (w' := w2254) rfl rfl (x_als (by obtain ⟨_, _, hv_, _⟩ := (ro_sliceV f2252); rw [hv_]; kernel_rfl) ew2255 eb2256) ?_
    obtain ⟨hg2258, hm⟩ := gd_some hm
    replace hst := hst.pull5
    obtain ⟨v2259, w2260, hr2261, hst⟩ := run_append elem_37 Try.underlying37 hst hst.src1 (room_of hg2258 rfl) 37
    refine wl_run (v := v2259) (w' := w2260) rfl rfl (x_append rfl rfl hr2261) ?_
    refine wv (.pointer (some ⟨b1362, 4, none⟩)) rfl rfl (x_field rfl Try.underlying39 rfl Try.sizeOf37 rfl) ?_
    replace hst := hst.pull4
    obtain ⟨w2262, hr2263, hst⟩ := hst.boxStore1 (P := Try.prog) (t := 37) (cs' := [.int .i64 (IntKind.i64.wrap t1343.1), .int .u64 t1348.1, .int .u64 t1353.1, v1511, v2259]) 4 v2259 (one_of_sliceV hst.sv1) Try.sizeOf37 rfl rfl
    refine wl_unit rfl rfl (x_unit hr2263) ?_
    refine wl_nil (blk_n (then_n (wp_region_lit ?_)))
    refine wv (.int .i64 (IntKind.i64.wrap (z2074 + (1:Int)))) rfl rfl rfl ?_
    refine wv (.int .i64 (IntKind.i64.wrap (z2074 + (1:Int)))) rfl rfl rfl ?_
    refine wl_nil (then_n ?_)
    replace hst := hst.pull5
    replace hst := hst.pull1
    replace hst := hst.pull5
    replace hst := hst.pull5
    replace hst := hst.pull4
    replace hst := hst.keep5
    obtain rfl := some_inj hm
    exact ⟨_, Nat.lt_succ_self _, _, (z2070 ++ ([z2241])), z2238, (IntKind.i64.wrap (z2074 + (1:Int))), v2259, _, hx2082, ((fr_upd (t := 0) (v := p0) rfl).trans ((fr_upd (t := 2) (v := .pointer (some ⟨b1338, 0, none⟩)) rfl).trans ((fr_upd (t := 3) (v := .pointer (some ⟨b1362, 0, none⟩)) rfl).trans ((fr_upd (t := 29) (v := .int .i64 t1520.1) rfl).trans ((fr_upd (t := 30) (v := .int .i64 (IntKind.i64.wrap (z2074 + (1:Int)))) rfl).trans rfl))))), hL2079, hst⟩
  ·skip
   replace hm := bif_f hc2084 hm
   refine wp_iff (congrArg Value.bool hc2084) ?_
   refine wp_exit (then_x (then_x ?_))
   replace hm := inr_up hm hx2082
   refine blk_x (then_n (wp_seq (wp_region_lit ?_)))
   refine wv (.agg #[.int .i64 (IntKind.i64.wrap t1343.1), .int .u64 t1348.1, .int .u64 t1353.1, v1511, v2071]) rfl rfl (x_loadN (cs := [.int .i64 (IntKind.i64.wrap t1343.1), .int .u64 t1348.1, .int .u64 t1353.1, v1511, v2071]) rfl Try.isAgg39 Try.sizeOf39 (hst.bcs3 0 rfl)) ?_
   replace hst := hst.pull2
   obtain ⟨w2264, hr2265, hst⟩ := hst.boxStore (P := Try.prog) (t := 39) (cs' := [.int .i64 (IntKind.i64.wrap t1343.1), .int .u64 t1348.1, .int .u64 t1353.1, v1511, v2071]) 0 (.agg #[.int .i64 (IntKind.i64.wrap t1343.1), .int .u64 t1348.1, .int .u64 t1353.1, v1511, v2071]) Try.sizeOf39 (Nat.le_of_ble_eq_true rfl) (ones_cons rfl (ones_cons rfl (ones_cons rfl (ones_cons (one_of_sliceV hst.sv4) (ones_cons (one_of_sliceV hst.sv1) ones_nil))))) (by kernel_rfl)
   refine wl_unit rfl rfl (x_unit hr2265) ?_
   refine wl_nil (then_n (wp_ret ?_))
   obtain rfl := some_inj hm
   refine post_ret (vs := [.agg #[.int .i64 (IntKind.i64.wrap t1343.1), .int .u64 t1348.1, .int .u64 t1353.1, v1511, v2071]]) Try.results16 (rvs_cons (rv_cell (cs := [.int .i64 (IntKind.i64.wrap t1343.1), .int .u64 t1348.1, .int .u64 t1353.1, v1511, v2071]) rfl Try.isAgg39 Try.sizeOf39 (hst.bcs0 0 rfl)) rvs_nil) ?_
   replace hst := hst.pull2
   replace hst := hst.pull2
   replace hst := hst.pull4
   exact ⟨_, v1511, v2071, rfl, hI0, hst.keep3⟩

theorem command_readRule_ref {w0 w : World} {I : HL} {R : SP} {a0 : octet_Reader} {p0 : Value}  (hst : St w0 w I [at_octet_Reader p0 a0] R) {r : (api_Rule × octet_Reader)} (hm : command_readRule a0 = some r) :
  Calls Try.prog 55 #[p0] w fun e w' => e = .returned (.agg #[.int .u64 r.1.ID, .int .i64 r.1.From, .int .i64 r.1.To, .float .f64 r.1.Lo, .float .f64 r.1.Hi, .int .u64 r.1.Authority, .int .i64 r.1.Quota]) ∧ St w0 w' I [at_octet_Reader p0 r.2] R := by
 unfold command_readRule at hm
 refine calls_start (args := [p0]) Try.func55 rfl Try.ntmps55 (Nat.le_of_ble_eq_true rfl) ?_
 refine wp_seq (wp_region_lit ?_)
 obtain ⟨b490, w491, ew492, eb493, hst⟩ := hst.box [.int .u64 (0:Int), .int .i64 (0:Int), .int .i64 (0:Int), .float .f64 (0:Nat), .float .f64 (0:Nat), .int .u64 (0:Int), .int .i64 (0:Int)] 43
 refine wl_run (v := .pointer (some ⟨b490, 0, none⟩)) (w' := w491) rfl rfl (x_al (by kernel_rfl) ew492 eb493) ?_
 refine wl_nil (then_n (wp_seq (wp_region_lit ?_)))
 refine wv (p0) rfl rfl rfl ?_
 replace hst := hst.pull1
 obtain ⟨t495, ht496, hm⟩ := bind_some hm
 refine wl_call rfl rfl (x_call Try.call40 rfl (vs := [p0, .int .i64 (8:Int)]) rfl) ?_
 refine (octet_Reader_Num_ref hst.to1 ht496).mono ?_
 rintro _ w497 ⟨rfl, hst⟩
 refine ⟨_, rfl, ?_⟩
 replace hst := hst.of1
 refine wv (p0) rfl rfl rfl ?_
 obtain ⟨t500, ht501, hm⟩ := bind_some hm
 refine wl_call rfl rfl (x_call Try.call40 rfl (vs := [p0, .int .i64 (1:Int)]) rfl) ?_
 refine (octet_Reader_Num_ref hst.to1 ht501).mono ?_
 rintro _ w502 ⟨rfl, hst⟩
 refine ⟨_, rfl, ?_⟩
 replace hst := hst.of1
 refine wv (.int .i64 (IntKind.i64.wrap t500.1)) rfl rfl (by kernel_rfl) ?_
 refine wv (p0) rfl rfl rfl ?_
 obtain ⟨t505, ht506, hm⟩ := bind_some hm
 refine wl_call rfl rfl (x_call Try.call40 rfl (vs := [p0, .int .i64 (1:Int)]) rfl) ?_
 refine (octet_Reader_Num_ref hst.to1 ht506).mono ?_
 rintro _ w507 ⟨rfl, hst⟩
 refine ⟨_, rfl, ?_⟩
 replace hst := hst.of1
 refine wv (.int .i64 (IntKind.i64.wrap t505.1)) rfl rfl (by kernel_rfl) ?_
 refine wv (p0) rfl rfl rfl ?_
 obtain ⟨t510, ht511, hm⟩ := bind_some hm
 refine wl_call rfl rfl (x_call Try.call40 rfl (vs := [p0, .int .i64 (8:Int)]) rfl) ?_
 refine (octet_Reader_Num_ref hst.to1 ht511).mono ?_
 rintro _ w512 ⟨rfl, hst⟩
 refine ⟨_, rfl, ?_⟩
 replace hst := hst.of1
 obtain ⟨t515, ht516, hm⟩ := bind_some hm
 refine wl_call rfl rfl (x_call Try.call44 rfl (vs := [.int .u64 t510.1]) rfl) ?_
 refine (number_Back_ref hst.to0 ht516).mono ?_
 rintro _ w517 ⟨rfl, hst⟩
 refine ⟨_, rfl, ?_⟩
 replace hst := hst.of0
 refine wv (p0) rfl rfl rfl ?_
 obtain ⟨t520, ht521, hm⟩ := bind_some hm
 refine wl_call rfl rfl (x_call Try.call40 rfl (vs := [p0, .int .i64 (8:Int)]) rfl) ?_
 refine (octet_Reader_Num_ref hst.to1 ht521).mono ?_
 rintro _ w522 ⟨rfl, hst⟩
 refine ⟨_, rfl, ?_⟩
 replace hst := hst.of1
 obtain ⟨t525, ht526, hm⟩ := bind_some hm
 refine wl_call rfl rfl (x_call Try.call44 rfl (vs := [.int .u64 t520.1]) rfl) ?_
 refine (number_Back_ref hst.to0 ht526).mono ?_
 rintro _ w527 ⟨rfl, hst⟩
 refine ⟨_, rfl, ?_⟩
 replace hst := hst.of0
 refine wv (p0) rfl rfl rfl ?_
 obtain ⟨t530, ht531, hm⟩ := bind_some hm
 refine wl_call rfl rfl (x_call Try.call40 rfl (vs := [p0, .int .i64 (8:Int)]) rfl) ?_
 refine (octet_Reader_Num_ref hst.to1 ht531).mono ?_
 rintro _ w532 ⟨rfl, hst⟩
 refine ⟨_, rfl, ?_⟩
 replace hst := hst.of1
 refine wv (p0) rfl rfl rfl ?_
 obtain ⟨t535, ht536, hm⟩ := bind_some hm
 refine wl_call rfl rfl (x_call Try.call40 rfl (vs := [p0, .int .i64 (4:Int)]) rfl) ?_
 refine (octet_Reader_Num_ref hst.to1 ht536).mono ?_
 rintro _ w537 ⟨rfl, hst⟩
 refine ⟨_, rfl, ?_⟩
 replace hst := hst.of1
 refine wv (.int .i64 (IntKind.i64.wrap t535.1)) rfl rfl (by kernel_rfl) ?_
 refine wv (.agg #[.int .u64 t495.1, .int .i64 (IntKind.i64.wrap t500.1), .int .i64 (IntKind.i64.wrap t505.1), .float .f64 t515, .float .f64 t525, .int .u64 t530.1, .int .i64 (IntKind.i64.wrap t535.1)]) rfl rfl (by kernel_rfl) ?_
 replace hst := hst.pull1
 obtain ⟨w540, hr541, hst⟩ := hst.boxStore (P := Try.prog) (t := 43) (cs' := [.int .u64 t495.1, .int .i64 (IntKind.i64.wrap t500.1), .int .i64 (IntKind.i64.wrap t505.1), .float .f64 t515, .float .f64 t525, .int .u64 t530.1, .int .i64 (IntKind.i64.wrap t535.1)]) 0 (.agg #[.int .u64 t495.1, .int .i64 (IntKind.i64.wrap t500.1), .int .i64 (IntKind.i64.wrap t505.1), .float .f64 t515, .float .f64 t525, .int .u64 t530.1, .int .i64 (IntKind.i64.wrap t535.1)]) Try.sizeOf43 (Nat.le_of_ble_eq_true rfl) (ones_cons rfl (ones_cons rfl (ones_cons rfl (ones_cons rfl (ones_cons rfl (ones_cons rfl (ones_cons rfl ones_nil))))))) (by kernel_rfl)
 refine wl_unit rfl rfl (x_unit hr541) ?_
 refine wl_nil (then_n (wp_ret ?_))
 obtain rfl := some_inj hm
 refine post_ret (vs := [.agg #[.int .u64 t495.1, .int .i64 (IntKind.i64.wrap t500.1), .int .i64 (IntKind.i64.wrap t505.1), .float .f64 t515, .float .f64 t525, .int .u64 t530.1, .int .i64 (IntKind.i64.wrap t535.1)]]) Try.results55 (rvs_cons (rv_cell (cs := [.int .u64 t495.1, .int .i64 (IntKind.i64.wrap t500.1), .int .i64 (IntKind.i64.wrap t505.1), .float .f64 t515, .float .f64 t525, .int .u64 t530.1, .int .i64 (IntKind.i64.wrap t535.1)]) rfl Try.isAgg43 Try.sizeOf43 (hst.bcs0 0 rfl)) rvs_nil) ?_
 replace hst := hst.pull1
 exact ⟨rfl, hst.keep1⟩

theorem octet_Reader_Bad_ref {w0 w : World} {I : HL} {R : SP} {a0 : octet_Reader} {p0 : Value}  (hst : St w0 w I [at_octet_Reader p0 a0] R) {r : (Bool)} (hm : octet_Reader_Bad a0 = some r) :
  Calls Try.prog 49 #[p0] w fun e w' => e = .returned (.bool r) ∧ St w0 w' I [at_octet_Reader p0 a0] R := by
 unfold octet_Reader_Bad at hm
 refine calls_start (args := [p0]) Try.func49 rfl Try.ntmps49 (Nat.le_of_ble_eq_true rfl) ?_
 refine wp_seq (wp_region_lit ?_)
 refine wv (.bool false) rfl rfl rfl ?_
 refine wl_nil (then_n (wp_seq (wp_region_lit ?_)))
 refine wv (p0) rfl rfl rfl ?_
 obtain ⟨b573, v574, ⟨rfl, f576⟩, hst'⟩ := at_octet_Reader_open hst
 clear hst
 have hst := hst'
 clear hst'
 refine wv (.bool false) rfl rfl (by kernel_rfl) ?_
 refine wv (.bool false) rfl rfl rfl ?_
 refine wv (.pointer (some ⟨b573, 0, none⟩)) ((wanted_eq rfl rfl rfl rfl).trans rfl) rfl rfl ?_
 refine wv (.pointer (some ⟨b573, 0, none⟩)) ((wanted_eq rfl rfl rfl rfl).trans rfl) rfl rfl ?_
 refine wv (.pointer (some ⟨b573, 1, none⟩)) ((wanted_eq rfl rfl rfl rfl).trans rfl) rfl (x_field rfl Try.underlying95 rfl Try.sizeOf4 rfl) ?_
 refine wv (.bool a0.bad) ((wanted_eq rfl rfl rfl rfl).trans rfl) rfl (x_load rfl Try.isAgg4 (hst.bc0 rfl)) ?_
 refine wv (.bool a0.bad) rfl rfl (x_pick_f rfl rfl rfl) ?_
 refine wv (.bool a0.bad) rfl rfl rfl ?_
 refine wl_nil (then_n (wp_ret ?_))
 replace hst := at_octet_Reader_close (pv := .pointer (some ⟨b573, 0, none⟩)) (x := a0) hst ⟨rfl, f576⟩
 obtain rfl := some_inj hm
 refine post_ret (vs := [.bool a0.bad]) Try.results49 (rvs_cons (rv_tmp rfl) rvs_nil) ?_
 exact ⟨rfl, hst.keep1⟩

theorem octet_Reader_End_ref {w0 w : World} {I : HL} {R : SP} {a0 : octet_Reader} {p0 : Value}  (hst : St w0 w I [at_octet_Reader p0 a0] R) {r : (Bool)} (hm : octet_Reader_End a0 = some r) :
  Calls Try.prog 18 #[p0] w fun e w' => e = .returned (.bool r) ∧ St w0 w' I [at_octet_Reader p0 a0] R := by
 unfold octet_Reader_End at hm
 refine calls_start (args := [p0]) Try.func18 rfl Try.ntmps18 (Nat.le_of_ble_eq_true rfl) ?_
 refine wp_seq (wp_region_lit ?_)
 refine wv (.bool false) rfl rfl rfl ?_
 refine wl_nil (then_n (wp_seq (wp_region_lit ?_)))
 refine wv (p0) rfl rfl rfl ?_
 obtain ⟨t578, ht579, hm⟩ := bind_some hm
 refine wl_call rfl rfl (x_call Try.call49 rfl (vs := [p0]) rfl) ?_
 refine (octet_Reader_Bad_ref hst.to1 ht579).mono ?_
 rintro _ w580 ⟨rfl, hst⟩
 refine ⟨_, rfl, ?_⟩
 replace hst := hst.of1
 refine wv (.bool (!t578)) rfl rfl rfl ?_
 refine wv (.bool (!t578)) rfl rfl rfl ?_
 refine bsplit (!t578) (fun hc583 => ?_) (fun hc583 => ?_)
 ·skip
  replace hm := bif_t hc583 hm
  refine wv (p0) ((wanted_eq rfl rfl rfl (congrArg Value.bool hc583)).trans rfl) rfl rfl ?_
  obtain ⟨b584, v585, ⟨rfl, f587⟩, hst'⟩ := at_octet_Reader_open hst
  clear hst
  have hst := hst'
  clear hst'
  refine wv (.pointer (some ⟨b584, 0, none⟩)) ((wanted_eq rfl rfl rfl (congrArg Value.bool hc583)).trans rfl) rfl rfl ?_
  refine wv (.pointer (some ⟨b584, 0, none⟩)) ((wanted_eq rfl rfl rfl (congrArg Value.bool hc583)).trans rfl) rfl (x_field rfl Try.underlying95 rfl Try.sizeOf22 rfl) ?_
  refine wv (v585) ((wanted_eq rfl rfl rfl (congrArg Value.bool hc583)).trans rfl) rfl (x_load rfl Try.isAgg22 (hst.bc0 rfl)) ?_
  refine wv (.int .i64 ((a0.p).length : Int)) ((wanted_eq rfl rfl rfl (congrArg Value.bool hc583)).trans rfl) rfl (x_len rfl Try.underlying22 (ro_sliceV f587)) ?_
  refine wv (.bool (((a0.p).length : Int) == (0:Int))) ((wanted_eq rfl rfl rfl (congrArg Value.bool hc583)).trans rfl) rfl rfl ?_
  refine wv (.bool (((a0.p).length : Int) == (0:Int))) rfl rfl (x_pick_t hc583 rfl rfl) ?_
  refine wv (.bool (((a0.p).length : Int) == (0:Int))) rfl rfl rfl ?_
  refine wl_nil (then_n (wp_ret ?_))
  replace hst := at_octet_Reader_close (pv := .pointer (some ⟨b584, 0, none⟩)) (x := a0) hst ⟨rfl, f587⟩
  obtain rfl := some_inj hm
  refine post_ret (vs := [.bool (((a0.p).length : Int) == (0:Int))]) Try.results18 (rvs_cons (rv_tmp rfl) rvs_nil) ?_
  exact ⟨rfl, hst.keep1⟩
 ·skip
  replace hm := bif_f hc583 hm
  refine wo hc583 rfl rfl rfl rfl rfl rfl ?_
  refine wo hc583 rfl rfl rfl rfl rfl rfl ?_
  refine wo hc583 rfl rfl rfl rfl rfl rfl ?_
  refine wo hc583 rfl rfl rfl rfl rfl rfl ?_
  refine wo hc583 rfl rfl rfl rfl rfl rfl ?_
  refine wo hc583 rfl rfl rfl rfl rfl rfl ?_
  refine wv (.bool false) rfl rfl (x_pick_f hc583 rfl rfl) ?_
  refine wv (.bool false) rfl rfl rfl ?_
  refine wl_nil (then_n (wp_ret ?_))
  obtain rfl := some_inj hm
  refine post_ret (vs := [.bool false]) Try.results18 (rvs_cons (rv_tmp rfl) rvs_nil) ?_
  exact ⟨rfl, hst.keep1⟩

theorem slices_Equal_byte_byte_ref {w0 w : World} {I : HL} {R : SP} {a0 : (List Int)} {r0_0 : Value} {a1 : (List Int)} {r1_0 : Value} (f0_0 : Rd (tyInt .u8) R I r0_0 a0) (f1_0 : Rd (tyInt .u8) R I r1_0 a1) (hst : St w0 w I [] R) {r : (Bool)} (hm : slices_Equal_byte_byte a0 a1 = some r) :
  Calls Try.prog 56 #[r0_0, r1_0] w fun e w' => e = .returned (.bool r) ∧ St w0 w' I [] R := by
 unfold slices_Equal_byte_byte at hm
 refine calls_start (args := [r0_0, r1_0]) Try.func56 rfl Try.ntmps56 (Nat.le_of_ble_eq_true rfl) ?_
 refine wp_seq (wp_region_lit ?_)
 refine wv (.bool false) rfl rfl rfl ?_
 refine wl_nil (then_n (wp_seq (wp_seq (wp_region_lit ?_))))
 refine wv (r0_0) rfl rfl rfl ?_
 refine wv (.int .i64 ((a0).length : Int)) rfl rfl (x_len rfl Try.underlying22 (rd_sliceV f0_0)) ?_
 refine wv (r1_0) rfl rfl rfl ?_
 refine wv (.int .i64 ((a1).length : Int)) rfl rfl (x_len rfl Try.underlying22 (rd_sliceV f1_0)) ?_
 refine wv (.bool (((a0).length : Int) != ((a1).length : Int))) rfl rfl rfl ?_
 refine wl_nil (then_n ?_)
 refine bsplit (((a0).length : Int) != ((a1).length : Int)) (fun hc656 => ?_) (fun hc656 => ?_)
 ·skip
  replace hm := bif_t hc656 hm
  refine wp_ift (congrArg Value.bool hc656) ?_
  refine wp_seq (wp_region_lit ?_)
  refine wv (.bool false) rfl rfl rfl ?_
  refine wl_nil (then_n (wp_ret (then_r ?_)))
  obtain rfl := some_inj hm
  refine post_ret (vs := [.bool false]) Try.results56 (rvs_cons (rv_tmp rfl) rvs_nil) ?_
  exact ⟨rfl, hst.keep0⟩
 ·skip
  replace hm := bif_f hc656 hm
  refine wp_iff (congrArg Value.bool hc656) ?_
  refine wp_skip (then_n (wp_seq (wp_seq (wp_region_lit ?_))))
  refine wv (r0_0) rfl rfl rfl ?_
  refine wv (.int .i64 ((a0).length : Int)) rfl rfl (x_len rfl Try.underlying22 (rd_sliceV f0_0)) ?_
  refine wv (.int .i64 (0:Int)) rfl rfl rfl ?_
  refine wl_nil (then_n (wp_block ?_))
  obtain ⟨n684, hm⟩ := loopO_some hm
  refine wp_loop_n (fun n a w => ∃ (z682 : Int) (σ683 : Nat → Value), loopN (slices_Equal_byte_byte_l0 a0 a1) n z682 = some r ∧ a = Fr 26 (upd (upd (upd (upd σ683 0 (r0_0)) 1 (r1_0)) 12 (.int .i64 ((a0).length : Int))) 13 (.int .i64 z682)) ∧ St w0 w I [] R) n684 ⟨(0:Int), _, hm, ((fr_upd (t := 0) (v := r0_0) rfl).trans ((fr_upd (t := 1) (v := r1_0) rfl).trans ((fr_upd (t := 12) (v := .int .i64 ((a0).length : Int)) rfl).trans ((fr_upd (t := 13) (v := .int .i64 (0:Int)) rfl).trans rfl)))), hst⟩ ?_
  rintro n690 _ w685 ⟨z682, σ683, hm, rfl, hst⟩
  obtain ⟨n687, y688, rfl, hm, hx689⟩ := loopN_some hm
  dsimp only [slices_Equal_byte_byte_l0] at hm
  refine wp_seq (wp_region_lit ?_)
  refine wv (.bool (decide (z682 < ((a0).length : Int)))) rfl rfl rfl ?_
  refine wl_nil (then_n (wp_seq ?_))
  refine bsplit (decide (z682 < ((a0).length : Int))) (fun hc691 => ?_) (fun hc691 => ?_)
  ·skip
   replace hm := bif_t hc691 hm
   refine wp_ift (congrArg Value.bool hc691) ?_
   refine wp_skip (then_n (wp_seq (wp_block (wp_seq (wp_region_lit ?_)))))
   refine wv (.int .i64 z682) rfl rfl rfl ?_
   refine wv (.int .i64 z682) rfl rfl rfl ?_
   refine wl_nil (then_n (wp_seq ?_))
   refine wq_regionS hst Try.mixed (by kernel_rfl) ?_
   refine wq_run (v := r0_0) rfl rfl (fun w hst => rfl) ?_
   refine wq_run (v := .int .i64 z682) rfl rfl (fun w hst => rfl) ?_
   obtain ⟨x692, hx693, hm⟩ := bind_some hm
   obtain ⟨h694, h695, hi696⟩ := geto_some hx693
   refine wq_run (v := .pointer (some (eAddr r0_0 (z682.toNat * 1 + 0)))) rfl rfl (fun w hst => x_index rfl rfl Try.underlying22 Try.sizeOf5 (rd_sliceV f0_0) h694 h695) ?_
   refine wq_run (v := .int .u8 x692) rfl rfl (fun w hst => x_load rfl Try.isAgg5 (rd_load f0_0 (HL.le.refl _) hst hi696 (by rintro _ rfl; rfl))) ?_
   refine wq_run (v := r1_0) rfl rfl (fun w hst => rfl) ?_
   refine wq_run (v := .int .i64 z682) rfl rfl (fun w hst => rfl) ?_
   obtain ⟨x697, hx698, hm⟩ := bind_some hm
   obtain ⟨h699, h700, hi701⟩ := geto_some hx698
   refine wq_run (v := .pointer (some (eAddr r1_0 (z682.toNat * 1 + 0)))) rfl rfl (fun w hst => x_index rfl rfl Try.underlying22 Try.sizeOf5 (rd_sliceV f1_0) h699 h700) ?_
   refine wq_run (v := .int .u8 x697) rfl rfl (fun w hst => x_load rfl Try.isAgg5 (rd_load f1_0 (HL.le.refl _) hst hi701 (by rintro _ rfl; rfl))) ?_
   refine wq_run (v := .bool (x692 != x697)) rfl rfl (fun w hst => rfl) ?_
   refine wq_nil ?_
   intro w hst
   refine then_n ?_
   refine bsplit (x692 != x697) (fun hc702 => ?_) (fun hc702 => ?_)
   ·skip
    replace hm := bif_t hc702 hm
    refine wp_ift (congrArg Value.bool hc702) ?_
    refine wp_seq (wp_region_lit ?_)
    refine wv (.bool false) rfl rfl rfl ?_
    refine wl_nil (then_n (wp_ret (blk_r (then_r (then_r ?_)))))
    replace hm := inr_up hm hx689
    refine blk_r (then_r ?_)
    obtain rfl := some_inj hm
    refine post_ret (vs := [.bool false]) Try.results56 (rvs_cons (rv_tmp rfl) rvs_nil) ?_
    exact ⟨rfl, hst.keep0⟩
   ·skip
    replace hm := bif_f hc702 hm
    refine wp_iff (congrArg Value.bool hc702) ?_
    refine wp_skip (blk_n (then_n (wp_region_lit ?_)))
    refine wv (.int .i64 (IntKind.i64.wrap (z682 + (1:Int)))) rfl rfl rfl ?_
    refine wv (.int .i64 (IntKind.i64.wrap (z682 + (1:Int)))) rfl rfl rfl ?_
    refine wl_nil (then_n ?_)
    replace hst := hst.keep0
    obtain rfl := some_inj hm
    exact ⟨_, Nat.lt_succ_self _, (IntKind.i64.wrap (z682 + (1:Int))), _, hx689, ((fr_upd (t := 0) (v := r0_0) rfl).trans ((fr_upd (t := 1) (v := r1_0) rfl).trans ((fr_upd (t := 12) (v := .int .i64 ((a0).length : Int)) rfl).trans ((fr_upd (t := 13) (v := .int .i64 (IntKind.i64.wrap (z682 + (1:Int)))) rfl).trans rfl)))), hst⟩
  ·skip
   replace hm := bif_f hc691 hm
   refine wp_iff (congrArg Value.bool hc691) ?_
   refine wp_exit (then_x (then_x ?_))
   replace hm := inr_up hm hx689
   refine blk_x (then_n (wp_seq (wp_region_lit ?_)))
   refine wv (.bool true) rfl rfl rfl ?_
   refine wl_nil (then_n (wp_ret ?_))
   obtain rfl := some_inj hm
   refine post_ret (vs := [.bool true]) Try.results56 (rvs_cons (rv_tmp rfl) rvs_nil) ?_
   exact ⟨rfl, hst.keep0⟩

theorem command_Decode_ref {w0 w : World} {I : HL} {R : SP} {a0 : (List Int)} {r0_0 : Value} (f0_0 : Ro (tyInt .u8) I r0_0 a0) (hst : St w0 w I [] R) {r : (api_Command × Int)} (hm : command_Decode a0 = some r) :
  Calls Try.prog 20 #[r0_0] w fun e w' => ∃ (I' : HL) (q0_0 : Value) (q0_1 : Value) (q0_2 : Value) (q0_3 : Value) (q0_4 : Value) (q0_5 : Value) (q0_6 : Value) (q0_7 : Value), e = .returned (.tuple #[.agg #[.int .u8 r.1.Kind, .int .u64 r.1.ID.Session, .int .u64 r.1.ID.Seq, .int .u64 r.1.Epoch, .int .u64 r.1.Index, .int .i64 r.1.E, .int .u64 r.1.Hold.ID.Session, .int .u64 r.1.Hold.ID.Seq, .int .u64 r.1.Hold.Epoch, q0_0, q0_1, q0_2, q0_3, q0_4, .int .i64 r.1.R.E, .int .u64 r.1.R.Epoch, .int .u64 r.1.R.Index, q0_5, q0_6, .int .u64 r.1.Shards, q0_7, .int .u64 r.1.Rule.ID, .int .i64 r.1.Rule.From, .int .i64 r.1.Rule.To, .float .f64 r.1.Rule.Lo, .float .f64 r.1.Rule.Hi, .int .u64 r.1.Rule.Authority, .int .i64 r.1.Rule.Quota, .bool r.1.On], .int .i64 r.2]) ∧ I.le I' ∧ St w0 w' I' [ownS tyF64 q0_0 r.1.Hold.Gets, ownS tyF2 q0_1 r.1.Hold.Scans, ownS tyF64 q0_2 r.1.Hold.Puts, ownS (tyInt .u8) q0_3 r.1.Hold.Data, ownS ty_api_Write q0_4 r.1.Writes, ownS ty_api_Got q0_5 r.1.R.Gots, ownS (tySl ty_api_Pair) q0_6 r.1.R.Scans, ownS ty_api_Part q0_7 r.1.Parts] R := by
 unfold command_Decode at hm
 refine calls_start (args := [r0_0]) Try.func20 rfl Try.ntmps20 (Nat.le_of_ble_eq_true rfl) ?_
 have hI0 := HL.le.refl I
 refine wp_seq (wp_region_lit ?_)
 obtain ⟨b634, w635, ew636, eb637, hst⟩ := hst.box [.int .u8 (0:Int), .int .u64 (0:Int), .int .u64 (0:Int), .int .u64 (0:Int), .int .u64 (0:Int), .int .i64 (0:Int), .int .u64 (0:Int), .int .u64 (0:Int), .int .u64 (0:Int), (.slice none 0 0), (.slice none 0 0), (.slice none 0 0), (.slice none 0 0), (.slice none 0 0), .int .i64 (0:Int), .int .u64 (0:Int), .int .u64 (0:Int), (.slice none 0 0), (.slice none 0 0), .int .u64 (0:Int), (.slice none 0 0), .int .u64 (0:Int), .int .i64 (0:Int), .int .i64 (0:Int), .float .f64 (0:Nat), .float .f64 (0:Nat), .int .u64 (0:Int), .int .i64 (0:Int), .bool false] 45
 refine wl_run (v := .pointer (some ⟨b634, 0, none⟩)) (w' := w635) rfl rfl (x_al (by kernel_rfl) ew636 eb637) ?_
 refine wv (.int .i64 (0:Int)) rfl rfl rfl ?_
 refine wl_nil (then_n (wp_seq (wp_region_lit ?_)))
 refine wv (r0_0) rfl rfl rfl ?_
 obtain ⟨t639, ht640, hm⟩ := bind_some hm
 refine wl_call rfl rfl (x_call Try.call15 rfl (vs := [r0_0]) rfl) ?_
 refine (octet_Read_ref f0_0 hst.to0 ht640).mono ?_
 rintro _ w641 ⟨v644, rfl, hst⟩
 refine ⟨_, rfl, ?_⟩
 replace hst := hst.of1
 obtain ⟨b646, w647, ew648, eb649, hst⟩ := hst.box [.pointer none] 61
 refine wl_run (v := .pointer (some ⟨b646, 0, none⟩)) (w' := w647) rfl rfl (x_al (by kernel_rfl) ew648 eb649) ?_
 replace hst := hst.pull1
 obtain ⟨b651, v652, ⟨rfl, f654⟩, hst'⟩ := at_octet_Reader_open hst
 clear hst
 have hst := hst'
 clear hst'
 replace hst := hst.pull1
 obtain ⟨w655, hr656, hst⟩ := hst.boxStore (P := Try.prog) (t := 61) (cs' := [.pointer (some ⟨b651, 0, none⟩)]) 0 (.pointer (some ⟨b651, 0, none⟩)) Try.sizeOf61 (Nat.le_of_ble_eq_true rfl) (ones_cons rfl ones_nil) (by kernel_rfl)
 refine wl_unit rfl rfl (x_unit hr656) ?_
 refine wl_nil (then_n (wp_seq (wp_region_lit ?_)))
 refine wv (.pointer (some ⟨b651, 0, none⟩)) rfl rfl (x_load rfl Try.isAgg61 (hst.bc0 rfl)) ?_
 replace hst := hst.pull1
 replace hst := at_octet_Reader_close (pv := .pointer (some ⟨b651, 0, none⟩)) (x := t639) hst ⟨rfl, f654⟩
 obtain ⟨t657, ht658, hm⟩ := bind_some hm
 refine wl_call rfl rfl (x_call Try.call40 rfl (vs := [.pointer (some ⟨b651, 0, none⟩), .int .i64 (1:Int)]) rfl) ?_
 refine (octet_Reader_Num_ref hst.to1 ht658).mono ?_
 rintro _ w659 ⟨rfl, hst⟩
 refine ⟨_, rfl, ?_⟩
 replace hst := hst.of1
 refine wv (.int .u8 (IntKind.u8.wrap t657.1)) rfl rfl (by kernel_rfl) ?_
 refine wv (.agg #[.int .u8 (IntKind.u8.wrap t657.1), .int .u64 (0:Int), .int .u64 (0:Int), .int .u64 (0:Int), .int .u64 (0:Int), .int .i64 (0:Int), .int .u64 (0:Int), .int .u64 (0:Int), .int .u64 (0:Int), (.slice none 0 0), (.slice none 0 0), (.slice none 0 0), (.slice none 0 0), (.slice none 0 0), .int .i64 (0:Int), .int .u64 (0:Int), .int .u64 (0:Int), (.slice none 0 0), (.slice none 0 0), .int .u64 (0:Int), (.slice none 0 0), .int .u64 (0:Int), .int .i64 (0:Int), .int .i64 (0:Int), .float .f64 (0:Nat), .float .f64 (0:Nat), .int .u64 (0:Int), .int .i64 (0:Int), .bool false]) rfl rfl (by kernel_rfl) ?_
 obtain ⟨b678, w679, ew680, eb681, hst⟩ := hst.box [.int .u8 (0:Int), .int .u64 (0:Int), .int .u64 (0:Int), .int .u64 (0:Int), .int .u64 (0:Int), .int .i64 (0:Int), .int .u64 (0:Int), .int .u64 (0:Int), .int .u64 (0:Int), (.slice none 0 0), (.slice none 0 0), (.slice none 0 0), (.slice none 0 0), (.slice none 0 0), .int .i64 (0:Int), .int .u64 (0:Int), .int .u64 (0:Int), (.slice none 0 0), (.slice none 0 0), .int .u64 (0:Int), (.slice none 0 0), .int .u64 (0:Int), .int .i64 (0:Int), .int .i64 (0:Int), .float .f64 (0:Nat), .float .f64 (0:Nat), .int .u64 (0:Int), .int .i64 (0:Int), .bool false] 45
 refine wl_run (v := .pointer (some ⟨b678, 0, none⟩)) (w' := w679) rfl rfl (x_al (by kernel_rfl) ew680 eb681) ?_
 obtain ⟨w683, hr684, hst⟩ := hst.boxStore (P := Try.prog) (t := 45) (cs' := [.int .u8 (IntKind.u8.wrap t657.1), .int .u64 (0:Int), .int .u64 (0:Int), .int .u64 (0:Int), .int .u64 (0:Int), .int .i64 (0:Int), .int .u64 (0:Int), .int .u64 (0:Int), .int .u64 (0:Int), (.slice none 0 0), (.slice none 0 0), (.slice none 0 0), (.slice none 0 0), (.slice none 0 0), .int .i64 (0:Int), .int .u64 (0:Int), .int .u64 (0:Int), (.slice none 0 0), (.slice none 0 0), .int .u64 (0:Int), (.slice none 0 0), .int .u64 (0:Int), .int .i64 (0:Int), .int .i64 (0:Int), .float .f64 (0:Nat), .float .f64 (0:Nat), .int .u64 (0:Int), .int .i64 (0:Int), .bool false]) 0 (.agg #[.int .u8 (IntKind.u8.wrap t657.1), .int .u64 (0:Int), .int .u64 (0:Int), .int .u64 (0:Int), .int .u64 (0:Int), .int .i64 (0:Int), .int .u64 (0:Int), .int .u64 (0:Int), .int .u64 (0:Int), (.slice none 0 0), (.slice none 0 0), (.slice none 0 0), (.slice none 0 0), (.slice none 0 0), .int .i64 (0:Int), .int .u64 (0:Int), .int .u64 (0:Int), (.slice none 0 0), (.slice none 0 0), .int .u64 (0:Int), (.slice none 0 0), .int .u64 (0:Int), .int .i64 (0:Int), .int .i64 (0:Int), .float .f64 (0:Nat), .float .f64 (0:Nat), .int .u64 (0:Int), .int .i64 (0:Int), .bool false]) Try.sizeOf45 (Nat.le_of_ble_eq_true rfl) (ones_cons rfl (ones_cons rfl (ones_cons rfl (ones_cons rfl (ones_cons rfl (ones_cons rfl (ones_cons rfl (ones_cons rfl (ones_cons rfl (ones_cons rfl (ones_cons rfl (ones_cons rfl (ones_cons rfl (ones_cons rfl (ones_cons rfl (ones_cons rfl (ones_cons rfl (ones_cons rfl (ones_cons rfl (ones_cons rfl (ones_cons rfl (ones_cons rfl (ones_cons rfl (ones_cons rfl (ones_cons rfl (ones_cons rfl (ones_cons rfl (ones_cons rfl (ones_cons rfl ones_nil))))))))))))))))))))))))))))) (by kernel_rfl)
 refine wl_unit rfl rfl (x_unit hr684) ?_
 refine wl_nil (then_n (wp_seq (wp_region_lit ?_)))
 refine wv (.func (.func 52) #[] #[.pointer (some ⟨b646, 0, none⟩), .pointer (some ⟨b678, 0, none⟩)]) rfl rfl (by kernel_rfl) ?_
 refine wv (.func (.func 52) #[] #[.pointer (some ⟨b646, 0, none⟩), .pointer (some ⟨b678, 0, none⟩)]) rfl rfl rfl ?_
 refine wl_nil (then_n ?_)
 obtain ⟨y1102, hm, hx1103⟩ := joinO_some hm
 refine wp_cut (fun a w => ∃ (I1099 : HL) (z1054 : octet_Reader) (z1055 : Int) (z1056 : Int) (z1057 : Int) (z1058 : Int) (z1059 : Int) (z1060 : Int) (z1061 : Int) (z1062 : Int) (z1065 : (List Nat)) (z1068 : (List (Nat × Nat))) (z1071 : (List Nat)) (z1074 : (List Int)) (z1077 : (List api_Write)) (z1078 : Int) (z1079 : Int) (z1080 : Int) (z1083 : (List api_Got)) (z1086 : (List (List api_Pair))) (z1087 : Int) (z1090 : (List api_Part)) (z1091 : Int) (z1092 : Int) (z1093 : Int) (z1094 : Nat) (z1095 : Nat) (z1096 : Int) (z1097 : Int) (z1098 : Bool) (v1064 : Value) (v1067 : Value) (v1070 : Value) (v1073 : Value) (v1076 : Value) (v1082 : Value) (v1085 : Value) (v1089 : Value) (σ1100 : Nat → Value), (command_Decode_j0 t657 a0) (z1054, z1055, z1056, z1057, z1058, z1059, z1060, z1061, z1062, z1065, z1068, z1071, z1074, z1077, z1078, z1079, z1080, z1083, z1086, z1087, z1090, z1091, z1092, z1093, z1094, z1095, z1096, z1097, z1098) = some r ∧ a = Fr 113 (upd (upd (upd (upd σ1100 0 (r0_0)) 2 (.pointer (some ⟨b634, 0, none⟩))) 4 (.pointer (some ⟨b646, 0, none⟩))) 5 (.pointer (some ⟨b678, 0, none⟩))) ∧ I.le I1099 ∧ St w0 w I1099 [cells b634 [.int .u8 (0:Int), .int .u64 (0:Int), .int .u64 (0:Int), .int .u64 (0:Int), .int .u64 (0:Int), .int .i64 (0:Int), .int .u64 (0:Int), .int .u64 (0:Int), .int .u64 (0:Int), (.slice none 0 0), (.slice none 0 0), (.slice none 0 0), (.slice none 0 0), (.slice none 0 0), .int .i64 (0:Int), .int .u64 (0:Int), .int .u64 (0:Int), (.slice none 0 0), (.slice none 0 0), .int .u64 (0:Int), (.slice none 0 0), .int .u64 (0:Int), .int .i64 (0:Int), .int .i64 (0:Int), .float .f64 (0:Nat), .float .f64 (0:Nat), .int .u64 (0:Int), .int .i64 (0:Int), .bool false], cells b646 [.pointer (some ⟨b651, 0, none⟩)], at_octet_Reader (.pointer (some ⟨b651, 0, none⟩)) z1054, cells b678 [.int .u8 (IntKind.u8.wrap t657.1), .int .u64 z1055, .int .u64 z1056, .int .u64 z1057, .int .u64 z1058, .int .i64 z1059, .int .u64 z1060, .int .u64 z1061, .int .u64 z1062, v1064, v1067, v1070, v1073, v1076, .int .i64 z1078, .int .u64 z1079, .int .u64 z1080, v1082, v1085, .int .u64 z1087, v1089, .int .u64 z1091, .int .i64 z1092, .int .i64 z1093, .float .f64 z1094, .float .f64 z1095, .int .u64 z1096, .int .i64 z1097, .bool z1098], ownS tyF64 v1064 z1065, ownS tyF2 v1067 z1068, ownS tyF64 v1070 z1071, ownS (tyInt .u8) v1073 z1074, ownS ty_api_Write v1076 z1077, ownS ty_api_Got v1082 z1083, ownS (tySl ty_api_Pair) v1085 z1086, ownS ty_api_Part v1089 z1090] R) ?_ ?_
 ·skip
  have hL1104 := HL.le.refl I
  refine wp_seq (wp_region_lit ?_)
  refine wv (.pointer (some ⟨b678, 0, none⟩)) rfl rfl (x_field rfl Try.underlying45 rfl Try.sizeOf5 rfl) ?_
  refine wv (.int .u8 (IntKind.u8.wrap t657.1)) rfl rfl (x_load rfl Try.isAgg5 (hst.bc0 rfl)) ?_
  refine wl_nil (then_n (wp_block (wp_seq (wp_region_lit ?_))))
  refine wv (.bool ((IntKind.u8.wrap t657.1) == (1:Int))) rfl rfl rfl ?_
  refine wv (.bool ((IntKind.u8.wrap t657.1) == (1:Int))) rfl rfl rfl ?_
  refine wl_nil (then_n ?_)
  refine bsplit ((IntKind.u8.wrap t657.1) == (1:Int)) (fun hc685 => ?_) (fun hc685 => ?_)
  ·skip
   replace hm := bif_t hc685 hm
   refine wp_ift (congrArg Value.bool hc685) ?_
   refine wp_region_lit ?_
   refine wv (.pointer (some ⟨b651, 0, none⟩)) rfl rfl (x_load rfl Try.isAgg61 (hst.bc2 rfl)) ?_
   replace hst := hst.pull1
   obtain ⟨t686, ht687, hm⟩ := bind_some hm
   refine wl_call rfl rfl (x_call Try.call40 rfl (vs := [.pointer (some ⟨b651, 0, none⟩), .int .i64 (8:Int)]) rfl) ?_
   refine (octet_Reader_Num_ref hst.to1 ht687).mono ?_
   rintro _ w688 ⟨rfl, hst⟩
   refine ⟨_, rfl, ?_⟩
   replace hst := hst.of1
   refine wv (.pointer (some ⟨b678, 3, none⟩)) rfl rfl (x_field rfl Try.underlying45 rfl Try.sizeOf27 rfl) ?_
   replace hst := hst.pull1
   obtain ⟨w691, hr692, hst⟩ := hst.boxStore (P := Try.prog) (t := 27) (cs' := [.int .u8 (IntKind.u8.wrap t657.1), .int .u64 (0:Int), .int .u64 (0:Int), .int .u64 t686.1, .int .u64 (0:Int), .int .i64 (0:Int), .int .u64 (0:Int), .int .u64 (0:Int), .int .u64 (0:Int), (.slice none 0 0), (.slice none 0 0), (.slice none 0 0), (.slice none 0 0), (.slice none 0 0), .int .i64 (0:Int), .int .u64 (0:Int), .int .u64 (0:Int), (.slice none 0 0), (.slice none 0 0), .int .u64 (0:Int), (.slice none 0 0), .int .u64 (0:Int), .int .i64 (0:Int), .int .i64 (0:Int), .float .f64 (0:Nat), .float .f64 (0:Nat), .int .u64 (0:Int), .int .i64 (0:Int), .bool false]) 3 (.int .u64 t686.1) Try.sizeOf27 (Nat.le_of_ble_eq_true rfl) (ones_cons rfl ones_nil) (by kernel_rfl)
   refine wl_unit rfl rfl (x_unit hr692) ?_
   refine wl_nil (blk_n (then_n ?_))
   replace hst := hst.own_nil tyF64
   replace hst := hst.own_nil tyF2
   replace hst := hst.own_nil tyF64
   replace hst := hst.own_nil (tyInt .u8)
   replace hst := hst.own_nil ty_api_Write
   replace hst := hst.own_nil ty_api_Got
   replace hst := hst.own_nil (tySl ty_api_Pair)
   replace hst := hst.own_nil ty_api_Part
   replace hst := hst.pull1
   replace hst := hst.pull2
   replace hst := hst.pull3
   replace hst := hst.pull4
   replace hst := hst.pull5
   replace hst := hst.pull6
   replace hst := hst.pull7
   replace hst := hst.pull8
   replace hst := hst.pull9
   replace hst := hst.pull10
   replace hst := hst.pull11
   replace hst := hst.keep12
   obtain rfl := some_inj hm
   exact ⟨_, t686.2, (0:Int), (0:Int), t686.1, (0:Int), (0:Int), (0:Int), (0:Int), (0:Int), ([]), ([]), ([]), ([]), ([]), (0:Int), (0:Int), (0:Int), ([]), ([]), (0:Int), ([]), (0:Int), (0:Int), (0:Int), (0:Nat), (0:Nat), (0:Int), (0:Int), false, (.slice none 0 0), (.slice none 0 0), (.slice none 0 0), (.slice none 0 0), (.slice none 0 0), (.slice none 0 0), (.slice none 0 0), (.slice none 0 0), _, hx1103, ((fr_upd (t := 0) (v := r0_0) rfl).trans ((fr_upd (t := 2) (v := .pointer (some ⟨b634, 0, none⟩)) rfl).trans ((fr_upd (t := 4) (v := .pointer (some ⟨b646, 0, none⟩)) rfl).trans ((fr_upd (t := 5) (v := .pointer (some ⟨b678, 0, none⟩)) rfl).trans rfl)))), hL1104, hst⟩
  ·skip
   replace hm := bif_f hc685 hm
   refine wp_iff (congrArg Value.bool hc685) ?_
   refine wp_seq (wp_region_lit ?_)
   refine wv (.bool ((IntKind.u8.wrap t657.1) == (2:Int))) rfl rfl rfl ?_
   refine wv (.bool ((IntKind.u8.wrap t657.1) == (2:Int))) rfl rfl rfl ?_
   refine wl_nil (then_n ?_)
   refine bsplit ((IntKind.u8.wrap t657.1) == (2:Int)) (fun hc693 => ?_) (fun hc693 => ?_)
   ·skip
    replace hm := bif_t hc693 hm
    refine wp_ift (congrArg Value.bool hc693) ?_
    refine wp_region_lit ?_
    refine wv (.pointer (some ⟨b651, 0, none⟩)) rfl rfl (x_load rfl Try.isAgg61 (hst.bc2 rfl)) ?_
    replace hst := hst.pull1
    obtain ⟨t694, ht695, hm⟩ := bind_some hm
    refine wl_call rfl rfl (x_call Try.call53 rfl (vs := [.pointer (some ⟨b651, 0, none⟩)]) rfl) ?_
    refine (locks_Read_ref hst.to1 ht695).mono ?_
    rintro _ w696 ⟨v699, v701, v703, v705, rfl, hst⟩
    refine ⟨_, rfl, ?_⟩
    replace hst := hst.of5
    refine wv (.pointer (some ⟨b678, 6, none⟩)) rfl rfl (x_field rfl Try.underlying45 rfl Try.sizeOf34 rfl) ?_
    replace hst := hst.pull5
    obtain ⟨w707, hr708, hst⟩ := hst.boxStore (P := Try.prog) (t := 34) (cs' := [.int .u8 (IntKind.u8.wrap t657.1), .int .u64 (0:Int), .int .u64 (0:Int), .int .u64 (0:Int), .int .u64 (0:Int), .int .i64 (0:Int), .int .u64 t694.1.ID.Session, .int .u64 t694.1.ID.Seq, .int .u64 t694.1.Epoch, v699, v701, v703, v705, (.slice none 0 0), .int .i64 (0:Int), .int .u64 (0:Int), .int .u64 (0:Int), (.slice none 0 0), (.slice none 0 0), .int .u64 (0:Int), (.slice none 0 0), .int .u64 (0:Int), .int .i64 (0:Int), .int .i64 (0:Int), .float .f64 (0:Nat), .float .f64 (0:Nat), .int .u64 (0:Int), .int .i64 (0:Int), .bool false]) 6 (.agg #[.int .u64 t694.1.ID.Session, .int .u64 t694.1.ID.Seq, .int .u64 t694.1.Epoch, v699, v701, v703, v705]) Try.sizeOf34 (Nat.le_of_ble_eq_true rfl) (ones_cons rfl (ones_cons rfl (ones_cons rfl (ones_cons (one_of_sliceV hst.sv1) (ones_cons (one_of_sliceV hst.sv2) (ones_cons (one_of_sliceV hst.sv3) (ones_cons (one_of_sliceV hst.sv4) ones_nil))))))) (by kernel_rfl)
    refine wl_unit rfl rfl (x_unit hr708) ?_
    refine wl_nil (blk_n (then_n ?_))
    replace hst := hst.own_nil ty_api_Write
    replace hst := hst.own_nil ty_api_Got
    replace hst := hst.own_nil (tySl ty_api_Pair)
    replace hst := hst.own_nil ty_api_Part
    replace hst := hst.pull1
    replace hst := hst.pull2
    replace hst := hst.pull3
    replace hst := hst.pull8
    replace hst := hst.pull8
    replace hst := hst.pull8
    replace hst := hst.pull8
    replace hst := hst.pull8
    replace hst := hst.pull9
    replace hst := hst.pull10
    replace hst := hst.pull11
    replace hst := hst.keep12
    obtain rfl := some_inj hm
    exact ⟨_, t694.2, (0:Int), (0:Int), (0:Int), (0:Int), (0:Int), t694.1.ID.Session, t694.1.ID.Seq, t694.1.Epoch, t694.1.Gets, t694.1.Scans, t694.1.Puts, t694.1.Data, ([]), (0:Int), (0:Int), (0:Int), ([]), ([]), (0:Int), ([]), (0:Int), (0:Int), (0:Int), (0:Nat), (0:Nat), (0:Int), (0:Int), false, v699, v701, v703, v705, (.slice none 0 0), (.slice none 0 0), (.slice none 0 0), (.slice none 0 0), _, hx1103, ((fr_upd (t := 0) (v := r0_0) rfl).trans ((fr_upd (t := 2) (v := .pointer (some ⟨b634, 0, none⟩)) rfl).trans ((fr_upd (t := 4) (v := .pointer (some ⟨b646, 0, none⟩)) rfl).trans ((fr_upd (t := 5) (v := .pointer (some ⟨b678, 0, none⟩)) rfl).trans rfl)))), hL1104, hst⟩
   ·skip
    replace hm := bif_f hc693 hm
    refine wp_iff (congrArg Value.bool hc693) ?_
    refine wp_seq (wp_region_lit ?_)
    refine wv (.bool ((IntKind.u8.wrap t657.1) == (3:Int))) rfl rfl rfl ?_
    refine wv (.bool ((IntKind.u8.wrap t657.1) == (3:Int))) rfl rfl rfl ?_
    refine wl_nil (then_n ?_)
    refine bsplit ((IntKind.u8.wrap t657.1) == (3:Int)) (fun hc709 => ?_) (fun hc709 => ?_)
    ·skip
     replace hm := bif_t hc709 hm
     refine wp_ift (congrArg Value.bool hc709) ?_
     refine wp_seq (wp_region_lit ?_)
     refine wv (.func (.func 52) #[] #[.pointer (some ⟨b646, 0, none⟩), .pointer (some ⟨b678, 0, none⟩)]) rfl rfl rfl ?_
     obtain ⟨y726, hq727, hm⟩ := bind_some hm
     refine wl_call rfl rfl (x_callv Try.call52 (caps := [.pointer (some ⟨b646, 0, none⟩), .pointer (some ⟨b678, 0, none⟩)]) rfl (vs := []) rfl) ?_
     refine Calls.mono (show Calls Try.prog 52 #[.pointer (some ⟨b646, 0, none⟩), .pointer (some ⟨b678, 0, none⟩)] _ (fun e w' => ∃ (z722 : octet_Reader) (z723 : Int) (z724 : Int), y726 = (z722, z723, z724) ∧ e = .returned (.tuple #[]) ∧ St w0 w' I [cells b634 [.int .u8 (0:Int), .int .u64 (0:Int), .int .u64 (0:Int), .int .u64 (0:Int), .int .u64 (0:Int), .int .i64 (0:Int), .int .u64 (0:Int), .int .u64 (0:Int), .int .u64 (0:Int), (.slice none 0 0), (.slice none 0 0), (.slice none 0 0), (.slice none 0 0), (.slice none 0 0), .int .i64 (0:Int), .int .u64 (0:Int), .int .u64 (0:Int), (.slice none 0 0), (.slice none 0 0), .int .u64 (0:Int), (.slice none 0 0), .int .u64 (0:Int), .int .i64 (0:Int), .int .i64 (0:Int), .float .f64 (0:Nat), .float .f64 (0:Nat), .int .u64 (0:Int), .int .i64 (0:Int), .bool false], at_octet_Reader (.pointer (some ⟨b651, 0, none⟩)) z722, cells b646 [.pointer (some ⟨b651, 0, none⟩)], cells b678 [.int .u8 (IntKind.u8.wrap t657.1), .int .u64 z723, .int .u64 z724, .int .u64 (0:Int), .int .u64 (0:Int), .int .i64 (0:Int), .int .u64 (0:Int), .int .u64 (0:Int), .int .u64 (0:Int), (.slice none 0 0), (.slice none 0 0), (.slice none 0 0), (.slice none 0 0), (.slice none 0 0), .int .i64 (0:Int), .int .u64 (0:Int), .int .u64 (0:Int), (.slice none 0 0), (.slice none 0 0), .int .u64 (0:Int), (.slice none 0 0), .int .u64 (0:Int), .int .i64 (0:Int), .int .i64 (0:Int), .float .f64 (0:Nat), .float .f64 (0:Nat), .int .u64 (0:Int), .int .i64 (0:Int), .bool false]] R) from ?_) ?_
     ·skip
      clear hm; have hm := hq727
      refine calls_start (args := [.pointer (some ⟨b646, 0, none⟩), .pointer (some ⟨b678, 0, none⟩)]) Try.func52 rfl Try.ntmps52 (Nat.le_of_ble_eq_true rfl) ?_
      refine wp_region_St hst 7 [0, 1, 2, 3, 4, 5, 6] [0, 1, 0, 7, 15, 31, 63] [] rfl (by kernel_rfl) (by kernel_rfl) Try.mixed (by kernel_rfl) ?_
      refine wsr (.pointer (some ⟨b651, 0, none⟩)) 0 rfl rfl rfl (by kernel_rfl) (fun w hst => x_load rfl Try.isAgg61 (hst.bc2 rfl)) ?_
      refine wsr (.pointer (some ⟨b651, 0, none⟩)) 2 rfl rfl rfl (by kernel_rfl) (fun w hst => x_load rfl Try.isAgg61 (hst.bc2 rfl)) ?_
      refine ws_e1 1 (by kernel_rfl) ?_
      refine nxe [3, 4, 5, 6] (by kernel_rfl) rfl rfl ?_
      clear hst
      intro w hst
      replace hst := hst.pull1
      obtain ⟨t710, ht711, hm⟩ := bind_some hm
      refine we_call rfl (x_call Try.call40 rfl (vs := [.pointer (some ⟨b651, 0, none⟩), .int .i64 (8:Int)]) rfl) ?_
      refine (octet_Reader_Num_ref hst.to1 ht711).mono ?_
      rintro _ w712 ⟨rfl, hst⟩
      refine ⟨_, rfl, ?_⟩
      replace hst := hst.of1
      refine ws_next (pend' := [(2, .pointer (some ⟨b651, 0, none⟩))]) hst (by kernel_rfl) (pkr rfl rfl (fun w hst => x_load rfl Try.isAgg61 (hst.bc2 rfl)) pk_nil) ?_
      refine ws_e1 3 (by kernel_rfl) ?_
      refine nxe [4, 5, 6] (by kernel_rfl) rfl rfl ?_
      clear hst
      intro w hst
      obtain ⟨t715, ht716, hm⟩ := bind_some hm
      refine we_call rfl (x_call Try.call40 rfl (vs := [.pointer (some ⟨b651, 0, none⟩), .int .i64 (8:Int)]) rfl) ?_
      refine (octet_Reader_Num_ref hst.to1 ht716).mono ?_
      rintro _ w717 ⟨rfl, hst⟩
      refine ⟨_, rfl, ?_⟩
      replace hst := hst.of1
      refine ws_next (pend' := []) hst (by kernel_rfl) pk_nil ?_
      refine wsr (.agg #[.int .u64 t710.1, .int .u64 t715.1]) 4 rfl rfl rfl (by kernel_rfl) (fun w hst => by kernel_rfl) ?_
      refine wsr (.pointer (some ⟨b678, 1, none⟩)) 5 rfl rfl rfl (by kernel_rfl) (fun w hst => x_field rfl Try.underlying45 rfl Try.sizeOf29 rfl) ?_
      refine ws_e1 6 (by kernel_rfl) ?_
      refine nxe [] (by kernel_rfl) rfl rfl ?_
      clear hst
      intro w hst
      replace hst := hst.pull1
      obtain ⟨w720, hr721, hst⟩ := hst.boxStore (P := Try.prog) (t := 29) (cs' := [.int .u8 (IntKind.u8.wrap t657.1), .int .u64 t710.1, .int .u64 t715.1, .int .u64 (0:Int), .int .u64 (0:Int), .int .i64 (0:Int), .int .u64 (0:Int), .int .u64 (0:Int), .int .u64 (0:Int), (.slice none 0 0), (.slice none 0 0), (.slice none 0 0), (.slice none 0 0), (.slice none 0 0), .int .i64 (0:Int), .int .u64 (0:Int), .int .u64 (0:Int), (.slice none 0 0), (.slice none 0 0), .int .u64 (0:Int), (.slice none 0 0), .int .u64 (0:Int), .int .i64 (0:Int), .int .i64 (0:Int), .float .f64 (0:Nat), .float .f64 (0:Nat), .int .u64 (0:Int), .int .i64 (0:Int), .bool false]) 1 (.agg #[.int .u64 t710.1, .int .u64 t715.1]) Try.sizeOf29 (Nat.le_of_ble_eq_true rfl) (ones_cons rfl (ones_cons rfl ones_nil)) (by kernel_rfl)
      refine we_unit rfl (x_unit hr721) ?_
      refine ws_next (pend' := []) hst (by kernel_rfl) pk_nil ?_
      refine ws_nil ?_
      intro w hst
      refine post_end (vs := []) Try.results52 rvs_nil ?_
      replace hst := hst.pull2
      replace hst := hst.pull2
      replace hst := hst.pull3
      replace hst := hst.keep4
      obtain rfl := some_inj hm
      exact ⟨t715.2, t710.1, t715.1, rfl, rfl, hst⟩
     clear hst
     rintro _ w728 ⟨z722, z723, z724, rfl, rfl, hst⟩
     refine ⟨_, rfl, ?_⟩
     try dsimp only at hm
     refine wl_nil (then_n (wp_seq ?_))
     refine wp_region_St hst 13 [0, 1, 2, 3, 4, 5, 6, 7, 8, 9, 10, 11, 12] [0, 1, 3, 0, 11, 0, 59, 7, 255, 511, 1023, 2047, 4095] [] rfl (by kernel_rfl) (by kernel_rfl) Try.mixed (by kernel_rfl) ?_
     refine wsr (.pointer (some ⟨b651, 0, none⟩)) 0 rfl rfl rfl (by kernel_rfl) (fun w hst => x_load rfl Try.isAgg61 (hst.bc2 rfl)) ?_
     refine wsr (.pointer (some ⟨b651, 0, none⟩)) 3 rfl rfl rfl (by kernel_rfl) (fun w hst => x_load rfl Try.isAgg61 (hst.bc2 rfl)) ?_
     refine wsr (.pointer (some ⟨b651, 0, none⟩)) 5 rfl rfl rfl (by kernel_rfl) (fun w hst => x_load rfl Try.isAgg61 (hst.bc2 rfl)) ?_
     refine ws_e1 1 (by kernel_rfl) ?_
     refine nxe [2, 4, 6, 7, 8, 9, 10, 11, 12] (by kernel_rfl) rfl rfl ?_
     clear hst
     intro w hst
     replace hst := hst.pull1
     obtain ⟨t729, ht730, hm⟩ := bind_some hm
     refine we_call rfl (x_call Try.call40 rfl (vs := [.pointer (some ⟨b651, 0, none⟩), .int .i64 (1:Int)]) rfl) ?_
     refine (octet_Reader_Num_ref hst.to1 ht730).mono ?_
     rintro _ w731 ⟨rfl, hst⟩
     refine ⟨_, rfl, ?_⟩
     replace hst := hst.of1
     refine ws_next (pend' := [(5, .pointer (some ⟨b651, 0, none⟩)), (3, .pointer (some ⟨b651, 0, none⟩))]) hst (by kernel_rfl) (pkr rfl rfl (fun w hst => x_load rfl Try.isAgg61 (hst.bc2 rfl)) (pkr rfl rfl (fun w hst => x_load rfl Try.isAgg61 (hst.bc2 rfl)) pk_nil)) ?_
     refine wsr (.int .i64 (IntKind.i64.wrap t729.1)) 2 rfl rfl rfl (by kernel_rfl) (fun w hst => by kernel_rfl) ?_
     refine wsr (.pointer (some ⟨b678, 5, none⟩)) 7 rfl rfl rfl (by kernel_rfl) (fun w hst => x_field rfl Try.underlying45 rfl Try.sizeOf30 rfl) ?_
     refine ws_e1 4 (by kernel_rfl) ?_
     refine nxe [6, 8, 9, 10, 11, 12] (by kernel_rfl) rfl rfl ?_
     clear hst
     intro w hst
     obtain ⟨t734, ht735, hm⟩ := bind_some hm
     refine we_call rfl (x_call Try.call40 rfl (vs := [.pointer (some ⟨b651, 0, none⟩), .int .i64 (8:Int)]) rfl) ?_
     refine (octet_Reader_Num_ref hst.to1 ht735).mono ?_
     rintro _ w736 ⟨rfl, hst⟩
     refine ⟨_, rfl, ?_⟩
     replace hst := hst.of1
     refine ws_next (pend' := [(7, .pointer (some ⟨b678, 5, none⟩)), (2, .int .i64 (IntKind.i64.wrap t729.1)), (5, .pointer (some ⟨b651, 0, none⟩))]) hst (by kernel_rfl) (pkr rfl rfl (fun w hst => x_field rfl Try.underlying45 rfl Try.sizeOf30 rfl) (pkr rfl rfl (fun w hst => by kernel_rfl) (pkr rfl rfl (fun w hst => x_load rfl Try.isAgg61 (hst.bc2 rfl)) pk_nil))) ?_
     refine ws_e1 6 (by kernel_rfl) ?_
     refine nxe [8, 9, 10, 11, 12] (by kernel_rfl) rfl rfl ?_
     clear hst
     intro w hst
     obtain ⟨t739, ht740, hm⟩ := bind_some hm
     refine we_call rfl (x_call Try.call40 rfl (vs := [.pointer (some ⟨b651, 0, none⟩), .int .i64 (8:Int)]) rfl) ?_
     refine (octet_Reader_Num_ref hst.to1 ht740).mono ?_
     rintro _ w741 ⟨rfl, hst⟩
     refine ⟨_, rfl, ?_⟩
     replace hst := hst.of1
     refine ws_next (pend' := [(7, .pointer (some ⟨b678, 5, none⟩)), (2, .int .i64 (IntKind.i64.wrap t729.1))]) hst (by kernel_rfl) (pkr rfl rfl (fun w hst => x_field rfl Try.underlying45 rfl Try.sizeOf30 rfl) (pkr rfl rfl (fun w hst => by kernel_rfl) pk_nil)) ?_
     refine ws_e1 8 (by kernel_rfl) ?_
     refine nxe [9, 10, 11, 12] (by kernel_rfl) rfl rfl ?_
     clear hst
     intro w hst
     replace hst := hst.pull3
     obtain ⟨w744, hr745, hst⟩ := hst.boxStore (P := Try.prog) (t := 30) (cs' := [.int .u8 (IntKind.u8.wrap t657.1), .int .u64 z723, .int .u64 z724, .int .u64 (0:Int), .int .u64 (0:Int), .int .i64 (IntKind.i64.wrap t729.1), .int .u64 (0:Int), .int .u64 (0:Int), .int .u64 (0:Int), (.slice none 0 0), (.slice none 0 0), (.slice none 0 0), (.slice none 0 0), (.slice none 0 0), .int .i64 (0:Int), .int .u64 (0:Int), .int .u64 (0:Int), (.slice none 0 0), (.slice none 0 0), .int .u64 (0:Int), (.slice none 0 0), .int .u64 (0:Int), .int .i64 (0:Int), .int .i64 (0:Int), .float .f64 (0:Nat), .float .f64 (0:Nat), .int .u64 (0:Int), .int .i64 (0:Int), .bool false]) 5 (.int .i64 (IntKind.i64.wrap t729.1)) Try.sizeOf30 (Nat.le_of_ble_eq_true rfl) (ones_cons rfl ones_nil) (by kernel_rfl)
     refine we_unit rfl (x_unit hr745) ?_
     refine ws_next (pend' := []) hst (by kernel_rfl) pk_nil ?_
     refine wsr (.pointer (some ⟨b678, 3, none⟩)) 9 rfl rfl rfl (by kernel_rfl) (fun w hst => x_field rfl Try.underlying45 rfl Try.sizeOf27 rfl) ?_
     refine ws_e1 10 (by kernel_rfl) ?_
     refine nxe [11, 12] (by kernel_rfl) rfl rfl ?_
     clear hst
     intro w hst
     obtain ⟨w746, hr747, hst⟩ := hst.boxStore (P := Try.prog) (t := 27) (cs' := [.int .u8 (IntKind.u8.wrap t657.1), .int .u64 z723, .int .u64 z724, .int .u64 t734.1, .int .u64 (0:Int), .int .i64 (IntKind.i64.wrap t729.1), .int .u64 (0:Int), .int .u64 (0:Int), .int .u64 (0:Int), (.slice none 0 0), (.slice none 0 0), (.slice none 0 0), (.slice none 0 0), (.slice none 0 0), .int .i64 (0:Int), .int .u64 (0:Int), .int .u64 (0:Int), (.slice none 0 0), (.slice none 0 0), .int .u64 (0:Int), (.slice none 0 0), .int .u64 (0:Int), .int .i64 (0:Int), .int .i64 (0:Int), .float .f64 (0:Nat), .float .f64 (0:Nat), .int .u64 (0:Int), .int .i64 (0:Int), .bool false]) 3 (.int .u64 t734.1) Try.sizeOf27 (Nat.le_of_ble_eq_true rfl) (ones_cons rfl ones_nil) (by kernel_rfl)
     refine we_unit rfl (x_unit hr747) ?_
     refine ws_next (pend' := []) hst (by kernel_rfl) pk_nil ?_
     refine wsr (.pointer (some ⟨b678, 4, none⟩)) 11 rfl rfl rfl (by kernel_rfl) (fun w hst => x_field rfl Try.underlying45 rfl Try.sizeOf27 rfl) ?_
     refine ws_e1 12 (by kernel_rfl) ?_
     refine nxe [] (by kernel_rfl) rfl rfl ?_
     clear hst
     intro w hst
     obtain ⟨w748, hr749, hst⟩ := hst.boxStore (P := Try.prog) (t := 27) (cs' := [.int .u8 (IntKind.u8.wrap t657.1), .int .u64 z723, .int .u64 z724, .int .u64 t734.1, .int .u64 t739.1, .int .i64 (IntKind.i64.wrap t729.1), .int .u64 (0:Int), .int .u64 (0:Int), .int .u64 (0:Int), (.slice none 0 0), (.slice none 0 0), (.slice none 0 0), (.slice none 0 0), (.slice none 0 0), .int .i64 (0:Int), .int .u64 (0:Int), .int .u64 (0:Int), (.slice none 0 0), (.slice none 0 0), .int .u64 (0:Int), (.slice none 0 0), .int .u64 (0:Int), .int .i64 (0:Int), .int .i64 (0:Int), .float .f64 (0:Nat), .float .f64 (0:Nat), .int .u64 (0:Int), .int .i64 (0:Int), .bool false]) 4 (.int .u64 t739.1) Try.sizeOf27 (Nat.le_of_ble_eq_true rfl) (ones_cons rfl ones_nil) (by kernel_rfl)
     refine we_unit rfl (x_unit hr749) ?_
     refine ws_next (pend' := []) hst (by kernel_rfl) pk_nil ?_
     refine ws_nil ?_
     intro w hst
     refine then_n (wp_region_lit ?_)
     refine wv (.pointer (some ⟨b651, 0, none⟩)) rfl rfl (x_load rfl Try.isAgg61 (hst.bc3 rfl)) ?_
     replace hst := hst.pull1
     obtain ⟨t750, ht751, hm⟩ := bind_some hm
     refine wl_call rfl rfl (x_call Try.call54 rfl (vs := [.pointer (some ⟨b651, 0, none⟩)]) rfl) ?_
     refine (command_readWrites_ref hst.to1 ht751).mono ?_
     rintro _ w752 ⟨I753, v755, rfl, hI754, hst⟩
     refine ⟨_, rfl, ?_⟩
     replace hst := hst.of2
     replace f0_0 := f0_0.mono (ro_le hI754)
     replace f654 := f654.mono (ro_le hI754)
     replace hI0 := hI0.trans hI754
     replace hL1104 := hL1104.trans hI754
     refine wv (.pointer (some ⟨b678, 13, none⟩)) rfl rfl (x_field rfl Try.underlying45 rfl Try.sizeOf35 rfl) ?_
     replace hst := hst.pull2
     obtain ⟨w757, hr758, hst⟩ := hst.boxStore1 (P := Try.prog) (t := 35) (cs' := [.int .u8 (IntKind.u8.wrap t657.1), .int .u64 z723, .int .u64 z724, .int .u64 t734.1, .int .u64 t739.1, .int .i64 (IntKind.i64.wrap t729.1), .int .u64 (0:Int), .int .u64 (0:Int), .int .u64 (0:Int), (.slice none 0 0), (.slice none 0 0), (.slice none 0 0), (.slice none 0 0), v755, .int .i64 (0:Int), .int .u64 (0:Int), .int .u64 (0:Int), (.slice none 0 0), (.slice none 0 0), .int .u64 (0:Int), (.slice none 0 0), .int .u64 (0:Int), .int .i64 (0:Int), .int .i64 (0:Int), .float .f64 (0:Nat), .float .f64 (0:Nat), .int .u64 (0:Int), .int .i64 (0:Int), .bool false]) 13 v755 (one_of_sliceV hst.sv1) Try.sizeOf35 rfl rfl
     refine wl_unit rfl rfl (x_unit hr758) ?_
     refine wl_nil (blk_n (then_n ?_))
     replace hst := hst.own_nil tyF64
     replace hst := hst.own_nil tyF2
     replace hst := hst.own_nil tyF64
     replace hst := hst.own_nil (tyInt .u8)
     replace hst := hst.own_nil ty_api_Got
     replace hst := hst.own_nil (tySl ty_api_Pair)
     replace hst := hst.own_nil ty_api_Part
     replace hst := hst.pull1
     replace hst := hst.pull2
     replace hst := hst.pull8
     replace hst := hst.pull4
     replace hst := hst.pull5
     replace hst := hst.pull6
     replace hst := hst.pull7
     replace hst := hst.pull8
     replace hst := hst.pull9
     replace hst := hst.pull11
     replace hst := hst.pull11
     replace hst := hst.keep12
     obtain rfl := some_inj hm
     exact ⟨_, t750.2, z723, z724, t734.1, t739.1, (IntKind.i64.wrap t729.1), (0:Int), (0:Int), (0:Int), ([]), ([]), ([]), ([]), t750.1, (0:Int), (0:Int), (0:Int), ([]), ([]), (0:Int), ([]), (0:Int), (0:Int), (0:Int), (0:Nat), (0:Nat), (0:Int), (0:Int), false, (.slice none 0 0), (.slice none 0 0), (.slice none 0 0), (.slice none 0 0), v755, (.slice none 0 0), (.slice none 0 0), (.slice none 0 0), _, hx1103, ((fr_upd (t := 0) (v := r0_0) rfl).trans ((fr_upd (t := 2) (v := .pointer (some ⟨b634, 0, none⟩)) rfl).trans ((fr_upd (t := 4) (v := .pointer (some ⟨b646, 0, none⟩)) rfl).trans ((fr_upd (t := 5) (v := .pointer (some ⟨b678, 0, none⟩)) rfl).trans rfl)))), hL1104, hst⟩
    ·skip
     replace hm := bif_f hc709 hm
     refine wp_iff (congrArg Value.bool hc709) ?_
     refine wp_seq (wp_region_lit ?_)
     refine wv (.bool ((IntKind.u8.wrap t657.1) == (4:Int))) rfl rfl rfl ?_
     refine wv (.bool ((IntKind.u8.wrap t657.1) == (4:Int))) rfl rfl rfl ?_
     refine wl_nil (then_n ?_)
     refine bsplit ((IntKind.u8.wrap t657.1) == (4:Int)) (fun hc759 => ?_) (fun hc759 => ?_)
     ·skip
      replace hm := bif_t hc759 hm
      refine wp_ift (congrArg Value.bool hc759) ?_
      refine wp_seq (wp_region_lit ?_)
      refine wv (.func (.func 52) #[] #[.pointer (some ⟨b646, 0, none⟩), .pointer (some ⟨b678, 0, none⟩)]) rfl rfl rfl ?_
      obtain ⟨y776, hq777, hm⟩ := bind_some hm
      refine wl_call rfl rfl (x_callv Try.call52 (caps := [.pointer (some ⟨b646, 0, none⟩), .pointer (some ⟨b678, 0, none⟩)]) rfl (vs := []) rfl) ?_
      refine Calls.mono (show Calls Try.prog 52 #[.pointer (some ⟨b646, 0, none⟩), .pointer (some ⟨b678, 0, none⟩)] _ (fun e w' => ∃ (z772 : octet_Reader) (z773 : Int) (z774 : Int), y776 = (z772, z773, z774) ∧ e = .returned (.tuple #[]) ∧ St w0 w' I [cells b634 [.int .u8 (0:Int), .int .u64 (0:Int), .int .u64 (0:Int), .int .u64 (0:Int), .int .u64 (0:Int), .int .i64 (0:Int), .int .u64 (0:Int), .int .u64 (0:Int), .int .u64 (0:Int), (.slice none 0 0), (.slice none 0 0), (.slice none 0 0), (.slice none 0 0), (.slice none 0 0), .int .i64 (0:Int), .int .u64 (0:Int), .int .u64 (0:Int), (.slice none 0 0), (.slice none 0 0), .int .u64 (0:Int), (.slice none 0 0), .int .u64 (0:Int), .int .i64 (0:Int), .int .i64 (0:Int), .float .f64 (0:Nat), .float .f64 (0:Nat), .int .u64 (0:Int), .int .i64 (0:Int), .bool false], at_octet_Reader (.pointer (some ⟨b651, 0, none⟩)) z772, cells b646 [.pointer (some ⟨b651, 0, none⟩)], cells b678 [.int .u8 (IntKind.u8.wrap t657.1), .int .u64 z773, .int .u64 z774, .int .u64 (0:Int), .int .u64 (0:Int), .int .i64 (0:Int), .int .u64 (0:Int), .int .u64 (0:Int), .int .u64 (0:Int), (.slice none 0 0), (.slice none 0 0), (.slice none 0 0), (.slice none 0 0), (.slice none 0 0), .int .i64 (0:Int), .int .u64 (0:Int), .int .u64 (0:Int), (.slice none 0 0), (.slice none 0 0), .int .u64 (0:Int), (.slice none 0 0), .int .u64 (0:Int), .int .i64 (0:Int), .int .i64 (0:Int), .float .f64 (0:Nat), .float .f64 (0:Nat), .int .u64 (0:Int), .int .i64 (0:Int), .bool false]] R) from ?_) ?_
      ·skip
       clear hm; have hm := hq777
       refine calls_start (args := [.pointer (some ⟨b646, 0, none⟩), .pointer (some ⟨b678, 0, none⟩)]) Try.func52 rfl Try.ntmps52 (Nat.le_of_ble_eq_true rfl) ?_
       refine wp_region_St hst 7 [0, 1, 2, 3, 4, 5, 6] [0, 1, 0, 7, 15, 31, 63] [] rfl (by kernel_rfl) (by kernel_rfl) Try.mixed (by kernel_rfl) ?_
       refine wsr (.pointer (some ⟨b651, 0, none⟩)) 0 rfl rfl rfl (by kernel_rfl) (fun w hst => x_load rfl Try.isAgg61 (hst.bc2 rfl)) ?_
       refine wsr (.pointer (some ⟨b651, 0, none⟩)) 2 rfl rfl rfl (by kernel_rfl) (fun w hst => x_load rfl Try.isAgg61 (hst.bc2 rfl)) ?_
       refine ws_e1 1 (by kernel_rfl) ?_
       refine nxe [3, 4, 5, 6] (by kernel_rfl) rfl rfl ?_
       clear hst
       intro w hst
       replace hst := hst.pull1
       obtain ⟨t760, ht761, hm⟩ := bind_some hm
       refine we_call rfl (x_call Try.call40 rfl (vs := [.pointer (some ⟨b651, 0, none⟩), .int .i64 (8:Int)]) rfl) ?_
       refine (octet_Reader_Num_ref hst.to1 ht761).mono ?_
       rintro _ w762 ⟨rfl, hst⟩
       refine ⟨_, rfl, ?_⟩
       replace hst := hst.of1
       refine ws_next (pend' := [(2, .pointer (some ⟨b651, 0, none⟩))]) hst (by kernel_rfl) (pkr rfl rfl (fun w hst => x_load rfl Try.isAgg61 (hst.bc2 rfl)) pk_nil) ?_
       refine ws_e1 3 (by kernel_rfl) ?_
       refine nxe [4, 5, 6] (by kernel_rfl) rfl rfl ?_
       clear hst
       intro w hst
       obtain ⟨t765, ht766, hm⟩ := bind_some hm
       refine we_call rfl (x_call Try.call40 rfl (vs := [.pointer (some ⟨b651, 0, none⟩), .int .i64 (8:Int)]) rfl) ?_
       refine (octet_Reader_Num_ref hst.to1 ht766).mono ?_
       rintro _ w767 ⟨rfl, hst⟩
       refine ⟨_, rfl, ?_⟩
       replace hst := hst.of1
       refine ws_next (pend' := []) hst (by kernel_rfl) pk_nil ?_
       refine wsr (.agg #[.int .u64 t760.1, .int .u64 t765.1]) 4 rfl rfl rfl (by kernel_rfl) (fun w hst => by kernel_rfl) ?_
       refine wsr (.pointer (some ⟨b678, 1, none⟩)) 5 rfl rfl rfl (by kernel_rfl) (fun w hst => x_field rfl Try.underlying45 rfl Try.sizeOf29 rfl) ?_
       refine ws_e1 6 (by kernel_rfl) ?_
       refine nxe [] (by kernel_rfl) rfl rfl ?_
       clear hst
       intro w hst
       replace hst := hst.pull1
       obtain ⟨w770, hr771, hst⟩ := hst.boxStore (P := Try.prog) (t := 29) (cs' := [.int .u8 (IntKind.u8.wrap t657.1), .int .u64 t760.1, .int .u64 t765.1, .int .u64 (0:Int), .int .u64 (0:Int), .int .i64 (0:Int), .int .u64 (0:Int), .int .u64 (0:Int), .int .u64 (0:Int), (.slice none 0 0), (.slice none 0 0), (.slice none 0 0), (.slice none 0 0), (.slice none 0 0), .int .i64 (0:Int), .int .u64 (0:Int), .int .u64 (0:Int), (.slice none 0 0), (.slice none 0 0), .int .u64 (0:Int), (.slice none 0 0), .int .u64 (0:Int), .int .i64 (0:Int), .int .i64 (0:Int), .float .f64 (0:Nat), .float .f64 (0:Nat), .int .u64 (0:Int), .int .i64 (0:Int), .bool false]) 1 (.agg #[.int .u64 t760.1, .int .u64 t765.1]) Try.sizeOf29 (Nat.le_of_ble_eq_true rfl) (ones_cons rfl (ones_cons rfl ones_nil)) (by kernel_rfl)
       refine we_unit rfl (x_unit hr771) ?_
       refine ws_next (pend' := []) hst (by kernel_rfl) pk_nil ?_
       refine ws_nil ?_
       intro w hst
       refine post_end (vs := []) Try.results52 rvs_nil ?_
       replace hst := hst.pull2
       replace hst := hst.pull2
       replace hst := hst.pull3
       replace hst := hst.keep4
       obtain rfl := some_inj hm
       exact ⟨t765.2, t760.1, t765.1, rfl, rfl, hst⟩
      clear hst
      rintro _ w778 ⟨z772, z773, z774, rfl, rfl, hst⟩
      refine ⟨_, rfl, ?_⟩
      try dsimp only at hm
      refine wl_nil (then_n (wp_seq ?_))
      refine wp_region_St hst 8 [0, 1, 2, 3, 4, 5, 6, 7] [0, 1, 0, 7, 3, 31, 63, 127] [] rfl (by kernel_rfl) (by kernel_rfl) Try.mixed (by kernel_rfl) ?_
      refine wsr (.pointer (some ⟨b651, 0, none⟩)) 0 rfl rfl rfl (by kernel_rfl) (fun w hst => x_load rfl Try.isAgg61 (hst.bc2 rfl)) ?_
      refine wsr (.pointer (some ⟨b651, 0, none⟩)) 2 rfl rfl rfl (by kernel_rfl) (fun w hst => x_load rfl Try.isAgg61 (hst.bc2 rfl)) ?_
      refine ws_e1 1 (by kernel_rfl) ?_
      refine nxe [3, 4, 5, 6, 7] (by kernel_rfl) rfl rfl ?_
      clear hst
      intro w hst
      replace hst := hst.pull1
      obtain ⟨t779, ht780, hm⟩ := bind_some hm
      refine we_call rfl (x_call Try.call40 rfl (vs := [.pointer (some ⟨b651, 0, none⟩), .int .i64 (8:Int)]) rfl) ?_
      refine (octet_Reader_Num_ref hst.to1 ht780).mono ?_
      rintro _ w781 ⟨rfl, hst⟩
      refine ⟨_, rfl, ?_⟩
      replace hst := hst.of1
      refine ws_next (pend' := [(2, .pointer (some ⟨b651, 0, none⟩))]) hst (by kernel_rfl) (pkr rfl rfl (fun w hst => x_load rfl Try.isAgg61 (hst.bc2 rfl)) pk_nil) ?_
      refine wsr (.pointer (some ⟨b678, 3, none⟩)) 4 rfl rfl rfl (by kernel_rfl) (fun w hst => x_field rfl Try.underlying45 rfl Try.sizeOf27 rfl) ?_
      refine ws_e1 3 (by kernel_rfl) ?_
      refine nxe [5, 6, 7] (by kernel_rfl) rfl rfl ?_
      clear hst
      intro w hst
      obtain ⟨t784, ht785, hm⟩ := bind_some hm
      refine we_call rfl (x_call Try.call40 rfl (vs := [.pointer (some ⟨b651, 0, none⟩), .int .i64 (2:Int)]) rfl) ?_
      refine (octet_Reader_Num_ref hst.to1 ht785).mono ?_
      rintro _ w786 ⟨rfl, hst⟩
      refine ⟨_, rfl, ?_⟩
      replace hst := hst.of1
      refine ws_next (pend' := [(4, .pointer (some ⟨b678, 3, none⟩))]) hst (by kernel_rfl) (pkr rfl rfl (fun w hst => x_field rfl Try.underlying45 rfl Try.sizeOf27 rfl) pk_nil) ?_
      refine ws_e1 5 (by kernel_rfl) ?_
      refine nxe [6, 7] (by kernel_rfl) rfl rfl ?_
      clear hst
      intro w hst
      replace hst := hst.pull3
      obtain ⟨w789, hr790, hst⟩ := hst.boxStore (P := Try.prog) (t := 27) (cs' := [.int .u8 (IntKind.u8.wrap t657.1), .int .u64 z773, .int .u64 z774, .int .u64 t779.1, .int .u64 (0:Int), .int .i64 (0:Int), .int .u64 (0:Int), .int .u64 (0:Int), .int .u64 (0:Int), (.slice none 0 0), (.slice none 0 0), (.slice none 0 0), (.slice none 0 0), (.slice none 0 0), .int .i64 (0:Int), .int .u64 (0:Int), .int .u64 (0:Int), (.slice none 0 0), (.slice none 0 0), .int .u64 (0:Int), (.slice none 0 0), .int .u64 (0:Int), .int .i64 (0:Int), .int .i64 (0:Int), .float .f64 (0:Nat), .float .f64 (0:Nat), .int .u64 (0:Int), .int .i64 (0:Int), .bool false]) 3 (.int .u64 t779.1) Try.sizeOf27 (Nat.le_of_ble_eq_true rfl) (ones_cons rfl ones_nil) (by kernel_rfl)
      refine we_unit rfl (x_unit hr790) ?_
      refine ws_next (pend' := []) hst (by kernel_rfl) pk_nil ?_
      refine wsr (.pointer (some ⟨b678, 19, none⟩)) 6 rfl rfl rfl (by kernel_rfl) (fun w hst => x_field rfl Try.underlying45 rfl Try.sizeOf27 rfl) ?_
      refine ws_e1 7 (by kernel_rfl) ?_
      refine nxe [] (by kernel_rfl) rfl rfl ?_
      clear hst
      intro w hst
      obtain ⟨w791, hr792, hst⟩ := hst.boxStore (P := Try.prog) (t := 27) (cs' := [.int .u8 (IntKind.u8.wrap t657.1), .int .u64 z773, .int .u64 z774, .int .u64 t779.1, .int .u64 (0:Int), .int .i64 (0:Int), .int .u64 (0:Int), .int .u64 (0:Int), .int .u64 (0:Int), (.slice none 0 0), (.slice none 0 0), (.slice none 0 0), (.slice none 0 0), (.slice none 0 0), .int .i64 (0:Int), .int .u64 (0:Int), .int .u64 (0:Int), (.slice none 0 0), (.slice none 0 0), .int .u64 t784.1, (.slice none 0 0), .int .u64 (0:Int), .int .i64 (0:Int), .int .i64 (0:Int), .float .f64 (0:Nat), .float .f64 (0:Nat), .int .u64 (0:Int), .int .i64 (0:Int), .bool false]) 19 (.int .u64 t784.1) Try.sizeOf27 (Nat.le_of_ble_eq_true rfl) (ones_cons rfl ones_nil) (by kernel_rfl)
      refine we_unit rfl (x_unit hr792) ?_
      refine ws_next (pend' := []) hst (by kernel_rfl) pk_nil ?_
      refine ws_nil ?_
      intro w hst
      refine then_n ?_
      obtain ⟨y940, hm, hx941⟩ := bind_some hm
      refine wp_cut (fun a w => ∃ (I937 : HL) (z933 : octet_Reader) (z936 : (List api_Part)) (v935 : Value) (σ938 : Nat → Value), (command_Decode_j1 z773 z774 t779 t784) (z933, z936) = some y1102 ∧ a = Fr 113 (upd (upd (upd (upd σ938 0 (r0_0)) 2 (.pointer (some ⟨b634, 0, none⟩))) 4 (.pointer (some ⟨b646, 0, none⟩))) 5 (.pointer (some ⟨b678, 0, none⟩))) ∧ I.le I937 ∧ St w0 w I937 [cells b634 [.int .u8 (0:Int), .int .u64 (0:Int), .int .u64 (0:Int), .int .u64 (0:Int), .int .u64 (0:Int), .int .i64 (0:Int), .int .u64 (0:Int), .int .u64 (0:Int), .int .u64 (0:Int), (.slice none 0 0), (.slice none 0 0), (.slice none 0 0), (.slice none 0 0), (.slice none 0 0), .int .i64 (0:Int), .int .u64 (0:Int), .int .u64 (0:Int), (.slice none 0 0), (.slice none 0 0), .int .u64 (0:Int), (.slice none 0 0), .int .u64 (0:Int), .int .i64 (0:Int), .int .i64 (0:Int), .float .f64 (0:Nat), .float .f64 (0:Nat), .int .u64 (0:Int), .int .i64 (0:Int), .bool false], cells b646 [.pointer (some ⟨b651, 0, none⟩)], at_octet_Reader (.pointer (some ⟨b651, 0, none⟩)) z933, cells b678 [.int .u8 (IntKind.u8.wrap t657.1), .int .u64 z773, .int .u64 z774, .int .u64 t779.1, .int .u64 (0:Int), .int .i64 (0:Int), .int .u64 (0:Int), .int .u64 (0:Int), .int .u64 (0:Int), (.slice none 0 0), (.slice none 0 0), (.slice none 0 0), (.slice none 0 0), (.slice none 0 0), .int .i64 (0:Int), .int .u64 (0:Int), .int .u64 (0:Int), (.slice none 0 0), (.slice none 0 0), .int .u64 t784.1, v935, .int .u64 (0:Int), .int .i64 (0:Int), .int .i64 (0:Int), .float .f64 (0:Nat), .float .f64 (0:Nat), .int .u64 (0:Int), .int .i64 (0:Int), .bool false], ownS ty_api_Part v935 z936] R) ?_ ?_
      ·skip
       have hL942 := HL.le.refl I
       refine wp_seq (wp_region_lit ?_)
       refine wv (.pointer (some ⟨b651, 0, none⟩)) rfl rfl (x_load rfl Try.isAgg61 (hst.bc3 rfl)) ?_
       replace hst := hst.pull1
       obtain ⟨t793, ht794, hm⟩ := bind_some hm
       refine wl_call rfl rfl (x_call Try.call41 rfl (vs := [.pointer (some ⟨b651, 0, none⟩), .int .i64 (8:Int)]) rfl) ?_
       refine (octet_Reader_Count_ref hst.to1 ht794).mono ?_
       rintro _ w795 ⟨rfl, hst⟩
       refine ⟨_, rfl, ?_⟩
       replace hst := hst.of1
       refine wv (.int .i64 (0:Int)) rfl rfl rfl ?_
       refine wl_nil (then_n (wp_block ?_))
       replace hst := hst.own_nil ty_api_Part
       obtain ⟨n897, hm⟩ := loopO_some hm
       refine wp_loop_n (fun n a w => ∃ (I895 : HL) (z890 : (List api_Part)) (z893 : octet_Reader) (z894 : Int) (v891 : Value) (σ896 : Nat → Value), loopN (command_Decode_l2 t793) n (z890, z893, z894) = some y940 ∧ a = Fr 113 (upd (upd (upd (upd (upd (upd σ896 0 (r0_0)) 2 (.pointer (some ⟨b634, 0, none⟩))) 4 (.pointer (some ⟨b646, 0, none⟩))) 5 (.pointer (some ⟨b678, 0, none⟩))) 55 (.int .i64 t793.1)) 56 (.int .i64 z894)) ∧ I.le I895 ∧ St w0 w I895 [ownS ty_api_Part v891 z890, at_octet_Reader (.pointer (some ⟨b651, 0, none⟩)) z893, cells b678 [.int .u8 (IntKind.u8.wrap t657.1), .int .u64 z773, .int .u64 z774, .int .u64 t779.1, .int .u64 (0:Int), .int .i64 (0:Int), .int .u64 (0:Int), .int .u64 (0:Int), .int .u64 (0:Int), (.slice none 0 0), (.slice none 0 0), (.slice none 0 0), (.slice none 0 0), (.slice none 0 0), .int .i64 (0:Int), .int .u64 (0:Int), .int .u64 (0:Int), (.slice none 0 0), (.slice none 0 0), .int .u64 t784.1, v891, .int .u64 (0:Int), .int .i64 (0:Int), .int .i64 (0:Int), .float .f64 (0:Nat), .float .f64 (0:Nat), .int .u64 (0:Int), .int .i64 (0:Int), .bool false], cells b634 [.int .u8 (0:Int), .int .u64 (0:Int), .int .u64 (0:Int), .int .u64 (0:Int), .int .u64 (0:Int), .int .i64 (0:Int), .int .u64 (0:Int), .int .u64 (0:Int), .int .u64 (0:Int), (.slice none 0 0), (.slice none 0 0), (.slice none 0 0), (.slice none 0 0), (.slice none 0 0), .int .i64 (0:Int), .int .u64 (0:Int), .int .u64 (0:Int), (.slice none 0 0), (.slice none 0 0), .int .u64 (0:Int), (.slice none 0 0), .int .u64 (0:Int), .int .i64 (0:Int), .int .i64 (0:Int), .float .f64 (0:Nat), .float .f64 (0:Nat), .int .u64 (0:Int), .int .i64 (0:Int), .bool false], cells b646 [.pointer (some ⟨b651, 0, none⟩)]] R) n897 ⟨_, [], t793.2, (0:Int), (.slice none 0 0), _, hm, ((fr_upd (t := 0) (v := r0_0) rfl).trans ((fr_upd (t := 2) (v := .pointer (some ⟨b634, 0, none⟩)) rfl).trans ((fr_upd (t := 4) (v := .pointer (some ⟨b646, 0, none⟩)) rfl).trans ((fr_upd (t := 5) (v := .pointer (some ⟨b678, 0, none⟩)) rfl).trans ((fr_upd (t := 55) (v := .int .i64 t793.1) rfl).trans ((fr_upd (t := 56) (v := .int .i64 (0:Int)) rfl).trans rfl)))))), (HL.le.refl _), hst⟩ ?_
       rintro n903 _ w898 ⟨I895, z890, z893, z894, v891, σ896, hm, rfl, hL899, hst⟩
       obtain ⟨n900, y901, rfl, hm, hx902⟩ := loopN_some hm
       dsimp only [command_Decode_l2] at hm
       replace f0_0 := f0_0.mono (ro_le hL899)
       replace f654 := f654.mono (ro_le hL899)
       replace hI0 := hI0.trans hL899
       replace hL1104 := hL1104.trans hL899
       replace hL942 := hL942.trans hL899
       refine wp_seq (wp_region_lit ?_)
       refine wv (.bool (decide (z894 < t793.1))) rfl rfl rfl ?_
       refine wl_nil (then_n (wp_seq ?_))
       refine bsplit (decide (z894 < t793.1)) (fun hc904 => ?_) (fun hc904 => ?_)
       ·skip
        replace hm := bif_t hc904 hm
        refine wp_ift (congrArg Value.bool hc904) ?_
        refine wp_skip (then_n (wp_seq (wp_block ?_)))
        refine wp_region_St hst 12 [0, 1, 2, 3, 4, 5, 6, 7, 8, 9, 10, 11] [0, 1, 0, 4, 12, 0, 44, 124, 252, 511, 1023, 2047] [] rfl (by kernel_rfl) (by kernel_rfl) Try.mixed (by kernel_rfl) ?_
        refine wsr (.pointer (some ⟨b678, 20, none⟩)) 0 rfl rfl rfl (by kernel_rfl) (fun w hst => x_field rfl Try.underlying45 rfl Try.sizeOf40 rfl) ?_
        refine wsr (v891) 1 rfl rfl rfl (by kernel_rfl) (fun w hst => x_load rfl Try.isAgg40 (hst.bc2 rfl)) ?_
        refine wsr (.pointer (some ⟨b651, 0, none⟩)) 2 rfl rfl rfl (by kernel_rfl) (fun w hst => x_load rfl Try.isAgg61 (hst.bc4 rfl)) ?_
        refine wsr (.pointer (some ⟨b651, 0, none⟩)) 5 rfl rfl rfl (by kernel_rfl) (fun w hst => x_load rfl Try.isAgg61 (hst.bc4 rfl)) ?_
        refine ws_e1 3 (by kernel_rfl) ?_
        refine nxe [4, 6, 7, 8, 9, 10, 11] (by kernel_rfl) rfl rfl ?_
        clear hst
        intro w hst
        replace hst := hst.pull1
        obtain ⟨t905, ht906, hm⟩ := bind_some hm
        refine we_call rfl (x_call Try.call40 rfl (vs := [.pointer (some ⟨b651, 0, none⟩), .int .i64 (1:Int)]) rfl) ?_
        refine (octet_Reader_Num_ref hst.to1 ht906).mono ?_
        rintro _ w907 ⟨rfl, hst⟩
        refine ⟨_, rfl, ?_⟩
        replace hst := hst.of1
        refine ws_next (pend' := [(5, .pointer (some ⟨b651, 0, none⟩)), (1, v891), (0, .pointer (some ⟨b678, 20, none⟩))]) hst (by kernel_rfl) (pkr rfl rfl (fun w hst => x_load rfl Try.isAgg61 (hst.bc4 rfl)) (pkr rfl rfl (fun w hst => x_load rfl Try.isAgg40 (hst.bc2 rfl)) (pkr rfl rfl (fun w hst => x_field rfl Try.underlying45 rfl Try.sizeOf40 rfl) pk_nil))) ?_
        refine wsr (.int .i64 (IntKind.i64.wrap t905.1)) 4 rfl rfl rfl (by kernel_rfl) (fun w hst => by kernel_rfl) ?_
        refine ws_e1 6 (by kernel_rfl) ?_
        refine nxe [7, 8, 9, 10, 11] (by kernel_rfl) rfl rfl ?_
        clear hst
        intro w hst
        obtain ⟨t910, ht911, hm⟩ := bind_some hm
        refine we_call rfl (x_call Try.call54 rfl (vs := [.pointer (some ⟨b651, 0, none⟩)]) rfl) ?_
        refine (command_readWrites_ref hst.to1 ht911).mono ?_
        rintro _ w912 ⟨I913, v915, rfl, hI914, hst⟩
        refine ⟨_, rfl, ?_⟩
        replace hst := hst.of2
        replace f0_0 := f0_0.mono (ro_le hI914)
        replace f654 := f654.mono (ro_le hI914)
        replace hI0 := hI0.trans hI914
        replace hL1104 := hL1104.trans hI914
        replace hL942 := hL942.trans hI914
        replace hL899 := hL899.trans hI914
        refine ws_next (pend' := [(4, .int .i64 (IntKind.i64.wrap t905.1)), (1, v891), (0, .pointer (some ⟨b678, 20, none⟩))]) hst (by kernel_rfl) (pkr rfl rfl (fun w hst => by kernel_rfl) (pkr rfl rfl (fun w hst => x_load rfl Try.isAgg40 (hst.bc3 rfl)) (pkr rfl rfl (fun w hst => x_field rfl Try.underlying45 rfl Try.sizeOf40 rfl) pk_nil))) ?_
        refine wsr (.agg #[.int .i64 (IntKind.i64.wrap t905.1), v915]) 7 rfl rfl rfl (by kernel_rfl) (fun w hst => by obtain ⟨_, _, hv_, _⟩ := hst.sv0; rw [hv_]; kernel_rfl) ?_
        refine ws_e1 8 (by kernel_rfl) ?_
        refine nxe [9, 10, 11] (by kernel_rfl) rfl rfl ?_
        clear hst
        intro w hst
        obtain ⟨I919, hI920, f921, hst⟩ := hst.own_fix
        replace f0_0 := f0_0.mono (ro_le hI920)
        replace f654 := f654.mono (ro_le hI920)
        replace hI0 := hI0.trans hI920
        replace hL1104 := hL1104.trans hI920
        replace hL942 := hL942.trans hI920
        replace hL899 := hL899.trans hI920
        obtain ⟨b922, w923, ew924, eb925, hst⟩ := hst.lits (E := ty_api_Part) (xs := [({ Shard := (IntKind.i64.wrap t905.1), Writes := t910.1 } : api_Part)]) [[.int .i64 (IntKind.i64.wrap t905.1), v915]] 81 1 rfl (Reps.cons ⟨_, rfl, f921, one_of_sliceV (ro_sliceV f921)⟩ Reps.nil)
        refine we_run (v := (.slice (some ⟨b922, 0, none⟩) 1 1)) (w' := w923) rfl (x_als (by kernel_rfl) ew924 eb925) ?_
        refine ws_next (pend' := [(1, v891), (0, .pointer (some ⟨b678, 20, none⟩))]) hst (by kernel_rfl) (pkr rfl rfl (fun w hst => x_load rfl Try.isAgg40 (hst.bc3 rfl)) (pkr rfl rfl (fun w hst => x_field rfl Try.underlying45 rfl Try.sizeOf40 rfl) pk_nil)) ?_
        refine ws_e1 9 (by kernel_rfl) ?_
        refine nxe [10, 11] (by kernel_rfl) rfl rfl ?_
        clear hst
        intro w hst
        obtain ⟨hg927, hm⟩ := gd_some hm
        replace hst := hst.pull2
        obtain ⟨v928, w929, hr930, hst⟩ := run_append elem_40 Try.underlying40 hst hst.src1 (room_of hg927 rfl) 40
        refine we_run (v := v928) (w' := w929) rfl (x_append rfl rfl hr930) ?_
        refine ws_next (pend' := []) hst (by kernel_rfl) pk_nil ?_
        refine wsr (.pointer (some ⟨b678, 20, none⟩)) 10 rfl rfl rfl (by kernel_rfl) (fun w hst => x_field rfl Try.underlying45 rfl Try.sizeOf40 rfl) ?_
        refine ws_e1 11 (by kernel_rfl) ?_
        refine nxe [] (by kernel_rfl) rfl rfl ?_
        clear hst
        intro w hst
        replace hst := hst.pull3
        obtain ⟨w931, hr932, hst⟩ := hst.boxStore1 (P := Try.prog) (t := 40) (cs' := [.int .u8 (IntKind.u8.wrap t657.1), .int .u64 z773, .int .u64 z774, .int .u64 t779.1, .int .u64 (0:Int), .int .i64 (0:Int), .int .u64 (0:Int), .int .u64 (0:Int), .int .u64 (0:Int), (.slice none 0 0), (.slice none 0 0), (.slice none 0 0), (.slice none 0 0), (.slice none 0 0), .int .i64 (0:Int), .int .u64 (0:Int), .int .u64 (0:Int), (.slice none 0 0), (.slice none 0 0), .int .u64 t784.1, v928, .int .u64 (0:Int), .int .i64 (0:Int), .int .i64 (0:Int), .float .f64 (0:Nat), .float .f64 (0:Nat), .int .u64 (0:Int), .int .i64 (0:Int), .bool false]) 20 v928 (one_of_sliceV hst.sv1) Try.sizeOf40 rfl rfl
        refine we_unit rfl (x_unit hr932) ?_
        refine ws_next (pend' := []) hst (by kernel_rfl) pk_nil ?_
        refine ws_nil ?_
        intro w hst
        refine blk_n (then_n (wp_region_lit ?_))
        refine wv (.int .i64 (IntKind.i64.wrap (z894 + (1:Int)))) rfl rfl rfl ?_
        refine wv (.int .i64 (IntKind.i64.wrap (z894 + (1:Int)))) rfl rfl rfl ?_
        refine wl_nil (then_n ?_)
        replace hst := hst.pull5
        replace hst := hst.pull5
        replace hst := hst.pull2
        replace hst := hst.pull5
        replace hst := hst.pull4
        replace hst := hst.keep5
        obtain rfl := some_inj hm
        exact ⟨_, Nat.lt_succ_self _, _, (z890 ++ ([({ Shard := (IntKind.i64.wrap t905.1), Writes := t910.1 } : api_Part)])), t910.2, (IntKind.i64.wrap (z894 + (1:Int))), v928, _, hx902, ((fr_upd (t := 0) (v := r0_0) rfl).trans ((fr_upd (t := 2) (v := .pointer (some ⟨b634, 0, none⟩)) rfl).trans ((fr_upd (t := 4) (v := .pointer (some ⟨b646, 0, none⟩)) rfl).trans ((fr_upd (t := 5) (v := .pointer (some ⟨b678, 0, none⟩)) rfl).trans ((fr_upd (t := 55) (v := .int .i64 t793.1) rfl).trans ((fr_upd (t := 56) (v := .int .i64 (IntKind.i64.wrap (z894 + (1:Int)))) rfl).trans rfl)))))), hL899, hst⟩
       ·skip
        replace hm := bif_f hc904 hm
        refine wp_iff (congrArg Value.bool hc904) ?_
        refine wp_exit (then_x (then_x ?_))
        replace hm := inr_up hm hx902
        refine blk_x (then_n ?_)
        replace hst := hst.pull2
        replace hst := hst.pull2
        replace hst := hst.pull4
        replace hst := hst.pull4
        replace hst := hst.keep5
        obtain rfl := some_inj hm
        exact ⟨_, z893, z890, v891, _, hx941, ((fr_upd (t := 0) (v := r0_0) rfl).trans ((fr_upd (t := 2) (v := .pointer (some ⟨b634, 0, none⟩)) rfl).trans ((fr_upd (t := 4) (v := .pointer (some ⟨b646, 0, none⟩)) rfl).trans ((fr_upd (t := 5) (v := .pointer (some ⟨b678, 0, none⟩)) rfl).trans rfl)))), hL942, hst⟩
      ·skip
       clear hst
       rintro _ w943 ⟨I937, z933, z936, v935, σ938, hm, rfl, hL939, hst⟩
       dsimp only [command_Decode_j1] at hm
       replace f0_0 := f0_0.mono (ro_le hL939)
       replace f654 := f654.mono (ro_le hL939)
       replace hI0 := hI0.trans hL939
       replace hL1104 := hL1104.trans hL939
       refine wp_region_lit ?_
       refine wv (.pointer (some ⟨b651, 0, none⟩)) rfl rfl (x_load rfl Try.isAgg61 (hst.bc1 rfl)) ?_
       replace hst := hst.pull2
       obtain ⟨t944, ht945, hm⟩ := bind_some hm
       refine wl_call rfl rfl (x_call Try.call16 rfl (vs := [.pointer (some ⟨b651, 0, none⟩)]) rfl) ?_
       refine (command_ReadReply_ref hst.to1 ht945).mono ?_
       rintro _ w946 ⟨I947, v949, v951, rfl, hI948, hst⟩
       refine ⟨_, rfl, ?_⟩
       replace hst := hst.of3
       replace f0_0 := f0_0.mono (ro_le hI948)
       replace f654 := f654.mono (ro_le hI948)
       replace hI0 := hI0.trans hI948
       replace hL1104 := hL1104.trans hI948
       refine wv (.pointer (some ⟨b678, 14, none⟩)) rfl rfl (x_field rfl Try.underlying45 rfl Try.sizeOf39 rfl) ?_
       replace hst := hst.pull5
       obtain ⟨w953, hr954, hst⟩ := hst.boxStore (P := Try.prog) (t := 39) (cs' := [.int .u8 (IntKind.u8.wrap t657.1), .int .u64 z773, .int .u64 z774, .int .u64 t779.1, .int .u64 (0:Int), .int .i64 (0:Int), .int .u64 (0:Int), .int .u64 (0:Int), .int .u64 (0:Int), (.slice none 0 0), (.slice none 0 0), (.slice none 0 0), (.slice none 0 0), (.slice none 0 0), .int .i64 t944.1.E, .int .u64 t944.1.Epoch, .int .u64 t944.1.Index, v949, v951, .int .u64 t784.1, v935, .int .u64 (0:Int), .int .i64 (0:Int), .int .i64 (0:Int), .float .f64 (0:Nat), .float .f64 (0:Nat), .int .u64 (0:Int), .int .i64 (0:Int), .bool false]) 14 (.agg #[.int .i64 t944.1.E, .int .u64 t944.1.Epoch, .int .u64 t944.1.Index, v949, v951]) Try.sizeOf39 (Nat.le_of_ble_eq_true rfl) (ones_cons rfl (ones_cons rfl (ones_cons rfl (ones_cons (one_of_sliceV hst.sv1) (ones_cons (one_of_sliceV hst.sv2) ones_nil))))) (by kernel_rfl)
       refine wl_unit rfl rfl (x_unit hr954) ?_
       refine wl_nil (blk_n (then_n ?_))
       replace hst := hst.own_nil tyF64
       replace hst := hst.own_nil tyF2
       replace hst := hst.own_nil tyF64
       replace hst := hst.own_nil (tyInt .u8)
       replace hst := hst.own_nil ty_api_Write
       replace hst := hst.pull11
       replace hst := hst.pull8
       replace hst := hst.pull8
       replace hst := hst.pull3
       replace hst := hst.pull4
       replace hst := hst.pull5
       replace hst := hst.pull6
       replace hst := hst.pull7
       replace hst := hst.pull8
       replace hst := hst.pull9
       replace hst := hst.pull11
       replace hst := hst.pull11
       replace hst := hst.keep12
       obtain rfl := some_inj hm
       exact ⟨_, t944.2, z773, z774, t779.1, (0:Int), (0:Int), (0:Int), (0:Int), (0:Int), ([]), ([]), ([]), ([]), ([]), t944.1.E, t944.1.Epoch, t944.1.Index, t944.1.Gots, t944.1.Scans, t784.1, z936, (0:Int), (0:Int), (0:Int), (0:Nat), (0:Nat), (0:Int), (0:Int), false, (.slice none 0 0), (.slice none 0 0), (.slice none 0 0), (.slice none 0 0), (.slice none 0 0), v949, v951, v935, _, hx1103, ((fr_upd (t := 0) (v := r0_0) rfl).trans ((fr_upd (t := 2) (v := .pointer (some ⟨b634, 0, none⟩)) rfl).trans ((fr_upd (t := 4) (v := .pointer (some ⟨b646, 0, none⟩)) rfl).trans ((fr_upd (t := 5) (v := .pointer (some ⟨b678, 0, none⟩)) rfl).trans rfl)))), hL1104, hst⟩
     ·skip
      replace hm := bif_f hc759 hm
      refine wp_iff (congrArg Value.bool hc759) ?_
      refine wp_seq (wp_region_lit ?_)
      refine wv (.bool ((IntKind.u8.wrap t657.1) == (5:Int))) rfl rfl rfl ?_
      refine wv (.bool ((IntKind.u8.wrap t657.1) == (5:Int))) rfl rfl rfl ?_
      refine wl_nil (then_n ?_)
      refine bsplit ((IntKind.u8.wrap t657.1) == (5:Int)) (fun hc955 => ?_) (fun hc955 => ?_)
      ·skip
       replace hm := bif_t hc955 hm
       refine wp_ift (congrArg Value.bool hc955) ?_
       refine wp_region_lit ?_
       refine wv (.func (.func 52) #[] #[.pointer (some ⟨b646, 0, none⟩), .pointer (some ⟨b678, 0, none⟩)]) rfl rfl rfl ?_
       obtain ⟨y972, hq973, hm⟩ := bind_some hm
       refine wl_call rfl rfl (x_callv Try.call52 (caps := [.pointer (some ⟨b646, 0, none⟩), .pointer (some ⟨b678, 0, none⟩)]) rfl (vs := []) rfl) ?_
       refine Calls.mono (show Calls Try.prog 52 #[.pointer (some ⟨b646, 0, none⟩), .pointer (some ⟨b678, 0, none⟩)] _ (fun e w' => ∃ (z968 : octet_Reader) (z969 : Int) (z970 : Int), y972 = (z968, z969, z970) ∧ e = .returned (.tuple #[]) ∧ St w0 w' I [cells b634 [.int .u8 (0:Int), .int .u64 (0:Int), .int .u64 (0:Int), .int .u64 (0:Int), .int .u64 (0:Int), .int .i64 (0:Int), .int .u64 (0:Int), .int .u64 (0:Int), .int .u64 (0:Int), (.slice none 0 0), (.slice none 0 0), (.slice none 0 0), (.slice none 0 0), (.slice none 0 0), .int .i64 (0:Int), .int .u64 (0:Int), .int .u64 (0:Int), (.slice none 0 0), (.slice none 0 0), .int .u64 (0:Int), (.slice none 0 0), .int .u64 (0:Int), .int .i64 (0:Int), .int .i64 (0:Int), .float .f64 (0:Nat), .float .f64 (0:Nat), .int .u64 (0:Int), .int .i64 (0:Int), .bool false], at_octet_Reader (.pointer (some ⟨b651, 0, none⟩)) z968, cells b646 [.pointer (some ⟨b651, 0, none⟩)], cells b678 [.int .u8 (IntKind.u8.wrap t657.1), .int .u64 z969, .int .u64 z970, .int .u64 (0:Int), .int .u64 (0:Int), .int .i64 (0:Int), .int .u64 (0:Int), .int .u64 (0:Int), .int .u64 (0:Int), (.slice none 0 0), (.slice none 0 0), (.slice none 0 0), (.slice none 0 0), (.slice none 0 0), .int .i64 (0:Int), .int .u64 (0:Int), .int .u64 (0:Int), (.slice none 0 0), (.slice none 0 0), .int .u64 (0:Int), (.slice none 0 0), .int .u64 (0:Int), .int .i64 (0:Int), .int .i64 (0:Int), .float .f64 (0:Nat), .float .f64 (0:Nat), .int .u64 (0:Int), .int .i64 (0:Int), .bool false]] R) from ?_) ?_
       ·skip
        clear hm; have hm := hq973
        refine calls_start (args := [.pointer (some ⟨b646, 0, none⟩), .pointer (some ⟨b678, 0, none⟩)]) Try.func52 rfl Try.ntmps52 (Nat.le_of_ble_eq_true rfl) ?_
        refine wp_region_St hst 7 [0, 1, 2, 3, 4, 5, 6] [0, 1, 0, 7, 15, 31, 63] [] rfl (by kernel_rfl) (by kernel_rfl) Try.mixed (by kernel_rfl) ?_
        refine wsr (.pointer (some ⟨b651, 0, none⟩)) 0 rfl rfl rfl (by kernel_rfl) (fun w hst => x_load rfl Try.isAgg61 (hst.bc2 rfl)) ?_
        refine wsr (.pointer (some ⟨b651, 0, none⟩)) 2 rfl rfl rfl (by kernel_rfl) (fun w hst => x_load rfl Try.isAgg61 (hst.bc2 rfl)) ?_
        refine ws_e1 1 (by kernel_rfl) ?_
        refine nxe [3, 4, 5, 6] (by kernel_rfl) rfl rfl ?_
        clear hst
        intro w hst
        replace hst := hst.pull1
        obtain ⟨t956, ht957, hm⟩ := bind_some hm
        refine we_call rfl (x_call Try.call40 rfl (vs := [.pointer (some ⟨b651, 0, none⟩), .int .i64 (8:Int)]) rfl) ?_
        refine (octet_Reader_Num_ref hst.to1 ht957).mono ?_
        rintro _ w958 ⟨rfl, hst⟩
        refine ⟨_, rfl, ?_⟩
        replace hst := hst.of1
        refine ws_next (pend' := [(2, .pointer (some ⟨b651, 0, none⟩))]) hst (by kernel_rfl) (pkr rfl rfl (fun w hst => x_load rfl Try.isAgg61 (hst.bc2 rfl)) pk_nil) ?_
        refine ws_e1 3 (by kernel_rfl) ?_
        refine nxe [4, 5, 6] (by kernel_rfl) rfl rfl ?_
        clear hst
        intro w hst
        obtain ⟨t961, ht962, hm⟩ := bind_some hm
        refine we_call rfl (x_call Try.call40 rfl (vs := [.pointer (some ⟨b651, 0, none⟩), .int .i64 (8:Int)]) rfl) ?_
        refine (octet_Reader_Num_ref hst.to1 ht962).mono ?_
        rintro _ w963 ⟨rfl, hst⟩
        refine ⟨_, rfl, ?_⟩
        replace hst := hst.of1
        refine ws_next (pend' := []) hst (by kernel_rfl) pk_nil ?_
        refine wsr (.agg #[.int .u64 t956.1, .int .u64 t961.1]) 4 rfl rfl rfl (by kernel_rfl) (fun w hst => by kernel_rfl) ?_
        refine wsr (.pointer (some ⟨b678, 1, none⟩)) 5 rfl rfl rfl (by kernel_rfl) (fun w hst => x_field rfl Try.underlying45 rfl Try.sizeOf29 rfl) ?_
        refine ws_e1 6 (by kernel_rfl) ?_
        refine nxe [] (by kernel_rfl) rfl rfl ?_
        clear hst
        intro w hst
        replace hst := hst.pull1
        obtain ⟨w966, hr967, hst⟩ := hst.boxStore (P := Try.prog) (t := 29) (cs' := [.int .u8 (IntKind.u8.wrap t657.1), .int .u64 t956.1, .int .u64 t961.1, .int .u64 (0:Int), .int .u64 (0:Int), .int .i64 (0:Int), .int .u64 (0:Int), .int .u64 (0:Int), .int .u64 (0:Int), (.slice none 0 0), (.slice none 0 0), (.slice none 0 0), (.slice none 0 0), (.slice none 0 0), .int .i64 (0:Int), .int .u64 (0:Int), .int .u64 (0:Int), (.slice none 0 0), (.slice none 0 0), .int .u64 (0:Int), (.slice none 0 0), .int .u64 (0:Int), .int .i64 (0:Int), .int .i64 (0:Int), .float .f64 (0:Nat), .float .f64 (0:Nat), .int .u64 (0:Int), .int .i64 (0:Int), .bool false]) 1 (.agg #[.int .u64 t956.1, .int .u64 t961.1]) Try.sizeOf29 (Nat.le_of_ble_eq_true rfl) (ones_cons rfl (ones_cons rfl ones_nil)) (by kernel_rfl)
        refine we_unit rfl (x_unit hr967) ?_
        refine ws_next (pend' := []) hst (by kernel_rfl) pk_nil ?_
        refine ws_nil ?_
        intro w hst
        refine post_end (vs := []) Try.results52 rvs_nil ?_
        replace hst := hst.pull2
        replace hst := hst.pull2
        replace hst := hst.pull3
        replace hst := hst.keep4
        obtain rfl := some_inj hm
        exact ⟨t961.2, t956.1, t961.1, rfl, rfl, hst⟩
       clear hst
       rintro _ w974 ⟨z968, z969, z970, rfl, rfl, hst⟩
       refine ⟨_, rfl, ?_⟩
       try dsimp only at hm
       refine wl_nil (blk_n (then_n ?_))
       replace hst := hst.own_nil tyF64
       replace hst := hst.own_nil tyF2
       replace hst := hst.own_nil tyF64
       replace hst := hst.own_nil (tyInt .u8)
       replace hst := hst.own_nil ty_api_Write
       replace hst := hst.own_nil ty_api_Got
       replace hst := hst.own_nil (tySl ty_api_Pair)
       replace hst := hst.own_nil ty_api_Part
       replace hst := hst.pull1
       replace hst := hst.pull2
       replace hst := hst.pull3
       replace hst := hst.pull4
       replace hst := hst.pull5
       replace hst := hst.pull6
       replace hst := hst.pull7
       replace hst := hst.pull11
       replace hst := hst.pull10
       replace hst := hst.pull11
       replace hst := hst.pull11
       replace hst := hst.keep12
       obtain rfl := some_inj hm
       exact ⟨_, z968, z969, z970, (0:Int), (0:Int), (0:Int), (0:Int), (0:Int), (0:Int), ([]), ([]), ([]), ([]), ([]), (0:Int), (0:Int), (0:Int), ([]), ([]), (0:Int), ([]), (0:Int), (0:Int), (0:Int), (0:Nat), (0:Nat), (0:Int), (0:Int), false, (.slice none 0 0), (.slice none 0 0), (.slice none 0 0), (.slice none 0 0), (.slice none 0 0), (.slice none 0 0), (.slice none 0 0), (.slice none 0 0), _, hx1103, ((fr_upd (t := 0) (v := r0_0) rfl).trans ((fr_upd (t := 2) (v := .pointer (some ⟨b634, 0, none⟩)) rfl).trans ((fr_upd (t := 4) (v := .pointer (some ⟨b646, 0, none⟩)) rfl).trans ((fr_upd (t := 5) (v := .pointer (some ⟨b678, 0, none⟩)) rfl).trans rfl)))), hL1104, hst⟩
      ·skip
       replace hm := bif_f hc955 hm
       refine wp_iff (congrArg Value.bool hc955) ?_
       refine wp_seq (wp_region_lit ?_)
       refine wv (.bool ((IntKind.u8.wrap t657.1) == (6:Int))) rfl rfl rfl ?_
       refine wv (.bool ((IntKind.u8.wrap t657.1) == (6:Int))) rfl rfl rfl ?_
       refine wl_nil (then_n ?_)
       refine bsplit ((IntKind.u8.wrap t657.1) == (6:Int)) (fun hc975 => ?_) (fun hc975 => ?_)
       ·skip
        replace hm := bif_t hc975 hm
        refine wp_ift (congrArg Value.bool hc975) ?_
        refine wp_seq (wp_region_lit ?_)
        refine wv (.pointer (some ⟨b651, 0, none⟩)) rfl rfl (x_load rfl Try.isAgg61 (hst.bc2 rfl)) ?_
        replace hst := hst.pull1
        obtain ⟨t976, ht977, hm⟩ := bind_some hm
        refine wl_call rfl rfl (x_call Try.call55 rfl (vs := [.pointer (some ⟨b651, 0, none⟩)]) rfl) ?_
        refine (command_readRule_ref hst.to1 ht977).mono ?_
        rintro _ w978 ⟨rfl, hst⟩
        refine ⟨_, rfl, ?_⟩
        replace hst := hst.of1
        refine wv (.pointer (some ⟨b678, 21, none⟩)) rfl rfl (x_field rfl Try.underlying45 rfl Try.sizeOf43 rfl) ?_
        replace hst := hst.pull1
        obtain ⟨w981, hr982, hst⟩ := hst.boxStore (P := Try.prog) (t := 43) (cs' := [.int .u8 (IntKind.u8.wrap t657.1), .int .u64 (0:Int), .int .u64 (0:Int), .int .u64 (0:Int), .int .u64 (0:Int), .int .i64 (0:Int), .int .u64 (0:Int), .int .u64 (0:Int), .int .u64 (0:Int), (.slice none 0 0), (.slice none 0 0), (.slice none 0 0), (.slice none 0 0), (.slice none 0 0), .int .i64 (0:Int), .int .u64 (0:Int), .int .u64 (0:Int), (.slice none 0 0), (.slice none 0 0), .int .u64 (0:Int), (.slice none 0 0), .int .u64 t976.1.ID, .int .i64 t976.1.From, .int .i64 t976.1.To, .float .f64 t976.1.Lo, .float .f64 t976.1.Hi, .int .u64 t976.1.Authority, .int .i64 t976.1.Quota, .bool false]) 21 (.agg #[.int .u64 t976.1.ID, .int .i64 t976.1.From, .int .i64 t976.1.To, .float .f64 t976.1.Lo, .float .f64 t976.1.Hi, .int .u64 t976.1.Authority, .int .i64 t976.1.Quota]) Try.sizeOf43 (Nat.le_of_ble_eq_true rfl) (ones_cons rfl (ones_cons rfl (ones_cons rfl (ones_cons rfl (ones_cons rfl (ones_cons rfl (ones_cons rfl ones_nil))))))) (by kernel_rfl)
        refine wl_unit rfl rfl (x_unit hr982) ?_
        refine wl_nil (then_n (wp_region_lit ?_))
        refine wv (.pointer (some ⟨b651, 0, none⟩)) rfl rfl (x_load rfl Try.isAgg61 (hst.bc2 rfl)) ?_
        replace hst := hst.pull1
        obtain ⟨t983, ht984, hm⟩ := bind_some hm
        refine wl_call rfl rfl (x_call Try.call42 rfl (vs := [.pointer (some ⟨b651, 0, none⟩)]) rfl) ?_
        refine (octet_Reader_Flag_ref hst.to1 ht984).mono ?_
        rintro _ w985 ⟨rfl, hst⟩
        refine ⟨_, rfl, ?_⟩
        replace hst := hst.of1
        refine wv (.pointer (some ⟨b678, 28, none⟩)) rfl rfl (x_field rfl Try.underlying45 rfl Try.sizeOf4 rfl) ?_
        replace hst := hst.pull1
        obtain ⟨w988, hr989, hst⟩ := hst.boxStore (P := Try.prog) (t := 4) (cs' := [.int .u8 (IntKind.u8.wrap t657.1), .int .u64 (0:Int), .int .u64 (0:Int), .int .u64 (0:Int), .int .u64 (0:Int), .int .i64 (0:Int), .int .u64 (0:Int), .int .u64 (0:Int), .int .u64 (0:Int), (.slice none 0 0), (.slice none 0 0), (.slice none 0 0), (.slice none 0 0), (.slice none 0 0), .int .i64 (0:Int), .int .u64 (0:Int), .int .u64 (0:Int), (.slice none 0 0), (.slice none 0 0), .int .u64 (0:Int), (.slice none 0 0), .int .u64 t976.1.ID, .int .i64 t976.1.From, .int .i64 t976.1.To, .float .f64 t976.1.Lo, .float .f64 t976.1.Hi, .int .u64 t976.1.Authority, .int .i64 t976.1.Quota, .bool t983.1]) 28 (.bool t983.1) Try.sizeOf4 (Nat.le_of_ble_eq_true rfl) (ones_cons rfl ones_nil) (by kernel_rfl)
        refine wl_unit rfl rfl (x_unit hr989) ?_
        refine wl_nil (blk_n (then_n ?_))
        replace hst := hst.own_nil tyF64
        replace hst := hst.own_nil tyF2
        replace hst := hst.own_nil tyF64
        replace hst := hst.own_nil (tyInt .u8)
        replace hst := hst.own_nil ty_api_Write
        replace hst := hst.own_nil ty_api_Got
        replace hst := hst.own_nil (tySl ty_api_Pair)
        replace hst := hst.own_nil ty_api_Part
        replace hst := hst.pull1
        replace hst := hst.pull2
        replace hst := hst.pull3
        replace hst := hst.pull4
        replace hst := hst.pull5
        replace hst := hst.pull6
        replace hst := hst.pull7
        replace hst := hst.pull8
        replace hst := hst.pull9
        replace hst := hst.pull10
        replace hst := hst.pull11
        replace hst := hst.keep12
        obtain rfl := some_inj hm
        exact ⟨_, t983.2, (0:Int), (0:Int), (0:Int), (0:Int), (0:Int), (0:Int), (0:Int), (0:Int), ([]), ([]), ([]), ([]), ([]), (0:Int), (0:Int), (0:Int), ([]), ([]), (0:Int), ([]), t976.1.ID, t976.1.From, t976.1.To, t976.1.Lo, t976.1.Hi, t976.1.Authority, t976.1.Quota, t983.1, (.slice none 0 0), (.slice none 0 0), (.slice none 0 0), (.slice none 0 0), (.slice none 0 0), (.slice none 0 0), (.slice none 0 0), (.slice none 0 0), _, hx1103, ((fr_upd (t := 0) (v := r0_0) rfl).trans ((fr_upd (t := 2) (v := .pointer (some ⟨b634, 0, none⟩)) rfl).trans ((fr_upd (t := 4) (v := .pointer (some ⟨b646, 0, none⟩)) rfl).trans ((fr_upd (t := 5) (v := .pointer (some ⟨b678, 0, none⟩)) rfl).trans rfl)))), hL1104, hst⟩
       ·skip
        replace hm := bif_f hc975 hm
        refine wp_iff (congrArg Value.bool hc975) ?_
        refine wp_seq (wp_region_lit ?_)
        refine wv (.bool ((IntKind.u8.wrap t657.1) == (7:Int))) rfl rfl rfl ?_
        refine wv (.bool ((IntKind.u8.wrap t657.1) == (7:Int))) rfl rfl rfl ?_
        refine wl_nil (then_n ?_)
        refine bsplit ((IntKind.u8.wrap t657.1) == (7:Int)) (fun hc990 => ?_) (fun hc990 => ?_)
        ·skip
         replace hm := bif_t hc990 hm
         refine wp_ift (congrArg Value.bool hc990) ?_
         refine wp_seq (wp_region_lit ?_)
         refine wv (.func (.func 52) #[] #[.pointer (some ⟨b646, 0, none⟩), .pointer (some ⟨b678, 0, none⟩)]) rfl rfl rfl ?_
         obtain ⟨y1007, hq1008, hm⟩ := bind_some hm
         refine wl_call rfl rfl (x_callv Try.call52 (caps := [.pointer (some ⟨b646, 0, none⟩), .pointer (some ⟨b678, 0, none⟩)]) rfl (vs := []) rfl) ?_
         refine Calls.mono (show Calls Try.prog 52 #[.pointer (some ⟨b646, 0, none⟩), .pointer (some ⟨b678, 0, none⟩)] _ (fun e w' => ∃ (z1003 : octet_Reader) (z1004 : Int) (z1005 : Int), y1007 = (z1003, z1004, z1005) ∧ e = .returned (.tuple #[]) ∧ St w0 w' I [cells b634 [.int .u8 (0:Int), .int .u64 (0:Int), .int .u64 (0:Int), .int .u64 (0:Int), .int .u64 (0:Int), .int .i64 (0:Int), .int .u64 (0:Int), .int .u64 (0:Int), .int .u64 (0:Int), (.slice none 0 0), (.slice none 0 0), (.slice none 0 0), (.slice none 0 0), (.slice none 0 0), .int .i64 (0:Int), .int .u64 (0:Int), .int .u64 (0:Int), (.slice none 0 0), (.slice none 0 0), .int .u64 (0:Int), (.slice none 0 0), .int .u64 (0:Int), .int .i64 (0:Int), .int .i64 (0:Int), .float .f64 (0:Nat), .float .f64 (0:Nat), .int .u64 (0:Int), .int .i64 (0:Int), .bool false], at_octet_Reader (.pointer (some ⟨b651, 0, none⟩)) z1003, cells b646 [.pointer (some ⟨b651, 0, none⟩)], cells b678 [.int .u8 (IntKind.u8.wrap t657.1), .int .u64 z1004, .int .u64 z1005, .int .u64 (0:Int), .int .u64 (0:Int), .int .i64 (0:Int), .int .u64 (0:Int), .int .u64 (0:Int), .int .u64 (0:Int), (.slice none 0 0), (.slice none 0 0), (.slice none 0 0), (.slice none 0 0), (.slice none 0 0), .int .i64 (0:Int), .int .u64 (0:Int), .int .u64 (0:Int), (.slice none 0 0), (.slice none 0 0), .int .u64 (0:Int), (.slice none 0 0), .int .u64 (0:Int), .int .i64 (0:Int), .int .i64 (0:Int), .float .f64 (0:Nat), .float .f64 (0:Nat), .int .u64 (0:Int), .int .i64 (0:Int), .bool false]] R) from ?_) ?_
         ·skip
          clear hm; have hm := hq1008
          refine calls_start (args := [.pointer (some ⟨b646, 0, none⟩), .pointer (some ⟨b678, 0, none⟩)]) Try.func52 rfl Try.ntmps52 (Nat.le_of_ble_eq_true rfl) ?_
          refine wp_region_St hst 7 [0, 1, 2, 3, 4, 5, 6] [0, 1, 0, 7, 15, 31, 63] [] rfl (by kernel_rfl) (by kernel_rfl) Try.mixed (by kernel_rfl) ?_
          refine wsr (.pointer (some ⟨b651, 0, none⟩)) 0 rfl rfl rfl (by kernel_rfl) (fun w hst => x_load rfl Try.isAgg61 (hst.bc2 rfl)) ?_
          refine wsr (.pointer (some ⟨b651, 0, none⟩)) 2 rfl rfl rfl (by kernel_rfl) (fun w hst => x_load rfl Try.isAgg61 (hst.bc2 rfl)) ?_
          refine ws_e1 1 (by kernel_rfl) ?_
          refine nxe [3, 4, 5, 6] (by kernel_rfl) rfl rfl ?_
          clear hst
          intro w hst
          replace hst := hst.pull1
          obtain ⟨t991, ht992, hm⟩ := bind_some hm
          refine we_call rfl (x_call Try.call40 rfl (vs := [.pointer (some ⟨b651, 0, none⟩), .int .i64 (8:Int)]) rfl) ?_
          refine (octet_Reader_Num_ref hst.to1 ht992).mono ?_
          rintro _ w993 ⟨rfl, hst⟩
          refine ⟨_, rfl, ?_⟩
          replace hst := hst.of1
          refine ws_next (pend' := [(2, .pointer (some ⟨b651, 0, none⟩))]) hst (by kernel_rfl) (pkr rfl rfl (fun w hst => x_load rfl Try.isAgg61 (hst.bc2 rfl)) pk_nil) ?_
          refine ws_e1 3 (by kernel_rfl) ?_
          refine nxe [4, 5, 6] (by kernel_rfl) rfl rfl ?_
          clear hst
          intro w hst
          obtain ⟨t996, ht997, hm⟩ := bind_some hm
          refine we_call rfl (x_call Try.call40 rfl (vs := [.pointer (some ⟨b651, 0, none⟩), .int .i64 (8:Int)]) rfl) ?_
          refine (octet_Reader_Num_ref hst.to1 ht997).mono ?_
          rintro _ w998 ⟨rfl, hst⟩
          refine ⟨_, rfl, ?_⟩
          replace hst := hst.of1
          refine ws_next (pend' := []) hst (by kernel_rfl) pk_nil ?_
          refine wsr (.agg #[.int .u64 t991.1, .int .u64 t996.1]) 4 rfl rfl rfl (by kernel_rfl) (fun w hst => by kernel_rfl) ?_
          refine wsr (.pointer (some ⟨b678, 1, none⟩)) 5 rfl rfl rfl (by kernel_rfl) (fun w hst => x_field rfl Try.underlying45 rfl Try.sizeOf29 rfl) ?_
          refine ws_e1 6 (by kernel_rfl) ?_
          refine nxe [] (by kernel_rfl) rfl rfl ?_
          clear hst
          intro w hst
          replace hst := hst.pull1
          obtain ⟨w1001, hr1002, hst⟩ := hst.boxStore (P := Try.prog) (t := 29) (cs' := [.int .u8 (IntKind.u8.wrap t657.1), .int .u64 t991.1, .int .u64 t996.1, .int .u64 (0:Int), .int .u64 (0:Int), .int .i64 (0:Int), .int .u64 (0:Int), .int .u64 (0:Int), .int .u64 (0:Int), (.slice none 0 0), (.slice none 0 0), (.slice none 0 0), (.slice none 0 0), (.slice none 0 0), .int .i64 (0:Int), .int .u64 (0:Int), .int .u64 (0:Int), (.slice none 0 0), (.slice none 0 0), .int .u64 (0:Int), (.slice none 0 0), .int .u64 (0:Int), .int .i64 (0:Int), .int .i64 (0:Int), .float .f64 (0:Nat), .float .f64 (0:Nat), .int .u64 (0:Int), .int .i64 (0:Int), .bool false]) 1 (.agg #[.int .u64 t991.1, .int .u64 t996.1]) Try.sizeOf29 (Nat.le_of_ble_eq_true rfl) (ones_cons rfl (ones_cons rfl ones_nil)) (by kernel_rfl)
          refine we_unit rfl (x_unit hr1002) ?_
          refine ws_next (pend' := []) hst (by kernel_rfl) pk_nil ?_
          refine ws_nil ?_
          intro w hst
          refine post_end (vs := []) Try.results52 rvs_nil ?_
          replace hst := hst.pull2
          replace hst := hst.pull2
          replace hst := hst.pull3
          replace hst := hst.keep4
          obtain rfl := some_inj hm
          exact ⟨t996.2, t991.1, t996.1, rfl, rfl, hst⟩
         clear hst
         rintro _ w1009 ⟨z1003, z1004, z1005, rfl, rfl, hst⟩
         refine ⟨_, rfl, ?_⟩
         try dsimp only at hm
         refine wl_nil (then_n (wp_seq (wp_region_lit ?_)))
         refine wv (.pointer (some ⟨b651, 0, none⟩)) rfl rfl (x_load rfl Try.isAgg61 (hst.bc2 rfl)) ?_
         replace hst := hst.pull1
         obtain ⟨t1010, ht1011, hm⟩ := bind_some hm
         refine wl_call rfl rfl (x_call Try.call40 rfl (vs := [.pointer (some ⟨b651, 0, none⟩), .int .i64 (8:Int)]) rfl) ?_
         refine (octet_Reader_Num_ref hst.to1 ht1011).mono ?_
         rintro _ w1012 ⟨rfl, hst⟩
         refine ⟨_, rfl, ?_⟩
         replace hst := hst.of1
         refine wv (.pointer (some ⟨b678, 3, none⟩)) rfl rfl (x_field rfl Try.underlying45 rfl Try.sizeOf27 rfl) ?_
         replace hst := hst.pull3
         obtain ⟨w1015, hr1016, hst⟩ := hst.boxStore (P := Try.prog) (t := 27) (cs' := [.int .u8 (IntKind.u8.wrap t657.1), .int .u64 z1004, .int .u64 z1005, .int .u64 t1010.1, .int .u64 (0:Int), .int .i64 (0:Int), .int .u64 (0:Int), .int .u64 (0:Int), .int .u64 (0:Int), (.slice none 0 0), (.slice none 0 0), (.slice none 0 0), (.slice none 0 0), (.slice none 0 0), .int .i64 (0:Int), .int .u64 (0:Int), .int .u64 (0:Int), (.slice none 0 0), (.slice none 0 0), .int .u64 (0:Int), (.slice none 0 0), .int .u64 (0:Int), .int .i64 (0:Int), .int .i64 (0:Int), .float .f64 (0:Nat), .float .f64 (0:Nat), .int .u64 (0:Int), .int .i64 (0:Int), .bool false]) 3 (.int .u64 t1010.1) Try.sizeOf27 (Nat.le_of_ble_eq_true rfl) (ones_cons rfl ones_nil) (by kernel_rfl)
         refine wl_unit rfl rfl (x_unit hr1016) ?_
         refine wl_nil (then_n (wp_seq (wp_region_lit ?_)))
         refine wv (.pointer (some ⟨b651, 0, none⟩)) rfl rfl (x_load rfl Try.isAgg61 (hst.bc3 rfl)) ?_
         replace hst := hst.pull1
         obtain ⟨t1017, ht1018, hm⟩ := bind_some hm
         refine wl_call rfl rfl (x_call Try.call55 rfl (vs := [.pointer (some ⟨b651, 0, none⟩)]) rfl) ?_
         refine (command_readRule_ref hst.to1 ht1018).mono ?_
         rintro _ w1019 ⟨rfl, hst⟩
         refine ⟨_, rfl, ?_⟩
         replace hst := hst.of1
         refine wv (.pointer (some ⟨b678, 21, none⟩)) rfl rfl (x_field rfl Try.underlying45 rfl Try.sizeOf43 rfl) ?_
         replace hst := hst.pull1
         obtain ⟨w1022, hr1023, hst⟩ := hst.boxStore (P := Try.prog) (t := 43) (cs' := [.int .u8 (IntKind.u8.wrap t657.1), .int .u64 z1004, .int .u64 z1005, .int .u64 t1010.1, .int .u64 (0:Int), .int .i64 (0:Int), .int .u64 (0:Int), .int .u64 (0:Int), .int .u64 (0:Int), (.slice none 0 0), (.slice none 0 0), (.slice none 0 0), (.slice none 0 0), (.slice none 0 0), .int .i64 (0:Int), .int .u64 (0:Int), .int .u64 (0:Int), (.slice none 0 0), (.slice none 0 0), .int .u64 (0:Int), (.slice none 0 0), .int .u64 t1017.1.ID, .int .i64 t1017.1.From, .int .i64 t1017.1.To, .float .f64 t1017.1.Lo, .float .f64 t1017.1.Hi, .int .u64 t1017.1.Authority, .int .i64 t1017.1.Quota, .bool false]) 21 (.agg #[.int .u64 t1017.1.ID, .int .i64 t1017.1.From, .int .i64 t1017.1.To, .float .f64 t1017.1.Lo, .float .f64 t1017.1.Hi, .int .u64 t1017.1.Authority, .int .i64 t1017.1.Quota]) Try.sizeOf43 (Nat.le_of_ble_eq_true rfl) (ones_cons rfl (ones_cons rfl (ones_cons rfl (ones_cons rfl (ones_cons rfl (ones_cons rfl (ones_cons rfl ones_nil))))))) (by kernel_rfl)
         refine wl_unit rfl rfl (x_unit hr1023) ?_
         refine wl_nil (then_n (wp_seq (wp_region_lit ?_)))
         refine wv (.pointer (some ⟨b651, 0, none⟩)) rfl rfl (x_load rfl Try.isAgg61 (hst.bc3 rfl)) ?_
         replace hst := hst.pull1
         obtain ⟨t1024, ht1025, hm⟩ := bind_some hm
         refine wl_call rfl rfl (x_call Try.call54 rfl (vs := [.pointer (some ⟨b651, 0, none⟩)]) rfl) ?_
         refine (command_readWrites_ref hst.to1 ht1025).mono ?_
         rintro _ w1026 ⟨I1027, v1029, rfl, hI1028, hst⟩
         refine ⟨_, rfl, ?_⟩
         replace hst := hst.of2
         replace f0_0 := f0_0.mono (ro_le hI1028)
         replace f654 := f654.mono (ro_le hI1028)
         replace hI0 := hI0.trans hI1028
         replace hL1104 := hL1104.trans hI1028
         refine wv (.pointer (some ⟨b678, 13, none⟩)) rfl rfl (x_field rfl Try.underlying45 rfl Try.sizeOf35 rfl) ?_
         replace hst := hst.pull2
         obtain ⟨w1031, hr1032, hst⟩ := hst.boxStore1 (P := Try.prog) (t := 35) (cs' := [.int .u8 (IntKind.u8.wrap t657.1), .int .u64 z1004, .int .u64 z1005, .int .u64 t1010.1, .int .u64 (0:Int), .int .i64 (0:Int), .int .u64 (0:Int), .int .u64 (0:Int), .int .u64 (0:Int), (.slice none 0 0), (.slice none 0 0), (.slice none 0 0), (.slice none 0 0), v1029, .int .i64 (0:Int), .int .u64 (0:Int), .int .u64 (0:Int), (.slice none 0 0), (.slice none 0 0), .int .u64 (0:Int), (.slice none 0 0), .int .u64 t1017.1.ID, .int .i64 t1017.1.From, .int .i64 t1017.1.To, .float .f64 t1017.1.Lo, .float .f64 t1017.1.Hi, .int .u64 t1017.1.Authority, .int .i64 t1017.1.Quota, .bool false]) 13 v1029 (one_of_sliceV hst.sv1) Try.sizeOf35 rfl rfl
         refine wl_unit rfl rfl (x_unit hr1032) ?_
         refine wl_nil (then_n (wp_region_lit ?_))
         refine wv (.pointer (some ⟨b651, 0, none⟩)) rfl rfl (x_load rfl Try.isAgg61 (hst.bc4 rfl)) ?_
         replace hst := hst.pull2
         obtain ⟨t1033, ht1034, hm⟩ := bind_some hm
         refine wl_call rfl rfl (x_call Try.call16 rfl (vs := [.pointer (some ⟨b651, 0, none⟩)]) rfl) ?_
         refine (command_ReadReply_ref hst.to1 ht1034).mono ?_
         rintro _ w1035 ⟨I1036, v1038, v1040, rfl, hI1037, hst⟩
         refine ⟨_, rfl, ?_⟩
         replace hst := hst.of3
         replace f0_0 := f0_0.mono (ro_le hI1037)
         replace f654 := f654.mono (ro_le hI1037)
         replace hI0 := hI0.trans hI1037
         replace hL1104 := hL1104.trans hI1037
         refine wv (.pointer (some ⟨b678, 14, none⟩)) rfl rfl (x_field rfl Try.underlying45 rfl Try.sizeOf39 rfl) ?_
         replace hst := hst.pull3
         obtain ⟨w1042, hr1043, hst⟩ := hst.boxStore (P := Try.prog) (t := 39) (cs' := [.int .u8 (IntKind.u8.wrap t657.1), .int .u64 z1004, .int .u64 z1005, .int .u64 t1010.1, .int .u64 (0:Int), .int .i64 (0:Int), .int .u64 (0:Int), .int .u64 (0:Int), .int .u64 (0:Int), (.slice none 0 0), (.slice none 0 0), (.slice none 0 0), (.slice none 0 0), v1029, .int .i64 t1033.1.E, .int .u64 t1033.1.Epoch, .int .u64 t1033.1.Index, v1038, v1040, .int .u64 (0:Int), (.slice none 0 0), .int .u64 t1017.1.ID, .int .i64 t1017.1.From, .int .i64 t1017.1.To, .float .f64 t1017.1.Lo, .float .f64 t1017.1.Hi, .int .u64 t1017.1.Authority, .int .i64 t1017.1.Quota, .bool false]) 14 (.agg #[.int .i64 t1033.1.E, .int .u64 t1033.1.Epoch, .int .u64 t1033.1.Index, v1038, v1040]) Try.sizeOf39 (Nat.le_of_ble_eq_true rfl) (ones_cons rfl (ones_cons rfl (ones_cons rfl (ones_cons (one_of_sliceV hst.sv1) (ones_cons (one_of_sliceV hst.sv2) ones_nil))))) (by kernel_rfl)
         refine wl_unit rfl rfl (x_unit hr1043) ?_
         refine wl_nil (blk_n (then_n ?_))
         replace hst := hst.own_nil tyF64
         replace hst := hst.own_nil tyF2
         replace hst := hst.own_nil tyF64
         replace hst := hst.own_nil (tyInt .u8)
         replace hst := hst.own_nil ty_api_Part
         replace hst := hst.pull7
         replace hst := hst.pull7
         replace hst := hst.pull9
         replace hst := hst.pull4
         replace hst := hst.pull5
         replace hst := hst.pull6
         replace hst := hst.pull7
         replace hst := hst.pull8
         replace hst := hst.pull9
         replace hst := hst.pull11
         replace hst := hst.pull11
         replace hst := hst.keep12
         obtain rfl := some_inj hm
         exact ⟨_, t1033.2, z1004, z1005, t1010.1, (0:Int), (0:Int), (0:Int), (0:Int), (0:Int), ([]), ([]), ([]), ([]), t1024.1, t1033.1.E, t1033.1.Epoch, t1033.1.Index, t1033.1.Gots, t1033.1.Scans, (0:Int), ([]), t1017.1.ID, t1017.1.From, t1017.1.To, t1017.1.Lo, t1017.1.Hi, t1017.1.Authority, t1017.1.Quota, false, (.slice none 0 0), (.slice none 0 0), (.slice none 0 0), (.slice none 0 0), v1029, v1038, v1040, (.slice none 0 0), _, hx1103, ((fr_upd (t := 0) (v := r0_0) rfl).trans ((fr_upd (t := 2) (v := .pointer (some ⟨b634, 0, none⟩)) rfl).trans ((fr_upd (t := 4) (v := .pointer (some ⟨b646, 0, none⟩)) rfl).trans ((fr_upd (t := 5) (v := .pointer (some ⟨b678, 0, none⟩)) rfl).trans rfl)))), hL1104, hst⟩
        ·skip
         replace hm := bif_f hc990 hm
         refine wp_iff (congrArg Value.bool hc990) ?_
         refine wp_seq (wp_region_lit ?_)
         refine wv (.agg #[.int .u8 (0:Int), .int .u64 (0:Int), .int .u64 (0:Int), .int .u64 (0:Int), .int .u64 (0:Int), .int .i64 (0:Int), .int .u64 (0:Int), .int .u64 (0:Int), .int .u64 (0:Int), (.slice none 0 0), (.slice none 0 0), (.slice none 0 0), (.slice none 0 0), (.slice none 0 0), .int .i64 (0:Int), .int .u64 (0:Int), .int .u64 (0:Int), (.slice none 0 0), (.slice none 0 0), .int .u64 (0:Int), (.slice none 0 0), .int .u64 (0:Int), .int .i64 (0:Int), .int .i64 (0:Int), .float .f64 (0:Nat), .float .f64 (0:Nat), .int .u64 (0:Int), .int .i64 (0:Int), .bool false]) rfl rfl (by kernel_rfl) ?_
         replace hst := hst.pull3
         obtain ⟨w1052, hr1053, hst⟩ := hst.boxStore (P := Try.prog) (t := 45) (cs' := [.int .u8 (0:Int), .int .u64 (0:Int), .int .u64 (0:Int), .int .u64 (0:Int), .int .u64 (0:Int), .int .i64 (0:Int), .int .u64 (0:Int), .int .u64 (0:Int), .int .u64 (0:Int), (.slice none 0 0), (.slice none 0 0), (.slice none 0 0), (.slice none 0 0), (.slice none 0 0), .int .i64 (0:Int), .int .u64 (0:Int), .int .u64 (0:Int), (.slice none 0 0), (.slice none 0 0), .int .u64 (0:Int), (.slice none 0 0), .int .u64 (0:Int), .int .i64 (0:Int), .int .i64 (0:Int), .float .f64 (0:Nat), .float .f64 (0:Nat), .int .u64 (0:Int), .int .i64 (0:Int), .bool false]) 0 (.agg #[.int .u8 (0:Int), .int .u64 (0:Int), .int .u64 (0:Int), .int .u64 (0:Int), .int .u64 (0:Int), .int .i64 (0:Int), .int .u64 (0:Int), .int .u64 (0:Int), .int .u64 (0:Int), (.slice none 0 0), (.slice none 0 0), (.slice none 0 0), (.slice none 0 0), (.slice none 0 0), .int .i64 (0:Int), .int .u64 (0:Int), .int .u64 (0:Int), (.slice none 0 0), (.slice none 0 0), .int .u64 (0:Int), (.slice none 0 0), .int .u64 (0:Int), .int .i64 (0:Int), .int .i64 (0:Int), .float .f64 (0:Nat), .float .f64 (0:Nat), .int .u64 (0:Int), .int .i64 (0:Int), .bool false]) Try.sizeOf45 (Nat.le_of_ble_eq_true rfl) (ones_cons rfl (ones_cons rfl (ones_cons rfl (ones_cons rfl (ones_cons rfl (ones_cons rfl (ones_cons rfl (ones_cons rfl (ones_cons rfl (ones_cons rfl (ones_cons rfl (ones_cons rfl (ones_cons rfl (ones_cons rfl (ones_cons rfl (ones_cons rfl (ones_cons rfl (ones_cons rfl (ones_cons rfl (ones_cons rfl (ones_cons rfl (ones_cons rfl (ones_cons rfl (ones_cons rfl (ones_cons rfl (ones_cons rfl (ones_cons rfl (ones_cons rfl (ones_cons rfl ones_nil))))))))))))))))))))))))))))) (by kernel_rfl)
         refine wl_unit rfl rfl (x_unit hr1053) ?_
         refine wv (.int .i64 (5:Int)) rfl rfl rfl ?_
         refine wl_nil (then_n (wp_ret (blk_r (then_r ?_))))
         replace hm := inr_up hm hx1103
         replace hst := hst.own_nil tyF64
         replace hst := hst.own_nil tyF2
         replace hst := hst.own_nil tyF64
         replace hst := hst.own_nil (tyInt .u8)
         replace hst := hst.own_nil ty_api_Write
         replace hst := hst.own_nil ty_api_Got
         replace hst := hst.own_nil (tySl ty_api_Pair)
         replace hst := hst.own_nil ty_api_Part
         obtain rfl := some_inj hm
         refine post_ret (vs := [.agg #[.int .u8 (0:Int), .int .u64 (0:Int), .int .u64 (0:Int), .int .u64 (0:Int), .int .u64 (0:Int), .int .i64 (0:Int), .int .u64 (0:Int), .int .u64 (0:Int), .int .u64 (0:Int), (.slice none 0 0), (.slice none 0 0), (.slice none 0 0), (.slice none 0 0), (.slice none 0 0), .int .i64 (0:Int), .int .u64 (0:Int), .int .u64 (0:Int), (.slice none 0 0), (.slice none 0 0), .int .u64 (0:Int), (.slice none 0 0), .int .u64 (0:Int), .int .i64 (0:Int), .int .i64 (0:Int), .float .f64 (0:Nat), .float .f64 (0:Nat), .int .u64 (0:Int), .int .i64 (0:Int), .bool false], .int .i64 (5:Int)]) Try.results20 (rvs_cons (rv_cell (cs := [.int .u8 (0:Int), .int .u64 (0:Int), .int .u64 (0:Int), .int .u64 (0:Int), .int .u64 (0:Int), .int .i64 (0:Int), .int .u64 (0:Int), .int .u64 (0:Int), .int .u64 (0:Int), (.slice none 0 0), (.slice none 0 0), (.slice none 0 0), (.slice none 0 0), (.slice none 0 0), .int .i64 (0:Int), .int .u64 (0:Int), .int .u64 (0:Int), (.slice none 0 0), (.slice none 0 0), .int .u64 (0:Int), (.slice none 0 0), .int .u64 (0:Int), .int .i64 (0:Int), .int .i64 (0:Int), .float .f64 (0:Nat), .float .f64 (0:Nat), .int .u64 (0:Int), .int .i64 (0:Int), .bool false]) rfl Try.isAgg45 Try.sizeOf45 (hst.bcs8 0 rfl)) (rvs_cons (rv_tmp rfl) rvs_nil)) ?_
         replace hst := hst.pull1
         replace hst := hst.pull2
         replace hst := hst.pull3
         replace hst := hst.pull4
         replace hst := hst.pull5
         replace hst := hst.pull6
         replace hst := hst.pull7
         exact ⟨_, (.slice none 0 0), (.slice none 0 0), (.slice none 0 0), (.slice none 0 0), (.slice none 0 0), (.slice none 0 0), (.slice none 0 0), (.slice none 0 0), rfl, hI0, hst.keep8⟩
 ·skip
  clear hst
  rintro _ w1105 ⟨I1099, z1054, z1055, z1056, z1057, z1058, z1059, z1060, z1061, z1062, z1065, z1068, z1071, z1074, z1077, z1078, z1079, z1080, z1083, z1086, z1087, z1090, z1091, z1092, z1093, z1094, z1095, z1096, z1097, z1098, v1064, v1067, v1070, v1073, v1076, v1082, v1085, v1089, σ1100, hm, rfl, hL1101, hst⟩
  dsimp only [command_Decode_j0] at hm
  replace f0_0 := f0_0.mono (ro_le hL1101)
  replace f654 := f654.mono (ro_le hL1101)
  replace hI0 := hI0.trans hL1101
  refine wp_seq (wp_seq (wp_region_lit ?_))
  refine wv (.pointer (some ⟨b651, 0, none⟩)) rfl rfl (x_load rfl Try.isAgg61 (hst.bc1 rfl)) ?_
  replace hst := hst.pull2
  obtain ⟨t1106, ht1107, hm⟩ := bind_some hm
  refine wl_call rfl rfl (x_call Try.call18 rfl (vs := [.pointer (some ⟨b651, 0, none⟩)]) rfl) ?_
  refine (octet_Reader_End_ref hst.to1 ht1107).mono ?_
  rintro _ w1108 ⟨rfl, hst⟩
  refine ⟨_, rfl, ?_⟩
  replace hst := hst.of1
  refine wv (.bool (!t1106)) rfl rfl rfl ?_
  refine wv (.bool (!t1106)) rfl rfl rfl ?_
  refine bsplit (!t1106) (fun hc1111 => ?_) (fun hc1111 => ?_)
  ·skip
   replace hm := bif_t hc1111 hm
   refine wo hc1111 rfl rfl rfl rfl rfl rfl ?_
   refine wo hc1111 rfl rfl rfl rfl rfl rfl ?_
   refine wo hc1111 rfl rfl rfl rfl rfl rfl ?_
   refine wo hc1111 rfl rfl rfl rfl rfl rfl ?_
   refine wo hc1111 rfl rfl rfl rfl rfl rfl ?_
   refine wv (.bool true) rfl rfl (x_pick_t hc1111 rfl rfl) ?_
   refine wl_nil (then_n ?_)
   refine wp_ift rfl ?_
   refine wp_seq (wp_region_lit ?_)
   refine wv (.agg #[.int .u8 (0:Int), .int .u64 (0:Int), .int .u64 (0:Int), .int .u64 (0:Int), .int .u64 (0:Int), .int .i64 (0:Int), .int .u64 (0:Int), .int .u64 (0:Int), .int .u64 (0:Int), (.slice none 0 0), (.slice none 0 0), (.slice none 0 0), (.slice none 0 0), (.slice none 0 0), .int .i64 (0:Int), .int .u64 (0:Int), .int .u64 (0:Int), (.slice none 0 0), (.slice none 0 0), .int .u64 (0:Int), (.slice none 0 0), .int .u64 (0:Int), .int .i64 (0:Int), .int .i64 (0:Int), .float .f64 (0:Nat), .float .f64 (0:Nat), .int .u64 (0:Int), .int .i64 (0:Int), .bool false]) rfl rfl (by kernel_rfl) ?_
   replace hst := hst.pull1
   obtain ⟨w1120, hr1121, hst⟩ := hst.boxStore (P := Try.prog) (t := 45) (cs' := [.int .u8 (0:Int), .int .u64 (0:Int), .int .u64 (0:Int), .int .u64 (0:Int), .int .u64 (0:Int), .int .i64 (0:Int), .int .u64 (0:Int), .int .u64 (0:Int), .int .u64 (0:Int), (.slice none 0 0), (.slice none 0 0), (.slice none 0 0), (.slice none 0 0), (.slice none 0 0), .int .i64 (0:Int), .int .u64 (0:Int), .int .u64 (0:Int), (.slice none 0 0), (.slice none 0 0), .int .u64 (0:Int), (.slice none 0 0), .int .u64 (0:Int), .int .i64 (0:Int), .int .i64 (0:Int), .float .f64 (0:Nat), .float .f64 (0:Nat), .int .u64 (0:Int), .int .i64 (0:Int), .bool false]) 0 (.agg #[.int .u8 (0:Int), .int .u64 (0:Int), .int .u64 (0:Int), .int .u64 (0:Int), .int .u64 (0:Int), .int .i64 (0:Int), .int .u64 (0:Int), .int .u64 (0:Int), .int .u64 (0:Int), (.slice none 0 0), (.slice none 0 0), (.slice none 0 0), (.slice none 0 0), (.slice none 0 0), .int .i64 (0:Int), .int .u64 (0:Int), .int .u64 (0:Int), (.slice none 0 0), (.slice none 0 0), .int .u64 (0:Int), (.slice none 0 0), .int .u64 (0:Int), .int .i64 (0:Int), .int .i64 (0:Int), .float .f64 (0:Nat), .float .f64 (0:Nat), .int .u64 (0:Int), .int .i64 (0:Int), .bool false]) Try.sizeOf45 (Nat.le_of_ble_eq_true rfl) (ones_cons rfl (ones_cons rfl (ones_cons rfl (ones_cons rfl (ones_cons rfl (ones_cons rfl (ones_cons rfl (ones_cons rfl (ones_cons rfl (ones_cons rfl (ones_cons rfl (ones_cons rfl (ones_cons rfl (ones_cons rfl (ones_cons rfl (ones_cons rfl (ones_cons rfl (ones_cons rfl (ones_cons rfl (ones_cons rfl (ones_cons rfl (ones_cons rfl (ones_cons rfl (ones_cons rfl (ones_cons rfl (ones_cons rfl (ones_cons rfl (ones_cons rfl (ones_cons rfl ones_nil))))))))))))))))))))))))))))) (by kernel_rfl)
   refine wl_unit rfl rfl (x_unit hr1121) ?_
   refine wv (.int .i64 (5:Int)) rfl rfl rfl ?_
   refine wl_nil (then_n (wp_ret (then_r ?_)))
   replace hst := hst.own_nil tyF64
   replace hst := hst.own_nil tyF2
   replace hst := hst.own_nil tyF64
   replace hst := hst.own_nil (tyInt .u8)
   replace hst := hst.own_nil ty_api_Write
   replace hst := hst.own_nil ty_api_Got
   replace hst := hst.own_nil (tySl ty_api_Pair)
   replace hst := hst.own_nil ty_api_Part
   obtain rfl := some_inj hm
   refine post_ret (vs := [.agg #[.int .u8 (0:Int), .int .u64 (0:Int), .int .u64 (0:Int), .int .u64 (0:Int), .int .u64 (0:Int), .int .i64 (0:Int), .int .u64 (0:Int), .int .u64 (0:Int), .int .u64 (0:Int), (.slice none 0 0), (.slice none 0 0), (.slice none 0 0), (.slice none 0 0), (.slice none 0 0), .int .i64 (0:Int), .int .u64 (0:Int), .int .u64 (0:Int), (.slice none 0 0), (.slice none 0 0), .int .u64 (0:Int), (.slice none 0 0), .int .u64 (0:Int), .int .i64 (0:Int), .int .i64 (0:Int), .float .f64 (0:Nat), .float .f64 (0:Nat), .int .u64 (0:Int), .int .i64 (0:Int), .bool false], .int .i64 (5:Int)]) Try.results20 (rvs_cons (rv_cell (cs := [.int .u8 (0:Int), .int .u64 (0:Int), .int .u64 (0:Int), .int .u64 (0:Int), .int .u64 (0:Int), .int .i64 (0:Int), .int .u64 (0:Int), .int .u64 (0:Int), .int .u64 (0:Int), (.slice none 0 0), (.slice none 0 0), (.slice none 0 0), (.slice none 0 0), (.slice none 0 0), .int .i64 (0:Int), .int .u64 (0:Int), .int .u64 (0:Int), (.slice none 0 0), (.slice none 0 0), .int .u64 (0:Int), (.slice none 0 0), .int .u64 (0:Int), .int .i64 (0:Int), .int .i64 (0:Int), .float .f64 (0:Nat), .float .f64 (0:Nat), .int .u64 (0:Int), .int .i64 (0:Int), .bool false]) rfl Try.isAgg45 Try.sizeOf45 (hst.bcs8 0 rfl)) (rvs_cons (rv_tmp rfl) rvs_nil)) ?_
   replace hst := hst.pull1
   replace hst := hst.pull2
   replace hst := hst.pull3
   replace hst := hst.pull4
   replace hst := hst.pull5
   replace hst := hst.pull6
   replace hst := hst.pull7
   exact ⟨_, (.slice none 0 0), (.slice none 0 0), (.slice none 0 0), (.slice none 0 0), (.slice none 0 0), (.slice none 0 0), (.slice none 0 0), (.slice none 0 0), rfl, hI0, hst.keep8⟩
  ·skip
   replace hm := bif_f hc1111 hm
   refine wv (.agg #[.int .u8 (IntKind.u8.wrap t657.1), .int .u64 z1055, .int .u64 z1056, .int .u64 z1057, .int .u64 z1058, .int .i64 z1059, .int .u64 z1060, .int .u64 z1061, .int .u64 z1062, v1064, v1067, v1070, v1073, v1076, .int .i64 z1078, .int .u64 z1079, .int .u64 z1080, v1082, v1085, .int .u64 z1087, v1089, .int .u64 z1091, .int .i64 z1092, .int .i64 z1093, .float .f64 z1094, .float .f64 z1095, .int .u64 z1096, .int .i64 z1097, .bool z1098]) ((wanted_eq rfl rfl rfl (congrArg Value.bool hc1111)).trans rfl) rfl (x_loadN (cs := [.int .u8 (IntKind.u8.wrap t657.1), .int .u64 z1055, .int .u64 z1056, .int .u64 z1057, .int .u64 z1058, .int .i64 z1059, .int .u64 z1060, .int .u64 z1061, .int .u64 z1062, v1064, v1067, v1070, v1073, v1076, .int .i64 z1078, .int .u64 z1079, .int .u64 z1080, v1082, v1085, .int .u64 z1087, v1089, .int .u64 z1091, .int .i64 z1092, .int .i64 z1093, .float .f64 z1094, .float .f64 z1095, .int .u64 z1096, .int .i64 z1097, .bool z1098]) rfl Try.isAgg45 Try.sizeOf45 (hst.bcs3 0 rfl)) ?_
   replace hst := hst.pull4
   obtain ⟨css1122, hq1123, hst⟩ := hst.own_open
   replace hst := hst.pull5
   obtain ⟨css1124, hq1125, hst⟩ := hst.own_open
   replace hst := hst.pull6
   obtain ⟨css1126, hq1127, hst⟩ := hst.own_open
   replace hst := hst.pull7
   obtain ⟨css1128, hq1129, hst⟩ := hst.own_open
   replace hst := hst.pull8
   obtain ⟨css1130, hq1131, hst⟩ := hst.own_open
   replace hst := hst.pull9
   obtain ⟨css1132, hq1133, hst⟩ := hst.own_open
   replace hst := hst.pull10
   obtain ⟨css1134, hq1135, hst⟩ := hst.own_open
   replace hst := hst.pull11
   obtain ⟨css1136, hq1137, hst⟩ := hst.own_open
   obtain ⟨t1138, ht1139, hm⟩ := bind_some hm
   refine wl_call ((wanted_eq rfl rfl rfl (congrArg Value.bool hc1111)).trans rfl) rfl (x_call Try.call10 rfl (vs := [.agg #[.int .u8 (IntKind.u8.wrap t657.1), .int .u64 z1055, .int .u64 z1056, .int .u64 z1057, .int .u64 z1058, .int .i64 z1059, .int .u64 z1060, .int .u64 z1061, .int .u64 z1062, v1064, v1067, v1070, v1073, v1076, .int .i64 z1078, .int .u64 z1079, .int .u64 z1080, v1082, v1085, .int .u64 z1087, v1089, .int .u64 z1091, .int .i64 z1092, .int .i64 z1093, .float .f64 z1094, .float .f64 z1095, .int .u64 z1096, .int .i64 z1097, .bool z1098]]) rfl) ?_
   refine (command_Encode_ref (hst.rdrow7 hq1123) (hst.rdrow6 hq1125) (hst.rdrow5 hq1127) (hst.rdrow4 hq1129) (hst.rdrow3 hq1131) (hst.rdrow2 hq1133) (hst.rdrow1 hq1135) (hst.rdrow0 hq1137) hst.to0 ht1139).mono ?_
   rintro _ w1140 ⟨v1143, rfl, hst⟩
   refine ⟨_, rfl, ?_⟩
   replace hst := hst.of1
   replace hst := hst.pull8
   replace hst := hst.own_close hq1123
   replace hst := hst.pull8
   replace hst := hst.own_close hq1125
   replace hst := hst.pull8
   replace hst := hst.own_close hq1127
   replace hst := hst.pull8
   replace hst := hst.own_close hq1129
   replace hst := hst.pull8
   replace hst := hst.own_close hq1131
   replace hst := hst.pull8
   replace hst := hst.own_close hq1133
   replace hst := hst.pull8
   replace hst := hst.own_close hq1135
   replace hst := hst.pull8
   replace hst := hst.own_close hq1137
   refine wv (r0_0) ((wanted_eq rfl rfl rfl (congrArg Value.bool hc1111)).trans rfl) rfl rfl ?_
   replace hst := hst.pull8
   obtain ⟨css1145, hq1146, hst⟩ := hst.own_open
   obtain ⟨t1147, ht1148, hm⟩ := bind_some hm
   refine wl_call ((wanted_eq rfl rfl rfl (congrArg Value.bool hc1111)).trans rfl) rfl (x_call Try.call56 rfl (vs := [v1143, r0_0]) rfl) ?_
   refine (slices_Equal_byte_byte_ref (hst.rdrow0 hq1146) (f0_0.mono ro_rd) hst.to0 ht1148).mono ?_
   rintro _ w1149 ⟨rfl, hst⟩
   refine ⟨_, rfl, ?_⟩
   replace hst := hst.of0
   replace hst := hst.own_close hq1146
   refine wv (.bool (!t1147)) ((wanted_eq rfl rfl rfl (congrArg Value.bool hc1111)).trans rfl) rfl rfl ?_
   refine wv (.bool (!t1147)) rfl rfl (x_pick_f hc1111 rfl rfl) ?_
   refine wl_nil (then_n ?_)
   refine bsplit (!t1147) (fun hc1152 => ?_) (fun hc1152 => ?_)
   ·skip
    replace hm := bif_t hc1152 hm
    refine wp_ift (congrArg Value.bool hc1152) ?_
    refine wp_seq (wp_region_lit ?_)
    refine wv (.agg #[.int .u8 (0:Int), .int .u64 (0:Int), .int .u64 (0:Int), .int .u64 (0:Int), .int .u64 (0:Int), .int .i64 (0:Int), .int .u64 (0:Int), .int .u64 (0:Int), .int .u64 (0:Int), (.slice none 0 0), (.slice none 0 0), (.slice none 0 0), (.slice none 0 0), (.slice none 0 0), .int .i64 (0:Int), .int .u64 (0:Int), .int .u64 (0:Int), (.slice none 0 0), (.slice none 0 0), .int .u64 (0:Int), (.slice none 0 0), .int .u64 (0:Int), .int .i64 (0:Int), .int .i64 (0:Int), .float .f64 (0:Nat), .float .f64 (0:Nat), .int .u64 (0:Int), .int .i64 (0:Int), .bool false]) rfl rfl (by kernel_rfl) ?_
    replace hst := hst.pull10
    obtain ⟨w1161, hr1162, hst⟩ := hst.boxStore (P := Try.prog) (t := 45) (cs' := [.int .u8 (0:Int), .int .u64 (0:Int), .int .u64 (0:Int), .int .u64 (0:Int), .int .u64 (0:Int), .int .i64 (0:Int), .int .u64 (0:Int), .int .u64 (0:Int), .int .u64 (0:Int), (.slice none 0 0), (.slice none 0 0), (.slice none 0 0), (.slice none 0 0), (.slice none 0 0), .int .i64 (0:Int), .int .u64 (0:Int), .int .u64 (0:Int), (.slice none 0 0), (.slice none 0 0), .int .u64 (0:Int), (.slice none 0 0), .int .u64 (0:Int), .int .i64 (0:Int), .int .i64 (0:Int), .float .f64 (0:Nat), .float .f64 (0:Nat), .int .u64 (0:Int), .int .i64 (0:Int), .bool false]) 0 (.agg #[.int .u8 (0:Int), .int .u64 (0:Int), .int .u64 (0:Int), .int .u64 (0:Int), .int .u64 (0:Int), .int .i64 (0:Int), .int .u64 (0:Int), .int .u64 (0:Int), .int .u64 (0:Int), (.slice none 0 0), (.slice none 0 0), (.slice none 0 0), (.slice none 0 0), (.slice none 0 0), .int .i64 (0:Int), .int .u64 (0:Int), .int .u64 (0:Int), (.slice none 0 0), (.slice none 0 0), .int .u64 (0:Int), (.slice none 0 0), .int .u64 (0:Int), .int .i64 (0:Int), .int .i64 (0:Int), .float .f64 (0:Nat), .float .f64 (0:Nat), .int .u64 (0:Int), .int .i64 (0:Int), .bool false]) Try.sizeOf45 (Nat.le_of_ble_eq_true rfl) (ones_cons rfl (ones_cons rfl (ones_cons rfl (ones_cons rfl (ones_cons rfl (ones_cons rfl (ones_cons rfl (ones_cons rfl (ones_cons rfl (ones_cons rfl (ones_cons rfl (ones_cons rfl (ones_cons rfl (ones_cons rfl (ones_cons rfl (ones_cons rfl (ones_cons rfl (ones_cons rfl (ones_cons rfl (ones_cons rfl (ones_cons rfl (ones_cons rfl (ones_cons rfl (ones_cons rfl (ones_cons rfl (ones_cons rfl (ones_cons rfl (ones_cons rfl (ones_cons rfl ones_nil))))))))))))))))))))))))))))) (by kernel_rfl)
    refine wl_unit rfl rfl (x_unit hr1162) ?_
    refine wv (.int .i64 (5:Int)) rfl rfl rfl ?_
    refine wl_nil (then_n (wp_ret (then_r ?_)))
    replace hst := hst.own_nil tyF64
    replace hst := hst.own_nil tyF2
    replace hst := hst.own_nil tyF64
    replace hst := hst.own_nil (tyInt .u8)
    replace hst := hst.own_nil ty_api_Write
    replace hst := hst.own_nil ty_api_Got
    replace hst := hst.own_nil (tySl ty_api_Pair)
    replace hst := hst.own_nil ty_api_Part
    obtain rfl := some_inj hm
    refine post_ret (vs := [.agg #[.int .u8 (0:Int), .int .u64 (0:Int), .int .u64 (0:Int), .int .u64 (0:Int), .int .u64 (0:Int), .int .i64 (0:Int), .int .u64 (0:Int), .int .u64 (0:Int), .int .u64 (0:Int), (.slice none 0 0), (.slice none 0 0), (.slice none 0 0), (.slice none 0 0), (.slice none 0 0), .int .i64 (0:Int), .int .u64 (0:Int), .int .u64 (0:Int), (.slice none 0 0), (.slice none 0 0), .int .u64 (0:Int), (.slice none 0 0), .int .u64 (0:Int), .int .i64 (0:Int), .int .i64 (0:Int), .float .f64 (0:Nat), .float .f64 (0:Nat), .int .u64 (0:Int), .int .i64 (0:Int), .bool false], .int .i64 (5:Int)]) Try.results20 (rvs_cons (rv_cell (cs := [.int .u8 (0:Int), .int .u64 (0:Int), .int .u64 (0:Int), .int .u64 (0:Int), .int .u64 (0:Int), .int .i64 (0:Int), .int .u64 (0:Int), .int .u64 (0:Int), .int .u64 (0:Int), (.slice none 0 0), (.slice none 0 0), (.slice none 0 0), (.slice none 0 0), (.slice none 0 0), .int .i64 (0:Int), .int .u64 (0:Int), .int .u64 (0:Int), (.slice none 0 0), (.slice none 0 0), .int .u64 (0:Int), (.slice none 0 0), .int .u64 (0:Int), .int .i64 (0:Int), .int .i64 (0:Int), .float .f64 (0:Nat), .float .f64 (0:Nat), .int .u64 (0:Int), .int .i64 (0:Int), .bool false]) rfl Try.isAgg45 Try.sizeOf45 (hst.bcs8 0 rfl)) (rvs_cons (rv_tmp rfl) rvs_nil)) ?_
    replace hst := hst.pull1
    replace hst := hst.pull2
    replace hst := hst.pull3
    replace hst := hst.pull4
    replace hst := hst.pull5
    replace hst := hst.pull6
    replace hst := hst.pull7
    exact ⟨_, (.slice none 0 0), (.slice none 0 0), (.slice none 0 0), (.slice none 0 0), (.slice none 0 0), (.slice none 0 0), (.slice none 0 0), (.slice none 0 0), rfl, hI0, hst.keep8⟩
   ·skip
    replace hm := bif_f hc1152 hm
    refine wp_iff (congrArg Value.bool hc1152) ?_
    refine wp_skip (then_n (wp_seq (wp_region_lit ?_)))
    refine wv (.agg #[.int .u8 (IntKind.u8.wrap t657.1), .int .u64 z1055, .int .u64 z1056, .int .u64 z1057, .int .u64 z1058, .int .i64 z1059, .int .u64 z1060, .int .u64 z1061, .int .u64 z1062, v1064, v1067, v1070, v1073, v1076, .int .i64 z1078, .int .u64 z1079, .int .u64 z1080, v1082, v1085, .int .u64 z1087, v1089, .int .u64 z1091, .int .i64 z1092, .int .i64 z1093, .float .f64 z1094, .float .f64 z1095, .int .u64 z1096, .int .i64 z1097, .bool z1098]) rfl rfl (x_loadN (cs := [.int .u8 (IntKind.u8.wrap t657.1), .int .u64 z1055, .int .u64 z1056, .int .u64 z1057, .int .u64 z1058, .int .i64 z1059, .int .u64 z1060, .int .u64 z1061, .int .u64 z1062, v1064, v1067, v1070, v1073, v1076, .int .i64 z1078, .int .u64 z1079, .int .u64 z1080, v1082, v1085, .int .u64 z1087, v1089, .int .u64 z1091, .int .i64 z1092, .int .i64 z1093, .float .f64 z1094, .float .f64 z1095, .int .u64 z1096, .int .i64 z1097, .bool z1098]) rfl Try.isAgg45 Try.sizeOf45 (hst.bcs12 0 rfl)) ?_
    replace hst := hst.pull10
    obtain ⟨w1163, hr1164, hst⟩ := hst.boxStore (P := Try.prog) (t := 45) (cs' := [.int .u8 (IntKind.u8.wrap t657.1), .int .u64 z1055, .int .u64 z1056, .int .u64 z1057, .int .u64 z1058, .int .i64 z1059, .int .u64 z1060, .int .u64 z1061, .int .u64 z1062, v1064, v1067, v1070, v1073, v1076, .int .i64 z1078, .int .u64 z1079, .int .u64 z1080, v1082, v1085, .int .u64 z1087, v1089, .int .u64 z1091, .int .i64 z1092, .int .i64 z1093, .float .f64 z1094, .float .f64 z1095, .int .u64 z1096, .int .i64 z1097, .bool z1098]) 0 (.agg #[.int .u8 (IntKind.u8.wrap t657.1), .int .u64 z1055, .int .u64 z1056, .int .u64 z1057, .int .u64 z1058, .int .i64 z1059, .int .u64 z1060, .int .u64 z1061, .int .u64 z1062, v1064, v1067, v1070, v1073, v1076, .int .i64 z1078, .int .u64 z1079, .int .u64 z1080, v1082, v1085, .int .u64 z1087, v1089, .int .u64 z1091, .int .i64 z1092, .int .i64 z1093, .float .f64 z1094, .float .f64 z1095, .int .u64 z1096, .int .i64 z1097, .bool z1098]) Try.sizeOf45 (Nat.le_of_ble_eq_true rfl) (ones_cons rfl (ones_cons rfl (ones_cons rfl (ones_cons rfl (ones_cons rfl (ones_cons rfl (ones_cons rfl (ones_cons rfl (ones_cons rfl (ones_cons (one_of_sliceV hst.sv9) (ones_cons (one_of_sliceV hst.sv8) (ones_cons (one_of_sliceV hst.sv7) (ones_cons (one_of_sliceV hst.sv6) (ones_cons (one_of_sliceV hst.sv5) (ones_cons rfl (ones_cons rfl (ones_cons rfl (ones_cons (one_of_sliceV hst.sv4) (ones_cons (one_of_sliceV hst.sv3) (ones_cons rfl (ones_cons (one_of_sliceV hst.sv2) (ones_cons rfl (ones_cons rfl (ones_cons rfl (ones_cons rfl (ones_cons rfl (ones_cons rfl (ones_cons rfl (ones_cons rfl ones_nil))))))))))))))))))))))))))))) (by kernel_rfl)
    refine wl_unit rfl rfl (x_unit hr1164) ?_
    refine wv (.int .i64 (0:Int)) rfl rfl rfl ?_
    refine wl_nil (then_n (wp_ret ?_))
    obtain rfl := some_inj hm
    refine post_ret (vs := [.agg #[.int .u8 (IntKind.u8.wrap t657.1), .int .u64 z1055, .int .u64 z1056, .int .u64 z1057, .int .u64 z1058, .int .i64 z1059, .int .u64 z1060, .int .u64 z1061, .int .u64 z1062, v1064, v1067, v1070, v1073, v1076, .int .i64 z1078, .int .u64 z1079, .int .u64 z1080, v1082, v1085, .int .u64 z1087, v1089, .int .u64 z1091, .int .i64 z1092, .int .i64 z1093, .float .f64 z1094, .float .f64 z1095, .int .u64 z1096, .int .i64 z1097, .bool z1098], .int .i64 (0:Int)]) Try.results20 (rvs_cons (rv_cell (cs := [.int .u8 (IntKind.u8.wrap t657.1), .int .u64 z1055, .int .u64 z1056, .int .u64 z1057, .int .u64 z1058, .int .i64 z1059, .int .u64 z1060, .int .u64 z1061, .int .u64 z1062, v1064, v1067, v1070, v1073, v1076, .int .i64 z1078, .int .u64 z1079, .int .u64 z1080, v1082, v1085, .int .u64 z1087, v1089, .int .u64 z1091, .int .i64 z1092, .int .i64 z1093, .float .f64 z1094, .float .f64 z1095, .int .u64 z1096, .int .i64 z1097, .bool z1098]) rfl Try.isAgg45 Try.sizeOf45 (hst.bcs0 0 rfl)) (rvs_cons (rv_tmp rfl) rvs_nil)) ?_
    replace hst := hst.pull2
    replace hst := hst.pull3
    replace hst := hst.pull4
    replace hst := hst.pull5
    replace hst := hst.pull6
    replace hst := hst.pull7
    replace hst := hst.pull8
    replace hst := hst.pull9
    exact ⟨_, v1064, v1067, v1070, v1073, v1076, v1082, v1085, v1089, rfl, hI0, hst.keep8⟩

theorem ref02_Num_ref {w0 w : World} {I : HL} {R : SP} {a0 : (List Int)} {r0_0 : Value} {a1 : Int} {a2 : Int} (f0_0 : Rd (tyInt .u8) R I r0_0 a0) (hst : St w0 w I [] R) {r : ((List Int))} (hm : ref02_Num a0 a1 a2 = some r) :
  Calls Try.prog 45 #[r0_0, .int .u64 a1, .int .i64 a2] w fun e w' => ∃ (q0_0 : Value), e = .returned (q0_0) ∧ St w0 w' I [ownS (tyInt .u8) q0_0 r] R := by
 unfold ref02_Num at hm
 refine calls_start (args := [r0_0, .int .u64 a1, .int .i64 a2]) Try.func45 rfl Try.ntmps45 (Nat.le_of_ble_eq_true rfl) ?_
 refine wp_seq (wp_region_lit ?_)
 refine wv ((.slice none 0 0)) rfl rfl rfl ?_
 refine wl_nil (then_n (wp_seq (wp_region_lit ?_)))
 refine wv ((.slice none 0 0)) rfl rfl rfl ?_
 refine wl_nil (then_n (wp_seq (wp_region_lit ?_)))
 refine wv ((.slice none 0 0)) rfl rfl rfl ?_
 refine wv (r0_0) rfl rfl rfl ?_
 replace hst := hst.own_nil (tyInt .u8)
 obtain ⟨hg196, hm⟩ := gd_some hm
 obtain ⟨v197, w198, hr199, hst⟩ := run_append elem_22 Try.underlying22 hst (Src.of_rd hst f0_0 flat_int) (room_of hg196 rfl) 22
 replace hst := St.nil_app hst
 refine wl_run (v := v197) (w' := w198) rfl rfl (x_append rfl rfl hr199) ?_
 refine wv (v197) rfl rfl rfl ?_
 refine wl_nil (then_n (wp_seq (wp_seq (wp_region_lit ?_))))
 refine wv (.int .i64 (0:Int)) rfl rfl rfl ?_
 refine wl_nil (then_n (wp_block ?_))
 obtain ⟨n231, hm⟩ := loopO_some hm
 refine wp_loop_n (fun n a w => ∃ (z225 : Int) (z226 : (List Int)) (z229 : Int) (v227 : Value) (σ230 : Nat → Value), loopN (ref02_Num_l0 a2) n (z225, z226, z229) = some r ∧ a = Fr 26 (upd (upd (upd (upd σ230 1 (.int .u64 z225)) 2 (.int .i64 a2)) 7 (v227)) 8 (.int .i64 z229)) ∧ St w0 w I [ownS (tyInt .u8) v227 z226] R) n231 ⟨a1, a0, (0:Int), v197, _, hm, ((fr_upd (t := 1) (v := .int .u64 a1) rfl).trans ((fr_upd (t := 2) (v := .int .i64 a2) rfl).trans ((fr_upd (t := 7) (v := v197) rfl).trans ((fr_upd (t := 8) (v := .int .i64 (0:Int)) rfl).trans rfl)))), hst⟩ ?_
 rintro n237 _ w232 ⟨z225, z226, z229, v227, σ230, hm, rfl, hst⟩
 obtain ⟨n234, y235, rfl, hm, hx236⟩ := loopN_some hm
 dsimp only [ref02_Num_l0] at hm
 refine wp_seq (wp_seq (wp_region_lit ?_))
 refine wv (.int .i64 z229) rfl rfl rfl ?_
 refine wv (.int .i64 a2) rfl rfl rfl ?_
 refine wv (.bool (decide (z229 < a2))) rfl rfl rfl ?_
 refine wl_nil (then_n ?_)
 refine bsplit (decide (z229 < a2)) (fun hc238 => ?_) (fun hc238 => ?_)
 ·skip
  replace hm := bif_t hc238 hm
  refine wp_ift (congrArg Value.bool hc238) ?_
  refine wp_skip (then_n (wp_seq (wp_block (wp_seq (wp_region_lit ?_)))))
  refine wv (v227) rfl rfl rfl ?_
  refine wv (.int .u64 z225) rfl rfl rfl ?_
  refine wv (.int .u64 (bAnd .u64 z225 (255:Int))) rfl rfl rfl ?_
  refine wv (.int .u8 (IntKind.u8.wrap (bAnd .u64 z225 (255:Int)))) rfl rfl (by kernel_rfl) ?_
  obtain ⟨b239, w240, ew241, eb242, hst⟩ := hst.lits (E := (tyInt .u8)) (xs := [(IntKind.u8.wrap (bAnd .u64 z225 (255:Int)))]) [[.int .u8 (IntKind.u8.wrap (bAnd .u64 z225 (255:Int)))]] 5 1 rfl (Reps.cons rfl Reps.nil)
  refine wl_run (v := (.slice (some ⟨b239, 0, none⟩) 1 1)) (w' := w240) rfl rfl (x_als (by kernel_rfl) ew241 eb242) ?_
  obtain ⟨hg244, hm⟩ := gd_some hm
  replace hst := hst.pull1
  obtain ⟨v245, w246, hr247, hst⟩ := run_append elem_22 Try.underlying22 hst hst.src1 (room_of hg244 rfl) 22
  refine wl_run (v := v245) (w' := w246) rfl rfl (x_append rfl rfl hr247) ?_
  refine wv (v245) rfl rfl rfl ?_
  refine wl_nil (then_n (wp_region_lit ?_))
  refine wv (.int .u64 z225) rfl rfl rfl ?_
  refine wv (.int .u64 (iShr .u64 z225 (8:Int))) rfl rfl (x_shr (by decide) rfl rfl) ?_
  refine wv (.int .u64 (iShr .u64 z225 (8:Int))) rfl rfl rfl ?_
  refine wl_nil (blk_n (then_n (wp_region_lit ?_)))
  refine wv (.int .i64 z229) rfl rfl rfl ?_
  refine wv (.int .i64 (IntKind.i64.wrap (z229 + (1:Int)))) rfl rfl rfl ?_
  refine wv (.int .i64 (IntKind.i64.wrap (z229 + (1:Int)))) rfl rfl rfl ?_
  refine wl_nil (then_n ?_)
  replace hst := hst.keep1
  obtain rfl := some_inj hm
  exact ⟨_, Nat.lt_succ_self _, (iShr .u64 z225 (8:Int)), (z226 ++ ([(IntKind.u8.wrap (bAnd .u64 z225 (255:Int)))])), (IntKind.i64.wrap (z229 + (1:Int))), v245, _, hx236, ((fr_upd (t := 1) (v := .int .u64 (iShr .u64 z225 (8:Int))) rfl).trans ((fr_upd (t := 2) (v := .int .i64 a2) rfl).trans ((fr_upd (t := 7) (v := v245) rfl).trans ((fr_upd (t := 8) (v := .int .i64 (IntKind.i64.wrap (z229 + (1:Int)))) rfl).trans rfl)))), hst⟩
 ·skip
  replace hm := bif_f hc238 hm
  refine wp_iff (congrArg Value.bool hc238) ?_
  refine wp_exit (then_x (then_x ?_))
  replace hm := inr_up hm hx236
  refine blk_x (then_n (wp_seq (wp_region_lit ?_)))
  refine wv (v227) rfl rfl rfl ?_
  refine wv (v227) rfl rfl rfl ?_
  refine wl_nil (then_n (wp_ret ?_))
  obtain rfl := some_inj hm
  refine post_ret (vs := [v227]) Try.results45 (rvs_cons (rv_tmp rfl) rvs_nil) ?_
  exact ⟨v227, rfl, hst.keep1⟩

theorem ref12_ID_ref {w0 w : World} {I : HL} {R : SP} {a0 : (List Int)} {r0_0 : Value} {a1 : api_ID} (f0_0 : Rd (tyInt .u8) R I r0_0 a0) (hst : St w0 w I [] R) {r : ((List Int))} (hm : ref12_ID a0 a1 = some r) :
  Calls Try.prog 58 #[r0_0, .agg #[.int .u64 a1.Session, .int .u64 a1.Seq]] w fun e w' => ∃ (q0_0 : Value), e = .returned (q0_0) ∧ St w0 w' I [ownS (tyInt .u8) q0_0 r] R := by
 unfold ref12_ID at hm
 refine calls_start (args := [r0_0, .agg #[.int .u64 a1.Session, .int .u64 a1.Seq]]) Try.func58 rfl Try.ntmps58 (Nat.le_of_ble_eq_true rfl) ?_
 refine wp_seq (wp_region_lit ?_)
 obtain ⟨b193, w194, ew195, eb196, hst⟩ := hst.box [.int .u64 a1.Session, .int .u64 a1.Seq] 29
 refine wl_run (v := .pointer (some ⟨b193, 0, none⟩)) (w' := w194) rfl rfl (x_al (by kernel_rfl) ew195 eb196) ?_
 refine wv ((.slice none 0 0)) rfl rfl rfl ?_
 refine wl_nil (then_n (wp_seq ?_))
 refine wp_region_St hst 8 [0, 1, 2, 3, 4, 5, 6, 7] [0, 0, 2, 7, 0, 16, 63, 127] [] rfl (by kernel_rfl) (by kernel_rfl) Try.mixed (by kernel_rfl) ?_
 refine wsr (r0_0) 0 rfl rfl rfl (by kernel_rfl) (fun w hst => rfl) ?_
 refine wsr (.pointer (some ⟨b193, 0, none⟩)) 1 rfl rfl rfl (by kernel_rfl) (fun w hst => x_field rfl Try.underlying29 rfl Try.sizeOf27 rfl) ?_
 refine wsr (.int .u64 a1.Session) 2 rfl rfl rfl (by kernel_rfl) (fun w hst => x_load rfl Try.isAgg27 (hst.bc0 rfl)) ?_
 refine wsr (.pointer (some ⟨b193, 1, none⟩)) 4 rfl rfl rfl (by kernel_rfl) (fun w hst => x_field rfl Try.underlying29 rfl Try.sizeOf27 rfl) ?_
 refine wsr (.int .u64 a1.Seq) 5 rfl rfl rfl (by kernel_rfl) (fun w hst => x_load rfl Try.isAgg27 (hst.bc0 rfl)) ?_
 refine ws_e1 3 (by kernel_rfl) ?_
 refine nxe [6, 7] (by kernel_rfl) rfl rfl ?_
 clear hst
 intro w hst
 obtain ⟨t199, ht200, hm⟩ := bind_some hm
 refine we_call rfl (x_call Try.call45 rfl (vs := [r0_0, .int .u64 a1.Session, .int .i64 (8:Int)]) rfl) ?_
 refine (ref02_Num_ref (f0_0.mono (rd_weak _)) hst.to0 ht200).mono ?_
 rintro _ w201 ⟨v204, rfl, hst⟩
 refine ⟨_, rfl, ?_⟩
 replace hst := hst.of1
 refine ws_next (pend' := [(5, .int .u64 a1.Seq), (4, .pointer (some ⟨b193, 1, none⟩))]) hst (by kernel_rfl) (pkr rfl rfl (fun w hst => x_load rfl Try.isAgg27 (hst.bc1 rfl)) (pkr rfl rfl (fun w hst => x_field rfl Try.underlying29 rfl Try.sizeOf27 rfl) pk_nil)) ?_
 refine ws_e1 6 (by kernel_rfl) ?_
 refine nxe [7] (by kernel_rfl) rfl rfl ?_
 clear hst
 intro w hst
 obtain ⟨css206, hq207, hst⟩ := hst.own_open
 obtain ⟨t208, ht209, hm⟩ := bind_some hm
 refine we_call rfl (x_call Try.call45 rfl (vs := [v204, .int .u64 a1.Seq, .int .i64 (8:Int)]) rfl) ?_
 refine (ref02_Num_ref (hst.rdrow0 hq207) hst.to0 ht209).mono ?_
 rintro _ w210 ⟨v213, rfl, hst⟩
 refine ⟨_, rfl, ?_⟩
 replace hst := hst.of1
 replace hst := hst.pull1
 replace hst := hst.own_close hq207
 refine ws_next (pend' := []) hst (by kernel_rfl) pk_nil ?_
 refine wsr (v213) 7 rfl rfl rfl (by kernel_rfl) (fun w hst => rfl) ?_
 refine ws_nil ?_
 intro w hst
 refine then_n (wp_ret ?_)
 obtain rfl := some_inj hm
 refine post_ret (vs := [v213]) Try.results58 (rvs_cons (rv_tmp rfl) rvs_nil) ?_
 replace hst := hst.pull1
 exact ⟨v213, rfl, hst.keep1⟩

theorem ref01_Rank_ref {w0 w : World} {I : HL} {R : SP} {a0 : Nat}  (hst : St w0 w I [] R) {r : (Int)} (hm : ref01_Rank a0 = some r) :
  Calls Try.prog 48 #[.float .f64 a0] w fun e w' => e = .returned (.int .u64 r) ∧ St w0 w' I [] R := by
 unfold ref01_Rank at hm
 refine calls_start (args := [.float .f64 a0]) Try.func48 rfl Try.ntmps48 (Nat.le_of_ble_eq_true rfl) ?_
 refine wp_seq (wp_region_lit ?_)
 refine wv (.int .u64 (0:Int)) rfl rfl rfl ?_
 refine wl_nil (then_n (wp_seq (wp_region_lit ?_)))
 refine wv (.float .f64 a0) rfl rfl rfl ?_
 refine wv (.int .u64 (Int.ofNat a0)) rfl rfl (by kernel_rfl) ?_
 refine wv (.int .u64 (Int.ofNat a0)) rfl rfl rfl ?_
 refine wl_nil (then_n (wp_seq (wp_seq (wp_region_lit ?_))))
 refine wv (.float .f64 a0) rfl rfl rfl ?_
 refine wv (.float .f64 a0) rfl rfl rfl ?_
 refine wv (.bool (fNe a0 a0)) rfl rfl rfl ?_
 refine wl_nil (then_n ?_)
 refine bsplit (fNe a0 a0) (fun hc202 => ?_) (fun hc202 => ?_)
 ·skip
  replace hm := bif_t hc202 hm
  refine wp_ift (congrArg Value.bool hc202) ?_
  refine wp_seq (wp_region_lit ?_)
  refine wv (.int .u64 (18446744073709551615:Int)) rfl rfl rfl ?_
  refine wl_nil (then_n (wp_ret (then_r ?_)))
  obtain rfl := some_inj hm
  refine post_ret (vs := [.int .u64 (18446744073709551615:Int)]) Try.results48 (rvs_cons (rv_tmp rfl) rvs_nil) ?_
  exact ⟨rfl, hst.keep0⟩
 ·skip
  replace hm := bif_f hc202 hm
  refine wp_iff (congrArg Value.bool hc202) ?_
  refine wp_skip (then_n (wp_seq (wp_seq (wp_region_lit ?_))))
  refine wv (.int .u64 (Int.ofNat a0)) rfl rfl rfl ?_
  refine wv (.bool (decide ((Int.ofNat a0) ≥ (9223372036854775808:Int)))) rfl rfl rfl ?_
  refine wl_nil (then_n ?_)
  refine bsplit (decide ((Int.ofNat a0) ≥ (9223372036854775808:Int))) (fun hc203 => ?_) (fun hc203 => ?_)
  ·skip
   replace hm := bif_t hc203 hm
   refine wp_ift (congrArg Value.bool hc203) ?_
   refine wp_seq (wp_region_lit ?_)
   refine wv (.int .u64 (Int.ofNat a0)) rfl rfl rfl ?_
   refine wv (.int .u64 (IntKind.u64.wrap ((18446744073709551615:Int) - (Int.ofNat a0)))) rfl rfl rfl ?_
   refine wv (.int .u64 (IntKind.u64.wrap ((18446744073709551615:Int) - (Int.ofNat a0)))) rfl rfl rfl ?_
   refine wl_nil (then_n (wp_ret (then_r ?_)))
   obtain rfl := some_inj hm
   refine post_ret (vs := [.int .u64 (IntKind.u64.wrap ((18446744073709551615:Int) - (Int.ofNat a0)))]) Try.results48 (rvs_cons (rv_tmp rfl) rvs_nil) ?_
   exact ⟨rfl, hst.keep0⟩
  ·skip
   replace hm := bif_f hc203 hm
   refine wp_iff (congrArg Value.bool hc203) ?_
   refine wp_skip (then_n (wp_seq (wp_region_lit ?_)))
   refine wv (.int .u64 (Int.ofNat a0)) rfl rfl rfl ?_
   refine wv (.int .u64 (IntKind.u64.wrap ((Int.ofNat a0) + (9223372036854775808:Int)))) rfl rfl rfl ?_
   refine wv (.int .u64 (IntKind.u64.wrap ((Int.ofNat a0) + (9223372036854775808:Int)))) rfl rfl rfl ?_
   refine wl_nil (then_n (wp_ret ?_))
   obtain rfl := some_inj hm
   refine post_ret (vs := [.int .u64 (IntKind.u64.wrap ((Int.ofNat a0) + (9223372036854775808:Int)))]) Try.results48 (rvs_cons (rv_tmp rfl) rvs_nil) ?_
   exact ⟨rfl, hst.keep0⟩

theorem ref02_Bytes_ref {w0 w : World} {I : HL} {R : SP} {a0 : (List Int)} {r0_0 : Value} {a1 : (List Int)} {r1_0 : Value} (f0_0 : Rd (tyInt .u8) R I r0_0 a0) (f1_0 : Rd (tyInt .u8) R I r1_0 a1) (hst : St w0 w I [] R) {r : ((List Int))} (hm : ref02_Bytes a0 a1 = some r) :
  Calls Try.prog 46 #[r0_0, r1_0] w fun e w' => ∃ (q0_0 : Value), e = .returned (q0_0) ∧ St w0 w' I [ownS (tyInt .u8) q0_0 r] R := by
 unfold ref02_Bytes at hm
 refine calls_start (args := [r0_0, r1_0]) Try.func46 rfl Try.ntmps46 (Nat.le_of_ble_eq_true rfl) ?_
 refine wp_seq (wp_region_lit ?_)
 refine wv ((.slice none 0 0)) rfl rfl rfl ?_
 refine wl_nil (then_n (wp_seq (wp_region_lit ?_)))
 refine wv (r0_0) rfl rfl rfl ?_
 refine wv (r1_0) rfl rfl rfl ?_
 refine wv (.int .i64 ((a1).length : Int)) rfl rfl (x_len rfl Try.underlying22 (rd_sliceV f1_0)) ?_
 refine wv (.int .u64 (IntKind.u64.wrap ((a1).length : Int))) rfl rfl (by kernel_rfl) ?_
 obtain ⟨t523, ht524, hm⟩ := bind_some hm
 refine wl_call rfl rfl (x_call Try.call45 rfl (vs := [r0_0, .int .u64 (IntKind.u64.wrap ((a1).length : Int)), .int .i64 (4:Int)]) rfl) ?_
 refine (ref02_Num_ref (f0_0.mono (rd_weak _)) hst.to0 ht524).mono ?_
 rintro _ w525 ⟨v528, rfl, hst⟩
 refine ⟨_, rfl, ?_⟩
 replace hst := hst.of1
 refine wv (r1_0) rfl rfl rfl ?_
 obtain ⟨hg530, hm⟩ := gd_some hm
 obtain ⟨v531, w532, hr533, hst⟩ := run_append elem_22 Try.underlying22 hst (Src.of_rd hst f1_0 flat_int) (room_of hg530 rfl) 22
 refine wl_run (v := v531) (w' := w532) rfl rfl (x_append rfl rfl hr533) ?_
 refine wv (v531) rfl rfl rfl ?_
 refine wl_nil (then_n (wp_ret ?_))
 obtain rfl := some_inj hm
 refine post_ret (vs := [v531]) Try.results46 (rvs_cons (rv_tmp rfl) rvs_nil) ?_
 exact ⟨v531, rfl, hst.keep1⟩

theorem ref12_Hold_ref {w0 w : World} {I : HL} {R : SP} {a0 : (List Int)} {r0_0 : Value} {a1 : api_Hold} {r1_0 : Value} {r1_1 : Value} {r1_2 : Value} {r1_3 : Value} (f0_0 : Rd (tyInt .u8) R I r0_0 a0) (f1_0 : Rd tyF64 R I r1_0 a1.Gets) (f1_1 : Rd tyF2 R I r1_1 a1.Scans) (f1_2 : Rd tyF64 R I r1_2 a1.Puts) (f1_3 : Rd (tyInt .u8) R I r1_3 a1.Data) (hst : St w0 w I [] R) {r : ((List Int))} (hm : ref12_Hold a0 a1 = some r) :
  Calls Try.prog 57 #[r0_0, .agg #[.int .u64 a1.ID.Session, .int .u64 a1.ID.Seq, .int .u64 a1.Epoch, r1_0, r1_1, r1_2, r1_3]] w fun e w' => ∃ (q0_0 : Value), e = .returned (q0_0) ∧ St w0 w' I [ownS (tyInt .u8) q0_0 r] R := by
 unfold ref12_Hold at hm
 refine calls_start (args := [r0_0, .agg #[.int .u64 a1.ID.Session, .int .u64 a1.ID.Seq, .int .u64 a1.Epoch, r1_0, r1_1, r1_2, r1_3]]) Try.func57 rfl Try.ntmps57 (Nat.le_of_ble_eq_true rfl) ?_
 refine wp_seq (wp_region_lit ?_)
 obtain ⟨b520, w521, ew522, eb523, hst⟩ := hst.box [.int .u64 a1.ID.Session, .int .u64 a1.ID.Seq, .int .u64 a1.Epoch, r1_0, r1_1, r1_2, r1_3] 34
 refine wl_run (v := .pointer (some ⟨b520, 0, none⟩)) (w' := w521) rfl rfl (x_al (by kernel_rfl) ew522 eb523) ?_
 refine wv ((.slice none 0 0)) rfl rfl rfl ?_
 refine wl_nil (then_n (wp_seq (wp_region_lit ?_)))
 refine wv (r0_0) rfl rfl rfl ?_
 refine wv (.pointer (some ⟨b520, 0, none⟩)) rfl rfl (x_field rfl Try.underlying34 rfl Try.sizeOf29 rfl) ?_
 refine wv (.agg #[.int .u64 a1.ID.Session, .int .u64 a1.ID.Seq]) rfl rfl (x_loadN (cs := [.int .u64 a1.ID.Session, .int .u64 a1.ID.Seq]) rfl Try.isAgg29 Try.sizeOf29 (hst.bcs0 0 rfl)) ?_
 obtain ⟨t526, ht527, hm⟩ := bind_some hm
 refine wl_call rfl rfl (x_call Try.call58 rfl (vs := [r0_0, .agg #[.int .u64 a1.ID.Session, .int .u64 a1.ID.Seq]]) rfl) ?_
 refine (ref12_ID_ref (f0_0.mono (rd_weak _)) hst.to0 ht527).mono ?_
 rintro _ w528 ⟨v531, rfl, hst⟩
 refine ⟨_, rfl, ?_⟩
 replace hst := hst.of1
 refine wv (v531) rfl rfl rfl ?_
 refine wl_nil (then_n (wp_seq (wp_region_lit ?_)))
 refine wv (v531) rfl rfl rfl ?_
 refine wv (.pointer (some ⟨b520, 2, none⟩)) rfl rfl (x_field rfl Try.underlying34 rfl Try.sizeOf27 rfl) ?_
 refine wv (.int .u64 a1.Epoch) rfl rfl (x_load rfl Try.isAgg27 (hst.bc1 rfl)) ?_
 obtain ⟨css533, hq534, hst⟩ := hst.own_open
 obtain ⟨t535, ht536, hm⟩ := bind_some hm
 refine wl_call rfl rfl (x_call Try.call45 rfl (vs := [v531, .int .u64 a1.Epoch, .int .i64 (8:Int)]) rfl) ?_
 refine (ref02_Num_ref (hst.rdrow0 hq534) hst.to0 ht536).mono ?_
 rintro _ w537 ⟨v540, rfl, hst⟩
 refine ⟨_, rfl, ?_⟩
 replace hst := hst.of1
 replace hst := hst.pull1
 replace hst := hst.own_close hq534
 refine wv (v540) rfl rfl rfl ?_
 refine wl_nil (then_n (wp_seq (wp_region_lit ?_)))
 refine wv (v540) rfl rfl rfl ?_
 refine wv (.pointer (some ⟨b520, 3, none⟩)) rfl rfl (x_field rfl Try.underlying34 rfl Try.sizeOf31 rfl) ?_
 refine wv (r1_0) rfl rfl (x_load rfl Try.isAgg31 (hst.bc2 rfl)) ?_
 refine wv (.int .i64 ((a1.Gets).length : Int)) rfl rfl (x_len rfl Try.underlying31 (rd_sliceV f1_0)) ?_
 refine wv (.int .u64 (IntKind.u64.wrap ((a1.Gets).length : Int))) rfl rfl (by kernel_rfl) ?_
 replace hst := hst.pull1
 obtain ⟨css542, hq543, hst⟩ := hst.own_open
 obtain ⟨t544, ht545, hm⟩ := bind_some hm
 refine wl_call rfl rfl (x_call Try.call45 rfl (vs := [v540, .int .u64 (IntKind.u64.wrap ((a1.Gets).length : Int)), .int .i64 (4:Int)]) rfl) ?_
 refine (ref02_Num_ref (hst.rdrow0 hq543) hst.to0 ht545).mono ?_
 rintro _ w546 ⟨v549, rfl, hst⟩
 refine ⟨_, rfl, ?_⟩
 replace hst := hst.of1
 replace hst := hst.pull1
 replace hst := hst.own_close hq543
 refine wv (v549) rfl rfl rfl ?_
 refine wl_nil (then_n ?_)
 obtain ⟨y632, hm, hx633⟩ := bind_some hm
 refine wp_cut (fun a w => ∃ (z629 : (List Int)) (v628 : Value) (σ630 : Nat → Value), (ref12_Hold_j0 a1) z629 = some r ∧ a = Fr 92 (upd (upd σ630 0 (v628)) 3 (.pointer (some ⟨b520, 0, none⟩))) ∧ St w0 w I [ownS (tyInt .u8) v628 z629, cells b520 [.int .u64 a1.ID.Session, .int .u64 a1.ID.Seq, .int .u64 a1.Epoch, r1_0, r1_1, r1_2, r1_3]] R) ?_ ?_
 ·skip
  refine wp_seq (wp_region_lit ?_)
  refine wv (.int .i64 (0:Int)) rfl rfl rfl ?_
  refine wl_nil (then_n (wp_block ?_))
  replace hst := hst.sub
  replace hst := hst.pull1
  replace hst := hst.sub
  obtain ⟨n600, hm⟩ := loopO_some hm
  refine wp_loop_n (fun n a w => ∃ (z595 : (List Int)) (z598 : Int) (v596 : Value) (σ599 : Nat → Value), loopN (ref12_Hold_l1 a1) n (z595, z598) = some y632 ∧ a = Fr 92 (upd (upd (upd σ599 0 (v596)) 3 (.pointer (some ⟨b520, 0, none⟩))) 5 (.int .i64 z598)) ∧ St w0 w I [ownS (tyInt .u8) v596 z595, cells b520 [.int .u64 a1.ID.Session, .int .u64 a1.ID.Seq, .int .u64 a1.Epoch, r1_0, r1_1, r1_2, r1_3]] R) n600 ⟨t544, (0:Int), v549, _, hm, ((fr_upd (t := 0) (v := v549) rfl).trans ((fr_upd (t := 3) (v := .pointer (some ⟨b520, 0, none⟩)) rfl).trans ((fr_upd (t := 5) (v := .int .i64 (0:Int)) rfl).trans rfl))), hst⟩ ?_
  rintro n606 _ w601 ⟨z595, z598, v596, σ599, hm, rfl, hst⟩
  obtain ⟨n603, y604, rfl, hm, hx605⟩ := loopN_some hm
  dsimp only [ref12_Hold_l1] at hm
  refine wp_seq (wp_seq (wp_region_lit ?_))
  refine wv (.int .i64 z598) rfl rfl rfl ?_
  refine wv (.pointer (some ⟨b520, 3, none⟩)) rfl rfl (x_field rfl Try.underlying34 rfl Try.sizeOf31 rfl) ?_
  refine wv (r1_0) rfl rfl (x_load rfl Try.isAgg31 (hst.bc1 rfl)) ?_
  refine wv (.int .i64 ((a1.Gets).length : Int)) rfl rfl (x_len rfl Try.underlying31 (rd_sliceV f1_0)) ?_
  refine wv (.bool (decide (z598 < ((a1.Gets).length : Int)))) rfl rfl rfl ?_
  refine wl_nil (then_n ?_)
  refine bsplit (decide (z598 < ((a1.Gets).length : Int))) (fun hc607 => ?_) (fun hc607 => ?_)
  ·skip
   replace hm := bif_t hc607 hm
   refine wp_ift (congrArg Value.bool hc607) ?_
   refine wp_skip (then_n (wp_seq (wp_block (wp_region_lit ?_))))
   refine wv (v596) rfl rfl rfl ?_
   refine wv (.pointer (some ⟨b520, 3, none⟩)) rfl rfl (x_field rfl Try.underlying34 rfl Try.sizeOf31 rfl) ?_
   refine wv (r1_0) rfl rfl (x_load rfl Try.isAgg31 (hst.bc1 rfl)) ?_
   refine wv (.int .i64 z598) rfl rfl rfl ?_
   obtain ⟨x608, hx609, hm⟩ := bind_some hm
   obtain ⟨h610, h611, hi612⟩ := geto_some hx609
   refine wv (.pointer (some (eAddr r1_0 (z598.toNat * 1 + 0)))) rfl rfl (x_index rfl rfl Try.underlying31 Try.sizeOf41 (rd_sliceV f1_0) h610 h611) ?_
   refine wv (.float .f64 x608) rfl rfl (x_load rfl Try.isAgg41 (rd_load f1_0 (HL.le.refl _) hst hi612 (by rintro _ rfl; rfl))) ?_
   obtain ⟨t613, ht614, hm⟩ := bind_some hm
   refine wl_call rfl rfl (x_call Try.call48 rfl (vs := [.float .f64 x608]) rfl) ?_
   refine (ref01_Rank_ref hst.to0 ht614).mono ?_
   rintro _ w615 ⟨rfl, hst⟩
   refine ⟨_, rfl, ?_⟩
   replace hst := hst.of0
   obtain ⟨css618, hq619, hst⟩ := hst.own_open
   obtain ⟨t620, ht621, hm⟩ := bind_some hm
   refine wl_call rfl rfl (x_call Try.call45 rfl (vs := [v596, .int .u64 t613, .int .i64 (8:Int)]) rfl) ?_
   refine (ref02_Num_ref (hst.rdrow0 hq619) hst.to0 ht621).mono ?_
   rintro _ w622 ⟨v625, rfl, hst⟩
   refine ⟨_, rfl, ?_⟩
   replace hst := hst.of1
   replace hst := hst.pull1
   replace hst := hst.own_close hq619
   refine wv (v625) rfl rfl rfl ?_
   refine wl_nil (blk_n (then_n (wp_region_lit ?_)))
   refine wv (.int .i64 z598) rfl rfl rfl ?_
   refine wv (.int .i64 (IntKind.i64.wrap (z598 + (1:Int)))) rfl rfl rfl ?_
   refine wv (.int .i64 (IntKind.i64.wrap (z598 + (1:Int)))) rfl rfl rfl ?_
   refine wl_nil (then_n ?_)
   replace hst := hst.pull2
   replace hst := hst.pull2
   replace hst := hst.keep2
   obtain rfl := some_inj hm
   exact ⟨_, Nat.lt_succ_self _, t620, (IntKind.i64.wrap (z598 + (1:Int))), v625, _, hx605, ((fr_upd (t := 0) (v := v625) rfl).trans ((fr_upd (t := 3) (v := .pointer (some ⟨b520, 0, none⟩)) rfl).trans ((fr_upd (t := 5) (v := .int .i64 (IntKind.i64.wrap (z598 + (1:Int)))) rfl).trans rfl))), hst⟩
  ·skip
   replace hm := bif_f hc607 hm
   refine wp_iff (congrArg Value.bool hc607) ?_
   refine wp_exit (then_x (then_x ?_))
   replace hm := inr_up hm hx605
   refine blk_x (then_n ?_)
   replace hst := hst.pull1
   replace hst := hst.pull1
   replace hst := hst.keep2
   obtain rfl := some_inj hm
   exact ⟨z595, v596, _, hx633, ((fr_upd (t := 0) (v := v596) rfl).trans ((fr_upd (t := 3) (v := .pointer (some ⟨b520, 0, none⟩)) rfl).trans rfl)), hst⟩
 ·skip
  clear hst
  rintro _ w634 ⟨z629, v628, σ630, hm, rfl, hst⟩
  dsimp only [ref12_Hold_j0] at hm
  refine wp_seq (wp_region_lit ?_)
  refine wv (v628) rfl rfl rfl ?_
  refine wv (.pointer (some ⟨b520, 4, none⟩)) rfl rfl (x_field rfl Try.underlying34 rfl Try.sizeOf32 rfl) ?_
  refine wv (r1_1) rfl rfl (x_load rfl Try.isAgg32 (hst.bc1 rfl)) ?_
  refine wv (.int .i64 ((a1.Scans).length : Int)) rfl rfl (x_len rfl Try.underlying32 (rd_sliceV f1_1)) ?_
  refine wv (.int .u64 (IntKind.u64.wrap ((a1.Scans).length : Int))) rfl rfl (by kernel_rfl) ?_
  obtain ⟨css635, hq636, hst⟩ := hst.own_open
  obtain ⟨t637, ht638, hm⟩ := bind_some hm
  refine wl_call rfl rfl (x_call Try.call45 rfl (vs := [v628, .int .u64 (IntKind.u64.wrap ((a1.Scans).length : Int)), .int .i64 (4:Int)]) rfl) ?_
  refine (ref02_Num_ref (hst.rdrow0 hq636) hst.to0 ht638).mono ?_
  rintro _ w639 ⟨v642, rfl, hst⟩
  refine ⟨_, rfl, ?_⟩
  replace hst := hst.of1
  replace hst := hst.pull1
  replace hst := hst.own_close hq636
  refine wv (v642) rfl rfl rfl ?_
  refine wl_nil (then_n ?_)
  obtain ⟨y767, hm, hx768⟩ := bind_some hm
  refine wp_cut (fun a w => ∃ (z764 : (List Int)) (v763 : Value) (σ765 : Nat → Value), (ref12_Hold_j2 a1) z764 = some r ∧ a = Fr 92 (upd (upd σ765 0 (v763)) 3 (.pointer (some ⟨b520, 0, none⟩))) ∧ St w0 w I [ownS (tyInt .u8) v763 z764, cells b520 [.int .u64 a1.ID.Session, .int .u64 a1.ID.Seq, .int .u64 a1.Epoch, r1_0, r1_1, r1_2, r1_3]] R) ?_ ?_
  ·skip
   refine wp_seq (wp_region_lit ?_)
   refine wv (.int .i64 (0:Int)) rfl rfl rfl ?_
   refine wl_nil (then_n (wp_block ?_))
   replace hst := hst.sub
   obtain ⟨n721, hm⟩ := loopO_some hm
   refine wp_loop_n (fun n a w => ∃ (z716 : (List Int)) (z719 : Int) (v717 : Value) (σ720 : Nat → Value), loopN (ref12_Hold_l3 a1) n (z716, z719) = some y767 ∧ a = Fr 92 (upd (upd (upd σ720 0 (v717)) 3 (.pointer (some ⟨b520, 0, none⟩))) 6 (.int .i64 z719)) ∧ St w0 w I [ownS (tyInt .u8) v717 z716, cells b520 [.int .u64 a1.ID.Session, .int .u64 a1.ID.Seq, .int .u64 a1.Epoch, r1_0, r1_1, r1_2, r1_3]] R) n721 ⟨t637, (0:Int), v642, _, hm, ((fr_upd (t := 0) (v := v642) rfl).trans ((fr_upd (t := 3) (v := .pointer (some ⟨b520, 0, none⟩)) rfl).trans ((fr_upd (t := 6) (v := .int .i64 (0:Int)) rfl).trans rfl))), hst⟩ ?_
   rintro n727 _ w722 ⟨z716, z719, v717, σ720, hm, rfl, hst⟩
   obtain ⟨n724, y725, rfl, hm, hx726⟩ := loopN_some hm
   dsimp only [ref12_Hold_l3] at hm
   refine wp_seq (wp_seq (wp_region_lit ?_))
   refine wv (.int .i64 z719) rfl rfl rfl ?_
   refine wv (.pointer (some ⟨b520, 4, none⟩)) rfl rfl (x_field rfl Try.underlying34 rfl Try.sizeOf32 rfl) ?_
   refine wv (r1_1) rfl rfl (x_load rfl Try.isAgg32 (hst.bc1 rfl)) ?_
   refine wv (.int .i64 ((a1.Scans).length : Int)) rfl rfl (x_len rfl Try.underlying32 (rd_sliceV f1_1)) ?_
   refine wv (.bool (decide (z719 < ((a1.Scans).length : Int)))) rfl rfl rfl ?_
   refine wl_nil (then_n ?_)
   refine bsplit (decide (z719 < ((a1.Scans).length : Int))) (fun hc728 => ?_) (fun hc728 => ?_)
   ·skip
    replace hm := bif_t hc728 hm
    refine wp_ift (congrArg Value.bool hc728) ?_
    refine wp_skip (then_n (wp_seq (wp_block ?_)))
    refine wp_region_St hst 18 [0, 1, 2, 3, 4, 5, 6, 7, 8, 9, 10, 11, 12, 13, 14, 15, 16, 17] [0, 0, 2, 0, 14, 30, 62, 126, 255, 0, 512, 0, 3584, 7680, 15872, 32767, 65535, 131071] [17] rfl (by kernel_rfl) (by kernel_rfl) Try.mixed (by kernel_rfl) ?_
    refine wsr (v717) 0 rfl rfl rfl (by kernel_rfl) (fun w hst => rfl) ?_
    refine wsr (.pointer (some ⟨b520, 4, none⟩)) 1 rfl rfl rfl (by kernel_rfl) (fun w hst => x_field rfl Try.underlying34 rfl Try.sizeOf32 rfl) ?_
    refine wsr (r1_1) 2 rfl rfl rfl (by kernel_rfl) (fun w hst => x_load rfl Try.isAgg32 (hst.bc1 rfl)) ?_
    refine wsr (.int .i64 z719) 3 rfl rfl rfl (by kernel_rfl) (fun w hst => rfl) ?_
    obtain ⟨x729, hx730, hm⟩ := bind_some hm
    obtain ⟨h731, h732, hi733⟩ := geto_some hx730
    refine wsr (.pointer (some (eAddr r1_1 (z719.toNat * 2 + 0)))) 4 rfl rfl rfl (by kernel_rfl) (fun w hst => x_index rfl rfl Try.underlying32 Try.sizeOf111 (rd_sliceV f1_1) h731 h732) ?_
    refine wsr (.pointer (some (eAddr r1_1 (z719.toNat * 2 + 0)))) 5 rfl rfl rfl (by kernel_rfl) (fun w hst => x_index_arr_e (i := (0:Int)) rfl rfl Try.underlying111 Try.sizeOf41 (by decide) (by decide) rfl) ?_
    refine wsr (.float .f64 x729.1) 6 rfl rfl rfl (by kernel_rfl) (fun w hst => x_load rfl Try.isAgg41 (rd_load f1_1 (HL.le.refl _) hst hi733 (by rintro _ rfl; rfl))) ?_
    refine wsr (.pointer (some ⟨b520, 4, none⟩)) 9 rfl rfl rfl (by kernel_rfl) (fun w hst => x_field rfl Try.underlying34 rfl Try.sizeOf32 rfl) ?_
    refine wsr (r1_1) 10 rfl rfl rfl (by kernel_rfl) (fun w hst => x_load rfl Try.isAgg32 (hst.bc1 rfl)) ?_
    refine wsr (.int .i64 z719) 11 rfl rfl rfl (by kernel_rfl) (fun w hst => rfl) ?_
    refine wsr (.pointer (some (eAddr r1_1 (z719.toNat * 2 + 0)))) 12 rfl rfl rfl (by kernel_rfl) (fun w hst => x_index rfl rfl Try.underlying32 Try.sizeOf111 (rd_sliceV f1_1) h731 h732) ?_
    refine wsr (.pointer (some (eAddr r1_1 (z719.toNat * 2 + 1)))) 13 rfl rfl rfl (by kernel_rfl) (fun w hst => x_index_arr_e (i := (1:Int)) rfl rfl Try.underlying111 Try.sizeOf41 (by decide) (by decide) rfl) ?_
    refine wsr (.float .f64 x729.2) 14 rfl rfl rfl (by kernel_rfl) (fun w hst => x_load rfl Try.isAgg41 (rd_load f1_1 (HL.le.refl _) hst hi733 (by rintro _ rfl; rfl))) ?_
    refine ws_e1 7 (by kernel_rfl) ?_
    refine nxe [8, 15, 16, 17] (by kernel_rfl) rfl rfl ?_
    clear hst
    intro w hst
    obtain ⟨t734, ht735, hm⟩ := bind_some hm
    refine we_call rfl (x_call Try.call48 rfl (vs := [.float .f64 x729.1]) rfl) ?_
    refine (ref01_Rank_ref hst.to0 ht735).mono ?_
    rintro _ w736 ⟨rfl, hst⟩
    refine ⟨_, rfl, ?_⟩
    replace hst := hst.of0
    refine ws_next (pend' := [(14, .float .f64 x729.2), (13, .pointer (some (eAddr r1_1 (z719.toNat * 2 + 1)))), (12, .pointer (some (eAddr r1_1 (z719.toNat * 2 + 0)))), (11, .int .i64 z719), (10, r1_1), (9, .pointer (some ⟨b520, 4, none⟩)), (0, v717)]) hst (by kernel_rfl) (pkr rfl rfl (fun w hst => x_load rfl Try.isAgg41 (rd_load f1_1 (HL.le.refl _) hst hi733 (by rintro _ rfl; rfl))) (pkr rfl rfl (fun w hst => x_index_arr_e (i := (1:Int)) rfl rfl Try.underlying111 Try.sizeOf41 (by decide) (by decide) rfl) (pkr rfl rfl (fun w hst => x_index rfl rfl Try.underlying32 Try.sizeOf111 (rd_sliceV f1_1) h731 h732) (pkr rfl rfl (fun w hst => rfl) (pkr rfl rfl (fun w hst => x_load rfl Try.isAgg32 (hst.bc1 rfl)) (pkr rfl rfl (fun w hst => x_field rfl Try.underlying34 rfl Try.sizeOf32 rfl) (pkr rfl rfl (fun w hst => rfl) pk_nil))))))) ?_
    refine ws_e1 8 (by kernel_rfl) ?_
    refine nxe [15, 16, 17] (by kernel_rfl) rfl rfl ?_
    clear hst
    intro w hst
    obtain ⟨css739, hq740, hst⟩ := hst.own_open
    obtain ⟨t741, ht742, hm⟩ := bind_some hm
    refine we_call rfl (x_call Try.call45 rfl (vs := [v717, .int .u64 t734, .int .i64 (8:Int)]) rfl) ?_
    refine (ref02_Num_ref (hst.rdrow0 hq740) hst.to0 ht742).mono ?_
    rintro _ w743 ⟨v746, rfl, hst⟩
    refine ⟨_, rfl, ?_⟩
    replace hst := hst.of1
    replace hst := hst.pull1
    replace hst := hst.own_close hq740
    refine ws_next (pend' := [(14, .float .f64 x729.2), (13, .pointer (some (eAddr r1_1 (z719.toNat * 2 + 1)))), (12, .pointer (some (eAddr r1_1 (z719.toNat * 2 + 0)))), (11, .int .i64 z719), (10, r1_1), (9, .pointer (some ⟨b520, 4, none⟩))]) hst (by kernel_rfl) (pkr rfl rfl (fun w hst => x_load rfl Try.isAgg41 (rd_load f1_1 (HL.le.refl _) hst hi733 (by rintro _ rfl; rfl))) (pkr rfl rfl (fun w hst => x_index_arr_e (i := (1:Int)) rfl rfl Try.underlying111 Try.sizeOf41 (by decide) (by decide) rfl) (pkr rfl rfl (fun w hst => x_index rfl rfl Try.underlying32 Try.sizeOf111 (rd_sliceV f1_1) h731 h732) (pkr rfl rfl (fun w hst => rfl) (pkr rfl rfl (fun w hst => x_load rfl Try.isAgg32 (hst.bc2 rfl)) (pkr rfl rfl (fun w hst => x_field rfl Try.underlying34 rfl Try.sizeOf32 rfl) pk_nil)))))) ?_
    refine ws_e1 15 (by kernel_rfl) ?_
    refine nxe [16, 17] (by kernel_rfl) rfl rfl ?_
    clear hst
    intro w hst
    obtain ⟨t748, ht749, hm⟩ := bind_some hm
    refine we_call rfl (x_call Try.call48 rfl (vs := [.float .f64 x729.2]) rfl) ?_
    refine (ref01_Rank_ref hst.to0 ht749).mono ?_
    rintro _ w750 ⟨rfl, hst⟩
    refine ⟨_, rfl, ?_⟩
    replace hst := hst.of0
    refine ws_next (pend' := []) hst (by kernel_rfl) pk_nil ?_
    refine ws_e1 16 (by kernel_rfl) ?_
    refine nxe [17] (by kernel_rfl) rfl rfl ?_
    clear hst
    intro w hst
    replace hst := hst.pull1
    obtain ⟨css753, hq754, hst⟩ := hst.own_open
    obtain ⟨t755, ht756, hm⟩ := bind_some hm
    refine we_call rfl (x_call Try.call45 rfl (vs := [v746, .int .u64 t748, .int .i64 (8:Int)]) rfl) ?_
    refine (ref02_Num_ref (hst.rdrow0 hq754) hst.to0 ht756).mono ?_
    rintro _ w757 ⟨v760, rfl, hst⟩
    refine ⟨_, rfl, ?_⟩
    replace hst := hst.of1
    replace hst := hst.pull1
    replace hst := hst.own_close hq754
    refine ws_next (pend' := []) hst (by kernel_rfl) pk_nil ?_
    refine ws_e1 17 (by kernel_rfl) ?_
    refine nxe [] (by kernel_rfl) rfl rfl ?_
    clear hst
    intro w hst
    refine we_run (v := v760) (w' := w) rfl rfl ?_
    refine ws_next (pend' := []) hst (by kernel_rfl) pk_nil ?_
    refine ws_nil ?_
    intro w hst
    refine blk_n (then_n (wp_region_lit ?_))
    refine wv (.int .i64 z719) rfl rfl rfl ?_
    refine wv (.int .i64 (IntKind.i64.wrap (z719 + (1:Int)))) rfl rfl rfl ?_
    refine wv (.int .i64 (IntKind.i64.wrap (z719 + (1:Int)))) rfl rfl rfl ?_
    refine wl_nil (then_n ?_)
    replace hst := hst.pull3
    replace hst := hst.pull2
    replace hst := hst.keep2
    obtain rfl := some_inj hm
    exact ⟨_, Nat.lt_succ_self _, t755, (IntKind.i64.wrap (z719 + (1:Int))), v760, _, hx726, ((fr_upd (t := 0) (v := v760) rfl).trans ((fr_upd (t := 3) (v := .pointer (some ⟨b520, 0, none⟩)) rfl).trans ((fr_upd (t := 6) (v := .int .i64 (IntKind.i64.wrap (z719 + (1:Int)))) rfl).trans rfl))), hst⟩
   ·skip
    replace hm := bif_f hc728 hm
    refine wp_iff (congrArg Value.bool hc728) ?_
    refine wp_exit (then_x (then_x ?_))
    replace hm := inr_up hm hx726
    refine blk_x (then_n ?_)
    replace hst := hst.pull1
    replace hst := hst.pull1
    replace hst := hst.keep2
    obtain rfl := some_inj hm
    exact ⟨z716, v717, _, hx768, ((fr_upd (t := 0) (v := v717) rfl).trans ((fr_upd (t := 3) (v := .pointer (some ⟨b520, 0, none⟩)) rfl).trans rfl)), hst⟩
  ·skip
   clear hst
   rintro _ w769 ⟨z764, v763, σ765, hm, rfl, hst⟩
   dsimp only [ref12_Hold_j2] at hm
   refine wp_seq (wp_region_lit ?_)
   refine wv (v763) rfl rfl rfl ?_
   refine wv (.pointer (some ⟨b520, 5, none⟩)) rfl rfl (x_field rfl Try.underlying34 rfl Try.sizeOf31 rfl) ?_
   refine wv (r1_2) rfl rfl (x_load rfl Try.isAgg31 (hst.bc1 rfl)) ?_
   refine wv (.int .i64 ((a1.Puts).length : Int)) rfl rfl (x_len rfl Try.underlying31 (rd_sliceV f1_2)) ?_
   refine wv (.int .u64 (IntKind.u64.wrap ((a1.Puts).length : Int))) rfl rfl (by kernel_rfl) ?_
   obtain ⟨css770, hq771, hst⟩ := hst.own_open
   obtain ⟨t772, ht773, hm⟩ := bind_some hm
   refine wl_call rfl rfl (x_call Try.call45 rfl (vs := [v763, .int .u64 (IntKind.u64.wrap ((a1.Puts).length : Int)), .int .i64 (4:Int)]) rfl) ?_
   refine (ref02_Num_ref (hst.rdrow0 hq771) hst.to0 ht773).mono ?_
   rintro _ w774 ⟨v777, rfl, hst⟩
   refine ⟨_, rfl, ?_⟩
   replace hst := hst.of1
   replace hst := hst.pull1
   replace hst := hst.own_close hq771
   refine wv (v777) rfl rfl rfl ?_
   refine wl_nil (then_n ?_)
   obtain ⟨y860, hm, hx861⟩ := bind_some hm
   refine wp_cut (fun a w => ∃ (z857 : (List Int)) (v856 : Value) (σ858 : Nat → Value), (ref12_Hold_j4 a1) z857 = some r ∧ a = Fr 92 (upd (upd σ858 0 (v856)) 3 (.pointer (some ⟨b520, 0, none⟩))) ∧ St w0 w I [ownS (tyInt .u8) v856 z857, cells b520 [.int .u64 a1.ID.Session, .int .u64 a1.ID.Seq, .int .u64 a1.Epoch, r1_0, r1_1, r1_2, r1_3]] R) ?_ ?_
   ·skip
    refine wp_seq (wp_region_lit ?_)
    refine wv (.int .i64 (0:Int)) rfl rfl rfl ?_
    refine wl_nil (then_n (wp_block ?_))
    replace hst := hst.sub
    obtain ⟨n828, hm⟩ := loopO_some hm
    refine wp_loop_n (fun n a w => ∃ (z823 : (List Int)) (z826 : Int) (v824 : Value) (σ827 : Nat → Value), loopN (ref12_Hold_l5 a1) n (z823, z826) = some y860 ∧ a = Fr 92 (upd (upd (upd σ827 0 (v824)) 3 (.pointer (some ⟨b520, 0, none⟩))) 7 (.int .i64 z826)) ∧ St w0 w I [ownS (tyInt .u8) v824 z823, cells b520 [.int .u64 a1.ID.Session, .int .u64 a1.ID.Seq, .int .u64 a1.Epoch, r1_0, r1_1, r1_2, r1_3]] R) n828 ⟨t772, (0:Int), v777, _, hm, ((fr_upd (t := 0) (v := v777) rfl).trans ((fr_upd (t := 3) (v := .pointer (some ⟨b520, 0, none⟩)) rfl).trans ((fr_upd (t := 7) (v := .int .i64 (0:Int)) rfl).trans rfl))), hst⟩ ?_
    rintro n834 _ w829 ⟨z823, z826, v824, σ827, hm, rfl, hst⟩
    obtain ⟨n831, y832, rfl, hm, hx833⟩ := loopN_some hm
    dsimp only [ref12_Hold_l5] at hm
    refine wp_seq (wp_seq (wp_region_lit ?_))
    refine wv (.int .i64 z826) rfl rfl rfl ?_
    refine wv (.pointer (some ⟨b520, 5, none⟩)) rfl rfl (x_field rfl Try.underlying34 rfl Try.sizeOf31 rfl) ?_
    refine wv (r1_2) rfl rfl (x_load rfl Try.isAgg31 (hst.bc1 rfl)) ?_
    refine wv (.int .i64 ((a1.Puts).length : Int)) rfl rfl (x_len rfl Try.underlying31 (rd_sliceV f1_2)) ?_
    refine wv (.bool (decide (z826 < ((a1.Puts).length : Int)))) rfl rfl rfl ?_
    refine wl_nil (then_n ?_)
    refine bsplit (decide (z826 < ((a1.Puts).length : Int))) (fun hc835 => ?_) (fun hc835 => ?_)
    ·skip
     replace hm := bif_t hc835 hm
     refine wp_ift (congrArg Value.bool hc835) ?_
     refine wp_skip (then_n (wp_seq (wp_block (wp_region_lit ?_))))
     refine wv (v824) rfl rfl rfl ?_
     refine wv (.pointer (some ⟨b520, 5, none⟩)) rfl rfl (x_field rfl Try.underlying34 rfl Try.sizeOf31 rfl) ?_
     refine wv (r1_2) rfl rfl (x_load rfl Try.isAgg31 (hst.bc1 rfl)) ?_
     refine wv (.int .i64 z826) rfl rfl rfl ?_
     obtain ⟨x836, hx837, hm⟩ := bind_some hm
     obtain ⟨h838, h839, hi840⟩ := geto_some hx837
     refine wv (.pointer (some (eAddr r1_2 (z826.toNat * 1 + 0)))) rfl rfl (x_index rfl rfl Try.underlying31 Try.sizeOf41 (rd_sliceV f1_2) h838 h839) ?_
     refine wv (.float .f64 x836) rfl rfl (x_load rfl Try.isAgg41 (rd_load f1_2 (HL.le.refl _) hst hi840 (by rintro _ rfl; rfl))) ?_
     obtain ⟨t841, ht842, hm⟩ := bind_some hm
     refine wl_call rfl rfl (x_call Try.call48 rfl (vs := [.float .f64 x836]) rfl) ?_
     refine (ref01_Rank_ref hst.to0 ht842).mono ?_
     rintro _ w843 ⟨rfl, hst⟩
     refine ⟨_, rfl, ?_⟩
     replace hst := hst.of0
     obtain ⟨css846, hq847, hst⟩ := hst.own_open
     obtain ⟨t848, ht849, hm⟩ := bind_some hm
     refine wl_call rfl rfl (x_call Try.call45 rfl (vs := [v824, .int .u64 t841, .int .i64 (8:Int)]) rfl) ?_
     refine (ref02_Num_ref (hst.rdrow0 hq847) hst.to0 ht849).mono ?_
     rintro _ w850 ⟨v853, rfl, hst⟩
     refine ⟨_, rfl, ?_⟩
     replace hst := hst.of1
     replace hst := hst.pull1
     replace hst := hst.own_close hq847
     refine wv (v853) rfl rfl rfl ?_
     refine wl_nil (blk_n (then_n (wp_region_lit ?_)))
     refine wv (.int .i64 z826) rfl rfl rfl ?_
     refine wv (.int .i64 (IntKind.i64.wrap (z826 + (1:Int)))) rfl rfl rfl ?_
     refine wv (.int .i64 (IntKind.i64.wrap (z826 + (1:Int)))) rfl rfl rfl ?_
     refine wl_nil (then_n ?_)
     replace hst := hst.pull2
     replace hst := hst.pull2
     replace hst := hst.keep2
     obtain rfl := some_inj hm
     exact ⟨_, Nat.lt_succ_self _, t848, (IntKind.i64.wrap (z826 + (1:Int))), v853, _, hx833, ((fr_upd (t := 0) (v := v853) rfl).trans ((fr_upd (t := 3) (v := .pointer (some ⟨b520, 0, none⟩)) rfl).trans ((fr_upd (t := 7) (v := .int .i64 (IntKind.i64.wrap (z826 + (1:Int)))) rfl).trans rfl))), hst⟩
    ·skip
     replace hm := bif_f hc835 hm
     refine wp_iff (congrArg Value.bool hc835) ?_
     refine wp_exit (then_x (then_x ?_))
     replace hm := inr_up hm hx833
     refine blk_x (then_n ?_)
     replace hst := hst.pull1
     replace hst := hst.pull1
     replace hst := hst.keep2
     obtain rfl := some_inj hm
     exact ⟨z823, v824, _, hx861, ((fr_upd (t := 0) (v := v824) rfl).trans ((fr_upd (t := 3) (v := .pointer (some ⟨b520, 0, none⟩)) rfl).trans rfl)), hst⟩
   ·skip
    clear hst
    rintro _ w862 ⟨z857, v856, σ858, hm, rfl, hst⟩
    dsimp only [ref12_Hold_j4] at hm
    refine wp_seq (wp_region_lit ?_)
    refine wv (v856) rfl rfl rfl ?_
    refine wv (.pointer (some ⟨b520, 6, none⟩)) rfl rfl (x_field rfl Try.underlying34 rfl Try.sizeOf22 rfl) ?_
    refine wv (r1_3) rfl rfl (x_load rfl Try.isAgg22 (hst.bc1 rfl)) ?_
    obtain ⟨css863, hq864, hst⟩ := hst.own_open
    obtain ⟨t865, ht866, hm⟩ := bind_some hm
    refine wl_call rfl rfl (x_call Try.call46 rfl (vs := [v856, r1_3]) rfl) ?_
    refine (ref02_Bytes_ref (hst.rdrow0 hq864) (f1_3.mono (rd_weak _)) hst.to0 ht866).mono ?_
    rintro _ w867 ⟨v870, rfl, hst⟩
    refine ⟨_, rfl, ?_⟩
    replace hst := hst.of1
    replace hst := hst.pull1
    replace hst := hst.own_close hq864
    refine wv (v870) rfl rfl rfl ?_
    refine wl_nil (then_n (wp_ret ?_))
    obtain rfl := some_inj hm
    refine post_ret (vs := [v870]) Try.results57 (rvs_cons (rv_tmp rfl) rvs_nil) ?_
    replace hst := hst.pull1
    exact ⟨v870, rfl, hst.keep1⟩

theorem ref02_Flag_ref {w0 w : World} {I : HL} {R : SP} {a0 : (List Int)} {r0_0 : Value} {a1 : Bool} (f0_0 : Rd (tyInt .u8) R I r0_0 a0) (hst : St w0 w I [] R) {r : ((List Int))} (hm : ref02_Flag a0 a1 = some r) :
  Calls Try.prog 47 #[r0_0, .bool a1] w fun e w' => ∃ (q0_0 : Value), e = .returned (q0_0) ∧ St w0 w' I [ownS (tyInt .u8) q0_0 r] R := by
 unfold ref02_Flag at hm
 refine calls_start (args := [r0_0, .bool a1]) Try.func47 rfl Try.ntmps47 (Nat.le_of_ble_eq_true rfl) ?_
 refine wp_seq (wp_region_lit ?_)
 refine wv ((.slice none 0 0)) rfl rfl rfl ?_
 refine wl_nil (then_n (wp_seq (wp_seq (wp_region_lit ?_))))
 refine wv (.bool a1) rfl rfl rfl ?_
 refine wl_nil (then_n ?_)
 refine bsplit a1 (fun hc216 => ?_) (fun hc216 => ?_)
 ·skip
  replace hm := bif_t hc216 hm
  refine wp_ift (congrArg Value.bool hc216) ?_
  refine wp_seq (wp_region_lit ?_)
  refine wv (r0_0) rfl rfl rfl ?_
  obtain ⟨t217, ht218, hm⟩ := bind_some hm
  refine wl_call rfl rfl (x_call Try.call45 rfl (vs := [r0_0, .int .u64 (1:Int), .int .i64 (1:Int)]) rfl) ?_
  refine (ref02_Num_ref (f0_0.mono (rd_weak _)) hst.to0 ht218).mono ?_
  rintro _ w219 ⟨v222, rfl, hst⟩
  refine ⟨_, rfl, ?_⟩
  replace hst := hst.of1
  refine wv (v222) rfl rfl rfl ?_
  refine wl_nil (then_n (wp_ret (then_r ?_)))
  obtain rfl := some_inj hm
  refine post_ret (vs := [v222]) Try.results47 (rvs_cons (rv_tmp rfl) rvs_nil) ?_
  exact ⟨v222, rfl, hst.keep1⟩
 ·skip
  replace hm := bif_f hc216 hm
  refine wp_iff (congrArg Value.bool hc216) ?_
  refine wp_skip (then_n (wp_seq (wp_region_lit ?_)))
  refine wv (r0_0) rfl rfl rfl ?_
  obtain ⟨t224, ht225, hm⟩ := bind_some hm
  refine wl_call rfl rfl (x_call Try.call45 rfl (vs := [r0_0, .int .u64 (0:Int), .int .i64 (1:Int)]) rfl) ?_
  refine (ref02_Num_ref (f0_0.mono (rd_weak _)) hst.to0 ht225).mono ?_
  rintro _ w226 ⟨v229, rfl, hst⟩
  refine ⟨_, rfl, ?_⟩
  replace hst := hst.of1
  refine wv (v229) rfl rfl rfl ?_
  refine wl_nil (then_n (wp_ret ?_))
  obtain rfl := some_inj hm
  refine post_ret (vs := [v229]) Try.results47 (rvs_cons (rv_tmp rfl) rvs_nil) ?_
  exact ⟨v229, rfl, hst.keep1⟩

theorem ref13_Writes_ref {w0 w : World} {I : HL} {R : SP} {a0 : (List Int)} {r0_0 : Value} {a1 : (List api_Write)} {r1_0 : Value} (f0_0 : Rd (tyInt .u8) R I r0_0 a0) (f1_0 : Rd ty_api_Write R I r1_0 a1) (hst : St w0 w I [] R) {r : ((List Int))} (hm : ref13_Writes a0 a1 = some r) :
  Calls Try.prog 59 #[r0_0, r1_0] w fun e w' => ∃ (q0_0 : Value), e = .returned (q0_0) ∧ St w0 w' I [ownS (tyInt .u8) q0_0 r] R := by
 unfold ref13_Writes at hm
 refine calls_start (args := [r0_0, r1_0]) Try.func59 rfl Try.ntmps59 (Nat.le_of_ble_eq_true rfl) ?_
 refine wp_seq (wp_region_lit ?_)
 refine wv ((.slice none 0 0)) rfl rfl rfl ?_
 refine wl_nil (then_n (wp_seq (wp_region_lit ?_)))
 refine wv (r0_0) rfl rfl rfl ?_
 refine wv (r1_0) rfl rfl rfl ?_
 refine wv (.int .i64 ((a1).length : Int)) rfl rfl (x_len rfl Try.underlying35 (rd_sliceV f1_0)) ?_
 refine wv (.int .u64 (IntKind.u64.wrap ((a1).length : Int))) rfl rfl (by kernel_rfl) ?_
 obtain ⟨t347, ht348, hm⟩ := bind_some hm
 refine wl_call rfl rfl (x_call Try.call45 rfl (vs := [r0_0, .int .u64 (IntKind.u64.wrap ((a1).length : Int)), .int .i64 (4:Int)]) rfl) ?_
 refine (ref02_Num_ref (f0_0.mono (rd_weak _)) hst.to0 ht348).mono ?_
 rintro _ w349 ⟨v352, rfl, hst⟩
 refine ⟨_, rfl, ?_⟩
 replace hst := hst.of1
 refine wv (v352) rfl rfl rfl ?_
 refine wl_nil (then_n (wp_seq (wp_seq (wp_region_lit ?_))))
 refine wv (.int .i64 (0:Int)) rfl rfl rfl ?_
 refine wl_nil (then_n (wp_block ?_))
 obtain ⟨n451, hm⟩ := loopO_some hm
 refine wp_loop_n (fun n a w => ∃ (z446 : (List Int)) (z449 : Int) (v447 : Value) (σ450 : Nat → Value), loopN (ref13_Writes_l0 a1) n (z446, z449) = some r ∧ a = Fr 38 (upd (upd (upd σ450 0 (v447)) 1 (r1_0)) 5 (.int .i64 z449)) ∧ St w0 w I [ownS (tyInt .u8) v447 z446] R) n451 ⟨t347, (0:Int), v352, _, hm, ((fr_upd (t := 0) (v := v352) rfl).trans ((fr_upd (t := 1) (v := r1_0) rfl).trans ((fr_upd (t := 5) (v := .int .i64 (0:Int)) rfl).trans rfl))), hst⟩ ?_
 rintro n457 _ w452 ⟨z446, z449, v447, σ450, hm, rfl, hst⟩
 obtain ⟨n454, y455, rfl, hm, hx456⟩ := loopN_some hm
 dsimp only [ref13_Writes_l0] at hm
 refine wp_seq (wp_seq (wp_region_lit ?_))
 refine wv (.int .i64 z449) rfl rfl rfl ?_
 refine wv (r1_0) rfl rfl rfl ?_
 refine wv (.int .i64 ((a1).length : Int)) rfl rfl (x_len rfl Try.underlying35 (rd_sliceV f1_0)) ?_
 refine wv (.bool (decide (z449 < ((a1).length : Int)))) rfl rfl rfl ?_
 refine wl_nil (then_n ?_)
 refine bsplit (decide (z449 < ((a1).length : Int))) (fun hc458 => ?_) (fun hc458 => ?_)
 ·skip
  replace hm := bif_t hc458 hm
  refine wp_ift (congrArg Value.bool hc458) ?_
  refine wp_skip (then_n (wp_seq (wp_block ?_)))
  refine wp_region_St hst 21 [0, 1, 2, 3, 4, 5, 6, 7, 8, 9, 10, 11, 12, 13, 14, 15, 16, 17, 18, 19, 20] [0, 0, 0, 6, 14, 30, 62, 127, 0, 0, 768, 1792, 3840, 8191, 0, 0, 49152, 114688, 245760, 524287, 1048575] [20] rfl (by kernel_rfl) (by kernel_rfl) Try.mixed (by kernel_rfl) ?_
  refine wsr (v447) 0 rfl rfl rfl (by kernel_rfl) (fun w hst => rfl) ?_
  refine wsr (r1_0) 1 rfl rfl rfl (by kernel_rfl) (fun w hst => rfl) ?_
  refine wsr (.int .i64 z449) 2 rfl rfl rfl (by kernel_rfl) (fun w hst => rfl) ?_
  obtain ⟨x459, hx460, hm⟩ := bind_some hm
  obtain ⟨h461, h462, hi463⟩ := geto_some hx460
  refine wsr (.pointer (some (eAddr r1_0 (z449.toNat * 3 + 0)))) 3 rfl rfl rfl (by kernel_rfl) (fun w hst => x_index rfl rfl Try.underlying35 Try.sizeOf73 (rd_sliceV f1_0) h461 h462) ?_
  refine wsr (.pointer (some (eAddr r1_0 (z449.toNat * 3 + 0)))) 4 rfl rfl rfl (by kernel_rfl) (fun w hst => x_field_e rfl Try.underlying73 rfl Try.sizeOf41 rfl) ?_
  obtain ⟨cs464, hr465, hc466⟩ := Rd.getF f1_0 hi463
  obtain ⟨v467, rfl, f468, -⟩ := hr465
  refine wsr (.float .f64 x459.At) 5 rfl rfl rfl (by kernel_rfl) (fun w hst => x_load rfl Try.isAgg41 ((hc466 (HL.le.refl _) hst) 0 _ rfl)) ?_
  refine wsr (r1_0) 8 rfl rfl rfl (by kernel_rfl) (fun w hst => rfl) ?_
  refine wsr (.int .i64 z449) 9 rfl rfl rfl (by kernel_rfl) (fun w hst => rfl) ?_
  refine wsr (.pointer (some (eAddr r1_0 (z449.toNat * 3 + 0)))) 10 rfl rfl rfl (by kernel_rfl) (fun w hst => x_index rfl rfl Try.underlying35 Try.sizeOf73 (rd_sliceV f1_0) h461 h462) ?_
  refine wsr (.pointer (some (eAddr r1_0 (z449.toNat * 3 + 1)))) 11 rfl rfl rfl (by kernel_rfl) (fun w hst => x_field_e rfl Try.underlying73 rfl Try.sizeOf4 rfl) ?_
  refine wsr (.bool x459.Del) 12 rfl rfl rfl (by kernel_rfl) (fun w hst => x_load rfl Try.isAgg4 ((hc466 (HL.le.refl _) hst) 1 _ rfl)) ?_
  refine wsr (r1_0) 14 rfl rfl rfl (by kernel_rfl) (fun w hst => rfl) ?_
  refine wsr (.int .i64 z449) 15 rfl rfl rfl (by kernel_rfl) (fun w hst => rfl) ?_
  refine wsr (.pointer (some (eAddr r1_0 (z449.toNat * 3 + 0)))) 16 rfl rfl rfl (by kernel_rfl) (fun w hst => x_index rfl rfl Try.underlying35 Try.sizeOf73 (rd_sliceV f1_0) h461 h462) ?_
  refine wsr (.pointer (some (eAddr r1_0 (z449.toNat * 3 + 2)))) 17 rfl rfl rfl (by kernel_rfl) (fun w hst => x_field_e rfl Try.underlying73 rfl Try.sizeOf22 rfl) ?_
  refine wsr (v467) 18 rfl rfl rfl (by kernel_rfl) (fun w hst => x_load rfl Try.isAgg22 ((hc466 (HL.le.refl _) hst) 2 _ rfl)) ?_
  refine ws_e1 6 (by kernel_rfl) ?_
  refine nxe [7, 13, 19, 20] (by kernel_rfl) rfl rfl ?_
  clear hst
  intro w hst
  obtain ⟨t470, ht471, hm⟩ := bind_some hm
  refine we_call rfl (x_call Try.call48 rfl (vs := [.float .f64 x459.At]) rfl) ?_
  refine (ref01_Rank_ref hst.to0 ht471).mono ?_
  rintro _ w472 ⟨rfl, hst⟩
  refine ⟨_, rfl, ?_⟩
  replace hst := hst.of0
  refine ws_next (pend' := [(18, v467), (17, .pointer (some (eAddr r1_0 (z449.toNat * 3 + 2)))), (16, .pointer (some (eAddr r1_0 (z449.toNat * 3 + 0)))), (15, .int .i64 z449), (14, r1_0), (12, .bool x459.Del), (11, .pointer (some (eAddr r1_0 (z449.toNat * 3 + 1)))), (10, .pointer (some (eAddr r1_0 (z449.toNat * 3 + 0)))), (9, .int .i64 z449), (8, r1_0), (0, v447)]) hst (by kernel_rfl) (pkr rfl rfl (fun w hst => x_load rfl Try.isAgg22 ((hc466 (HL.le.refl _) hst) 2 _ rfl)) (pkr rfl rfl (fun w hst => x_field_e rfl Try.underlying73 rfl Try.sizeOf22 rfl) (pkr rfl rfl (fun w hst => x_index rfl rfl Try.underlying35 Try.sizeOf73 (rd_sliceV f1_0) h461 h462) (pkr rfl rfl (fun w hst => rfl) (pkr rfl rfl (fun w hst => rfl) (pkr rfl rfl (fun w hst => x_load rfl Try.isAgg4 ((hc466 (HL.le.refl _) hst) 1 _ rfl)) (pkr rfl rfl (fun w hst => x_field_e rfl Try.underlying73 rfl Try.sizeOf4 rfl) (pkr rfl rfl (fun w hst => x_index rfl rfl Try.underlying35 Try.sizeOf73 (rd_sliceV f1_0) h461 h462) (pkr rfl rfl (fun w hst => rfl) (pkr rfl rfl (fun w hst => rfl) (pkr rfl rfl (fun w hst => rfl) pk_nil))))))))))) ?_
  refine ws_e1 7 (by kernel_rfl) ?_
  refine nxe [13, 19, 20] (by kernel_rfl) rfl rfl ?_
  clear hst
  intro w hst
  obtain ⟨css475, hq476, hst⟩ := hst.own_open
  obtain ⟨t477, ht478, hm⟩ := bind_some hm
  refine we_call rfl (x_call Try.call45 rfl (vs := [v447, .int .u64 t470, .int .i64 (8:Int)]) rfl) ?_
  refine (ref02_Num_ref (hst.rdrow0 hq476) hst.to0 ht478).mono ?_
  rintro _ w479 ⟨v482, rfl, hst⟩
  refine ⟨_, rfl, ?_⟩
  replace hst := hst.of1
  replace hst := hst.pull1
  replace hst := hst.own_close hq476
  refine ws_next (pend' := [(18, v467), (17, .pointer (some (eAddr r1_0 (z449.toNat * 3 + 2)))), (16, .pointer (some (eAddr r1_0 (z449.toNat * 3 + 0)))), (15, .int .i64 z449), (14, r1_0), (12, .bool x459.Del), (11, .pointer (some (eAddr r1_0 (z449.toNat * 3 + 1)))), (10, .pointer (some (eAddr r1_0 (z449.toNat * 3 + 0)))), (9, .int .i64 z449), (8, r1_0)]) hst (by kernel_rfl) (pkr rfl rfl (fun w hst => x_load rfl Try.isAgg22 ((hc466 (HL.le.refl _) hst) 2 _ rfl)) (pkr rfl rfl (fun w hst => x_field_e rfl Try.underlying73 rfl Try.sizeOf22 rfl) (pkr rfl rfl (fun w hst => x_index rfl rfl Try.underlying35 Try.sizeOf73 (rd_sliceV f1_0) h461 h462) (pkr rfl rfl (fun w hst => rfl) (pkr rfl rfl (fun w hst => rfl) (pkr rfl rfl (fun w hst => x_load rfl Try.isAgg4 ((hc466 (HL.le.refl _) hst) 1 _ rfl)) (pkr rfl rfl (fun w hst => x_field_e rfl Try.underlying73 rfl Try.sizeOf4 rfl) (pkr rfl rfl (fun w hst => x_index rfl rfl Try.underlying35 Try.sizeOf73 (rd_sliceV f1_0) h461 h462) (pkr rfl rfl (fun w hst => rfl) (pkr rfl rfl (fun w hst => rfl) pk_nil)))))))))) ?_
  refine ws_e1 13 (by kernel_rfl) ?_
  refine nxe [19, 20] (by kernel_rfl) rfl rfl ?_
  clear hst
  intro w hst
  replace hst := hst.pull1
  obtain ⟨css484, hq485, hst⟩ := hst.own_open
  obtain ⟨t486, ht487, hm⟩ := bind_some hm
  refine we_call rfl (x_call Try.call47 rfl (vs := [v482, .bool x459.Del]) rfl) ?_
  refine (ref02_Flag_ref (hst.rdrow0 hq485) hst.to0 ht487).mono ?_
  rintro _ w488 ⟨v491, rfl, hst⟩
  refine ⟨_, rfl, ?_⟩
  replace hst := hst.of1
  replace hst := hst.pull1
  replace hst := hst.own_close hq485
  refine ws_next (pend' := [(18, v467), (17, .pointer (some (eAddr r1_0 (z449.toNat * 3 + 2)))), (16, .pointer (some (eAddr r1_0 (z449.toNat * 3 + 0)))), (15, .int .i64 z449), (14, r1_0)]) hst (by kernel_rfl) (pkr rfl rfl (fun w hst => x_load rfl Try.isAgg22 ((hc466 (HL.le.refl _) hst) 2 _ rfl)) (pkr rfl rfl (fun w hst => x_field_e rfl Try.underlying73 rfl Try.sizeOf22 rfl) (pkr rfl rfl (fun w hst => x_index rfl rfl Try.underlying35 Try.sizeOf73 (rd_sliceV f1_0) h461 h462) (pkr rfl rfl (fun w hst => rfl) (pkr rfl rfl (fun w hst => rfl) pk_nil))))) ?_
  refine ws_e1 19 (by kernel_rfl) ?_
  refine nxe [20] (by kernel_rfl) rfl rfl ?_
  clear hst
  intro w hst
  replace hst := hst.pull1
  obtain ⟨css493, hq494, hst⟩ := hst.own_open
  obtain ⟨t495, ht496, hm⟩ := bind_some hm
  refine we_call rfl (x_call Try.call46 rfl (vs := [v491, v467]) rfl) ?_
  refine (ref02_Bytes_ref (hst.rdrow0 hq494) (f468.mono (rd_weak _)) hst.to0 ht496).mono ?_
  rintro _ w497 ⟨v500, rfl, hst⟩
  refine ⟨_, rfl, ?_⟩
  replace hst := hst.of1
  replace hst := hst.pull1
  replace hst := hst.own_close hq494
  refine ws_next (pend' := []) hst (by kernel_rfl) pk_nil ?_
  refine ws_e1 20 (by kernel_rfl) ?_
  refine nxe [] (by kernel_rfl) rfl rfl ?_
  clear hst
  intro w hst
  refine we_run (v := v500) (w' := w) rfl rfl ?_
  refine ws_next (pend' := []) hst (by kernel_rfl) pk_nil ?_
  refine ws_nil ?_
  intro w hst
  refine blk_n (then_n (wp_region_lit ?_))
  refine wv (.int .i64 z449) rfl rfl rfl ?_
  refine wv (.int .i64 (IntKind.i64.wrap (z449 + (1:Int)))) rfl rfl rfl ?_
  refine wv (.int .i64 (IntKind.i64.wrap (z449 + (1:Int)))) rfl rfl rfl ?_
  refine wl_nil (then_n ?_)
  replace hst := hst.pull1
  replace hst := hst.keep1
  obtain rfl := some_inj hm
  exact ⟨_, Nat.lt_succ_self _, t495, (IntKind.i64.wrap (z449 + (1:Int))), v500, _, hx456, ((fr_upd (t := 0) (v := v500) rfl).trans ((fr_upd (t := 1) (v := r1_0) rfl).trans ((fr_upd (t := 5) (v := .int .i64 (IntKind.i64.wrap (z449 + (1:Int)))) rfl).trans rfl))), hst⟩
 ·skip
  replace hm := bif_f hc458 hm
  refine wp_iff (congrArg Value.bool hc458) ?_
  refine wp_exit (then_x (then_x ?_))
  replace hm := inr_up hm hx456
  refine blk_x (then_n (wp_seq (wp_region_lit ?_)))
  refine wv (v447) rfl rfl rfl ?_
  refine wv (v447) rfl rfl rfl ?_
  refine wl_nil (then_n (wp_ret ?_))
  obtain rfl := some_inj hm
  refine post_ret (vs := [v447]) Try.results59 (rvs_cons (rv_tmp rfl) rvs_nil) ?_
  exact ⟨v447, rfl, hst.keep1⟩

end Go.Proofs.Ytijcfglomdfglaa
