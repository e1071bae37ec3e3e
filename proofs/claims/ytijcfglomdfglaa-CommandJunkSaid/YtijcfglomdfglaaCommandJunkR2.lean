/- The Go functions refine their models, part 2. -/
import Derived.Test.YtijcfglomdfglaaCommandJunkR1
set_option linter.unusedVariables false
set_option linter.unusedSimpArgs false
set_option maxRecDepth 100000
set_option maxHeartbeats 4000000
namespace Go.Proofs.Ytijcfglomdfglaa
open Go Go.V
attribute [local irreducible] wpList Code.wp wpQuiet Calls bodyPost Oper.wp wpS Nx PendOK YieldsIn
theorem ref13_OfReply_ref {w0 w : World} {I : HL} {R : SP} {a0 : ref12_Tape} {p0 : Value}  (hst : St w0 w I [at_ref12_Tape p0 a0] R) {r : (api_Reply × ref12_Tape)} (hm : ref13_OfReply a0 = some r) :
    Calls Try.prog 12 #[p0] w fun e w' => ∃ (I' : HL) (q0_0 : Value) (q0_1 : Value), e = .returned (.agg #[.int .i64 r.1.E, .int .u64 r.1.Epoch, .int .u64 r.1.Index, q0_0, q0_1]) ∧ I.le I' ∧ St w0 w' I' [ownS ty_api_Got q0_0 r.1.Gots, ownS (tySl ty_api_Pair) q0_1 r.1.Scans, at_ref12_Tape p0 r.2] R := by
  unfold ref13_OfReply at hm
  refine calls_start (args := [p0]) Try.func12 rfl Try.ntmps12 (Nat.le_of_ble_eq_true rfl) ?_
  have hI0 := HL.le.refl I
  refine wp_seq ?_
  refine wp_region_lit ?_
  obtain ⟨b1335, w1336, ew1337, eb1338, hst⟩ := hst.box [.int .i64 (0:Int), .int .u64 (0:Int), .int .u64 (0:Int), (.slice none 0 0), (.slice none 0 0)] 39
  refine wl_run (v := .pointer (some ⟨b1335, 0, none⟩)) (w' := w1336) rfl rfl (x_al (by kernel_rfl) ew1337 eb1338) ?_
  refine wl_nil ?_
  refine then_n ?_
  refine wp_seq ?_
  refine wp_region_lit ?_
  obtain ⟨b1340, w1341, ew1342, eb1343, hst⟩ := hst.lits (E := (tyInt .i64)) (xs := [(0:Int), (0:Int), (0:Int), (8:Int), (9:Int), (3:Int)]) [[.int .i64 (0:Int)], [.int .i64 (0:Int)], [.int .i64 (0:Int)], [.int .i64 (8:Int)], [.int .i64 (9:Int)], [.int .i64 (3:Int)]] 30 6 rfl (Reps.cons rfl (Reps.cons rfl (Reps.cons rfl (Reps.cons rfl (Reps.cons rfl (Reps.cons rfl Reps.nil))))))
  refine wl_run (v := (.slice (some ⟨b1340, 0, none⟩) 6 6)) (w' := w1341) rfl rfl (x_als (by kernel_rfl) ew1342 eb1343) ?_
  refine wl_val (v := (.slice (some ⟨b1340, 0, none⟩) 6 6)) rfl rfl rfl ?_
  refine wl_nil ?_
  refine then_n ?_
  refine wp_seq ?_
  obtain ⟨y1452, hm, hx1453⟩ := bind_some hm
  refine wp_mid (fun a w => ∃ (z1444 : ref12_Tape) (z1447 : Int) (z1448 : Int) (z1449 : Int) (b1446 : Nat) (σ1450 : Nat → Value), (ref13_OfReply_j0) (z1444, z1447, z1448, z1449) = some r ∧ a = Fr 72 (upd (upd (upd σ1450 0 (p0)) 2 (.pointer (some ⟨b1335, 0, none⟩))) 4 (.pointer (some ⟨b1446, 0, none⟩))) ∧ St w0 w I [at_ref12_Tape p0 z1444, cells b1335 [.int .i64 (0:Int), .int .u64 (0:Int), .int .u64 (0:Int), (.slice none 0 0), (.slice none 0 0)], cells b1446 [.int .i64 z1447, .int .u64 z1448, .int .u64 z1449, (.slice none 0 0), (.slice none 0 0)]] R) ?_ ?_
  · skip
    refine wp_region_St hst 14 [0, 1, 2, 3, 4, 5, 6, 7, 8, 9, 10, 11, 12, 13] [0, 0, 2, 7, 15, 0, 38, 102, 0, 358, 870, 2047, 0, 8191] [] rfl (by kernel_rfl) (by kernel_rfl) Try.mixed (by kernel_rfl) ?_
    refine ws_q (v := (.slice (some ⟨b1340, 0, none⟩) 6 6)) 0 [1, 2, 3, 4, 5, 6, 7, 8, 9, 10, 11, 12, 13] (by kernel_rfl) rfl rfl (yi_run rfl (fun w hst => rfl)) ?_
    refine ws_q (v := p0) 1 [2, 3, 4, 5, 6, 7, 8, 9, 10, 11, 12, 13] (by kernel_rfl) rfl rfl (yi_run rfl (fun w hst => rfl)) ?_
    refine ws_q (v := p0) 5 [2, 3, 4, 6, 7, 8, 9, 10, 11, 12, 13] (by kernel_rfl) rfl rfl (yi_run rfl (fun w hst => rfl)) ?_
    refine ws_q (v := p0) 8 [2, 3, 4, 6, 7, 9, 10, 11, 12, 13] (by kernel_rfl) rfl rfl (yi_run rfl (fun w hst => rfl)) ?_
    refine ws_e2 2 12 (by kernel_rfl) ?_ ?_
    · skip
      refine nxe [3, 4, 6, 7, 9, 10, 11, 12, 13] (by kernel_rfl) rfl rfl ?_
      clear hst
      intro w hst
      replace hst := hst.pull2
      obtain ⟨t1345, ht1346, hm⟩ := bind_some hm
      refine we_call rfl (x_call Try.call22 rfl (vs := [p0, .int .i64 (6:Int)]) rfl) ?_
      refine (ref12_Tape_Next_ref hst.to1 ht1346).mono ?_
      rintro _ w1347 ⟨rfl, hst⟩
      refine ⟨_, rfl, ?_⟩
      replace hst := hst.of1
      refine ws_next (pend' := [(8, p0), (5, p0), (0, (.slice (some ⟨b1340, 0, none⟩) 6 6))]) hst (by kernel_rfl) (pk_cons rfl (yi_run rfl (fun w hst => rfl)) (pk_cons rfl (yi_run rfl (fun w hst => rfl)) (pk_cons rfl (yi_run rfl (fun w hst => rfl)) pk_nil))) ?_
      obtain ⟨x1350, hx1351, hm⟩ := bind_some hm
      obtain ⟨h1352, h1353, hi1354⟩ := geto_some hx1351
      refine ws_q (v := .pointer (some (eAddr (.slice (some ⟨b1340, 0, none⟩) 6 6) (t1345.1.toNat * 1 + 0)))) 3 [4, 6, 7, 9, 10, 11, 12, 13] (by kernel_rfl) rfl rfl (yi_run rfl (fun w hst => x_index rfl rfl Try.underlying78 Try.sizeOf30 hst.sv1 h1352 h1353)) ?_
      refine ws_q (v := .int .i64 x1350) 4 [6, 7, 9, 10, 11, 12, 13] (by kernel_rfl) rfl rfl (yi_run rfl (fun w hst => x_load rfl Try.isAgg30 (hst.ol1 hi1354 (by rintro _ rfl; rfl)))) ?_
      refine ws_e2 6 12 (by kernel_rfl) ?_ ?_
      · skip
        refine nxe [7, 9, 10, 11, 12, 13] (by kernel_rfl) rfl rfl ?_
        clear hst
        intro w hst
        obtain ⟨t1355, ht1356, hm⟩ := bind_some hm
        refine we_call rfl (x_call Try.call22 rfl (vs := [p0, .int .i64 (4:Int)]) rfl) ?_
        refine (ref12_Tape_Next_ref hst.to1 ht1356).mono ?_
        rintro _ w1357 ⟨rfl, hst⟩
        refine ⟨_, rfl, ?_⟩
        replace hst := hst.of1
        refine ws_next (pend' := [(4, .int .i64 x1350), (3, .pointer (some (eAddr (.slice (some ⟨b1340, 0, none⟩) 6 6) (t1345.1.toNat * 1 + 0)))), (8, p0), (0, (.slice (some ⟨b1340, 0, none⟩) 6 6))]) hst (by kernel_rfl) (pk_cons rfl (yi_run rfl (fun w hst => x_load rfl Try.isAgg30 (hst.ol1 hi1354 (by rintro _ rfl; rfl)))) (pk_cons rfl (yi_run rfl (fun w hst => x_index rfl rfl Try.underlying78 Try.sizeOf30 hst.sv1 h1352 h1353)) (pk_cons rfl (yi_run rfl (fun w hst => rfl)) (pk_cons rfl (yi_run rfl (fun w hst => rfl)) pk_nil)))) ?_
        refine ws_q (v := .int .u64 (IntKind.u64.wrap t1355.1)) 7 [9, 10, 11, 12, 13] (by kernel_rfl) rfl rfl (yi_run rfl (fun w hst => by kernel_rfl)) ?_
        refine ws_e2 9 12 (by kernel_rfl) ?_ ?_
        · skip
          refine nxe [10, 11, 12, 13] (by kernel_rfl) rfl rfl ?_
          clear hst
          intro w hst
          obtain ⟨t1360, ht1361, hm⟩ := bind_some hm
          refine we_call rfl (x_call Try.call22 rfl (vs := [p0, .int .i64 (9:Int)]) rfl) ?_
          refine (ref12_Tape_Next_ref hst.to1 ht1361).mono ?_
          rintro _ w1362 ⟨rfl, hst⟩
          refine ⟨_, rfl, ?_⟩
          replace hst := hst.of1
          refine ws_next (pend' := [(7, .int .u64 (IntKind.u64.wrap t1355.1)), (4, .int .i64 x1350), (3, .pointer (some (eAddr (.slice (some ⟨b1340, 0, none⟩) 6 6) (t1345.1.toNat * 1 + 0)))), (0, (.slice (some ⟨b1340, 0, none⟩) 6 6))]) hst (by kernel_rfl) (pk_cons rfl (yi_run rfl (fun w hst => by kernel_rfl)) (pk_cons rfl (yi_run rfl (fun w hst => x_load rfl Try.isAgg30 (hst.ol1 hi1354 (by rintro _ rfl; rfl)))) (pk_cons rfl (yi_run rfl (fun w hst => x_index rfl rfl Try.underlying78 Try.sizeOf30 hst.sv1 h1352 h1353)) (pk_cons rfl (yi_run rfl (fun w hst => rfl)) pk_nil)))) ?_
          refine ws_q (v := .int .u64 (IntKind.u64.wrap t1360.1)) 10 [11, 12, 13] (by kernel_rfl) rfl rfl (yi_run rfl (fun w hst => by kernel_rfl)) ?_
          refine ws_q (v := .agg #[.int .i64 x1350, .int .u64 (IntKind.u64.wrap t1355.1), .int .u64 (IntKind.u64.wrap t1360.1), (.slice none 0 0), (.slice none 0 0)]) 11 [12, 13] (by kernel_rfl) rfl rfl (yi_run rfl (fun w hst => by kernel_rfl)) ?_
          refine ws_e1 12 (by kernel_rfl) ?_
          refine nxe [13] (by kernel_rfl) rfl rfl ?_
          clear hst
          intro w hst
          obtain ⟨b1369, w1370, ew1371, eb1372, hst⟩ := hst.box [.int .i64 (0:Int), .int .u64 (0:Int), .int .u64 (0:Int), (.slice none 0 0), (.slice none 0 0)] 39
          refine we_run (v := .pointer (some ⟨b1369, 0, none⟩)) (w' := w1370) rfl (x_al (by kernel_rfl) ew1371 eb1372) ?_
          refine ws_next (pend' := [(11, .agg #[.int .i64 x1350, .int .u64 (IntKind.u64.wrap t1355.1), .int .u64 (IntKind.u64.wrap t1360.1), (.slice none 0 0), (.slice none 0 0)]), (10, .int .u64 (IntKind.u64.wrap t1360.1)), (7, .int .u64 (IntKind.u64.wrap t1355.1)), (4, .int .i64 x1350), (3, .pointer (some (eAddr (.slice (some ⟨b1340, 0, none⟩) 6 6) (t1345.1.toNat * 1 + 0)))), (0, (.slice (some ⟨b1340, 0, none⟩) 6 6))]) hst (by kernel_rfl) (pk_cons rfl (yi_run rfl (fun w hst => by kernel_rfl)) (pk_cons rfl (yi_run rfl (fun w hst => by kernel_rfl)) (pk_cons rfl (yi_run rfl (fun w hst => by kernel_rfl)) (pk_cons rfl (yi_run rfl (fun w hst => x_load rfl Try.isAgg30 (hst.ol2 hi1354 (by rintro _ rfl; rfl)))) (pk_cons rfl (yi_run rfl (fun w hst => x_index rfl rfl Try.underlying78 Try.sizeOf30 hst.sv2 h1352 h1353)) (pk_cons rfl (yi_run rfl (fun w hst => rfl)) pk_nil)))))) ?_
          refine ws_e1 13 (by kernel_rfl) ?_
          refine nxe [] (by kernel_rfl) rfl rfl ?_
          clear hst
          intro w hst
          obtain ⟨w1374, hr1375, hst⟩ := hst.boxStore (P := Try.prog) (t := 39) (cs' := [.int .i64 x1350, .int .u64 (IntKind.u64.wrap t1355.1), .int .u64 (IntKind.u64.wrap t1360.1), (.slice none 0 0), (.slice none 0 0)]) 0 (.agg #[.int .i64 x1350, .int .u64 (IntKind.u64.wrap t1355.1), .int .u64 (IntKind.u64.wrap t1360.1), (.slice none 0 0), (.slice none 0 0)]) Try.sizeOf39 (Nat.le_of_ble_eq_true rfl) (ones_cons rfl (ones_cons rfl (ones_cons rfl (ones_cons rfl (ones_cons rfl ones_nil))))) (by kernel_rfl)
          refine we_unit rfl (x_unit hr1375) ?_
          refine ws_next (pend' := []) hst (by kernel_rfl) pk_nil ?_
          refine ws_nil ?_
          intro w hst
          refine ⟨rfl, ?_⟩
          replace hst := hst.pull3
          replace hst := hst.pull2
          replace hst := hst.keep3
          obtain rfl := some_inj hm
          exact ⟨t1360.2, x1350, (IntKind.u64.wrap t1355.1), (IntKind.u64.wrap t1360.1), b1369, _, hx1453, ((fr_upd (t := 0) (v := p0) rfl).trans ((fr_upd (t := 2) (v := .pointer (some ⟨b1335, 0, none⟩)) rfl).trans ((fr_upd (t := 4) (v := .pointer (some ⟨b1369, 0, none⟩)) rfl).trans rfl))), hst⟩
        · skip
          refine nxe [9, 10, 11, 13] (by kernel_rfl) rfl rfl ?_
          clear hst
          intro w hst
          obtain ⟨b1378, w1379, ew1380, eb1381, hst⟩ := hst.box [.int .i64 (0:Int), .int .u64 (0:Int), .int .u64 (0:Int), (.slice none 0 0), (.slice none 0 0)] 39
          refine we_run (v := .pointer (some ⟨b1378, 0, none⟩)) (w' := w1379) rfl (x_al (by kernel_rfl) ew1380 eb1381) ?_
          refine ws_next (pend' := [(7, .int .u64 (IntKind.u64.wrap t1355.1)), (4, .int .i64 x1350), (3, .pointer (some (eAddr (.slice (some ⟨b1340, 0, none⟩) 6 6) (t1345.1.toNat * 1 + 0)))), (8, p0), (0, (.slice (some ⟨b1340, 0, none⟩) 6 6))]) hst (by kernel_rfl) (pk_cons rfl (yi_run rfl (fun w hst => by kernel_rfl)) (pk_cons rfl (yi_run rfl (fun w hst => x_load rfl Try.isAgg30 (hst.ol2 hi1354 (by rintro _ rfl; rfl)))) (pk_cons rfl (yi_run rfl (fun w hst => x_index rfl rfl Try.underlying78 Try.sizeOf30 hst.sv2 h1352 h1353)) (pk_cons rfl (yi_run rfl (fun w hst => rfl)) (pk_cons rfl (yi_run rfl (fun w hst => rfl)) pk_nil))))) ?_
          refine ws_e1 9 (by kernel_rfl) ?_
          refine nxe [10, 11, 13] (by kernel_rfl) rfl rfl ?_
          clear hst
          intro w hst
          replace hst := hst.pull1
          obtain ⟨t1383, ht1384, hm⟩ := bind_some hm
          refine we_call rfl (x_call Try.call22 rfl (vs := [p0, .int .i64 (9:Int)]) rfl) ?_
          refine (ref12_Tape_Next_ref hst.to1 ht1384).mono ?_
          rintro _ w1385 ⟨rfl, hst⟩
          refine ⟨_, rfl, ?_⟩
          replace hst := hst.of1
          refine ws_next (pend' := [(7, .int .u64 (IntKind.u64.wrap t1355.1)), (4, .int .i64 x1350), (3, .pointer (some (eAddr (.slice (some ⟨b1340, 0, none⟩) 6 6) (t1345.1.toNat * 1 + 0)))), (0, (.slice (some ⟨b1340, 0, none⟩) 6 6))]) hst (by kernel_rfl) (pk_cons rfl (yi_run rfl (fun w hst => by kernel_rfl)) (pk_cons rfl (yi_run rfl (fun w hst => x_load rfl Try.isAgg30 (hst.ol2 hi1354 (by rintro _ rfl; rfl)))) (pk_cons rfl (yi_run rfl (fun w hst => x_index rfl rfl Try.underlying78 Try.sizeOf30 hst.sv2 h1352 h1353)) (pk_cons rfl (yi_run rfl (fun w hst => rfl)) pk_nil)))) ?_
          refine ws_q (v := .int .u64 (IntKind.u64.wrap t1383.1)) 10 [11, 13] (by kernel_rfl) rfl rfl (yi_run rfl (fun w hst => by kernel_rfl)) ?_
          refine ws_q (v := .agg #[.int .i64 x1350, .int .u64 (IntKind.u64.wrap t1355.1), .int .u64 (IntKind.u64.wrap t1383.1), (.slice none 0 0), (.slice none 0 0)]) 11 [13] (by kernel_rfl) rfl rfl (yi_run rfl (fun w hst => by kernel_rfl)) ?_
          refine ws_e1 13 (by kernel_rfl) ?_
          refine nxe [] (by kernel_rfl) rfl rfl ?_
          clear hst
          intro w hst
          replace hst := hst.pull1
          obtain ⟨w1390, hr1391, hst⟩ := hst.boxStore (P := Try.prog) (t := 39) (cs' := [.int .i64 x1350, .int .u64 (IntKind.u64.wrap t1355.1), .int .u64 (IntKind.u64.wrap t1383.1), (.slice none 0 0), (.slice none 0 0)]) 0 (.agg #[.int .i64 x1350, .int .u64 (IntKind.u64.wrap t1355.1), .int .u64 (IntKind.u64.wrap t1383.1), (.slice none 0 0), (.slice none 0 0)]) Try.sizeOf39 (Nat.le_of_ble_eq_true rfl) (ones_cons rfl (ones_cons rfl (ones_cons rfl (ones_cons rfl (ones_cons rfl ones_nil))))) (by kernel_rfl)
          refine we_unit rfl (x_unit hr1391) ?_
          refine ws_next (pend' := []) hst (by kernel_rfl) pk_nil ?_
          refine ws_nil ?_
          intro w hst
          refine ⟨rfl, ?_⟩
          replace hst := hst.pull3
          replace hst := hst.pull2
          replace hst := hst.keep3
          obtain rfl := some_inj hm
          exact ⟨t1383.2, x1350, (IntKind.u64.wrap t1355.1), (IntKind.u64.wrap t1383.1), b1378, _, hx1453, ((fr_upd (t := 0) (v := p0) rfl).trans ((fr_upd (t := 2) (v := .pointer (some ⟨b1335, 0, none⟩)) rfl).trans ((fr_upd (t := 4) (v := .pointer (some ⟨b1378, 0, none⟩)) rfl).trans rfl))), hst⟩
      · skip
        refine nxe [6, 7, 9, 10, 11, 13] (by kernel_rfl) rfl rfl ?_
        clear hst
        intro w hst
        obtain ⟨b1394, w1395, ew1396, eb1397, hst⟩ := hst.box [.int .i64 (0:Int), .int .u64 (0:Int), .int .u64 (0:Int), (.slice none 0 0), (.slice none 0 0)] 39
        refine we_run (v := .pointer (some ⟨b1394, 0, none⟩)) (w' := w1395) rfl (x_al (by kernel_rfl) ew1396 eb1397) ?_
        refine ws_next (pend' := [(4, .int .i64 x1350), (3, .pointer (some (eAddr (.slice (some ⟨b1340, 0, none⟩) 6 6) (t1345.1.toNat * 1 + 0)))), (8, p0), (5, p0), (0, (.slice (some ⟨b1340, 0, none⟩) 6 6))]) hst (by kernel_rfl) (pk_cons rfl (yi_run rfl (fun w hst => x_load rfl Try.isAgg30 (hst.ol2 hi1354 (by rintro _ rfl; rfl)))) (pk_cons rfl (yi_run rfl (fun w hst => x_index rfl rfl Try.underlying78 Try.sizeOf30 hst.sv2 h1352 h1353)) (pk_cons rfl (yi_run rfl (fun w hst => rfl)) (pk_cons rfl (yi_run rfl (fun w hst => rfl)) (pk_cons rfl (yi_run rfl (fun w hst => rfl)) pk_nil))))) ?_
        refine ws_e1 6 (by kernel_rfl) ?_
        refine nxe [7, 9, 10, 11, 13] (by kernel_rfl) rfl rfl ?_
        clear hst
        intro w hst
        replace hst := hst.pull1
        obtain ⟨t1399, ht1400, hm⟩ := bind_some hm
        refine we_call rfl (x_call Try.call22 rfl (vs := [p0, .int .i64 (4:Int)]) rfl) ?_
        refine (ref12_Tape_Next_ref hst.to1 ht1400).mono ?_
        rintro _ w1401 ⟨rfl, hst⟩
        refine ⟨_, rfl, ?_⟩
        replace hst := hst.of1
        refine ws_next (pend' := [(4, .int .i64 x1350), (3, .pointer (some (eAddr (.slice (some ⟨b1340, 0, none⟩) 6 6) (t1345.1.toNat * 1 + 0)))), (8, p0), (0, (.slice (some ⟨b1340, 0, none⟩) 6 6))]) hst (by kernel_rfl) (pk_cons rfl (yi_run rfl (fun w hst => x_load rfl Try.isAgg30 (hst.ol2 hi1354 (by rintro _ rfl; rfl)))) (pk_cons rfl (yi_run rfl (fun w hst => x_index rfl rfl Try.underlying78 Try.sizeOf30 hst.sv2 h1352 h1353)) (pk_cons rfl (yi_run rfl (fun w hst => rfl)) (pk_cons rfl (yi_run rfl (fun w hst => rfl)) pk_nil)))) ?_
        refine ws_q (v := .int .u64 (IntKind.u64.wrap t1399.1)) 7 [9, 10, 11, 13] (by kernel_rfl) rfl rfl (yi_run rfl (fun w hst => by kernel_rfl)) ?_
        refine ws_e1 9 (by kernel_rfl) ?_
        refine nxe [10, 11, 13] (by kernel_rfl) rfl rfl ?_
        clear hst
        intro w hst
        obtain ⟨t1404, ht1405, hm⟩ := bind_some hm
        refine we_call rfl (x_call Try.call22 rfl (vs := [p0, .int .i64 (9:Int)]) rfl) ?_
        refine (ref12_Tape_Next_ref hst.to1 ht1405).mono ?_
        rintro _ w1406 ⟨rfl, hst⟩
        refine ⟨_, rfl, ?_⟩
        replace hst := hst.of1
        refine ws_next (pend' := [(7, .int .u64 (IntKind.u64.wrap t1399.1)), (4, .int .i64 x1350), (3, .pointer (some (eAddr (.slice (some ⟨b1340, 0, none⟩) 6 6) (t1345.1.toNat * 1 + 0)))), (0, (.slice (some ⟨b1340, 0, none⟩) 6 6))]) hst (by kernel_rfl) (pk_cons rfl (yi_run rfl (fun w hst => by kernel_rfl)) (pk_cons rfl (yi_run rfl (fun w hst => x_load rfl Try.isAgg30 (hst.ol2 hi1354 (by rintro _ rfl; rfl)))) (pk_cons rfl (yi_run rfl (fun w hst => x_index rfl rfl Try.underlying78 Try.sizeOf30 hst.sv2 h1352 h1353)) (pk_cons rfl (yi_run rfl (fun w hst => rfl)) pk_nil)))) ?_
        refine ws_q (v := .int .u64 (IntKind.u64.wrap t1404.1)) 10 [11, 13] (by kernel_rfl) rfl rfl (yi_run rfl (fun w hst => by kernel_rfl)) ?_
        refine ws_q (v := .agg #[.int .i64 x1350, .int .u64 (IntKind.u64.wrap t1399.1), .int .u64 (IntKind.u64.wrap t1404.1), (.slice none 0 0), (.slice none 0 0)]) 11 [13] (by kernel_rfl) rfl rfl (yi_run rfl (fun w hst => by kernel_rfl)) ?_
        refine ws_e1 13 (by kernel_rfl) ?_
        refine nxe [] (by kernel_rfl) rfl rfl ?_
        clear hst
        intro w hst
        replace hst := hst.pull1
        obtain ⟨w1411, hr1412, hst⟩ := hst.boxStore (P := Try.prog) (t := 39) (cs' := [.int .i64 x1350, .int .u64 (IntKind.u64.wrap t1399.1), .int .u64 (IntKind.u64.wrap t1404.1), (.slice none 0 0), (.slice none 0 0)]) 0 (.agg #[.int .i64 x1350, .int .u64 (IntKind.u64.wrap t1399.1), .int .u64 (IntKind.u64.wrap t1404.1), (.slice none 0 0), (.slice none 0 0)]) Try.sizeOf39 (Nat.le_of_ble_eq_true rfl) (ones_cons rfl (ones_cons rfl (ones_cons rfl (ones_cons rfl (ones_cons rfl ones_nil))))) (by kernel_rfl)
        refine we_unit rfl (x_unit hr1412) ?_
        refine ws_next (pend' := []) hst (by kernel_rfl) pk_nil ?_
        refine ws_nil ?_
        intro w hst
        refine ⟨rfl, ?_⟩
        replace hst := hst.pull3
        replace hst := hst.pull2
        replace hst := hst.keep3
        obtain rfl := some_inj hm
        exact ⟨t1404.2, x1350, (IntKind.u64.wrap t1399.1), (IntKind.u64.wrap t1404.1), b1394, _, hx1453, ((fr_upd (t := 0) (v := p0) rfl).trans ((fr_upd (t := 2) (v := .pointer (some ⟨b1335, 0, none⟩)) rfl).trans ((fr_upd (t := 4) (v := .pointer (some ⟨b1394, 0, none⟩)) rfl).trans rfl))), hst⟩
    · skip
      refine nxe [2, 3, 4, 6, 7, 9, 10, 11, 13] (by kernel_rfl) rfl rfl ?_
      clear hst
      intro w hst
      obtain ⟨b1415, w1416, ew1417, eb1418, hst⟩ := hst.box [.int .i64 (0:Int), .int .u64 (0:Int), .int .u64 (0:Int), (.slice none 0 0), (.slice none 0 0)] 39
      refine we_run (v := .pointer (some ⟨b1415, 0, none⟩)) (w' := w1416) rfl (x_al (by kernel_rfl) ew1417 eb1418) ?_
      refine ws_next (pend' := [(8, p0), (5, p0), (1, p0), (0, (.slice (some ⟨b1340, 0, none⟩) 6 6))]) hst (by kernel_rfl) (pk_cons rfl (yi_run rfl (fun w hst => rfl)) (pk_cons rfl (yi_run rfl (fun w hst => rfl)) (pk_cons rfl (yi_run rfl (fun w hst => rfl)) (pk_cons rfl (yi_run rfl (fun w hst => rfl)) pk_nil)))) ?_
      refine ws_e1 2 (by kernel_rfl) ?_
      refine nxe [3, 4, 6, 7, 9, 10, 11, 13] (by kernel_rfl) rfl rfl ?_
      clear hst
      intro w hst
      replace hst := hst.pull3
      obtain ⟨t1420, ht1421, hm⟩ := bind_some hm
      refine we_call rfl (x_call Try.call22 rfl (vs := [p0, .int .i64 (6:Int)]) rfl) ?_
      refine (ref12_Tape_Next_ref hst.to1 ht1421).mono ?_
      rintro _ w1422 ⟨rfl, hst⟩
      refine ⟨_, rfl, ?_⟩
      replace hst := hst.of1
      refine ws_next (pend' := [(8, p0), (5, p0), (0, (.slice (some ⟨b1340, 0, none⟩) 6 6))]) hst (by kernel_rfl) (pk_cons rfl (yi_run rfl (fun w hst => rfl)) (pk_cons rfl (yi_run rfl (fun w hst => rfl)) (pk_cons rfl (yi_run rfl (fun w hst => rfl)) pk_nil))) ?_
      obtain ⟨x1425, hx1426, hm⟩ := bind_some hm
      obtain ⟨h1427, h1428, hi1429⟩ := geto_some hx1426
      refine ws_q (v := .pointer (some (eAddr (.slice (some ⟨b1340, 0, none⟩) 6 6) (t1420.1.toNat * 1 + 0)))) 3 [4, 6, 7, 9, 10, 11, 13] (by kernel_rfl) rfl rfl (yi_run rfl (fun w hst => x_index rfl rfl Try.underlying78 Try.sizeOf30 hst.sv2 h1427 h1428)) ?_
      refine ws_q (v := .int .i64 x1425) 4 [6, 7, 9, 10, 11, 13] (by kernel_rfl) rfl rfl (yi_run rfl (fun w hst => x_load rfl Try.isAgg30 (hst.ol2 hi1429 (by rintro _ rfl; rfl)))) ?_
      refine ws_e1 6 (by kernel_rfl) ?_
      refine nxe [7, 9, 10, 11, 13] (by kernel_rfl) rfl rfl ?_
      clear hst
      intro w hst
      obtain ⟨t1430, ht1431, hm⟩ := bind_some hm
      refine we_call rfl (x_call Try.call22 rfl (vs := [p0, .int .i64 (4:Int)]) rfl) ?_
      refine (ref12_Tape_Next_ref hst.to1 ht1431).mono ?_
      rintro _ w1432 ⟨rfl, hst⟩
      refine ⟨_, rfl, ?_⟩
      replace hst := hst.of1
      refine ws_next (pend' := [(4, .int .i64 x1425), (3, .pointer (some (eAddr (.slice (some ⟨b1340, 0, none⟩) 6 6) (t1420.1.toNat * 1 + 0)))), (8, p0), (0, (.slice (some ⟨b1340, 0, none⟩) 6 6))]) hst (by kernel_rfl) (pk_cons rfl (yi_run rfl (fun w hst => x_load rfl Try.isAgg30 (hst.ol2 hi1429 (by rintro _ rfl; rfl)))) (pk_cons rfl (yi_run rfl (fun w hst => x_index rfl rfl Try.underlying78 Try.sizeOf30 hst.sv2 h1427 h1428)) (pk_cons rfl (yi_run rfl (fun w hst => rfl)) (pk_cons rfl (yi_run rfl (fun w hst => rfl)) pk_nil)))) ?_
      refine ws_q (v := .int .u64 (IntKind.u64.wrap t1430.1)) 7 [9, 10, 11, 13] (by kernel_rfl) rfl rfl (yi_run rfl (fun w hst => by kernel_rfl)) ?_
      refine ws_e1 9 (by kernel_rfl) ?_
      refine nxe [10, 11, 13] (by kernel_rfl) rfl rfl ?_
      clear hst
      intro w hst
      obtain ⟨t1435, ht1436, hm⟩ := bind_some hm
      refine we_call rfl (x_call Try.call22 rfl (vs := [p0, .int .i64 (9:Int)]) rfl) ?_
      refine (ref12_Tape_Next_ref hst.to1 ht1436).mono ?_
      rintro _ w1437 ⟨rfl, hst⟩
      refine ⟨_, rfl, ?_⟩
      replace hst := hst.of1
      refine ws_next (pend' := [(7, .int .u64 (IntKind.u64.wrap t1430.1)), (4, .int .i64 x1425), (3, .pointer (some (eAddr (.slice (some ⟨b1340, 0, none⟩) 6 6) (t1420.1.toNat * 1 + 0)))), (0, (.slice (some ⟨b1340, 0, none⟩) 6 6))]) hst (by kernel_rfl) (pk_cons rfl (yi_run rfl (fun w hst => by kernel_rfl)) (pk_cons rfl (yi_run rfl (fun w hst => x_load rfl Try.isAgg30 (hst.ol2 hi1429 (by rintro _ rfl; rfl)))) (pk_cons rfl (yi_run rfl (fun w hst => x_index rfl rfl Try.underlying78 Try.sizeOf30 hst.sv2 h1427 h1428)) (pk_cons rfl (yi_run rfl (fun w hst => rfl)) pk_nil)))) ?_
      refine ws_q (v := .int .u64 (IntKind.u64.wrap t1435.1)) 10 [11, 13] (by kernel_rfl) rfl rfl (yi_run rfl (fun w hst => by kernel_rfl)) ?_
      refine ws_q (v := .agg #[.int .i64 x1425, .int .u64 (IntKind.u64.wrap t1430.1), .int .u64 (IntKind.u64.wrap t1435.1), (.slice none 0 0), (.slice none 0 0)]) 11 [13] (by kernel_rfl) rfl rfl (yi_run rfl (fun w hst => by kernel_rfl)) ?_
      refine ws_e1 13 (by kernel_rfl) ?_
      refine nxe [] (by kernel_rfl) rfl rfl ?_
      clear hst
      intro w hst
      replace hst := hst.pull1
      obtain ⟨w1442, hr1443, hst⟩ := hst.boxStore (P := Try.prog) (t := 39) (cs' := [.int .i64 x1425, .int .u64 (IntKind.u64.wrap t1430.1), .int .u64 (IntKind.u64.wrap t1435.1), (.slice none 0 0), (.slice none 0 0)]) 0 (.agg #[.int .i64 x1425, .int .u64 (IntKind.u64.wrap t1430.1), .int .u64 (IntKind.u64.wrap t1435.1), (.slice none 0 0), (.slice none 0 0)]) Try.sizeOf39 (Nat.le_of_ble_eq_true rfl) (ones_cons rfl (ones_cons rfl (ones_cons rfl (ones_cons rfl (ones_cons rfl ones_nil))))) (by kernel_rfl)
      refine we_unit rfl (x_unit hr1443) ?_
      refine ws_next (pend' := []) hst (by kernel_rfl) pk_nil ?_
      refine ws_nil ?_
      intro w hst
      refine ⟨rfl, ?_⟩
      replace hst := hst.pull3
      replace hst := hst.pull2
      replace hst := hst.keep3
      obtain rfl := some_inj hm
      exact ⟨t1435.2, x1425, (IntKind.u64.wrap t1430.1), (IntKind.u64.wrap t1435.1), b1415, _, hx1453, ((fr_upd (t := 0) (v := p0) rfl).trans ((fr_upd (t := 2) (v := .pointer (some ⟨b1335, 0, none⟩)) rfl).trans ((fr_upd (t := 4) (v := .pointer (some ⟨b1415, 0, none⟩)) rfl).trans rfl))), hst⟩
  · skip
    clear hst
    rintro _ w1454 ⟨z1444, z1447, z1448, z1449, b1446, σ1450, hm, rfl, hst⟩
    dsimp only [ref13_OfReply_j0] at hm
    refine then_n ?_
    refine wp_seq ?_
    refine wp_region_lit ?_
    refine wl_val (v := p0) rfl rfl rfl ?_
    obtain ⟨t1455, ht1456, hm⟩ := bind_some hm
    refine wl_call rfl rfl (x_call Try.call22 rfl (vs := [p0, .int .i64 (3:Int)]) rfl) ?_
    refine (ref12_Tape_Next_ref hst.to1 ht1456).mono ?_
    rintro _ w1457 ⟨rfl, hst⟩
    refine ⟨_, rfl, ?_⟩
    replace hst := hst.of1
    refine wl_val (v := .int .i64 t1455.1) rfl rfl rfl ?_
    refine wl_nil ?_
    refine then_n ?_
    obtain ⟨y1602, hm, hx1603⟩ := bind_some hm
    refine wp_cut (fun a w => ∃ (I1599 : HL) (z1595 : ref12_Tape) (z1598 : (List api_Got)) (v1597 : Value) (σ1600 : Nat → Value), (ref13_OfReply_j1 z1447 z1448 z1449) (z1595, z1598) = some r ∧ a = Fr 72 (upd (upd (upd σ1600 0 (p0)) 2 (.pointer (some ⟨b1335, 0, none⟩))) 4 (.pointer (some ⟨b1446, 0, none⟩))) ∧ I.le I1599 ∧ St w0 w I1599 [at_ref12_Tape p0 z1595, cells b1335 [.int .i64 (0:Int), .int .u64 (0:Int), .int .u64 (0:Int), (.slice none 0 0), (.slice none 0 0)], cells b1446 [.int .i64 z1447, .int .u64 z1448, .int .u64 z1449, v1597, (.slice none 0 0)], ownS ty_api_Got v1597 z1598] R) ?_ ?_
    · skip
      have hL1604 := HL.le.refl I
      refine wp_seq ?_
      refine wp_region_lit ?_
      refine wl_val (v := .int .i64 (0:Int)) rfl rfl rfl ?_
      refine wl_nil ?_
      refine then_n ?_
      refine wp_block ?_
      replace hst := hst.own_nil ty_api_Got
      obtain ⟨n1559, hm⟩ := loopO_some hm
      refine wp_loop_n (fun n a w => ∃ (I1557 : HL) (z1552 : (List api_Got)) (z1555 : ref12_Tape) (z1556 : Int) (v1553 : Value) (σ1558 : Nat → Value), loopN (ref13_OfReply_l2 t1455) n (z1552, z1555, z1556) = some y1602 ∧ a = Fr 72 (upd (upd (upd (upd (upd σ1558 0 (p0)) 2 (.pointer (some ⟨b1335, 0, none⟩))) 4 (.pointer (some ⟨b1446, 0, none⟩))) 5 (.int .i64 t1455.1)) 6 (.int .i64 z1556)) ∧ I.le I1557 ∧ St w0 w I1557 [ownS ty_api_Got v1553 z1552, at_ref12_Tape p0 z1555, cells b1335 [.int .i64 (0:Int), .int .u64 (0:Int), .int .u64 (0:Int), (.slice none 0 0), (.slice none 0 0)], cells b1446 [.int .i64 z1447, .int .u64 z1448, .int .u64 z1449, v1553, (.slice none 0 0)]] R) n1559 ⟨_, [], t1455.2, (0:Int), (.slice none 0 0), _, hm, ((fr_upd (t := 0) (v := p0) rfl).trans ((fr_upd (t := 2) (v := .pointer (some ⟨b1335, 0, none⟩)) rfl).trans ((fr_upd (t := 4) (v := .pointer (some ⟨b1446, 0, none⟩)) rfl).trans ((fr_upd (t := 5) (v := .int .i64 t1455.1) rfl).trans ((fr_upd (t := 6) (v := .int .i64 (0:Int)) rfl).trans rfl))))), (HL.le.refl _), hst⟩ ?_
      rintro n1565 _ w1560 ⟨I1557, z1552, z1555, z1556, v1553, σ1558, hm, rfl, hL1561, hst⟩
      obtain ⟨n1562, y1563, rfl, hm, hx1564⟩ := loopN_some hm
      dsimp only [ref13_OfReply_l2] at hm
      replace hI0 := hI0.trans hL1561
      replace hL1604 := hL1604.trans hL1561
      refine wp_seq ?_
      refine wp_seq ?_
      refine wp_region_lit ?_
      refine wl_val (v := .int .i64 z1556) rfl rfl rfl ?_
      refine wl_val (v := .int .i64 t1455.1) rfl rfl rfl ?_
      refine wl_val (v := .bool (decide (z1556 < t1455.1))) rfl rfl rfl ?_
      refine wl_nil ?_
      refine then_n ?_
      refine bsplit (decide (z1556 < t1455.1)) (fun hc1566 => ?_) (fun hc1566 => ?_)
      · skip
        replace hm := bif_t hc1566 hm
        refine wp_ift (congrArg Value.bool hc1566) ?_
        refine wp_skip ?_
        refine then_n ?_
        refine wp_seq ?_
        refine wp_block ?_
        refine wp_region_St hst 12 [0, 1, 2, 3, 4, 5, 6, 7, 8, 9, 10, 11] [0, 1, 0, 4, 12, 0, 44, 124, 252, 511, 1023, 2047] [] rfl (by kernel_rfl) (by kernel_rfl) Try.mixed (by kernel_rfl) ?_
        refine ws_q (v := .pointer (some ⟨b1446, 3, none⟩)) 0 [1, 2, 3, 4, 5, 6, 7, 8, 9, 10, 11] (by kernel_rfl) rfl rfl (yi_run rfl (fun w hst => x_field rfl Try.underlying39 rfl Try.sizeOf36 rfl)) ?_
        refine ws_q (v := v1553) 1 [2, 3, 4, 5, 6, 7, 8, 9, 10, 11] (by kernel_rfl) rfl rfl (yi_run rfl (fun w hst => x_load rfl Try.isAgg36 (hst.bc3 rfl))) ?_
        refine ws_q (v := p0) 2 [3, 4, 5, 6, 7, 8, 9, 10, 11] (by kernel_rfl) rfl rfl (yi_run rfl (fun w hst => rfl)) ?_
        refine ws_q (v := p0) 5 [3, 4, 6, 7, 8, 9, 10, 11] (by kernel_rfl) rfl rfl (yi_run rfl (fun w hst => rfl)) ?_
        refine ws_e1 3 (by kernel_rfl) ?_
        refine nxe [4, 6, 7, 8, 9, 10, 11] (by kernel_rfl) rfl rfl ?_
        clear hst
        intro w hst
        replace hst := hst.pull1
        obtain ⟨t1567, ht1568, hm⟩ := bind_some hm
        refine we_call rfl (x_call Try.call22 rfl (vs := [p0, .int .i64 (2:Int)]) rfl) ?_
        refine (ref12_Tape_Next_ref hst.to1 ht1568).mono ?_
        rintro _ w1569 ⟨rfl, hst⟩
        refine ⟨_, rfl, ?_⟩
        replace hst := hst.of1
        refine ws_next (pend' := [(5, p0), (1, v1553), (0, .pointer (some ⟨b1446, 3, none⟩))]) hst (by kernel_rfl) (pk_cons rfl (yi_run rfl (fun w hst => rfl)) (pk_cons rfl (yi_run rfl (fun w hst => x_load rfl Try.isAgg36 (hst.bc3 rfl))) (pk_cons rfl (yi_run rfl (fun w hst => x_field rfl Try.underlying39 rfl Try.sizeOf36 rfl)) pk_nil))) ?_
        refine ws_q (v := .bool (t1567.1 == (0:Int))) 4 [6, 7, 8, 9, 10, 11] (by kernel_rfl) rfl rfl (yi_run rfl (fun w hst => rfl)) ?_
        refine ws_e1 6 (by kernel_rfl) ?_
        refine nxe [7, 8, 9, 10, 11] (by kernel_rfl) rfl rfl ?_
        clear hst
        intro w hst
        obtain ⟨t1572, ht1573, hm⟩ := bind_some hm
        refine we_call rfl (x_call Try.call36 rfl (vs := [p0]) rfl) ?_
        refine (ref12_Tape_Val_ref hst.to1 ht1573).mono ?_
        rintro _ w1574 ⟨v1577, rfl, hst⟩
        refine ⟨_, rfl, ?_⟩
        replace hst := hst.of2
        refine ws_next (pend' := [(4, .bool (t1567.1 == (0:Int))), (1, v1553), (0, .pointer (some ⟨b1446, 3, none⟩))]) hst (by kernel_rfl) (pk_cons rfl (yi_run rfl (fun w hst => rfl)) (pk_cons rfl (yi_run rfl (fun w hst => x_load rfl Try.isAgg36 (hst.bc4 rfl))) (pk_cons rfl (yi_run rfl (fun w hst => x_field rfl Try.underlying39 rfl Try.sizeOf36 rfl)) pk_nil))) ?_
        refine ws_q (v := .agg #[.bool (t1567.1 == (0:Int)), v1577]) 7 [8, 9, 10, 11] (by kernel_rfl) rfl rfl (yi_run rfl (fun w hst => by obtain ⟨_, _, hv_, _⟩ := hst.sv0; rw [hv_]; kernel_rfl)) ?_
        refine ws_e1 8 (by kernel_rfl) ?_
        refine nxe [9, 10, 11] (by kernel_rfl) rfl rfl ?_
        clear hst
        intro w hst
        obtain ⟨I1581, hI1582, f1583, hst⟩ := hst.own_fix
        replace hI0 := hI0.trans hI1582
        replace hL1604 := hL1604.trans hI1582
        replace hL1561 := hL1561.trans hI1582
        obtain ⟨b1584, w1585, ew1586, eb1587, hst⟩ := hst.lits (E := ty_api_Got) (xs := [({ Has := (t1567.1 == (0:Int)), Val := t1572.1 } : api_Got)]) [[.bool (t1567.1 == (0:Int)), v1577]] 51 1 rfl (Reps.cons ⟨_, rfl, f1583, one_of_sliceV (ro_sliceV f1583)⟩ Reps.nil)
        refine we_run (v := (.slice (some ⟨b1584, 0, none⟩) 1 1)) (w' := w1585) rfl (x_als (by kernel_rfl) ew1586 eb1587) ?_
        refine ws_next (pend' := [(1, v1553), (0, .pointer (some ⟨b1446, 3, none⟩))]) hst (by kernel_rfl) (pk_cons rfl (yi_run rfl (fun w hst => x_load rfl Try.isAgg36 (hst.bc4 rfl))) (pk_cons rfl (yi_run rfl (fun w hst => x_field rfl Try.underlying39 rfl Try.sizeOf36 rfl)) pk_nil)) ?_
        refine ws_e1 9 (by kernel_rfl) ?_
        refine nxe [10, 11] (by kernel_rfl) rfl rfl ?_
        clear hst
        intro w hst
        obtain ⟨hg1589, hm⟩ := gd_some hm
        replace hst := hst.pull2
        obtain ⟨v1590, w1591, hr1592, hst⟩ := run_append elem_36 Try.underlying36 hst hst.src1 (room_of hg1589 rfl) 36
        refine we_run (v := v1590) (w' := w1591) rfl (x_append rfl rfl hr1592) ?_
        refine ws_next (pend' := []) hst (by kernel_rfl) pk_nil ?_
        refine ws_q (v := .pointer (some ⟨b1446, 3, none⟩)) 10 [11] (by kernel_rfl) rfl rfl (yi_run rfl (fun w hst => x_field rfl Try.underlying39 rfl Try.sizeOf36 rfl)) ?_
        refine ws_e1 11 (by kernel_rfl) ?_
        refine nxe [] (by kernel_rfl) rfl rfl ?_
        clear hst
        intro w hst
        replace hst := hst.pull4
        obtain ⟨w1593, hr1594, hst⟩ := hst.boxStore1 (P := Try.prog) (t := 36) (cs' := [.int .i64 z1447, .int .u64 z1448, .int .u64 z1449, v1590, (.slice none 0 0)]) 3 v1590 (one_of_sliceV hst.sv1) Try.sizeOf36 rfl rfl
        refine we_unit rfl (x_unit hr1594) ?_
        refine ws_next (pend' := []) hst (by kernel_rfl) pk_nil ?_
        refine ws_nil ?_
        intro w hst
        refine blk_n ?_
        refine then_n ?_
        refine wp_region_lit ?_
        refine wl_val (v := .int .i64 z1556) rfl rfl rfl ?_
        refine wl_val (v := .int .i64 (IntKind.i64.wrap (z1556 + (1:Int)))) rfl rfl rfl ?_
        refine wl_val (v := .int .i64 (IntKind.i64.wrap (z1556 + (1:Int)))) rfl rfl rfl ?_
        refine wl_nil ?_
        refine then_n ?_
        replace hst := hst.pull4
        replace hst := hst.pull4
        replace hst := hst.pull3
        replace hst := hst.keep4
        obtain rfl := some_inj hm
        exact ⟨_, Nat.lt_succ_self _, _, (z1552 ++ ([({ Has := (t1567.1 == (0:Int)), Val := t1572.1 } : api_Got)])), t1572.2, (IntKind.i64.wrap (z1556 + (1:Int))), v1590, _, hx1564, ((fr_upd (t := 0) (v := p0) rfl).trans ((fr_upd (t := 2) (v := .pointer (some ⟨b1335, 0, none⟩)) rfl).trans ((fr_upd (t := 4) (v := .pointer (some ⟨b1446, 0, none⟩)) rfl).trans ((fr_upd (t := 5) (v := .int .i64 t1455.1) rfl).trans ((fr_upd (t := 6) (v := .int .i64 (IntKind.i64.wrap (z1556 + (1:Int)))) rfl).trans rfl))))), hL1561, hst⟩
      · skip
        replace hm := bif_f hc1566 hm
        refine wp_iff (congrArg Value.bool hc1566) ?_
        refine wp_exit ?_
        refine then_x ?_
        refine then_x ?_
        replace hm := inr_up hm hx1564
        refine blk_x ?_
        refine then_n ?_
        replace hst := hst.pull3
        replace hst := hst.pull3
        replace hst := hst.pull3
        replace hst := hst.keep4
        obtain rfl := some_inj hm
        exact ⟨_, z1555, z1552, v1553, _, hx1603, ((fr_upd (t := 0) (v := p0) rfl).trans ((fr_upd (t := 2) (v := .pointer (some ⟨b1335, 0, none⟩)) rfl).trans ((fr_upd (t := 4) (v := .pointer (some ⟨b1446, 0, none⟩)) rfl).trans rfl))), hL1604, hst⟩
    · skip
      clear hst
      rintro _ w1605 ⟨I1599, z1595, z1598, v1597, σ1600, hm, rfl, hL1601, hst⟩
      dsimp only [ref13_OfReply_j1] at hm
      replace hI0 := hI0.trans hL1601
      refine wp_seq ?_
      refine wp_region_lit ?_
      refine wl_val (v := p0) rfl rfl rfl ?_
      obtain ⟨t1606, ht1607, hm⟩ := bind_some hm
      refine wl_call rfl rfl (x_call Try.call22 rfl (vs := [p0, .int .i64 (3:Int)]) rfl) ?_
      refine (ref12_Tape_Next_ref hst.to1 ht1607).mono ?_
      rintro _ w1608 ⟨rfl, hst⟩
      refine ⟨_, rfl, ?_⟩
      replace hst := hst.of1
      refine wl_val (v := .int .i64 (IntKind.i64.wrap (Int.tdiv t1606.1 (2:Int)))) rfl rfl (x_quo (by decide) rfl rfl) ?_
      refine wl_val (v := .int .i64 (IntKind.i64.wrap (Int.tdiv t1606.1 (2:Int)))) rfl rfl rfl ?_
      refine wl_nil ?_
      refine then_n ?_
      refine wp_seq ?_
      refine wp_seq ?_
      refine wp_region_lit ?_
      refine wl_val (v := .int .i64 (0:Int)) rfl rfl rfl ?_
      refine wl_nil ?_
      refine then_n ?_
      refine wp_block ?_
      replace hst := hst.own_nil (tySl ty_api_Pair)
      obtain ⟨n2103, hm⟩ := loopO_some hm
      refine wp_loop_n (fun n a w => ∃ (I2101 : HL) (z2096 : (List (List api_Pair))) (z2099 : ref12_Tape) (z2100 : Int) (v2097 : Value) (σ2102 : Nat → Value), loopN (ref13_OfReply_l3 t1606 z1447 z1448 z1449 z1598) n (z2096, z2099, z2100) = some r ∧ a = Fr 72 (upd (upd (upd (upd (upd σ2102 0 (p0)) 2 (.pointer (some ⟨b1335, 0, none⟩))) 4 (.pointer (some ⟨b1446, 0, none⟩))) 5 (.int .i64 (IntKind.i64.wrap (Int.tdiv t1606.1 (2:Int))))) 7 (.int .i64 z2100)) ∧ I1599.le I2101 ∧ St w0 w I2101 [ownS (tySl ty_api_Pair) v2097 z2096, at_ref12_Tape p0 z2099, cells b1335 [.int .i64 (0:Int), .int .u64 (0:Int), .int .u64 (0:Int), (.slice none 0 0), (.slice none 0 0)], cells b1446 [.int .i64 z1447, .int .u64 z1448, .int .u64 z1449, v1597, v2097], ownS ty_api_Got v1597 z1598] R) n2103 ⟨_, [], t1606.2, (0:Int), (.slice none 0 0), _, hm, ((fr_upd (t := 0) (v := p0) rfl).trans ((fr_upd (t := 2) (v := .pointer (some ⟨b1335, 0, none⟩)) rfl).trans ((fr_upd (t := 4) (v := .pointer (some ⟨b1446, 0, none⟩)) rfl).trans ((fr_upd (t := 5) (v := .int .i64 (IntKind.i64.wrap (Int.tdiv t1606.1 (2:Int)))) rfl).trans ((fr_upd (t := 7) (v := .int .i64 (0:Int)) rfl).trans rfl))))), (HL.le.refl _), hst⟩ ?_
      rintro n2109 _ w2104 ⟨I2101, z2096, z2099, z2100, v2097, σ2102, hm, rfl, hL2105, hst⟩
      obtain ⟨n2106, y2107, rfl, hm, hx2108⟩ := loopN_some hm
      dsimp only [ref13_OfReply_l3] at hm
      replace hI0 := hI0.trans hL2105
      refine wp_seq ?_
      refine wp_seq ?_
      refine wp_region_lit ?_
      refine wl_val (v := .int .i64 z2100) rfl rfl rfl ?_
      refine wl_val (v := .int .i64 (IntKind.i64.wrap (Int.tdiv t1606.1 (2:Int)))) rfl rfl rfl ?_
      refine wl_val (v := .bool (decide (z2100 < (IntKind.i64.wrap (Int.tdiv t1606.1 (2:Int)))))) rfl rfl rfl ?_
      refine wl_nil ?_
      refine then_n ?_
      refine bsplit (decide (z2100 < (IntKind.i64.wrap (Int.tdiv t1606.1 (2:Int))))) (fun hc2110 => ?_) (fun hc2110 => ?_)
      · skip
        replace hm := bif_t hc2110 hm
        refine wp_ift (congrArg Value.bool hc2110) ?_
        refine wp_skip ?_
        refine then_n ?_
        refine wp_seq ?_
        refine wp_block ?_
        refine wp_seq ?_
        refine wp_region_lit ?_
        refine wl_val (v := (.slice none 0 0)) rfl rfl rfl ?_
        refine wl_nil ?_
        refine then_n ?_
        refine wp_seq ?_
        refine wp_region_lit ?_
        refine wl_val (v := p0) rfl rfl rfl ?_
        replace hst := hst.pull1
        obtain ⟨t2112, ht2113, hm⟩ := bind_some hm
        refine wl_call rfl rfl (x_call Try.call22 rfl (vs := [p0, .int .i64 (3:Int)]) rfl) ?_
        refine (ref12_Tape_Next_ref hst.to1 ht2113).mono ?_
        rintro _ w2114 ⟨rfl, hst⟩
        refine ⟨_, rfl, ?_⟩
        replace hst := hst.of1
        refine wl_val (v := .int .i64 t2112.1) rfl rfl rfl ?_
        refine wl_nil ?_
        refine then_n ?_
        obtain ⟨y2251, hm, hx2252⟩ := bind_some hm
        refine wp_cut (fun a w => ∃ (I2248 : HL) (z2244 : ref12_Tape) (z2247 : (List api_Pair)) (v2246 : Value) (σ2249 : Nat → Value), (ref13_OfReply_j4 z2096 z2100) (z2244, z2247) = some y2107 ∧ a = Fr 72 (upd (upd (upd (upd (upd (upd σ2249 0 (p0)) 2 (.pointer (some ⟨b1335, 0, none⟩))) 4 (.pointer (some ⟨b1446, 0, none⟩))) 5 (.int .i64 (IntKind.i64.wrap (Int.tdiv t1606.1 (2:Int))))) 7 (.int .i64 z2100)) 8 (v2246)) ∧ I2101.le I2248 ∧ St w0 w I2248 [at_ref12_Tape p0 z2244, cells b1335 [.int .i64 (0:Int), .int .u64 (0:Int), .int .u64 (0:Int), (.slice none 0 0), (.slice none 0 0)], cells b1446 [.int .i64 z1447, .int .u64 z1448, .int .u64 z1449, v1597, v2097], ownS ty_api_Got v1597 z1598, ownS (tySl ty_api_Pair) v2097 z2096, ownS ty_api_Pair v2246 z2247] R) ?_ ?_
        · skip
          have hL2253 := HL.le.refl I2101
          refine wp_seq ?_
          refine wp_region_lit ?_
          refine wl_val (v := .int .i64 (0:Int)) rfl rfl rfl ?_
          refine wl_nil ?_
          refine then_n ?_
          refine wp_block ?_
          replace hst := hst.own_nil ty_api_Pair
          obtain ⟨n2210, hm⟩ := loopO_some hm
          refine wp_loop_n (fun n a w => ∃ (I2208 : HL) (z2203 : ref12_Tape) (z2204 : Int) (z2205 : (List api_Pair)) (v2206 : Value) (σ2209 : Nat → Value), loopN (ref13_OfReply_l5 t2112) n (z2203, z2204, z2205) = some y2251 ∧ a = Fr 72 (upd (upd (upd (upd (upd (upd (upd (upd σ2209 0 (p0)) 2 (.pointer (some ⟨b1335, 0, none⟩))) 4 (.pointer (some ⟨b1446, 0, none⟩))) 5 (.int .i64 (IntKind.i64.wrap (Int.tdiv t1606.1 (2:Int))))) 7 (.int .i64 z2100)) 8 (v2206)) 9 (.int .i64 t2112.1)) 10 (.int .i64 z2204)) ∧ I2101.le I2208 ∧ St w0 w I2208 [ownS ty_api_Pair v2206 z2205, at_ref12_Tape p0 z2203, ownS (tySl ty_api_Pair) v2097 z2096, cells b1335 [.int .i64 (0:Int), .int .u64 (0:Int), .int .u64 (0:Int), (.slice none 0 0), (.slice none 0 0)], cells b1446 [.int .i64 z1447, .int .u64 z1448, .int .u64 z1449, v1597, v2097], ownS ty_api_Got v1597 z1598] R) n2210 ⟨_, t2112.2, (0:Int), [], (.slice none 0 0), _, hm, ((fr_upd (t := 0) (v := p0) rfl).trans ((fr_upd (t := 2) (v := .pointer (some ⟨b1335, 0, none⟩)) rfl).trans ((fr_upd (t := 4) (v := .pointer (some ⟨b1446, 0, none⟩)) rfl).trans ((fr_upd (t := 5) (v := .int .i64 (IntKind.i64.wrap (Int.tdiv t1606.1 (2:Int)))) rfl).trans ((fr_upd (t := 7) (v := .int .i64 z2100) rfl).trans ((fr_upd (t := 8) (v := (.slice none 0 0)) rfl).trans ((fr_upd (t := 9) (v := .int .i64 t2112.1) rfl).trans ((fr_upd (t := 10) (v := .int .i64 (0:Int)) rfl).trans rfl)))))))), (HL.le.refl _), hst⟩ ?_
          rintro n2216 _ w2211 ⟨I2208, z2203, z2204, z2205, v2206, σ2209, hm, rfl, hL2212, hst⟩
          obtain ⟨n2213, y2214, rfl, hm, hx2215⟩ := loopN_some hm
          dsimp only [ref13_OfReply_l5] at hm
          replace hI0 := hI0.trans hL2212
          replace hL2105 := hL2105.trans hL2212
          replace hL2253 := hL2253.trans hL2212
          refine wp_seq ?_
          refine wp_seq ?_
          refine wp_region_lit ?_
          refine wl_val (v := .int .i64 z2204) rfl rfl rfl ?_
          refine wl_val (v := .int .i64 t2112.1) rfl rfl rfl ?_
          refine wl_val (v := .bool (decide (z2204 < t2112.1))) rfl rfl rfl ?_
          refine wl_nil ?_
          refine then_n ?_
          refine bsplit (decide (z2204 < t2112.1)) (fun hc2217 => ?_) (fun hc2217 => ?_)
          · skip
            replace hm := bif_t hc2217 hm
            refine wp_ift (congrArg Value.bool hc2217) ?_
            refine wp_skip ?_
            refine then_n ?_
            refine wp_seq ?_
            refine wp_block ?_
            refine wp_region_lit ?_
            refine wl_val (v := v2206) rfl rfl rfl ?_
            refine wl_val (v := p0) rfl rfl rfl ?_
            replace hst := hst.pull1
            obtain ⟨t2218, ht2219, hm⟩ := bind_some hm
            refine wl_call rfl rfl (x_call Try.call37 rfl (vs := [p0]) rfl) ?_
            refine (ref12_Tape_Float_ref hst.to1 ht2219).mono ?_
            rintro _ w2220 ⟨rfl, hst⟩
            refine ⟨_, rfl, ?_⟩
            replace hst := hst.of1
            refine wl_val (v := p0) rfl rfl rfl ?_
            obtain ⟨t2223, ht2224, hm⟩ := bind_some hm
            refine wl_call rfl rfl (x_call Try.call36 rfl (vs := [p0]) rfl) ?_
            refine (ref12_Tape_Val_ref hst.to1 ht2224).mono ?_
            rintro _ w2225 ⟨v2228, rfl, hst⟩
            refine ⟨_, rfl, ?_⟩
            replace hst := hst.of2
            refine wl_val (v := .agg #[.float .f64 t2218.1, v2228]) rfl rfl (by obtain ⟨_, _, hv_, _⟩ := hst.sv0; rw [hv_]; kernel_rfl) ?_
            obtain ⟨I2232, hI2233, f2234, hst⟩ := hst.own_fix
            replace hI0 := hI0.trans hI2233
            replace hL2105 := hL2105.trans hI2233
            replace hL2253 := hL2253.trans hI2233
            replace hL2212 := hL2212.trans hI2233
            obtain ⟨b2235, w2236, ew2237, eb2238, hst⟩ := hst.lits (E := ty_api_Pair) (xs := [({ At := t2218.1, Val := t2223.1 } : api_Pair)]) [[.float .f64 t2218.1, v2228]] 54 1 rfl (Reps.cons ⟨_, rfl, f2234, one_of_sliceV (ro_sliceV f2234)⟩ Reps.nil)
            refine wl_run (v := (.slice (some ⟨b2235, 0, none⟩) 1 1)) (w' := w2236) rfl rfl (x_als (by kernel_rfl) ew2237 eb2238) ?_
            obtain ⟨hg2240, hm⟩ := gd_some hm
            replace hst := hst.pull2
            obtain ⟨v2241, w2242, hr2243, hst⟩ := run_append elem_52 Try.underlying52 hst hst.src1 (room_of hg2240 rfl) 52
            refine wl_run (v := v2241) (w' := w2242) rfl rfl (x_append rfl rfl hr2243) ?_
            refine wl_val (v := v2241) rfl rfl rfl ?_
            refine wl_nil ?_
            refine blk_n ?_
            refine then_n ?_
            refine wp_region_lit ?_
            refine wl_val (v := .int .i64 z2204) rfl rfl rfl ?_
            refine wl_val (v := .int .i64 (IntKind.i64.wrap (z2204 + (1:Int)))) rfl rfl rfl ?_
            refine wl_val (v := .int .i64 (IntKind.i64.wrap (z2204 + (1:Int)))) rfl rfl rfl ?_
            refine wl_nil ?_
            refine then_n ?_
            replace hst := hst.pull6
            replace hst := hst.pull6
            replace hst := hst.pull6
            replace hst := hst.pull6
            replace hst := hst.pull6
            replace hst := hst.pull5
            replace hst := hst.keep6
            obtain rfl := some_inj hm
            exact ⟨_, Nat.lt_succ_self _, _, t2223.2, (IntKind.i64.wrap (z2204 + (1:Int))), (z2205 ++ ([({ At := t2218.1, Val := t2223.1 } : api_Pair)])), v2241, _, hx2215, ((fr_upd (t := 0) (v := p0) rfl).trans ((fr_upd (t := 2) (v := .pointer (some ⟨b1335, 0, none⟩)) rfl).trans ((fr_upd (t := 4) (v := .pointer (some ⟨b1446, 0, none⟩)) rfl).trans ((fr_upd (t := 5) (v := .int .i64 (IntKind.i64.wrap (Int.tdiv t1606.1 (2:Int)))) rfl).trans ((fr_upd (t := 7) (v := .int .i64 z2100) rfl).trans ((fr_upd (t := 8) (v := v2241) rfl).trans ((fr_upd (t := 9) (v := .int .i64 t2112.1) rfl).trans ((fr_upd (t := 10) (v := .int .i64 (IntKind.i64.wrap (z2204 + (1:Int)))) rfl).trans rfl)))))))), hL2212, hst⟩
          · skip
            replace hm := bif_f hc2217 hm
            refine wp_iff (congrArg Value.bool hc2217) ?_
            refine wp_exit ?_
            refine then_x ?_
            refine then_x ?_
            replace hm := inr_up hm hx2215
            refine blk_x ?_
            refine then_n ?_
            replace hst := hst.pull2
            replace hst := hst.pull5
            replace hst := hst.pull5
            replace hst := hst.pull5
            replace hst := hst.pull5
            replace hst := hst.keep6
            obtain rfl := some_inj hm
            exact ⟨_, z2203, z2205, v2206, _, hx2252, ((fr_upd (t := 0) (v := p0) rfl).trans ((fr_upd (t := 2) (v := .pointer (some ⟨b1335, 0, none⟩)) rfl).trans ((fr_upd (t := 4) (v := .pointer (some ⟨b1446, 0, none⟩)) rfl).trans ((fr_upd (t := 5) (v := .int .i64 (IntKind.i64.wrap (Int.tdiv t1606.1 (2:Int)))) rfl).trans ((fr_upd (t := 7) (v := .int .i64 z2100) rfl).trans ((fr_upd (t := 8) (v := v2206) rfl).trans rfl)))))), hL2253, hst⟩
        · skip
          clear hst
          rintro _ w2254 ⟨I2248, z2244, z2247, v2246, σ2249, hm, rfl, hL2250, hst⟩
          dsimp only [ref13_OfReply_j4] at hm
          replace hI0 := hI0.trans hL2250
          replace hL2105 := hL2105.trans hL2250
          refine wp_region_lit ?_
          refine wl_val (v := .pointer (some ⟨b1446, 4, none⟩)) rfl rfl (x_field rfl Try.underlying39 rfl Try.sizeOf37 rfl) ?_
          refine wl_val (v := v2097) rfl rfl (x_load rfl Try.isAgg37 (hst.bc2 rfl)) ?_
          refine wl_val (v := v2246) rfl rfl rfl ?_
          replace hst := hst.pull5
          obtain ⟨I2256, hI2257, f2258, hst⟩ := hst.own_fix
          replace hI0 := hI0.trans hI2257
          replace hL2105 := hL2105.trans hI2257
          obtain ⟨b2259, w2260, ew2261, eb2262, hst⟩ := hst.lits (E := (tySl ty_api_Pair)) (xs := [z2247]) [[v2246]] 52 1 rfl (Reps.cons ⟨_, rfl, f2258, one_of_sliceV (ro_sliceV f2258)⟩ Reps.nil)
          refine wl_run (v := (.slice (some ⟨b2259, 0, none⟩) 1 1)) (w' := w2260) rfl rfl (x_als (by obtain ⟨_, _, hv_, _⟩ := (ro_sliceV f2258); rw [hv_]; kernel_rfl) ew2261 eb2262) ?_
          obtain ⟨hg2264, hm⟩ := gd_some hm
          replace hst := hst.pull5
          obtain ⟨v2265, w2266, hr2267, hst⟩ := run_append elem_37 Try.underlying37 hst hst.src1 (room_of hg2264 rfl) 37
          refine wl_run (v := v2265) (w' := w2266) rfl rfl (x_append rfl rfl hr2267) ?_
          refine wl_val (v := .pointer (some ⟨b1446, 4, none⟩)) rfl rfl (x_field rfl Try.underlying39 rfl Try.sizeOf37 rfl) ?_
          replace hst := hst.pull4
          obtain ⟨w2268, hr2269, hst⟩ := hst.boxStore1 (P := Try.prog) (t := 37) (cs' := [.int .i64 z1447, .int .u64 z1448, .int .u64 z1449, v1597, v2265]) 4 v2265 (one_of_sliceV hst.sv1) Try.sizeOf37 rfl rfl
          refine wl_unit rfl rfl (x_unit hr2269) ?_
          refine wl_nil ?_
          refine blk_n ?_
          refine then_n ?_
          refine wp_region_lit ?_
          refine wl_val (v := .int .i64 z2100) rfl rfl rfl ?_
          refine wl_val (v := .int .i64 (IntKind.i64.wrap (z2100 + (1:Int)))) rfl rfl rfl ?_
          refine wl_val (v := .int .i64 (IntKind.i64.wrap (z2100 + (1:Int)))) rfl rfl rfl ?_
          refine wl_nil ?_
          refine then_n ?_
          replace hst := hst.pull5
          replace hst := hst.pull1
          replace hst := hst.pull5
          replace hst := hst.pull5
          replace hst := hst.pull4
          replace hst := hst.keep5
          obtain rfl := some_inj hm
          exact ⟨_, Nat.lt_succ_self _, _, (z2096 ++ ([z2247])), z2244, (IntKind.i64.wrap (z2100 + (1:Int))), v2265, _, hx2108, ((fr_upd (t := 0) (v := p0) rfl).trans ((fr_upd (t := 2) (v := .pointer (some ⟨b1335, 0, none⟩)) rfl).trans ((fr_upd (t := 4) (v := .pointer (some ⟨b1446, 0, none⟩)) rfl).trans ((fr_upd (t := 5) (v := .int .i64 (IntKind.i64.wrap (Int.tdiv t1606.1 (2:Int)))) rfl).trans ((fr_upd (t := 7) (v := .int .i64 (IntKind.i64.wrap (z2100 + (1:Int)))) rfl).trans rfl))))), hL2105, hst⟩
      · skip
        replace hm := bif_f hc2110 hm
        refine wp_iff (congrArg Value.bool hc2110) ?_
        refine wp_exit ?_
        refine then_x ?_
        refine then_x ?_
        replace hm := inr_up hm hx2108
        refine blk_x ?_
        refine then_n ?_
        refine wp_seq ?_
        refine wp_region_lit ?_
        refine wl_val (v := .agg #[.int .i64 z1447, .int .u64 z1448, .int .u64 z1449, v1597, v2097]) rfl rfl (x_loadN (cs := [.int .i64 z1447, .int .u64 z1448, .int .u64 z1449, v1597, v2097]) rfl Try.isAgg39 Try.sizeOf39 (hst.bcs3 0 rfl)) ?_
        replace hst := hst.pull2
        obtain ⟨w2270, hr2271, hst⟩ := hst.boxStore (P := Try.prog) (t := 39) (cs' := [.int .i64 z1447, .int .u64 z1448, .int .u64 z1449, v1597, v2097]) 0 (.agg #[.int .i64 z1447, .int .u64 z1448, .int .u64 z1449, v1597, v2097]) Try.sizeOf39 (Nat.le_of_ble_eq_true rfl) (ones_cons rfl (ones_cons rfl (ones_cons rfl (ones_cons (one_of_sliceV hst.sv4) (ones_cons (one_of_sliceV hst.sv1) ones_nil))))) (by kernel_rfl)
        refine wl_unit rfl rfl (x_unit hr2271) ?_
        refine wl_nil ?_
        refine then_n ?_
        refine wp_ret ?_
        obtain rfl := some_inj hm
        refine post_ret (vs := [.agg #[.int .i64 z1447, .int .u64 z1448, .int .u64 z1449, v1597, v2097]]) Try.results12 (rvs_cons (rv_cell (cs := [.int .i64 z1447, .int .u64 z1448, .int .u64 z1449, v1597, v2097]) rfl Try.isAgg39 Try.sizeOf39 (hst.bcs0 0 rfl)) rvs_nil) ?_
        replace hst := hst.pull2
        replace hst := hst.pull2
        replace hst := hst.pull4
        exact ⟨_, v1597, v2097, rfl, hI0, hst.keep3⟩

theorem ref13_OfRule_ref {w0 w : World} {I : HL} {R : SP} {a0 : ref12_Tape} {p0 : Value}  (hst : St w0 w I [at_ref12_Tape p0 a0] R) {r : (api_Rule × ref12_Tape)} (hm : ref13_OfRule a0 = some r) :
    Calls Try.prog 26 #[p0] w fun e w' => e = .returned (.agg #[.int .u64 r.1.ID, .int .i64 r.1.From, .int .i64 r.1.To, .float .f64 r.1.Lo, .float .f64 r.1.Hi, .int .u64 r.1.Authority, .int .i64 r.1.Quota]) ∧ St w0 w' I [at_ref12_Tape p0 r.2] R := by
  unfold ref13_OfRule at hm
  refine calls_start (args := [p0]) Try.func26 rfl Try.ntmps26 (Nat.le_of_ble_eq_true rfl) ?_
  refine wp_seq ?_
  refine wp_region_lit ?_
  obtain ⟨b460, w461, ew462, eb463, hst⟩ := hst.box [.int .u64 (0:Int), .int .i64 (0:Int), .int .i64 (0:Int), .float .f64 (0:Nat), .float .f64 (0:Nat), .int .u64 (0:Int), .int .i64 (0:Int)] 43
  refine wl_run (v := .pointer (some ⟨b460, 0, none⟩)) (w' := w461) rfl rfl (x_al (by kernel_rfl) ew462 eb463) ?_
  refine wl_nil ?_
  refine then_n ?_
  refine wp_seq ?_
  refine wp_region_lit ?_
  refine wl_val (v := p0) rfl rfl rfl ?_
  replace hst := hst.pull1
  obtain ⟨t465, ht466, hm⟩ := bind_some hm
  refine wl_call rfl rfl (x_call Try.call22 rfl (vs := [p0, .int .i64 (3:Int)]) rfl) ?_
  refine (ref12_Tape_Next_ref hst.to1 ht466).mono ?_
  rintro _ w467 ⟨rfl, hst⟩
  refine ⟨_, rfl, ?_⟩
  replace hst := hst.of1
  refine wl_val (v := .int .u64 (IntKind.u64.wrap t465.1)) rfl rfl (by kernel_rfl) ?_
  refine wl_val (v := p0) rfl rfl rfl ?_
  obtain ⟨t470, ht471, hm⟩ := bind_some hm
  refine wl_call rfl rfl (x_call Try.call22 rfl (vs := [p0, .int .i64 (4:Int)]) rfl) ?_
  refine (ref12_Tape_Next_ref hst.to1 ht471).mono ?_
  rintro _ w472 ⟨rfl, hst⟩
  refine ⟨_, rfl, ?_⟩
  replace hst := hst.of1
  refine wl_val (v := p0) rfl rfl rfl ?_
  obtain ⟨t475, ht476, hm⟩ := bind_some hm
  refine wl_call rfl rfl (x_call Try.call22 rfl (vs := [p0, .int .i64 (4:Int)]) rfl) ?_
  refine (ref12_Tape_Next_ref hst.to1 ht476).mono ?_
  rintro _ w477 ⟨rfl, hst⟩
  refine ⟨_, rfl, ?_⟩
  replace hst := hst.of1
  refine wl_val (v := p0) rfl rfl rfl ?_
  obtain ⟨t480, ht481, hm⟩ := bind_some hm
  refine wl_call rfl rfl (x_call Try.call37 rfl (vs := [p0]) rfl) ?_
  refine (ref12_Tape_Float_ref hst.to1 ht481).mono ?_
  rintro _ w482 ⟨rfl, hst⟩
  refine ⟨_, rfl, ?_⟩
  replace hst := hst.of1
  refine wl_val (v := p0) rfl rfl rfl ?_
  obtain ⟨t485, ht486, hm⟩ := bind_some hm
  refine wl_call rfl rfl (x_call Try.call37 rfl (vs := [p0]) rfl) ?_
  refine (ref12_Tape_Float_ref hst.to1 ht486).mono ?_
  rintro _ w487 ⟨rfl, hst⟩
  refine ⟨_, rfl, ?_⟩
  replace hst := hst.of1
  refine wl_val (v := p0) rfl rfl rfl ?_
  obtain ⟨t490, ht491, hm⟩ := bind_some hm
  refine wl_call rfl rfl (x_call Try.call22 rfl (vs := [p0, .int .i64 (2:Int)]) rfl) ?_
  refine (ref12_Tape_Next_ref hst.to1 ht491).mono ?_
  rintro _ w492 ⟨rfl, hst⟩
  refine ⟨_, rfl, ?_⟩
  replace hst := hst.of1
  refine wl_val (v := .int .u64 (IntKind.u64.wrap t490.1)) rfl rfl (by kernel_rfl) ?_
  refine wl_val (v := p0) rfl rfl rfl ?_
  obtain ⟨t495, ht496, hm⟩ := bind_some hm
  refine wl_call rfl rfl (x_call Try.call22 rfl (vs := [p0, .int .i64 (3:Int)]) rfl) ?_
  refine (ref12_Tape_Next_ref hst.to1 ht496).mono ?_
  rintro _ w497 ⟨rfl, hst⟩
  refine ⟨_, rfl, ?_⟩
  replace hst := hst.of1
  refine wl_val (v := .agg #[.int .u64 (IntKind.u64.wrap t465.1), .int .i64 t470.1, .int .i64 t475.1, .float .f64 t480.1, .float .f64 t485.1, .int .u64 (IntKind.u64.wrap t490.1), .int .i64 t495.1]) rfl rfl (by kernel_rfl) ?_
  replace hst := hst.pull1
  obtain ⟨w500, hr501, hst⟩ := hst.boxStore (P := Try.prog) (t := 43) (cs' := [.int .u64 (IntKind.u64.wrap t465.1), .int .i64 t470.1, .int .i64 t475.1, .float .f64 t480.1, .float .f64 t485.1, .int .u64 (IntKind.u64.wrap t490.1), .int .i64 t495.1]) 0 (.agg #[.int .u64 (IntKind.u64.wrap t465.1), .int .i64 t470.1, .int .i64 t475.1, .float .f64 t480.1, .float .f64 t485.1, .int .u64 (IntKind.u64.wrap t490.1), .int .i64 t495.1]) Try.sizeOf43 (Nat.le_of_ble_eq_true rfl) (ones_cons rfl (ones_cons rfl (ones_cons rfl (ones_cons rfl (ones_cons rfl (ones_cons rfl (ones_cons rfl ones_nil))))))) (by kernel_rfl)
  refine wl_unit rfl rfl (x_unit hr501) ?_
  refine wl_nil ?_
  refine then_n ?_
  refine wp_ret ?_
  obtain rfl := some_inj hm
  refine post_ret (vs := [.agg #[.int .u64 (IntKind.u64.wrap t465.1), .int .i64 t470.1, .int .i64 t475.1, .float .f64 t480.1, .float .f64 t485.1, .int .u64 (IntKind.u64.wrap t490.1), .int .i64 t495.1]]) Try.results26 (rvs_cons (rv_cell (cs := [.int .u64 (IntKind.u64.wrap t465.1), .int .i64 t470.1, .int .i64 t475.1, .float .f64 t480.1, .float .f64 t485.1, .int .u64 (IntKind.u64.wrap t490.1), .int .i64 t495.1]) rfl Try.isAgg43 Try.sizeOf43 (hst.bcs0 0 rfl)) rvs_nil) ?_
  replace hst := hst.pull1
  exact ⟨rfl, hst.keep1⟩

theorem ref13_OfCommand_ref {w0 w : World} {I : HL} {R : SP} {a0 : ref12_Tape} {p0 : Value}  (hst : St w0 w I [at_ref12_Tape p0 a0] R) {r : (api_Command × ref12_Tape)} (hm : ref13_OfCommand a0 = some r) :
    Calls Try.prog 9 #[p0] w fun e w' => ∃ (I' : HL) (q0_0 : Value) (q0_1 : Value) (q0_2 : Value) (q0_3 : Value) (q0_4 : Value) (q0_5 : Value) (q0_6 : Value) (q0_7 : Value), e = .returned (.agg #[.int .u8 r.1.Kind, .int .u64 r.1.ID.Session, .int .u64 r.1.ID.Seq, .int .u64 r.1.Epoch, .int .u64 r.1.Index, .int .i64 r.1.E, .int .u64 r.1.Hold.ID.Session, .int .u64 r.1.Hold.ID.Seq, .int .u64 r.1.Hold.Epoch, q0_0, q0_1, q0_2, q0_3, q0_4, .int .i64 r.1.R.E, .int .u64 r.1.R.Epoch, .int .u64 r.1.R.Index, q0_5, q0_6, .int .u64 r.1.Shards, q0_7, .int .u64 r.1.Rule.ID, .int .i64 r.1.Rule.From, .int .i64 r.1.Rule.To, .float .f64 r.1.Rule.Lo, .float .f64 r.1.Rule.Hi, .int .u64 r.1.Rule.Authority, .int .i64 r.1.Rule.Quota, .bool r.1.On]) ∧ I.le I' ∧ St w0 w' I' [ownS tyF64 q0_0 r.1.Hold.Gets, ownS tyF2 q0_1 r.1.Hold.Scans, ownS tyF64 q0_2 r.1.Hold.Puts, ownS (tyInt .u8) q0_3 r.1.Hold.Data, ownS ty_api_Write q0_4 r.1.Writes, ownS ty_api_Got q0_5 r.1.R.Gots, ownS (tySl ty_api_Pair) q0_6 r.1.R.Scans, ownS ty_api_Part q0_7 r.1.Parts, at_ref12_Tape p0 r.2] R := by
  unfold ref13_OfCommand at hm
  refine calls_start (args := [p0]) Try.func9 rfl Try.ntmps9 (Nat.le_of_ble_eq_true rfl) ?_
  have hI0 := HL.le.refl I
  refine wp_seq ?_
  refine wp_region_lit ?_
  obtain ⟨b487, w488, ew489, eb490, hst⟩ := hst.box [.int .u8 (0:Int), .int .u64 (0:Int), .int .u64 (0:Int), .int .u64 (0:Int), .int .u64 (0:Int), .int .i64 (0:Int), .int .u64 (0:Int), .int .u64 (0:Int), .int .u64 (0:Int), (.slice none 0 0), (.slice none 0 0), (.slice none 0 0), (.slice none 0 0), (.slice none 0 0), .int .i64 (0:Int), .int .u64 (0:Int), .int .u64 (0:Int), (.slice none 0 0), (.slice none 0 0), .int .u64 (0:Int), (.slice none 0 0), .int .u64 (0:Int), .int .i64 (0:Int), .int .i64 (0:Int), .float .f64 (0:Nat), .float .f64 (0:Nat), .int .u64 (0:Int), .int .i64 (0:Int), .bool false] 45
  refine wl_run (v := .pointer (some ⟨b487, 0, none⟩)) (w' := w488) rfl rfl (x_al (by kernel_rfl) ew489 eb490) ?_
  refine wl_nil ?_
  refine then_n ?_
  refine wp_seq ?_
  refine wp_region_lit ?_
  refine wl_val (v := p0) rfl rfl rfl ?_
  replace hst := hst.pull1
  obtain ⟨t492, ht493, hm⟩ := bind_some hm
  refine wl_call rfl rfl (x_call Try.call22 rfl (vs := [p0, .int .i64 (7:Int)]) rfl) ?_
  refine (ref12_Tape_Next_ref hst.to1 ht493).mono ?_
  rintro _ w494 ⟨rfl, hst⟩
  refine ⟨_, rfl, ?_⟩
  replace hst := hst.of1
  refine wl_val (v := .int .i64 (IntKind.i64.wrap ((1:Int) + t492.1))) rfl rfl rfl ?_
  refine wl_val (v := .int .u8 (IntKind.u8.wrap (IntKind.i64.wrap ((1:Int) + t492.1)))) rfl rfl (by kernel_rfl) ?_
  refine wl_val (v := .agg #[.int .u8 (IntKind.u8.wrap (IntKind.i64.wrap ((1:Int) + t492.1))), .int .u64 (0:Int), .int .u64 (0:Int), .int .u64 (0:Int), .int .u64 (0:Int), .int .i64 (0:Int), .int .u64 (0:Int), .int .u64 (0:Int), .int .u64 (0:Int), (.slice none 0 0), (.slice none 0 0), (.slice none 0 0), (.slice none 0 0), (.slice none 0 0), .int .i64 (0:Int), .int .u64 (0:Int), .int .u64 (0:Int), (.slice none 0 0), (.slice none 0 0), .int .u64 (0:Int), (.slice none 0 0), .int .u64 (0:Int), .int .i64 (0:Int), .int .i64 (0:Int), .float .f64 (0:Nat), .float .f64 (0:Nat), .int .u64 (0:Int), .int .i64 (0:Int), .bool false]) rfl rfl (by kernel_rfl) ?_
  obtain ⟨b513, w514, ew515, eb516, hst⟩ := hst.box [.int .u8 (0:Int), .int .u64 (0:Int), .int .u64 (0:Int), .int .u64 (0:Int), .int .u64 (0:Int), .int .i64 (0:Int), .int .u64 (0:Int), .int .u64 (0:Int), .int .u64 (0:Int), (.slice none 0 0), (.slice none 0 0), (.slice none 0 0), (.slice none 0 0), (.slice none 0 0), .int .i64 (0:Int), .int .u64 (0:Int), .int .u64 (0:Int), (.slice none 0 0), (.slice none 0 0), .int .u64 (0:Int), (.slice none 0 0), .int .u64 (0:Int), .int .i64 (0:Int), .int .i64 (0:Int), .float .f64 (0:Nat), .float .f64 (0:Nat), .int .u64 (0:Int), .int .i64 (0:Int), .bool false] 45
  refine wl_run (v := .pointer (some ⟨b513, 0, none⟩)) (w' := w514) rfl rfl (x_al (by kernel_rfl) ew515 eb516) ?_
  obtain ⟨w518, hr519, hst⟩ := hst.boxStore (P := Try.prog) (t := 45) (cs' := [.int .u8 (IntKind.u8.wrap (IntKind.i64.wrap ((1:Int) + t492.1))), .int .u64 (0:Int), .int .u64 (0:Int), .int .u64 (0:Int), .int .u64 (0:Int), .int .i64 (0:Int), .int .u64 (0:Int), .int .u64 (0:Int), .int .u64 (0:Int), (.slice none 0 0), (.slice none 0 0), (.slice none 0 0), (.slice none 0 0), (.slice none 0 0), .int .i64 (0:Int), .int .u64 (0:Int), .int .u64 (0:Int), (.slice none 0 0), (.slice none 0 0), .int .u64 (0:Int), (.slice none 0 0), .int .u64 (0:Int), .int .i64 (0:Int), .int .i64 (0:Int), .float .f64 (0:Nat), .float .f64 (0:Nat), .int .u64 (0:Int), .int .i64 (0:Int), .bool false]) 0 (.agg #[.int .u8 (IntKind.u8.wrap (IntKind.i64.wrap ((1:Int) + t492.1))), .int .u64 (0:Int), .int .u64 (0:Int), .int .u64 (0:Int), .int .u64 (0:Int), .int .i64 (0:Int), .int .u64 (0:Int), .int .u64 (0:Int), .int .u64 (0:Int), (.slice none 0 0), (.slice none 0 0), (.slice none 0 0), (.slice none 0 0), (.slice none 0 0), .int .i64 (0:Int), .int .u64 (0:Int), .int .u64 (0:Int), (.slice none 0 0), (.slice none 0 0), .int .u64 (0:Int), (.slice none 0 0), .int .u64 (0:Int), .int .i64 (0:Int), .int .i64 (0:Int), .float .f64 (0:Nat), .float .f64 (0:Nat), .int .u64 (0:Int), .int .i64 (0:Int), .bool false]) Try.sizeOf45 (Nat.le_of_ble_eq_true rfl) (ones_cons rfl (ones_cons rfl (ones_cons rfl (ones_cons rfl (ones_cons rfl (ones_cons rfl (ones_cons rfl (ones_cons rfl (ones_cons rfl (ones_cons rfl (ones_cons rfl (ones_cons rfl (ones_cons rfl (ones_cons rfl (ones_cons rfl (ones_cons rfl (ones_cons rfl (ones_cons rfl (ones_cons rfl (ones_cons rfl (ones_cons rfl (ones_cons rfl (ones_cons rfl (ones_cons rfl (ones_cons rfl (ones_cons rfl (ones_cons rfl (ones_cons rfl (ones_cons rfl ones_nil))))))))))))))))))))))))))))) (by kernel_rfl)
  refine wl_unit rfl rfl (x_unit hr519) ?_
  refine wl_nil ?_
  refine then_n ?_
  refine wp_seq ?_
  refine wp_seq ?_
  refine wp_region_lit ?_
  refine wl_val (v := .pointer (some ⟨b513, 0, none⟩)) rfl rfl (x_field rfl Try.underlying45 rfl Try.sizeOf5 rfl) ?_
  refine wl_val (v := .int .u8 (IntKind.u8.wrap (IntKind.i64.wrap ((1:Int) + t492.1)))) rfl rfl (x_load rfl Try.isAgg5 (hst.bc0 rfl)) ?_
  refine wl_nil ?_
  refine then_n ?_
  refine wp_block ?_
  refine wp_seq ?_
  refine wp_region_lit ?_
  refine wl_val (v := .bool ((IntKind.u8.wrap (IntKind.i64.wrap ((1:Int) + t492.1))) == (1:Int))) rfl rfl rfl ?_
  refine wl_val (v := .bool ((IntKind.u8.wrap (IntKind.i64.wrap ((1:Int) + t492.1))) == (1:Int))) rfl rfl rfl ?_
  refine wl_nil ?_
  refine then_n ?_
  refine bsplit ((IntKind.u8.wrap (IntKind.i64.wrap ((1:Int) + t492.1))) == (1:Int)) (fun hc520 => ?_) (fun hc520 => ?_)
  · skip
    replace hm := bif_t hc520 hm
    refine wp_ift (congrArg Value.bool hc520) ?_
    refine wp_region_lit ?_
    refine wl_val (v := p0) rfl rfl rfl ?_
    replace hst := hst.pull1
    obtain ⟨t521, ht522, hm⟩ := bind_some hm
    refine wl_call rfl rfl (x_call Try.call22 rfl (vs := [p0, .int .i64 (4:Int)]) rfl) ?_
    refine (ref12_Tape_Next_ref hst.to1 ht522).mono ?_
    rintro _ w523 ⟨rfl, hst⟩
    refine ⟨_, rfl, ?_⟩
    replace hst := hst.of1
    refine wl_val (v := .int .i64 (IntKind.i64.wrap ((1:Int) + t521.1))) rfl rfl rfl ?_
    refine wl_val (v := .int .u64 (IntKind.u64.wrap (IntKind.i64.wrap ((1:Int) + t521.1)))) rfl rfl (by kernel_rfl) ?_
    refine wl_val (v := .pointer (some ⟨b513, 3, none⟩)) rfl rfl (x_field rfl Try.underlying45 rfl Try.sizeOf27 rfl) ?_
    replace hst := hst.pull1
    obtain ⟨w526, hr527, hst⟩ := hst.boxStore (P := Try.prog) (t := 27) (cs' := [.int .u8 (IntKind.u8.wrap (IntKind.i64.wrap ((1:Int) + t492.1))), .int .u64 (0:Int), .int .u64 (0:Int), .int .u64 (IntKind.u64.wrap (IntKind.i64.wrap ((1:Int) + t521.1))), .int .u64 (0:Int), .int .i64 (0:Int), .int .u64 (0:Int), .int .u64 (0:Int), .int .u64 (0:Int), (.slice none 0 0), (.slice none 0 0), (.slice none 0 0), (.slice none 0 0), (.slice none 0 0), .int .i64 (0:Int), .int .u64 (0:Int), .int .u64 (0:Int), (.slice none 0 0), (.slice none 0 0), .int .u64 (0:Int), (.slice none 0 0), .int .u64 (0:Int), .int .i64 (0:Int), .int .i64 (0:Int), .float .f64 (0:Nat), .float .f64 (0:Nat), .int .u64 (0:Int), .int .i64 (0:Int), .bool false]) 3 (.int .u64 (IntKind.u64.wrap (IntKind.i64.wrap ((1:Int) + t521.1)))) Try.sizeOf27 (Nat.le_of_ble_eq_true rfl) (ones_cons rfl ones_nil) (by kernel_rfl)
    refine wl_unit rfl rfl (x_unit hr527) ?_
    refine wl_nil ?_
    refine blk_n ?_
    refine then_n ?_
    refine wp_seq ?_
    refine wp_region_lit ?_
    refine wl_val (v := .agg #[.int .u8 (IntKind.u8.wrap (IntKind.i64.wrap ((1:Int) + t492.1))), .int .u64 (0:Int), .int .u64 (0:Int), .int .u64 (IntKind.u64.wrap (IntKind.i64.wrap ((1:Int) + t521.1))), .int .u64 (0:Int), .int .i64 (0:Int), .int .u64 (0:Int), .int .u64 (0:Int), .int .u64 (0:Int), (.slice none 0 0), (.slice none 0 0), (.slice none 0 0), (.slice none 0 0), (.slice none 0 0), .int .i64 (0:Int), .int .u64 (0:Int), .int .u64 (0:Int), (.slice none 0 0), (.slice none 0 0), .int .u64 (0:Int), (.slice none 0 0), .int .u64 (0:Int), .int .i64 (0:Int), .int .i64 (0:Int), .float .f64 (0:Nat), .float .f64 (0:Nat), .int .u64 (0:Int), .int .i64 (0:Int), .bool false]) rfl rfl (x_loadN (cs := [.int .u8 (IntKind.u8.wrap (IntKind.i64.wrap ((1:Int) + t492.1))), .int .u64 (0:Int), .int .u64 (0:Int), .int .u64 (IntKind.u64.wrap (IntKind.i64.wrap ((1:Int) + t521.1))), .int .u64 (0:Int), .int .i64 (0:Int), .int .u64 (0:Int), .int .u64 (0:Int), .int .u64 (0:Int), (.slice none 0 0), (.slice none 0 0), (.slice none 0 0), (.slice none 0 0), (.slice none 0 0), .int .i64 (0:Int), .int .u64 (0:Int), .int .u64 (0:Int), (.slice none 0 0), (.slice none 0 0), .int .u64 (0:Int), (.slice none 0 0), .int .u64 (0:Int), .int .i64 (0:Int), .int .i64 (0:Int), .float .f64 (0:Nat), .float .f64 (0:Nat), .int .u64 (0:Int), .int .i64 (0:Int), .bool false]) rfl Try.isAgg45 Try.sizeOf45 (hst.bcs0 0 rfl)) ?_
    replace hst := hst.pull2
    obtain ⟨w528, hr529, hst⟩ := hst.boxStore (P := Try.prog) (t := 45) (cs' := [.int .u8 (IntKind.u8.wrap (IntKind.i64.wrap ((1:Int) + t492.1))), .int .u64 (0:Int), .int .u64 (0:Int), .int .u64 (IntKind.u64.wrap (IntKind.i64.wrap ((1:Int) + t521.1))), .int .u64 (0:Int), .int .i64 (0:Int), .int .u64 (0:Int), .int .u64 (0:Int), .int .u64 (0:Int), (.slice none 0 0), (.slice none 0 0), (.slice none 0 0), (.slice none 0 0), (.slice none 0 0), .int .i64 (0:Int), .int .u64 (0:Int), .int .u64 (0:Int), (.slice none 0 0), (.slice none 0 0), .int .u64 (0:Int), (.slice none 0 0), .int .u64 (0:Int), .int .i64 (0:Int), .int .i64 (0:Int), .float .f64 (0:Nat), .float .f64 (0:Nat), .int .u64 (0:Int), .int .i64 (0:Int), .bool false]) 0 (.agg #[.int .u8 (IntKind.u8.wrap (IntKind.i64.wrap ((1:Int) + t492.1))), .int .u64 (0:Int), .int .u64 (0:Int), .int .u64 (IntKind.u64.wrap (IntKind.i64.wrap ((1:Int) + t521.1))), .int .u64 (0:Int), .int .i64 (0:Int), .int .u64 (0:Int), .int .u64 (0:Int), .int .u64 (0:Int), (.slice none 0 0), (.slice none 0 0), (.slice none 0 0), (.slice none 0 0), (.slice none 0 0), .int .i64 (0:Int), .int .u64 (0:Int), .int .u64 (0:Int), (.slice none 0 0), (.slice none 0 0), .int .u64 (0:Int), (.slice none 0 0), .int .u64 (0:Int), .int .i64 (0:Int), .int .i64 (0:Int), .float .f64 (0:Nat), .float .f64 (0:Nat), .int .u64 (0:Int), .int .i64 (0:Int), .bool false]) Try.sizeOf45 (Nat.le_of_ble_eq_true rfl) (ones_cons rfl (ones_cons rfl (ones_cons rfl (ones_cons rfl (ones_cons rfl (ones_cons rfl (ones_cons rfl (ones_cons rfl (ones_cons rfl (ones_cons rfl (ones_cons rfl (ones_cons rfl (ones_cons rfl (ones_cons rfl (ones_cons rfl (ones_cons rfl (ones_cons rfl (ones_cons rfl (ones_cons rfl (ones_cons rfl (ones_cons rfl (ones_cons rfl (ones_cons rfl (ones_cons rfl (ones_cons rfl (ones_cons rfl (ones_cons rfl (ones_cons rfl (ones_cons rfl ones_nil))))))))))))))))))))))))))))) (by kernel_rfl)
    refine wl_unit rfl rfl (x_unit hr529) ?_
    refine wl_nil ?_
    refine then_n ?_
    refine wp_ret ?_
    replace hst := hst.own_nil tyF64
    replace hst := hst.own_nil tyF2
    replace hst := hst.own_nil tyF64
    replace hst := hst.own_nil (tyInt .u8)
    replace hst := hst.own_nil ty_api_Write
    replace hst := hst.own_nil ty_api_Got
    replace hst := hst.own_nil (tySl ty_api_Pair)
    replace hst := hst.own_nil ty_api_Part
    obtain rfl := some_inj hm
    refine post_ret (vs := [.agg #[.int .u8 (IntKind.u8.wrap (IntKind.i64.wrap ((1:Int) + t492.1))), .int .u64 (0:Int), .int .u64 (0:Int), .int .u64 (IntKind.u64.wrap (IntKind.i64.wrap ((1:Int) + t521.1))), .int .u64 (0:Int), .int .i64 (0:Int), .int .u64 (0:Int), .int .u64 (0:Int), .int .u64 (0:Int), (.slice none 0 0), (.slice none 0 0), (.slice none 0 0), (.slice none 0 0), (.slice none 0 0), .int .i64 (0:Int), .int .u64 (0:Int), .int .u64 (0:Int), (.slice none 0 0), (.slice none 0 0), .int .u64 (0:Int), (.slice none 0 0), .int .u64 (0:Int), .int .i64 (0:Int), .int .i64 (0:Int), .float .f64 (0:Nat), .float .f64 (0:Nat), .int .u64 (0:Int), .int .i64 (0:Int), .bool false]]) Try.results9 (rvs_cons (rv_cell (cs := [.int .u8 (IntKind.u8.wrap (IntKind.i64.wrap ((1:Int) + t492.1))), .int .u64 (0:Int), .int .u64 (0:Int), .int .u64 (IntKind.u64.wrap (IntKind.i64.wrap ((1:Int) + t521.1))), .int .u64 (0:Int), .int .i64 (0:Int), .int .u64 (0:Int), .int .u64 (0:Int), .int .u64 (0:Int), (.slice none 0 0), (.slice none 0 0), (.slice none 0 0), (.slice none 0 0), (.slice none 0 0), .int .i64 (0:Int), .int .u64 (0:Int), .int .u64 (0:Int), (.slice none 0 0), (.slice none 0 0), .int .u64 (0:Int), (.slice none 0 0), .int .u64 (0:Int), .int .i64 (0:Int), .int .i64 (0:Int), .float .f64 (0:Nat), .float .f64 (0:Nat), .int .u64 (0:Int), .int .i64 (0:Int), .bool false]) rfl Try.isAgg45 Try.sizeOf45 (hst.bcs8 0 rfl)) rvs_nil) ?_
    replace hst := hst.pull10
    replace hst := hst.pull1
    replace hst := hst.pull2
    replace hst := hst.pull3
    replace hst := hst.pull4
    replace hst := hst.pull5
    replace hst := hst.pull6
    replace hst := hst.pull7
    replace hst := hst.pull8
    exact ⟨_, (.slice none 0 0), (.slice none 0 0), (.slice none 0 0), (.slice none 0 0), (.slice none 0 0), (.slice none 0 0), (.slice none 0 0), (.slice none 0 0), rfl, hI0, hst.keep9⟩
  · skip
    replace hm := bif_f hc520 hm
    refine wp_iff (congrArg Value.bool hc520) ?_
    refine wp_seq ?_
    refine wp_region_lit ?_
    refine wl_val (v := .bool ((IntKind.u8.wrap (IntKind.i64.wrap ((1:Int) + t492.1))) == (2:Int))) rfl rfl rfl ?_
    refine wl_val (v := .bool ((IntKind.u8.wrap (IntKind.i64.wrap ((1:Int) + t492.1))) == (2:Int))) rfl rfl rfl ?_
    refine wl_nil ?_
    refine then_n ?_
    refine bsplit ((IntKind.u8.wrap (IntKind.i64.wrap ((1:Int) + t492.1))) == (2:Int)) (fun hc530 => ?_) (fun hc530 => ?_)
    · skip
      replace hm := bif_t hc530 hm
      refine wp_ift (congrArg Value.bool hc530) ?_
      refine wp_region_lit ?_
      refine wl_val (v := p0) rfl rfl rfl ?_
      replace hst := hst.pull1
      obtain ⟨t531, ht532, hm⟩ := bind_some hm
      refine wl_call rfl rfl (x_call Try.call23 rfl (vs := [p0]) rfl) ?_
      refine (ref12_Tape_Hold_ref hst.to1 ht532).mono ?_
      rintro _ w533 ⟨v536, v538, v540, v542, rfl, hst⟩
      refine ⟨_, rfl, ?_⟩
      replace hst := hst.of5
      refine wl_val (v := .pointer (some ⟨b513, 6, none⟩)) rfl rfl (x_field rfl Try.underlying45 rfl Try.sizeOf34 rfl) ?_
      replace hst := hst.pull5
      obtain ⟨w544, hr545, hst⟩ := hst.boxStore (P := Try.prog) (t := 34) (cs' := [.int .u8 (IntKind.u8.wrap (IntKind.i64.wrap ((1:Int) + t492.1))), .int .u64 (0:Int), .int .u64 (0:Int), .int .u64 (0:Int), .int .u64 (0:Int), .int .i64 (0:Int), .int .u64 t531.1.ID.Session, .int .u64 t531.1.ID.Seq, .int .u64 t531.1.Epoch, v536, v538, v540, v542, (.slice none 0 0), .int .i64 (0:Int), .int .u64 (0:Int), .int .u64 (0:Int), (.slice none 0 0), (.slice none 0 0), .int .u64 (0:Int), (.slice none 0 0), .int .u64 (0:Int), .int .i64 (0:Int), .int .i64 (0:Int), .float .f64 (0:Nat), .float .f64 (0:Nat), .int .u64 (0:Int), .int .i64 (0:Int), .bool false]) 6 (.agg #[.int .u64 t531.1.ID.Session, .int .u64 t531.1.ID.Seq, .int .u64 t531.1.Epoch, v536, v538, v540, v542]) Try.sizeOf34 (Nat.le_of_ble_eq_true rfl) (ones_cons rfl (ones_cons rfl (ones_cons rfl (ones_cons (one_of_sliceV hst.sv1) (ones_cons (one_of_sliceV hst.sv2) (ones_cons (one_of_sliceV hst.sv3) (ones_cons (one_of_sliceV hst.sv4) ones_nil))))))) (by kernel_rfl)
      refine wl_unit rfl rfl (x_unit hr545) ?_
      refine wl_nil ?_
      refine blk_n ?_
      refine then_n ?_
      refine wp_seq ?_
      refine wp_region_lit ?_
      refine wl_val (v := .agg #[.int .u8 (IntKind.u8.wrap (IntKind.i64.wrap ((1:Int) + t492.1))), .int .u64 (0:Int), .int .u64 (0:Int), .int .u64 (0:Int), .int .u64 (0:Int), .int .i64 (0:Int), .int .u64 t531.1.ID.Session, .int .u64 t531.1.ID.Seq, .int .u64 t531.1.Epoch, v536, v538, v540, v542, (.slice none 0 0), .int .i64 (0:Int), .int .u64 (0:Int), .int .u64 (0:Int), (.slice none 0 0), (.slice none 0 0), .int .u64 (0:Int), (.slice none 0 0), .int .u64 (0:Int), .int .i64 (0:Int), .int .i64 (0:Int), .float .f64 (0:Nat), .float .f64 (0:Nat), .int .u64 (0:Int), .int .i64 (0:Int), .bool false]) rfl rfl (x_loadN (cs := [.int .u8 (IntKind.u8.wrap (IntKind.i64.wrap ((1:Int) + t492.1))), .int .u64 (0:Int), .int .u64 (0:Int), .int .u64 (0:Int), .int .u64 (0:Int), .int .i64 (0:Int), .int .u64 t531.1.ID.Session, .int .u64 t531.1.ID.Seq, .int .u64 t531.1.Epoch, v536, v538, v540, v542, (.slice none 0 0), .int .i64 (0:Int), .int .u64 (0:Int), .int .u64 (0:Int), (.slice none 0 0), (.slice none 0 0), .int .u64 (0:Int), (.slice none 0 0), .int .u64 (0:Int), .int .i64 (0:Int), .int .i64 (0:Int), .float .f64 (0:Nat), .float .f64 (0:Nat), .int .u64 (0:Int), .int .i64 (0:Int), .bool false]) rfl Try.isAgg45 Try.sizeOf45 (hst.bcs0 0 rfl)) ?_
      replace hst := hst.pull6
      obtain ⟨w546, hr547, hst⟩ := hst.boxStore (P := Try.prog) (t := 45) (cs' := [.int .u8 (IntKind.u8.wrap (IntKind.i64.wrap ((1:Int) + t492.1))), .int .u64 (0:Int), .int .u64 (0:Int), .int .u64 (0:Int), .int .u64 (0:Int), .int .i64 (0:Int), .int .u64 t531.1.ID.Session, .int .u64 t531.1.ID.Seq, .int .u64 t531.1.Epoch, v536, v538, v540, v542, (.slice none 0 0), .int .i64 (0:Int), .int .u64 (0:Int), .int .u64 (0:Int), (.slice none 0 0), (.slice none 0 0), .int .u64 (0:Int), (.slice none 0 0), .int .u64 (0:Int), .int .i64 (0:Int), .int .i64 (0:Int), .float .f64 (0:Nat), .float .f64 (0:Nat), .int .u64 (0:Int), .int .i64 (0:Int), .bool false]) 0 (.agg #[.int .u8 (IntKind.u8.wrap (IntKind.i64.wrap ((1:Int) + t492.1))), .int .u64 (0:Int), .int .u64 (0:Int), .int .u64 (0:Int), .int .u64 (0:Int), .int .i64 (0:Int), .int .u64 t531.1.ID.Session, .int .u64 t531.1.ID.Seq, .int .u64 t531.1.Epoch, v536, v538, v540, v542, (.slice none 0 0), .int .i64 (0:Int), .int .u64 (0:Int), .int .u64 (0:Int), (.slice none 0 0), (.slice none 0 0), .int .u64 (0:Int), (.slice none 0 0), .int .u64 (0:Int), .int .i64 (0:Int), .int .i64 (0:Int), .float .f64 (0:Nat), .float .f64 (0:Nat), .int .u64 (0:Int), .int .i64 (0:Int), .bool false]) Try.sizeOf45 (Nat.le_of_ble_eq_true rfl) (ones_cons rfl (ones_cons rfl (ones_cons rfl (ones_cons rfl (ones_cons rfl (ones_cons rfl (ones_cons rfl (ones_cons rfl (ones_cons rfl (ones_cons (one_of_sliceV hst.sv2) (ones_cons (one_of_sliceV hst.sv3) (ones_cons (one_of_sliceV hst.sv4) (ones_cons (one_of_sliceV hst.sv5) (ones_cons rfl (ones_cons rfl (ones_cons rfl (ones_cons rfl (ones_cons rfl (ones_cons rfl (ones_cons rfl (ones_cons rfl (ones_cons rfl (ones_cons rfl (ones_cons rfl (ones_cons rfl (ones_cons rfl (ones_cons rfl (ones_cons rfl (ones_cons rfl ones_nil))))))))))))))))))))))))))))) (by kernel_rfl)
      refine wl_unit rfl rfl (x_unit hr547) ?_
      refine wl_nil ?_
      refine then_n ?_
      refine wp_ret ?_
      replace hst := hst.own_nil ty_api_Write
      replace hst := hst.own_nil ty_api_Got
      replace hst := hst.own_nil (tySl ty_api_Pair)
      replace hst := hst.own_nil ty_api_Part
      obtain rfl := some_inj hm
      refine post_ret (vs := [.agg #[.int .u8 (IntKind.u8.wrap (IntKind.i64.wrap ((1:Int) + t492.1))), .int .u64 (0:Int), .int .u64 (0:Int), .int .u64 (0:Int), .int .u64 (0:Int), .int .i64 (0:Int), .int .u64 t531.1.ID.Session, .int .u64 t531.1.ID.Seq, .int .u64 t531.1.Epoch, v536, v538, v540, v542, (.slice none 0 0), .int .i64 (0:Int), .int .u64 (0:Int), .int .u64 (0:Int), (.slice none 0 0), (.slice none 0 0), .int .u64 (0:Int), (.slice none 0 0), .int .u64 (0:Int), .int .i64 (0:Int), .int .i64 (0:Int), .float .f64 (0:Nat), .float .f64 (0:Nat), .int .u64 (0:Int), .int .i64 (0:Int), .bool false]]) Try.results9 (rvs_cons (rv_cell (cs := [.int .u8 (IntKind.u8.wrap (IntKind.i64.wrap ((1:Int) + t492.1))), .int .u64 (0:Int), .int .u64 (0:Int), .int .u64 (0:Int), .int .u64 (0:Int), .int .i64 (0:Int), .int .u64 t531.1.ID.Session, .int .u64 t531.1.ID.Seq, .int .u64 t531.1.Epoch, v536, v538, v540, v542, (.slice none 0 0), .int .i64 (0:Int), .int .u64 (0:Int), .int .u64 (0:Int), (.slice none 0 0), (.slice none 0 0), .int .u64 (0:Int), (.slice none 0 0), .int .u64 (0:Int), .int .i64 (0:Int), .int .i64 (0:Int), .float .f64 (0:Nat), .float .f64 (0:Nat), .int .u64 (0:Int), .int .i64 (0:Int), .bool false]) rfl Try.isAgg45 Try.sizeOf45 (hst.bcs4 0 rfl)) rvs_nil) ?_
      replace hst := hst.pull10
      replace hst := hst.pull1
      replace hst := hst.pull2
      replace hst := hst.pull3
      replace hst := hst.pull4
      replace hst := hst.pull10
      replace hst := hst.pull10
      replace hst := hst.pull10
      replace hst := hst.pull10
      exact ⟨_, v536, v538, v540, v542, (.slice none 0 0), (.slice none 0 0), (.slice none 0 0), (.slice none 0 0), rfl, hI0, hst.keep9⟩
    · skip
      replace hm := bif_f hc530 hm
      refine wp_iff (congrArg Value.bool hc530) ?_
      refine wp_seq ?_
      refine wp_region_lit ?_
      refine wl_val (v := .bool ((IntKind.u8.wrap (IntKind.i64.wrap ((1:Int) + t492.1))) == (3:Int))) rfl rfl rfl ?_
      refine wl_val (v := .bool ((IntKind.u8.wrap (IntKind.i64.wrap ((1:Int) + t492.1))) == (3:Int))) rfl rfl rfl ?_
      refine wl_nil ?_
      refine then_n ?_
      refine bsplit ((IntKind.u8.wrap (IntKind.i64.wrap ((1:Int) + t492.1))) == (3:Int)) (fun hc548 => ?_) (fun hc548 => ?_)
      · skip
        replace hm := bif_t hc548 hm
        refine wp_ift (congrArg Value.bool hc548) ?_
        refine wp_seq ?_
        refine wp_region_lit ?_
        refine wl_val (v := p0) rfl rfl rfl ?_
        replace hst := hst.pull1
        obtain ⟨t549, ht550, hm⟩ := bind_some hm
        refine wl_call rfl rfl (x_call Try.call24 rfl (vs := [p0]) rfl) ?_
        refine (ref12_Tape_Of_ref hst.to1 ht550).mono ?_
        rintro _ w551 ⟨rfl, hst⟩
        refine ⟨_, rfl, ?_⟩
        replace hst := hst.of1
        refine wl_val (v := .pointer (some ⟨b513, 1, none⟩)) rfl rfl (x_field rfl Try.underlying45 rfl Try.sizeOf29 rfl) ?_
        replace hst := hst.pull1
        obtain ⟨w554, hr555, hst⟩ := hst.boxStore (P := Try.prog) (t := 29) (cs' := [.int .u8 (IntKind.u8.wrap (IntKind.i64.wrap ((1:Int) + t492.1))), .int .u64 t549.1.Session, .int .u64 t549.1.Seq, .int .u64 (0:Int), .int .u64 (0:Int), .int .i64 (0:Int), .int .u64 (0:Int), .int .u64 (0:Int), .int .u64 (0:Int), (.slice none 0 0), (.slice none 0 0), (.slice none 0 0), (.slice none 0 0), (.slice none 0 0), .int .i64 (0:Int), .int .u64 (0:Int), .int .u64 (0:Int), (.slice none 0 0), (.slice none 0 0), .int .u64 (0:Int), (.slice none 0 0), .int .u64 (0:Int), .int .i64 (0:Int), .int .i64 (0:Int), .float .f64 (0:Nat), .float .f64 (0:Nat), .int .u64 (0:Int), .int .i64 (0:Int), .bool false]) 1 (.agg #[.int .u64 t549.1.Session, .int .u64 t549.1.Seq]) Try.sizeOf29 (Nat.le_of_ble_eq_true rfl) (ones_cons rfl (ones_cons rfl ones_nil)) (by kernel_rfl)
        refine wl_unit rfl rfl (x_unit hr555) ?_
        refine wl_nil ?_
        refine then_n ?_
        refine wp_seq ?_
        refine wp_region_lit ?_
        obtain ⟨b556, w557, ew558, eb559, hst⟩ := hst.lits (E := (tyInt .i64)) (xs := [(0:Int), (0:Int), (8:Int)]) [[.int .i64 (0:Int)], [.int .i64 (0:Int)], [.int .i64 (8:Int)]] 30 3 rfl (Reps.cons rfl (Reps.cons rfl (Reps.cons rfl Reps.nil)))
        refine wl_run (v := (.slice (some ⟨b556, 0, none⟩) 3 3)) (w' := w557) rfl rfl (x_als (by kernel_rfl) ew558 eb559) ?_
        refine wl_val (v := p0) rfl rfl rfl ?_
        replace hst := hst.pull2
        obtain ⟨t561, ht562, hm⟩ := bind_some hm
        refine wl_call rfl rfl (x_call Try.call22 rfl (vs := [p0, .int .i64 (3:Int)]) rfl) ?_
        refine (ref12_Tape_Next_ref hst.to1 ht562).mono ?_
        rintro _ w563 ⟨rfl, hst⟩
        refine ⟨_, rfl, ?_⟩
        replace hst := hst.of1
        obtain ⟨x566, hx567, hm⟩ := bind_some hm
        obtain ⟨h568, h569, hi570⟩ := geto_some hx567
        refine wl_val (v := .pointer (some (eAddr (.slice (some ⟨b556, 0, none⟩) 3 3) (t561.1.toNat * 1 + 0)))) rfl rfl (x_index rfl rfl Try.underlying78 Try.sizeOf30 hst.sv1 h568 h569) ?_
        refine wl_val (v := .int .i64 x566) rfl rfl (x_load rfl Try.isAgg30 (hst.ol1 hi570 (by rintro _ rfl; rfl))) ?_
        refine wl_val (v := .pointer (some ⟨b513, 5, none⟩)) rfl rfl (x_field rfl Try.underlying45 rfl Try.sizeOf30 rfl) ?_
        replace hst := hst.pull2
        obtain ⟨w571, hr572, hst⟩ := hst.boxStore (P := Try.prog) (t := 30) (cs' := [.int .u8 (IntKind.u8.wrap (IntKind.i64.wrap ((1:Int) + t492.1))), .int .u64 t549.1.Session, .int .u64 t549.1.Seq, .int .u64 (0:Int), .int .u64 (0:Int), .int .i64 x566, .int .u64 (0:Int), .int .u64 (0:Int), .int .u64 (0:Int), (.slice none 0 0), (.slice none 0 0), (.slice none 0 0), (.slice none 0 0), (.slice none 0 0), .int .i64 (0:Int), .int .u64 (0:Int), .int .u64 (0:Int), (.slice none 0 0), (.slice none 0 0), .int .u64 (0:Int), (.slice none 0 0), .int .u64 (0:Int), .int .i64 (0:Int), .int .i64 (0:Int), .float .f64 (0:Nat), .float .f64 (0:Nat), .int .u64 (0:Int), .int .i64 (0:Int), .bool false]) 5 (.int .i64 x566) Try.sizeOf30 (Nat.le_of_ble_eq_true rfl) (ones_cons rfl ones_nil) (by kernel_rfl)
        refine wl_unit rfl rfl (x_unit hr572) ?_
        refine wl_nil ?_
        refine then_n ?_
        refine wp_seq ?_
        refine wp_region_lit ?_
        refine wl_val (v := p0) rfl rfl rfl ?_
        replace hst := hst.pull1
        obtain ⟨t573, ht574, hm⟩ := bind_some hm
        refine wl_call rfl rfl (x_call Try.call22 rfl (vs := [p0, .int .i64 (4:Int)]) rfl) ?_
        refine (ref12_Tape_Next_ref hst.to1 ht574).mono ?_
        rintro _ w575 ⟨rfl, hst⟩
        refine ⟨_, rfl, ?_⟩
        replace hst := hst.of1
        refine wl_val (v := .int .i64 (IntKind.i64.wrap ((1:Int) + t573.1))) rfl rfl rfl ?_
        refine wl_val (v := .int .u64 (IntKind.u64.wrap (IntKind.i64.wrap ((1:Int) + t573.1)))) rfl rfl (by kernel_rfl) ?_
        refine wl_val (v := .pointer (some ⟨b513, 3, none⟩)) rfl rfl (x_field rfl Try.underlying45 rfl Try.sizeOf27 rfl) ?_
        replace hst := hst.pull1
        obtain ⟨w578, hr579, hst⟩ := hst.boxStore (P := Try.prog) (t := 27) (cs' := [.int .u8 (IntKind.u8.wrap (IntKind.i64.wrap ((1:Int) + t492.1))), .int .u64 t549.1.Session, .int .u64 t549.1.Seq, .int .u64 (IntKind.u64.wrap (IntKind.i64.wrap ((1:Int) + t573.1))), .int .u64 (0:Int), .int .i64 x566, .int .u64 (0:Int), .int .u64 (0:Int), .int .u64 (0:Int), (.slice none 0 0), (.slice none 0 0), (.slice none 0 0), (.slice none 0 0), (.slice none 0 0), .int .i64 (0:Int), .int .u64 (0:Int), .int .u64 (0:Int), (.slice none 0 0), (.slice none 0 0), .int .u64 (0:Int), (.slice none 0 0), .int .u64 (0:Int), .int .i64 (0:Int), .int .i64 (0:Int), .float .f64 (0:Nat), .float .f64 (0:Nat), .int .u64 (0:Int), .int .i64 (0:Int), .bool false]) 3 (.int .u64 (IntKind.u64.wrap (IntKind.i64.wrap ((1:Int) + t573.1)))) Try.sizeOf27 (Nat.le_of_ble_eq_true rfl) (ones_cons rfl ones_nil) (by kernel_rfl)
        refine wl_unit rfl rfl (x_unit hr579) ?_
        refine wl_nil ?_
        refine then_n ?_
        refine wp_seq ?_
        refine wp_region_lit ?_
        refine wl_val (v := p0) rfl rfl rfl ?_
        replace hst := hst.pull1
        obtain ⟨t580, ht581, hm⟩ := bind_some hm
        refine wl_call rfl rfl (x_call Try.call22 rfl (vs := [p0, .int .i64 (20:Int)]) rfl) ?_
        refine (ref12_Tape_Next_ref hst.to1 ht581).mono ?_
        rintro _ w582 ⟨rfl, hst⟩
        refine ⟨_, rfl, ?_⟩
        replace hst := hst.of1
        refine wl_val (v := .int .u64 (IntKind.u64.wrap t580.1)) rfl rfl (by kernel_rfl) ?_
        refine wl_val (v := .pointer (some ⟨b513, 4, none⟩)) rfl rfl (x_field rfl Try.underlying45 rfl Try.sizeOf27 rfl) ?_
        replace hst := hst.pull1
        obtain ⟨w585, hr586, hst⟩ := hst.boxStore (P := Try.prog) (t := 27) (cs' := [.int .u8 (IntKind.u8.wrap (IntKind.i64.wrap ((1:Int) + t492.1))), .int .u64 t549.1.Session, .int .u64 t549.1.Seq, .int .u64 (IntKind.u64.wrap (IntKind.i64.wrap ((1:Int) + t573.1))), .int .u64 (IntKind.u64.wrap t580.1), .int .i64 x566, .int .u64 (0:Int), .int .u64 (0:Int), .int .u64 (0:Int), (.slice none 0 0), (.slice none 0 0), (.slice none 0 0), (.slice none 0 0), (.slice none 0 0), .int .i64 (0:Int), .int .u64 (0:Int), .int .u64 (0:Int), (.slice none 0 0), (.slice none 0 0), .int .u64 (0:Int), (.slice none 0 0), .int .u64 (0:Int), .int .i64 (0:Int), .int .i64 (0:Int), .float .f64 (0:Nat), .float .f64 (0:Nat), .int .u64 (0:Int), .int .i64 (0:Int), .bool false]) 4 (.int .u64 (IntKind.u64.wrap t580.1)) Try.sizeOf27 (Nat.le_of_ble_eq_true rfl) (ones_cons rfl ones_nil) (by kernel_rfl)
        refine wl_unit rfl rfl (x_unit hr586) ?_
        refine wl_nil ?_
        refine then_n ?_
        refine wp_region_lit ?_
        refine wl_val (v := p0) rfl rfl rfl ?_
        replace hst := hst.pull1
        obtain ⟨t587, ht588, hm⟩ := bind_some hm
        refine wl_call rfl rfl (x_call Try.call25 rfl (vs := [p0]) rfl) ?_
        refine (ref13_OfWrites_ref hst.to1 ht588).mono ?_
        rintro _ w589 ⟨I590, v592, rfl, hI591, hst⟩
        refine ⟨_, rfl, ?_⟩
        replace hst := hst.of2
        replace hI0 := hI0.trans hI591
        refine wl_val (v := .pointer (some ⟨b513, 13, none⟩)) rfl rfl (x_field rfl Try.underlying45 rfl Try.sizeOf35 rfl) ?_
        replace hst := hst.pull2
        obtain ⟨w594, hr595, hst⟩ := hst.boxStore1 (P := Try.prog) (t := 35) (cs' := [.int .u8 (IntKind.u8.wrap (IntKind.i64.wrap ((1:Int) + t492.1))), .int .u64 t549.1.Session, .int .u64 t549.1.Seq, .int .u64 (IntKind.u64.wrap (IntKind.i64.wrap ((1:Int) + t573.1))), .int .u64 (IntKind.u64.wrap t580.1), .int .i64 x566, .int .u64 (0:Int), .int .u64 (0:Int), .int .u64 (0:Int), (.slice none 0 0), (.slice none 0 0), (.slice none 0 0), (.slice none 0 0), v592, .int .i64 (0:Int), .int .u64 (0:Int), .int .u64 (0:Int), (.slice none 0 0), (.slice none 0 0), .int .u64 (0:Int), (.slice none 0 0), .int .u64 (0:Int), .int .i64 (0:Int), .int .i64 (0:Int), .float .f64 (0:Nat), .float .f64 (0:Nat), .int .u64 (0:Int), .int .i64 (0:Int), .bool false]) 13 v592 (one_of_sliceV hst.sv1) Try.sizeOf35 rfl rfl
        refine wl_unit rfl rfl (x_unit hr595) ?_
        refine wl_nil ?_
        refine blk_n ?_
        refine then_n ?_
        refine wp_seq ?_
        refine wp_region_lit ?_
        refine wl_val (v := .agg #[.int .u8 (IntKind.u8.wrap (IntKind.i64.wrap ((1:Int) + t492.1))), .int .u64 t549.1.Session, .int .u64 t549.1.Seq, .int .u64 (IntKind.u64.wrap (IntKind.i64.wrap ((1:Int) + t573.1))), .int .u64 (IntKind.u64.wrap t580.1), .int .i64 x566, .int .u64 (0:Int), .int .u64 (0:Int), .int .u64 (0:Int), (.slice none 0 0), (.slice none 0 0), (.slice none 0 0), (.slice none 0 0), v592, .int .i64 (0:Int), .int .u64 (0:Int), .int .u64 (0:Int), (.slice none 0 0), (.slice none 0 0), .int .u64 (0:Int), (.slice none 0 0), .int .u64 (0:Int), .int .i64 (0:Int), .int .i64 (0:Int), .float .f64 (0:Nat), .float .f64 (0:Nat), .int .u64 (0:Int), .int .i64 (0:Int), .bool false]) rfl rfl (x_loadN (cs := [.int .u8 (IntKind.u8.wrap (IntKind.i64.wrap ((1:Int) + t492.1))), .int .u64 t549.1.Session, .int .u64 t549.1.Seq, .int .u64 (IntKind.u64.wrap (IntKind.i64.wrap ((1:Int) + t573.1))), .int .u64 (IntKind.u64.wrap t580.1), .int .i64 x566, .int .u64 (0:Int), .int .u64 (0:Int), .int .u64 (0:Int), (.slice none 0 0), (.slice none 0 0), (.slice none 0 0), (.slice none 0 0), v592, .int .i64 (0:Int), .int .u64 (0:Int), .int .u64 (0:Int), (.slice none 0 0), (.slice none 0 0), .int .u64 (0:Int), (.slice none 0 0), .int .u64 (0:Int), .int .i64 (0:Int), .int .i64 (0:Int), .float .f64 (0:Nat), .float .f64 (0:Nat), .int .u64 (0:Int), .int .i64 (0:Int), .bool false]) rfl Try.isAgg45 Try.sizeOf45 (hst.bcs0 0 rfl)) ?_
        replace hst := hst.pull4
        obtain ⟨w596, hr597, hst⟩ := hst.boxStore (P := Try.prog) (t := 45) (cs' := [.int .u8 (IntKind.u8.wrap (IntKind.i64.wrap ((1:Int) + t492.1))), .int .u64 t549.1.Session, .int .u64 t549.1.Seq, .int .u64 (IntKind.u64.wrap (IntKind.i64.wrap ((1:Int) + t573.1))), .int .u64 (IntKind.u64.wrap t580.1), .int .i64 x566, .int .u64 (0:Int), .int .u64 (0:Int), .int .u64 (0:Int), (.slice none 0 0), (.slice none 0 0), (.slice none 0 0), (.slice none 0 0), v592, .int .i64 (0:Int), .int .u64 (0:Int), .int .u64 (0:Int), (.slice none 0 0), (.slice none 0 0), .int .u64 (0:Int), (.slice none 0 0), .int .u64 (0:Int), .int .i64 (0:Int), .int .i64 (0:Int), .float .f64 (0:Nat), .float .f64 (0:Nat), .int .u64 (0:Int), .int .i64 (0:Int), .bool false]) 0 (.agg #[.int .u8 (IntKind.u8.wrap (IntKind.i64.wrap ((1:Int) + t492.1))), .int .u64 t549.1.Session, .int .u64 t549.1.Seq, .int .u64 (IntKind.u64.wrap (IntKind.i64.wrap ((1:Int) + t573.1))), .int .u64 (IntKind.u64.wrap t580.1), .int .i64 x566, .int .u64 (0:Int), .int .u64 (0:Int), .int .u64 (0:Int), (.slice none 0 0), (.slice none 0 0), (.slice none 0 0), (.slice none 0 0), v592, .int .i64 (0:Int), .int .u64 (0:Int), .int .u64 (0:Int), (.slice none 0 0), (.slice none 0 0), .int .u64 (0:Int), (.slice none 0 0), .int .u64 (0:Int), .int .i64 (0:Int), .int .i64 (0:Int), .float .f64 (0:Nat), .float .f64 (0:Nat), .int .u64 (0:Int), .int .i64 (0:Int), .bool false]) Try.sizeOf45 (Nat.le_of_ble_eq_true rfl) (ones_cons rfl (ones_cons rfl (ones_cons rfl (ones_cons rfl (ones_cons rfl (ones_cons rfl (ones_cons rfl (ones_cons rfl (ones_cons rfl (ones_cons rfl (ones_cons rfl (ones_cons rfl (ones_cons rfl (ones_cons (one_of_sliceV hst.sv2) (ones_cons rfl (ones_cons rfl (ones_cons rfl (ones_cons rfl (ones_cons rfl (ones_cons rfl (ones_cons rfl (ones_cons rfl (ones_cons rfl (ones_cons rfl (ones_cons rfl (ones_cons rfl (ones_cons rfl (ones_cons rfl (ones_cons rfl ones_nil))))))))))))))))))))))))))))) (by kernel_rfl)
        refine wl_unit rfl rfl (x_unit hr597) ?_
        refine wl_nil ?_
        refine then_n ?_
        refine wp_ret ?_
        replace hst := hst.own_nil tyF64
        replace hst := hst.own_nil tyF2
        replace hst := hst.own_nil tyF64
        replace hst := hst.own_nil (tyInt .u8)
        replace hst := hst.own_nil ty_api_Got
        replace hst := hst.own_nil (tySl ty_api_Pair)
        replace hst := hst.own_nil ty_api_Part
        obtain rfl := some_inj hm
        refine post_ret (vs := [.agg #[.int .u8 (IntKind.u8.wrap (IntKind.i64.wrap ((1:Int) + t492.1))), .int .u64 t549.1.Session, .int .u64 t549.1.Seq, .int .u64 (IntKind.u64.wrap (IntKind.i64.wrap ((1:Int) + t573.1))), .int .u64 (IntKind.u64.wrap t580.1), .int .i64 x566, .int .u64 (0:Int), .int .u64 (0:Int), .int .u64 (0:Int), (.slice none 0 0), (.slice none 0 0), (.slice none 0 0), (.slice none 0 0), v592, .int .i64 (0:Int), .int .u64 (0:Int), .int .u64 (0:Int), (.slice none 0 0), (.slice none 0 0), .int .u64 (0:Int), (.slice none 0 0), .int .u64 (0:Int), .int .i64 (0:Int), .int .i64 (0:Int), .float .f64 (0:Nat), .float .f64 (0:Nat), .int .u64 (0:Int), .int .i64 (0:Int), .bool false]]) Try.results9 (rvs_cons (rv_cell (cs := [.int .u8 (IntKind.u8.wrap (IntKind.i64.wrap ((1:Int) + t492.1))), .int .u64 t549.1.Session, .int .u64 t549.1.Seq, .int .u64 (IntKind.u64.wrap (IntKind.i64.wrap ((1:Int) + t573.1))), .int .u64 (IntKind.u64.wrap t580.1), .int .i64 x566, .int .u64 (0:Int), .int .u64 (0:Int), .int .u64 (0:Int), (.slice none 0 0), (.slice none 0 0), (.slice none 0 0), (.slice none 0 0), v592, .int .i64 (0:Int), .int .u64 (0:Int), .int .u64 (0:Int), (.slice none 0 0), (.slice none 0 0), .int .u64 (0:Int), (.slice none 0 0), .int .u64 (0:Int), .int .i64 (0:Int), .int .i64 (0:Int), .float .f64 (0:Nat), .float .f64 (0:Nat), .int .u64 (0:Int), .int .i64 (0:Int), .bool false]) rfl Try.isAgg45 Try.sizeOf45 (hst.bcs7 0 rfl)) rvs_nil) ?_
        replace hst := hst.pull10
        replace hst := hst.pull1
        replace hst := hst.pull2
        replace hst := hst.pull3
        replace hst := hst.pull10
        replace hst := hst.pull5
        replace hst := hst.pull6
        replace hst := hst.pull7
        replace hst := hst.pull8
        exact ⟨_, (.slice none 0 0), (.slice none 0 0), (.slice none 0 0), (.slice none 0 0), v592, (.slice none 0 0), (.slice none 0 0), (.slice none 0 0), rfl, hI0, hst.keep9⟩
      · skip
        replace hm := bif_f hc548 hm
        refine wp_iff (congrArg Value.bool hc548) ?_
        refine wp_seq ?_
        refine wp_region_lit ?_
        refine wl_val (v := .bool ((IntKind.u8.wrap (IntKind.i64.wrap ((1:Int) + t492.1))) == (4:Int))) rfl rfl rfl ?_
        refine wl_val (v := .bool ((IntKind.u8.wrap (IntKind.i64.wrap ((1:Int) + t492.1))) == (4:Int))) rfl rfl rfl ?_
        refine wl_nil ?_
        refine then_n ?_
        refine bsplit ((IntKind.u8.wrap (IntKind.i64.wrap ((1:Int) + t492.1))) == (4:Int)) (fun hc598 => ?_) (fun hc598 => ?_)
        · skip
          replace hm := bif_t hc598 hm
          refine wp_ift (congrArg Value.bool hc598) ?_
          refine wp_seq ?_
          refine wp_region_lit ?_
          refine wl_val (v := p0) rfl rfl rfl ?_
          replace hst := hst.pull1
          obtain ⟨t599, ht600, hm⟩ := bind_some hm
          refine wl_call rfl rfl (x_call Try.call24 rfl (vs := [p0]) rfl) ?_
          refine (ref12_Tape_Of_ref hst.to1 ht600).mono ?_
          rintro _ w601 ⟨rfl, hst⟩
          refine ⟨_, rfl, ?_⟩
          replace hst := hst.of1
          refine wl_val (v := .pointer (some ⟨b513, 1, none⟩)) rfl rfl (x_field rfl Try.underlying45 rfl Try.sizeOf29 rfl) ?_
          replace hst := hst.pull1
          obtain ⟨w604, hr605, hst⟩ := hst.boxStore (P := Try.prog) (t := 29) (cs' := [.int .u8 (IntKind.u8.wrap (IntKind.i64.wrap ((1:Int) + t492.1))), .int .u64 t599.1.Session, .int .u64 t599.1.Seq, .int .u64 (0:Int), .int .u64 (0:Int), .int .i64 (0:Int), .int .u64 (0:Int), .int .u64 (0:Int), .int .u64 (0:Int), (.slice none 0 0), (.slice none 0 0), (.slice none 0 0), (.slice none 0 0), (.slice none 0 0), .int .i64 (0:Int), .int .u64 (0:Int), .int .u64 (0:Int), (.slice none 0 0), (.slice none 0 0), .int .u64 (0:Int), (.slice none 0 0), .int .u64 (0:Int), .int .i64 (0:Int), .int .i64 (0:Int), .float .f64 (0:Nat), .float .f64 (0:Nat), .int .u64 (0:Int), .int .i64 (0:Int), .bool false]) 1 (.agg #[.int .u64 t599.1.Session, .int .u64 t599.1.Seq]) Try.sizeOf29 (Nat.le_of_ble_eq_true rfl) (ones_cons rfl (ones_cons rfl ones_nil)) (by kernel_rfl)
          refine wl_unit rfl rfl (x_unit hr605) ?_
          refine wl_nil ?_
          refine then_n ?_
          obtain ⟨y618, hm, hx619⟩ := bind_some hm
          refine wp_cut (fun a w => ∃ (z614 : ref12_Tape) (z615 : Int) (σ616 : Nat → Value), (ref13_OfCommand_j0 t492 t599) (z614, z615) = some r ∧ a = Fr 124 (upd (upd (upd σ616 0 (p0)) 2 (.pointer (some ⟨b487, 0, none⟩))) 3 (.pointer (some ⟨b513, 0, none⟩))) ∧ St w0 w I [at_ref12_Tape p0 z614, cells b487 [.int .u8 (0:Int), .int .u64 (0:Int), .int .u64 (0:Int), .int .u64 (0:Int), .int .u64 (0:Int), .int .i64 (0:Int), .int .u64 (0:Int), .int .u64 (0:Int), .int .u64 (0:Int), (.slice none 0 0), (.slice none 0 0), (.slice none 0 0), (.slice none 0 0), (.slice none 0 0), .int .i64 (0:Int), .int .u64 (0:Int), .int .u64 (0:Int), (.slice none 0 0), (.slice none 0 0), .int .u64 (0:Int), (.slice none 0 0), .int .u64 (0:Int), .int .i64 (0:Int), .int .i64 (0:Int), .float .f64 (0:Nat), .float .f64 (0:Nat), .int .u64 (0:Int), .int .i64 (0:Int), .bool false], cells b513 [.int .u8 (IntKind.u8.wrap (IntKind.i64.wrap ((1:Int) + t492.1))), .int .u64 z615, .int .u64 t599.1.Seq, .int .u64 (0:Int), .int .u64 (0:Int), .int .i64 (0:Int), .int .u64 (0:Int), .int .u64 (0:Int), .int .u64 (0:Int), (.slice none 0 0), (.slice none 0 0), (.slice none 0 0), (.slice none 0 0), (.slice none 0 0), .int .i64 (0:Int), .int .u64 (0:Int), .int .u64 (0:Int), (.slice none 0 0), (.slice none 0 0), .int .u64 (0:Int), (.slice none 0 0), .int .u64 (0:Int), .int .i64 (0:Int), .int .i64 (0:Int), .float .f64 (0:Nat), .float .f64 (0:Nat), .int .u64 (0:Int), .int .i64 (0:Int), .bool false]] R) ?_ ?_
          · skip
            refine wp_seq ?_
            refine wp_region_lit ?_
            refine wl_val (v := p0) rfl rfl rfl ?_
            replace hst := hst.pull1
            obtain ⟨t606, ht607, hm⟩ := bind_some hm
            refine wl_call rfl rfl (x_call Try.call22 rfl (vs := [p0, .int .i64 (6:Int)]) rfl) ?_
            refine (ref12_Tape_Next_ref hst.to1 ht607).mono ?_
            rintro _ w608 ⟨rfl, hst⟩
            refine ⟨_, rfl, ?_⟩
            replace hst := hst.of1
            refine wl_val (v := .bool (t606.1 == (0:Int))) rfl rfl rfl ?_
            refine wl_nil ?_
            refine then_n ?_
            refine bsplit (t606.1 == (0:Int)) (fun hc611 => ?_) (fun hc611 => ?_)
            · skip
              replace hm := bif_t hc611 hm
              refine wp_ift (congrArg Value.bool hc611) ?_
              refine wp_region_lit ?_
              refine wl_val (v := .pointer (some ⟨b513, 1, none⟩)) rfl rfl (x_field rfl Try.underlying45 rfl Try.sizeOf29 rfl) ?_
              refine wl_val (v := .pointer (some ⟨b513, 1, none⟩)) rfl rfl (x_field rfl Try.underlying29 rfl Try.sizeOf27 rfl) ?_
              refine wl_val (v := .int .u64 t599.1.Session) rfl rfl (x_load rfl Try.isAgg27 (hst.bc1 rfl)) ?_
              refine wl_val (v := .int .u64 (IntKind.u64.wrap (t599.1.Session + (9223372036854775808:Int)))) rfl rfl rfl ?_
              refine wl_val (v := .pointer (some ⟨b513, 1, none⟩)) rfl rfl (x_field rfl Try.underlying45 rfl Try.sizeOf29 rfl) ?_
              refine wl_val (v := .pointer (some ⟨b513, 1, none⟩)) rfl rfl (x_field rfl Try.underlying29 rfl Try.sizeOf27 rfl) ?_
              replace hst := hst.pull1
              obtain ⟨w612, hr613, hst⟩ := hst.boxStore (P := Try.prog) (t := 27) (cs' := [.int .u8 (IntKind.u8.wrap (IntKind.i64.wrap ((1:Int) + t492.1))), .int .u64 (IntKind.u64.wrap (t599.1.Session + (9223372036854775808:Int))), .int .u64 t599.1.Seq, .int .u64 (0:Int), .int .u64 (0:Int), .int .i64 (0:Int), .int .u64 (0:Int), .int .u64 (0:Int), .int .u64 (0:Int), (.slice none 0 0), (.slice none 0 0), (.slice none 0 0), (.slice none 0 0), (.slice none 0 0), .int .i64 (0:Int), .int .u64 (0:Int), .int .u64 (0:Int), (.slice none 0 0), (.slice none 0 0), .int .u64 (0:Int), (.slice none 0 0), .int .u64 (0:Int), .int .i64 (0:Int), .int .i64 (0:Int), .float .f64 (0:Nat), .float .f64 (0:Nat), .int .u64 (0:Int), .int .i64 (0:Int), .bool false]) 1 (.int .u64 (IntKind.u64.wrap (t599.1.Session + (9223372036854775808:Int)))) Try.sizeOf27 (Nat.le_of_ble_eq_true rfl) (ones_cons rfl ones_nil) (by kernel_rfl)
              refine wl_unit rfl rfl (x_unit hr613) ?_
              refine wl_nil ?_
              refine then_n ?_
              replace hst := hst.pull2
              replace hst := hst.pull2
              replace hst := hst.keep3
              obtain rfl := some_inj hm
              exact ⟨t606.2, (IntKind.u64.wrap (t599.1.Session + (9223372036854775808:Int))), _, hx619, ((fr_upd (t := 0) (v := p0) rfl).trans ((fr_upd (t := 2) (v := .pointer (some ⟨b487, 0, none⟩)) rfl).trans ((fr_upd (t := 3) (v := .pointer (some ⟨b513, 0, none⟩)) rfl).trans rfl))), hst⟩
            · skip
              replace hm := bif_f hc611 hm
              refine wp_iff (congrArg Value.bool hc611) ?_
              refine wp_skip ?_
              refine then_n ?_
              replace hst := hst.pull1
              replace hst := hst.pull2
              replace hst := hst.pull2
              replace hst := hst.keep3
              obtain rfl := some_inj hm
              exact ⟨t606.2, t599.1.Session, _, hx619, ((fr_upd (t := 0) (v := p0) rfl).trans ((fr_upd (t := 2) (v := .pointer (some ⟨b487, 0, none⟩)) rfl).trans ((fr_upd (t := 3) (v := .pointer (some ⟨b513, 0, none⟩)) rfl).trans rfl))), hst⟩
          · skip
            clear hst
            rintro _ w620 ⟨z614, z615, σ616, hm, rfl, hst⟩
            dsimp only [ref13_OfCommand_j0] at hm
            refine wp_seq ?_
            refine wp_region_lit ?_
            refine wl_val (v := p0) rfl rfl rfl ?_
            obtain ⟨t621, ht622, hm⟩ := bind_some hm
            refine wl_call rfl rfl (x_call Try.call22 rfl (vs := [p0, .int .i64 (4:Int)]) rfl) ?_
            refine (ref12_Tape_Next_ref hst.to1 ht622).mono ?_
            rintro _ w623 ⟨rfl, hst⟩
            refine ⟨_, rfl, ?_⟩
            replace hst := hst.of1
            refine wl_val (v := .int .i64 (IntKind.i64.wrap ((1:Int) + t621.1))) rfl rfl rfl ?_
            refine wl_val (v := .int .u64 (IntKind.u64.wrap (IntKind.i64.wrap ((1:Int) + t621.1)))) rfl rfl (by kernel_rfl) ?_
            refine wl_val (v := .pointer (some ⟨b513, 3, none⟩)) rfl rfl (x_field rfl Try.underlying45 rfl Try.sizeOf27 rfl) ?_
            replace hst := hst.pull2
            obtain ⟨w626, hr627, hst⟩ := hst.boxStore (P := Try.prog) (t := 27) (cs' := [.int .u8 (IntKind.u8.wrap (IntKind.i64.wrap ((1:Int) + t492.1))), .int .u64 z615, .int .u64 t599.1.Seq, .int .u64 (IntKind.u64.wrap (IntKind.i64.wrap ((1:Int) + t621.1))), .int .u64 (0:Int), .int .i64 (0:Int), .int .u64 (0:Int), .int .u64 (0:Int), .int .u64 (0:Int), (.slice none 0 0), (.slice none 0 0), (.slice none 0 0), (.slice none 0 0), (.slice none 0 0), .int .i64 (0:Int), .int .u64 (0:Int), .int .u64 (0:Int), (.slice none 0 0), (.slice none 0 0), .int .u64 (0:Int), (.slice none 0 0), .int .u64 (0:Int), .int .i64 (0:Int), .int .i64 (0:Int), .float .f64 (0:Nat), .float .f64 (0:Nat), .int .u64 (0:Int), .int .i64 (0:Int), .bool false]) 3 (.int .u64 (IntKind.u64.wrap (IntKind.i64.wrap ((1:Int) + t621.1)))) Try.sizeOf27 (Nat.le_of_ble_eq_true rfl) (ones_cons rfl ones_nil) (by kernel_rfl)
            refine wl_unit rfl rfl (x_unit hr627) ?_
            refine wl_nil ?_
            refine then_n ?_
            refine wp_seq ?_
            refine wp_region_lit ?_
            refine wl_val (v := p0) rfl rfl rfl ?_
            replace hst := hst.pull1
            obtain ⟨t628, ht629, hm⟩ := bind_some hm
            refine wl_call rfl rfl (x_call Try.call22 rfl (vs := [p0, .int .i64 (4:Int)]) rfl) ?_
            refine (ref12_Tape_Next_ref hst.to1 ht629).mono ?_
            rintro _ w630 ⟨rfl, hst⟩
            refine ⟨_, rfl, ?_⟩
            replace hst := hst.of1
            refine wl_val (v := .int .u64 (IntKind.u64.wrap t628.1)) rfl rfl (by kernel_rfl) ?_
            refine wl_val (v := .pointer (some ⟨b513, 19, none⟩)) rfl rfl (x_field rfl Try.underlying45 rfl Try.sizeOf27 rfl) ?_
            replace hst := hst.pull1
            obtain ⟨w633, hr634, hst⟩ := hst.boxStore (P := Try.prog) (t := 27) (cs' := [.int .u8 (IntKind.u8.wrap (IntKind.i64.wrap ((1:Int) + t492.1))), .int .u64 z615, .int .u64 t599.1.Seq, .int .u64 (IntKind.u64.wrap (IntKind.i64.wrap ((1:Int) + t621.1))), .int .u64 (0:Int), .int .i64 (0:Int), .int .u64 (0:Int), .int .u64 (0:Int), .int .u64 (0:Int), (.slice none 0 0), (.slice none 0 0), (.slice none 0 0), (.slice none 0 0), (.slice none 0 0), .int .i64 (0:Int), .int .u64 (0:Int), .int .u64 (0:Int), (.slice none 0 0), (.slice none 0 0), .int .u64 (IntKind.u64.wrap t628.1), (.slice none 0 0), .int .u64 (0:Int), .int .i64 (0:Int), .int .i64 (0:Int), .float .f64 (0:Nat), .float .f64 (0:Nat), .int .u64 (0:Int), .int .i64 (0:Int), .bool false]) 19 (.int .u64 (IntKind.u64.wrap t628.1)) Try.sizeOf27 (Nat.le_of_ble_eq_true rfl) (ones_cons rfl ones_nil) (by kernel_rfl)
            refine wl_unit rfl rfl (x_unit hr634) ?_
            refine wl_nil ?_
            refine then_n ?_
            refine wp_seq ?_
            refine wp_region_lit ?_
            refine wl_val (v := p0) rfl rfl rfl ?_
            replace hst := hst.pull1
            obtain ⟨t635, ht636, hm⟩ := bind_some hm
            refine wl_call rfl rfl (x_call Try.call22 rfl (vs := [p0, .int .i64 (3:Int)]) rfl) ?_
            refine (ref12_Tape_Next_ref hst.to1 ht636).mono ?_
            rintro _ w637 ⟨rfl, hst⟩
            refine ⟨_, rfl, ?_⟩
            replace hst := hst.of1
            refine wl_val (v := .int .i64 t635.1) rfl rfl rfl ?_
            refine wl_nil ?_
            refine then_n ?_
            obtain ⟨y762, hm, hx763⟩ := bind_some hm
            refine wp_cut (fun a w => ∃ (I759 : HL) (z755 : ref12_Tape) (z758 : (List api_Part)) (v757 : Value) (σ760 : Nat → Value), (ref13_OfCommand_j1 t492 z615 t599 t621 t628) (z755, z758) = some r ∧ a = Fr 124 (upd (upd (upd σ760 0 (p0)) 2 (.pointer (some ⟨b487, 0, none⟩))) 3 (.pointer (some ⟨b513, 0, none⟩))) ∧ I.le I759 ∧ St w0 w I759 [at_ref12_Tape p0 z755, cells b487 [.int .u8 (0:Int), .int .u64 (0:Int), .int .u64 (0:Int), .int .u64 (0:Int), .int .u64 (0:Int), .int .i64 (0:Int), .int .u64 (0:Int), .int .u64 (0:Int), .int .u64 (0:Int), (.slice none 0 0), (.slice none 0 0), (.slice none 0 0), (.slice none 0 0), (.slice none 0 0), .int .i64 (0:Int), .int .u64 (0:Int), .int .u64 (0:Int), (.slice none 0 0), (.slice none 0 0), .int .u64 (0:Int), (.slice none 0 0), .int .u64 (0:Int), .int .i64 (0:Int), .int .i64 (0:Int), .float .f64 (0:Nat), .float .f64 (0:Nat), .int .u64 (0:Int), .int .i64 (0:Int), .bool false], cells b513 [.int .u8 (IntKind.u8.wrap (IntKind.i64.wrap ((1:Int) + t492.1))), .int .u64 z615, .int .u64 t599.1.Seq, .int .u64 (IntKind.u64.wrap (IntKind.i64.wrap ((1:Int) + t621.1))), .int .u64 (0:Int), .int .i64 (0:Int), .int .u64 (0:Int), .int .u64 (0:Int), .int .u64 (0:Int), (.slice none 0 0), (.slice none 0 0), (.slice none 0 0), (.slice none 0 0), (.slice none 0 0), .int .i64 (0:Int), .int .u64 (0:Int), .int .u64 (0:Int), (.slice none 0 0), (.slice none 0 0), .int .u64 (IntKind.u64.wrap t628.1), v757, .int .u64 (0:Int), .int .i64 (0:Int), .int .i64 (0:Int), .float .f64 (0:Nat), .float .f64 (0:Nat), .int .u64 (0:Int), .int .i64 (0:Int), .bool false], ownS ty_api_Part v757 z758] R) ?_ ?_
            · skip
              have hL764 := HL.le.refl I
              refine wp_seq ?_
              refine wp_region_lit ?_
              refine wl_val (v := .int .i64 (0:Int)) rfl rfl rfl ?_
              refine wl_nil ?_
              refine then_n ?_
              refine wp_block ?_
              replace hst := hst.own_nil ty_api_Part
              obtain ⟨n724, hm⟩ := loopO_some hm
              refine wp_loop_n (fun n a w => ∃ (I722 : HL) (z717 : (List api_Part)) (z720 : ref12_Tape) (z721 : Int) (v718 : Value) (σ723 : Nat → Value), loopN (ref13_OfCommand_l2 t635) n (z717, z720, z721) = some y762 ∧ a = Fr 124 (upd (upd (upd (upd (upd σ723 0 (p0)) 2 (.pointer (some ⟨b487, 0, none⟩))) 3 (.pointer (some ⟨b513, 0, none⟩))) 4 (.int .i64 t635.1)) 5 (.int .i64 z721)) ∧ I.le I722 ∧ St w0 w I722 [ownS ty_api_Part v718 z717, at_ref12_Tape p0 z720, cells b513 [.int .u8 (IntKind.u8.wrap (IntKind.i64.wrap ((1:Int) + t492.1))), .int .u64 z615, .int .u64 t599.1.Seq, .int .u64 (IntKind.u64.wrap (IntKind.i64.wrap ((1:Int) + t621.1))), .int .u64 (0:Int), .int .i64 (0:Int), .int .u64 (0:Int), .int .u64 (0:Int), .int .u64 (0:Int), (.slice none 0 0), (.slice none 0 0), (.slice none 0 0), (.slice none 0 0), (.slice none 0 0), .int .i64 (0:Int), .int .u64 (0:Int), .int .u64 (0:Int), (.slice none 0 0), (.slice none 0 0), .int .u64 (IntKind.u64.wrap t628.1), v718, .int .u64 (0:Int), .int .i64 (0:Int), .int .i64 (0:Int), .float .f64 (0:Nat), .float .f64 (0:Nat), .int .u64 (0:Int), .int .i64 (0:Int), .bool false], cells b487 [.int .u8 (0:Int), .int .u64 (0:Int), .int .u64 (0:Int), .int .u64 (0:Int), .int .u64 (0:Int), .int .i64 (0:Int), .int .u64 (0:Int), .int .u64 (0:Int), .int .u64 (0:Int), (.slice none 0 0), (.slice none 0 0), (.slice none 0 0), (.slice none 0 0), (.slice none 0 0), .int .i64 (0:Int), .int .u64 (0:Int), .int .u64 (0:Int), (.slice none 0 0), (.slice none 0 0), .int .u64 (0:Int), (.slice none 0 0), .int .u64 (0:Int), .int .i64 (0:Int), .int .i64 (0:Int), .float .f64 (0:Nat), .float .f64 (0:Nat), .int .u64 (0:Int), .int .i64 (0:Int), .bool false]] R) n724 ⟨_, [], t635.2, (0:Int), (.slice none 0 0), _, hm, ((fr_upd (t := 0) (v := p0) rfl).trans ((fr_upd (t := 2) (v := .pointer (some ⟨b487, 0, none⟩)) rfl).trans ((fr_upd (t := 3) (v := .pointer (some ⟨b513, 0, none⟩)) rfl).trans ((fr_upd (t := 4) (v := .int .i64 t635.1) rfl).trans ((fr_upd (t := 5) (v := .int .i64 (0:Int)) rfl).trans rfl))))), (HL.le.refl _), hst⟩ ?_
              rintro n730 _ w725 ⟨I722, z717, z720, z721, v718, σ723, hm, rfl, hL726, hst⟩
              obtain ⟨n727, y728, rfl, hm, hx729⟩ := loopN_some hm
              dsimp only [ref13_OfCommand_l2] at hm
              replace hI0 := hI0.trans hL726
              replace hL764 := hL764.trans hL726
              refine wp_seq ?_
              refine wp_seq ?_
              refine wp_region_lit ?_
              refine wl_val (v := .int .i64 z721) rfl rfl rfl ?_
              refine wl_val (v := .int .i64 t635.1) rfl rfl rfl ?_
              refine wl_val (v := .bool (decide (z721 < t635.1))) rfl rfl rfl ?_
              refine wl_nil ?_
              refine then_n ?_
              refine bsplit (decide (z721 < t635.1)) (fun hc731 => ?_) (fun hc731 => ?_)
              · skip
                replace hm := bif_t hc731 hm
                refine wp_ift (congrArg Value.bool hc731) ?_
                refine wp_skip ?_
                refine then_n ?_
                refine wp_seq ?_
                refine wp_block ?_
                refine wp_region_St hst 10 [0, 1, 2, 3, 4, 5, 6, 7, 8, 9] [0, 1, 0, 0, 8, 28, 60, 127, 255, 511] [] rfl (by kernel_rfl) (by kernel_rfl) Try.mixed (by kernel_rfl) ?_
                refine ws_q (v := .pointer (some ⟨b513, 20, none⟩)) 0 [1, 2, 3, 4, 5, 6, 7, 8, 9] (by kernel_rfl) rfl rfl (yi_run rfl (fun w hst => x_field rfl Try.underlying45 rfl Try.sizeOf40 rfl)) ?_
                refine ws_q (v := v718) 1 [2, 3, 4, 5, 6, 7, 8, 9] (by kernel_rfl) rfl rfl (yi_run rfl (fun w hst => x_load rfl Try.isAgg40 (hst.bc2 rfl))) ?_
                refine ws_q (v := .int .i64 z721) 2 [3, 4, 5, 6, 7, 8, 9] (by kernel_rfl) rfl rfl (yi_run rfl (fun w hst => rfl)) ?_
                refine ws_q (v := p0) 3 [4, 5, 6, 7, 8, 9] (by kernel_rfl) rfl rfl (yi_run rfl (fun w hst => rfl)) ?_
                refine ws_e1 4 (by kernel_rfl) ?_
                refine nxe [5, 6, 7, 8, 9] (by kernel_rfl) rfl rfl ?_
                clear hst
                intro w hst
                replace hst := hst.pull1
                obtain ⟨t732, ht733, hm⟩ := bind_some hm
                refine we_call rfl (x_call Try.call25 rfl (vs := [p0]) rfl) ?_
                refine (ref13_OfWrites_ref hst.to1 ht733).mono ?_
                rintro _ w734 ⟨I735, v737, rfl, hI736, hst⟩
                refine ⟨_, rfl, ?_⟩
                replace hst := hst.of2
                replace hI0 := hI0.trans hI736
                replace hL764 := hL764.trans hI736
                replace hL726 := hL726.trans hI736
                refine ws_next (pend' := [(2, .int .i64 z721), (1, v718), (0, .pointer (some ⟨b513, 20, none⟩))]) hst (by kernel_rfl) (pk_cons rfl (yi_run rfl (fun w hst => rfl)) (pk_cons rfl (yi_run rfl (fun w hst => x_load rfl Try.isAgg40 (hst.bc3 rfl))) (pk_cons rfl (yi_run rfl (fun w hst => x_field rfl Try.underlying45 rfl Try.sizeOf40 rfl)) pk_nil))) ?_
                refine ws_q (v := .agg #[.int .i64 z721, v737]) 5 [6, 7, 8, 9] (by kernel_rfl) rfl rfl (yi_run rfl (fun w hst => by obtain ⟨_, _, hv_, _⟩ := hst.sv0; rw [hv_]; kernel_rfl)) ?_
                refine ws_e1 6 (by kernel_rfl) ?_
                refine nxe [7, 8, 9] (by kernel_rfl) rfl rfl ?_
                clear hst
                intro w hst
                obtain ⟨I741, hI742, f743, hst⟩ := hst.own_fix
                replace hI0 := hI0.trans hI742
                replace hL764 := hL764.trans hI742
                replace hL726 := hL726.trans hI742
                obtain ⟨b744, w745, ew746, eb747, hst⟩ := hst.lits (E := ty_api_Part) (xs := [({ Shard := z721, Writes := t732.1 } : api_Part)]) [[.int .i64 z721, v737]] 81 1 rfl (Reps.cons ⟨_, rfl, f743, one_of_sliceV (ro_sliceV f743)⟩ Reps.nil)
                refine we_run (v := (.slice (some ⟨b744, 0, none⟩) 1 1)) (w' := w745) rfl (x_als (by kernel_rfl) ew746 eb747) ?_
                refine ws_next (pend' := [(1, v718), (0, .pointer (some ⟨b513, 20, none⟩))]) hst (by kernel_rfl) (pk_cons rfl (yi_run rfl (fun w hst => x_load rfl Try.isAgg40 (hst.bc3 rfl))) (pk_cons rfl (yi_run rfl (fun w hst => x_field rfl Try.underlying45 rfl Try.sizeOf40 rfl)) pk_nil)) ?_
                refine ws_e1 7 (by kernel_rfl) ?_
                refine nxe [8, 9] (by kernel_rfl) rfl rfl ?_
                clear hst
                intro w hst
                obtain ⟨hg749, hm⟩ := gd_some hm
                replace hst := hst.pull2
                obtain ⟨v750, w751, hr752, hst⟩ := run_append elem_40 Try.underlying40 hst hst.src1 (room_of hg749 rfl) 40
                refine we_run (v := v750) (w' := w751) rfl (x_append rfl rfl hr752) ?_
                refine ws_next (pend' := []) hst (by kernel_rfl) pk_nil ?_
                refine ws_q (v := .pointer (some ⟨b513, 20, none⟩)) 8 [9] (by kernel_rfl) rfl rfl (yi_run rfl (fun w hst => x_field rfl Try.underlying45 rfl Try.sizeOf40 rfl)) ?_
                refine ws_e1 9 (by kernel_rfl) ?_
                refine nxe [] (by kernel_rfl) rfl rfl ?_
                clear hst
                intro w hst
                replace hst := hst.pull3
                obtain ⟨w753, hr754, hst⟩ := hst.boxStore1 (P := Try.prog) (t := 40) (cs' := [.int .u8 (IntKind.u8.wrap (IntKind.i64.wrap ((1:Int) + t492.1))), .int .u64 z615, .int .u64 t599.1.Seq, .int .u64 (IntKind.u64.wrap (IntKind.i64.wrap ((1:Int) + t621.1))), .int .u64 (0:Int), .int .i64 (0:Int), .int .u64 (0:Int), .int .u64 (0:Int), .int .u64 (0:Int), (.slice none 0 0), (.slice none 0 0), (.slice none 0 0), (.slice none 0 0), (.slice none 0 0), .int .i64 (0:Int), .int .u64 (0:Int), .int .u64 (0:Int), (.slice none 0 0), (.slice none 0 0), .int .u64 (IntKind.u64.wrap t628.1), v750, .int .u64 (0:Int), .int .i64 (0:Int), .int .i64 (0:Int), .float .f64 (0:Nat), .float .f64 (0:Nat), .int .u64 (0:Int), .int .i64 (0:Int), .bool false]) 20 v750 (one_of_sliceV hst.sv1) Try.sizeOf40 rfl rfl
                refine we_unit rfl (x_unit hr754) ?_
                refine ws_next (pend' := []) hst (by kernel_rfl) pk_nil ?_
                refine ws_nil ?_
                intro w hst
                refine blk_n ?_
                refine then_n ?_
                refine wp_region_lit ?_
                refine wl_val (v := .int .i64 z721) rfl rfl rfl ?_
                refine wl_val (v := .int .i64 (IntKind.i64.wrap (z721 + (1:Int)))) rfl rfl rfl ?_
                refine wl_val (v := .int .i64 (IntKind.i64.wrap (z721 + (1:Int)))) rfl rfl rfl ?_
                refine wl_nil ?_
                refine then_n ?_
                replace hst := hst.pull4
                replace hst := hst.pull1
                replace hst := hst.pull4
                replace hst := hst.pull3
                replace hst := hst.keep4
                obtain rfl := some_inj hm
                exact ⟨_, Nat.lt_succ_self _, _, (z717 ++ ([({ Shard := z721, Writes := t732.1 } : api_Part)])), t732.2, (IntKind.i64.wrap (z721 + (1:Int))), v750, _, hx729, ((fr_upd (t := 0) (v := p0) rfl).trans ((fr_upd (t := 2) (v := .pointer (some ⟨b487, 0, none⟩)) rfl).trans ((fr_upd (t := 3) (v := .pointer (some ⟨b513, 0, none⟩)) rfl).trans ((fr_upd (t := 4) (v := .int .i64 t635.1) rfl).trans ((fr_upd (t := 5) (v := .int .i64 (IntKind.i64.wrap (z721 + (1:Int)))) rfl).trans rfl))))), hL726, hst⟩
              · skip
                replace hm := bif_f hc731 hm
                refine wp_iff (congrArg Value.bool hc731) ?_
                refine wp_exit ?_
                refine then_x ?_
                refine then_x ?_
                replace hm := inr_up hm hx729
                refine blk_x ?_
                refine then_n ?_
                replace hst := hst.pull2
                replace hst := hst.pull3
                replace hst := hst.pull3
                replace hst := hst.keep4
                obtain rfl := some_inj hm
                exact ⟨_, z720, z717, v718, _, hx763, ((fr_upd (t := 0) (v := p0) rfl).trans ((fr_upd (t := 2) (v := .pointer (some ⟨b487, 0, none⟩)) rfl).trans ((fr_upd (t := 3) (v := .pointer (some ⟨b513, 0, none⟩)) rfl).trans rfl))), hL764, hst⟩
            · skip
              clear hst
              rintro _ w765 ⟨I759, z755, z758, v757, σ760, hm, rfl, hL761, hst⟩
              dsimp only [ref13_OfCommand_j1] at hm
              replace hI0 := hI0.trans hL761
              refine wp_region_lit ?_
              refine wl_val (v := p0) rfl rfl rfl ?_
              obtain ⟨t766, ht767, hm⟩ := bind_some hm
              refine wl_call rfl rfl (x_call Try.call12 rfl (vs := [p0]) rfl) ?_
              refine (ref13_OfReply_ref hst.to1 ht767).mono ?_
              rintro _ w768 ⟨I769, v771, v773, rfl, hI770, hst⟩
              refine ⟨_, rfl, ?_⟩
              replace hst := hst.of3
              replace hI0 := hI0.trans hI770
              refine wl_val (v := .pointer (some ⟨b513, 14, none⟩)) rfl rfl (x_field rfl Try.underlying45 rfl Try.sizeOf39 rfl) ?_
              replace hst := hst.pull4
              obtain ⟨w775, hr776, hst⟩ := hst.boxStore (P := Try.prog) (t := 39) (cs' := [.int .u8 (IntKind.u8.wrap (IntKind.i64.wrap ((1:Int) + t492.1))), .int .u64 z615, .int .u64 t599.1.Seq, .int .u64 (IntKind.u64.wrap (IntKind.i64.wrap ((1:Int) + t621.1))), .int .u64 (0:Int), .int .i64 (0:Int), .int .u64 (0:Int), .int .u64 (0:Int), .int .u64 (0:Int), (.slice none 0 0), (.slice none 0 0), (.slice none 0 0), (.slice none 0 0), (.slice none 0 0), .int .i64 t766.1.E, .int .u64 t766.1.Epoch, .int .u64 t766.1.Index, v771, v773, .int .u64 (IntKind.u64.wrap t628.1), v757, .int .u64 (0:Int), .int .i64 (0:Int), .int .i64 (0:Int), .float .f64 (0:Nat), .float .f64 (0:Nat), .int .u64 (0:Int), .int .i64 (0:Int), .bool false]) 14 (.agg #[.int .i64 t766.1.E, .int .u64 t766.1.Epoch, .int .u64 t766.1.Index, v771, v773]) Try.sizeOf39 (Nat.le_of_ble_eq_true rfl) (ones_cons rfl (ones_cons rfl (ones_cons rfl (ones_cons (one_of_sliceV hst.sv1) (ones_cons (one_of_sliceV hst.sv2) ones_nil))))) (by kernel_rfl)
              refine wl_unit rfl rfl (x_unit hr776) ?_
              refine wl_nil ?_
              refine blk_n ?_
              refine then_n ?_
              refine wp_seq ?_
              refine wp_region_lit ?_
              refine wl_val (v := .agg #[.int .u8 (IntKind.u8.wrap (IntKind.i64.wrap ((1:Int) + t492.1))), .int .u64 z615, .int .u64 t599.1.Seq, .int .u64 (IntKind.u64.wrap (IntKind.i64.wrap ((1:Int) + t621.1))), .int .u64 (0:Int), .int .i64 (0:Int), .int .u64 (0:Int), .int .u64 (0:Int), .int .u64 (0:Int), (.slice none 0 0), (.slice none 0 0), (.slice none 0 0), (.slice none 0 0), (.slice none 0 0), .int .i64 t766.1.E, .int .u64 t766.1.Epoch, .int .u64 t766.1.Index, v771, v773, .int .u64 (IntKind.u64.wrap t628.1), v757, .int .u64 (0:Int), .int .i64 (0:Int), .int .i64 (0:Int), .float .f64 (0:Nat), .float .f64 (0:Nat), .int .u64 (0:Int), .int .i64 (0:Int), .bool false]) rfl rfl (x_loadN (cs := [.int .u8 (IntKind.u8.wrap (IntKind.i64.wrap ((1:Int) + t492.1))), .int .u64 z615, .int .u64 t599.1.Seq, .int .u64 (IntKind.u64.wrap (IntKind.i64.wrap ((1:Int) + t621.1))), .int .u64 (0:Int), .int .i64 (0:Int), .int .u64 (0:Int), .int .u64 (0:Int), .int .u64 (0:Int), (.slice none 0 0), (.slice none 0 0), (.slice none 0 0), (.slice none 0 0), (.slice none 0 0), .int .i64 t766.1.E, .int .u64 t766.1.Epoch, .int .u64 t766.1.Index, v771, v773, .int .u64 (IntKind.u64.wrap t628.1), v757, .int .u64 (0:Int), .int .i64 (0:Int), .int .i64 (0:Int), .float .f64 (0:Nat), .float .f64 (0:Nat), .int .u64 (0:Int), .int .i64 (0:Int), .bool false]) rfl Try.isAgg45 Try.sizeOf45 (hst.bcs0 0 rfl)) ?_
              replace hst := hst.pull4
              obtain ⟨w777, hr778, hst⟩ := hst.boxStore (P := Try.prog) (t := 45) (cs' := [.int .u8 (IntKind.u8.wrap (IntKind.i64.wrap ((1:Int) + t492.1))), .int .u64 z615, .int .u64 t599.1.Seq, .int .u64 (IntKind.u64.wrap (IntKind.i64.wrap ((1:Int) + t621.1))), .int .u64 (0:Int), .int .i64 (0:Int), .int .u64 (0:Int), .int .u64 (0:Int), .int .u64 (0:Int), (.slice none 0 0), (.slice none 0 0), (.slice none 0 0), (.slice none 0 0), (.slice none 0 0), .int .i64 t766.1.E, .int .u64 t766.1.Epoch, .int .u64 t766.1.Index, v771, v773, .int .u64 (IntKind.u64.wrap t628.1), v757, .int .u64 (0:Int), .int .i64 (0:Int), .int .i64 (0:Int), .float .f64 (0:Nat), .float .f64 (0:Nat), .int .u64 (0:Int), .int .i64 (0:Int), .bool false]) 0 (.agg #[.int .u8 (IntKind.u8.wrap (IntKind.i64.wrap ((1:Int) + t492.1))), .int .u64 z615, .int .u64 t599.1.Seq, .int .u64 (IntKind.u64.wrap (IntKind.i64.wrap ((1:Int) + t621.1))), .int .u64 (0:Int), .int .i64 (0:Int), .int .u64 (0:Int), .int .u64 (0:Int), .int .u64 (0:Int), (.slice none 0 0), (.slice none 0 0), (.slice none 0 0), (.slice none 0 0), (.slice none 0 0), .int .i64 t766.1.E, .int .u64 t766.1.Epoch, .int .u64 t766.1.Index, v771, v773, .int .u64 (IntKind.u64.wrap t628.1), v757, .int .u64 (0:Int), .int .i64 (0:Int), .int .i64 (0:Int), .float .f64 (0:Nat), .float .f64 (0:Nat), .int .u64 (0:Int), .int .i64 (0:Int), .bool false]) Try.sizeOf45 (Nat.le_of_ble_eq_true rfl) (ones_cons rfl (ones_cons rfl (ones_cons rfl (ones_cons rfl (ones_cons rfl (ones_cons rfl (ones_cons rfl (ones_cons rfl (ones_cons rfl (ones_cons rfl (ones_cons rfl (ones_cons rfl (ones_cons rfl (ones_cons rfl (ones_cons rfl (ones_cons rfl (ones_cons rfl (ones_cons (one_of_sliceV hst.sv2) (ones_cons (one_of_sliceV hst.sv3) (ones_cons rfl (ones_cons (one_of_sliceV hst.sv5) (ones_cons rfl (ones_cons rfl (ones_cons rfl (ones_cons rfl (ones_cons rfl (ones_cons rfl (ones_cons rfl (ones_cons rfl ones_nil))))))))))))))))))))))))))))) (by kernel_rfl)
              refine wl_unit rfl rfl (x_unit hr778) ?_
              refine wl_nil ?_
              refine then_n ?_
              refine wp_ret ?_
              replace hst := hst.own_nil tyF64
              replace hst := hst.own_nil tyF2
              replace hst := hst.own_nil tyF64
              replace hst := hst.own_nil (tyInt .u8)
              replace hst := hst.own_nil ty_api_Write
              obtain rfl := some_inj hm
              refine post_ret (vs := [.agg #[.int .u8 (IntKind.u8.wrap (IntKind.i64.wrap ((1:Int) + t492.1))), .int .u64 z615, .int .u64 t599.1.Seq, .int .u64 (IntKind.u64.wrap (IntKind.i64.wrap ((1:Int) + t621.1))), .int .u64 (0:Int), .int .i64 (0:Int), .int .u64 (0:Int), .int .u64 (0:Int), .int .u64 (0:Int), (.slice none 0 0), (.slice none 0 0), (.slice none 0 0), (.slice none 0 0), (.slice none 0 0), .int .i64 t766.1.E, .int .u64 t766.1.Epoch, .int .u64 t766.1.Index, v771, v773, .int .u64 (IntKind.u64.wrap t628.1), v757, .int .u64 (0:Int), .int .i64 (0:Int), .int .i64 (0:Int), .float .f64 (0:Nat), .float .f64 (0:Nat), .int .u64 (0:Int), .int .i64 (0:Int), .bool false]]) Try.results9 (rvs_cons (rv_cell (cs := [.int .u8 (IntKind.u8.wrap (IntKind.i64.wrap ((1:Int) + t492.1))), .int .u64 z615, .int .u64 t599.1.Seq, .int .u64 (IntKind.u64.wrap (IntKind.i64.wrap ((1:Int) + t621.1))), .int .u64 (0:Int), .int .i64 (0:Int), .int .u64 (0:Int), .int .u64 (0:Int), .int .u64 (0:Int), (.slice none 0 0), (.slice none 0 0), (.slice none 0 0), (.slice none 0 0), (.slice none 0 0), .int .i64 t766.1.E, .int .u64 t766.1.Epoch, .int .u64 t766.1.Index, v771, v773, .int .u64 (IntKind.u64.wrap t628.1), v757, .int .u64 (0:Int), .int .i64 (0:Int), .int .i64 (0:Int), .float .f64 (0:Nat), .float .f64 (0:Nat), .int .u64 (0:Int), .int .i64 (0:Int), .bool false]) rfl Try.isAgg45 Try.sizeOf45 (hst.bcs5 0 rfl)) rvs_nil) ?_
              replace hst := hst.pull9
              replace hst := hst.pull10
              replace hst := hst.pull10
              replace hst := hst.pull10
              replace hst := hst.pull4
              replace hst := hst.pull5
              replace hst := hst.pull6
              replace hst := hst.pull7
              replace hst := hst.pull8
              exact ⟨_, (.slice none 0 0), (.slice none 0 0), (.slice none 0 0), (.slice none 0 0), (.slice none 0 0), v771, v773, v757, rfl, hI0, hst.keep9⟩
        · skip
          replace hm := bif_f hc598 hm
          refine wp_iff (congrArg Value.bool hc598) ?_
          refine wp_seq ?_
          refine wp_region_lit ?_
          refine wl_val (v := .bool ((IntKind.u8.wrap (IntKind.i64.wrap ((1:Int) + t492.1))) == (5:Int))) rfl rfl rfl ?_
          refine wl_val (v := .bool ((IntKind.u8.wrap (IntKind.i64.wrap ((1:Int) + t492.1))) == (5:Int))) rfl rfl rfl ?_
          refine wl_nil ?_
          refine then_n ?_
          refine bsplit ((IntKind.u8.wrap (IntKind.i64.wrap ((1:Int) + t492.1))) == (5:Int)) (fun hc779 => ?_) (fun hc779 => ?_)
          · skip
            replace hm := bif_t hc779 hm
            refine wp_ift (congrArg Value.bool hc779) ?_
            refine wp_region_lit ?_
            refine wl_val (v := p0) rfl rfl rfl ?_
            replace hst := hst.pull1
            obtain ⟨t780, ht781, hm⟩ := bind_some hm
            refine wl_call rfl rfl (x_call Try.call24 rfl (vs := [p0]) rfl) ?_
            refine (ref12_Tape_Of_ref hst.to1 ht781).mono ?_
            rintro _ w782 ⟨rfl, hst⟩
            refine ⟨_, rfl, ?_⟩
            replace hst := hst.of1
            refine wl_val (v := .pointer (some ⟨b513, 1, none⟩)) rfl rfl (x_field rfl Try.underlying45 rfl Try.sizeOf29 rfl) ?_
            replace hst := hst.pull1
            obtain ⟨w785, hr786, hst⟩ := hst.boxStore (P := Try.prog) (t := 29) (cs' := [.int .u8 (IntKind.u8.wrap (IntKind.i64.wrap ((1:Int) + t492.1))), .int .u64 t780.1.Session, .int .u64 t780.1.Seq, .int .u64 (0:Int), .int .u64 (0:Int), .int .i64 (0:Int), .int .u64 (0:Int), .int .u64 (0:Int), .int .u64 (0:Int), (.slice none 0 0), (.slice none 0 0), (.slice none 0 0), (.slice none 0 0), (.slice none 0 0), .int .i64 (0:Int), .int .u64 (0:Int), .int .u64 (0:Int), (.slice none 0 0), (.slice none 0 0), .int .u64 (0:Int), (.slice none 0 0), .int .u64 (0:Int), .int .i64 (0:Int), .int .i64 (0:Int), .float .f64 (0:Nat), .float .f64 (0:Nat), .int .u64 (0:Int), .int .i64 (0:Int), .bool false]) 1 (.agg #[.int .u64 t780.1.Session, .int .u64 t780.1.Seq]) Try.sizeOf29 (Nat.le_of_ble_eq_true rfl) (ones_cons rfl (ones_cons rfl ones_nil)) (by kernel_rfl)
            refine wl_unit rfl rfl (x_unit hr786) ?_
            refine wl_nil ?_
            refine blk_n ?_
            refine then_n ?_
            refine wp_seq ?_
            refine wp_region_lit ?_
            refine wl_val (v := .agg #[.int .u8 (IntKind.u8.wrap (IntKind.i64.wrap ((1:Int) + t492.1))), .int .u64 t780.1.Session, .int .u64 t780.1.Seq, .int .u64 (0:Int), .int .u64 (0:Int), .int .i64 (0:Int), .int .u64 (0:Int), .int .u64 (0:Int), .int .u64 (0:Int), (.slice none 0 0), (.slice none 0 0), (.slice none 0 0), (.slice none 0 0), (.slice none 0 0), .int .i64 (0:Int), .int .u64 (0:Int), .int .u64 (0:Int), (.slice none 0 0), (.slice none 0 0), .int .u64 (0:Int), (.slice none 0 0), .int .u64 (0:Int), .int .i64 (0:Int), .int .i64 (0:Int), .float .f64 (0:Nat), .float .f64 (0:Nat), .int .u64 (0:Int), .int .i64 (0:Int), .bool false]) rfl rfl (x_loadN (cs := [.int .u8 (IntKind.u8.wrap (IntKind.i64.wrap ((1:Int) + t492.1))), .int .u64 t780.1.Session, .int .u64 t780.1.Seq, .int .u64 (0:Int), .int .u64 (0:Int), .int .i64 (0:Int), .int .u64 (0:Int), .int .u64 (0:Int), .int .u64 (0:Int), (.slice none 0 0), (.slice none 0 0), (.slice none 0 0), (.slice none 0 0), (.slice none 0 0), .int .i64 (0:Int), .int .u64 (0:Int), .int .u64 (0:Int), (.slice none 0 0), (.slice none 0 0), .int .u64 (0:Int), (.slice none 0 0), .int .u64 (0:Int), .int .i64 (0:Int), .int .i64 (0:Int), .float .f64 (0:Nat), .float .f64 (0:Nat), .int .u64 (0:Int), .int .i64 (0:Int), .bool false]) rfl Try.isAgg45 Try.sizeOf45 (hst.bcs0 0 rfl)) ?_
            replace hst := hst.pull2
            obtain ⟨w787, hr788, hst⟩ := hst.boxStore (P := Try.prog) (t := 45) (cs' := [.int .u8 (IntKind.u8.wrap (IntKind.i64.wrap ((1:Int) + t492.1))), .int .u64 t780.1.Session, .int .u64 t780.1.Seq, .int .u64 (0:Int), .int .u64 (0:Int), .int .i64 (0:Int), .int .u64 (0:Int), .int .u64 (0:Int), .int .u64 (0:Int), (.slice none 0 0), (.slice none 0 0), (.slice none 0 0), (.slice none 0 0), (.slice none 0 0), .int .i64 (0:Int), .int .u64 (0:Int), .int .u64 (0:Int), (.slice none 0 0), (.slice none 0 0), .int .u64 (0:Int), (.slice none 0 0), .int .u64 (0:Int), .int .i64 (0:Int), .int .i64 (0:Int), .float .f64 (0:Nat), .float .f64 (0:Nat), .int .u64 (0:Int), .int .i64 (0:Int), .bool false]) 0 (.agg #[.int .u8 (IntKind.u8.wrap (IntKind.i64.wrap ((1:Int) + t492.1))), .int .u64 t780.1.Session, .int .u64 t780.1.Seq, .int .u64 (0:Int), .int .u64 (0:Int), .int .i64 (0:Int), .int .u64 (0:Int), .int .u64 (0:Int), .int .u64 (0:Int), (.slice none 0 0), (.slice none 0 0), (.slice none 0 0), (.slice none 0 0), (.slice none 0 0), .int .i64 (0:Int), .int .u64 (0:Int), .int .u64 (0:Int), (.slice none 0 0), (.slice none 0 0), .int .u64 (0:Int), (.slice none 0 0), .int .u64 (0:Int), .int .i64 (0:Int), .int .i64 (0:Int), .float .f64 (0:Nat), .float .f64 (0:Nat), .int .u64 (0:Int), .int .i64 (0:Int), .bool false]) Try.sizeOf45 (Nat.le_of_ble_eq_true rfl) (ones_cons rfl (ones_cons rfl (ones_cons rfl (ones_cons rfl (ones_cons rfl (ones_cons rfl (ones_cons rfl (ones_cons rfl (ones_cons rfl (ones_cons rfl (ones_cons rfl (ones_cons rfl (ones_cons rfl (ones_cons rfl (ones_cons rfl (ones_cons rfl (ones_cons rfl (ones_cons rfl (ones_cons rfl (ones_cons rfl (ones_cons rfl (ones_cons rfl (ones_cons rfl (ones_cons rfl (ones_cons rfl (ones_cons rfl (ones_cons rfl (ones_cons rfl (ones_cons rfl ones_nil))))))))))))))))))))))))))))) (by kernel_rfl)
            refine wl_unit rfl rfl (x_unit hr788) ?_
            refine wl_nil ?_
            refine then_n ?_
            refine wp_ret ?_
            replace hst := hst.own_nil tyF64
            replace hst := hst.own_nil tyF2
            replace hst := hst.own_nil tyF64
            replace hst := hst.own_nil (tyInt .u8)
            replace hst := hst.own_nil ty_api_Write
            replace hst := hst.own_nil ty_api_Got
            replace hst := hst.own_nil (tySl ty_api_Pair)
            replace hst := hst.own_nil ty_api_Part
            obtain rfl := some_inj hm
            refine post_ret (vs := [.agg #[.int .u8 (IntKind.u8.wrap (IntKind.i64.wrap ((1:Int) + t492.1))), .int .u64 t780.1.Session, .int .u64 t780.1.Seq, .int .u64 (0:Int), .int .u64 (0:Int), .int .i64 (0:Int), .int .u64 (0:Int), .int .u64 (0:Int), .int .u64 (0:Int), (.slice none 0 0), (.slice none 0 0), (.slice none 0 0), (.slice none 0 0), (.slice none 0 0), .int .i64 (0:Int), .int .u64 (0:Int), .int .u64 (0:Int), (.slice none 0 0), (.slice none 0 0), .int .u64 (0:Int), (.slice none 0 0), .int .u64 (0:Int), .int .i64 (0:Int), .int .i64 (0:Int), .float .f64 (0:Nat), .float .f64 (0:Nat), .int .u64 (0:Int), .int .i64 (0:Int), .bool false]]) Try.results9 (rvs_cons (rv_cell (cs := [.int .u8 (IntKind.u8.wrap (IntKind.i64.wrap ((1:Int) + t492.1))), .int .u64 t780.1.Session, .int .u64 t780.1.Seq, .int .u64 (0:Int), .int .u64 (0:Int), .int .i64 (0:Int), .int .u64 (0:Int), .int .u64 (0:Int), .int .u64 (0:Int), (.slice none 0 0), (.slice none 0 0), (.slice none 0 0), (.slice none 0 0), (.slice none 0 0), .int .i64 (0:Int), .int .u64 (0:Int), .int .u64 (0:Int), (.slice none 0 0), (.slice none 0 0), .int .u64 (0:Int), (.slice none 0 0), .int .u64 (0:Int), .int .i64 (0:Int), .int .i64 (0:Int), .float .f64 (0:Nat), .float .f64 (0:Nat), .int .u64 (0:Int), .int .i64 (0:Int), .bool false]) rfl Try.isAgg45 Try.sizeOf45 (hst.bcs8 0 rfl)) rvs_nil) ?_
            replace hst := hst.pull10
            replace hst := hst.pull1
            replace hst := hst.pull2
            replace hst := hst.pull3
            replace hst := hst.pull4
            replace hst := hst.pull5
            replace hst := hst.pull6
            replace hst := hst.pull7
            replace hst := hst.pull8
            exact ⟨_, (.slice none 0 0), (.slice none 0 0), (.slice none 0 0), (.slice none 0 0), (.slice none 0 0), (.slice none 0 0), (.slice none 0 0), (.slice none 0 0), rfl, hI0, hst.keep9⟩
          · skip
            replace hm := bif_f hc779 hm
            refine wp_iff (congrArg Value.bool hc779) ?_
            refine wp_seq ?_
            refine wp_region_lit ?_
            refine wl_val (v := .bool ((IntKind.u8.wrap (IntKind.i64.wrap ((1:Int) + t492.1))) == (6:Int))) rfl rfl rfl ?_
            refine wl_val (v := .bool ((IntKind.u8.wrap (IntKind.i64.wrap ((1:Int) + t492.1))) == (6:Int))) rfl rfl rfl ?_
            refine wl_nil ?_
            refine then_n ?_
            refine bsplit ((IntKind.u8.wrap (IntKind.i64.wrap ((1:Int) + t492.1))) == (6:Int)) (fun hc789 => ?_) (fun hc789 => ?_)
            · skip
              replace hm := bif_t hc789 hm
              refine wp_ift (congrArg Value.bool hc789) ?_
              refine wp_seq ?_
              refine wp_region_lit ?_
              refine wl_val (v := p0) rfl rfl rfl ?_
              replace hst := hst.pull1
              obtain ⟨t790, ht791, hm⟩ := bind_some hm
              refine wl_call rfl rfl (x_call Try.call26 rfl (vs := [p0]) rfl) ?_
              refine (ref13_OfRule_ref hst.to1 ht791).mono ?_
              rintro _ w792 ⟨rfl, hst⟩
              refine ⟨_, rfl, ?_⟩
              replace hst := hst.of1
              refine wl_val (v := .pointer (some ⟨b513, 21, none⟩)) rfl rfl (x_field rfl Try.underlying45 rfl Try.sizeOf43 rfl) ?_
              replace hst := hst.pull1
              obtain ⟨w795, hr796, hst⟩ := hst.boxStore (P := Try.prog) (t := 43) (cs' := [.int .u8 (IntKind.u8.wrap (IntKind.i64.wrap ((1:Int) + t492.1))), .int .u64 (0:Int), .int .u64 (0:Int), .int .u64 (0:Int), .int .u64 (0:Int), .int .i64 (0:Int), .int .u64 (0:Int), .int .u64 (0:Int), .int .u64 (0:Int), (.slice none 0 0), (.slice none 0 0), (.slice none 0 0), (.slice none 0 0), (.slice none 0 0), .int .i64 (0:Int), .int .u64 (0:Int), .int .u64 (0:Int), (.slice none 0 0), (.slice none 0 0), .int .u64 (0:Int), (.slice none 0 0), .int .u64 t790.1.ID, .int .i64 t790.1.From, .int .i64 t790.1.To, .float .f64 t790.1.Lo, .float .f64 t790.1.Hi, .int .u64 t790.1.Authority, .int .i64 t790.1.Quota, .bool false]) 21 (.agg #[.int .u64 t790.1.ID, .int .i64 t790.1.From, .int .i64 t790.1.To, .float .f64 t790.1.Lo, .float .f64 t790.1.Hi, .int .u64 t790.1.Authority, .int .i64 t790.1.Quota]) Try.sizeOf43 (Nat.le_of_ble_eq_true rfl) (ones_cons rfl (ones_cons rfl (ones_cons rfl (ones_cons rfl (ones_cons rfl (ones_cons rfl (ones_cons rfl ones_nil))))))) (by kernel_rfl)
              refine wl_unit rfl rfl (x_unit hr796) ?_
              refine wl_nil ?_
              refine then_n ?_
              refine wp_region_lit ?_
              refine wl_val (v := p0) rfl rfl rfl ?_
              replace hst := hst.pull1
              obtain ⟨t797, ht798, hm⟩ := bind_some hm
              refine wl_call rfl rfl (x_call Try.call22 rfl (vs := [p0, .int .i64 (3:Int)]) rfl) ?_
              refine (ref12_Tape_Next_ref hst.to1 ht798).mono ?_
              rintro _ w799 ⟨rfl, hst⟩
              refine ⟨_, rfl, ?_⟩
              replace hst := hst.of1
              refine wl_val (v := .bool (decide (t797.1 > (0:Int)))) rfl rfl rfl ?_
              refine wl_val (v := .pointer (some ⟨b513, 28, none⟩)) rfl rfl (x_field rfl Try.underlying45 rfl Try.sizeOf4 rfl) ?_
              replace hst := hst.pull1
              obtain ⟨w802, hr803, hst⟩ := hst.boxStore (P := Try.prog) (t := 4) (cs' := [.int .u8 (IntKind.u8.wrap (IntKind.i64.wrap ((1:Int) + t492.1))), .int .u64 (0:Int), .int .u64 (0:Int), .int .u64 (0:Int), .int .u64 (0:Int), .int .i64 (0:Int), .int .u64 (0:Int), .int .u64 (0:Int), .int .u64 (0:Int), (.slice none 0 0), (.slice none 0 0), (.slice none 0 0), (.slice none 0 0), (.slice none 0 0), .int .i64 (0:Int), .int .u64 (0:Int), .int .u64 (0:Int), (.slice none 0 0), (.slice none 0 0), .int .u64 (0:Int), (.slice none 0 0), .int .u64 t790.1.ID, .int .i64 t790.1.From, .int .i64 t790.1.To, .float .f64 t790.1.Lo, .float .f64 t790.1.Hi, .int .u64 t790.1.Authority, .int .i64 t790.1.Quota, .bool (decide (t797.1 > (0:Int)))]) 28 (.bool (decide (t797.1 > (0:Int)))) Try.sizeOf4 (Nat.le_of_ble_eq_true rfl) (ones_cons rfl ones_nil) (by kernel_rfl)
              refine wl_unit rfl rfl (x_unit hr803) ?_
              refine wl_nil ?_
              refine blk_n ?_
              refine then_n ?_
              refine wp_seq ?_
              refine wp_region_lit ?_
              refine wl_val (v := .agg #[.int .u8 (IntKind.u8.wrap (IntKind.i64.wrap ((1:Int) + t492.1))), .int .u64 (0:Int), .int .u64 (0:Int), .int .u64 (0:Int), .int .u64 (0:Int), .int .i64 (0:Int), .int .u64 (0:Int), .int .u64 (0:Int), .int .u64 (0:Int), (.slice none 0 0), (.slice none 0 0), (.slice none 0 0), (.slice none 0 0), (.slice none 0 0), .int .i64 (0:Int), .int .u64 (0:Int), .int .u64 (0:Int), (.slice none 0 0), (.slice none 0 0), .int .u64 (0:Int), (.slice none 0 0), .int .u64 t790.1.ID, .int .i64 t790.1.From, .int .i64 t790.1.To, .float .f64 t790.1.Lo, .float .f64 t790.1.Hi, .int .u64 t790.1.Authority, .int .i64 t790.1.Quota, .bool (decide (t797.1 > (0:Int)))]) rfl rfl (x_loadN (cs := [.int .u8 (IntKind.u8.wrap (IntKind.i64.wrap ((1:Int) + t492.1))), .int .u64 (0:Int), .int .u64 (0:Int), .int .u64 (0:Int), .int .u64 (0:Int), .int .i64 (0:Int), .int .u64 (0:Int), .int .u64 (0:Int), .int .u64 (0:Int), (.slice none 0 0), (.slice none 0 0), (.slice none 0 0), (.slice none 0 0), (.slice none 0 0), .int .i64 (0:Int), .int .u64 (0:Int), .int .u64 (0:Int), (.slice none 0 0), (.slice none 0 0), .int .u64 (0:Int), (.slice none 0 0), .int .u64 t790.1.ID, .int .i64 t790.1.From, .int .i64 t790.1.To, .float .f64 t790.1.Lo, .float .f64 t790.1.Hi, .int .u64 t790.1.Authority, .int .i64 t790.1.Quota, .bool (decide (t797.1 > (0:Int)))]) rfl Try.isAgg45 Try.sizeOf45 (hst.bcs0 0 rfl)) ?_
              replace hst := hst.pull2
              obtain ⟨w804, hr805, hst⟩ := hst.boxStore (P := Try.prog) (t := 45) (cs' := [.int .u8 (IntKind.u8.wrap (IntKind.i64.wrap ((1:Int) + t492.1))), .int .u64 (0:Int), .int .u64 (0:Int), .int .u64 (0:Int), .int .u64 (0:Int), .int .i64 (0:Int), .int .u64 (0:Int), .int .u64 (0:Int), .int .u64 (0:Int), (.slice none 0 0), (.slice none 0 0), (.slice none 0 0), (.slice none 0 0), (.slice none 0 0), .int .i64 (0:Int), .int .u64 (0:Int), .int .u64 (0:Int), (.slice none 0 0), (.slice none 0 0), .int .u64 (0:Int), (.slice none 0 0), .int .u64 t790.1.ID, .int .i64 t790.1.From, .int .i64 t790.1.To, .float .f64 t790.1.Lo, .float .f64 t790.1.Hi, .int .u64 t790.1.Authority, .int .i64 t790.1.Quota, .bool (decide (t797.1 > (0:Int)))]) 0 (.agg #[.int .u8 (IntKind.u8.wrap (IntKind.i64.wrap ((1:Int) + t492.1))), .int .u64 (0:Int), .int .u64 (0:Int), .int .u64 (0:Int), .int .u64 (0:Int), .int .i64 (0:Int), .int .u64 (0:Int), .int .u64 (0:Int), .int .u64 (0:Int), (.slice none 0 0), (.slice none 0 0), (.slice none 0 0), (.slice none 0 0), (.slice none 0 0), .int .i64 (0:Int), .int .u64 (0:Int), .int .u64 (0:Int), (.slice none 0 0), (.slice none 0 0), .int .u64 (0:Int), (.slice none 0 0), .int .u64 t790.1.ID, .int .i64 t790.1.From, .int .i64 t790.1.To, .float .f64 t790.1.Lo, .float .f64 t790.1.Hi, .int .u64 t790.1.Authority, .int .i64 t790.1.Quota, .bool (decide (t797.1 > (0:Int)))]) Try.sizeOf45 (Nat.le_of_ble_eq_true rfl) (ones_cons rfl (ones_cons rfl (ones_cons rfl (ones_cons rfl (ones_cons rfl (ones_cons rfl (ones_cons rfl (ones_cons rfl (ones_cons rfl (ones_cons rfl (ones_cons rfl (ones_cons rfl (ones_cons rfl (ones_cons rfl (ones_cons rfl (ones_cons rfl (ones_cons rfl (ones_cons rfl (ones_cons rfl (ones_cons rfl (ones_cons rfl (ones_cons rfl (ones_cons rfl (ones_cons rfl (ones_cons rfl (ones_cons rfl (ones_cons rfl (ones_cons rfl (ones_cons rfl ones_nil))))))))))))))))))))))))))))) (by kernel_rfl)
              refine wl_unit rfl rfl (x_unit hr805) ?_
              refine wl_nil ?_
              refine then_n ?_
              refine wp_ret ?_
              replace hst := hst.own_nil tyF64
              replace hst := hst.own_nil tyF2
              replace hst := hst.own_nil tyF64
              replace hst := hst.own_nil (tyInt .u8)
              replace hst := hst.own_nil ty_api_Write
              replace hst := hst.own_nil ty_api_Got
              replace hst := hst.own_nil (tySl ty_api_Pair)
              replace hst := hst.own_nil ty_api_Part
              obtain rfl := some_inj hm
              refine post_ret (vs := [.agg #[.int .u8 (IntKind.u8.wrap (IntKind.i64.wrap ((1:Int) + t492.1))), .int .u64 (0:Int), .int .u64 (0:Int), .int .u64 (0:Int), .int .u64 (0:Int), .int .i64 (0:Int), .int .u64 (0:Int), .int .u64 (0:Int), .int .u64 (0:Int), (.slice none 0 0), (.slice none 0 0), (.slice none 0 0), (.slice none 0 0), (.slice none 0 0), .int .i64 (0:Int), .int .u64 (0:Int), .int .u64 (0:Int), (.slice none 0 0), (.slice none 0 0), .int .u64 (0:Int), (.slice none 0 0), .int .u64 t790.1.ID, .int .i64 t790.1.From, .int .i64 t790.1.To, .float .f64 t790.1.Lo, .float .f64 t790.1.Hi, .int .u64 t790.1.Authority, .int .i64 t790.1.Quota, .bool (decide (t797.1 > (0:Int)))]]) Try.results9 (rvs_cons (rv_cell (cs := [.int .u8 (IntKind.u8.wrap (IntKind.i64.wrap ((1:Int) + t492.1))), .int .u64 (0:Int), .int .u64 (0:Int), .int .u64 (0:Int), .int .u64 (0:Int), .int .i64 (0:Int), .int .u64 (0:Int), .int .u64 (0:Int), .int .u64 (0:Int), (.slice none 0 0), (.slice none 0 0), (.slice none 0 0), (.slice none 0 0), (.slice none 0 0), .int .i64 (0:Int), .int .u64 (0:Int), .int .u64 (0:Int), (.slice none 0 0), (.slice none 0 0), .int .u64 (0:Int), (.slice none 0 0), .int .u64 t790.1.ID, .int .i64 t790.1.From, .int .i64 t790.1.To, .float .f64 t790.1.Lo, .float .f64 t790.1.Hi, .int .u64 t790.1.Authority, .int .i64 t790.1.Quota, .bool (decide (t797.1 > (0:Int)))]) rfl Try.isAgg45 Try.sizeOf45 (hst.bcs8 0 rfl)) rvs_nil) ?_
              replace hst := hst.pull10
              replace hst := hst.pull1
              replace hst := hst.pull2
              replace hst := hst.pull3
              replace hst := hst.pull4
              replace hst := hst.pull5
              replace hst := hst.pull6
              replace hst := hst.pull7
              replace hst := hst.pull8
              exact ⟨_, (.slice none 0 0), (.slice none 0 0), (.slice none 0 0), (.slice none 0 0), (.slice none 0 0), (.slice none 0 0), (.slice none 0 0), (.slice none 0 0), rfl, hI0, hst.keep9⟩
            · skip
              replace hm := bif_f hc789 hm
              refine wp_iff (congrArg Value.bool hc789) ?_
              refine wp_seq ?_
              refine wp_region_lit ?_
              refine wl_val (v := .bool ((IntKind.u8.wrap (IntKind.i64.wrap ((1:Int) + t492.1))) == (7:Int))) rfl rfl rfl ?_
              refine wl_val (v := .bool ((IntKind.u8.wrap (IntKind.i64.wrap ((1:Int) + t492.1))) == (7:Int))) rfl rfl rfl ?_
              refine wl_nil ?_
              refine then_n ?_
              refine bsplit ((IntKind.u8.wrap (IntKind.i64.wrap ((1:Int) + t492.1))) == (7:Int)) (fun hc806 => ?_) (fun hc806 => ?_)
              · skip
                replace hm := bif_t hc806 hm
                refine wp_ift (congrArg Value.bool hc806) ?_
                refine wp_seq ?_
                refine wp_region_lit ?_
                refine wl_val (v := p0) rfl rfl rfl ?_
                replace hst := hst.pull1
                obtain ⟨t807, ht808, hm⟩ := bind_some hm
                refine wl_call rfl rfl (x_call Try.call24 rfl (vs := [p0]) rfl) ?_
                refine (ref12_Tape_Of_ref hst.to1 ht808).mono ?_
                rintro _ w809 ⟨rfl, hst⟩
                refine ⟨_, rfl, ?_⟩
                replace hst := hst.of1
                refine wl_val (v := .pointer (some ⟨b513, 1, none⟩)) rfl rfl (x_field rfl Try.underlying45 rfl Try.sizeOf29 rfl) ?_
                replace hst := hst.pull1
                obtain ⟨w812, hr813, hst⟩ := hst.boxStore (P := Try.prog) (t := 29) (cs' := [.int .u8 (IntKind.u8.wrap (IntKind.i64.wrap ((1:Int) + t492.1))), .int .u64 t807.1.Session, .int .u64 t807.1.Seq, .int .u64 (0:Int), .int .u64 (0:Int), .int .i64 (0:Int), .int .u64 (0:Int), .int .u64 (0:Int), .int .u64 (0:Int), (.slice none 0 0), (.slice none 0 0), (.slice none 0 0), (.slice none 0 0), (.slice none 0 0), .int .i64 (0:Int), .int .u64 (0:Int), .int .u64 (0:Int), (.slice none 0 0), (.slice none 0 0), .int .u64 (0:Int), (.slice none 0 0), .int .u64 (0:Int), .int .i64 (0:Int), .int .i64 (0:Int), .float .f64 (0:Nat), .float .f64 (0:Nat), .int .u64 (0:Int), .int .i64 (0:Int), .bool false]) 1 (.agg #[.int .u64 t807.1.Session, .int .u64 t807.1.Seq]) Try.sizeOf29 (Nat.le_of_ble_eq_true rfl) (ones_cons rfl (ones_cons rfl ones_nil)) (by kernel_rfl)
                refine wl_unit rfl rfl (x_unit hr813) ?_
                refine wl_nil ?_
                refine then_n ?_
                refine wp_seq ?_
                refine wp_region_lit ?_
                refine wl_val (v := p0) rfl rfl rfl ?_
                replace hst := hst.pull1
                obtain ⟨t814, ht815, hm⟩ := bind_some hm
                refine wl_call rfl rfl (x_call Try.call22 rfl (vs := [p0, .int .i64 (4:Int)]) rfl) ?_
                refine (ref12_Tape_Next_ref hst.to1 ht815).mono ?_
                rintro _ w816 ⟨rfl, hst⟩
                refine ⟨_, rfl, ?_⟩
                replace hst := hst.of1
                refine wl_val (v := .int .i64 (IntKind.i64.wrap ((1:Int) + t814.1))) rfl rfl rfl ?_
                refine wl_val (v := .int .u64 (IntKind.u64.wrap (IntKind.i64.wrap ((1:Int) + t814.1)))) rfl rfl (by kernel_rfl) ?_
                refine wl_val (v := .pointer (some ⟨b513, 3, none⟩)) rfl rfl (x_field rfl Try.underlying45 rfl Try.sizeOf27 rfl) ?_
                replace hst := hst.pull1
                obtain ⟨w819, hr820, hst⟩ := hst.boxStore (P := Try.prog) (t := 27) (cs' := [.int .u8 (IntKind.u8.wrap (IntKind.i64.wrap ((1:Int) + t492.1))), .int .u64 t807.1.Session, .int .u64 t807.1.Seq, .int .u64 (IntKind.u64.wrap (IntKind.i64.wrap ((1:Int) + t814.1))), .int .u64 (0:Int), .int .i64 (0:Int), .int .u64 (0:Int), .int .u64 (0:Int), .int .u64 (0:Int), (.slice none 0 0), (.slice none 0 0), (.slice none 0 0), (.slice none 0 0), (.slice none 0 0), .int .i64 (0:Int), .int .u64 (0:Int), .int .u64 (0:Int), (.slice none 0 0), (.slice none 0 0), .int .u64 (0:Int), (.slice none 0 0), .int .u64 (0:Int), .int .i64 (0:Int), .int .i64 (0:Int), .float .f64 (0:Nat), .float .f64 (0:Nat), .int .u64 (0:Int), .int .i64 (0:Int), .bool false]) 3 (.int .u64 (IntKind.u64.wrap (IntKind.i64.wrap ((1:Int) + t814.1)))) Try.sizeOf27 (Nat.le_of_ble_eq_true rfl) (ones_cons rfl ones_nil) (by kernel_rfl)
                refine wl_unit rfl rfl (x_unit hr820) ?_
                refine wl_nil ?_
                refine then_n ?_
                refine wp_seq ?_
                refine wp_region_lit ?_
                refine wl_val (v := p0) rfl rfl rfl ?_
                replace hst := hst.pull1
                obtain ⟨t821, ht822, hm⟩ := bind_some hm
                refine wl_call rfl rfl (x_call Try.call26 rfl (vs := [p0]) rfl) ?_
                refine (ref13_OfRule_ref hst.to1 ht822).mono ?_
                rintro _ w823 ⟨rfl, hst⟩
                refine ⟨_, rfl, ?_⟩
                replace hst := hst.of1
                refine wl_val (v := .pointer (some ⟨b513, 21, none⟩)) rfl rfl (x_field rfl Try.underlying45 rfl Try.sizeOf43 rfl) ?_
                replace hst := hst.pull1
                obtain ⟨w826, hr827, hst⟩ := hst.boxStore (P := Try.prog) (t := 43) (cs' := [.int .u8 (IntKind.u8.wrap (IntKind.i64.wrap ((1:Int) + t492.1))), .int .u64 t807.1.Session, .int .u64 t807.1.Seq, .int .u64 (IntKind.u64.wrap (IntKind.i64.wrap ((1:Int) + t814.1))), .int .u64 (0:Int), .int .i64 (0:Int), .int .u64 (0:Int), .int .u64 (0:Int), .int .u64 (0:Int), (.slice none 0 0), (.slice none 0 0), (.slice none 0 0), (.slice none 0 0), (.slice none 0 0), .int .i64 (0:Int), .int .u64 (0:Int), .int .u64 (0:Int), (.slice none 0 0), (.slice none 0 0), .int .u64 (0:Int), (.slice none 0 0), .int .u64 t821.1.ID, .int .i64 t821.1.From, .int .i64 t821.1.To, .float .f64 t821.1.Lo, .float .f64 t821.1.Hi, .int .u64 t821.1.Authority, .int .i64 t821.1.Quota, .bool false]) 21 (.agg #[.int .u64 t821.1.ID, .int .i64 t821.1.From, .int .i64 t821.1.To, .float .f64 t821.1.Lo, .float .f64 t821.1.Hi, .int .u64 t821.1.Authority, .int .i64 t821.1.Quota]) Try.sizeOf43 (Nat.le_of_ble_eq_true rfl) (ones_cons rfl (ones_cons rfl (ones_cons rfl (ones_cons rfl (ones_cons rfl (ones_cons rfl (ones_cons rfl ones_nil))))))) (by kernel_rfl)
                refine wl_unit rfl rfl (x_unit hr827) ?_
                refine wl_nil ?_
                refine then_n ?_
                refine wp_seq ?_
                refine wp_region_lit ?_
                refine wl_val (v := p0) rfl rfl rfl ?_
                replace hst := hst.pull1
                obtain ⟨t828, ht829, hm⟩ := bind_some hm
                refine wl_call rfl rfl (x_call Try.call25 rfl (vs := [p0]) rfl) ?_
                refine (ref13_OfWrites_ref hst.to1 ht829).mono ?_
                rintro _ w830 ⟨I831, v833, rfl, hI832, hst⟩
                refine ⟨_, rfl, ?_⟩
                replace hst := hst.of2
                replace hI0 := hI0.trans hI832
                refine wl_val (v := .pointer (some ⟨b513, 13, none⟩)) rfl rfl (x_field rfl Try.underlying45 rfl Try.sizeOf35 rfl) ?_
                replace hst := hst.pull2
                obtain ⟨w835, hr836, hst⟩ := hst.boxStore1 (P := Try.prog) (t := 35) (cs' := [.int .u8 (IntKind.u8.wrap (IntKind.i64.wrap ((1:Int) + t492.1))), .int .u64 t807.1.Session, .int .u64 t807.1.Seq, .int .u64 (IntKind.u64.wrap (IntKind.i64.wrap ((1:Int) + t814.1))), .int .u64 (0:Int), .int .i64 (0:Int), .int .u64 (0:Int), .int .u64 (0:Int), .int .u64 (0:Int), (.slice none 0 0), (.slice none 0 0), (.slice none 0 0), (.slice none 0 0), v833, .int .i64 (0:Int), .int .u64 (0:Int), .int .u64 (0:Int), (.slice none 0 0), (.slice none 0 0), .int .u64 (0:Int), (.slice none 0 0), .int .u64 t821.1.ID, .int .i64 t821.1.From, .int .i64 t821.1.To, .float .f64 t821.1.Lo, .float .f64 t821.1.Hi, .int .u64 t821.1.Authority, .int .i64 t821.1.Quota, .bool false]) 13 v833 (one_of_sliceV hst.sv1) Try.sizeOf35 rfl rfl
                refine wl_unit rfl rfl (x_unit hr836) ?_
                refine wl_nil ?_
                refine then_n ?_
                refine wp_region_lit ?_
                refine wl_val (v := p0) rfl rfl rfl ?_
                replace hst := hst.pull2
                obtain ⟨t837, ht838, hm⟩ := bind_some hm
                refine wl_call rfl rfl (x_call Try.call12 rfl (vs := [p0]) rfl) ?_
                refine (ref13_OfReply_ref hst.to1 ht838).mono ?_
                rintro _ w839 ⟨I840, v842, v844, rfl, hI841, hst⟩
                refine ⟨_, rfl, ?_⟩
                replace hst := hst.of3
                replace hI0 := hI0.trans hI841
                refine wl_val (v := .pointer (some ⟨b513, 14, none⟩)) rfl rfl (x_field rfl Try.underlying45 rfl Try.sizeOf39 rfl) ?_
                replace hst := hst.pull3
                obtain ⟨w846, hr847, hst⟩ := hst.boxStore (P := Try.prog) (t := 39) (cs' := [.int .u8 (IntKind.u8.wrap (IntKind.i64.wrap ((1:Int) + t492.1))), .int .u64 t807.1.Session, .int .u64 t807.1.Seq, .int .u64 (IntKind.u64.wrap (IntKind.i64.wrap ((1:Int) + t814.1))), .int .u64 (0:Int), .int .i64 (0:Int), .int .u64 (0:Int), .int .u64 (0:Int), .int .u64 (0:Int), (.slice none 0 0), (.slice none 0 0), (.slice none 0 0), (.slice none 0 0), v833, .int .i64 t837.1.E, .int .u64 t837.1.Epoch, .int .u64 t837.1.Index, v842, v844, .int .u64 (0:Int), (.slice none 0 0), .int .u64 t821.1.ID, .int .i64 t821.1.From, .int .i64 t821.1.To, .float .f64 t821.1.Lo, .float .f64 t821.1.Hi, .int .u64 t821.1.Authority, .int .i64 t821.1.Quota, .bool false]) 14 (.agg #[.int .i64 t837.1.E, .int .u64 t837.1.Epoch, .int .u64 t837.1.Index, v842, v844]) Try.sizeOf39 (Nat.le_of_ble_eq_true rfl) (ones_cons rfl (ones_cons rfl (ones_cons rfl (ones_cons (one_of_sliceV hst.sv1) (ones_cons (one_of_sliceV hst.sv2) ones_nil))))) (by kernel_rfl)
                refine wl_unit rfl rfl (x_unit hr847) ?_
                refine wl_nil ?_
                refine blk_n ?_
                refine then_n ?_
                refine wp_seq ?_
                refine wp_region_lit ?_
                refine wl_val (v := .agg #[.int .u8 (IntKind.u8.wrap (IntKind.i64.wrap ((1:Int) + t492.1))), .int .u64 t807.1.Session, .int .u64 t807.1.Seq, .int .u64 (IntKind.u64.wrap (IntKind.i64.wrap ((1:Int) + t814.1))), .int .u64 (0:Int), .int .i64 (0:Int), .int .u64 (0:Int), .int .u64 (0:Int), .int .u64 (0:Int), (.slice none 0 0), (.slice none 0 0), (.slice none 0 0), (.slice none 0 0), v833, .int .i64 t837.1.E, .int .u64 t837.1.Epoch, .int .u64 t837.1.Index, v842, v844, .int .u64 (0:Int), (.slice none 0 0), .int .u64 t821.1.ID, .int .i64 t821.1.From, .int .i64 t821.1.To, .float .f64 t821.1.Lo, .float .f64 t821.1.Hi, .int .u64 t821.1.Authority, .int .i64 t821.1.Quota, .bool false]) rfl rfl (x_loadN (cs := [.int .u8 (IntKind.u8.wrap (IntKind.i64.wrap ((1:Int) + t492.1))), .int .u64 t807.1.Session, .int .u64 t807.1.Seq, .int .u64 (IntKind.u64.wrap (IntKind.i64.wrap ((1:Int) + t814.1))), .int .u64 (0:Int), .int .i64 (0:Int), .int .u64 (0:Int), .int .u64 (0:Int), .int .u64 (0:Int), (.slice none 0 0), (.slice none 0 0), (.slice none 0 0), (.slice none 0 0), v833, .int .i64 t837.1.E, .int .u64 t837.1.Epoch, .int .u64 t837.1.Index, v842, v844, .int .u64 (0:Int), (.slice none 0 0), .int .u64 t821.1.ID, .int .i64 t821.1.From, .int .i64 t821.1.To, .float .f64 t821.1.Lo, .float .f64 t821.1.Hi, .int .u64 t821.1.Authority, .int .i64 t821.1.Quota, .bool false]) rfl Try.isAgg45 Try.sizeOf45 (hst.bcs0 0 rfl)) ?_
                replace hst := hst.pull5
                obtain ⟨w848, hr849, hst⟩ := hst.boxStore (P := Try.prog) (t := 45) (cs' := [.int .u8 (IntKind.u8.wrap (IntKind.i64.wrap ((1:Int) + t492.1))), .int .u64 t807.1.Session, .int .u64 t807.1.Seq, .int .u64 (IntKind.u64.wrap (IntKind.i64.wrap ((1:Int) + t814.1))), .int .u64 (0:Int), .int .i64 (0:Int), .int .u64 (0:Int), .int .u64 (0:Int), .int .u64 (0:Int), (.slice none 0 0), (.slice none 0 0), (.slice none 0 0), (.slice none 0 0), v833, .int .i64 t837.1.E, .int .u64 t837.1.Epoch, .int .u64 t837.1.Index, v842, v844, .int .u64 (0:Int), (.slice none 0 0), .int .u64 t821.1.ID, .int .i64 t821.1.From, .int .i64 t821.1.To, .float .f64 t821.1.Lo, .float .f64 t821.1.Hi, .int .u64 t821.1.Authority, .int .i64 t821.1.Quota, .bool false]) 0 (.agg #[.int .u8 (IntKind.u8.wrap (IntKind.i64.wrap ((1:Int) + t492.1))), .int .u64 t807.1.Session, .int .u64 t807.1.Seq, .int .u64 (IntKind.u64.wrap (IntKind.i64.wrap ((1:Int) + t814.1))), .int .u64 (0:Int), .int .i64 (0:Int), .int .u64 (0:Int), .int .u64 (0:Int), .int .u64 (0:Int), (.slice none 0 0), (.slice none 0 0), (.slice none 0 0), (.slice none 0 0), v833, .int .i64 t837.1.E, .int .u64 t837.1.Epoch, .int .u64 t837.1.Index, v842, v844, .int .u64 (0:Int), (.slice none 0 0), .int .u64 t821.1.ID, .int .i64 t821.1.From, .int .i64 t821.1.To, .float .f64 t821.1.Lo, .float .f64 t821.1.Hi, .int .u64 t821.1.Authority, .int .i64 t821.1.Quota, .bool false]) Try.sizeOf45 (Nat.le_of_ble_eq_true rfl) (ones_cons rfl (ones_cons rfl (ones_cons rfl (ones_cons rfl (ones_cons rfl (ones_cons rfl (ones_cons rfl (ones_cons rfl (ones_cons rfl (ones_cons rfl (ones_cons rfl (ones_cons rfl (ones_cons rfl (ones_cons (one_of_sliceV hst.sv5) (ones_cons rfl (ones_cons rfl (ones_cons rfl (ones_cons (one_of_sliceV hst.sv2) (ones_cons (one_of_sliceV hst.sv3) (ones_cons rfl (ones_cons rfl (ones_cons rfl (ones_cons rfl (ones_cons rfl (ones_cons rfl (ones_cons rfl (ones_cons rfl (ones_cons rfl (ones_cons rfl ones_nil))))))))))))))))))))))))))))) (by kernel_rfl)
                refine wl_unit rfl rfl (x_unit hr849) ?_
                refine wl_nil ?_
                refine then_n ?_
                refine wp_ret ?_
                replace hst := hst.own_nil tyF64
                replace hst := hst.own_nil tyF2
                replace hst := hst.own_nil tyF64
                replace hst := hst.own_nil (tyInt .u8)
                replace hst := hst.own_nil ty_api_Part
                obtain rfl := some_inj hm
                refine post_ret (vs := [.agg #[.int .u8 (IntKind.u8.wrap (IntKind.i64.wrap ((1:Int) + t492.1))), .int .u64 t807.1.Session, .int .u64 t807.1.Seq, .int .u64 (IntKind.u64.wrap (IntKind.i64.wrap ((1:Int) + t814.1))), .int .u64 (0:Int), .int .i64 (0:Int), .int .u64 (0:Int), .int .u64 (0:Int), .int .u64 (0:Int), (.slice none 0 0), (.slice none 0 0), (.slice none 0 0), (.slice none 0 0), v833, .int .i64 t837.1.E, .int .u64 t837.1.Epoch, .int .u64 t837.1.Index, v842, v844, .int .u64 (0:Int), (.slice none 0 0), .int .u64 t821.1.ID, .int .i64 t821.1.From, .int .i64 t821.1.To, .float .f64 t821.1.Lo, .float .f64 t821.1.Hi, .int .u64 t821.1.Authority, .int .i64 t821.1.Quota, .bool false]]) Try.results9 (rvs_cons (rv_cell (cs := [.int .u8 (IntKind.u8.wrap (IntKind.i64.wrap ((1:Int) + t492.1))), .int .u64 t807.1.Session, .int .u64 t807.1.Seq, .int .u64 (IntKind.u64.wrap (IntKind.i64.wrap ((1:Int) + t814.1))), .int .u64 (0:Int), .int .i64 (0:Int), .int .u64 (0:Int), .int .u64 (0:Int), .int .u64 (0:Int), (.slice none 0 0), (.slice none 0 0), (.slice none 0 0), (.slice none 0 0), v833, .int .i64 t837.1.E, .int .u64 t837.1.Epoch, .int .u64 t837.1.Index, v842, v844, .int .u64 (0:Int), (.slice none 0 0), .int .u64 t821.1.ID, .int .i64 t821.1.From, .int .i64 t821.1.To, .float .f64 t821.1.Lo, .float .f64 t821.1.Hi, .int .u64 t821.1.Authority, .int .i64 t821.1.Quota, .bool false]) rfl Try.isAgg45 Try.sizeOf45 (hst.bcs5 0 rfl)) rvs_nil) ?_
                replace hst := hst.pull9
                replace hst := hst.pull1
                replace hst := hst.pull9
                replace hst := hst.pull9
                replace hst := hst.pull10
                replace hst := hst.pull5
                replace hst := hst.pull6
                replace hst := hst.pull7
                replace hst := hst.pull8
                exact ⟨_, (.slice none 0 0), (.slice none 0 0), (.slice none 0 0), (.slice none 0 0), v833, v842, v844, (.slice none 0 0), rfl, hI0, hst.keep9⟩
              · skip
                replace hm := bif_f hc806 hm
                refine wp_iff (congrArg Value.bool hc806) ?_
                refine wp_skip ?_
                refine blk_n ?_
                refine then_n ?_
                refine wp_seq ?_
                refine wp_region_lit ?_
                refine wl_val (v := .agg #[.int .u8 (IntKind.u8.wrap (IntKind.i64.wrap ((1:Int) + t492.1))), .int .u64 (0:Int), .int .u64 (0:Int), .int .u64 (0:Int), .int .u64 (0:Int), .int .i64 (0:Int), .int .u64 (0:Int), .int .u64 (0:Int), .int .u64 (0:Int), (.slice none 0 0), (.slice none 0 0), (.slice none 0 0), (.slice none 0 0), (.slice none 0 0), .int .i64 (0:Int), .int .u64 (0:Int), .int .u64 (0:Int), (.slice none 0 0), (.slice none 0 0), .int .u64 (0:Int), (.slice none 0 0), .int .u64 (0:Int), .int .i64 (0:Int), .int .i64 (0:Int), .float .f64 (0:Nat), .float .f64 (0:Nat), .int .u64 (0:Int), .int .i64 (0:Int), .bool false]) rfl rfl (x_loadN (cs := [.int .u8 (IntKind.u8.wrap (IntKind.i64.wrap ((1:Int) + t492.1))), .int .u64 (0:Int), .int .u64 (0:Int), .int .u64 (0:Int), .int .u64 (0:Int), .int .i64 (0:Int), .int .u64 (0:Int), .int .u64 (0:Int), .int .u64 (0:Int), (.slice none 0 0), (.slice none 0 0), (.slice none 0 0), (.slice none 0 0), (.slice none 0 0), .int .i64 (0:Int), .int .u64 (0:Int), .int .u64 (0:Int), (.slice none 0 0), (.slice none 0 0), .int .u64 (0:Int), (.slice none 0 0), .int .u64 (0:Int), .int .i64 (0:Int), .int .i64 (0:Int), .float .f64 (0:Nat), .float .f64 (0:Nat), .int .u64 (0:Int), .int .i64 (0:Int), .bool false]) rfl Try.isAgg45 Try.sizeOf45 (hst.bcs0 0 rfl)) ?_
                replace hst := hst.pull2
                obtain ⟨w850, hr851, hst⟩ := hst.boxStore (P := Try.prog) (t := 45) (cs' := [.int .u8 (IntKind.u8.wrap (IntKind.i64.wrap ((1:Int) + t492.1))), .int .u64 (0:Int), .int .u64 (0:Int), .int .u64 (0:Int), .int .u64 (0:Int), .int .i64 (0:Int), .int .u64 (0:Int), .int .u64 (0:Int), .int .u64 (0:Int), (.slice none 0 0), (.slice none 0 0), (.slice none 0 0), (.slice none 0 0), (.slice none 0 0), .int .i64 (0:Int), .int .u64 (0:Int), .int .u64 (0:Int), (.slice none 0 0), (.slice none 0 0), .int .u64 (0:Int), (.slice none 0 0), .int .u64 (0:Int), .int .i64 (0:Int), .int .i64 (0:Int), .float .f64 (0:Nat), .float .f64 (0:Nat), .int .u64 (0:Int), .int .i64 (0:Int), .bool false]) 0 (.agg #[.int .u8 (IntKind.u8.wrap (IntKind.i64.wrap ((1:Int) + t492.1))), .int .u64 (0:Int), .int .u64 (0:Int), .int .u64 (0:Int), .int .u64 (0:Int), .int .i64 (0:Int), .int .u64 (0:Int), .int .u64 (0:Int), .int .u64 (0:Int), (.slice none 0 0), (.slice none 0 0), (.slice none 0 0), (.slice none 0 0), (.slice none 0 0), .int .i64 (0:Int), .int .u64 (0:Int), .int .u64 (0:Int), (.slice none 0 0), (.slice none 0 0), .int .u64 (0:Int), (.slice none 0 0), .int .u64 (0:Int), .int .i64 (0:Int), .int .i64 (0:Int), .float .f64 (0:Nat), .float .f64 (0:Nat), .int .u64 (0:Int), .int .i64 (0:Int), .bool false]) Try.sizeOf45 (Nat.le_of_ble_eq_true rfl) (ones_cons rfl (ones_cons rfl (ones_cons rfl (ones_cons rfl (ones_cons rfl (ones_cons rfl (ones_cons rfl (ones_cons rfl (ones_cons rfl (ones_cons rfl (ones_cons rfl (ones_cons rfl (ones_cons rfl (ones_cons rfl (ones_cons rfl (ones_cons rfl (ones_cons rfl (ones_cons rfl (ones_cons rfl (ones_cons rfl (ones_cons rfl (ones_cons rfl (ones_cons rfl (ones_cons rfl (ones_cons rfl (ones_cons rfl (ones_cons rfl (ones_cons rfl (ones_cons rfl ones_nil))))))))))))))))))))))))))))) (by kernel_rfl)
                refine wl_unit rfl rfl (x_unit hr851) ?_
                refine wl_nil ?_
                refine then_n ?_
                refine wp_ret ?_
                replace hst := hst.own_nil tyF64
                replace hst := hst.own_nil tyF2
                replace hst := hst.own_nil tyF64
                replace hst := hst.own_nil (tyInt .u8)
                replace hst := hst.own_nil ty_api_Write
                replace hst := hst.own_nil ty_api_Got
                replace hst := hst.own_nil (tySl ty_api_Pair)
                replace hst := hst.own_nil ty_api_Part
                obtain rfl := some_inj hm
                refine post_ret (vs := [.agg #[.int .u8 (IntKind.u8.wrap (IntKind.i64.wrap ((1:Int) + t492.1))), .int .u64 (0:Int), .int .u64 (0:Int), .int .u64 (0:Int), .int .u64 (0:Int), .int .i64 (0:Int), .int .u64 (0:Int), .int .u64 (0:Int), .int .u64 (0:Int), (.slice none 0 0), (.slice none 0 0), (.slice none 0 0), (.slice none 0 0), (.slice none 0 0), .int .i64 (0:Int), .int .u64 (0:Int), .int .u64 (0:Int), (.slice none 0 0), (.slice none 0 0), .int .u64 (0:Int), (.slice none 0 0), .int .u64 (0:Int), .int .i64 (0:Int), .int .i64 (0:Int), .float .f64 (0:Nat), .float .f64 (0:Nat), .int .u64 (0:Int), .int .i64 (0:Int), .bool false]]) Try.results9 (rvs_cons (rv_cell (cs := [.int .u8 (IntKind.u8.wrap (IntKind.i64.wrap ((1:Int) + t492.1))), .int .u64 (0:Int), .int .u64 (0:Int), .int .u64 (0:Int), .int .u64 (0:Int), .int .i64 (0:Int), .int .u64 (0:Int), .int .u64 (0:Int), .int .u64 (0:Int), (.slice none 0 0), (.slice none 0 0), (.slice none 0 0), (.slice none 0 0), (.slice none 0 0), .int .i64 (0:Int), .int .u64 (0:Int), .int .u64 (0:Int), (.slice none 0 0), (.slice none 0 0), .int .u64 (0:Int), (.slice none 0 0), .int .u64 (0:Int), .int .i64 (0:Int), .int .i64 (0:Int), .float .f64 (0:Nat), .float .f64 (0:Nat), .int .u64 (0:Int), .int .i64 (0:Int), .bool false]) rfl Try.isAgg45 Try.sizeOf45 (hst.bcs8 0 rfl)) rvs_nil) ?_
                replace hst := hst.pull10
                replace hst := hst.pull1
                replace hst := hst.pull2
                replace hst := hst.pull3
                replace hst := hst.pull4
                replace hst := hst.pull5
                replace hst := hst.pull6
                replace hst := hst.pull7
                replace hst := hst.pull8
                exact ⟨_, (.slice none 0 0), (.slice none 0 0), (.slice none 0 0), (.slice none 0 0), (.slice none 0 0), (.slice none 0 0), (.slice none 0 0), (.slice none 0 0), rfl, hI0, hst.keep9⟩

theorem law13_CommandJunk_ref {w0 w : World} {I : HL} {R : SP} {a0 : (List Int)} {r0_0 : Value} {a1 : (List Int)} {r1_0 : Value} {a2 : Int} {a3 : Int} (f0_0 : Ro (tyInt .u8) I r0_0 a0) (f1_0 : Ro (tyInt .u8) I r1_0 a1) (hst : St w0 w I [] R) {r : (Bool)} (hm : law13_CommandJunk a0 a1 a2 a3 = some r) :
    Calls Try.prog 5 #[r0_0, r1_0, .int .u16 a2, .int .u8 a3] w fun e w' => ∃ (I' : HL), e = .returned (.bool r) ∧ I.le I' ∧ St w0 w' I' [] R := by
  unfold law13_CommandJunk at hm
  refine calls_start (args := [r0_0, r1_0, .int .u16 a2, .int .u8 a3]) Try.func5 rfl Try.ntmps5 (Nat.le_of_ble_eq_true rfl) ?_
  have hI0 := HL.le.refl I
  refine wp_seq ?_
  refine wp_region_lit ?_
  refine wl_val (v := .bool false) rfl rfl rfl ?_
  refine wl_nil ?_
  refine then_n ?_
  refine wp_seq ?_
  refine wp_seq ?_
  refine wp_region_lit ?_
  obtain ⟨t224, ht225, hm⟩ := bind_some hm
  refine wl_call rfl rfl (x_call Try.call8 rfl (vs := []) rfl) ?_
  refine (law13_awake_ref hst.to0 ht225).mono ?_
  rintro _ w226 ⟨rfl, hst⟩
  refine ⟨_, rfl, ?_⟩
  replace hst := hst.of0
  refine wl_val (v := .bool (!t224)) rfl rfl rfl ?_
  refine wl_val (v := .bool (!t224)) rfl rfl rfl ?_
  refine bsplit (!t224) (fun hc229 => ?_) (fun hc229 => ?_)
  · skip
    replace hm := bif_t hc229 hm
    refine wl_off ((wanted_eq rfl rfl rfl (congrArg Value.bool hc229)).trans rfl) rfl ?_
    refine wl_off ((wanted_eq rfl rfl rfl (congrArg Value.bool hc229)).trans rfl) rfl ?_
    refine wl_off ((wanted_eq rfl rfl rfl (congrArg Value.bool hc229)).trans rfl) rfl ?_
    refine wl_val (v := .bool true) rfl rfl (x_pick_t hc229 rfl rfl) ?_
    refine wl_val (v := .bool true) rfl rfl rfl ?_
    refine wl_off ((wanted_eq rfl rfl rfl rfl).trans rfl) rfl ?_
    refine wl_off ((wanted_eq rfl rfl rfl rfl).trans rfl) rfl ?_
    refine wl_off ((wanted_eq rfl rfl rfl rfl).trans rfl) rfl ?_
    refine wl_val (v := .bool true) rfl rfl (x_pick_t rfl rfl rfl) ?_
    refine wl_nil ?_
    refine then_n ?_
    refine wp_ift rfl ?_
    refine wp_seq ?_
    refine wp_region_lit ?_
    obtain ⟨t230, ht231, hm⟩ := bind_some hm
    refine wl_call rfl rfl (x_call Try.call8 rfl (vs := []) rfl) ?_
    refine (law13_awake_ref hst.to0 ht231).mono ?_
    rintro _ w232 ⟨rfl, hst⟩
    refine ⟨_, rfl, ?_⟩
    replace hst := hst.of0
    refine wl_val (v := .bool t230) rfl rfl rfl ?_
    refine wl_nil ?_
    refine then_n ?_
    refine wp_ret ?_
    refine then_r ?_
    obtain rfl := some_inj hm
    refine post_ret (vs := [.bool t230]) Try.results5 (rvs_cons (rv_tmp rfl) rvs_nil) ?_
    exact ⟨_, rfl, hI0, hst.keep0⟩
  · skip
    replace hm := bif_f hc229 hm
    refine wl_val (v := r0_0) ((wanted_eq rfl rfl rfl (congrArg Value.bool hc229)).trans rfl) rfl rfl ?_
    refine wl_val (v := .int .i64 ((a0).length : Int)) ((wanted_eq rfl rfl rfl (congrArg Value.bool hc229)).trans rfl) rfl (x_len rfl Try.underlying22 (ro_sliceV f0_0)) ?_
    refine wl_val (v := .bool (decide (((a0).length : Int) > (1000:Int)))) ((wanted_eq rfl rfl rfl (congrArg Value.bool hc229)).trans rfl) rfl rfl ?_
    refine wl_val (v := .bool (decide (((a0).length : Int) > (1000:Int)))) rfl rfl (x_pick_f hc229 rfl rfl) ?_
    refine wl_val (v := .bool (decide (((a0).length : Int) > (1000:Int)))) rfl rfl rfl ?_
    refine bsplit (decide (((a0).length : Int) > (1000:Int))) (fun hc235 => ?_) (fun hc235 => ?_)
    · skip
      replace hm := bif_t hc235 hm
      refine wl_off ((wanted_eq rfl rfl rfl (congrArg Value.bool hc235)).trans rfl) rfl ?_
      refine wl_off ((wanted_eq rfl rfl rfl (congrArg Value.bool hc235)).trans rfl) rfl ?_
      refine wl_off ((wanted_eq rfl rfl rfl (congrArg Value.bool hc235)).trans rfl) rfl ?_
      refine wl_val (v := .bool true) rfl rfl (x_pick_t hc235 rfl rfl) ?_
      refine wl_nil ?_
      refine then_n ?_
      refine wp_ift rfl ?_
      refine wp_seq ?_
      refine wp_region_lit ?_
      obtain ⟨t236, ht237, hm⟩ := bind_some hm
      refine wl_call rfl rfl (x_call Try.call8 rfl (vs := []) rfl) ?_
      refine (law13_awake_ref hst.to0 ht237).mono ?_
      rintro _ w238 ⟨rfl, hst⟩
      refine ⟨_, rfl, ?_⟩
      replace hst := hst.of0
      refine wl_val (v := .bool t236) rfl rfl rfl ?_
      refine wl_nil ?_
      refine then_n ?_
      refine wp_ret ?_
      refine then_r ?_
      obtain rfl := some_inj hm
      refine post_ret (vs := [.bool t236]) Try.results5 (rvs_cons (rv_tmp rfl) rvs_nil) ?_
      exact ⟨_, rfl, hI0, hst.keep0⟩
    · skip
      replace hm := bif_f hc235 hm
      refine wl_val (v := r1_0) ((wanted_eq rfl rfl rfl (congrArg Value.bool hc235)).trans rfl) rfl rfl ?_
      refine wl_val (v := .int .i64 ((a1).length : Int)) ((wanted_eq rfl rfl rfl (congrArg Value.bool hc235)).trans rfl) rfl (x_len rfl Try.underlying22 (ro_sliceV f1_0)) ?_
      refine wl_val (v := .bool (decide (((a1).length : Int) > (200:Int)))) ((wanted_eq rfl rfl rfl (congrArg Value.bool hc235)).trans rfl) rfl rfl ?_
      refine wl_val (v := .bool (decide (((a1).length : Int) > (200:Int)))) rfl rfl (x_pick_f hc235 rfl rfl) ?_
      refine wl_nil ?_
      refine then_n ?_
      refine bsplit (decide (((a1).length : Int) > (200:Int))) (fun hc241 => ?_) (fun hc241 => ?_)
      · skip
        replace hm := bif_t hc241 hm
        refine wp_ift (congrArg Value.bool hc241) ?_
        refine wp_seq ?_
        refine wp_region_lit ?_
        obtain ⟨t242, ht243, hm⟩ := bind_some hm
        refine wl_call rfl rfl (x_call Try.call8 rfl (vs := []) rfl) ?_
        refine (law13_awake_ref hst.to0 ht243).mono ?_
        rintro _ w244 ⟨rfl, hst⟩
        refine ⟨_, rfl, ?_⟩
        replace hst := hst.of0
        refine wl_val (v := .bool t242) rfl rfl rfl ?_
        refine wl_nil ?_
        refine then_n ?_
        refine wp_ret ?_
        refine then_r ?_
        obtain rfl := some_inj hm
        refine post_ret (vs := [.bool t242]) Try.results5 (rvs_cons (rv_tmp rfl) rvs_nil) ?_
        exact ⟨_, rfl, hI0, hst.keep0⟩
      · skip
        replace hm := bif_f hc241 hm
        refine wp_iff (congrArg Value.bool hc241) ?_
        refine wp_skip ?_
        refine then_n ?_
        refine wp_seq ?_
        refine wp_region_lit ?_
        refine wl_val (v := r0_0) rfl rfl rfl ?_
        obtain ⟨t247, ht248, hm⟩ := bind_some hm
        refine wl_call rfl rfl (x_call Try.call20 rfl (vs := [r0_0]) rfl) ?_
        refine (command_Decode_ref f0_0 hst.to0 ht248).mono ?_
        rintro _ w249 ⟨I250, v252, v254, v256, v258, v260, v262, v264, v266, rfl, hI251, hst⟩
        refine ⟨_, rfl, ?_⟩
        replace hst := hst.of8
        replace f0_0 := f0_0.mono (ro_le hI251)
        replace f1_0 := f1_0.mono (ro_le hI251)
        replace hI0 := hI0.trans hI251
        refine wl_val (v := .tuple #[.agg #[.int .u8 t247.1.Kind, .int .u64 t247.1.ID.Session, .int .u64 t247.1.ID.Seq, .int .u64 t247.1.Epoch, .int .u64 t247.1.Index, .int .i64 t247.1.E, .int .u64 t247.1.Hold.ID.Session, .int .u64 t247.1.Hold.ID.Seq, .int .u64 t247.1.Hold.Epoch, v252, v254, v256, v258, v260, .int .i64 t247.1.R.E, .int .u64 t247.1.R.Epoch, .int .u64 t247.1.R.Index, v262, v264, .int .u64 t247.1.Shards, v266, .int .u64 t247.1.Rule.ID, .int .i64 t247.1.Rule.From, .int .i64 t247.1.Rule.To, .float .f64 t247.1.Rule.Lo, .float .f64 t247.1.Rule.Hi, .int .u64 t247.1.Rule.Authority, .int .i64 t247.1.Rule.Quota, .bool t247.1.On], .int .i64 t247.2]) rfl rfl rfl ?_
        refine wl_val (v := .agg #[.int .u8 t247.1.Kind, .int .u64 t247.1.ID.Session, .int .u64 t247.1.ID.Seq, .int .u64 t247.1.Epoch, .int .u64 t247.1.Index, .int .i64 t247.1.E, .int .u64 t247.1.Hold.ID.Session, .int .u64 t247.1.Hold.ID.Seq, .int .u64 t247.1.Hold.Epoch, v252, v254, v256, v258, v260, .int .i64 t247.1.R.E, .int .u64 t247.1.R.Epoch, .int .u64 t247.1.R.Index, v262, v264, .int .u64 t247.1.Shards, v266, .int .u64 t247.1.Rule.ID, .int .i64 t247.1.Rule.From, .int .i64 t247.1.Rule.To, .float .f64 t247.1.Rule.Lo, .float .f64 t247.1.Rule.Hi, .int .u64 t247.1.Rule.Authority, .int .i64 t247.1.Rule.Quota, .bool t247.1.On]) rfl rfl rfl ?_
        refine wl_val (v := .int .i64 t247.2) rfl rfl rfl ?_
        obtain ⟨b276, w277, ew278, eb279, hst⟩ := hst.box [.int .u8 (0:Int), .int .u64 (0:Int), .int .u64 (0:Int), .int .u64 (0:Int), .int .u64 (0:Int), .int .i64 (0:Int), .int .u64 (0:Int), .int .u64 (0:Int), .int .u64 (0:Int), (.slice none 0 0), (.slice none 0 0), (.slice none 0 0), (.slice none 0 0), (.slice none 0 0), .int .i64 (0:Int), .int .u64 (0:Int), .int .u64 (0:Int), (.slice none 0 0), (.slice none 0 0), .int .u64 (0:Int), (.slice none 0 0), .int .u64 (0:Int), .int .i64 (0:Int), .int .i64 (0:Int), .float .f64 (0:Nat), .float .f64 (0:Nat), .int .u64 (0:Int), .int .i64 (0:Int), .bool false] 45
        refine wl_run (v := .pointer (some ⟨b276, 0, none⟩)) (w' := w277) rfl rfl (x_al (by kernel_rfl) ew278 eb279) ?_
        obtain ⟨w281, hr282, hst⟩ := hst.boxStore (P := Try.prog) (t := 45) (cs' := [.int .u8 t247.1.Kind, .int .u64 t247.1.ID.Session, .int .u64 t247.1.ID.Seq, .int .u64 t247.1.Epoch, .int .u64 t247.1.Index, .int .i64 t247.1.E, .int .u64 t247.1.Hold.ID.Session, .int .u64 t247.1.Hold.ID.Seq, .int .u64 t247.1.Hold.Epoch, v252, v254, v256, v258, v260, .int .i64 t247.1.R.E, .int .u64 t247.1.R.Epoch, .int .u64 t247.1.R.Index, v262, v264, .int .u64 t247.1.Shards, v266, .int .u64 t247.1.Rule.ID, .int .i64 t247.1.Rule.From, .int .i64 t247.1.Rule.To, .float .f64 t247.1.Rule.Lo, .float .f64 t247.1.Rule.Hi, .int .u64 t247.1.Rule.Authority, .int .i64 t247.1.Rule.Quota, .bool t247.1.On]) 0 (.agg #[.int .u8 t247.1.Kind, .int .u64 t247.1.ID.Session, .int .u64 t247.1.ID.Seq, .int .u64 t247.1.Epoch, .int .u64 t247.1.Index, .int .i64 t247.1.E, .int .u64 t247.1.Hold.ID.Session, .int .u64 t247.1.Hold.ID.Seq, .int .u64 t247.1.Hold.Epoch, v252, v254, v256, v258, v260, .int .i64 t247.1.R.E, .int .u64 t247.1.R.Epoch, .int .u64 t247.1.R.Index, v262, v264, .int .u64 t247.1.Shards, v266, .int .u64 t247.1.Rule.ID, .int .i64 t247.1.Rule.From, .int .i64 t247.1.Rule.To, .float .f64 t247.1.Rule.Lo, .float .f64 t247.1.Rule.Hi, .int .u64 t247.1.Rule.Authority, .int .i64 t247.1.Rule.Quota, .bool t247.1.On]) Try.sizeOf45 (Nat.le_of_ble_eq_true rfl) (ones_cons rfl (ones_cons rfl (ones_cons rfl (ones_cons rfl (ones_cons rfl (ones_cons rfl (ones_cons rfl (ones_cons rfl (ones_cons rfl (ones_cons (one_of_sliceV hst.sv1) (ones_cons (one_of_sliceV hst.sv2) (ones_cons (one_of_sliceV hst.sv3) (ones_cons (one_of_sliceV hst.sv4) (ones_cons (one_of_sliceV hst.sv5) (ones_cons rfl (ones_cons rfl (ones_cons rfl (ones_cons (one_of_sliceV hst.sv6) (ones_cons (one_of_sliceV hst.sv7) (ones_cons rfl (ones_cons (one_of_sliceV hst.sv8) (ones_cons rfl (ones_cons rfl (ones_cons rfl (ones_cons rfl (ones_cons rfl (ones_cons rfl (ones_cons rfl (ones_cons rfl ones_nil))))))))))))))))))))))))))))) (by kernel_rfl)
        refine wl_unit rfl rfl (x_unit hr282) ?_
        refine wl_val (v := .int .i64 t247.2) rfl rfl rfl ?_
        refine wl_nil ?_
        refine then_n ?_
        obtain ⟨y316, hm, hx317⟩ := joinO_some hm
        refine wp_cut (fun a w => ∃ (σ314 : Nat → Value), (law13_CommandJunk_j0 a1 a2 a3) () = some r ∧ a = Fr 96 (upd (upd (upd σ314 1 (r1_0)) 2 (.int .u16 a2)) 3 (.int .u8 a3)) ∧ St w0 w I250 [] R) ?_ ?_
        · skip
          refine wp_seq ?_
          refine wp_region_St hst 23 [0, 1, 2, 3, 4, 5, 6, 7, 8, 9, 10, 11, 12, 13, 14, 15, 16, 17, 18, 19, 20, 21, 22] [0, 1, 3, 7, 15, 31, 7, 71, 255, 511, 1023, 2047, 4095, 8191, 16383, 32767, 65535, 131071, 262143, 524287, 1048575, 2097151, 4194303] [] rfl (by kernel_rfl) (by kernel_rfl) Try.mixed (by kernel_rfl) ?_
          refine ws_q (v := .int .i64 t247.2) 0 [1, 2, 3, 4, 5, 6, 7, 8, 9, 10, 11, 12, 13, 14, 15, 16, 17, 18, 19, 20, 21, 22] (by kernel_rfl) rfl rfl (yi_run rfl (fun w hst => rfl)) ?_
          refine ws_q (v := .bool (t247.2 == (0:Int))) 1 [2, 3, 4, 5, 6, 7, 8, 9, 10, 11, 12, 13, 14, 15, 16, 17, 18, 19, 20, 21, 22] (by kernel_rfl) rfl rfl (yi_run rfl (fun w hst => rfl)) ?_
          refine ws_q (v := .bool (t247.2 == (0:Int))) 2 [3, 4, 5, 6, 7, 8, 9, 10, 11, 12, 13, 14, 15, 16, 17, 18, 19, 20, 21, 22] (by kernel_rfl) rfl rfl (yi_run rfl (fun w hst => rfl)) ?_
          refine bsplit (t247.2 == (0:Int)) (fun hc283 => ?_) (fun hc283 => ?_)
          · skip
            replace hm := bif_t hc283 hm
            refine ws_q (v := .agg #[.int .u8 t247.1.Kind, .int .u64 t247.1.ID.Session, .int .u64 t247.1.ID.Seq, .int .u64 t247.1.Epoch, .int .u64 t247.1.Index, .int .i64 t247.1.E, .int .u64 t247.1.Hold.ID.Session, .int .u64 t247.1.Hold.ID.Seq, .int .u64 t247.1.Hold.Epoch, v252, v254, v256, v258, v260, .int .i64 t247.1.R.E, .int .u64 t247.1.R.Epoch, .int .u64 t247.1.R.Index, v262, v264, .int .u64 t247.1.Shards, v266, .int .u64 t247.1.Rule.ID, .int .i64 t247.1.Rule.From, .int .i64 t247.1.Rule.To, .float .f64 t247.1.Rule.Lo, .float .f64 t247.1.Rule.Hi, .int .u64 t247.1.Rule.Authority, .int .i64 t247.1.Rule.Quota, .bool t247.1.On]) 3 [4, 5, 6, 7, 8, 9, 10, 11, 12, 13, 14, 15, 16, 17, 18, 19, 20, 21, 22] (by kernel_rfl) rfl rfl (yi_run ((wanted_eq rfl rfl rfl (congrArg Value.bool hc283)).trans rfl) (fun w hst => x_loadN (cs := [.int .u8 t247.1.Kind, .int .u64 t247.1.ID.Session, .int .u64 t247.1.ID.Seq, .int .u64 t247.1.Epoch, .int .u64 t247.1.Index, .int .i64 t247.1.E, .int .u64 t247.1.Hold.ID.Session, .int .u64 t247.1.Hold.ID.Seq, .int .u64 t247.1.Hold.Epoch, v252, v254, v256, v258, v260, .int .i64 t247.1.R.E, .int .u64 t247.1.R.Epoch, .int .u64 t247.1.R.Index, v262, v264, .int .u64 t247.1.Shards, v266, .int .u64 t247.1.Rule.ID, .int .i64 t247.1.Rule.From, .int .i64 t247.1.Rule.To, .float .f64 t247.1.Rule.Lo, .float .f64 t247.1.Rule.Hi, .int .u64 t247.1.Rule.Authority, .int .i64 t247.1.Rule.Quota, .bool t247.1.On]) rfl Try.isAgg45 Try.sizeOf45 (hst.bcs0 0 rfl))) ?_
            refine ws_q (v := r0_0) 6 [4, 5, 7, 8, 9, 10, 11, 12, 13, 14, 15, 16, 17, 18, 19, 20, 21, 22] (by kernel_rfl) rfl rfl (yi_run ((wanted_eq rfl rfl rfl (congrArg Value.bool hc283)).trans rfl) (fun w hst => rfl)) ?_
            refine ws_q (v := .string (toStr a0)) 7 [4, 5, 8, 9, 10, 11, 12, 13, 14, 15, 16, 17, 18, 19, 20, 21, 22] (by kernel_rfl) rfl rfl (yi_run ((wanted_eq rfl rfl rfl (congrArg Value.bool hc283)).trans rfl) (fun w hst => x_tostr Try.underlying22 Try.underlying9 Try.underlying5 rfl (Src.of_ro hst f0_0))) ?_
            refine ws_e1 4 (by kernel_rfl) ?_
            refine nxe [5, 8, 9, 10, 11, 12, 13, 14, 15, 16, 17, 18, 19, 20, 21, 22] (by kernel_rfl) rfl ((wanted_eq rfl rfl rfl (congrArg Value.bool hc283)).trans rfl) ?_
            clear hst
            intro w hst
            replace hst := hst.pull1
            obtain ⟨css284, hq285, hst⟩ := hst.own_open
            replace hst := hst.pull2
            obtain ⟨css286, hq287, hst⟩ := hst.own_open
            replace hst := hst.pull3
            obtain ⟨css288, hq289, hst⟩ := hst.own_open
            replace hst := hst.pull4
            obtain ⟨css290, hq291, hst⟩ := hst.own_open
            replace hst := hst.pull5
            obtain ⟨css292, hq293, hst⟩ := hst.own_open
            replace hst := hst.pull6
            obtain ⟨css294, hq295, hst⟩ := hst.own_open
            replace hst := hst.pull7
            obtain ⟨css296, hq297, hst⟩ := hst.own_open
            replace hst := hst.pull8
            obtain ⟨css298, hq299, hst⟩ := hst.own_open
            obtain ⟨t300, ht301, hm⟩ := bind_some hm
            refine we_call rfl (x_call Try.call10 rfl (vs := [.agg #[.int .u8 t247.1.Kind, .int .u64 t247.1.ID.Session, .int .u64 t247.1.ID.Seq, .int .u64 t247.1.Epoch, .int .u64 t247.1.Index, .int .i64 t247.1.E, .int .u64 t247.1.Hold.ID.Session, .int .u64 t247.1.Hold.ID.Seq, .int .u64 t247.1.Hold.Epoch, v252, v254, v256, v258, v260, .int .i64 t247.1.R.E, .int .u64 t247.1.R.Epoch, .int .u64 t247.1.R.Index, v262, v264, .int .u64 t247.1.Shards, v266, .int .u64 t247.1.Rule.ID, .int .i64 t247.1.Rule.From, .int .i64 t247.1.Rule.To, .float .f64 t247.1.Rule.Lo, .float .f64 t247.1.Rule.Hi, .int .u64 t247.1.Rule.Authority, .int .i64 t247.1.Rule.Quota, .bool t247.1.On]]) rfl) ?_
            refine (command_Encode_ref (hst.rdrow7 hq285) (hst.rdrow6 hq287) (hst.rdrow5 hq289) (hst.rdrow4 hq291) (hst.rdrow3 hq293) (hst.rdrow2 hq295) (hst.rdrow1 hq297) (hst.rdrow0 hq299) hst.to0 ht301).mono ?_
            rintro _ w302 ⟨v305, rfl, hst⟩
            refine ⟨_, rfl, ?_⟩
            replace hst := hst.of1
            replace hst := hst.pull8
            replace hst := hst.own_close hq285
            replace hst := hst.pull8
            replace hst := hst.own_close hq287
            replace hst := hst.pull8
            replace hst := hst.own_close hq289
            replace hst := hst.pull8
            replace hst := hst.own_close hq291
            replace hst := hst.pull8
            replace hst := hst.own_close hq293
            replace hst := hst.pull8
            replace hst := hst.own_close hq295
            replace hst := hst.pull8
            replace hst := hst.own_close hq297
            replace hst := hst.pull8
            replace hst := hst.own_close hq299
            refine ws_next (pend' := [(7, .string (toStr a0)), (6, r0_0)]) hst (by kernel_rfl) (pk_cons rfl (yi_run ((wanted_eq rfl rfl rfl (congrArg Value.bool hc283)).trans rfl) (fun w hst => x_tostr Try.underlying22 Try.underlying9 Try.underlying5 rfl (Src.of_ro hst f0_0))) (pk_cons rfl (yi_run ((wanted_eq rfl rfl rfl (congrArg Value.bool hc283)).trans rfl) (fun w hst => rfl)) pk_nil)) ?_
            refine ws_q (v := .string (toStr t300)) 5 [8, 9, 10, 11, 12, 13, 14, 15, 16, 17, 18, 19, 20, 21, 22] (by kernel_rfl) rfl rfl (yi_run ((wanted_eq rfl rfl rfl (congrArg Value.bool hc283)).trans rfl) (fun w hst => x_tostr Try.underlying22 Try.underlying9 Try.underlying5 rfl hst.src8)) ?_
            refine ws_q (v := .bool (!(sEq (toStr t300) (toStr a0)))) 8 [9, 10, 11, 12, 13, 14, 15, 16, 17, 18, 19, 20, 21, 22] (by kernel_rfl) rfl rfl (yi_run ((wanted_eq rfl rfl rfl (congrArg Value.bool hc283)).trans rfl) (fun w hst => by kernel_rfl)) ?_
            refine ws_q (v := .bool (!(sEq (toStr t300) (toStr a0)))) 9 [10, 11, 12, 13, 14, 15, 16, 17, 18, 19, 20, 21, 22] (by kernel_rfl) rfl rfl (yi_run rfl (fun w hst => x_pick_t hc283 rfl rfl)) ?_
            refine ws_q (v := .bool (!(sEq (toStr t300) (toStr a0)))) 10 [11, 12, 13, 14, 15, 16, 17, 18, 19, 20, 21, 22] (by kernel_rfl) rfl rfl (yi_run rfl (fun w hst => rfl)) ?_
            refine bsplit (!(sEq (toStr t300) (toStr a0))) (fun hc307 => ?_) (fun hc307 => ?_)
            · skip
              replace hm := bif_t hc307 hm
              refine ws_q (v := undef) 11 [12, 13, 14, 15, 16, 17, 18, 19, 20, 21, 22] (by kernel_rfl) rfl rfl (yi_off ((wanted_eq rfl rfl rfl (congrArg Value.bool hc307)).trans rfl)) ?_
              refine ws_q (v := undef) 12 [13, 14, 15, 16, 17, 18, 19, 20, 21, 22] (by kernel_rfl) rfl rfl (yi_off ((wanted_eq rfl rfl rfl (congrArg Value.bool hc307)).trans rfl)) ?_
              refine ws_q (v := undef) 13 [14, 15, 16, 17, 18, 19, 20, 21, 22] (by kernel_rfl) rfl rfl (yi_off ((wanted_eq rfl rfl rfl (congrArg Value.bool hc307)).trans rfl)) ?_
              refine ws_q (v := undef) 14 [15, 16, 17, 18, 19, 20, 21, 22] (by kernel_rfl) rfl rfl (yi_off (wanted_undef rfl rfl rfl rfl)) ?_
              refine ws_q (v := undef) 15 [16, 17, 18, 19, 20, 21, 22] (by kernel_rfl) rfl rfl (yi_off (wanted_undef rfl rfl rfl rfl)) ?_
              refine ws_q (v := undef) 16 [17, 18, 19, 20, 21, 22] (by kernel_rfl) rfl rfl (yi_off (wanted_undef rfl rfl rfl rfl)) ?_
              refine ws_q (v := undef) 17 [18, 19, 20, 21, 22] (by kernel_rfl) rfl rfl (yi_off (wanted_undef rfl rfl rfl rfl)) ?_
              refine ws_q (v := undef) 18 [19, 20, 21, 22] (by kernel_rfl) rfl rfl (yi_off (wanted_undef rfl rfl rfl rfl)) ?_
              refine ws_q (v := undef) 19 [20, 21, 22] (by kernel_rfl) rfl rfl (yi_off (wanted_undef rfl rfl rfl rfl)) ?_
              refine ws_q (v := undef) 20 [21, 22] (by kernel_rfl) rfl rfl (yi_off (wanted_undef rfl rfl rfl rfl)) ?_
              refine ws_q (v := undef) 21 [22] (by kernel_rfl) rfl rfl (yi_off ((wanted_eq rfl rfl rfl (congrArg Value.bool hc307)).trans rfl)) ?_
              refine ws_q (v := .bool true) 22 [] (by kernel_rfl) rfl rfl (yi_run rfl (fun w hst => x_pick_t hc307 rfl rfl)) ?_
              refine ws_nil ?_
              intro w hst
              refine then_n ?_
              refine wp_ift rfl ?_
              refine wp_seq ?_
              refine wp_region_lit ?_
              refine wl_val (v := .bool false) rfl rfl rfl ?_
              refine wl_nil ?_
              refine then_n ?_
              refine wp_ret ?_
              refine then_r ?_
              replace hm := inr_up hm hx317
              obtain rfl := some_inj hm
              refine post_ret (vs := [.bool false]) Try.results5 (rvs_cons (rv_tmp rfl) rvs_nil) ?_
              exact ⟨_, rfl, hI0, hst.keep0⟩
            · skip
              replace hm := bif_f hc307 hm
              refine ws_q (v := .int .i64 t247.2) 11 [12, 13, 14, 15, 16, 17, 18, 19, 20, 21, 22] (by kernel_rfl) rfl rfl (yi_run ((wanted_eq rfl rfl rfl (congrArg Value.bool hc307)).trans rfl) (fun w hst => rfl)) ?_
              refine ws_q (v := .bool (t247.2 != (0:Int))) 12 [13, 14, 15, 16, 17, 18, 19, 20, 21, 22] (by kernel_rfl) rfl rfl (yi_run ((wanted_eq rfl rfl rfl (congrArg Value.bool hc307)).trans rfl) (fun w hst => rfl)) ?_
              refine ws_q (v := .bool (t247.2 != (0:Int))) 13 [14, 15, 16, 17, 18, 19, 20, 21, 22] (by kernel_rfl) rfl rfl (yi_run ((wanted_eq rfl rfl rfl (congrArg Value.bool hc307)).trans rfl) (fun w hst => rfl)) ?_
              refine bsplit (t247.2 != (0:Int)) (fun hc308 => ?_) (fun hc308 => ?_)
              · skip
                replace hm := bif_t hc308 hm
                refine ws_q (v := .int .i64 t247.2) 14 [15, 16, 17, 18, 19, 20, 21, 22] (by kernel_rfl) rfl rfl (yi_run ((wanted_eq rfl rfl rfl (congrArg Value.bool hc308)).trans rfl) (fun w hst => rfl)) ?_
                refine ws_q (v := .bool (t247.2 != (5:Int))) 15 [16, 17, 18, 19, 20, 21, 22] (by kernel_rfl) rfl rfl (yi_run ((wanted_eq rfl rfl rfl (congrArg Value.bool hc308)).trans rfl) (fun w hst => rfl)) ?_
                refine ws_q (v := .bool (t247.2 != (5:Int))) 16 [17, 18, 19, 20, 21, 22] (by kernel_rfl) rfl rfl (yi_run ((wanted_eq rfl rfl rfl (congrArg Value.bool hc308)).trans rfl) (fun w hst => rfl)) ?_
                refine bsplit (t247.2 != (5:Int)) (fun hc309 => ?_) (fun hc309 => ?_)
                · skip
                  replace hm := bif_t hc309 hm
                  refine ws_q (v := undef) 17 [18, 19, 20, 21, 22] (by kernel_rfl) rfl rfl (yi_off ((wanted_eq rfl rfl rfl (congrArg Value.bool hc309)).trans rfl)) ?_
                  refine ws_q (v := undef) 18 [19, 20, 21, 22] (by kernel_rfl) rfl rfl (yi_off ((wanted_eq rfl rfl rfl (congrArg Value.bool hc309)).trans rfl)) ?_
                  refine ws_q (v := undef) 19 [20, 21, 22] (by kernel_rfl) rfl rfl (yi_off ((wanted_eq rfl rfl rfl (congrArg Value.bool hc309)).trans rfl)) ?_
                  refine ws_q (v := .bool true) 20 [21, 22] (by kernel_rfl) rfl rfl (yi_run ((wanted_eq rfl rfl rfl (congrArg Value.bool hc308)).trans rfl) (fun w hst => x_pick_t hc309 rfl rfl)) ?_
                  refine ws_q (v := .bool true) 21 [22] (by kernel_rfl) rfl rfl (yi_run ((wanted_eq rfl rfl rfl (congrArg Value.bool hc307)).trans rfl) (fun w hst => x_pick_t hc308 rfl rfl)) ?_
                  refine ws_q (v := .bool true) 22 [] (by kernel_rfl) rfl rfl (yi_run rfl (fun w hst => x_pick_f hc307 rfl rfl)) ?_
                  refine ws_nil ?_
                  intro w hst
                  refine then_n ?_
                  refine wp_ift rfl ?_
                  refine wp_seq ?_
                  refine wp_region_lit ?_
                  refine wl_val (v := .bool false) rfl rfl rfl ?_
                  refine wl_nil ?_
                  refine then_n ?_
                  refine wp_ret ?_
                  refine then_r ?_
                  replace hm := inr_up hm hx317
                  obtain rfl := some_inj hm
                  refine post_ret (vs := [.bool false]) Try.results5 (rvs_cons (rv_tmp rfl) rvs_nil) ?_
                  exact ⟨_, rfl, hI0, hst.keep0⟩
                · skip
                  replace hm := bif_f hc309 hm
                  refine ws_q (v := .pointer (some ⟨b276, 0, none⟩)) 17 [18, 19, 20, 21, 22] (by kernel_rfl) rfl rfl (yi_run ((wanted_eq rfl rfl rfl (congrArg Value.bool hc309)).trans rfl) (fun w hst => x_field rfl Try.underlying45 rfl Try.sizeOf5 rfl)) ?_
                  refine ws_q (v := .int .u8 t247.1.Kind) 18 [19, 20, 21, 22] (by kernel_rfl) rfl rfl (yi_run ((wanted_eq rfl rfl rfl (congrArg Value.bool hc309)).trans rfl) (fun w hst => x_load rfl Try.isAgg5 (hst.bc9 rfl))) ?_
                  refine ws_q (v := .bool (t247.1.Kind != (0:Int))) 19 [20, 21, 22] (by kernel_rfl) rfl rfl (yi_run ((wanted_eq rfl rfl rfl (congrArg Value.bool hc309)).trans rfl) (fun w hst => rfl)) ?_
                  refine ws_q (v := .bool (t247.1.Kind != (0:Int))) 20 [21, 22] (by kernel_rfl) rfl rfl (yi_run ((wanted_eq rfl rfl rfl (congrArg Value.bool hc308)).trans rfl) (fun w hst => x_pick_f hc309 rfl rfl)) ?_
                  refine ws_q (v := .bool (t247.1.Kind != (0:Int))) 21 [22] (by kernel_rfl) rfl rfl (yi_run ((wanted_eq rfl rfl rfl (congrArg Value.bool hc307)).trans rfl) (fun w hst => x_pick_t hc308 rfl rfl)) ?_
                  refine ws_q (v := .bool (t247.1.Kind != (0:Int))) 22 [] (by kernel_rfl) rfl rfl (yi_run rfl (fun w hst => x_pick_f hc307 rfl rfl)) ?_
                  refine ws_nil ?_
                  intro w hst
                  refine then_n ?_
                  refine bsplit (t247.1.Kind != (0:Int)) (fun hc310 => ?_) (fun hc310 => ?_)
                  · skip
                    replace hm := bif_t hc310 hm
                    refine wp_ift (congrArg Value.bool hc310) ?_
                    refine wp_seq ?_
                    refine wp_region_lit ?_
                    refine wl_val (v := .bool false) rfl rfl rfl ?_
                    refine wl_nil ?_
                    refine then_n ?_
                    refine wp_ret ?_
                    refine then_r ?_
                    replace hm := inr_up hm hx317
                    obtain rfl := some_inj hm
                    refine post_ret (vs := [.bool false]) Try.results5 (rvs_cons (rv_tmp rfl) rvs_nil) ?_
                    exact ⟨_, rfl, hI0, hst.keep0⟩
                  · skip
                    replace hm := bif_f hc310 hm
                    refine wp_iff (congrArg Value.bool hc310) ?_
                    refine wp_skip ?_
                    refine then_n ?_
                    replace hst := hst.keep0
                    obtain rfl := some_inj hm
                    exact ⟨_, hx317, ((fr_upd (t := 1) (v := r1_0) rfl).trans ((fr_upd (t := 2) (v := .int .u16 a2) rfl).trans ((fr_upd (t := 3) (v := .int .u8 a3) rfl).trans rfl))), hst⟩
              · skip
                replace hm := bif_f hc308 hm
                refine ws_q (v := undef) 14 [15, 16, 17, 18, 19, 20, 21, 22] (by kernel_rfl) rfl rfl (yi_off ((wanted_eq rfl rfl rfl (congrArg Value.bool hc308)).trans rfl)) ?_
                refine ws_q (v := undef) 15 [16, 17, 18, 19, 20, 21, 22] (by kernel_rfl) rfl rfl (yi_off ((wanted_eq rfl rfl rfl (congrArg Value.bool hc308)).trans rfl)) ?_
                refine ws_q (v := undef) 16 [17, 18, 19, 20, 21, 22] (by kernel_rfl) rfl rfl (yi_off ((wanted_eq rfl rfl rfl (congrArg Value.bool hc308)).trans rfl)) ?_
                refine ws_q (v := undef) 17 [18, 19, 20, 21, 22] (by kernel_rfl) rfl rfl (yi_off (wanted_undef rfl rfl rfl rfl)) ?_
                refine ws_q (v := undef) 18 [19, 20, 21, 22] (by kernel_rfl) rfl rfl (yi_off (wanted_undef rfl rfl rfl rfl)) ?_
                refine ws_q (v := undef) 19 [20, 21, 22] (by kernel_rfl) rfl rfl (yi_off (wanted_undef rfl rfl rfl rfl)) ?_
                refine ws_q (v := undef) 20 [21, 22] (by kernel_rfl) rfl rfl (yi_off ((wanted_eq rfl rfl rfl (congrArg Value.bool hc308)).trans rfl)) ?_
                refine ws_q (v := .bool false) 21 [22] (by kernel_rfl) rfl rfl (yi_run ((wanted_eq rfl rfl rfl (congrArg Value.bool hc307)).trans rfl) (fun w hst => x_pick_f hc308 rfl rfl)) ?_
                refine ws_q (v := .bool false) 22 [] (by kernel_rfl) rfl rfl (yi_run rfl (fun w hst => x_pick_f hc307 rfl rfl)) ?_
                refine ws_nil ?_
                intro w hst
                refine then_n ?_
                refine wp_iff rfl ?_
                refine wp_skip ?_
                refine then_n ?_
                replace hst := hst.keep0
                obtain rfl := some_inj hm
                exact ⟨_, hx317, ((fr_upd (t := 1) (v := r1_0) rfl).trans ((fr_upd (t := 2) (v := .int .u16 a2) rfl).trans ((fr_upd (t := 3) (v := .int .u8 a3) rfl).trans rfl))), hst⟩
          · skip
            replace hm := bif_f hc283 hm
            refine ws_q (v := undef) 3 [4, 5, 6, 7, 8, 9, 10, 11, 12, 13, 14, 15, 16, 17, 18, 19, 20, 21, 22] (by kernel_rfl) rfl rfl (yi_off ((wanted_eq rfl rfl rfl (congrArg Value.bool hc283)).trans rfl)) ?_
            refine ws_q (v := undef) 4 [5, 6, 7, 8, 9, 10, 11, 12, 13, 14, 15, 16, 17, 18, 19, 20, 21, 22] (by kernel_rfl) rfl rfl (yi_off ((wanted_eq rfl rfl rfl (congrArg Value.bool hc283)).trans rfl)) ?_
            refine ws_q (v := undef) 5 [6, 7, 8, 9, 10, 11, 12, 13, 14, 15, 16, 17, 18, 19, 20, 21, 22] (by kernel_rfl) rfl rfl (yi_off ((wanted_eq rfl rfl rfl (congrArg Value.bool hc283)).trans rfl)) ?_
            refine ws_q (v := undef) 6 [7, 8, 9, 10, 11, 12, 13, 14, 15, 16, 17, 18, 19, 20, 21, 22] (by kernel_rfl) rfl rfl (yi_off ((wanted_eq rfl rfl rfl (congrArg Value.bool hc283)).trans rfl)) ?_
            refine ws_q (v := undef) 7 [8, 9, 10, 11, 12, 13, 14, 15, 16, 17, 18, 19, 20, 21, 22] (by kernel_rfl) rfl rfl (yi_off ((wanted_eq rfl rfl rfl (congrArg Value.bool hc283)).trans rfl)) ?_
            refine ws_q (v := undef) 8 [9, 10, 11, 12, 13, 14, 15, 16, 17, 18, 19, 20, 21, 22] (by kernel_rfl) rfl rfl (yi_off ((wanted_eq rfl rfl rfl (congrArg Value.bool hc283)).trans rfl)) ?_
            refine ws_q (v := .bool false) 9 [10, 11, 12, 13, 14, 15, 16, 17, 18, 19, 20, 21, 22] (by kernel_rfl) rfl rfl (yi_run rfl (fun w hst => x_pick_f hc283 rfl rfl)) ?_
            refine ws_q (v := .bool false) 10 [11, 12, 13, 14, 15, 16, 17, 18, 19, 20, 21, 22] (by kernel_rfl) rfl rfl (yi_run rfl (fun w hst => rfl)) ?_
            refine ws_q (v := .int .i64 t247.2) 11 [12, 13, 14, 15, 16, 17, 18, 19, 20, 21, 22] (by kernel_rfl) rfl rfl (yi_run ((wanted_eq rfl rfl rfl rfl).trans rfl) (fun w hst => rfl)) ?_
            refine ws_q (v := .bool (t247.2 != (0:Int))) 12 [13, 14, 15, 16, 17, 18, 19, 20, 21, 22] (by kernel_rfl) rfl rfl (yi_run ((wanted_eq rfl rfl rfl rfl).trans rfl) (fun w hst => rfl)) ?_
            refine ws_q (v := .bool (t247.2 != (0:Int))) 13 [14, 15, 16, 17, 18, 19, 20, 21, 22] (by kernel_rfl) rfl rfl (yi_run ((wanted_eq rfl rfl rfl rfl).trans rfl) (fun w hst => rfl)) ?_
            refine bsplit (t247.2 != (0:Int)) (fun hc311 => ?_) (fun hc311 => ?_)
            · skip
              replace hm := bif_t hc311 hm
              refine ws_q (v := .int .i64 t247.2) 14 [15, 16, 17, 18, 19, 20, 21, 22] (by kernel_rfl) rfl rfl (yi_run ((wanted_eq rfl rfl rfl (congrArg Value.bool hc311)).trans rfl) (fun w hst => rfl)) ?_
              refine ws_q (v := .bool (t247.2 != (5:Int))) 15 [16, 17, 18, 19, 20, 21, 22] (by kernel_rfl) rfl rfl (yi_run ((wanted_eq rfl rfl rfl (congrArg Value.bool hc311)).trans rfl) (fun w hst => rfl)) ?_
              refine ws_q (v := .bool (t247.2 != (5:Int))) 16 [17, 18, 19, 20, 21, 22] (by kernel_rfl) rfl rfl (yi_run ((wanted_eq rfl rfl rfl (congrArg Value.bool hc311)).trans rfl) (fun w hst => rfl)) ?_
              refine bsplit (t247.2 != (5:Int)) (fun hc312 => ?_) (fun hc312 => ?_)
              · skip
                replace hm := bif_t hc312 hm
                refine ws_q (v := undef) 17 [18, 19, 20, 21, 22] (by kernel_rfl) rfl rfl (yi_off ((wanted_eq rfl rfl rfl (congrArg Value.bool hc312)).trans rfl)) ?_
                refine ws_q (v := undef) 18 [19, 20, 21, 22] (by kernel_rfl) rfl rfl (yi_off ((wanted_eq rfl rfl rfl (congrArg Value.bool hc312)).trans rfl)) ?_
                refine ws_q (v := undef) 19 [20, 21, 22] (by kernel_rfl) rfl rfl (yi_off ((wanted_eq rfl rfl rfl (congrArg Value.bool hc312)).trans rfl)) ?_
                refine ws_q (v := .bool true) 20 [21, 22] (by kernel_rfl) rfl rfl (yi_run ((wanted_eq rfl rfl rfl (congrArg Value.bool hc311)).trans rfl) (fun w hst => x_pick_t hc312 rfl rfl)) ?_
                refine ws_q (v := .bool true) 21 [22] (by kernel_rfl) rfl rfl (yi_run ((wanted_eq rfl rfl rfl rfl).trans rfl) (fun w hst => x_pick_t hc311 rfl rfl)) ?_
                refine ws_q (v := .bool true) 22 [] (by kernel_rfl) rfl rfl (yi_run rfl (fun w hst => x_pick_f rfl rfl rfl)) ?_
                refine ws_nil ?_
                intro w hst
                refine then_n ?_
                refine wp_ift rfl ?_
                refine wp_seq ?_
                refine wp_region_lit ?_
                refine wl_val (v := .bool false) rfl rfl rfl ?_
                refine wl_nil ?_
                refine then_n ?_
                refine wp_ret ?_
                refine then_r ?_
                replace hm := inr_up hm hx317
                obtain rfl := some_inj hm
                refine post_ret (vs := [.bool false]) Try.results5 (rvs_cons (rv_tmp rfl) rvs_nil) ?_
                exact ⟨_, rfl, hI0, hst.keep0⟩
              · skip
                replace hm := bif_f hc312 hm
                refine ws_q (v := .pointer (some ⟨b276, 0, none⟩)) 17 [18, 19, 20, 21, 22] (by kernel_rfl) rfl rfl (yi_run ((wanted_eq rfl rfl rfl (congrArg Value.bool hc312)).trans rfl) (fun w hst => x_field rfl Try.underlying45 rfl Try.sizeOf5 rfl)) ?_
                refine ws_q (v := .int .u8 t247.1.Kind) 18 [19, 20, 21, 22] (by kernel_rfl) rfl rfl (yi_run ((wanted_eq rfl rfl rfl (congrArg Value.bool hc312)).trans rfl) (fun w hst => x_load rfl Try.isAgg5 (hst.bc0 rfl))) ?_
                refine ws_q (v := .bool (t247.1.Kind != (0:Int))) 19 [20, 21, 22] (by kernel_rfl) rfl rfl (yi_run ((wanted_eq rfl rfl rfl (congrArg Value.bool hc312)).trans rfl) (fun w hst => rfl)) ?_
                refine ws_q (v := .bool (t247.1.Kind != (0:Int))) 20 [21, 22] (by kernel_rfl) rfl rfl (yi_run ((wanted_eq rfl rfl rfl (congrArg Value.bool hc311)).trans rfl) (fun w hst => x_pick_f hc312 rfl rfl)) ?_
                refine ws_q (v := .bool (t247.1.Kind != (0:Int))) 21 [22] (by kernel_rfl) rfl rfl (yi_run ((wanted_eq rfl rfl rfl rfl).trans rfl) (fun w hst => x_pick_t hc311 rfl rfl)) ?_
                refine ws_q (v := .bool (t247.1.Kind != (0:Int))) 22 [] (by kernel_rfl) rfl rfl (yi_run rfl (fun w hst => x_pick_f rfl rfl rfl)) ?_
                refine ws_nil ?_
                intro w hst
                refine then_n ?_
                refine bsplit (t247.1.Kind != (0:Int)) (fun hc313 => ?_) (fun hc313 => ?_)
                · skip
                  replace hm := bif_t hc313 hm
                  refine wp_ift (congrArg Value.bool hc313) ?_
                  refine wp_seq ?_
                  refine wp_region_lit ?_
                  refine wl_val (v := .bool false) rfl rfl rfl ?_
                  refine wl_nil ?_
                  refine then_n ?_
                  refine wp_ret ?_
                  refine then_r ?_
                  replace hm := inr_up hm hx317
                  obtain rfl := some_inj hm
                  refine post_ret (vs := [.bool false]) Try.results5 (rvs_cons (rv_tmp rfl) rvs_nil) ?_
                  exact ⟨_, rfl, hI0, hst.keep0⟩
                · skip
                  replace hm := bif_f hc313 hm
                  refine wp_iff (congrArg Value.bool hc313) ?_
                  refine wp_skip ?_
                  refine then_n ?_
                  replace hst := hst.keep0
                  obtain rfl := some_inj hm
                  exact ⟨_, hx317, ((fr_upd (t := 1) (v := r1_0) rfl).trans ((fr_upd (t := 2) (v := .int .u16 a2) rfl).trans ((fr_upd (t := 3) (v := .int .u8 a3) rfl).trans rfl))), hst⟩
            · skip
              replace hm := bif_f hc311 hm
              refine ws_q (v := undef) 14 [15, 16, 17, 18, 19, 20, 21, 22] (by kernel_rfl) rfl rfl (yi_off ((wanted_eq rfl rfl rfl (congrArg Value.bool hc311)).trans rfl)) ?_
              refine ws_q (v := undef) 15 [16, 17, 18, 19, 20, 21, 22] (by kernel_rfl) rfl rfl (yi_off ((wanted_eq rfl rfl rfl (congrArg Value.bool hc311)).trans rfl)) ?_
              refine ws_q (v := undef) 16 [17, 18, 19, 20, 21, 22] (by kernel_rfl) rfl rfl (yi_off ((wanted_eq rfl rfl rfl (congrArg Value.bool hc311)).trans rfl)) ?_
              refine ws_q (v := undef) 17 [18, 19, 20, 21, 22] (by kernel_rfl) rfl rfl (yi_off (wanted_undef rfl rfl rfl rfl)) ?_
              refine ws_q (v := undef) 18 [19, 20, 21, 22] (by kernel_rfl) rfl rfl (yi_off (wanted_undef rfl rfl rfl rfl)) ?_
              refine ws_q (v := undef) 19 [20, 21, 22] (by kernel_rfl) rfl rfl (yi_off (wanted_undef rfl rfl rfl rfl)) ?_
              refine ws_q (v := undef) 20 [21, 22] (by kernel_rfl) rfl rfl (yi_off ((wanted_eq rfl rfl rfl (congrArg Value.bool hc311)).trans rfl)) ?_
              refine ws_q (v := .bool false) 21 [22] (by kernel_rfl) rfl rfl (yi_run ((wanted_eq rfl rfl rfl rfl).trans rfl) (fun w hst => x_pick_f hc311 rfl rfl)) ?_
              refine ws_q (v := .bool false) 22 [] (by kernel_rfl) rfl rfl (yi_run rfl (fun w hst => x_pick_f rfl rfl rfl)) ?_
              refine ws_nil ?_
              intro w hst
              refine then_n ?_
              refine wp_iff rfl ?_
              refine wp_skip ?_
              refine then_n ?_
              replace hst := hst.keep0
              obtain rfl := some_inj hm
              exact ⟨_, hx317, ((fr_upd (t := 1) (v := r1_0) rfl).trans ((fr_upd (t := 2) (v := .int .u16 a2) rfl).trans ((fr_upd (t := 3) (v := .int .u8 a3) rfl).trans rfl))), hst⟩
        · skip
          clear hst
          rintro _ w318 ⟨σ314, hm, rfl, hst⟩
          dsimp only [law13_CommandJunk_j0] at hm
          refine wp_seq ?_
          refine wp_region_lit ?_
          refine wl_val (v := r1_0) rfl rfl rfl ?_
          refine wl_val (v := .agg #[r1_0, .int .i64 (0:Int)]) rfl rfl (by obtain ⟨_, _, hv_, _⟩ := (ro_sliceV f1_0); rw [hv_]; kernel_rfl) ?_
          obtain ⟨b320, w321, ew322, eb323, hst⟩ := hst.box [r1_0, .int .i64 (0:Int)] 26
          refine wl_run (v := .pointer (some ⟨b320, 0, none⟩)) (w' := w321) rfl rfl (x_al (by kernel_rfl) ew322 eb323) ?_
          refine wl_val (v := .pointer (some ⟨b320, 0, none⟩)) rfl rfl rfl ?_
          refine wl_nil ?_
          refine then_n ?_
          refine wp_seq ?_
          refine wp_region_lit ?_
          refine wl_val (v := .pointer (some ⟨b320, 0, none⟩)) rfl rfl rfl ?_
          replace hst := at_ref12_Tape_close (pv := .pointer (some ⟨b320, 0, none⟩)) (x := ({ L := a1, I := (0:Int) } : ref12_Tape)) hst ⟨rfl, f1_0⟩
          obtain ⟨t325, ht326, hm⟩ := bind_some hm
          refine wl_call rfl rfl (x_call Try.call9 rfl (vs := [.pointer (some ⟨b320, 0, none⟩)]) rfl) ?_
          refine (ref13_OfCommand_ref hst.to1 ht326).mono ?_
          rintro _ w327 ⟨I328, v330, v332, v334, v336, v338, v340, v342, v344, rfl, hI329, hst⟩
          refine ⟨_, rfl, ?_⟩
          replace hst := hst.of9
          replace f0_0 := f0_0.mono (ro_le hI329)
          replace f1_0 := f1_0.mono (ro_le hI329)
          replace hI0 := hI0.trans hI329
          obtain ⟨css346, hq347, hst⟩ := hst.own_open
          replace hst := hst.pull1
          obtain ⟨css348, hq349, hst⟩ := hst.own_open
          replace hst := hst.pull2
          obtain ⟨css350, hq351, hst⟩ := hst.own_open
          replace hst := hst.pull3
          obtain ⟨css352, hq353, hst⟩ := hst.own_open
          replace hst := hst.pull4
          obtain ⟨css354, hq355, hst⟩ := hst.own_open
          replace hst := hst.pull5
          obtain ⟨css356, hq357, hst⟩ := hst.own_open
          replace hst := hst.pull6
          obtain ⟨css358, hq359, hst⟩ := hst.own_open
          replace hst := hst.pull7
          obtain ⟨css360, hq361, hst⟩ := hst.own_open
          obtain ⟨t362, ht363, hm⟩ := bind_some hm
          refine wl_call rfl rfl (x_call Try.call10 rfl (vs := [.agg #[.int .u8 t325.1.Kind, .int .u64 t325.1.ID.Session, .int .u64 t325.1.ID.Seq, .int .u64 t325.1.Epoch, .int .u64 t325.1.Index, .int .i64 t325.1.E, .int .u64 t325.1.Hold.ID.Session, .int .u64 t325.1.Hold.ID.Seq, .int .u64 t325.1.Hold.Epoch, v330, v332, v334, v336, v338, .int .i64 t325.1.R.E, .int .u64 t325.1.R.Epoch, .int .u64 t325.1.R.Index, v340, v342, .int .u64 t325.1.Shards, v344, .int .u64 t325.1.Rule.ID, .int .i64 t325.1.Rule.From, .int .i64 t325.1.Rule.To, .float .f64 t325.1.Rule.Lo, .float .f64 t325.1.Rule.Hi, .int .u64 t325.1.Rule.Authority, .int .i64 t325.1.Rule.Quota, .bool t325.1.On]]) rfl) ?_
          refine (command_Encode_ref (hst.rdrow7 hq347) (hst.rdrow6 hq349) (hst.rdrow5 hq351) (hst.rdrow4 hq353) (hst.rdrow3 hq355) (hst.rdrow2 hq357) (hst.rdrow1 hq359) (hst.rdrow0 hq361) hst.to0 ht363).mono ?_
          rintro _ w364 ⟨v367, rfl, hst⟩
          refine ⟨_, rfl, ?_⟩
          replace hst := hst.of1
          replace hst := hst.pull8
          replace hst := hst.own_close hq347
          replace hst := hst.pull8
          replace hst := hst.own_close hq349
          replace hst := hst.pull8
          replace hst := hst.own_close hq351
          replace hst := hst.pull8
          replace hst := hst.own_close hq353
          replace hst := hst.pull8
          replace hst := hst.own_close hq355
          replace hst := hst.pull8
          replace hst := hst.own_close hq357
          replace hst := hst.pull8
          replace hst := hst.own_close hq359
          replace hst := hst.pull8
          replace hst := hst.own_close hq361
          refine wl_val (v := v367) rfl rfl rfl ?_
          refine wl_nil ?_
          refine then_n ?_
          refine wp_seq ?_
          refine wp_region_lit ?_
          refine wl_val (v := .int .u16 a2) rfl rfl rfl ?_
          refine wl_val (v := .int .i64 (IntKind.i64.wrap a2)) rfl rfl (by kernel_rfl) ?_
          refine wl_val (v := v367) rfl rfl rfl ?_
          refine wl_val (v := .int .i64 ((t362).length : Int)) rfl rfl (x_len rfl Try.underlying22 hst.sv8) ?_
          obtain ⟨hg369, hm⟩ := gd_some hm
          refine wl_val (v := .int .i64 (Int.tmod (IntKind.i64.wrap a2) ((t362).length : Int))) rfl rfl (x_rem (not_t hg369) rfl rfl) ?_
          refine wl_val (v := .int .i64 (Int.tmod (IntKind.i64.wrap a2) ((t362).length : Int))) rfl rfl rfl ?_
          refine wl_nil ?_
          refine then_n ?_
          refine wp_seq ?_
          refine wp_region_lit ?_
          refine wl_val (v := v367) rfl rfl rfl ?_
          refine wl_val (v := .int .i64 (Int.tmod (IntKind.i64.wrap a2) ((t362).length : Int))) rfl rfl rfl ?_
          refine wl_val (v := v367) rfl rfl rfl ?_
          refine wl_val (v := .int .i64 (Int.tmod (IntKind.i64.wrap a2) ((t362).length : Int))) rfl rfl rfl ?_
          obtain ⟨x370, hx371, hm⟩ := bind_some hm
          obtain ⟨h372, h373, hi374⟩ := geto_some hx371
          refine wl_val (v := .pointer (some (eAddr v367 ((Int.tmod (IntKind.i64.wrap a2) ((t362).length : Int)).toNat * 1 + 0)))) rfl rfl (x_index rfl rfl Try.underlying22 Try.sizeOf5 hst.sv8 h372 h373) ?_
          refine wl_val (v := .int .u8 x370) rfl rfl (x_load rfl Try.isAgg5 (hst.ol8 hi374 (by rintro _ rfl; rfl))) ?_
          refine wl_val (v := .int .u8 a3) rfl rfl rfl ?_
          refine wl_val (v := .int .u8 (bXor .u8 x370 a3)) rfl rfl rfl ?_
          refine wl_val (v := .pointer (some (eAddr v367 ((Int.tmod (IntKind.i64.wrap a2) ((t362).length : Int)).toNat * 1 + 0)))) rfl rfl (x_index rfl rfl Try.underlying22 Try.sizeOf5 hst.sv8 h372 h373) ?_
          replace hst := hst.pull8
          obtain ⟨w375, hr376, hst⟩ := hst.own_store (P := Try.prog) (t := 5) (y := (bXor .u8 x370 a3)) hi374 0 (.int .u8 (bXor .u8 x370 a3)) Try.sizeOf5 (Nat.le_of_ble_eq_true rfl) (ones_cons rfl ones_nil) (by rintro _ rfl; rfl)
          have hi377 := set_get hi374 (bXor .u8 x370 a3)
          have h378 := set_lt h373 (Int.tmod (IntKind.i64.wrap a2) ((t362).length : Int)).toNat (bXor .u8 x370 a3)
          refine wl_unit rfl rfl (x_unit hr376) ?_
          refine wl_nil ?_
          refine then_n ?_
          refine wp_seq ?_
          refine wp_region_lit ?_
          refine wl_val (v := v367) rfl rfl rfl ?_
          obtain ⟨I379, hI380, f381, hst⟩ := hst.own_fix
          replace f0_0 := f0_0.mono (ro_le hI380)
          replace f1_0 := f1_0.mono (ro_le hI380)
          replace hI0 := hI0.trans hI380
          obtain ⟨t382, ht383, hm⟩ := bind_some hm
          refine wl_call rfl rfl (x_call Try.call20 rfl (vs := [v367]) rfl) ?_
          refine (command_Decode_ref f381 hst.to0 ht383).mono ?_
          rintro _ w384 ⟨I385, v387, v389, v391, v393, v395, v397, v399, v401, rfl, hI386, hst⟩
          refine ⟨_, rfl, ?_⟩
          replace hst := hst.of8
          replace f0_0 := f0_0.mono (ro_le hI386)
          replace f1_0 := f1_0.mono (ro_le hI386)
          replace f381 := f381.mono (ro_le hI386)
          replace hI0 := hI0.trans hI386
          refine wl_val (v := .tuple #[.agg #[.int .u8 t382.1.Kind, .int .u64 t382.1.ID.Session, .int .u64 t382.1.ID.Seq, .int .u64 t382.1.Epoch, .int .u64 t382.1.Index, .int .i64 t382.1.E, .int .u64 t382.1.Hold.ID.Session, .int .u64 t382.1.Hold.ID.Seq, .int .u64 t382.1.Hold.Epoch, v387, v389, v391, v393, v395, .int .i64 t382.1.R.E, .int .u64 t382.1.R.Epoch, .int .u64 t382.1.R.Index, v397, v399, .int .u64 t382.1.Shards, v401, .int .u64 t382.1.Rule.ID, .int .i64 t382.1.Rule.From, .int .i64 t382.1.Rule.To, .float .f64 t382.1.Rule.Lo, .float .f64 t382.1.Rule.Hi, .int .u64 t382.1.Rule.Authority, .int .i64 t382.1.Rule.Quota, .bool t382.1.On], .int .i64 t382.2]) rfl rfl rfl ?_
          refine wl_val (v := .agg #[.int .u8 t382.1.Kind, .int .u64 t382.1.ID.Session, .int .u64 t382.1.ID.Seq, .int .u64 t382.1.Epoch, .int .u64 t382.1.Index, .int .i64 t382.1.E, .int .u64 t382.1.Hold.ID.Session, .int .u64 t382.1.Hold.ID.Seq, .int .u64 t382.1.Hold.Epoch, v387, v389, v391, v393, v395, .int .i64 t382.1.R.E, .int .u64 t382.1.R.Epoch, .int .u64 t382.1.R.Index, v397, v399, .int .u64 t382.1.Shards, v401, .int .u64 t382.1.Rule.ID, .int .i64 t382.1.Rule.From, .int .i64 t382.1.Rule.To, .float .f64 t382.1.Rule.Lo, .float .f64 t382.1.Rule.Hi, .int .u64 t382.1.Rule.Authority, .int .i64 t382.1.Rule.Quota, .bool t382.1.On]) rfl rfl rfl ?_
          refine wl_val (v := .int .i64 t382.2) rfl rfl rfl ?_
          obtain ⟨b411, w412, ew413, eb414, hst⟩ := hst.box [.int .u8 (0:Int), .int .u64 (0:Int), .int .u64 (0:Int), .int .u64 (0:Int), .int .u64 (0:Int), .int .i64 (0:Int), .int .u64 (0:Int), .int .u64 (0:Int), .int .u64 (0:Int), (.slice none 0 0), (.slice none 0 0), (.slice none 0 0), (.slice none 0 0), (.slice none 0 0), .int .i64 (0:Int), .int .u64 (0:Int), .int .u64 (0:Int), (.slice none 0 0), (.slice none 0 0), .int .u64 (0:Int), (.slice none 0 0), .int .u64 (0:Int), .int .i64 (0:Int), .int .i64 (0:Int), .float .f64 (0:Nat), .float .f64 (0:Nat), .int .u64 (0:Int), .int .i64 (0:Int), .bool false] 45
          refine wl_run (v := .pointer (some ⟨b411, 0, none⟩)) (w' := w412) rfl rfl (x_al (by kernel_rfl) ew413 eb414) ?_
          obtain ⟨w416, hr417, hst⟩ := hst.boxStore (P := Try.prog) (t := 45) (cs' := [.int .u8 t382.1.Kind, .int .u64 t382.1.ID.Session, .int .u64 t382.1.ID.Seq, .int .u64 t382.1.Epoch, .int .u64 t382.1.Index, .int .i64 t382.1.E, .int .u64 t382.1.Hold.ID.Session, .int .u64 t382.1.Hold.ID.Seq, .int .u64 t382.1.Hold.Epoch, v387, v389, v391, v393, v395, .int .i64 t382.1.R.E, .int .u64 t382.1.R.Epoch, .int .u64 t382.1.R.Index, v397, v399, .int .u64 t382.1.Shards, v401, .int .u64 t382.1.Rule.ID, .int .i64 t382.1.Rule.From, .int .i64 t382.1.Rule.To, .float .f64 t382.1.Rule.Lo, .float .f64 t382.1.Rule.Hi, .int .u64 t382.1.Rule.Authority, .int .i64 t382.1.Rule.Quota, .bool t382.1.On]) 0 (.agg #[.int .u8 t382.1.Kind, .int .u64 t382.1.ID.Session, .int .u64 t382.1.ID.Seq, .int .u64 t382.1.Epoch, .int .u64 t382.1.Index, .int .i64 t382.1.E, .int .u64 t382.1.Hold.ID.Session, .int .u64 t382.1.Hold.ID.Seq, .int .u64 t382.1.Hold.Epoch, v387, v389, v391, v393, v395, .int .i64 t382.1.R.E, .int .u64 t382.1.R.Epoch, .int .u64 t382.1.R.Index, v397, v399, .int .u64 t382.1.Shards, v401, .int .u64 t382.1.Rule.ID, .int .i64 t382.1.Rule.From, .int .i64 t382.1.Rule.To, .float .f64 t382.1.Rule.Lo, .float .f64 t382.1.Rule.Hi, .int .u64 t382.1.Rule.Authority, .int .i64 t382.1.Rule.Quota, .bool t382.1.On]) Try.sizeOf45 (Nat.le_of_ble_eq_true rfl) (ones_cons rfl (ones_cons rfl (ones_cons rfl (ones_cons rfl (ones_cons rfl (ones_cons rfl (ones_cons rfl (ones_cons rfl (ones_cons rfl (ones_cons (one_of_sliceV hst.sv1) (ones_cons (one_of_sliceV hst.sv2) (ones_cons (one_of_sliceV hst.sv3) (ones_cons (one_of_sliceV hst.sv4) (ones_cons (one_of_sliceV hst.sv5) (ones_cons rfl (ones_cons rfl (ones_cons rfl (ones_cons (one_of_sliceV hst.sv6) (ones_cons (one_of_sliceV hst.sv7) (ones_cons rfl (ones_cons (one_of_sliceV hst.sv8) (ones_cons rfl (ones_cons rfl (ones_cons rfl (ones_cons rfl (ones_cons rfl (ones_cons rfl (ones_cons rfl (ones_cons rfl ones_nil))))))))))))))))))))))))))))) (by kernel_rfl)
          refine wl_unit rfl rfl (x_unit hr417) ?_
          refine wl_val (v := .int .i64 t382.2) rfl rfl rfl ?_
          refine wl_nil ?_
          refine then_n ?_
          refine wp_seq ?_
          refine wp_region_St hst 15 [0, 1, 2, 3, 4, 5, 6, 7, 8, 9, 10, 11, 12, 13, 14] [0, 1, 3, 7, 15, 31, 7, 71, 255, 511, 1023, 2047, 4095, 8191, 16383] [] rfl (by kernel_rfl) (by kernel_rfl) Try.mixed (by kernel_rfl) ?_
          refine ws_q (v := .int .i64 t382.2) 0 [1, 2, 3, 4, 5, 6, 7, 8, 9, 10, 11, 12, 13, 14] (by kernel_rfl) rfl rfl (yi_run rfl (fun w hst => rfl)) ?_
          refine ws_q (v := .bool (t382.2 == (0:Int))) 1 [2, 3, 4, 5, 6, 7, 8, 9, 10, 11, 12, 13, 14] (by kernel_rfl) rfl rfl (yi_run rfl (fun w hst => rfl)) ?_
          refine ws_q (v := .bool (t382.2 == (0:Int))) 2 [3, 4, 5, 6, 7, 8, 9, 10, 11, 12, 13, 14] (by kernel_rfl) rfl rfl (yi_run rfl (fun w hst => rfl)) ?_
          refine bsplit (t382.2 == (0:Int)) (fun hc418 => ?_) (fun hc418 => ?_)
          · skip
            replace hm := bif_t hc418 hm
            refine ws_q (v := .agg #[.int .u8 t382.1.Kind, .int .u64 t382.1.ID.Session, .int .u64 t382.1.ID.Seq, .int .u64 t382.1.Epoch, .int .u64 t382.1.Index, .int .i64 t382.1.E, .int .u64 t382.1.Hold.ID.Session, .int .u64 t382.1.Hold.ID.Seq, .int .u64 t382.1.Hold.Epoch, v387, v389, v391, v393, v395, .int .i64 t382.1.R.E, .int .u64 t382.1.R.Epoch, .int .u64 t382.1.R.Index, v397, v399, .int .u64 t382.1.Shards, v401, .int .u64 t382.1.Rule.ID, .int .i64 t382.1.Rule.From, .int .i64 t382.1.Rule.To, .float .f64 t382.1.Rule.Lo, .float .f64 t382.1.Rule.Hi, .int .u64 t382.1.Rule.Authority, .int .i64 t382.1.Rule.Quota, .bool t382.1.On]) 3 [4, 5, 6, 7, 8, 9, 10, 11, 12, 13, 14] (by kernel_rfl) rfl rfl (yi_run ((wanted_eq rfl rfl rfl (congrArg Value.bool hc418)).trans rfl) (fun w hst => x_loadN (cs := [.int .u8 t382.1.Kind, .int .u64 t382.1.ID.Session, .int .u64 t382.1.ID.Seq, .int .u64 t382.1.Epoch, .int .u64 t382.1.Index, .int .i64 t382.1.E, .int .u64 t382.1.Hold.ID.Session, .int .u64 t382.1.Hold.ID.Seq, .int .u64 t382.1.Hold.Epoch, v387, v389, v391, v393, v395, .int .i64 t382.1.R.E, .int .u64 t382.1.R.Epoch, .int .u64 t382.1.R.Index, v397, v399, .int .u64 t382.1.Shards, v401, .int .u64 t382.1.Rule.ID, .int .i64 t382.1.Rule.From, .int .i64 t382.1.Rule.To, .float .f64 t382.1.Rule.Lo, .float .f64 t382.1.Rule.Hi, .int .u64 t382.1.Rule.Authority, .int .i64 t382.1.Rule.Quota, .bool t382.1.On]) rfl Try.isAgg45 Try.sizeOf45 (hst.bcs0 0 rfl))) ?_
            refine ws_q (v := v367) 6 [4, 5, 7, 8, 9, 10, 11, 12, 13, 14] (by kernel_rfl) rfl rfl (yi_run ((wanted_eq rfl rfl rfl (congrArg Value.bool hc418)).trans rfl) (fun w hst => rfl)) ?_
            refine ws_q (v := .string (toStr (t362.set (Int.tmod (IntKind.i64.wrap a2) ((t362).length : Int)).toNat (bXor .u8 x370 a3)))) 7 [4, 5, 8, 9, 10, 11, 12, 13, 14] (by kernel_rfl) rfl rfl (yi_run ((wanted_eq rfl rfl rfl (congrArg Value.bool hc418)).trans rfl) (fun w hst => x_tostr Try.underlying22 Try.underlying9 Try.underlying5 rfl (Src.of_ro hst f381))) ?_
            refine ws_e1 4 (by kernel_rfl) ?_
            refine nxe [5, 8, 9, 10, 11, 12, 13, 14] (by kernel_rfl) rfl ((wanted_eq rfl rfl rfl (congrArg Value.bool hc418)).trans rfl) ?_
            clear hst
            intro w hst
            replace hst := hst.pull1
            obtain ⟨css419, hq420, hst⟩ := hst.own_open
            replace hst := hst.pull2
            obtain ⟨css421, hq422, hst⟩ := hst.own_open
            replace hst := hst.pull3
            obtain ⟨css423, hq424, hst⟩ := hst.own_open
            replace hst := hst.pull4
            obtain ⟨css425, hq426, hst⟩ := hst.own_open
            replace hst := hst.pull5
            obtain ⟨css427, hq428, hst⟩ := hst.own_open
            replace hst := hst.pull6
            obtain ⟨css429, hq430, hst⟩ := hst.own_open
            replace hst := hst.pull7
            obtain ⟨css431, hq432, hst⟩ := hst.own_open
            replace hst := hst.pull8
            obtain ⟨css433, hq434, hst⟩ := hst.own_open
            obtain ⟨t435, ht436, hm⟩ := bind_some hm
            refine we_call rfl (x_call Try.call10 rfl (vs := [.agg #[.int .u8 t382.1.Kind, .int .u64 t382.1.ID.Session, .int .u64 t382.1.ID.Seq, .int .u64 t382.1.Epoch, .int .u64 t382.1.Index, .int .i64 t382.1.E, .int .u64 t382.1.Hold.ID.Session, .int .u64 t382.1.Hold.ID.Seq, .int .u64 t382.1.Hold.Epoch, v387, v389, v391, v393, v395, .int .i64 t382.1.R.E, .int .u64 t382.1.R.Epoch, .int .u64 t382.1.R.Index, v397, v399, .int .u64 t382.1.Shards, v401, .int .u64 t382.1.Rule.ID, .int .i64 t382.1.Rule.From, .int .i64 t382.1.Rule.To, .float .f64 t382.1.Rule.Lo, .float .f64 t382.1.Rule.Hi, .int .u64 t382.1.Rule.Authority, .int .i64 t382.1.Rule.Quota, .bool t382.1.On]]) rfl) ?_
            refine (command_Encode_ref (hst.rdrow7 hq420) (hst.rdrow6 hq422) (hst.rdrow5 hq424) (hst.rdrow4 hq426) (hst.rdrow3 hq428) (hst.rdrow2 hq430) (hst.rdrow1 hq432) (hst.rdrow0 hq434) hst.to0 ht436).mono ?_
            rintro _ w437 ⟨v440, rfl, hst⟩
            refine ⟨_, rfl, ?_⟩
            replace hst := hst.of1
            replace hst := hst.pull8
            replace hst := hst.own_close hq420
            replace hst := hst.pull8
            replace hst := hst.own_close hq422
            replace hst := hst.pull8
            replace hst := hst.own_close hq424
            replace hst := hst.pull8
            replace hst := hst.own_close hq426
            replace hst := hst.pull8
            replace hst := hst.own_close hq428
            replace hst := hst.pull8
            replace hst := hst.own_close hq430
            replace hst := hst.pull8
            replace hst := hst.own_close hq432
            replace hst := hst.pull8
            replace hst := hst.own_close hq434
            refine ws_next (pend' := [(7, .string (toStr (t362.set (Int.tmod (IntKind.i64.wrap a2) ((t362).length : Int)).toNat (bXor .u8 x370 a3)))), (6, v367)]) hst (by kernel_rfl) (pk_cons rfl (yi_run ((wanted_eq rfl rfl rfl (congrArg Value.bool hc418)).trans rfl) (fun w hst => x_tostr Try.underlying22 Try.underlying9 Try.underlying5 rfl (Src.of_ro hst f381))) (pk_cons rfl (yi_run ((wanted_eq rfl rfl rfl (congrArg Value.bool hc418)).trans rfl) (fun w hst => rfl)) pk_nil)) ?_
            refine ws_q (v := .string (toStr t435)) 5 [8, 9, 10, 11, 12, 13, 14] (by kernel_rfl) rfl rfl (yi_run ((wanted_eq rfl rfl rfl (congrArg Value.bool hc418)).trans rfl) (fun w hst => x_tostr Try.underlying22 Try.underlying9 Try.underlying5 rfl hst.src8)) ?_
            refine ws_q (v := .bool (sEq (toStr t435) (toStr (t362.set (Int.tmod (IntKind.i64.wrap a2) ((t362).length : Int)).toNat (bXor .u8 x370 a3))))) 8 [9, 10, 11, 12, 13, 14] (by kernel_rfl) rfl rfl (yi_run ((wanted_eq rfl rfl rfl (congrArg Value.bool hc418)).trans rfl) (fun w hst => by kernel_rfl)) ?_
            refine ws_q (v := .bool (sEq (toStr t435) (toStr (t362.set (Int.tmod (IntKind.i64.wrap a2) ((t362).length : Int)).toNat (bXor .u8 x370 a3))))) 9 [10, 11, 12, 13, 14] (by kernel_rfl) rfl rfl (yi_run rfl (fun w hst => x_pick_t hc418 rfl rfl)) ?_
            refine ws_q (v := .bool (sEq (toStr t435) (toStr (t362.set (Int.tmod (IntKind.i64.wrap a2) ((t362).length : Int)).toNat (bXor .u8 x370 a3))))) 10 [11, 12, 13, 14] (by kernel_rfl) rfl rfl (yi_run rfl (fun w hst => rfl)) ?_
            refine bsplit (sEq (toStr t435) (toStr (t362.set (Int.tmod (IntKind.i64.wrap a2) ((t362).length : Int)).toNat (bXor .u8 x370 a3)))) (fun hc442 => ?_) (fun hc442 => ?_)
            · skip
              replace hm := bif_t hc442 hm
              refine ws_q (v := undef) 11 [12, 13, 14] (by kernel_rfl) rfl rfl (yi_off ((wanted_eq rfl rfl rfl (congrArg Value.bool hc442)).trans rfl)) ?_
              refine ws_q (v := undef) 12 [13, 14] (by kernel_rfl) rfl rfl (yi_off ((wanted_eq rfl rfl rfl (congrArg Value.bool hc442)).trans rfl)) ?_
              refine ws_q (v := .bool true) 13 [14] (by kernel_rfl) rfl rfl (yi_run rfl (fun w hst => x_pick_t hc442 rfl rfl)) ?_
              refine ws_q (v := .bool true) 14 [] (by kernel_rfl) rfl rfl (yi_run rfl (fun w hst => rfl)) ?_
              refine ws_nil ?_
              intro w hst
              refine then_n ?_
              refine wp_ret ?_
              obtain rfl := some_inj hm
              refine post_ret (vs := [.bool true]) Try.results5 (rvs_cons (rv_tmp rfl) rvs_nil) ?_
              exact ⟨_, rfl, hI0, hst.keep0⟩
            · skip
              replace hm := bif_f hc442 hm
              refine ws_q (v := .int .i64 t382.2) 11 [12, 13, 14] (by kernel_rfl) rfl rfl (yi_run ((wanted_eq rfl rfl rfl (congrArg Value.bool hc442)).trans rfl) (fun w hst => rfl)) ?_
              refine ws_q (v := .bool (t382.2 == (5:Int))) 12 [13, 14] (by kernel_rfl) rfl rfl (yi_run ((wanted_eq rfl rfl rfl (congrArg Value.bool hc442)).trans rfl) (fun w hst => rfl)) ?_
              refine ws_q (v := .bool (t382.2 == (5:Int))) 13 [14] (by kernel_rfl) rfl rfl (yi_run rfl (fun w hst => x_pick_f hc442 rfl rfl)) ?_
              refine ws_q (v := .bool (t382.2 == (5:Int))) 14 [] (by kernel_rfl) rfl rfl (yi_run rfl (fun w hst => rfl)) ?_
              refine ws_nil ?_
              intro w hst
              refine then_n ?_
              refine wp_ret ?_
              obtain rfl := some_inj hm
              refine post_ret (vs := [.bool (t382.2 == (5:Int))]) Try.results5 (rvs_cons (rv_tmp rfl) rvs_nil) ?_
              exact ⟨_, rfl, hI0, hst.keep0⟩
          · skip
            replace hm := bif_f hc418 hm
            refine ws_q (v := undef) 3 [4, 5, 6, 7, 8, 9, 10, 11, 12, 13, 14] (by kernel_rfl) rfl rfl (yi_off ((wanted_eq rfl rfl rfl (congrArg Value.bool hc418)).trans rfl)) ?_
            refine ws_q (v := undef) 4 [5, 6, 7, 8, 9, 10, 11, 12, 13, 14] (by kernel_rfl) rfl rfl (yi_off ((wanted_eq rfl rfl rfl (congrArg Value.bool hc418)).trans rfl)) ?_
            refine ws_q (v := undef) 5 [6, 7, 8, 9, 10, 11, 12, 13, 14] (by kernel_rfl) rfl rfl (yi_off ((wanted_eq rfl rfl rfl (congrArg Value.bool hc418)).trans rfl)) ?_
            refine ws_q (v := undef) 6 [7, 8, 9, 10, 11, 12, 13, 14] (by kernel_rfl) rfl rfl (yi_off ((wanted_eq rfl rfl rfl (congrArg Value.bool hc418)).trans rfl)) ?_
            refine ws_q (v := undef) 7 [8, 9, 10, 11, 12, 13, 14] (by kernel_rfl) rfl rfl (yi_off ((wanted_eq rfl rfl rfl (congrArg Value.bool hc418)).trans rfl)) ?_
            refine ws_q (v := undef) 8 [9, 10, 11, 12, 13, 14] (by kernel_rfl) rfl rfl (yi_off ((wanted_eq rfl rfl rfl (congrArg Value.bool hc418)).trans rfl)) ?_
            refine ws_q (v := .bool false) 9 [10, 11, 12, 13, 14] (by kernel_rfl) rfl rfl (yi_run rfl (fun w hst => x_pick_f hc418 rfl rfl)) ?_
            refine ws_q (v := .bool false) 10 [11, 12, 13, 14] (by kernel_rfl) rfl rfl (yi_run rfl (fun w hst => rfl)) ?_
            refine ws_q (v := .int .i64 t382.2) 11 [12, 13, 14] (by kernel_rfl) rfl rfl (yi_run ((wanted_eq rfl rfl rfl rfl).trans rfl) (fun w hst => rfl)) ?_
            refine ws_q (v := .bool (t382.2 == (5:Int))) 12 [13, 14] (by kernel_rfl) rfl rfl (yi_run ((wanted_eq rfl rfl rfl rfl).trans rfl) (fun w hst => rfl)) ?_
            refine ws_q (v := .bool (t382.2 == (5:Int))) 13 [14] (by kernel_rfl) rfl rfl (yi_run rfl (fun w hst => x_pick_f rfl rfl rfl)) ?_
            refine ws_q (v := .bool (t382.2 == (5:Int))) 14 [] (by kernel_rfl) rfl rfl (yi_run rfl (fun w hst => rfl)) ?_
            refine ws_nil ?_
            intro w hst
            refine then_n ?_
            refine wp_ret ?_
            obtain rfl := some_inj hm
            refine post_ret (vs := [.bool (t382.2 == (5:Int))]) Try.results5 (rvs_cons (rv_tmp rfl) rvs_nil) ?_
            exact ⟨_, rfl, hI0, hst.keep0⟩

end Go.Proofs.Ytijcfglomdfglaa
