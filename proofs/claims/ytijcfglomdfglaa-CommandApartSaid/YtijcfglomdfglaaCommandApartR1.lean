/- The Go functions refine their models, part 1. -/
import Derived.Test.YtijcfglomdfglaaCommandApartR0
set_option linter.unusedVariables false
set_option linter.unusedSimpArgs false
set_option maxRecDepth 100000
set_option maxHeartbeats 4000000
namespace Go.Proofs.Ytijcfglomdfglaa
open Go Go.V
attribute [local irreducible] wpList Code.wp wpQuiet Calls bodyPost Oper.wp wpS Nx PendOK YieldsIn
theorem ref13_OfReply_ref {w0 w : World} {I : HL} {R : SP} {a0 : ref12_Tape} {p0 : Value}  (hst : St w0 w I [at_ref12_Tape p0 a0] R) {r : (api_Reply × ref12_Tape)} (hm : ref13_OfReply a0 = some r) :
    Calls Try.prog 12 #[p0] w fun e w' => ∃ (I' : HL) (q0_0 : Value) (q0_1 : Value), e = .returned (.agg #[.int .i64 r.1.E, .int .u64 r.1.Epoch, .int .u64 r.1.Index, q0_0, q0_1]) ∧ I.le I' ∧ St w0 w' I' [ownS ty_api_Got q0_0 r.1.Gots, ownS (tySl ty_api_Pair) q0_1 r.1.Scans, at_ref12_Tape p0 r.2] R := by
  unfold ref13_OfReply at hm
  refine calls_start (args := [p0]) Try.func12 rfl Try.ntmps12 (Nat.le_of_ble_eq_true rfl) ?_
  have hI0 := HL.le.refl I
  refine wp_seq ?_
  refine wp_region_lit ?_
  obtain ⟨b1269, w1270, ew1271, eb1272, hst⟩ := hst.box [.int .i64 (0:Int), .int .u64 (0:Int), .int .u64 (0:Int), (.slice none 0 0), (.slice none 0 0)] 39
  refine wl_run (v := .pointer (some ⟨b1269, 0, none⟩)) (w' := w1270) rfl rfl (x_al (by kernel_rfl) ew1271 eb1272) ?_
  refine wl_nil ?_
  refine then_n ?_
  refine wp_seq ?_
  refine wp_region_lit ?_
  obtain ⟨b1274, w1275, ew1276, eb1277, hst⟩ := hst.lits (E := (tyInt .i64)) (xs := [(0:Int), (0:Int), (0:Int), (8:Int), (9:Int), (3:Int)]) [[.int .i64 (0:Int)], [.int .i64 (0:Int)], [.int .i64 (0:Int)], [.int .i64 (8:Int)], [.int .i64 (9:Int)], [.int .i64 (3:Int)]] 30 6 rfl (Reps.cons rfl (Reps.cons rfl (Reps.cons rfl (Reps.cons rfl (Reps.cons rfl (Reps.cons rfl Reps.nil))))))
  refine wl_run (v := (.slice (some ⟨b1274, 0, none⟩) 6 6)) (w' := w1275) rfl rfl (x_als (by kernel_rfl) ew1276 eb1277) ?_
  refine wl_val (v := (.slice (some ⟨b1274, 0, none⟩) 6 6)) rfl rfl rfl ?_
  refine wl_nil ?_
  refine then_n ?_
  refine wp_seq ?_
  obtain ⟨y1386, hm, hx1387⟩ := bind_some hm
  refine wp_mid (fun a w => ∃ (z1378 : ref12_Tape) (z1381 : Int) (z1382 : Int) (z1383 : Int) (b1380 : Nat) (σ1384 : Nat → Value), (ref13_OfReply_j0) (z1378, z1381, z1382, z1383) = some r ∧ a = Fr 72 (upd (upd (upd σ1384 0 (p0)) 2 (.pointer (some ⟨b1269, 0, none⟩))) 4 (.pointer (some ⟨b1380, 0, none⟩))) ∧ St w0 w I [at_ref12_Tape p0 z1378, cells b1269 [.int .i64 (0:Int), .int .u64 (0:Int), .int .u64 (0:Int), (.slice none 0 0), (.slice none 0 0)], cells b1380 [.int .i64 z1381, .int .u64 z1382, .int .u64 z1383, (.slice none 0 0), (.slice none 0 0)]] R) ?_ ?_
  · skip
    refine wp_region_St hst 14 [0, 1, 2, 3, 4, 5, 6, 7, 8, 9, 10, 11, 12, 13] [0, 0, 2, 7, 15, 0, 38, 102, 0, 358, 870, 2047, 0, 8191] [] rfl (by kernel_rfl) (by kernel_rfl) Try.mixed (by kernel_rfl) ?_
    refine ws_q (v := (.slice (some ⟨b1274, 0, none⟩) 6 6)) 0 [1, 2, 3, 4, 5, 6, 7, 8, 9, 10, 11, 12, 13] (by kernel_rfl) rfl rfl (yi_run rfl (fun w hst => rfl)) ?_
    refine ws_q (v := p0) 1 [2, 3, 4, 5, 6, 7, 8, 9, 10, 11, 12, 13] (by kernel_rfl) rfl rfl (yi_run rfl (fun w hst => rfl)) ?_
    refine ws_q (v := p0) 5 [2, 3, 4, 6, 7, 8, 9, 10, 11, 12, 13] (by kernel_rfl) rfl rfl (yi_run rfl (fun w hst => rfl)) ?_
    refine ws_q (v := p0) 8 [2, 3, 4, 6, 7, 9, 10, 11, 12, 13] (by kernel_rfl) rfl rfl (yi_run rfl (fun w hst => rfl)) ?_
    refine ws_e2 2 12 (by kernel_rfl) ?_ ?_
    · skip
      refine nxe [3, 4, 6, 7, 9, 10, 11, 12, 13] (by kernel_rfl) rfl rfl ?_
      clear hst
      intro w hst
      replace hst := hst.pull2
      obtain ⟨t1279, ht1280, hm⟩ := bind_some hm
      refine we_call rfl (x_call Try.call22 rfl (vs := [p0, .int .i64 (6:Int)]) rfl) ?_
      refine (ref12_Tape_Next_ref hst.to1 ht1280).mono ?_
      rintro _ w1281 ⟨rfl, hst⟩
      refine ⟨_, rfl, ?_⟩
      replace hst := hst.of1
      refine ws_next (pend' := [(8, p0), (5, p0), (0, (.slice (some ⟨b1274, 0, none⟩) 6 6))]) hst (by kernel_rfl) (pk_cons rfl (yi_run rfl (fun w hst => rfl)) (pk_cons rfl (yi_run rfl (fun w hst => rfl)) (pk_cons rfl (yi_run rfl (fun w hst => rfl)) pk_nil))) ?_
      obtain ⟨x1284, hx1285, hm⟩ := bind_some hm
      obtain ⟨h1286, h1287, hi1288⟩ := geto_some hx1285
      refine ws_q (v := .pointer (some (eAddr (.slice (some ⟨b1274, 0, none⟩) 6 6) (t1279.1.toNat * 1 + 0)))) 3 [4, 6, 7, 9, 10, 11, 12, 13] (by kernel_rfl) rfl rfl (yi_run rfl (fun w hst => x_index rfl rfl Try.underlying78 Try.sizeOf30 hst.sv1 h1286 h1287)) ?_
      refine ws_q (v := .int .i64 x1284) 4 [6, 7, 9, 10, 11, 12, 13] (by kernel_rfl) rfl rfl (yi_run rfl (fun w hst => x_load rfl Try.isAgg30 (hst.ol1 hi1288 (by rintro _ rfl; rfl)))) ?_
      refine ws_e2 6 12 (by kernel_rfl) ?_ ?_
      · skip
        refine nxe [7, 9, 10, 11, 12, 13] (by kernel_rfl) rfl rfl ?_
        clear hst
        intro w hst
        obtain ⟨t1289, ht1290, hm⟩ := bind_some hm
        refine we_call rfl (x_call Try.call22 rfl (vs := [p0, .int .i64 (4:Int)]) rfl) ?_
        refine (ref12_Tape_Next_ref hst.to1 ht1290).mono ?_
        rintro _ w1291 ⟨rfl, hst⟩
        refine ⟨_, rfl, ?_⟩
        replace hst := hst.of1
        refine ws_next (pend' := [(4, .int .i64 x1284), (3, .pointer (some (eAddr (.slice (some ⟨b1274, 0, none⟩) 6 6) (t1279.1.toNat * 1 + 0)))), (8, p0), (0, (.slice (some ⟨b1274, 0, none⟩) 6 6))]) hst (by kernel_rfl) (pk_cons rfl (yi_run rfl (fun w hst => x_load rfl Try.isAgg30 (hst.ol1 hi1288 (by rintro _ rfl; rfl)))) (pk_cons rfl (yi_run rfl (fun w hst => x_index rfl rfl Try.underlying78 Try.sizeOf30 hst.sv1 h1286 h1287)) (pk_cons rfl (yi_run rfl (fun w hst => rfl)) (pk_cons rfl (yi_run rfl (fun w hst => rfl)) pk_nil)))) ?_
        refine ws_q (v := .int .u64 (IntKind.u64.wrap t1289.1)) 7 [9, 10, 11, 12, 13] (by kernel_rfl) rfl rfl (yi_run rfl (fun w hst => by kernel_rfl)) ?_
        refine ws_e2 9 12 (by kernel_rfl) ?_ ?_
        · skip
          refine nxe [10, 11, 12, 13] (by kernel_rfl) rfl rfl ?_
          clear hst
          intro w hst
          obtain ⟨t1294, ht1295, hm⟩ := bind_some hm
          refine we_call rfl (x_call Try.call22 rfl (vs := [p0, .int .i64 (9:Int)]) rfl) ?_
          refine (ref12_Tape_Next_ref hst.to1 ht1295).mono ?_
          rintro _ w1296 ⟨rfl, hst⟩
          refine ⟨_, rfl, ?_⟩
          replace hst := hst.of1
          refine ws_next (pend' := [(7, .int .u64 (IntKind.u64.wrap t1289.1)), (4, .int .i64 x1284), (3, .pointer (some (eAddr (.slice (some ⟨b1274, 0, none⟩) 6 6) (t1279.1.toNat * 1 + 0)))), (0, (.slice (some ⟨b1274, 0, none⟩) 6 6))]) hst (by kernel_rfl) (pk_cons rfl (yi_run rfl (fun w hst => by kernel_rfl)) (pk_cons rfl (yi_run rfl (fun w hst => x_load rfl Try.isAgg30 (hst.ol1 hi1288 (by rintro _ rfl; rfl)))) (pk_cons rfl (yi_run rfl (fun w hst => x_index rfl rfl Try.underlying78 Try.sizeOf30 hst.sv1 h1286 h1287)) (pk_cons rfl (yi_run rfl (fun w hst => rfl)) pk_nil)))) ?_
          refine ws_q (v := .int .u64 (IntKind.u64.wrap t1294.1)) 10 [11, 12, 13] (by kernel_rfl) rfl rfl (yi_run rfl (fun w hst => by kernel_rfl)) ?_
          refine ws_q (v := .agg #[.int .i64 x1284, .int .u64 (IntKind.u64.wrap t1289.1), .int .u64 (IntKind.u64.wrap t1294.1), (.slice none 0 0), (.slice none 0 0)]) 11 [12, 13] (by kernel_rfl) rfl rfl (yi_run rfl (fun w hst => by kernel_rfl)) ?_
          refine ws_e1 12 (by kernel_rfl) ?_
          refine nxe [13] (by kernel_rfl) rfl rfl ?_
          clear hst
          intro w hst
          obtain ⟨b1303, w1304, ew1305, eb1306, hst⟩ := hst.box [.int .i64 (0:Int), .int .u64 (0:Int), .int .u64 (0:Int), (.slice none 0 0), (.slice none 0 0)] 39
          refine we_run (v := .pointer (some ⟨b1303, 0, none⟩)) (w' := w1304) rfl (x_al (by kernel_rfl) ew1305 eb1306) ?_
          refine ws_next (pend' := [(11, .agg #[.int .i64 x1284, .int .u64 (IntKind.u64.wrap t1289.1), .int .u64 (IntKind.u64.wrap t1294.1), (.slice none 0 0), (.slice none 0 0)]), (10, .int .u64 (IntKind.u64.wrap t1294.1)), (7, .int .u64 (IntKind.u64.wrap t1289.1)), (4, .int .i64 x1284), (3, .pointer (some (eAddr (.slice (some ⟨b1274, 0, none⟩) 6 6) (t1279.1.toNat * 1 + 0)))), (0, (.slice (some ⟨b1274, 0, none⟩) 6 6))]) hst (by kernel_rfl) (pk_cons rfl (yi_run rfl (fun w hst => by kernel_rfl)) (pk_cons rfl (yi_run rfl (fun w hst => by kernel_rfl)) (pk_cons rfl (yi_run rfl (fun w hst => by kernel_rfl)) (pk_cons rfl (yi_run rfl (fun w hst => x_load rfl Try.isAgg30 (hst.ol2 hi1288 (by rintro _ rfl; rfl)))) (pk_cons rfl (yi_run rfl (fun w hst => x_index rfl rfl Try.underlying78 Try.sizeOf30 hst.sv2 h1286 h1287)) (pk_cons rfl (yi_run rfl (fun w hst => rfl)) pk_nil)))))) ?_
          refine ws_e1 13 (by kernel_rfl) ?_
          refine nxe [] (by kernel_rfl) rfl rfl ?_
          clear hst
          intro w hst
          obtain ⟨w1308, hr1309, hst⟩ := hst.boxStore (P := Try.prog) (t := 39) (cs' := [.int .i64 x1284, .int .u64 (IntKind.u64.wrap t1289.1), .int .u64 (IntKind.u64.wrap t1294.1), (.slice none 0 0), (.slice none 0 0)]) 0 (.agg #[.int .i64 x1284, .int .u64 (IntKind.u64.wrap t1289.1), .int .u64 (IntKind.u64.wrap t1294.1), (.slice none 0 0), (.slice none 0 0)]) Try.sizeOf39 (Nat.le_of_ble_eq_true rfl) (ones_cons rfl (ones_cons rfl (ones_cons rfl (ones_cons rfl (ones_cons rfl ones_nil))))) (by kernel_rfl)
          refine we_unit rfl (x_unit hr1309) ?_
          refine ws_next (pend' := []) hst (by kernel_rfl) pk_nil ?_
          refine ws_nil ?_
          intro w hst
          refine ⟨rfl, ?_⟩
          replace hst := hst.pull3
          replace hst := hst.pull2
          replace hst := hst.keep3
          obtain rfl := some_inj hm
          exact ⟨t1294.2, x1284, (IntKind.u64.wrap t1289.1), (IntKind.u64.wrap t1294.1), b1303, _, hx1387, ((fr_upd (t := 0) (v := p0) rfl).trans ((fr_upd (t := 2) (v := .pointer (some ⟨b1269, 0, none⟩)) rfl).trans ((fr_upd (t := 4) (v := .pointer (some ⟨b1303, 0, none⟩)) rfl).trans rfl))), hst⟩
        · skip
          refine nxe [9, 10, 11, 13] (by kernel_rfl) rfl rfl ?_
          clear hst
          intro w hst
          obtain ⟨b1312, w1313, ew1314, eb1315, hst⟩ := hst.box [.int .i64 (0:Int), .int .u64 (0:Int), .int .u64 (0:Int), (.slice none 0 0), (.slice none 0 0)] 39
          refine we_run (v := .pointer (some ⟨b1312, 0, none⟩)) (w' := w1313) rfl (x_al (by kernel_rfl) ew1314 eb1315) ?_
          refine ws_next (pend' := [(7, .int .u64 (IntKind.u64.wrap t1289.1)), (4, .int .i64 x1284), (3, .pointer (some (eAddr (.slice (some ⟨b1274, 0, none⟩) 6 6) (t1279.1.toNat * 1 + 0)))), (8, p0), (0, (.slice (some ⟨b1274, 0, none⟩) 6 6))]) hst (by kernel_rfl) (pk_cons rfl (yi_run rfl (fun w hst => by kernel_rfl)) (pk_cons rfl (yi_run rfl (fun w hst => x_load rfl Try.isAgg30 (hst.ol2 hi1288 (by rintro _ rfl; rfl)))) (pk_cons rfl (yi_run rfl (fun w hst => x_index rfl rfl Try.underlying78 Try.sizeOf30 hst.sv2 h1286 h1287)) (pk_cons rfl (yi_run rfl (fun w hst => rfl)) (pk_cons rfl (yi_run rfl (fun w hst => rfl)) pk_nil))))) ?_
          refine ws_e1 9 (by kernel_rfl) ?_
          refine nxe [10, 11, 13] (by kernel_rfl) rfl rfl ?_
          clear hst
          intro w hst
          replace hst := hst.pull1
          obtain ⟨t1317, ht1318, hm⟩ := bind_some hm
          refine we_call rfl (x_call Try.call22 rfl (vs := [p0, .int .i64 (9:Int)]) rfl) ?_
          refine (ref12_Tape_Next_ref hst.to1 ht1318).mono ?_
          rintro _ w1319 ⟨rfl, hst⟩
          refine ⟨_, rfl, ?_⟩
          replace hst := hst.of1
          refine ws_next (pend' := [(7, .int .u64 (IntKind.u64.wrap t1289.1)), (4, .int .i64 x1284), (3, .pointer (some (eAddr (.slice (some ⟨b1274, 0, none⟩) 6 6) (t1279.1.toNat * 1 + 0)))), (0, (.slice (some ⟨b1274, 0, none⟩) 6 6))]) hst (by kernel_rfl) (pk_cons rfl (yi_run rfl (fun w hst => by kernel_rfl)) (pk_cons rfl (yi_run rfl (fun w hst => x_load rfl Try.isAgg30 (hst.ol2 hi1288 (by rintro _ rfl; rfl)))) (pk_cons rfl (yi_run rfl (fun w hst => x_index rfl rfl Try.underlying78 Try.sizeOf30 hst.sv2 h1286 h1287)) (pk_cons rfl (yi_run rfl (fun w hst => rfl)) pk_nil)))) ?_
          refine ws_q (v := .int .u64 (IntKind.u64.wrap t1317.1)) 10 [11, 13] (by kernel_rfl) rfl rfl (yi_run rfl (fun w hst => by kernel_rfl)) ?_
          refine ws_q (v := .agg #[.int .i64 x1284, .int .u64 (IntKind.u64.wrap t1289.1), .int .u64 (IntKind.u64.wrap t1317.1), (.slice none 0 0), (.slice none 0 0)]) 11 [13] (by kernel_rfl) rfl rfl (yi_run rfl (fun w hst => by kernel_rfl)) ?_
          refine ws_e1 13 (by kernel_rfl) ?_
          refine nxe [] (by kernel_rfl) rfl rfl ?_
          clear hst
          intro w hst
          replace hst := hst.pull1
          obtain ⟨w1324, hr1325, hst⟩ := hst.boxStore (P := Try.prog) (t := 39) (cs' := [.int .i64 x1284, .int .u64 (IntKind.u64.wrap t1289.1), .int .u64 (IntKind.u64.wrap t1317.1), (.slice none 0 0), (.slice none 0 0)]) 0 (.agg #[.int .i64 x1284, .int .u64 (IntKind.u64.wrap t1289.1), .int .u64 (IntKind.u64.wrap t1317.1), (.slice none 0 0), (.slice none 0 0)]) Try.sizeOf39 (Nat.le_of_ble_eq_true rfl) (ones_cons rfl (ones_cons rfl (ones_cons rfl (ones_cons rfl (ones_cons rfl ones_nil))))) (by kernel_rfl)
          refine we_unit rfl (x_unit hr1325) ?_
          refine ws_next (pend' := []) hst (by kernel_rfl) pk_nil ?_
          refine ws_nil ?_
          intro w hst
          refine ⟨rfl, ?_⟩
          replace hst := hst.pull3
          replace hst := hst.pull2
          replace hst := hst.keep3
          obtain rfl := some_inj hm
          exact ⟨t1317.2, x1284, (IntKind.u64.wrap t1289.1), (IntKind.u64.wrap t1317.1), b1312, _, hx1387, ((fr_upd (t := 0) (v := p0) rfl).trans ((fr_upd (t := 2) (v := .pointer (some ⟨b1269, 0, none⟩)) rfl).trans ((fr_upd (t := 4) (v := .pointer (some ⟨b1312, 0, none⟩)) rfl).trans rfl))), hst⟩
      · skip
        refine nxe [6, 7, 9, 10, 11, 13] (by kernel_rfl) rfl rfl ?_
        clear hst
        intro w hst
        obtain ⟨b1328, w1329, ew1330, eb1331, hst⟩ := hst.box [.int .i64 (0:Int), .int .u64 (0:Int), .int .u64 (0:Int), (.slice none 0 0), (.slice none 0 0)] 39
        refine we_run (v := .pointer (some ⟨b1328, 0, none⟩)) (w' := w1329) rfl (x_al (by kernel_rfl) ew1330 eb1331) ?_
        refine ws_next (pend' := [(4, .int .i64 x1284), (3, .pointer (some (eAddr (.slice (some ⟨b1274, 0, none⟩) 6 6) (t1279.1.toNat * 1 + 0)))), (8, p0), (5, p0), (0, (.slice (some ⟨b1274, 0, none⟩) 6 6))]) hst (by kernel_rfl) (pk_cons rfl (yi_run rfl (fun w hst => x_load rfl Try.isAgg30 (hst.ol2 hi1288 (by rintro _ rfl; rfl)))) (pk_cons rfl (yi_run rfl (fun w hst => x_index rfl rfl Try.underlying78 Try.sizeOf30 hst.sv2 h1286 h1287)) (pk_cons rfl (yi_run rfl (fun w hst => rfl)) (pk_cons rfl (yi_run rfl (fun w hst => rfl)) (pk_cons rfl (yi_run rfl (fun w hst => rfl)) pk_nil))))) ?_
        refine ws_e1 6 (by kernel_rfl) ?_
        refine nxe [7, 9, 10, 11, 13] (by kernel_rfl) rfl rfl ?_
        clear hst
        intro w hst
        replace hst := hst.pull1
        obtain ⟨t1333, ht1334, hm⟩ := bind_some hm
        refine we_call rfl (x_call Try.call22 rfl (vs := [p0, .int .i64 (4:Int)]) rfl) ?_
        refine (ref12_Tape_Next_ref hst.to1 ht1334).mono ?_
        rintro _ w1335 ⟨rfl, hst⟩
        refine ⟨_, rfl, ?_⟩
        replace hst := hst.of1
        refine ws_next (pend' := [(4, .int .i64 x1284), (3, .pointer (some (eAddr (.slice (some ⟨b1274, 0, none⟩) 6 6) (t1279.1.toNat * 1 + 0)))), (8, p0), (0, (.slice (some ⟨b1274, 0, none⟩) 6 6))]) hst (by kernel_rfl) (pk_cons rfl (yi_run rfl (fun w hst => x_load rfl Try.isAgg30 (hst.ol2 hi1288 (by rintro _ rfl; rfl)))) (pk_cons rfl (yi_run rfl (fun w hst => x_index rfl rfl Try.underlying78 Try.sizeOf30 hst.sv2 h1286 h1287)) (pk_cons rfl (yi_run rfl (fun w hst => rfl)) (pk_cons rfl (yi_run rfl (fun w hst => rfl)) pk_nil)))) ?_
        refine ws_q (v := .int .u64 (IntKind.u64.wrap t1333.1)) 7 [9, 10, 11, 13] (by kernel_rfl) rfl rfl (yi_run rfl (fun w hst => by kernel_rfl)) ?_
        refine ws_e1 9 (by kernel_rfl) ?_
        refine nxe [10, 11, 13] (by kernel_rfl) rfl rfl ?_
        clear hst
        intro w hst
        obtain ⟨t1338, ht1339, hm⟩ := bind_some hm
        refine we_call rfl (x_call Try.call22 rfl (vs := [p0, .int .i64 (9:Int)]) rfl) ?_
        refine (ref12_Tape_Next_ref hst.to1 ht1339).mono ?_
        rintro _ w1340 ⟨rfl, hst⟩
        refine ⟨_, rfl, ?_⟩
        replace hst := hst.of1
        refine ws_next (pend' := [(7, .int .u64 (IntKind.u64.wrap t1333.1)), (4, .int .i64 x1284), (3, .pointer (some (eAddr (.slice (some ⟨b1274, 0, none⟩) 6 6) (t1279.1.toNat * 1 + 0)))), (0, (.slice (some ⟨b1274, 0, none⟩) 6 6))]) hst (by kernel_rfl) (pk_cons rfl (yi_run rfl (fun w hst => by kernel_rfl)) (pk_cons rfl (yi_run rfl (fun w hst => x_load rfl Try.isAgg30 (hst.ol2 hi1288 (by rintro _ rfl; rfl)))) (pk_cons rfl (yi_run rfl (fun w hst => x_index rfl rfl Try.underlying78 Try.sizeOf30 hst.sv2 h1286 h1287)) (pk_cons rfl (yi_run rfl (fun w hst => rfl)) pk_nil)))) ?_
        refine ws_q (v := .int .u64 (IntKind.u64.wrap t1338.1)) 10 [11, 13] (by kernel_rfl) rfl rfl (yi_run rfl (fun w hst => by kernel_rfl)) ?_
        refine ws_q (v := .agg #[.int .i64 x1284, .int .u64 (IntKind.u64.wrap t1333.1), .int .u64 (IntKind.u64.wrap t1338.1), (.slice none 0 0), (.slice none 0 0)]) 11 [13] (by kernel_rfl) rfl rfl (yi_run rfl (fun w hst => by kernel_rfl)) ?_
        refine ws_e1 13 (by kernel_rfl) ?_
        refine nxe [] (by kernel_rfl) rfl rfl ?_
        clear hst
        intro w hst
        replace hst := hst.pull1
        obtain ⟨w1345, hr1346, hst⟩ := hst.boxStore (P := Try.prog) (t := 39) (cs' := [.int .i64 x1284, .int .u64 (IntKind.u64.wrap t1333.1), .int .u64 (IntKind.u64.wrap t1338.1), (.slice none 0 0), (.slice none 0 0)]) 0 (.agg #[.int .i64 x1284, .int .u64 (IntKind.u64.wrap t1333.1), .int .u64 (IntKind.u64.wrap t1338.1), (.slice none 0 0), (.slice none 0 0)]) Try.sizeOf39 (Nat.le_of_ble_eq_true rfl) (ones_cons rfl (ones_cons rfl (ones_cons rfl (ones_cons rfl (ones_cons rfl ones_nil))))) (by kernel_rfl)
        refine we_unit rfl (x_unit hr1346) ?_
        refine ws_next (pend' := []) hst (by kernel_rfl) pk_nil ?_
        refine ws_nil ?_
        intro w hst
        refine ⟨rfl, ?_⟩
        replace hst := hst.pull3
        replace hst := hst.pull2
        replace hst := hst.keep3
        obtain rfl := some_inj hm
        exact ⟨t1338.2, x1284, (IntKind.u64.wrap t1333.1), (IntKind.u64.wrap t1338.1), b1328, _, hx1387, ((fr_upd (t := 0) (v := p0) rfl).trans ((fr_upd (t := 2) (v := .pointer (some ⟨b1269, 0, none⟩)) rfl).trans ((fr_upd (t := 4) (v := .pointer (some ⟨b1328, 0, none⟩)) rfl).trans rfl))), hst⟩
    · skip
      refine nxe [2, 3, 4, 6, 7, 9, 10, 11, 13] (by kernel_rfl) rfl rfl ?_
      clear hst
      intro w hst
      obtain ⟨b1349, w1350, ew1351, eb1352, hst⟩ := hst.box [.int .i64 (0:Int), .int .u64 (0:Int), .int .u64 (0:Int), (.slice none 0 0), (.slice none 0 0)] 39
      refine we_run (v := .pointer (some ⟨b1349, 0, none⟩)) (w' := w1350) rfl (x_al (by kernel_rfl) ew1351 eb1352) ?_
      refine ws_next (pend' := [(8, p0), (5, p0), (1, p0), (0, (.slice (some ⟨b1274, 0, none⟩) 6 6))]) hst (by kernel_rfl) (pk_cons rfl (yi_run rfl (fun w hst => rfl)) (pk_cons rfl (yi_run rfl (fun w hst => rfl)) (pk_cons rfl (yi_run rfl (fun w hst => rfl)) (pk_cons rfl (yi_run rfl (fun w hst => rfl)) pk_nil)))) ?_
      refine ws_e1 2 (by kernel_rfl) ?_
      refine nxe [3, 4, 6, 7, 9, 10, 11, 13] (by kernel_rfl) rfl rfl ?_
      clear hst
      intro w hst
      replace hst := hst.pull3
      obtain ⟨t1354, ht1355, hm⟩ := bind_some hm
      refine we_call rfl (x_call Try.call22 rfl (vs := [p0, .int .i64 (6:Int)]) rfl) ?_
      refine (ref12_Tape_Next_ref hst.to1 ht1355).mono ?_
      rintro _ w1356 ⟨rfl, hst⟩
      refine ⟨_, rfl, ?_⟩
      replace hst := hst.of1
      refine ws_next (pend' := [(8, p0), (5, p0), (0, (.slice (some ⟨b1274, 0, none⟩) 6 6))]) hst (by kernel_rfl) (pk_cons rfl (yi_run rfl (fun w hst => rfl)) (pk_cons rfl (yi_run rfl (fun w hst => rfl)) (pk_cons rfl (yi_run rfl (fun w hst => rfl)) pk_nil))) ?_
      obtain ⟨x1359, hx1360, hm⟩ := bind_some hm
      obtain ⟨h1361, h1362, hi1363⟩ := geto_some hx1360
      refine ws_q (v := .pointer (some (eAddr (.slice (some ⟨b1274, 0, none⟩) 6 6) (t1354.1.toNat * 1 + 0)))) 3 [4, 6, 7, 9, 10, 11, 13] (by kernel_rfl) rfl rfl (yi_run rfl (fun w hst => x_index rfl rfl Try.underlying78 Try.sizeOf30 hst.sv2 h1361 h1362)) ?_
      refine ws_q (v := .int .i64 x1359) 4 [6, 7, 9, 10, 11, 13] (by kernel_rfl) rfl rfl (yi_run rfl (fun w hst => x_load rfl Try.isAgg30 (hst.ol2 hi1363 (by rintro _ rfl; rfl)))) ?_
      refine ws_e1 6 (by kernel_rfl) ?_
      refine nxe [7, 9, 10, 11, 13] (by kernel_rfl) rfl rfl ?_
      clear hst
      intro w hst
      obtain ⟨t1364, ht1365, hm⟩ := bind_some hm
      refine we_call rfl (x_call Try.call22 rfl (vs := [p0, .int .i64 (4:Int)]) rfl) ?_
      refine (ref12_Tape_Next_ref hst.to1 ht1365).mono ?_
      rintro _ w1366 ⟨rfl, hst⟩
      refine ⟨_, rfl, ?_⟩
      replace hst := hst.of1
      refine ws_next (pend' := [(4, .int .i64 x1359), (3, .pointer (some (eAddr (.slice (some ⟨b1274, 0, none⟩) 6 6) (t1354.1.toNat * 1 + 0)))), (8, p0), (0, (.slice (some ⟨b1274, 0, none⟩) 6 6))]) hst (by kernel_rfl) (pk_cons rfl (yi_run rfl (fun w hst => x_load rfl Try.isAgg30 (hst.ol2 hi1363 (by rintro _ rfl; rfl)))) (pk_cons rfl (yi_run rfl (fun w hst => x_index rfl rfl Try.underlying78 Try.sizeOf30 hst.sv2 h1361 h1362)) (pk_cons rfl (yi_run rfl (fun w hst => rfl)) (pk_cons rfl (yi_run rfl (fun w hst => rfl)) pk_nil)))) ?_
      refine ws_q (v := .int .u64 (IntKind.u64.wrap t1364.1)) 7 [9, 10, 11, 13] (by kernel_rfl) rfl rfl (yi_run rfl (fun w hst => by kernel_rfl)) ?_
      refine ws_e1 9 (by kernel_rfl) ?_
      refine nxe [10, 11, 13] (by kernel_rfl) rfl rfl ?_
      clear hst
      intro w hst
      obtain ⟨t1369, ht1370, hm⟩ := bind_some hm
      refine we_call rfl (x_call Try.call22 rfl (vs := [p0, .int .i64 (9:Int)]) rfl) ?_
      refine (ref12_Tape_Next_ref hst.to1 ht1370).mono ?_
      rintro _ w1371 ⟨rfl, hst⟩
      refine ⟨_, rfl, ?_⟩
      replace hst := hst.of1
      refine ws_next (pend' := [(7, .int .u64 (IntKind.u64.wrap t1364.1)), (4, .int .i64 x1359), (3, .pointer (some (eAddr (.slice (some ⟨b1274, 0, none⟩) 6 6) (t1354.1.toNat * 1 + 0)))), (0, (.slice (some ⟨b1274, 0, none⟩) 6 6))]) hst (by kernel_rfl) (pk_cons rfl (yi_run rfl (fun w hst => by kernel_rfl)) (pk_cons rfl (yi_run rfl (fun w hst => x_load rfl Try.isAgg30 (hst.ol2 hi1363 (by rintro _ rfl; rfl)))) (pk_cons rfl (yi_run rfl (fun w hst => x_index rfl rfl Try.underlying78 Try.sizeOf30 hst.sv2 h1361 h1362)) (pk_cons rfl (yi_run rfl (fun w hst => rfl)) pk_nil)))) ?_
      refine ws_q (v := .int .u64 (IntKind.u64.wrap t1369.1)) 10 [11, 13] (by kernel_rfl) rfl rfl (yi_run rfl (fun w hst => by kernel_rfl)) ?_
      refine ws_q (v := .agg #[.int .i64 x1359, .int .u64 (IntKind.u64.wrap t1364.1), .int .u64 (IntKind.u64.wrap t1369.1), (.slice none 0 0), (.slice none 0 0)]) 11 [13] (by kernel_rfl) rfl rfl (yi_run rfl (fun w hst => by kernel_rfl)) ?_
      refine ws_e1 13 (by kernel_rfl) ?_
      refine nxe [] (by kernel_rfl) rfl rfl ?_
      clear hst
      intro w hst
      replace hst := hst.pull1
      obtain ⟨w1376, hr1377, hst⟩ := hst.boxStore (P := Try.prog) (t := 39) (cs' := [.int .i64 x1359, .int .u64 (IntKind.u64.wrap t1364.1), .int .u64 (IntKind.u64.wrap t1369.1), (.slice none 0 0), (.slice none 0 0)]) 0 (.agg #[.int .i64 x1359, .int .u64 (IntKind.u64.wrap t1364.1), .int .u64 (IntKind.u64.wrap t1369.1), (.slice none 0 0), (.slice none 0 0)]) Try.sizeOf39 (Nat.le_of_ble_eq_true rfl) (ones_cons rfl (ones_cons rfl (ones_cons rfl (ones_cons rfl (ones_cons rfl ones_nil))))) (by kernel_rfl)
      refine we_unit rfl (x_unit hr1377) ?_
      refine ws_next (pend' := []) hst (by kernel_rfl) pk_nil ?_
      refine ws_nil ?_
      intro w hst
      refine ⟨rfl, ?_⟩
      replace hst := hst.pull3
      replace hst := hst.pull2
      replace hst := hst.keep3
      obtain rfl := some_inj hm
      exact ⟨t1369.2, x1359, (IntKind.u64.wrap t1364.1), (IntKind.u64.wrap t1369.1), b1349, _, hx1387, ((fr_upd (t := 0) (v := p0) rfl).trans ((fr_upd (t := 2) (v := .pointer (some ⟨b1269, 0, none⟩)) rfl).trans ((fr_upd (t := 4) (v := .pointer (some ⟨b1349, 0, none⟩)) rfl).trans rfl))), hst⟩
  · skip
    clear hst
    rintro _ w1388 ⟨z1378, z1381, z1382, z1383, b1380, σ1384, hm, rfl, hst⟩
    dsimp only [ref13_OfReply_j0] at hm
    refine then_n ?_
    refine wp_seq ?_
    refine wp_region_lit ?_
    refine wl_val (v := p0) rfl rfl rfl ?_
    obtain ⟨t1389, ht1390, hm⟩ := bind_some hm
    refine wl_call rfl rfl (x_call Try.call22 rfl (vs := [p0, .int .i64 (3:Int)]) rfl) ?_
    refine (ref12_Tape_Next_ref hst.to1 ht1390).mono ?_
    rintro _ w1391 ⟨rfl, hst⟩
    refine ⟨_, rfl, ?_⟩
    replace hst := hst.of1
    refine wl_val (v := .int .i64 t1389.1) rfl rfl rfl ?_
    refine wl_nil ?_
    refine then_n ?_
    obtain ⟨y1536, hm, hx1537⟩ := bind_some hm
    refine wp_cut (fun a w => ∃ (I1533 : HL) (z1529 : ref12_Tape) (z1532 : (List api_Got)) (v1531 : Value) (σ1534 : Nat → Value), (ref13_OfReply_j1 z1381 z1382 z1383) (z1529, z1532) = some r ∧ a = Fr 72 (upd (upd (upd σ1534 0 (p0)) 2 (.pointer (some ⟨b1269, 0, none⟩))) 4 (.pointer (some ⟨b1380, 0, none⟩))) ∧ I.le I1533 ∧ St w0 w I1533 [at_ref12_Tape p0 z1529, cells b1269 [.int .i64 (0:Int), .int .u64 (0:Int), .int .u64 (0:Int), (.slice none 0 0), (.slice none 0 0)], cells b1380 [.int .i64 z1381, .int .u64 z1382, .int .u64 z1383, v1531, (.slice none 0 0)], ownS ty_api_Got v1531 z1532] R) ?_ ?_
    · skip
      have hL1538 := HL.le.refl I
      refine wp_seq ?_
      refine wp_region_lit ?_
      refine wl_val (v := .int .i64 (0:Int)) rfl rfl rfl ?_
      refine wl_nil ?_
      refine then_n ?_
      refine wp_block ?_
      replace hst := hst.own_nil ty_api_Got
      obtain ⟨n1493, hm⟩ := loopO_some hm
      refine wp_loop_n (fun n a w => ∃ (I1491 : HL) (z1486 : (List api_Got)) (z1489 : ref12_Tape) (z1490 : Int) (v1487 : Value) (σ1492 : Nat → Value), loopN (ref13_OfReply_l2 t1389) n (z1486, z1489, z1490) = some y1536 ∧ a = Fr 72 (upd (upd (upd (upd (upd σ1492 0 (p0)) 2 (.pointer (some ⟨b1269, 0, none⟩))) 4 (.pointer (some ⟨b1380, 0, none⟩))) 5 (.int .i64 t1389.1)) 6 (.int .i64 z1490)) ∧ I.le I1491 ∧ St w0 w I1491 [ownS ty_api_Got v1487 z1486, at_ref12_Tape p0 z1489, cells b1269 [.int .i64 (0:Int), .int .u64 (0:Int), .int .u64 (0:Int), (.slice none 0 0), (.slice none 0 0)], cells b1380 [.int .i64 z1381, .int .u64 z1382, .int .u64 z1383, v1487, (.slice none 0 0)]] R) n1493 ⟨_, [], t1389.2, (0:Int), (.slice none 0 0), _, hm, ((fr_upd (t := 0) (v := p0) rfl).trans ((fr_upd (t := 2) (v := .pointer (some ⟨b1269, 0, none⟩)) rfl).trans ((fr_upd (t := 4) (v := .pointer (some ⟨b1380, 0, none⟩)) rfl).trans ((fr_upd (t := 5) (v := .int .i64 t1389.1) rfl).trans ((fr_upd (t := 6) (v := .int .i64 (0:Int)) rfl).trans rfl))))), (HL.le.refl _), hst⟩ ?_
      rintro n1499 _ w1494 ⟨I1491, z1486, z1489, z1490, v1487, σ1492, hm, rfl, hL1495, hst⟩
      obtain ⟨n1496, y1497, rfl, hm, hx1498⟩ := loopN_some hm
      dsimp only [ref13_OfReply_l2] at hm
      replace hI0 := hI0.trans hL1495
      replace hL1538 := hL1538.trans hL1495
      refine wp_seq ?_
      refine wp_seq ?_
      refine wp_region_lit ?_
      refine wl_val (v := .int .i64 z1490) rfl rfl rfl ?_
      refine wl_val (v := .int .i64 t1389.1) rfl rfl rfl ?_
      refine wl_val (v := .bool (decide (z1490 < t1389.1))) rfl rfl rfl ?_
      refine wl_nil ?_
      refine then_n ?_
      refine bsplit (decide (z1490 < t1389.1)) (fun hc1500 => ?_) (fun hc1500 => ?_)
      · skip
        replace hm := bif_t hc1500 hm
        refine wp_ift (congrArg Value.bool hc1500) ?_
        refine wp_skip ?_
        refine then_n ?_
        refine wp_seq ?_
        refine wp_block ?_
        refine wp_region_St hst 12 [0, 1, 2, 3, 4, 5, 6, 7, 8, 9, 10, 11] [0, 1, 0, 4, 12, 0, 44, 124, 252, 511, 1023, 2047] [] rfl (by kernel_rfl) (by kernel_rfl) Try.mixed (by kernel_rfl) ?_
        refine ws_q (v := .pointer (some ⟨b1380, 3, none⟩)) 0 [1, 2, 3, 4, 5, 6, 7, 8, 9, 10, 11] (by kernel_rfl) rfl rfl (yi_run rfl (fun w hst => x_field rfl Try.underlying39 rfl Try.sizeOf36 rfl)) ?_
        refine ws_q (v := v1487) 1 [2, 3, 4, 5, 6, 7, 8, 9, 10, 11] (by kernel_rfl) rfl rfl (yi_run rfl (fun w hst => x_load rfl Try.isAgg36 (hst.bc3 rfl))) ?_
        refine ws_q (v := p0) 2 [3, 4, 5, 6, 7, 8, 9, 10, 11] (by kernel_rfl) rfl rfl (yi_run rfl (fun w hst => rfl)) ?_
        refine ws_q (v := p0) 5 [3, 4, 6, 7, 8, 9, 10, 11] (by kernel_rfl) rfl rfl (yi_run rfl (fun w hst => rfl)) ?_
        refine ws_e1 3 (by kernel_rfl) ?_
        refine nxe [4, 6, 7, 8, 9, 10, 11] (by kernel_rfl) rfl rfl ?_
        clear hst
        intro w hst
        replace hst := hst.pull1
        obtain ⟨t1501, ht1502, hm⟩ := bind_some hm
        refine we_call rfl (x_call Try.call22 rfl (vs := [p0, .int .i64 (2:Int)]) rfl) ?_
        refine (ref12_Tape_Next_ref hst.to1 ht1502).mono ?_
        rintro _ w1503 ⟨rfl, hst⟩
        refine ⟨_, rfl, ?_⟩
        replace hst := hst.of1
        refine ws_next (pend' := [(5, p0), (1, v1487), (0, .pointer (some ⟨b1380, 3, none⟩))]) hst (by kernel_rfl) (pk_cons rfl (yi_run rfl (fun w hst => rfl)) (pk_cons rfl (yi_run rfl (fun w hst => x_load rfl Try.isAgg36 (hst.bc3 rfl))) (pk_cons rfl (yi_run rfl (fun w hst => x_field rfl Try.underlying39 rfl Try.sizeOf36 rfl)) pk_nil))) ?_
        refine ws_q (v := .bool (t1501.1 == (0:Int))) 4 [6, 7, 8, 9, 10, 11] (by kernel_rfl) rfl rfl (yi_run rfl (fun w hst => rfl)) ?_
        refine ws_e1 6 (by kernel_rfl) ?_
        refine nxe [7, 8, 9, 10, 11] (by kernel_rfl) rfl rfl ?_
        clear hst
        intro w hst
        obtain ⟨t1506, ht1507, hm⟩ := bind_some hm
        refine we_call rfl (x_call Try.call36 rfl (vs := [p0]) rfl) ?_
        refine (ref12_Tape_Val_ref hst.to1 ht1507).mono ?_
        rintro _ w1508 ⟨v1511, rfl, hst⟩
        refine ⟨_, rfl, ?_⟩
        replace hst := hst.of2
        refine ws_next (pend' := [(4, .bool (t1501.1 == (0:Int))), (1, v1487), (0, .pointer (some ⟨b1380, 3, none⟩))]) hst (by kernel_rfl) (pk_cons rfl (yi_run rfl (fun w hst => rfl)) (pk_cons rfl (yi_run rfl (fun w hst => x_load rfl Try.isAgg36 (hst.bc4 rfl))) (pk_cons rfl (yi_run rfl (fun w hst => x_field rfl Try.underlying39 rfl Try.sizeOf36 rfl)) pk_nil))) ?_
        refine ws_q (v := .agg #[.bool (t1501.1 == (0:Int)), v1511]) 7 [8, 9, 10, 11] (by kernel_rfl) rfl rfl (yi_run rfl (fun w hst => by obtain ⟨_, _, hv_, _⟩ := hst.sv0; rw [hv_]; kernel_rfl)) ?_
        refine ws_e1 8 (by kernel_rfl) ?_
        refine nxe [9, 10, 11] (by kernel_rfl) rfl rfl ?_
        clear hst
        intro w hst
        obtain ⟨I1515, hI1516, f1517, hst⟩ := hst.own_fix
        replace hI0 := hI0.trans hI1516
        replace hL1538 := hL1538.trans hI1516
        replace hL1495 := hL1495.trans hI1516
        obtain ⟨b1518, w1519, ew1520, eb1521, hst⟩ := hst.lits (E := ty_api_Got) (xs := [({ Has := (t1501.1 == (0:Int)), Val := t1506.1 } : api_Got)]) [[.bool (t1501.1 == (0:Int)), v1511]] 51 1 rfl (Reps.cons ⟨_, rfl, f1517, one_of_sliceV (ro_sliceV f1517)⟩ Reps.nil)
        refine we_run (v := (.slice (some ⟨b1518, 0, none⟩) 1 1)) (w' := w1519) rfl (x_als (by kernel_rfl) ew1520 eb1521) ?_
        refine ws_next (pend' := [(1, v1487), (0, .pointer (some ⟨b1380, 3, none⟩))]) hst (by kernel_rfl) (pk_cons rfl (yi_run rfl (fun w hst => x_load rfl Try.isAgg36 (hst.bc4 rfl))) (pk_cons rfl (yi_run rfl (fun w hst => x_field rfl Try.underlying39 rfl Try.sizeOf36 rfl)) pk_nil)) ?_
        refine ws_e1 9 (by kernel_rfl) ?_
        refine nxe [10, 11] (by kernel_rfl) rfl rfl ?_
        clear hst
        intro w hst
        obtain ⟨hg1523, hm⟩ := gd_some hm
        replace hst := hst.pull2
        obtain ⟨v1524, w1525, hr1526, hst⟩ := run_append elem_36 Try.underlying36 hst hst.src1 (room_of hg1523 rfl) 36
        refine we_run (v := v1524) (w' := w1525) rfl (x_append rfl rfl hr1526) ?_
        refine ws_next (pend' := []) hst (by kernel_rfl) pk_nil ?_
        refine ws_q (v := .pointer (some ⟨b1380, 3, none⟩)) 10 [11] (by kernel_rfl) rfl rfl (yi_run rfl (fun w hst => x_field rfl Try.underlying39 rfl Try.sizeOf36 rfl)) ?_
        refine ws_e1 11 (by kernel_rfl) ?_
        refine nxe [] (by kernel_rfl) rfl rfl ?_
        clear hst
        intro w hst
        replace hst := hst.pull4
        obtain ⟨w1527, hr1528, hst⟩ := hst.boxStore1 (P := Try.prog) (t := 36) (cs' := [.int .i64 z1381, .int .u64 z1382, .int .u64 z1383, v1524, (.slice none 0 0)]) 3 v1524 (one_of_sliceV hst.sv1) Try.sizeOf36 rfl rfl
        refine we_unit rfl (x_unit hr1528) ?_
        refine ws_next (pend' := []) hst (by kernel_rfl) pk_nil ?_
        refine ws_nil ?_
        intro w hst
        refine blk_n ?_
        refine then_n ?_
        refine wp_region_lit ?_
        refine wl_val (v := .int .i64 z1490) rfl rfl rfl ?_
        refine wl_val (v := .int .i64 (IntKind.i64.wrap (z1490 + (1:Int)))) rfl rfl rfl ?_
        refine wl_val (v := .int .i64 (IntKind.i64.wrap (z1490 + (1:Int)))) rfl rfl rfl ?_
        refine wl_nil ?_
        refine then_n ?_
        replace hst := hst.pull4
        replace hst := hst.pull4
        replace hst := hst.pull3
        replace hst := hst.keep4
        obtain rfl := some_inj hm
        exact ⟨_, Nat.lt_succ_self _, _, (z1486 ++ ([({ Has := (t1501.1 == (0:Int)), Val := t1506.1 } : api_Got)])), t1506.2, (IntKind.i64.wrap (z1490 + (1:Int))), v1524, _, hx1498, ((fr_upd (t := 0) (v := p0) rfl).trans ((fr_upd (t := 2) (v := .pointer (some ⟨b1269, 0, none⟩)) rfl).trans ((fr_upd (t := 4) (v := .pointer (some ⟨b1380, 0, none⟩)) rfl).trans ((fr_upd (t := 5) (v := .int .i64 t1389.1) rfl).trans ((fr_upd (t := 6) (v := .int .i64 (IntKind.i64.wrap (z1490 + (1:Int)))) rfl).trans rfl))))), hL1495, hst⟩
      · skip
        replace hm := bif_f hc1500 hm
        refine wp_iff (congrArg Value.bool hc1500) ?_
        refine wp_exit ?_
        refine then_x ?_
        refine then_x ?_
        replace hm := inr_up hm hx1498
        refine blk_x ?_
        refine then_n ?_
        replace hst := hst.pull3
        replace hst := hst.pull3
        replace hst := hst.pull3
        replace hst := hst.keep4
        obtain rfl := some_inj hm
        exact ⟨_, z1489, z1486, v1487, _, hx1537, ((fr_upd (t := 0) (v := p0) rfl).trans ((fr_upd (t := 2) (v := .pointer (some ⟨b1269, 0, none⟩)) rfl).trans ((fr_upd (t := 4) (v := .pointer (some ⟨b1380, 0, none⟩)) rfl).trans rfl))), hL1538, hst⟩
    · skip
      clear hst
      rintro _ w1539 ⟨I1533, z1529, z1532, v1531, σ1534, hm, rfl, hL1535, hst⟩
      dsimp only [ref13_OfReply_j1] at hm
      replace hI0 := hI0.trans hL1535
      refine wp_seq ?_
      refine wp_region_lit ?_
      refine wl_val (v := p0) rfl rfl rfl ?_
      obtain ⟨t1540, ht1541, hm⟩ := bind_some hm
      refine wl_call rfl rfl (x_call Try.call22 rfl (vs := [p0, .int .i64 (3:Int)]) rfl) ?_
      refine (ref12_Tape_Next_ref hst.to1 ht1541).mono ?_
      rintro _ w1542 ⟨rfl, hst⟩
      refine ⟨_, rfl, ?_⟩
      replace hst := hst.of1
      refine wl_val (v := .int .i64 (IntKind.i64.wrap (Int.tdiv t1540.1 (2:Int)))) rfl rfl (x_quo (by decide) rfl rfl) ?_
      refine wl_val (v := .int .i64 (IntKind.i64.wrap (Int.tdiv t1540.1 (2:Int)))) rfl rfl rfl ?_
      refine wl_nil ?_
      refine then_n ?_
      refine wp_seq ?_
      refine wp_seq ?_
      refine wp_region_lit ?_
      refine wl_val (v := .int .i64 (0:Int)) rfl rfl rfl ?_
      refine wl_nil ?_
      refine then_n ?_
      refine wp_block ?_
      replace hst := hst.own_nil (tySl ty_api_Pair)
      obtain ⟨n2037, hm⟩ := loopO_some hm
      refine wp_loop_n (fun n a w => ∃ (I2035 : HL) (z2030 : (List (List api_Pair))) (z2033 : ref12_Tape) (z2034 : Int) (v2031 : Value) (σ2036 : Nat → Value), loopN (ref13_OfReply_l3 t1540 z1381 z1382 z1383 z1532) n (z2030, z2033, z2034) = some r ∧ a = Fr 72 (upd (upd (upd (upd (upd σ2036 0 (p0)) 2 (.pointer (some ⟨b1269, 0, none⟩))) 4 (.pointer (some ⟨b1380, 0, none⟩))) 5 (.int .i64 (IntKind.i64.wrap (Int.tdiv t1540.1 (2:Int))))) 7 (.int .i64 z2034)) ∧ I1533.le I2035 ∧ St w0 w I2035 [ownS (tySl ty_api_Pair) v2031 z2030, at_ref12_Tape p0 z2033, cells b1269 [.int .i64 (0:Int), .int .u64 (0:Int), .int .u64 (0:Int), (.slice none 0 0), (.slice none 0 0)], cells b1380 [.int .i64 z1381, .int .u64 z1382, .int .u64 z1383, v1531, v2031], ownS ty_api_Got v1531 z1532] R) n2037 ⟨_, [], t1540.2, (0:Int), (.slice none 0 0), _, hm, ((fr_upd (t := 0) (v := p0) rfl).trans ((fr_upd (t := 2) (v := .pointer (some ⟨b1269, 0, none⟩)) rfl).trans ((fr_upd (t := 4) (v := .pointer (some ⟨b1380, 0, none⟩)) rfl).trans ((fr_upd (t := 5) (v := .int .i64 (IntKind.i64.wrap (Int.tdiv t1540.1 (2:Int)))) rfl).trans ((fr_upd (t := 7) (v := .int .i64 (0:Int)) rfl).trans rfl))))), (HL.le.refl _), hst⟩ ?_
      rintro n2043 _ w2038 ⟨I2035, z2030, z2033, z2034, v2031, σ2036, hm, rfl, hL2039, hst⟩
      obtain ⟨n2040, y2041, rfl, hm, hx2042⟩ := loopN_some hm
      dsimp only [ref13_OfReply_l3] at hm
      replace hI0 := hI0.trans hL2039
      refine wp_seq ?_
      refine wp_seq ?_
      refine wp_region_lit ?_
      refine wl_val (v := .int .i64 z2034) rfl rfl rfl ?_
      refine wl_val (v := .int .i64 (IntKind.i64.wrap (Int.tdiv t1540.1 (2:Int)))) rfl rfl rfl ?_
      refine wl_val (v := .bool (decide (z2034 < (IntKind.i64.wrap (Int.tdiv t1540.1 (2:Int)))))) rfl rfl rfl ?_
      refine wl_nil ?_
      refine then_n ?_
      refine bsplit (decide (z2034 < (IntKind.i64.wrap (Int.tdiv t1540.1 (2:Int))))) (fun hc2044 => ?_) (fun hc2044 => ?_)
      · skip
        replace hm := bif_t hc2044 hm
        refine wp_ift (congrArg Value.bool hc2044) ?_
        refine wp_skip ?_
        refine then_n ?_
        refine wp_seq ?_
        refine wp_block ?_
        refine wp_seq ?_
        refine wp_region_lit ?_
        refine wl_val (v := (.slice none 0 0)) rfl rfl rfl ?_
        refine wl_nil ?_
        refine then_n ?_
        refine wp_seq ?_
        refine wp_region_lit ?_
        refine wl_val (v := p0) rfl rfl rfl ?_
        replace hst := hst.pull1
        obtain ⟨t2046, ht2047, hm⟩ := bind_some hm
        refine wl_call rfl rfl (x_call Try.call22 rfl (vs := [p0, .int .i64 (3:Int)]) rfl) ?_
        refine (ref12_Tape_Next_ref hst.to1 ht2047).mono ?_
        rintro _ w2048 ⟨rfl, hst⟩
        refine ⟨_, rfl, ?_⟩
        replace hst := hst.of1
        refine wl_val (v := .int .i64 t2046.1) rfl rfl rfl ?_
        refine wl_nil ?_
        refine then_n ?_
        obtain ⟨y2185, hm, hx2186⟩ := bind_some hm
        refine wp_cut (fun a w => ∃ (I2182 : HL) (z2178 : ref12_Tape) (z2181 : (List api_Pair)) (v2180 : Value) (σ2183 : Nat → Value), (ref13_OfReply_j4 z2030 z2034) (z2178, z2181) = some y2041 ∧ a = Fr 72 (upd (upd (upd (upd (upd (upd σ2183 0 (p0)) 2 (.pointer (some ⟨b1269, 0, none⟩))) 4 (.pointer (some ⟨b1380, 0, none⟩))) 5 (.int .i64 (IntKind.i64.wrap (Int.tdiv t1540.1 (2:Int))))) 7 (.int .i64 z2034)) 8 (v2180)) ∧ I2035.le I2182 ∧ St w0 w I2182 [at_ref12_Tape p0 z2178, cells b1269 [.int .i64 (0:Int), .int .u64 (0:Int), .int .u64 (0:Int), (.slice none 0 0), (.slice none 0 0)], cells b1380 [.int .i64 z1381, .int .u64 z1382, .int .u64 z1383, v1531, v2031], ownS ty_api_Got v1531 z1532, ownS (tySl ty_api_Pair) v2031 z2030, ownS ty_api_Pair v2180 z2181] R) ?_ ?_
        · skip
          have hL2187 := HL.le.refl I2035
          refine wp_seq ?_
          refine wp_region_lit ?_
          refine wl_val (v := .int .i64 (0:Int)) rfl rfl rfl ?_
          refine wl_nil ?_
          refine then_n ?_
          refine wp_block ?_
          replace hst := hst.own_nil ty_api_Pair
          obtain ⟨n2144, hm⟩ := loopO_some hm
          refine wp_loop_n (fun n a w => ∃ (I2142 : HL) (z2137 : ref12_Tape) (z2138 : Int) (z2139 : (List api_Pair)) (v2140 : Value) (σ2143 : Nat → Value), loopN (ref13_OfReply_l5 t2046) n (z2137, z2138, z2139) = some y2185 ∧ a = Fr 72 (upd (upd (upd (upd (upd (upd (upd (upd σ2143 0 (p0)) 2 (.pointer (some ⟨b1269, 0, none⟩))) 4 (.pointer (some ⟨b1380, 0, none⟩))) 5 (.int .i64 (IntKind.i64.wrap (Int.tdiv t1540.1 (2:Int))))) 7 (.int .i64 z2034)) 8 (v2140)) 9 (.int .i64 t2046.1)) 10 (.int .i64 z2138)) ∧ I2035.le I2142 ∧ St w0 w I2142 [ownS ty_api_Pair v2140 z2139, at_ref12_Tape p0 z2137, ownS (tySl ty_api_Pair) v2031 z2030, cells b1269 [.int .i64 (0:Int), .int .u64 (0:Int), .int .u64 (0:Int), (.slice none 0 0), (.slice none 0 0)], cells b1380 [.int .i64 z1381, .int .u64 z1382, .int .u64 z1383, v1531, v2031], ownS ty_api_Got v1531 z1532] R) n2144 ⟨_, t2046.2, (0:Int), [], (.slice none 0 0), _, hm, ((fr_upd (t := 0) (v := p0) rfl).trans ((fr_upd (t := 2) (v := .pointer (some ⟨b1269, 0, none⟩)) rfl).trans ((fr_upd (t := 4) (v := .pointer (some ⟨b1380, 0, none⟩)) rfl).trans ((fr_upd (t := 5) (v := .int .i64 (IntKind.i64.wrap (Int.tdiv t1540.1 (2:Int)))) rfl).trans ((fr_upd (t := 7) (v := .int .i64 z2034) rfl).trans ((fr_upd (t := 8) (v := (.slice none 0 0)) rfl).trans ((fr_upd (t := 9) (v := .int .i64 t2046.1) rfl).trans ((fr_upd (t := 10) (v := .int .i64 (0:Int)) rfl).trans rfl)))))))), (HL.le.refl _), hst⟩ ?_
          rintro n2150 _ w2145 ⟨I2142, z2137, z2138, z2139, v2140, σ2143, hm, rfl, hL2146, hst⟩
          obtain ⟨n2147, y2148, rfl, hm, hx2149⟩ := loopN_some hm
          dsimp only [ref13_OfReply_l5] at hm
          replace hI0 := hI0.trans hL2146
          replace hL2039 := hL2039.trans hL2146
          replace hL2187 := hL2187.trans hL2146
          refine wp_seq ?_
          refine wp_seq ?_
          refine wp_region_lit ?_
          refine wl_val (v := .int .i64 z2138) rfl rfl rfl ?_
          refine wl_val (v := .int .i64 t2046.1) rfl rfl rfl ?_
          refine wl_val (v := .bool (decide (z2138 < t2046.1))) rfl rfl rfl ?_
          refine wl_nil ?_
          refine then_n ?_
          refine bsplit (decide (z2138 < t2046.1)) (fun hc2151 => ?_) (fun hc2151 => ?_)
          · skip
            replace hm := bif_t hc2151 hm
            refine wp_ift (congrArg Value.bool hc2151) ?_
            refine wp_skip ?_
            refine then_n ?_
            refine wp_seq ?_
            refine wp_block ?_
            refine wp_region_lit ?_
            refine wl_val (v := v2140) rfl rfl rfl ?_
            refine wl_val (v := p0) rfl rfl rfl ?_
            replace hst := hst.pull1
            obtain ⟨t2152, ht2153, hm⟩ := bind_some hm
            refine wl_call rfl rfl (x_call Try.call37 rfl (vs := [p0]) rfl) ?_
            refine (ref12_Tape_Float_ref hst.to1 ht2153).mono ?_
            rintro _ w2154 ⟨rfl, hst⟩
            refine ⟨_, rfl, ?_⟩
            replace hst := hst.of1
            refine wl_val (v := p0) rfl rfl rfl ?_
            obtain ⟨t2157, ht2158, hm⟩ := bind_some hm
            refine wl_call rfl rfl (x_call Try.call36 rfl (vs := [p0]) rfl) ?_
            refine (ref12_Tape_Val_ref hst.to1 ht2158).mono ?_
            rintro _ w2159 ⟨v2162, rfl, hst⟩
            refine ⟨_, rfl, ?_⟩
            replace hst := hst.of2
            refine wl_val (v := .agg #[.float .f64 t2152.1, v2162]) rfl rfl (by obtain ⟨_, _, hv_, _⟩ := hst.sv0; rw [hv_]; kernel_rfl) ?_
            obtain ⟨I2166, hI2167, f2168, hst⟩ := hst.own_fix
            replace hI0 := hI0.trans hI2167
            replace hL2039 := hL2039.trans hI2167
            replace hL2187 := hL2187.trans hI2167
            replace hL2146 := hL2146.trans hI2167
            obtain ⟨b2169, w2170, ew2171, eb2172, hst⟩ := hst.lits (E := ty_api_Pair) (xs := [({ At := t2152.1, Val := t2157.1 } : api_Pair)]) [[.float .f64 t2152.1, v2162]] 54 1 rfl (Reps.cons ⟨_, rfl, f2168, one_of_sliceV (ro_sliceV f2168)⟩ Reps.nil)
            refine wl_run (v := (.slice (some ⟨b2169, 0, none⟩) 1 1)) (w' := w2170) rfl rfl (x_als (by kernel_rfl) ew2171 eb2172) ?_
            obtain ⟨hg2174, hm⟩ := gd_some hm
            replace hst := hst.pull2
            obtain ⟨v2175, w2176, hr2177, hst⟩ := run_append elem_52 Try.underlying52 hst hst.src1 (room_of hg2174 rfl) 52
            refine wl_run (v := v2175) (w' := w2176) rfl rfl (x_append rfl rfl hr2177) ?_
            refine wl_val (v := v2175) rfl rfl rfl ?_
            refine wl_nil ?_
            refine blk_n ?_
            refine then_n ?_
            refine wp_region_lit ?_
            refine wl_val (v := .int .i64 z2138) rfl rfl rfl ?_
            refine wl_val (v := .int .i64 (IntKind.i64.wrap (z2138 + (1:Int)))) rfl rfl rfl ?_
            refine wl_val (v := .int .i64 (IntKind.i64.wrap (z2138 + (1:Int)))) rfl rfl rfl ?_
            refine wl_nil ?_
            refine then_n ?_
            replace hst := hst.pull6
            replace hst := hst.pull6
            replace hst := hst.pull6
            replace hst := hst.pull6
            replace hst := hst.pull6
            replace hst := hst.pull5
            replace hst := hst.keep6
            obtain rfl := some_inj hm
            exact ⟨_, Nat.lt_succ_self _, _, t2157.2, (IntKind.i64.wrap (z2138 + (1:Int))), (z2139 ++ ([({ At := t2152.1, Val := t2157.1 } : api_Pair)])), v2175, _, hx2149, ((fr_upd (t := 0) (v := p0) rfl).trans ((fr_upd (t := 2) (v := .pointer (some ⟨b1269, 0, none⟩)) rfl).trans ((fr_upd (t := 4) (v := .pointer (some ⟨b1380, 0, none⟩)) rfl).trans ((fr_upd (t := 5) (v := .int .i64 (IntKind.i64.wrap (Int.tdiv t1540.1 (2:Int)))) rfl).trans ((fr_upd (t := 7) (v := .int .i64 z2034) rfl).trans ((fr_upd (t := 8) (v := v2175) rfl).trans ((fr_upd (t := 9) (v := .int .i64 t2046.1) rfl).trans ((fr_upd (t := 10) (v := .int .i64 (IntKind.i64.wrap (z2138 + (1:Int)))) rfl).trans rfl)))))))), hL2146, hst⟩
          · skip
            replace hm := bif_f hc2151 hm
            refine wp_iff (congrArg Value.bool hc2151) ?_
            refine wp_exit ?_
            refine then_x ?_
            refine then_x ?_
            replace hm := inr_up hm hx2149
            refine blk_x ?_
            refine then_n ?_
            replace hst := hst.pull2
            replace hst := hst.pull5
            replace hst := hst.pull5
            replace hst := hst.pull5
            replace hst := hst.pull5
            replace hst := hst.keep6
            obtain rfl := some_inj hm
            exact ⟨_, z2137, z2139, v2140, _, hx2186, ((fr_upd (t := 0) (v := p0) rfl).trans ((fr_upd (t := 2) (v := .pointer (some ⟨b1269, 0, none⟩)) rfl).trans ((fr_upd (t := 4) (v := .pointer (some ⟨b1380, 0, none⟩)) rfl).trans ((fr_upd (t := 5) (v := .int .i64 (IntKind.i64.wrap (Int.tdiv t1540.1 (2:Int)))) rfl).trans ((fr_upd (t := 7) (v := .int .i64 z2034) rfl).trans ((fr_upd (t := 8) (v := v2140) rfl).trans rfl)))))), hL2187, hst⟩
        · skip
          clear hst
          rintro _ w2188 ⟨I2182, z2178, z2181, v2180, σ2183, hm, rfl, hL2184, hst⟩
          dsimp only [ref13_OfReply_j4] at hm
          replace hI0 := hI0.trans hL2184
          replace hL2039 := hL2039.trans hL2184
          refine wp_region_lit ?_
          refine wl_val (v := .pointer (some ⟨b1380, 4, none⟩)) rfl rfl (x_field rfl Try.underlying39 rfl Try.sizeOf37 rfl) ?_
          refine wl_val (v := v2031) rfl rfl (x_load rfl Try.isAgg37 (hst.bc2 rfl)) ?_
          refine wl_val (v := v2180) rfl rfl rfl ?_
          replace hst := hst.pull5
          obtain ⟨I2190, hI2191, f2192, hst⟩ := hst.own_fix
          replace hI0 := hI0.trans hI2191
          replace hL2039 := hL2039.trans hI2191
          obtain ⟨b2193, w2194, ew2195, eb2196, hst⟩ := hst.lits (E := (tySl ty_api_Pair)) (xs := [z2181]) [[v2180]] 52 1 rfl (Reps.cons ⟨_, rfl, f2192, one_of_sliceV (ro_sliceV f2192)⟩ Reps.nil)
          refine wl_run (v := (.slice (some ⟨b2193, 0, none⟩) 1 1)) (w' := w2194) rfl rfl (x_als (by obtain ⟨_, _, hv_, _⟩ := (ro_sliceV f2192); rw [hv_]; kernel_rfl) ew2195 eb2196) ?_
          obtain ⟨hg2198, hm⟩ := gd_some hm
          replace hst := hst.pull5
          obtain ⟨v2199, w2200, hr2201, hst⟩ := run_append elem_37 Try.underlying37 hst hst.src1 (room_of hg2198 rfl) 37
          refine wl_run (v := v2199) (w' := w2200) rfl rfl (x_append rfl rfl hr2201) ?_
          refine wl_val (v := .pointer (some ⟨b1380, 4, none⟩)) rfl rfl (x_field rfl Try.underlying39 rfl Try.sizeOf37 rfl) ?_
          replace hst := hst.pull4
          obtain ⟨w2202, hr2203, hst⟩ := hst.boxStore1 (P := Try.prog) (t := 37) (cs' := [.int .i64 z1381, .int .u64 z1382, .int .u64 z1383, v1531, v2199]) 4 v2199 (one_of_sliceV hst.sv1) Try.sizeOf37 rfl rfl
          refine wl_unit rfl rfl (x_unit hr2203) ?_
          refine wl_nil ?_
          refine blk_n ?_
          refine then_n ?_
          refine wp_region_lit ?_
          refine wl_val (v := .int .i64 z2034) rfl rfl rfl ?_
          refine wl_val (v := .int .i64 (IntKind.i64.wrap (z2034 + (1:Int)))) rfl rfl rfl ?_
          refine wl_val (v := .int .i64 (IntKind.i64.wrap (z2034 + (1:Int)))) rfl rfl rfl ?_
          refine wl_nil ?_
          refine then_n ?_
          replace hst := hst.pull5
          replace hst := hst.pull1
          replace hst := hst.pull5
          replace hst := hst.pull5
          replace hst := hst.pull4
          replace hst := hst.keep5
          obtain rfl := some_inj hm
          exact ⟨_, Nat.lt_succ_self _, _, (z2030 ++ ([z2181])), z2178, (IntKind.i64.wrap (z2034 + (1:Int))), v2199, _, hx2042, ((fr_upd (t := 0) (v := p0) rfl).trans ((fr_upd (t := 2) (v := .pointer (some ⟨b1269, 0, none⟩)) rfl).trans ((fr_upd (t := 4) (v := .pointer (some ⟨b1380, 0, none⟩)) rfl).trans ((fr_upd (t := 5) (v := .int .i64 (IntKind.i64.wrap (Int.tdiv t1540.1 (2:Int)))) rfl).trans ((fr_upd (t := 7) (v := .int .i64 (IntKind.i64.wrap (z2034 + (1:Int)))) rfl).trans rfl))))), hL2039, hst⟩
      · skip
        replace hm := bif_f hc2044 hm
        refine wp_iff (congrArg Value.bool hc2044) ?_
        refine wp_exit ?_
        refine then_x ?_
        refine then_x ?_
        replace hm := inr_up hm hx2042
        refine blk_x ?_
        refine then_n ?_
        refine wp_seq ?_
        refine wp_region_lit ?_
        refine wl_val (v := .agg #[.int .i64 z1381, .int .u64 z1382, .int .u64 z1383, v1531, v2031]) rfl rfl (x_loadN (cs := [.int .i64 z1381, .int .u64 z1382, .int .u64 z1383, v1531, v2031]) rfl Try.isAgg39 Try.sizeOf39 (hst.bcs3 0 rfl)) ?_
        replace hst := hst.pull2
        obtain ⟨w2204, hr2205, hst⟩ := hst.boxStore (P := Try.prog) (t := 39) (cs' := [.int .i64 z1381, .int .u64 z1382, .int .u64 z1383, v1531, v2031]) 0 (.agg #[.int .i64 z1381, .int .u64 z1382, .int .u64 z1383, v1531, v2031]) Try.sizeOf39 (Nat.le_of_ble_eq_true rfl) (ones_cons rfl (ones_cons rfl (ones_cons rfl (ones_cons (one_of_sliceV hst.sv4) (ones_cons (one_of_sliceV hst.sv1) ones_nil))))) (by kernel_rfl)
        refine wl_unit rfl rfl (x_unit hr2205) ?_
        refine wl_nil ?_
        refine then_n ?_
        refine wp_ret ?_
        obtain rfl := some_inj hm
        refine post_ret (vs := [.agg #[.int .i64 z1381, .int .u64 z1382, .int .u64 z1383, v1531, v2031]]) Try.results12 (rvs_cons (rv_cell (cs := [.int .i64 z1381, .int .u64 z1382, .int .u64 z1383, v1531, v2031]) rfl Try.isAgg39 Try.sizeOf39 (hst.bcs0 0 rfl)) rvs_nil) ?_
        replace hst := hst.pull2
        replace hst := hst.pull2
        replace hst := hst.pull4
        exact ⟨_, v1531, v2031, rfl, hI0, hst.keep3⟩

theorem ref13_OfRule_ref {w0 w : World} {I : HL} {R : SP} {a0 : ref12_Tape} {p0 : Value}  (hst : St w0 w I [at_ref12_Tape p0 a0] R) {r : (api_Rule × ref12_Tape)} (hm : ref13_OfRule a0 = some r) :
    Calls Try.prog 26 #[p0] w fun e w' => e = .returned (.agg #[.int .u64 r.1.ID, .int .i64 r.1.From, .int .i64 r.1.To, .float .f64 r.1.Lo, .float .f64 r.1.Hi, .int .u64 r.1.Authority, .int .i64 r.1.Quota]) ∧ St w0 w' I [at_ref12_Tape p0 r.2] R := by
  unfold ref13_OfRule at hm
  refine calls_start (args := [p0]) Try.func26 rfl Try.ntmps26 (Nat.le_of_ble_eq_true rfl) ?_
  refine wp_seq ?_
  refine wp_region_lit ?_
  obtain ⟨b394, w395, ew396, eb397, hst⟩ := hst.box [.int .u64 (0:Int), .int .i64 (0:Int), .int .i64 (0:Int), .float .f64 (0:Nat), .float .f64 (0:Nat), .int .u64 (0:Int), .int .i64 (0:Int)] 43
  refine wl_run (v := .pointer (some ⟨b394, 0, none⟩)) (w' := w395) rfl rfl (x_al (by kernel_rfl) ew396 eb397) ?_
  refine wl_nil ?_
  refine then_n ?_
  refine wp_seq ?_
  refine wp_region_lit ?_
  refine wl_val (v := p0) rfl rfl rfl ?_
  replace hst := hst.pull1
  obtain ⟨t399, ht400, hm⟩ := bind_some hm
  refine wl_call rfl rfl (x_call Try.call22 rfl (vs := [p0, .int .i64 (3:Int)]) rfl) ?_
  refine (ref12_Tape_Next_ref hst.to1 ht400).mono ?_
  rintro _ w401 ⟨rfl, hst⟩
  refine ⟨_, rfl, ?_⟩
  replace hst := hst.of1
  refine wl_val (v := .int .u64 (IntKind.u64.wrap t399.1)) rfl rfl (by kernel_rfl) ?_
  refine wl_val (v := p0) rfl rfl rfl ?_
  obtain ⟨t404, ht405, hm⟩ := bind_some hm
  refine wl_call rfl rfl (x_call Try.call22 rfl (vs := [p0, .int .i64 (4:Int)]) rfl) ?_
  refine (ref12_Tape_Next_ref hst.to1 ht405).mono ?_
  rintro _ w406 ⟨rfl, hst⟩
  refine ⟨_, rfl, ?_⟩
  replace hst := hst.of1
  refine wl_val (v := p0) rfl rfl rfl ?_
  obtain ⟨t409, ht410, hm⟩ := bind_some hm
  refine wl_call rfl rfl (x_call Try.call22 rfl (vs := [p0, .int .i64 (4:Int)]) rfl) ?_
  refine (ref12_Tape_Next_ref hst.to1 ht410).mono ?_
  rintro _ w411 ⟨rfl, hst⟩
  refine ⟨_, rfl, ?_⟩
  replace hst := hst.of1
  refine wl_val (v := p0) rfl rfl rfl ?_
  obtain ⟨t414, ht415, hm⟩ := bind_some hm
  refine wl_call rfl rfl (x_call Try.call37 rfl (vs := [p0]) rfl) ?_
  refine (ref12_Tape_Float_ref hst.to1 ht415).mono ?_
  rintro _ w416 ⟨rfl, hst⟩
  refine ⟨_, rfl, ?_⟩
  replace hst := hst.of1
  refine wl_val (v := p0) rfl rfl rfl ?_
  obtain ⟨t419, ht420, hm⟩ := bind_some hm
  refine wl_call rfl rfl (x_call Try.call37 rfl (vs := [p0]) rfl) ?_
  refine (ref12_Tape_Float_ref hst.to1 ht420).mono ?_
  rintro _ w421 ⟨rfl, hst⟩
  refine ⟨_, rfl, ?_⟩
  replace hst := hst.of1
  refine wl_val (v := p0) rfl rfl rfl ?_
  obtain ⟨t424, ht425, hm⟩ := bind_some hm
  refine wl_call rfl rfl (x_call Try.call22 rfl (vs := [p0, .int .i64 (2:Int)]) rfl) ?_
  refine (ref12_Tape_Next_ref hst.to1 ht425).mono ?_
  rintro _ w426 ⟨rfl, hst⟩
  refine ⟨_, rfl, ?_⟩
  replace hst := hst.of1
  refine wl_val (v := .int .u64 (IntKind.u64.wrap t424.1)) rfl rfl (by kernel_rfl) ?_
  refine wl_val (v := p0) rfl rfl rfl ?_
  obtain ⟨t429, ht430, hm⟩ := bind_some hm
  refine wl_call rfl rfl (x_call Try.call22 rfl (vs := [p0, .int .i64 (3:Int)]) rfl) ?_
  refine (ref12_Tape_Next_ref hst.to1 ht430).mono ?_
  rintro _ w431 ⟨rfl, hst⟩
  refine ⟨_, rfl, ?_⟩
  replace hst := hst.of1
  refine wl_val (v := .agg #[.int .u64 (IntKind.u64.wrap t399.1), .int .i64 t404.1, .int .i64 t409.1, .float .f64 t414.1, .float .f64 t419.1, .int .u64 (IntKind.u64.wrap t424.1), .int .i64 t429.1]) rfl rfl (by kernel_rfl) ?_
  replace hst := hst.pull1
  obtain ⟨w434, hr435, hst⟩ := hst.boxStore (P := Try.prog) (t := 43) (cs' := [.int .u64 (IntKind.u64.wrap t399.1), .int .i64 t404.1, .int .i64 t409.1, .float .f64 t414.1, .float .f64 t419.1, .int .u64 (IntKind.u64.wrap t424.1), .int .i64 t429.1]) 0 (.agg #[.int .u64 (IntKind.u64.wrap t399.1), .int .i64 t404.1, .int .i64 t409.1, .float .f64 t414.1, .float .f64 t419.1, .int .u64 (IntKind.u64.wrap t424.1), .int .i64 t429.1]) Try.sizeOf43 (Nat.le_of_ble_eq_true rfl) (ones_cons rfl (ones_cons rfl (ones_cons rfl (ones_cons rfl (ones_cons rfl (ones_cons rfl (ones_cons rfl ones_nil))))))) (by kernel_rfl)
  refine wl_unit rfl rfl (x_unit hr435) ?_
  refine wl_nil ?_
  refine then_n ?_
  refine wp_ret ?_
  obtain rfl := some_inj hm
  refine post_ret (vs := [.agg #[.int .u64 (IntKind.u64.wrap t399.1), .int .i64 t404.1, .int .i64 t409.1, .float .f64 t414.1, .float .f64 t419.1, .int .u64 (IntKind.u64.wrap t424.1), .int .i64 t429.1]]) Try.results26 (rvs_cons (rv_cell (cs := [.int .u64 (IntKind.u64.wrap t399.1), .int .i64 t404.1, .int .i64 t409.1, .float .f64 t414.1, .float .f64 t419.1, .int .u64 (IntKind.u64.wrap t424.1), .int .i64 t429.1]) rfl Try.isAgg43 Try.sizeOf43 (hst.bcs0 0 rfl)) rvs_nil) ?_
  replace hst := hst.pull1
  exact ⟨rfl, hst.keep1⟩

theorem ref13_OfCommand_ref {w0 w : World} {I : HL} {R : SP} {a0 : ref12_Tape} {p0 : Value}  (hst : St w0 w I [at_ref12_Tape p0 a0] R) {r : (api_Command × ref12_Tape)} (hm : ref13_OfCommand a0 = some r) :
    Calls Try.prog 9 #[p0] w fun e w' => ∃ (I' : HL) (q0_0 : Value) (q0_1 : Value) (q0_2 : Value) (q0_3 : Value) (q0_4 : Value) (q0_5 : Value) (q0_6 : Value) (q0_7 : Value), e = .returned (.agg #[.int .u8 r.1.Kind, .int .u64 r.1.ID.Session, .int .u64 r.1.ID.Seq, .int .u64 r.1.Epoch, .int .u64 r.1.Index, .int .i64 r.1.E, .int .u64 r.1.Hold.ID.Session, .int .u64 r.1.Hold.ID.Seq, .int .u64 r.1.Hold.Epoch, q0_0, q0_1, q0_2, q0_3, q0_4, .int .i64 r.1.R.E, .int .u64 r.1.R.Epoch, .int .u64 r.1.R.Index, q0_5, q0_6, .int .u64 r.1.Shards, q0_7, .int .u64 r.1.Rule.ID, .int .i64 r.1.Rule.From, .int .i64 r.1.Rule.To, .float .f64 r.1.Rule.Lo, .float .f64 r.1.Rule.Hi, .int .u64 r.1.Rule.Authority, .int .i64 r.1.Rule.Quota, .bool r.1.On]) ∧ I.le I' ∧ St w0 w' I' [ownS tyF64 q0_0 r.1.Hold.Gets, ownS tyF2 q0_1 r.1.Hold.Scans, ownS tyF64 q0_2 r.1.Hold.Puts, ownS (tyInt .u8) q0_3 r.1.Hold.Data, ownS ty_api_Write q0_4 r.1.Writes, ownS ty_api_Got q0_5 r.1.R.Gots, ownS (tySl ty_api_Pair) q0_6 r.1.R.Scans, ownS ty_api_Part q0_7 r.1.Parts, at_ref12_Tape p0 r.2] R := by
  unfold ref13_OfCommand at hm
  refine calls_start (args := [p0]) Try.func9 rfl Try.ntmps9 (Nat.le_of_ble_eq_true rfl) ?_
  have hI0 := HL.le.refl I
  refine wp_seq ?_
  refine wp_region_lit ?_
  obtain ⟨b421, w422, ew423, eb424, hst⟩ := hst.box [.int .u8 (0:Int), .int .u64 (0:Int), .int .u64 (0:Int), .int .u64 (0:Int), .int .u64 (0:Int), .int .i64 (0:Int), .int .u64 (0:Int), .int .u64 (0:Int), .int .u64 (0:Int), (.slice none 0 0), (.slice none 0 0), (.slice none 0 0), (.slice none 0 0), (.slice none 0 0), .int .i64 (0:Int), .int .u64 (0:Int), .int .u64 (0:Int), (.slice none 0 0), (.slice none 0 0), .int .u64 (0:Int), (.slice none 0 0), .int .u64 (0:Int), .int .i64 (0:Int), .int .i64 (0:Int), .float .f64 (0:Nat), .float .f64 (0:Nat), .int .u64 (0:Int), .int .i64 (0:Int), .bool false] 45
  refine wl_run (v := .pointer (some ⟨b421, 0, none⟩)) (w' := w422) rfl rfl (x_al (by kernel_rfl) ew423 eb424) ?_
  refine wl_nil ?_
  refine then_n ?_
  refine wp_seq ?_
  refine wp_region_lit ?_
  refine wl_val (v := p0) rfl rfl rfl ?_
  replace hst := hst.pull1
  obtain ⟨t426, ht427, hm⟩ := bind_some hm
  refine wl_call rfl rfl (x_call Try.call22 rfl (vs := [p0, .int .i64 (7:Int)]) rfl) ?_
  refine (ref12_Tape_Next_ref hst.to1 ht427).mono ?_
  rintro _ w428 ⟨rfl, hst⟩
  refine ⟨_, rfl, ?_⟩
  replace hst := hst.of1
  refine wl_val (v := .int .i64 (IntKind.i64.wrap ((1:Int) + t426.1))) rfl rfl rfl ?_
  refine wl_val (v := .int .u8 (IntKind.u8.wrap (IntKind.i64.wrap ((1:Int) + t426.1)))) rfl rfl (by kernel_rfl) ?_
  refine wl_val (v := .agg #[.int .u8 (IntKind.u8.wrap (IntKind.i64.wrap ((1:Int) + t426.1))), .int .u64 (0:Int), .int .u64 (0:Int), .int .u64 (0:Int), .int .u64 (0:Int), .int .i64 (0:Int), .int .u64 (0:Int), .int .u64 (0:Int), .int .u64 (0:Int), (.slice none 0 0), (.slice none 0 0), (.slice none 0 0), (.slice none 0 0), (.slice none 0 0), .int .i64 (0:Int), .int .u64 (0:Int), .int .u64 (0:Int), (.slice none 0 0), (.slice none 0 0), .int .u64 (0:Int), (.slice none 0 0), .int .u64 (0:Int), .int .i64 (0:Int), .int .i64 (0:Int), .float .f64 (0:Nat), .float .f64 (0:Nat), .int .u64 (0:Int), .int .i64 (0:Int), .bool false]) rfl rfl (by kernel_rfl) ?_
  obtain ⟨b447, w448, ew449, eb450, hst⟩ := hst.box [.int .u8 (0:Int), .int .u64 (0:Int), .int .u64 (0:Int), .int .u64 (0:Int), .int .u64 (0:Int), .int .i64 (0:Int), .int .u64 (0:Int), .int .u64 (0:Int), .int .u64 (0:Int), (.slice none 0 0), (.slice none 0 0), (.slice none 0 0), (.slice none 0 0), (.slice none 0 0), .int .i64 (0:Int), .int .u64 (0:Int), .int .u64 (0:Int), (.slice none 0 0), (.slice none 0 0), .int .u64 (0:Int), (.slice none 0 0), .int .u64 (0:Int), .int .i64 (0:Int), .int .i64 (0:Int), .float .f64 (0:Nat), .float .f64 (0:Nat), .int .u64 (0:Int), .int .i64 (0:Int), .bool false] 45
  refine wl_run (v := .pointer (some ⟨b447, 0, none⟩)) (w' := w448) rfl rfl (x_al (by kernel_rfl) ew449 eb450) ?_
  obtain ⟨w452, hr453, hst⟩ := hst.boxStore (P := Try.prog) (t := 45) (cs' := [.int .u8 (IntKind.u8.wrap (IntKind.i64.wrap ((1:Int) + t426.1))), .int .u64 (0:Int), .int .u64 (0:Int), .int .u64 (0:Int), .int .u64 (0:Int), .int .i64 (0:Int), .int .u64 (0:Int), .int .u64 (0:Int), .int .u64 (0:Int), (.slice none 0 0), (.slice none 0 0), (.slice none 0 0), (.slice none 0 0), (.slice none 0 0), .int .i64 (0:Int), .int .u64 (0:Int), .int .u64 (0:Int), (.slice none 0 0), (.slice none 0 0), .int .u64 (0:Int), (.slice none 0 0), .int .u64 (0:Int), .int .i64 (0:Int), .int .i64 (0:Int), .float .f64 (0:Nat), .float .f64 (0:Nat), .int .u64 (0:Int), .int .i64 (0:Int), .bool false]) 0 (.agg #[.int .u8 (IntKind.u8.wrap (IntKind.i64.wrap ((1:Int) + t426.1))), .int .u64 (0:Int), .int .u64 (0:Int), .int .u64 (0:Int), .int .u64 (0:Int), .int .i64 (0:Int), .int .u64 (0:Int), .int .u64 (0:Int), .int .u64 (0:Int), (.slice none 0 0), (.slice none 0 0), (.slice none 0 0), (.slice none 0 0), (.slice none 0 0), .int .i64 (0:Int), .int .u64 (0:Int), .int .u64 (0:Int), (.slice none 0 0), (.slice none 0 0), .int .u64 (0:Int), (.slice none 0 0), .int .u64 (0:Int), .int .i64 (0:Int), .int .i64 (0:Int), .float .f64 (0:Nat), .float .f64 (0:Nat), .int .u64 (0:Int), .int .i64 (0:Int), .bool false]) Try.sizeOf45 (Nat.le_of_ble_eq_true rfl) (ones_cons rfl (ones_cons rfl (ones_cons rfl (ones_cons rfl (ones_cons rfl (ones_cons rfl (ones_cons rfl (ones_cons rfl (ones_cons rfl (ones_cons rfl (ones_cons rfl (ones_cons rfl (ones_cons rfl (ones_cons rfl (ones_cons rfl (ones_cons rfl (ones_cons rfl (ones_cons rfl (ones_cons rfl (ones_cons rfl (ones_cons rfl (ones_cons rfl (ones_cons rfl (ones_cons rfl (ones_cons rfl (ones_cons rfl (ones_cons rfl (ones_cons rfl (ones_cons rfl ones_nil))))))))))))))))))))))))))))) (by kernel_rfl)
  refine wl_unit rfl rfl (x_unit hr453) ?_
  refine wl_nil ?_
  refine then_n ?_
  refine wp_seq ?_
  refine wp_seq ?_
  refine wp_region_lit ?_
  refine wl_val (v := .pointer (some ⟨b447, 0, none⟩)) rfl rfl (x_field rfl Try.underlying45 rfl Try.sizeOf5 rfl) ?_
  refine wl_val (v := .int .u8 (IntKind.u8.wrap (IntKind.i64.wrap ((1:Int) + t426.1)))) rfl rfl (x_load rfl Try.isAgg5 (hst.bc0 rfl)) ?_
  refine wl_nil ?_
  refine then_n ?_
  refine wp_block ?_
  refine wp_seq ?_
  refine wp_region_lit ?_
  refine wl_val (v := .bool ((IntKind.u8.wrap (IntKind.i64.wrap ((1:Int) + t426.1))) == (1:Int))) rfl rfl rfl ?_
  refine wl_val (v := .bool ((IntKind.u8.wrap (IntKind.i64.wrap ((1:Int) + t426.1))) == (1:Int))) rfl rfl rfl ?_
  refine wl_nil ?_
  refine then_n ?_
  refine bsplit ((IntKind.u8.wrap (IntKind.i64.wrap ((1:Int) + t426.1))) == (1:Int)) (fun hc454 => ?_) (fun hc454 => ?_)
  · skip
    replace hm := bif_t hc454 hm
    refine wp_ift (congrArg Value.bool hc454) ?_
    refine wp_region_lit ?_
    refine wl_val (v := p0) rfl rfl rfl ?_
    replace hst := hst.pull1
    obtain ⟨t455, ht456, hm⟩ := bind_some hm
    refine wl_call rfl rfl (x_call Try.call22 rfl (vs := [p0, .int .i64 (4:Int)]) rfl) ?_
    refine (ref12_Tape_Next_ref hst.to1 ht456).mono ?_
    rintro _ w457 ⟨rfl, hst⟩
    refine ⟨_, rfl, ?_⟩
    replace hst := hst.of1
    refine wl_val (v := .int .i64 (IntKind.i64.wrap ((1:Int) + t455.1))) rfl rfl rfl ?_
    refine wl_val (v := .int .u64 (IntKind.u64.wrap (IntKind.i64.wrap ((1:Int) + t455.1)))) rfl rfl (by kernel_rfl) ?_
    refine wl_val (v := .pointer (some ⟨b447, 3, none⟩)) rfl rfl (x_field rfl Try.underlying45 rfl Try.sizeOf27 rfl) ?_
    replace hst := hst.pull1
    obtain ⟨w460, hr461, hst⟩ := hst.boxStore (P := Try.prog) (t := 27) (cs' := [.int .u8 (IntKind.u8.wrap (IntKind.i64.wrap ((1:Int) + t426.1))), .int .u64 (0:Int), .int .u64 (0:Int), .int .u64 (IntKind.u64.wrap (IntKind.i64.wrap ((1:Int) + t455.1))), .int .u64 (0:Int), .int .i64 (0:Int), .int .u64 (0:Int), .int .u64 (0:Int), .int .u64 (0:Int), (.slice none 0 0), (.slice none 0 0), (.slice none 0 0), (.slice none 0 0), (.slice none 0 0), .int .i64 (0:Int), .int .u64 (0:Int), .int .u64 (0:Int), (.slice none 0 0), (.slice none 0 0), .int .u64 (0:Int), (.slice none 0 0), .int .u64 (0:Int), .int .i64 (0:Int), .int .i64 (0:Int), .float .f64 (0:Nat), .float .f64 (0:Nat), .int .u64 (0:Int), .int .i64 (0:Int), .bool false]) 3 (.int .u64 (IntKind.u64.wrap (IntKind.i64.wrap ((1:Int) + t455.1)))) Try.sizeOf27 (Nat.le_of_ble_eq_true rfl) (ones_cons rfl ones_nil) (by kernel_rfl)
    refine wl_unit rfl rfl (x_unit hr461) ?_
    refine wl_nil ?_
    refine blk_n ?_
    refine then_n ?_
    refine wp_seq ?_
    refine wp_region_lit ?_
    refine wl_val (v := .agg #[.int .u8 (IntKind.u8.wrap (IntKind.i64.wrap ((1:Int) + t426.1))), .int .u64 (0:Int), .int .u64 (0:Int), .int .u64 (IntKind.u64.wrap (IntKind.i64.wrap ((1:Int) + t455.1))), .int .u64 (0:Int), .int .i64 (0:Int), .int .u64 (0:Int), .int .u64 (0:Int), .int .u64 (0:Int), (.slice none 0 0), (.slice none 0 0), (.slice none 0 0), (.slice none 0 0), (.slice none 0 0), .int .i64 (0:Int), .int .u64 (0:Int), .int .u64 (0:Int), (.slice none 0 0), (.slice none 0 0), .int .u64 (0:Int), (.slice none 0 0), .int .u64 (0:Int), .int .i64 (0:Int), .int .i64 (0:Int), .float .f64 (0:Nat), .float .f64 (0:Nat), .int .u64 (0:Int), .int .i64 (0:Int), .bool false]) rfl rfl (x_loadN (cs := [.int .u8 (IntKind.u8.wrap (IntKind.i64.wrap ((1:Int) + t426.1))), .int .u64 (0:Int), .int .u64 (0:Int), .int .u64 (IntKind.u64.wrap (IntKind.i64.wrap ((1:Int) + t455.1))), .int .u64 (0:Int), .int .i64 (0:Int), .int .u64 (0:Int), .int .u64 (0:Int), .int .u64 (0:Int), (.slice none 0 0), (.slice none 0 0), (.slice none 0 0), (.slice none 0 0), (.slice none 0 0), .int .i64 (0:Int), .int .u64 (0:Int), .int .u64 (0:Int), (.slice none 0 0), (.slice none 0 0), .int .u64 (0:Int), (.slice none 0 0), .int .u64 (0:Int), .int .i64 (0:Int), .int .i64 (0:Int), .float .f64 (0:Nat), .float .f64 (0:Nat), .int .u64 (0:Int), .int .i64 (0:Int), .bool false]) rfl Try.isAgg45 Try.sizeOf45 (hst.bcs0 0 rfl)) ?_
    replace hst := hst.pull2
    obtain ⟨w462, hr463, hst⟩ := hst.boxStore (P := Try.prog) (t := 45) (cs' := [.int .u8 (IntKind.u8.wrap (IntKind.i64.wrap ((1:Int) + t426.1))), .int .u64 (0:Int), .int .u64 (0:Int), .int .u64 (IntKind.u64.wrap (IntKind.i64.wrap ((1:Int) + t455.1))), .int .u64 (0:Int), .int .i64 (0:Int), .int .u64 (0:Int), .int .u64 (0:Int), .int .u64 (0:Int), (.slice none 0 0), (.slice none 0 0), (.slice none 0 0), (.slice none 0 0), (.slice none 0 0), .int .i64 (0:Int), .int .u64 (0:Int), .int .u64 (0:Int), (.slice none 0 0), (.slice none 0 0), .int .u64 (0:Int), (.slice none 0 0), .int .u64 (0:Int), .int .i64 (0:Int), .int .i64 (0:Int), .float .f64 (0:Nat), .float .f64 (0:Nat), .int .u64 (0:Int), .int .i64 (0:Int), .bool false]) 0 (.agg #[.int .u8 (IntKind.u8.wrap (IntKind.i64.wrap ((1:Int) + t426.1))), .int .u64 (0:Int), .int .u64 (0:Int), .int .u64 (IntKind.u64.wrap (IntKind.i64.wrap ((1:Int) + t455.1))), .int .u64 (0:Int), .int .i64 (0:Int), .int .u64 (0:Int), .int .u64 (0:Int), .int .u64 (0:Int), (.slice none 0 0), (.slice none 0 0), (.slice none 0 0), (.slice none 0 0), (.slice none 0 0), .int .i64 (0:Int), .int .u64 (0:Int), .int .u64 (0:Int), (.slice none 0 0), (.slice none 0 0), .int .u64 (0:Int), (.slice none 0 0), .int .u64 (0:Int), .int .i64 (0:Int), .int .i64 (0:Int), .float .f64 (0:Nat), .float .f64 (0:Nat), .int .u64 (0:Int), .int .i64 (0:Int), .bool false]) Try.sizeOf45 (Nat.le_of_ble_eq_true rfl) (ones_cons rfl (ones_cons rfl (ones_cons rfl (ones_cons rfl (ones_cons rfl (ones_cons rfl (ones_cons rfl (ones_cons rfl (ones_cons rfl (ones_cons rfl (ones_cons rfl (ones_cons rfl (ones_cons rfl (ones_cons rfl (ones_cons rfl (ones_cons rfl (ones_cons rfl (ones_cons rfl (ones_cons rfl (ones_cons rfl (ones_cons rfl (ones_cons rfl (ones_cons rfl (ones_cons rfl (ones_cons rfl (ones_cons rfl (ones_cons rfl (ones_cons rfl (ones_cons rfl ones_nil))))))))))))))))))))))))))))) (by kernel_rfl)
    refine wl_unit rfl rfl (x_unit hr463) ?_
    refine wl_nil ?_
    refine then_n ?_
    refine wp_ret ?_
    replace hst := hst.own_nil tyF64
    replace hst := hst.own_nil tyF2
    replace hst := hst.own_nil tyF64
    replace hst := hst.own_nil (tyInt .u8)
    replace hst := hst.own_nil ty_api_Write
    replace hst := hst.own_nil ty_api_Got
    replace hst := hst.own_nil (tySl ty_api_Pair)
    replace hst := hst.own_nil ty_api_Part
    obtain rfl := some_inj hm
    refine post_ret (vs := [.agg #[.int .u8 (IntKind.u8.wrap (IntKind.i64.wrap ((1:Int) + t426.1))), .int .u64 (0:Int), .int .u64 (0:Int), .int .u64 (IntKind.u64.wrap (IntKind.i64.wrap ((1:Int) + t455.1))), .int .u64 (0:Int), .int .i64 (0:Int), .int .u64 (0:Int), .int .u64 (0:Int), .int .u64 (0:Int), (.slice none 0 0), (.slice none 0 0), (.slice none 0 0), (.slice none 0 0), (.slice none 0 0), .int .i64 (0:Int), .int .u64 (0:Int), .int .u64 (0:Int), (.slice none 0 0), (.slice none 0 0), .int .u64 (0:Int), (.slice none 0 0), .int .u64 (0:Int), .int .i64 (0:Int), .int .i64 (0:Int), .float .f64 (0:Nat), .float .f64 (0:Nat), .int .u64 (0:Int), .int .i64 (0:Int), .bool false]]) Try.results9 (rvs_cons (rv_cell (cs := [.int .u8 (IntKind.u8.wrap (IntKind.i64.wrap ((1:Int) + t426.1))), .int .u64 (0:Int), .int .u64 (0:Int), .int .u64 (IntKind.u64.wrap (IntKind.i64.wrap ((1:Int) + t455.1))), .int .u64 (0:Int), .int .i64 (0:Int), .int .u64 (0:Int), .int .u64 (0:Int), .int .u64 (0:Int), (.slice none 0 0), (.slice none 0 0), (.slice none 0 0), (.slice none 0 0), (.slice none 0 0), .int .i64 (0:Int), .int .u64 (0:Int), .int .u64 (0:Int), (.slice none 0 0), (.slice none 0 0), .int .u64 (0:Int), (.slice none 0 0), .int .u64 (0:Int), .int .i64 (0:Int), .int .i64 (0:Int), .float .f64 (0:Nat), .float .f64 (0:Nat), .int .u64 (0:Int), .int .i64 (0:Int), .bool false]) rfl Try.isAgg45 Try.sizeOf45 (hst.bcs8 0 rfl)) rvs_nil) ?_
    replace hst := hst.pull10
    replace hst := hst.pull1
    replace hst := hst.pull2
    replace hst := hst.pull3
    replace hst := hst.pull4
    replace hst := hst.pull5
    replace hst := hst.pull6
    replace hst := hst.pull7
    replace hst := hst.pull8
    exact ⟨_, (.slice none 0 0), (.slice none 0 0), (.slice none 0 0), (.slice none 0 0), (.slice none 0 0), (.slice none 0 0), (.slice none 0 0), (.slice none 0 0), rfl, hI0, hst.keep9⟩
  · skip
    replace hm := bif_f hc454 hm
    refine wp_iff (congrArg Value.bool hc454) ?_
    refine wp_seq ?_
    refine wp_region_lit ?_
    refine wl_val (v := .bool ((IntKind.u8.wrap (IntKind.i64.wrap ((1:Int) + t426.1))) == (2:Int))) rfl rfl rfl ?_
    refine wl_val (v := .bool ((IntKind.u8.wrap (IntKind.i64.wrap ((1:Int) + t426.1))) == (2:Int))) rfl rfl rfl ?_
    refine wl_nil ?_
    refine then_n ?_
    refine bsplit ((IntKind.u8.wrap (IntKind.i64.wrap ((1:Int) + t426.1))) == (2:Int)) (fun hc464 => ?_) (fun hc464 => ?_)
    · skip
      replace hm := bif_t hc464 hm
      refine wp_ift (congrArg Value.bool hc464) ?_
      refine wp_region_lit ?_
      refine wl_val (v := p0) rfl rfl rfl ?_
      replace hst := hst.pull1
      obtain ⟨t465, ht466, hm⟩ := bind_some hm
      refine wl_call rfl rfl (x_call Try.call23 rfl (vs := [p0]) rfl) ?_
      refine (ref12_Tape_Hold_ref hst.to1 ht466).mono ?_
      rintro _ w467 ⟨v470, v472, v474, v476, rfl, hst⟩
      refine ⟨_, rfl, ?_⟩
      replace hst := hst.of5
      refine wl_val (v := .pointer (some ⟨b447, 6, none⟩)) rfl rfl (x_field rfl Try.underlying45 rfl Try.sizeOf34 rfl) ?_
      replace hst := hst.pull5
      obtain ⟨w478, hr479, hst⟩ := hst.boxStore (P := Try.prog) (t := 34) (cs' := [.int .u8 (IntKind.u8.wrap (IntKind.i64.wrap ((1:Int) + t426.1))), .int .u64 (0:Int), .int .u64 (0:Int), .int .u64 (0:Int), .int .u64 (0:Int), .int .i64 (0:Int), .int .u64 t465.1.ID.Session, .int .u64 t465.1.ID.Seq, .int .u64 t465.1.Epoch, v470, v472, v474, v476, (.slice none 0 0), .int .i64 (0:Int), .int .u64 (0:Int), .int .u64 (0:Int), (.slice none 0 0), (.slice none 0 0), .int .u64 (0:Int), (.slice none 0 0), .int .u64 (0:Int), .int .i64 (0:Int), .int .i64 (0:Int), .float .f64 (0:Nat), .float .f64 (0:Nat), .int .u64 (0:Int), .int .i64 (0:Int), .bool false]) 6 (.agg #[.int .u64 t465.1.ID.Session, .int .u64 t465.1.ID.Seq, .int .u64 t465.1.Epoch, v470, v472, v474, v476]) Try.sizeOf34 (Nat.le_of_ble_eq_true rfl) (ones_cons rfl (ones_cons rfl (ones_cons rfl (ones_cons (one_of_sliceV hst.sv1) (ones_cons (one_of_sliceV hst.sv2) (ones_cons (one_of_sliceV hst.sv3) (ones_cons (one_of_sliceV hst.sv4) ones_nil))))))) (by kernel_rfl)
      refine wl_unit rfl rfl (x_unit hr479) ?_
      refine wl_nil ?_
      refine blk_n ?_
      refine then_n ?_
      refine wp_seq ?_
      refine wp_region_lit ?_
      refine wl_val (v := .agg #[.int .u8 (IntKind.u8.wrap (IntKind.i64.wrap ((1:Int) + t426.1))), .int .u64 (0:Int), .int .u64 (0:Int), .int .u64 (0:Int), .int .u64 (0:Int), .int .i64 (0:Int), .int .u64 t465.1.ID.Session, .int .u64 t465.1.ID.Seq, .int .u64 t465.1.Epoch, v470, v472, v474, v476, (.slice none 0 0), .int .i64 (0:Int), .int .u64 (0:Int), .int .u64 (0:Int), (.slice none 0 0), (.slice none 0 0), .int .u64 (0:Int), (.slice none 0 0), .int .u64 (0:Int), .int .i64 (0:Int), .int .i64 (0:Int), .float .f64 (0:Nat), .float .f64 (0:Nat), .int .u64 (0:Int), .int .i64 (0:Int), .bool false]) rfl rfl (x_loadN (cs := [.int .u8 (IntKind.u8.wrap (IntKind.i64.wrap ((1:Int) + t426.1))), .int .u64 (0:Int), .int .u64 (0:Int), .int .u64 (0:Int), .int .u64 (0:Int), .int .i64 (0:Int), .int .u64 t465.1.ID.Session, .int .u64 t465.1.ID.Seq, .int .u64 t465.1.Epoch, v470, v472, v474, v476, (.slice none 0 0), .int .i64 (0:Int), .int .u64 (0:Int), .int .u64 (0:Int), (.slice none 0 0), (.slice none 0 0), .int .u64 (0:Int), (.slice none 0 0), .int .u64 (0:Int), .int .i64 (0:Int), .int .i64 (0:Int), .float .f64 (0:Nat), .float .f64 (0:Nat), .int .u64 (0:Int), .int .i64 (0:Int), .bool false]) rfl Try.isAgg45 Try.sizeOf45 (hst.bcs0 0 rfl)) ?_
      replace hst := hst.pull6
      obtain ⟨w480, hr481, hst⟩ := hst.boxStore (P := Try.prog) (t := 45) (cs' := [.int .u8 (IntKind.u8.wrap (IntKind.i64.wrap ((1:Int) + t426.1))), .int .u64 (0:Int), .int .u64 (0:Int), .int .u64 (0:Int), .int .u64 (0:Int), .int .i64 (0:Int), .int .u64 t465.1.ID.Session, .int .u64 t465.1.ID.Seq, .int .u64 t465.1.Epoch, v470, v472, v474, v476, (.slice none 0 0), .int .i64 (0:Int), .int .u64 (0:Int), .int .u64 (0:Int), (.slice none 0 0), (.slice none 0 0), .int .u64 (0:Int), (.slice none 0 0), .int .u64 (0:Int), .int .i64 (0:Int), .int .i64 (0:Int), .float .f64 (0:Nat), .float .f64 (0:Nat), .int .u64 (0:Int), .int .i64 (0:Int), .bool false]) 0 (.agg #[.int .u8 (IntKind.u8.wrap (IntKind.i64.wrap ((1:Int) + t426.1))), .int .u64 (0:Int), .int .u64 (0:Int), .int .u64 (0:Int), .int .u64 (0:Int), .int .i64 (0:Int), .int .u64 t465.1.ID.Session, .int .u64 t465.1.ID.Seq, .int .u64 t465.1.Epoch, v470, v472, v474, v476, (.slice none 0 0), .int .i64 (0:Int), .int .u64 (0:Int), .int .u64 (0:Int), (.slice none 0 0), (.slice none 0 0), .int .u64 (0:Int), (.slice none 0 0), .int .u64 (0:Int), .int .i64 (0:Int), .int .i64 (0:Int), .float .f64 (0:Nat), .float .f64 (0:Nat), .int .u64 (0:Int), .int .i64 (0:Int), .bool false]) Try.sizeOf45 (Nat.le_of_ble_eq_true rfl) (ones_cons rfl (ones_cons rfl (ones_cons rfl (ones_cons rfl (ones_cons rfl (ones_cons rfl (ones_cons rfl (ones_cons rfl (ones_cons rfl (ones_cons (one_of_sliceV hst.sv2) (ones_cons (one_of_sliceV hst.sv3) (ones_cons (one_of_sliceV hst.sv4) (ones_cons (one_of_sliceV hst.sv5) (ones_cons rfl (ones_cons rfl (ones_cons rfl (ones_cons rfl (ones_cons rfl (ones_cons rfl (ones_cons rfl (ones_cons rfl (ones_cons rfl (ones_cons rfl (ones_cons rfl (ones_cons rfl (ones_cons rfl (ones_cons rfl (ones_cons rfl (ones_cons rfl ones_nil))))))))))))))))))))))))))))) (by kernel_rfl)
      refine wl_unit rfl rfl (x_unit hr481) ?_
      refine wl_nil ?_
      refine then_n ?_
      refine wp_ret ?_
      replace hst := hst.own_nil ty_api_Write
      replace hst := hst.own_nil ty_api_Got
      replace hst := hst.own_nil (tySl ty_api_Pair)
      replace hst := hst.own_nil ty_api_Part
      obtain rfl := some_inj hm
      refine post_ret (vs := [.agg #[.int .u8 (IntKind.u8.wrap (IntKind.i64.wrap ((1:Int) + t426.1))), .int .u64 (0:Int), .int .u64 (0:Int), .int .u64 (0:Int), .int .u64 (0:Int), .int .i64 (0:Int), .int .u64 t465.1.ID.Session, .int .u64 t465.1.ID.Seq, .int .u64 t465.1.Epoch, v470, v472, v474, v476, (.slice none 0 0), .int .i64 (0:Int), .int .u64 (0:Int), .int .u64 (0:Int), (.slice none 0 0), (.slice none 0 0), .int .u64 (0:Int), (.slice none 0 0), .int .u64 (0:Int), .int .i64 (0:Int), .int .i64 (0:Int), .float .f64 (0:Nat), .float .f64 (0:Nat), .int .u64 (0:Int), .int .i64 (0:Int), .bool false]]) Try.results9 (rvs_cons (rv_cell (cs := [.int .u8 (IntKind.u8.wrap (IntKind.i64.wrap ((1:Int) + t426.1))), .int .u64 (0:Int), .int .u64 (0:Int), .int .u64 (0:Int), .int .u64 (0:Int), .int .i64 (0:Int), .int .u64 t465.1.ID.Session, .int .u64 t465.1.ID.Seq, .int .u64 t465.1.Epoch, v470, v472, v474, v476, (.slice none 0 0), .int .i64 (0:Int), .int .u64 (0:Int), .int .u64 (0:Int), (.slice none 0 0), (.slice none 0 0), .int .u64 (0:Int), (.slice none 0 0), .int .u64 (0:Int), .int .i64 (0:Int), .int .i64 (0:Int), .float .f64 (0:Nat), .float .f64 (0:Nat), .int .u64 (0:Int), .int .i64 (0:Int), .bool false]) rfl Try.isAgg45 Try.sizeOf45 (hst.bcs4 0 rfl)) rvs_nil) ?_
      replace hst := hst.pull10
      replace hst := hst.pull1
      replace hst := hst.pull2
      replace hst := hst.pull3
      replace hst := hst.pull4
      replace hst := hst.pull10
      replace hst := hst.pull10
      replace hst := hst.pull10
      replace hst := hst.pull10
      exact ⟨_, v470, v472, v474, v476, (.slice none 0 0), (.slice none 0 0), (.slice none 0 0), (.slice none 0 0), rfl, hI0, hst.keep9⟩
    · skip
      replace hm := bif_f hc464 hm
      refine wp_iff (congrArg Value.bool hc464) ?_
      refine wp_seq ?_
      refine wp_region_lit ?_
      refine wl_val (v := .bool ((IntKind.u8.wrap (IntKind.i64.wrap ((1:Int) + t426.1))) == (3:Int))) rfl rfl rfl ?_
      refine wl_val (v := .bool ((IntKind.u8.wrap (IntKind.i64.wrap ((1:Int) + t426.1))) == (3:Int))) rfl rfl rfl ?_
      refine wl_nil ?_
      refine then_n ?_
      refine bsplit ((IntKind.u8.wrap (IntKind.i64.wrap ((1:Int) + t426.1))) == (3:Int)) (fun hc482 => ?_) (fun hc482 => ?_)
      · skip
        replace hm := bif_t hc482 hm
        refine wp_ift (congrArg Value.bool hc482) ?_
        refine wp_seq ?_
        refine wp_region_lit ?_
        refine wl_val (v := p0) rfl rfl rfl ?_
        replace hst := hst.pull1
        obtain ⟨t483, ht484, hm⟩ := bind_some hm
        refine wl_call rfl rfl (x_call Try.call24 rfl (vs := [p0]) rfl) ?_
        refine (ref12_Tape_Of_ref hst.to1 ht484).mono ?_
        rintro _ w485 ⟨rfl, hst⟩
        refine ⟨_, rfl, ?_⟩
        replace hst := hst.of1
        refine wl_val (v := .pointer (some ⟨b447, 1, none⟩)) rfl rfl (x_field rfl Try.underlying45 rfl Try.sizeOf29 rfl) ?_
        replace hst := hst.pull1
        obtain ⟨w488, hr489, hst⟩ := hst.boxStore (P := Try.prog) (t := 29) (cs' := [.int .u8 (IntKind.u8.wrap (IntKind.i64.wrap ((1:Int) + t426.1))), .int .u64 t483.1.Session, .int .u64 t483.1.Seq, .int .u64 (0:Int), .int .u64 (0:Int), .int .i64 (0:Int), .int .u64 (0:Int), .int .u64 (0:Int), .int .u64 (0:Int), (.slice none 0 0), (.slice none 0 0), (.slice none 0 0), (.slice none 0 0), (.slice none 0 0), .int .i64 (0:Int), .int .u64 (0:Int), .int .u64 (0:Int), (.slice none 0 0), (.slice none 0 0), .int .u64 (0:Int), (.slice none 0 0), .int .u64 (0:Int), .int .i64 (0:Int), .int .i64 (0:Int), .float .f64 (0:Nat), .float .f64 (0:Nat), .int .u64 (0:Int), .int .i64 (0:Int), .bool false]) 1 (.agg #[.int .u64 t483.1.Session, .int .u64 t483.1.Seq]) Try.sizeOf29 (Nat.le_of_ble_eq_true rfl) (ones_cons rfl (ones_cons rfl ones_nil)) (by kernel_rfl)
        refine wl_unit rfl rfl (x_unit hr489) ?_
        refine wl_nil ?_
        refine then_n ?_
        refine wp_seq ?_
        refine wp_region_lit ?_
        obtain ⟨b490, w491, ew492, eb493, hst⟩ := hst.lits (E := (tyInt .i64)) (xs := [(0:Int), (0:Int), (8:Int)]) [[.int .i64 (0:Int)], [.int .i64 (0:Int)], [.int .i64 (8:Int)]] 30 3 rfl (Reps.cons rfl (Reps.cons rfl (Reps.cons rfl Reps.nil)))
        refine wl_run (v := (.slice (some ⟨b490, 0, none⟩) 3 3)) (w' := w491) rfl rfl (x_als (by kernel_rfl) ew492 eb493) ?_
        refine wl_val (v := p0) rfl rfl rfl ?_
        replace hst := hst.pull2
        obtain ⟨t495, ht496, hm⟩ := bind_some hm
        refine wl_call rfl rfl (x_call Try.call22 rfl (vs := [p0, .int .i64 (3:Int)]) rfl) ?_
        refine (ref12_Tape_Next_ref hst.to1 ht496).mono ?_
        rintro _ w497 ⟨rfl, hst⟩
        refine ⟨_, rfl, ?_⟩
        replace hst := hst.of1
        obtain ⟨x500, hx501, hm⟩ := bind_some hm
        obtain ⟨h502, h503, hi504⟩ := geto_some hx501
        refine wl_val (v := .pointer (some (eAddr (.slice (some ⟨b490, 0, none⟩) 3 3) (t495.1.toNat * 1 + 0)))) rfl rfl (x_index rfl rfl Try.underlying78 Try.sizeOf30 hst.sv1 h502 h503) ?_
        refine wl_val (v := .int .i64 x500) rfl rfl (x_load rfl Try.isAgg30 (hst.ol1 hi504 (by rintro _ rfl; rfl))) ?_
        refine wl_val (v := .pointer (some ⟨b447, 5, none⟩)) rfl rfl (x_field rfl Try.underlying45 rfl Try.sizeOf30 rfl) ?_
        replace hst := hst.pull2
        obtain ⟨w505, hr506, hst⟩ := hst.boxStore (P := Try.prog) (t := 30) (cs' := [.int .u8 (IntKind.u8.wrap (IntKind.i64.wrap ((1:Int) + t426.1))), .int .u64 t483.1.Session, .int .u64 t483.1.Seq, .int .u64 (0:Int), .int .u64 (0:Int), .int .i64 x500, .int .u64 (0:Int), .int .u64 (0:Int), .int .u64 (0:Int), (.slice none 0 0), (.slice none 0 0), (.slice none 0 0), (.slice none 0 0), (.slice none 0 0), .int .i64 (0:Int), .int .u64 (0:Int), .int .u64 (0:Int), (.slice none 0 0), (.slice none 0 0), .int .u64 (0:Int), (.slice none 0 0), .int .u64 (0:Int), .int .i64 (0:Int), .int .i64 (0:Int), .float .f64 (0:Nat), .float .f64 (0:Nat), .int .u64 (0:Int), .int .i64 (0:Int), .bool false]) 5 (.int .i64 x500) Try.sizeOf30 (Nat.le_of_ble_eq_true rfl) (ones_cons rfl ones_nil) (by kernel_rfl)
        refine wl_unit rfl rfl (x_unit hr506) ?_
        refine wl_nil ?_
        refine then_n ?_
        refine wp_seq ?_
        refine wp_region_lit ?_
        refine wl_val (v := p0) rfl rfl rfl ?_
        replace hst := hst.pull1
        obtain ⟨t507, ht508, hm⟩ := bind_some hm
        refine wl_call rfl rfl (x_call Try.call22 rfl (vs := [p0, .int .i64 (4:Int)]) rfl) ?_
        refine (ref12_Tape_Next_ref hst.to1 ht508).mono ?_
        rintro _ w509 ⟨rfl, hst⟩
        refine ⟨_, rfl, ?_⟩
        replace hst := hst.of1
        refine wl_val (v := .int .i64 (IntKind.i64.wrap ((1:Int) + t507.1))) rfl rfl rfl ?_
        refine wl_val (v := .int .u64 (IntKind.u64.wrap (IntKind.i64.wrap ((1:Int) + t507.1)))) rfl rfl (by kernel_rfl) ?_
        refine wl_val (v := .pointer (some ⟨b447, 3, none⟩)) rfl rfl (x_field rfl Try.underlying45 rfl Try.sizeOf27 rfl) ?_
        replace hst := hst.pull1
        obtain ⟨w512, hr513, hst⟩ := hst.boxStore (P := Try.prog) (t := 27) (cs' := [.int .u8 (IntKind.u8.wrap (IntKind.i64.wrap ((1:Int) + t426.1))), .int .u64 t483.1.Session, .int .u64 t483.1.Seq, .int .u64 (IntKind.u64.wrap (IntKind.i64.wrap ((1:Int) + t507.1))), .int .u64 (0:Int), .int .i64 x500, .int .u64 (0:Int), .int .u64 (0:Int), .int .u64 (0:Int), (.slice none 0 0), (.slice none 0 0), (.slice none 0 0), (.slice none 0 0), (.slice none 0 0), .int .i64 (0:Int), .int .u64 (0:Int), .int .u64 (0:Int), (.slice none 0 0), (.slice none 0 0), .int .u64 (0:Int), (.slice none 0 0), .int .u64 (0:Int), .int .i64 (0:Int), .int .i64 (0:Int), .float .f64 (0:Nat), .float .f64 (0:Nat), .int .u64 (0:Int), .int .i64 (0:Int), .bool false]) 3 (.int .u64 (IntKind.u64.wrap (IntKind.i64.wrap ((1:Int) + t507.1)))) Try.sizeOf27 (Nat.le_of_ble_eq_true rfl) (ones_cons rfl ones_nil) (by kernel_rfl)
        refine wl_unit rfl rfl (x_unit hr513) ?_
        refine wl_nil ?_
        refine then_n ?_
        refine wp_seq ?_
        refine wp_region_lit ?_
        refine wl_val (v := p0) rfl rfl rfl ?_
        replace hst := hst.pull1
        obtain ⟨t514, ht515, hm⟩ := bind_some hm
        refine wl_call rfl rfl (x_call Try.call22 rfl (vs := [p0, .int .i64 (20:Int)]) rfl) ?_
        refine (ref12_Tape_Next_ref hst.to1 ht515).mono ?_
        rintro _ w516 ⟨rfl, hst⟩
        refine ⟨_, rfl, ?_⟩
        replace hst := hst.of1
        refine wl_val (v := .int .u64 (IntKind.u64.wrap t514.1)) rfl rfl (by kernel_rfl) ?_
        refine wl_val (v := .pointer (some ⟨b447, 4, none⟩)) rfl rfl (x_field rfl Try.underlying45 rfl Try.sizeOf27 rfl) ?_
        replace hst := hst.pull1
        obtain ⟨w519, hr520, hst⟩ := hst.boxStore (P := Try.prog) (t := 27) (cs' := [.int .u8 (IntKind.u8.wrap (IntKind.i64.wrap ((1:Int) + t426.1))), .int .u64 t483.1.Session, .int .u64 t483.1.Seq, .int .u64 (IntKind.u64.wrap (IntKind.i64.wrap ((1:Int) + t507.1))), .int .u64 (IntKind.u64.wrap t514.1), .int .i64 x500, .int .u64 (0:Int), .int .u64 (0:Int), .int .u64 (0:Int), (.slice none 0 0), (.slice none 0 0), (.slice none 0 0), (.slice none 0 0), (.slice none 0 0), .int .i64 (0:Int), .int .u64 (0:Int), .int .u64 (0:Int), (.slice none 0 0), (.slice none 0 0), .int .u64 (0:Int), (.slice none 0 0), .int .u64 (0:Int), .int .i64 (0:Int), .int .i64 (0:Int), .float .f64 (0:Nat), .float .f64 (0:Nat), .int .u64 (0:Int), .int .i64 (0:Int), .bool false]) 4 (.int .u64 (IntKind.u64.wrap t514.1)) Try.sizeOf27 (Nat.le_of_ble_eq_true rfl) (ones_cons rfl ones_nil) (by kernel_rfl)
        refine wl_unit rfl rfl (x_unit hr520) ?_
        refine wl_nil ?_
        refine then_n ?_
        refine wp_region_lit ?_
        refine wl_val (v := p0) rfl rfl rfl ?_
        replace hst := hst.pull1
        obtain ⟨t521, ht522, hm⟩ := bind_some hm
        refine wl_call rfl rfl (x_call Try.call25 rfl (vs := [p0]) rfl) ?_
        refine (ref13_OfWrites_ref hst.to1 ht522).mono ?_
        rintro _ w523 ⟨I524, v526, rfl, hI525, hst⟩
        refine ⟨_, rfl, ?_⟩
        replace hst := hst.of2
        replace hI0 := hI0.trans hI525
        refine wl_val (v := .pointer (some ⟨b447, 13, none⟩)) rfl rfl (x_field rfl Try.underlying45 rfl Try.sizeOf35 rfl) ?_
        replace hst := hst.pull2
        obtain ⟨w528, hr529, hst⟩ := hst.boxStore1 (P := Try.prog) (t := 35) (cs' := [.int .u8 (IntKind.u8.wrap (IntKind.i64.wrap ((1:Int) + t426.1))), .int .u64 t483.1.Session, .int .u64 t483.1.Seq, .int .u64 (IntKind.u64.wrap (IntKind.i64.wrap ((1:Int) + t507.1))), .int .u64 (IntKind.u64.wrap t514.1), .int .i64 x500, .int .u64 (0:Int), .int .u64 (0:Int), .int .u64 (0:Int), (.slice none 0 0), (.slice none 0 0), (.slice none 0 0), (.slice none 0 0), v526, .int .i64 (0:Int), .int .u64 (0:Int), .int .u64 (0:Int), (.slice none 0 0), (.slice none 0 0), .int .u64 (0:Int), (.slice none 0 0), .int .u64 (0:Int), .int .i64 (0:Int), .int .i64 (0:Int), .float .f64 (0:Nat), .float .f64 (0:Nat), .int .u64 (0:Int), .int .i64 (0:Int), .bool false]) 13 v526 (one_of_sliceV hst.sv1) Try.sizeOf35 rfl rfl
        refine wl_unit rfl rfl (x_unit hr529) ?_
        refine wl_nil ?_
        refine blk_n ?_
        refine then_n ?_
        refine wp_seq ?_
        refine wp_region_lit ?_
        refine wl_val (v := .agg #[.int .u8 (IntKind.u8.wrap (IntKind.i64.wrap ((1:Int) + t426.1))), .int .u64 t483.1.Session, .int .u64 t483.1.Seq, .int .u64 (IntKind.u64.wrap (IntKind.i64.wrap ((1:Int) + t507.1))), .int .u64 (IntKind.u64.wrap t514.1), .int .i64 x500, .int .u64 (0:Int), .int .u64 (0:Int), .int .u64 (0:Int), (.slice none 0 0), (.slice none 0 0), (.slice none 0 0), (.slice none 0 0), v526, .int .i64 (0:Int), .int .u64 (0:Int), .int .u64 (0:Int), (.slice none 0 0), (.slice none 0 0), .int .u64 (0:Int), (.slice none 0 0), .int .u64 (0:Int), .int .i64 (0:Int), .int .i64 (0:Int), .float .f64 (0:Nat), .float .f64 (0:Nat), .int .u64 (0:Int), .int .i64 (0:Int), .bool false]) rfl rfl (x_loadN (cs := [.int .u8 (IntKind.u8.wrap (IntKind.i64.wrap ((1:Int) + t426.1))), .int .u64 t483.1.Session, .int .u64 t483.1.Seq, .int .u64 (IntKind.u64.wrap (IntKind.i64.wrap ((1:Int) + t507.1))), .int .u64 (IntKind.u64.wrap t514.1), .int .i64 x500, .int .u64 (0:Int), .int .u64 (0:Int), .int .u64 (0:Int), (.slice none 0 0), (.slice none 0 0), (.slice none 0 0), (.slice none 0 0), v526, .int .i64 (0:Int), .int .u64 (0:Int), .int .u64 (0:Int), (.slice none 0 0), (.slice none 0 0), .int .u64 (0:Int), (.slice none 0 0), .int .u64 (0:Int), .int .i64 (0:Int), .int .i64 (0:Int), .float .f64 (0:Nat), .float .f64 (0:Nat), .int .u64 (0:Int), .int .i64 (0:Int), .bool false]) rfl Try.isAgg45 Try.sizeOf45 (hst.bcs0 0 rfl)) ?_
        replace hst := hst.pull4
        obtain ⟨w530, hr531, hst⟩ := hst.boxStore (P := Try.prog) (t := 45) (cs' := [.int .u8 (IntKind.u8.wrap (IntKind.i64.wrap ((1:Int) + t426.1))), .int .u64 t483.1.Session, .int .u64 t483.1.Seq, .int .u64 (IntKind.u64.wrap (IntKind.i64.wrap ((1:Int) + t507.1))), .int .u64 (IntKind.u64.wrap t514.1), .int .i64 x500, .int .u64 (0:Int), .int .u64 (0:Int), .int .u64 (0:Int), (.slice none 0 0), (.slice none 0 0), (.slice none 0 0), (.slice none 0 0), v526, .int .i64 (0:Int), .int .u64 (0:Int), .int .u64 (0:Int), (.slice none 0 0), (.slice none 0 0), .int .u64 (0:Int), (.slice none 0 0), .int .u64 (0:Int), .int .i64 (0:Int), .int .i64 (0:Int), .float .f64 (0:Nat), .float .f64 (0:Nat), .int .u64 (0:Int), .int .i64 (0:Int), .bool false]) 0 (.agg #[.int .u8 (IntKind.u8.wrap (IntKind.i64.wrap ((1:Int) + t426.1))), .int .u64 t483.1.Session, .int .u64 t483.1.Seq, .int .u64 (IntKind.u64.wrap (IntKind.i64.wrap ((1:Int) + t507.1))), .int .u64 (IntKind.u64.wrap t514.1), .int .i64 x500, .int .u64 (0:Int), .int .u64 (0:Int), .int .u64 (0:Int), (.slice none 0 0), (.slice none 0 0), (.slice none 0 0), (.slice none 0 0), v526, .int .i64 (0:Int), .int .u64 (0:Int), .int .u64 (0:Int), (.slice none 0 0), (.slice none 0 0), .int .u64 (0:Int), (.slice none 0 0), .int .u64 (0:Int), .int .i64 (0:Int), .int .i64 (0:Int), .float .f64 (0:Nat), .float .f64 (0:Nat), .int .u64 (0:Int), .int .i64 (0:Int), .bool false]) Try.sizeOf45 (Nat.le_of_ble_eq_true rfl) (ones_cons rfl (ones_cons rfl (ones_cons rfl (ones_cons rfl (ones_cons rfl (ones_cons rfl (ones_cons rfl (ones_cons rfl (ones_cons rfl (ones_cons rfl (ones_cons rfl (ones_cons rfl (ones_cons rfl (ones_cons (one_of_sliceV hst.sv2) (ones_cons rfl (ones_cons rfl (ones_cons rfl (ones_cons rfl (ones_cons rfl (ones_cons rfl (ones_cons rfl (ones_cons rfl (ones_cons rfl (ones_cons rfl (ones_cons rfl (ones_cons rfl (ones_cons rfl (ones_cons rfl (ones_cons rfl ones_nil))))))))))))))))))))))))))))) (by kernel_rfl)
        refine wl_unit rfl rfl (x_unit hr531) ?_
        refine wl_nil ?_
        refine then_n ?_
        refine wp_ret ?_
        replace hst := hst.own_nil tyF64
        replace hst := hst.own_nil tyF2
        replace hst := hst.own_nil tyF64
        replace hst := hst.own_nil (tyInt .u8)
        replace hst := hst.own_nil ty_api_Got
        replace hst := hst.own_nil (tySl ty_api_Pair)
        replace hst := hst.own_nil ty_api_Part
        obtain rfl := some_inj hm
        refine post_ret (vs := [.agg #[.int .u8 (IntKind.u8.wrap (IntKind.i64.wrap ((1:Int) + t426.1))), .int .u64 t483.1.Session, .int .u64 t483.1.Seq, .int .u64 (IntKind.u64.wrap (IntKind.i64.wrap ((1:Int) + t507.1))), .int .u64 (IntKind.u64.wrap t514.1), .int .i64 x500, .int .u64 (0:Int), .int .u64 (0:Int), .int .u64 (0:Int), (.slice none 0 0), (.slice none 0 0), (.slice none 0 0), (.slice none 0 0), v526, .int .i64 (0:Int), .int .u64 (0:Int), .int .u64 (0:Int), (.slice none 0 0), (.slice none 0 0), .int .u64 (0:Int), (.slice none 0 0), .int .u64 (0:Int), .int .i64 (0:Int), .int .i64 (0:Int), .float .f64 (0:Nat), .float .f64 (0:Nat), .int .u64 (0:Int), .int .i64 (0:Int), .bool false]]) Try.results9 (rvs_cons (rv_cell (cs := [.int .u8 (IntKind.u8.wrap (IntKind.i64.wrap ((1:Int) + t426.1))), .int .u64 t483.1.Session, .int .u64 t483.1.Seq, .int .u64 (IntKind.u64.wrap (IntKind.i64.wrap ((1:Int) + t507.1))), .int .u64 (IntKind.u64.wrap t514.1), .int .i64 x500, .int .u64 (0:Int), .int .u64 (0:Int), .int .u64 (0:Int), (.slice none 0 0), (.slice none 0 0), (.slice none 0 0), (.slice none 0 0), v526, .int .i64 (0:Int), .int .u64 (0:Int), .int .u64 (0:Int), (.slice none 0 0), (.slice none 0 0), .int .u64 (0:Int), (.slice none 0 0), .int .u64 (0:Int), .int .i64 (0:Int), .int .i64 (0:Int), .float .f64 (0:Nat), .float .f64 (0:Nat), .int .u64 (0:Int), .int .i64 (0:Int), .bool false]) rfl Try.isAgg45 Try.sizeOf45 (hst.bcs7 0 rfl)) rvs_nil) ?_
        replace hst := hst.pull10
        replace hst := hst.pull1
        replace hst := hst.pull2
        replace hst := hst.pull3
        replace hst := hst.pull10
        replace hst := hst.pull5
        replace hst := hst.pull6
        replace hst := hst.pull7
        replace hst := hst.pull8
        exact ⟨_, (.slice none 0 0), (.slice none 0 0), (.slice none 0 0), (.slice none 0 0), v526, (.slice none 0 0), (.slice none 0 0), (.slice none 0 0), rfl, hI0, hst.keep9⟩
      · skip
        replace hm := bif_f hc482 hm
        refine wp_iff (congrArg Value.bool hc482) ?_
        refine wp_seq ?_
        refine wp_region_lit ?_
        refine wl_val (v := .bool ((IntKind.u8.wrap (IntKind.i64.wrap ((1:Int) + t426.1))) == (4:Int))) rfl rfl rfl ?_
        refine wl_val (v := .bool ((IntKind.u8.wrap (IntKind.i64.wrap ((1:Int) + t426.1))) == (4:Int))) rfl rfl rfl ?_
        refine wl_nil ?_
        refine then_n ?_
        refine bsplit ((IntKind.u8.wrap (IntKind.i64.wrap ((1:Int) + t426.1))) == (4:Int)) (fun hc532 => ?_) (fun hc532 => ?_)
        · skip
          replace hm := bif_t hc532 hm
          refine wp_ift (congrArg Value.bool hc532) ?_
          refine wp_seq ?_
          refine wp_region_lit ?_
          refine wl_val (v := p0) rfl rfl rfl ?_
          replace hst := hst.pull1
          obtain ⟨t533, ht534, hm⟩ := bind_some hm
          refine wl_call rfl rfl (x_call Try.call24 rfl (vs := [p0]) rfl) ?_
          refine (ref12_Tape_Of_ref hst.to1 ht534).mono ?_
          rintro _ w535 ⟨rfl, hst⟩
          refine ⟨_, rfl, ?_⟩
          replace hst := hst.of1
          refine wl_val (v := .pointer (some ⟨b447, 1, none⟩)) rfl rfl (x_field rfl Try.underlying45 rfl Try.sizeOf29 rfl) ?_
          replace hst := hst.pull1
          obtain ⟨w538, hr539, hst⟩ := hst.boxStore (P := Try.prog) (t := 29) (cs' := [.int .u8 (IntKind.u8.wrap (IntKind.i64.wrap ((1:Int) + t426.1))), .int .u64 t533.1.Session, .int .u64 t533.1.Seq, .int .u64 (0:Int), .int .u64 (0:Int), .int .i64 (0:Int), .int .u64 (0:Int), .int .u64 (0:Int), .int .u64 (0:Int), (.slice none 0 0), (.slice none 0 0), (.slice none 0 0), (.slice none 0 0), (.slice none 0 0), .int .i64 (0:Int), .int .u64 (0:Int), .int .u64 (0:Int), (.slice none 0 0), (.slice none 0 0), .int .u64 (0:Int), (.slice none 0 0), .int .u64 (0:Int), .int .i64 (0:Int), .int .i64 (0:Int), .float .f64 (0:Nat), .float .f64 (0:Nat), .int .u64 (0:Int), .int .i64 (0:Int), .bool false]) 1 (.agg #[.int .u64 t533.1.Session, .int .u64 t533.1.Seq]) Try.sizeOf29 (Nat.le_of_ble_eq_true rfl) (ones_cons rfl (ones_cons rfl ones_nil)) (by kernel_rfl)
          refine wl_unit rfl rfl (x_unit hr539) ?_
          refine wl_nil ?_
          refine then_n ?_
          obtain ⟨y552, hm, hx553⟩ := bind_some hm
          refine wp_cut (fun a w => ∃ (z548 : ref12_Tape) (z549 : Int) (σ550 : Nat → Value), (ref13_OfCommand_j0 t426 t533) (z548, z549) = some r ∧ a = Fr 124 (upd (upd (upd σ550 0 (p0)) 2 (.pointer (some ⟨b421, 0, none⟩))) 3 (.pointer (some ⟨b447, 0, none⟩))) ∧ St w0 w I [at_ref12_Tape p0 z548, cells b421 [.int .u8 (0:Int), .int .u64 (0:Int), .int .u64 (0:Int), .int .u64 (0:Int), .int .u64 (0:Int), .int .i64 (0:Int), .int .u64 (0:Int), .int .u64 (0:Int), .int .u64 (0:Int), (.slice none 0 0), (.slice none 0 0), (.slice none 0 0), (.slice none 0 0), (.slice none 0 0), .int .i64 (0:Int), .int .u64 (0:Int), .int .u64 (0:Int), (.slice none 0 0), (.slice none 0 0), .int .u64 (0:Int), (.slice none 0 0), .int .u64 (0:Int), .int .i64 (0:Int), .int .i64 (0:Int), .float .f64 (0:Nat), .float .f64 (0:Nat), .int .u64 (0:Int), .int .i64 (0:Int), .bool false], cells b447 [.int .u8 (IntKind.u8.wrap (IntKind.i64.wrap ((1:Int) + t426.1))), .int .u64 z549, .int .u64 t533.1.Seq, .int .u64 (0:Int), .int .u64 (0:Int), .int .i64 (0:Int), .int .u64 (0:Int), .int .u64 (0:Int), .int .u64 (0:Int), (.slice none 0 0), (.slice none 0 0), (.slice none 0 0), (.slice none 0 0), (.slice none 0 0), .int .i64 (0:Int), .int .u64 (0:Int), .int .u64 (0:Int), (.slice none 0 0), (.slice none 0 0), .int .u64 (0:Int), (.slice none 0 0), .int .u64 (0:Int), .int .i64 (0:Int), .int .i64 (0:Int), .float .f64 (0:Nat), .float .f64 (0:Nat), .int .u64 (0:Int), .int .i64 (0:Int), .bool false]] R) ?_ ?_
          · skip
            refine wp_seq ?_
            refine wp_region_lit ?_
            refine wl_val (v := p0) rfl rfl rfl ?_
            replace hst := hst.pull1
            obtain ⟨t540, ht541, hm⟩ := bind_some hm
            refine wl_call rfl rfl (x_call Try.call22 rfl (vs := [p0, .int .i64 (6:Int)]) rfl) ?_
            refine (ref12_Tape_Next_ref hst.to1 ht541).mono ?_
            rintro _ w542 ⟨rfl, hst⟩
            refine ⟨_, rfl, ?_⟩
            replace hst := hst.of1
            refine wl_val (v := .bool (t540.1 == (0:Int))) rfl rfl rfl ?_
            refine wl_nil ?_
            refine then_n ?_
            refine bsplit (t540.1 == (0:Int)) (fun hc545 => ?_) (fun hc545 => ?_)
            · skip
              replace hm := bif_t hc545 hm
              refine wp_ift (congrArg Value.bool hc545) ?_
              refine wp_region_lit ?_
              refine wl_val (v := .pointer (some ⟨b447, 1, none⟩)) rfl rfl (x_field rfl Try.underlying45 rfl Try.sizeOf29 rfl) ?_
              refine wl_val (v := .pointer (some ⟨b447, 1, none⟩)) rfl rfl (x_field rfl Try.underlying29 rfl Try.sizeOf27 rfl) ?_
              refine wl_val (v := .int .u64 t533.1.Session) rfl rfl (x_load rfl Try.isAgg27 (hst.bc1 rfl)) ?_
              refine wl_val (v := .int .u64 (IntKind.u64.wrap (t533.1.Session + (9223372036854775808:Int)))) rfl rfl rfl ?_
              refine wl_val (v := .pointer (some ⟨b447, 1, none⟩)) rfl rfl (x_field rfl Try.underlying45 rfl Try.sizeOf29 rfl) ?_
              refine wl_val (v := .pointer (some ⟨b447, 1, none⟩)) rfl rfl (x_field rfl Try.underlying29 rfl Try.sizeOf27 rfl) ?_
              replace hst := hst.pull1
              obtain ⟨w546, hr547, hst⟩ := hst.boxStore (P := Try.prog) (t := 27) (cs' := [.int .u8 (IntKind.u8.wrap (IntKind.i64.wrap ((1:Int) + t426.1))), .int .u64 (IntKind.u64.wrap (t533.1.Session + (9223372036854775808:Int))), .int .u64 t533.1.Seq, .int .u64 (0:Int), .int .u64 (0:Int), .int .i64 (0:Int), .int .u64 (0:Int), .int .u64 (0:Int), .int .u64 (0:Int), (.slice none 0 0), (.slice none 0 0), (.slice none 0 0), (.slice none 0 0), (.slice none 0 0), .int .i64 (0:Int), .int .u64 (0:Int), .int .u64 (0:Int), (.slice none 0 0), (.slice none 0 0), .int .u64 (0:Int), (.slice none 0 0), .int .u64 (0:Int), .int .i64 (0:Int), .int .i64 (0:Int), .float .f64 (0:Nat), .float .f64 (0:Nat), .int .u64 (0:Int), .int .i64 (0:Int), .bool false]) 1 (.int .u64 (IntKind.u64.wrap (t533.1.Session + (9223372036854775808:Int)))) Try.sizeOf27 (Nat.le_of_ble_eq_true rfl) (ones_cons rfl ones_nil) (by kernel_rfl)
              refine wl_unit rfl rfl (x_unit hr547) ?_
              refine wl_nil ?_
              refine then_n ?_
              replace hst := hst.pull2
              replace hst := hst.pull2
              replace hst := hst.keep3
              obtain rfl := some_inj hm
              exact ⟨t540.2, (IntKind.u64.wrap (t533.1.Session + (9223372036854775808:Int))), _, hx553, ((fr_upd (t := 0) (v := p0) rfl).trans ((fr_upd (t := 2) (v := .pointer (some ⟨b421, 0, none⟩)) rfl).trans ((fr_upd (t := 3) (v := .pointer (some ⟨b447, 0, none⟩)) rfl).trans rfl))), hst⟩
            · skip
              replace hm := bif_f hc545 hm
              refine wp_iff (congrArg Value.bool hc545) ?_
              refine wp_skip ?_
              refine then_n ?_
              replace hst := hst.pull1
              replace hst := hst.pull2
              replace hst := hst.pull2
              replace hst := hst.keep3
              obtain rfl := some_inj hm
              exact ⟨t540.2, t533.1.Session, _, hx553, ((fr_upd (t := 0) (v := p0) rfl).trans ((fr_upd (t := 2) (v := .pointer (some ⟨b421, 0, none⟩)) rfl).trans ((fr_upd (t := 3) (v := .pointer (some ⟨b447, 0, none⟩)) rfl).trans rfl))), hst⟩
          · skip
            clear hst
            rintro _ w554 ⟨z548, z549, σ550, hm, rfl, hst⟩
            dsimp only [ref13_OfCommand_j0] at hm
            refine wp_seq ?_
            refine wp_region_lit ?_
            refine wl_val (v := p0) rfl rfl rfl ?_
            obtain ⟨t555, ht556, hm⟩ := bind_some hm
            refine wl_call rfl rfl (x_call Try.call22 rfl (vs := [p0, .int .i64 (4:Int)]) rfl) ?_
            refine (ref12_Tape_Next_ref hst.to1 ht556).mono ?_
            rintro _ w557 ⟨rfl, hst⟩
            refine ⟨_, rfl, ?_⟩
            replace hst := hst.of1
            refine wl_val (v := .int .i64 (IntKind.i64.wrap ((1:Int) + t555.1))) rfl rfl rfl ?_
            refine wl_val (v := .int .u64 (IntKind.u64.wrap (IntKind.i64.wrap ((1:Int) + t555.1)))) rfl rfl (by kernel_rfl) ?_
            refine wl_val (v := .pointer (some ⟨b447, 3, none⟩)) rfl rfl (x_field rfl Try.underlying45 rfl Try.sizeOf27 rfl) ?_
            replace hst := hst.pull2
            obtain ⟨w560, hr561, hst⟩ := hst.boxStore (P := Try.prog) (t := 27) (cs' := [.int .u8 (IntKind.u8.wrap (IntKind.i64.wrap ((1:Int) + t426.1))), .int .u64 z549, .int .u64 t533.1.Seq, .int .u64 (IntKind.u64.wrap (IntKind.i64.wrap ((1:Int) + t555.1))), .int .u64 (0:Int), .int .i64 (0:Int), .int .u64 (0:Int), .int .u64 (0:Int), .int .u64 (0:Int), (.slice none 0 0), (.slice none 0 0), (.slice none 0 0), (.slice none 0 0), (.slice none 0 0), .int .i64 (0:Int), .int .u64 (0:Int), .int .u64 (0:Int), (.slice none 0 0), (.slice none 0 0), .int .u64 (0:Int), (.slice none 0 0), .int .u64 (0:Int), .int .i64 (0:Int), .int .i64 (0:Int), .float .f64 (0:Nat), .float .f64 (0:Nat), .int .u64 (0:Int), .int .i64 (0:Int), .bool false]) 3 (.int .u64 (IntKind.u64.wrap (IntKind.i64.wrap ((1:Int) + t555.1)))) Try.sizeOf27 (Nat.le_of_ble_eq_true rfl) (ones_cons rfl ones_nil) (by kernel_rfl)
            refine wl_unit rfl rfl (x_unit hr561) ?_
            refine wl_nil ?_
            refine then_n ?_
            refine wp_seq ?_
            refine wp_region_lit ?_
            refine wl_val (v := p0) rfl rfl rfl ?_
            replace hst := hst.pull1
            obtain ⟨t562, ht563, hm⟩ := bind_some hm
            refine wl_call rfl rfl (x_call Try.call22 rfl (vs := [p0, .int .i64 (4:Int)]) rfl) ?_
            refine (ref12_Tape_Next_ref hst.to1 ht563).mono ?_
            rintro _ w564 ⟨rfl, hst⟩
            refine ⟨_, rfl, ?_⟩
            replace hst := hst.of1
            refine wl_val (v := .int .u64 (IntKind.u64.wrap t562.1)) rfl rfl (by kernel_rfl) ?_
            refine wl_val (v := .pointer (some ⟨b447, 19, none⟩)) rfl rfl (x_field rfl Try.underlying45 rfl Try.sizeOf27 rfl) ?_
            replace hst := hst.pull1
            obtain ⟨w567, hr568, hst⟩ := hst.boxStore (P := Try.prog) (t := 27) (cs' := [.int .u8 (IntKind.u8.wrap (IntKind.i64.wrap ((1:Int) + t426.1))), .int .u64 z549, .int .u64 t533.1.Seq, .int .u64 (IntKind.u64.wrap (IntKind.i64.wrap ((1:Int) + t555.1))), .int .u64 (0:Int), .int .i64 (0:Int), .int .u64 (0:Int), .int .u64 (0:Int), .int .u64 (0:Int), (.slice none 0 0), (.slice none 0 0), (.slice none 0 0), (.slice none 0 0), (.slice none 0 0), .int .i64 (0:Int), .int .u64 (0:Int), .int .u64 (0:Int), (.slice none 0 0), (.slice none 0 0), .int .u64 (IntKind.u64.wrap t562.1), (.slice none 0 0), .int .u64 (0:Int), .int .i64 (0:Int), .int .i64 (0:Int), .float .f64 (0:Nat), .float .f64 (0:Nat), .int .u64 (0:Int), .int .i64 (0:Int), .bool false]) 19 (.int .u64 (IntKind.u64.wrap t562.1)) Try.sizeOf27 (Nat.le_of_ble_eq_true rfl) (ones_cons rfl ones_nil) (by kernel_rfl)
            refine wl_unit rfl rfl (x_unit hr568) ?_
            refine wl_nil ?_
            refine then_n ?_
            refine wp_seq ?_
            refine wp_region_lit ?_
            refine wl_val (v := p0) rfl rfl rfl ?_
            replace hst := hst.pull1
            obtain ⟨t569, ht570, hm⟩ := bind_some hm
            refine wl_call rfl rfl (x_call Try.call22 rfl (vs := [p0, .int .i64 (3:Int)]) rfl) ?_
            refine (ref12_Tape_Next_ref hst.to1 ht570).mono ?_
            rintro _ w571 ⟨rfl, hst⟩
            refine ⟨_, rfl, ?_⟩
            replace hst := hst.of1
            refine wl_val (v := .int .i64 t569.1) rfl rfl rfl ?_
            refine wl_nil ?_
            refine then_n ?_
            obtain ⟨y696, hm, hx697⟩ := bind_some hm
            refine wp_cut (fun a w => ∃ (I693 : HL) (z689 : ref12_Tape) (z692 : (List api_Part)) (v691 : Value) (σ694 : Nat → Value), (ref13_OfCommand_j1 t426 z549 t533 t555 t562) (z689, z692) = some r ∧ a = Fr 124 (upd (upd (upd σ694 0 (p0)) 2 (.pointer (some ⟨b421, 0, none⟩))) 3 (.pointer (some ⟨b447, 0, none⟩))) ∧ I.le I693 ∧ St w0 w I693 [at_ref12_Tape p0 z689, cells b421 [.int .u8 (0:Int), .int .u64 (0:Int), .int .u64 (0:Int), .int .u64 (0:Int), .int .u64 (0:Int), .int .i64 (0:Int), .int .u64 (0:Int), .int .u64 (0:Int), .int .u64 (0:Int), (.slice none 0 0), (.slice none 0 0), (.slice none 0 0), (.slice none 0 0), (.slice none 0 0), .int .i64 (0:Int), .int .u64 (0:Int), .int .u64 (0:Int), (.slice none 0 0), (.slice none 0 0), .int .u64 (0:Int), (.slice none 0 0), .int .u64 (0:Int), .int .i64 (0:Int), .int .i64 (0:Int), .float .f64 (0:Nat), .float .f64 (0:Nat), .int .u64 (0:Int), .int .i64 (0:Int), .bool false], cells b447 [.int .u8 (IntKind.u8.wrap (IntKind.i64.wrap ((1:Int) + t426.1))), .int .u64 z549, .int .u64 t533.1.Seq, .int .u64 (IntKind.u64.wrap (IntKind.i64.wrap ((1:Int) + t555.1))), .int .u64 (0:Int), .int .i64 (0:Int), .int .u64 (0:Int), .int .u64 (0:Int), .int .u64 (0:Int), (.slice none 0 0), (.slice none 0 0), (.slice none 0 0), (.slice none 0 0), (.slice none 0 0), .int .i64 (0:Int), .int .u64 (0:Int), .int .u64 (0:Int), (.slice none 0 0), (.slice none 0 0), .int .u64 (IntKind.u64.wrap t562.1), v691, .int .u64 (0:Int), .int .i64 (0:Int), .int .i64 (0:Int), .float .f64 (0:Nat), .float .f64 (0:Nat), .int .u64 (0:Int), .int .i64 (0:Int), .bool false], ownS ty_api_Part v691 z692] R) ?_ ?_
            · skip
              have hL698 := HL.le.refl I
              refine wp_seq ?_
              refine wp_region_lit ?_
              refine wl_val (v := .int .i64 (0:Int)) rfl rfl rfl ?_
              refine wl_nil ?_
              refine then_n ?_
              refine wp_block ?_
              replace hst := hst.own_nil ty_api_Part
              obtain ⟨n658, hm⟩ := loopO_some hm
              refine wp_loop_n (fun n a w => ∃ (I656 : HL) (z651 : (List api_Part)) (z654 : ref12_Tape) (z655 : Int) (v652 : Value) (σ657 : Nat → Value), loopN (ref13_OfCommand_l2 t569) n (z651, z654, z655) = some y696 ∧ a = Fr 124 (upd (upd (upd (upd (upd σ657 0 (p0)) 2 (.pointer (some ⟨b421, 0, none⟩))) 3 (.pointer (some ⟨b447, 0, none⟩))) 4 (.int .i64 t569.1)) 5 (.int .i64 z655)) ∧ I.le I656 ∧ St w0 w I656 [ownS ty_api_Part v652 z651, at_ref12_Tape p0 z654, cells b447 [.int .u8 (IntKind.u8.wrap (IntKind.i64.wrap ((1:Int) + t426.1))), .int .u64 z549, .int .u64 t533.1.Seq, .int .u64 (IntKind.u64.wrap (IntKind.i64.wrap ((1:Int) + t555.1))), .int .u64 (0:Int), .int .i64 (0:Int), .int .u64 (0:Int), .int .u64 (0:Int), .int .u64 (0:Int), (.slice none 0 0), (.slice none 0 0), (.slice none 0 0), (.slice none 0 0), (.slice none 0 0), .int .i64 (0:Int), .int .u64 (0:Int), .int .u64 (0:Int), (.slice none 0 0), (.slice none 0 0), .int .u64 (IntKind.u64.wrap t562.1), v652, .int .u64 (0:Int), .int .i64 (0:Int), .int .i64 (0:Int), .float .f64 (0:Nat), .float .f64 (0:Nat), .int .u64 (0:Int), .int .i64 (0:Int), .bool false], cells b421 [.int .u8 (0:Int), .int .u64 (0:Int), .int .u64 (0:Int), .int .u64 (0:Int), .int .u64 (0:Int), .int .i64 (0:Int), .int .u64 (0:Int), .int .u64 (0:Int), .int .u64 (0:Int), (.slice none 0 0), (.slice none 0 0), (.slice none 0 0), (.slice none 0 0), (.slice none 0 0), .int .i64 (0:Int), .int .u64 (0:Int), .int .u64 (0:Int), (.slice none 0 0), (.slice none 0 0), .int .u64 (0:Int), (.slice none 0 0), .int .u64 (0:Int), .int .i64 (0:Int), .int .i64 (0:Int), .float .f64 (0:Nat), .float .f64 (0:Nat), .int .u64 (0:Int), .int .i64 (0:Int), .bool false]] R) n658 ⟨_, [], t569.2, (0:Int), (.slice none 0 0), _, hm, ((fr_upd (t := 0) (v := p0) rfl).trans ((fr_upd (t := 2) (v := .pointer (some ⟨b421, 0, none⟩)) rfl).trans ((fr_upd (t := 3) (v := .pointer (some ⟨b447, 0, none⟩)) rfl).trans ((fr_upd (t := 4) (v := .int .i64 t569.1) rfl).trans ((fr_upd (t := 5) (v := .int .i64 (0:Int)) rfl).trans rfl))))), (HL.le.refl _), hst⟩ ?_
              rintro n664 _ w659 ⟨I656, z651, z654, z655, v652, σ657, hm, rfl, hL660, hst⟩
              obtain ⟨n661, y662, rfl, hm, hx663⟩ := loopN_some hm
              dsimp only [ref13_OfCommand_l2] at hm
              replace hI0 := hI0.trans hL660
              replace hL698 := hL698.trans hL660
              refine wp_seq ?_
              refine wp_seq ?_
              refine wp_region_lit ?_
              refine wl_val (v := .int .i64 z655) rfl rfl rfl ?_
              refine wl_val (v := .int .i64 t569.1) rfl rfl rfl ?_
              refine wl_val (v := .bool (decide (z655 < t569.1))) rfl rfl rfl ?_
              refine wl_nil ?_
              refine then_n ?_
              refine bsplit (decide (z655 < t569.1)) (fun hc665 => ?_) (fun hc665 => ?_)
              · skip
                replace hm := bif_t hc665 hm
                refine wp_ift (congrArg Value.bool hc665) ?_
                refine wp_skip ?_
                refine then_n ?_
                refine wp_seq ?_
                refine wp_block ?_
                refine wp_region_St hst 10 [0, 1, 2, 3, 4, 5, 6, 7, 8, 9] [0, 1, 0, 0, 8, 28, 60, 127, 255, 511] [] rfl (by kernel_rfl) (by kernel_rfl) Try.mixed (by kernel_rfl) ?_
                refine ws_q (v := .pointer (some ⟨b447, 20, none⟩)) 0 [1, 2, 3, 4, 5, 6, 7, 8, 9] (by kernel_rfl) rfl rfl (yi_run rfl (fun w hst => x_field rfl Try.underlying45 rfl Try.sizeOf40 rfl)) ?_
                refine ws_q (v := v652) 1 [2, 3, 4, 5, 6, 7, 8, 9] (by kernel_rfl) rfl rfl (yi_run rfl (fun w hst => x_load rfl Try.isAgg40 (hst.bc2 rfl))) ?_
                refine ws_q (v := .int .i64 z655) 2 [3, 4, 5, 6, 7, 8, 9] (by kernel_rfl) rfl rfl (yi_run rfl (fun w hst => rfl)) ?_
                refine ws_q (v := p0) 3 [4, 5, 6, 7, 8, 9] (by kernel_rfl) rfl rfl (yi_run rfl (fun w hst => rfl)) ?_
                refine ws_e1 4 (by kernel_rfl) ?_
                refine nxe [5, 6, 7, 8, 9] (by kernel_rfl) rfl rfl ?_
                clear hst
                intro w hst
                replace hst := hst.pull1
                obtain ⟨t666, ht667, hm⟩ := bind_some hm
                refine we_call rfl (x_call Try.call25 rfl (vs := [p0]) rfl) ?_
                refine (ref13_OfWrites_ref hst.to1 ht667).mono ?_
                rintro _ w668 ⟨I669, v671, rfl, hI670, hst⟩
                refine ⟨_, rfl, ?_⟩
                replace hst := hst.of2
                replace hI0 := hI0.trans hI670
                replace hL698 := hL698.trans hI670
                replace hL660 := hL660.trans hI670
                refine ws_next (pend' := [(2, .int .i64 z655), (1, v652), (0, .pointer (some ⟨b447, 20, none⟩))]) hst (by kernel_rfl) (pk_cons rfl (yi_run rfl (fun w hst => rfl)) (pk_cons rfl (yi_run rfl (fun w hst => x_load rfl Try.isAgg40 (hst.bc3 rfl))) (pk_cons rfl (yi_run rfl (fun w hst => x_field rfl Try.underlying45 rfl Try.sizeOf40 rfl)) pk_nil))) ?_
                refine ws_q (v := .agg #[.int .i64 z655, v671]) 5 [6, 7, 8, 9] (by kernel_rfl) rfl rfl (yi_run rfl (fun w hst => by obtain ⟨_, _, hv_, _⟩ := hst.sv0; rw [hv_]; kernel_rfl)) ?_
                refine ws_e1 6 (by kernel_rfl) ?_
                refine nxe [7, 8, 9] (by kernel_rfl) rfl rfl ?_
                clear hst
                intro w hst
                obtain ⟨I675, hI676, f677, hst⟩ := hst.own_fix
                replace hI0 := hI0.trans hI676
                replace hL698 := hL698.trans hI676
                replace hL660 := hL660.trans hI676
                obtain ⟨b678, w679, ew680, eb681, hst⟩ := hst.lits (E := ty_api_Part) (xs := [({ Shard := z655, Writes := t666.1 } : api_Part)]) [[.int .i64 z655, v671]] 81 1 rfl (Reps.cons ⟨_, rfl, f677, one_of_sliceV (ro_sliceV f677)⟩ Reps.nil)
                refine we_run (v := (.slice (some ⟨b678, 0, none⟩) 1 1)) (w' := w679) rfl (x_als (by kernel_rfl) ew680 eb681) ?_
                refine ws_next (pend' := [(1, v652), (0, .pointer (some ⟨b447, 20, none⟩))]) hst (by kernel_rfl) (pk_cons rfl (yi_run rfl (fun w hst => x_load rfl Try.isAgg40 (hst.bc3 rfl))) (pk_cons rfl (yi_run rfl (fun w hst => x_field rfl Try.underlying45 rfl Try.sizeOf40 rfl)) pk_nil)) ?_
                refine ws_e1 7 (by kernel_rfl) ?_
                refine nxe [8, 9] (by kernel_rfl) rfl rfl ?_
                clear hst
                intro w hst
                obtain ⟨hg683, hm⟩ := gd_some hm
                replace hst := hst.pull2
                obtain ⟨v684, w685, hr686, hst⟩ := run_append elem_40 Try.underlying40 hst hst.src1 (room_of hg683 rfl) 40
                refine we_run (v := v684) (w' := w685) rfl (x_append rfl rfl hr686) ?_
                refine ws_next (pend' := []) hst (by kernel_rfl) pk_nil ?_
                refine ws_q (v := .pointer (some ⟨b447, 20, none⟩)) 8 [9] (by kernel_rfl) rfl rfl (yi_run rfl (fun w hst => x_field rfl Try.underlying45 rfl Try.sizeOf40 rfl)) ?_
                refine ws_e1 9 (by kernel_rfl) ?_
                refine nxe [] (by kernel_rfl) rfl rfl ?_
                clear hst
                intro w hst
                replace hst := hst.pull3
                obtain ⟨w687, hr688, hst⟩ := hst.boxStore1 (P := Try.prog) (t := 40) (cs' := [.int .u8 (IntKind.u8.wrap (IntKind.i64.wrap ((1:Int) + t426.1))), .int .u64 z549, .int .u64 t533.1.Seq, .int .u64 (IntKind.u64.wrap (IntKind.i64.wrap ((1:Int) + t555.1))), .int .u64 (0:Int), .int .i64 (0:Int), .int .u64 (0:Int), .int .u64 (0:Int), .int .u64 (0:Int), (.slice none 0 0), (.slice none 0 0), (.slice none 0 0), (.slice none 0 0), (.slice none 0 0), .int .i64 (0:Int), .int .u64 (0:Int), .int .u64 (0:Int), (.slice none 0 0), (.slice none 0 0), .int .u64 (IntKind.u64.wrap t562.1), v684, .int .u64 (0:Int), .int .i64 (0:Int), .int .i64 (0:Int), .float .f64 (0:Nat), .float .f64 (0:Nat), .int .u64 (0:Int), .int .i64 (0:Int), .bool false]) 20 v684 (one_of_sliceV hst.sv1) Try.sizeOf40 rfl rfl
                refine we_unit rfl (x_unit hr688) ?_
                refine ws_next (pend' := []) hst (by kernel_rfl) pk_nil ?_
                refine ws_nil ?_
                intro w hst
                refine blk_n ?_
                refine then_n ?_
                refine wp_region_lit ?_
                refine wl_val (v := .int .i64 z655) rfl rfl rfl ?_
                refine wl_val (v := .int .i64 (IntKind.i64.wrap (z655 + (1:Int)))) rfl rfl rfl ?_
                refine wl_val (v := .int .i64 (IntKind.i64.wrap (z655 + (1:Int)))) rfl rfl rfl ?_
                refine wl_nil ?_
                refine then_n ?_
                replace hst := hst.pull4
                replace hst := hst.pull1
                replace hst := hst.pull4
                replace hst := hst.pull3
                replace hst := hst.keep4
                obtain rfl := some_inj hm
                exact ⟨_, Nat.lt_succ_self _, _, (z651 ++ ([({ Shard := z655, Writes := t666.1 } : api_Part)])), t666.2, (IntKind.i64.wrap (z655 + (1:Int))), v684, _, hx663, ((fr_upd (t := 0) (v := p0) rfl).trans ((fr_upd (t := 2) (v := .pointer (some ⟨b421, 0, none⟩)) rfl).trans ((fr_upd (t := 3) (v := .pointer (some ⟨b447, 0, none⟩)) rfl).trans ((fr_upd (t := 4) (v := .int .i64 t569.1) rfl).trans ((fr_upd (t := 5) (v := .int .i64 (IntKind.i64.wrap (z655 + (1:Int)))) rfl).trans rfl))))), hL660, hst⟩
              · skip
                replace hm := bif_f hc665 hm
                refine wp_iff (congrArg Value.bool hc665) ?_
                refine wp_exit ?_
                refine then_x ?_
                refine then_x ?_
                replace hm := inr_up hm hx663
                refine blk_x ?_
                refine then_n ?_
                replace hst := hst.pull2
                replace hst := hst.pull3
                replace hst := hst.pull3
                replace hst := hst.keep4
                obtain rfl := some_inj hm
                exact ⟨_, z654, z651, v652, _, hx697, ((fr_upd (t := 0) (v := p0) rfl).trans ((fr_upd (t := 2) (v := .pointer (some ⟨b421, 0, none⟩)) rfl).trans ((fr_upd (t := 3) (v := .pointer (some ⟨b447, 0, none⟩)) rfl).trans rfl))), hL698, hst⟩
            · skip
              clear hst
              rintro _ w699 ⟨I693, z689, z692, v691, σ694, hm, rfl, hL695, hst⟩
              dsimp only [ref13_OfCommand_j1] at hm
              replace hI0 := hI0.trans hL695
              refine wp_region_lit ?_
              refine wl_val (v := p0) rfl rfl rfl ?_
              obtain ⟨t700, ht701, hm⟩ := bind_some hm
              refine wl_call rfl rfl (x_call Try.call12 rfl (vs := [p0]) rfl) ?_
              refine (ref13_OfReply_ref hst.to1 ht701).mono ?_
              rintro _ w702 ⟨I703, v705, v707, rfl, hI704, hst⟩
              refine ⟨_, rfl, ?_⟩
              replace hst := hst.of3
              replace hI0 := hI0.trans hI704
              refine wl_val (v := .pointer (some ⟨b447, 14, none⟩)) rfl rfl (x_field rfl Try.underlying45 rfl Try.sizeOf39 rfl) ?_
              replace hst := hst.pull4
              obtain ⟨w709, hr710, hst⟩ := hst.boxStore (P := Try.prog) (t := 39) (cs' := [.int .u8 (IntKind.u8.wrap (IntKind.i64.wrap ((1:Int) + t426.1))), .int .u64 z549, .int .u64 t533.1.Seq, .int .u64 (IntKind.u64.wrap (IntKind.i64.wrap ((1:Int) + t555.1))), .int .u64 (0:Int), .int .i64 (0:Int), .int .u64 (0:Int), .int .u64 (0:Int), .int .u64 (0:Int), (.slice none 0 0), (.slice none 0 0), (.slice none 0 0), (.slice none 0 0), (.slice none 0 0), .int .i64 t700.1.E, .int .u64 t700.1.Epoch, .int .u64 t700.1.Index, v705, v707, .int .u64 (IntKind.u64.wrap t562.1), v691, .int .u64 (0:Int), .int .i64 (0:Int), .int .i64 (0:Int), .float .f64 (0:Nat), .float .f64 (0:Nat), .int .u64 (0:Int), .int .i64 (0:Int), .bool false]) 14 (.agg #[.int .i64 t700.1.E, .int .u64 t700.1.Epoch, .int .u64 t700.1.Index, v705, v707]) Try.sizeOf39 (Nat.le_of_ble_eq_true rfl) (ones_cons rfl (ones_cons rfl (ones_cons rfl (ones_cons (one_of_sliceV hst.sv1) (ones_cons (one_of_sliceV hst.sv2) ones_nil))))) (by kernel_rfl)
              refine wl_unit rfl rfl (x_unit hr710) ?_
              refine wl_nil ?_
              refine blk_n ?_
              refine then_n ?_
              refine wp_seq ?_
              refine wp_region_lit ?_
              refine wl_val (v := .agg #[.int .u8 (IntKind.u8.wrap (IntKind.i64.wrap ((1:Int) + t426.1))), .int .u64 z549, .int .u64 t533.1.Seq, .int .u64 (IntKind.u64.wrap (IntKind.i64.wrap ((1:Int) + t555.1))), .int .u64 (0:Int), .int .i64 (0:Int), .int .u64 (0:Int), .int .u64 (0:Int), .int .u64 (0:Int), (.slice none 0 0), (.slice none 0 0), (.slice none 0 0), (.slice none 0 0), (.slice none 0 0), .int .i64 t700.1.E, .int .u64 t700.1.Epoch, .int .u64 t700.1.Index, v705, v707, .int .u64 (IntKind.u64.wrap t562.1), v691, .int .u64 (0:Int), .int .i64 (0:Int), .int .i64 (0:Int), .float .f64 (0:Nat), .float .f64 (0:Nat), .int .u64 (0:Int), .int .i64 (0:Int), .bool false]) rfl rfl (x_loadN (cs := [.int .u8 (IntKind.u8.wrap (IntKind.i64.wrap ((1:Int) + t426.1))), .int .u64 z549, .int .u64 t533.1.Seq, .int .u64 (IntKind.u64.wrap (IntKind.i64.wrap ((1:Int) + t555.1))), .int .u64 (0:Int), .int .i64 (0:Int), .int .u64 (0:Int), .int .u64 (0:Int), .int .u64 (0:Int), (.slice none 0 0), (.slice none 0 0), (.slice none 0 0), (.slice none 0 0), (.slice none 0 0), .int .i64 t700.1.E, .int .u64 t700.1.Epoch, .int .u64 t700.1.Index, v705, v707, .int .u64 (IntKind.u64.wrap t562.1), v691, .int .u64 (0:Int), .int .i64 (0:Int), .int .i64 (0:Int), .float .f64 (0:Nat), .float .f64 (0:Nat), .int .u64 (0:Int), .int .i64 (0:Int), .bool false]) rfl Try.isAgg45 Try.sizeOf45 (hst.bcs0 0 rfl)) ?_
              replace hst := hst.pull4
              obtain ⟨w711, hr712, hst⟩ := hst.boxStore (P := Try.prog) (t := 45) (cs' := [.int .u8 (IntKind.u8.wrap (IntKind.i64.wrap ((1:Int) + t426.1))), .int .u64 z549, .int .u64 t533.1.Seq, .int .u64 (IntKind.u64.wrap (IntKind.i64.wrap ((1:Int) + t555.1))), .int .u64 (0:Int), .int .i64 (0:Int), .int .u64 (0:Int), .int .u64 (0:Int), .int .u64 (0:Int), (.slice none 0 0), (.slice none 0 0), (.slice none 0 0), (.slice none 0 0), (.slice none 0 0), .int .i64 t700.1.E, .int .u64 t700.1.Epoch, .int .u64 t700.1.Index, v705, v707, .int .u64 (IntKind.u64.wrap t562.1), v691, .int .u64 (0:Int), .int .i64 (0:Int), .int .i64 (0:Int), .float .f64 (0:Nat), .float .f64 (0:Nat), .int .u64 (0:Int), .int .i64 (0:Int), .bool false]) 0 (.agg #[.int .u8 (IntKind.u8.wrap (IntKind.i64.wrap ((1:Int) + t426.1))), .int .u64 z549, .int .u64 t533.1.Seq, .int .u64 (IntKind.u64.wrap (IntKind.i64.wrap ((1:Int) + t555.1))), .int .u64 (0:Int), .int .i64 (0:Int), .int .u64 (0:Int), .int .u64 (0:Int), .int .u64 (0:Int), (.slice none 0 0), (.slice none 0 0), (.slice none 0 0), (.slice none 0 0), (.slice none 0 0), .int .i64 t700.1.E, .int .u64 t700.1.Epoch, .int .u64 t700.1.Index, v705, v707, .int .u64 (IntKind.u64.wrap t562.1), v691, .int .u64 (0:Int), .int .i64 (0:Int), .int .i64 (0:Int), .float .f64 (0:Nat), .float .f64 (0:Nat), .int .u64 (0:Int), .int .i64 (0:Int), .bool false]) Try.sizeOf45 (Nat.le_of_ble_eq_true rfl) (ones_cons rfl (ones_cons rfl (ones_cons rfl (ones_cons rfl (ones_cons rfl (ones_cons rfl (ones_cons rfl (ones_cons rfl (ones_cons rfl (ones_cons rfl (ones_cons rfl (ones_cons rfl (ones_cons rfl (ones_cons rfl (ones_cons rfl (ones_cons rfl (ones_cons rfl (ones_cons (one_of_sliceV hst.sv2) (ones_cons (one_of_sliceV hst.sv3) (ones_cons rfl (ones_cons (one_of_sliceV hst.sv5) (ones_cons rfl (ones_cons rfl (ones_cons rfl (ones_cons rfl (ones_cons rfl (ones_cons rfl (ones_cons rfl (ones_cons rfl ones_nil))))))))))))))))))))))))))))) (by kernel_rfl)
              refine wl_unit rfl rfl (x_unit hr712) ?_
              refine wl_nil ?_
              refine then_n ?_
              refine wp_ret ?_
              replace hst := hst.own_nil tyF64
              replace hst := hst.own_nil tyF2
              replace hst := hst.own_nil tyF64
              replace hst := hst.own_nil (tyInt .u8)
              replace hst := hst.own_nil ty_api_Write
              obtain rfl := some_inj hm
              refine post_ret (vs := [.agg #[.int .u8 (IntKind.u8.wrap (IntKind.i64.wrap ((1:Int) + t426.1))), .int .u64 z549, .int .u64 t533.1.Seq, .int .u64 (IntKind.u64.wrap (IntKind.i64.wrap ((1:Int) + t555.1))), .int .u64 (0:Int), .int .i64 (0:Int), .int .u64 (0:Int), .int .u64 (0:Int), .int .u64 (0:Int), (.slice none 0 0), (.slice none 0 0), (.slice none 0 0), (.slice none 0 0), (.slice none 0 0), .int .i64 t700.1.E, .int .u64 t700.1.Epoch, .int .u64 t700.1.Index, v705, v707, .int .u64 (IntKind.u64.wrap t562.1), v691, .int .u64 (0:Int), .int .i64 (0:Int), .int .i64 (0:Int), .float .f64 (0:Nat), .float .f64 (0:Nat), .int .u64 (0:Int), .int .i64 (0:Int), .bool false]]) Try.results9 (rvs_cons (rv_cell (cs := [.int .u8 (IntKind.u8.wrap (IntKind.i64.wrap ((1:Int) + t426.1))), .int .u64 z549, .int .u64 t533.1.Seq, .int .u64 (IntKind.u64.wrap (IntKind.i64.wrap ((1:Int) + t555.1))), .int .u64 (0:Int), .int .i64 (0:Int), .int .u64 (0:Int), .int .u64 (0:Int), .int .u64 (0:Int), (.slice none 0 0), (.slice none 0 0), (.slice none 0 0), (.slice none 0 0), (.slice none 0 0), .int .i64 t700.1.E, .int .u64 t700.1.Epoch, .int .u64 t700.1.Index, v705, v707, .int .u64 (IntKind.u64.wrap t562.1), v691, .int .u64 (0:Int), .int .i64 (0:Int), .int .i64 (0:Int), .float .f64 (0:Nat), .float .f64 (0:Nat), .int .u64 (0:Int), .int .i64 (0:Int), .bool false]) rfl Try.isAgg45 Try.sizeOf45 (hst.bcs5 0 rfl)) rvs_nil) ?_
              replace hst := hst.pull9
              replace hst := hst.pull10
              replace hst := hst.pull10
              replace hst := hst.pull10
              replace hst := hst.pull4
              replace hst := hst.pull5
              replace hst := hst.pull6
              replace hst := hst.pull7
              replace hst := hst.pull8
              exact ⟨_, (.slice none 0 0), (.slice none 0 0), (.slice none 0 0), (.slice none 0 0), (.slice none 0 0), v705, v707, v691, rfl, hI0, hst.keep9⟩
        · skip
          replace hm := bif_f hc532 hm
          refine wp_iff (congrArg Value.bool hc532) ?_
          refine wp_seq ?_
          refine wp_region_lit ?_
          refine wl_val (v := .bool ((IntKind.u8.wrap (IntKind.i64.wrap ((1:Int) + t426.1))) == (5:Int))) rfl rfl rfl ?_
          refine wl_val (v := .bool ((IntKind.u8.wrap (IntKind.i64.wrap ((1:Int) + t426.1))) == (5:Int))) rfl rfl rfl ?_
          refine wl_nil ?_
          refine then_n ?_
          refine bsplit ((IntKind.u8.wrap (IntKind.i64.wrap ((1:Int) + t426.1))) == (5:Int)) (fun hc713 => ?_) (fun hc713 => ?_)
          · skip
            replace hm := bif_t hc713 hm
            refine wp_ift (congrArg Value.bool hc713) ?_
            refine wp_region_lit ?_
            refine wl_val (v := p0) rfl rfl rfl ?_
            replace hst := hst.pull1
            obtain ⟨t714, ht715, hm⟩ := bind_some hm
            refine wl_call rfl rfl (x_call Try.call24 rfl (vs := [p0]) rfl) ?_
            refine (ref12_Tape_Of_ref hst.to1 ht715).mono ?_
            rintro _ w716 ⟨rfl, hst⟩
            refine ⟨_, rfl, ?_⟩
            replace hst := hst.of1
            refine wl_val (v := .pointer (some ⟨b447, 1, none⟩)) rfl rfl (x_field rfl Try.underlying45 rfl Try.sizeOf29 rfl) ?_
            replace hst := hst.pull1
            obtain ⟨w719, hr720, hst⟩ := hst.boxStore (P := Try.prog) (t := 29) (cs' := [.int .u8 (IntKind.u8.wrap (IntKind.i64.wrap ((1:Int) + t426.1))), .int .u64 t714.1.Session, .int .u64 t714.1.Seq, .int .u64 (0:Int), .int .u64 (0:Int), .int .i64 (0:Int), .int .u64 (0:Int), .int .u64 (0:Int), .int .u64 (0:Int), (.slice none 0 0), (.slice none 0 0), (.slice none 0 0), (.slice none 0 0), (.slice none 0 0), .int .i64 (0:Int), .int .u64 (0:Int), .int .u64 (0:Int), (.slice none 0 0), (.slice none 0 0), .int .u64 (0:Int), (.slice none 0 0), .int .u64 (0:Int), .int .i64 (0:Int), .int .i64 (0:Int), .float .f64 (0:Nat), .float .f64 (0:Nat), .int .u64 (0:Int), .int .i64 (0:Int), .bool false]) 1 (.agg #[.int .u64 t714.1.Session, .int .u64 t714.1.Seq]) Try.sizeOf29 (Nat.le_of_ble_eq_true rfl) (ones_cons rfl (ones_cons rfl ones_nil)) (by kernel_rfl)
            refine wl_unit rfl rfl (x_unit hr720) ?_
            refine wl_nil ?_
            refine blk_n ?_
            refine then_n ?_
            refine wp_seq ?_
            refine wp_region_lit ?_
            refine wl_val (v := .agg #[.int .u8 (IntKind.u8.wrap (IntKind.i64.wrap ((1:Int) + t426.1))), .int .u64 t714.1.Session, .int .u64 t714.1.Seq, .int .u64 (0:Int), .int .u64 (0:Int), .int .i64 (0:Int), .int .u64 (0:Int), .int .u64 (0:Int), .int .u64 (0:Int), (.slice none 0 0), (.slice none 0 0), (.slice none 0 0), (.slice none 0 0), (.slice none 0 0), .int .i64 (0:Int), .int .u64 (0:Int), .int .u64 (0:Int), (.slice none 0 0), (.slice none 0 0), .int .u64 (0:Int), (.slice none 0 0), .int .u64 (0:Int), .int .i64 (0:Int), .int .i64 (0:Int), .float .f64 (0:Nat), .float .f64 (0:Nat), .int .u64 (0:Int), .int .i64 (0:Int), .bool false]) rfl rfl (x_loadN (cs := [.int .u8 (IntKind.u8.wrap (IntKind.i64.wrap ((1:Int) + t426.1))), .int .u64 t714.1.Session, .int .u64 t714.1.Seq, .int .u64 (0:Int), .int .u64 (0:Int), .int .i64 (0:Int), .int .u64 (0:Int), .int .u64 (0:Int), .int .u64 (0:Int), (.slice none 0 0), (.slice none 0 0), (.slice none 0 0), (.slice none 0 0), (.slice none 0 0), .int .i64 (0:Int), .int .u64 (0:Int), .int .u64 (0:Int), (.slice none 0 0), (.slice none 0 0), .int .u64 (0:Int), (.slice none 0 0), .int .u64 (0:Int), .int .i64 (0:Int), .int .i64 (0:Int), .float .f64 (0:Nat), .float .f64 (0:Nat), .int .u64 (0:Int), .int .i64 (0:Int), .bool false]) rfl Try.isAgg45 Try.sizeOf45 (hst.bcs0 0 rfl)) ?_
            replace hst := hst.pull2
            obtain ⟨w721, hr722, hst⟩ := hst.boxStore (P := Try.prog) (t := 45) (cs' := [.int .u8 (IntKind.u8.wrap (IntKind.i64.wrap ((1:Int) + t426.1))), .int .u64 t714.1.Session, .int .u64 t714.1.Seq, .int .u64 (0:Int), .int .u64 (0:Int), .int .i64 (0:Int), .int .u64 (0:Int), .int .u64 (0:Int), .int .u64 (0:Int), (.slice none 0 0), (.slice none 0 0), (.slice none 0 0), (.slice none 0 0), (.slice none 0 0), .int .i64 (0:Int), .int .u64 (0:Int), .int .u64 (0:Int), (.slice none 0 0), (.slice none 0 0), .int .u64 (0:Int), (.slice none 0 0), .int .u64 (0:Int), .int .i64 (0:Int), .int .i64 (0:Int), .float .f64 (0:Nat), .float .f64 (0:Nat), .int .u64 (0:Int), .int .i64 (0:Int), .bool false]) 0 (.agg #[.int .u8 (IntKind.u8.wrap (IntKind.i64.wrap ((1:Int) + t426.1))), .int .u64 t714.1.Session, .int .u64 t714.1.Seq, .int .u64 (0:Int), .int .u64 (0:Int), .int .i64 (0:Int), .int .u64 (0:Int), .int .u64 (0:Int), .int .u64 (0:Int), (.slice none 0 0), (.slice none 0 0), (.slice none 0 0), (.slice none 0 0), (.slice none 0 0), .int .i64 (0:Int), .int .u64 (0:Int), .int .u64 (0:Int), (.slice none 0 0), (.slice none 0 0), .int .u64 (0:Int), (.slice none 0 0), .int .u64 (0:Int), .int .i64 (0:Int), .int .i64 (0:Int), .float .f64 (0:Nat), .float .f64 (0:Nat), .int .u64 (0:Int), .int .i64 (0:Int), .bool false]) Try.sizeOf45 (Nat.le_of_ble_eq_true rfl) (ones_cons rfl (ones_cons rfl (ones_cons rfl (ones_cons rfl (ones_cons rfl (ones_cons rfl (ones_cons rfl (ones_cons rfl (ones_cons rfl (ones_cons rfl (ones_cons rfl (ones_cons rfl (ones_cons rfl (ones_cons rfl (ones_cons rfl (ones_cons rfl (ones_cons rfl (ones_cons rfl (ones_cons rfl (ones_cons rfl (ones_cons rfl (ones_cons rfl (ones_cons rfl (ones_cons rfl (ones_cons rfl (ones_cons rfl (ones_cons rfl (ones_cons rfl (ones_cons rfl ones_nil))))))))))))))))))))))))))))) (by kernel_rfl)
            refine wl_unit rfl rfl (x_unit hr722) ?_
            refine wl_nil ?_
            refine then_n ?_
            refine wp_ret ?_
            replace hst := hst.own_nil tyF64
            replace hst := hst.own_nil tyF2
            replace hst := hst.own_nil tyF64
            replace hst := hst.own_nil (tyInt .u8)
            replace hst := hst.own_nil ty_api_Write
            replace hst := hst.own_nil ty_api_Got
            replace hst := hst.own_nil (tySl ty_api_Pair)
            replace hst := hst.own_nil ty_api_Part
            obtain rfl := some_inj hm
            refine post_ret (vs := [.agg #[.int .u8 (IntKind.u8.wrap (IntKind.i64.wrap ((1:Int) + t426.1))), .int .u64 t714.1.Session, .int .u64 t714.1.Seq, .int .u64 (0:Int), .int .u64 (0:Int), .int .i64 (0:Int), .int .u64 (0:Int), .int .u64 (0:Int), .int .u64 (0:Int), (.slice none 0 0), (.slice none 0 0), (.slice none 0 0), (.slice none 0 0), (.slice none 0 0), .int .i64 (0:Int), .int .u64 (0:Int), .int .u64 (0:Int), (.slice none 0 0), (.slice none 0 0), .int .u64 (0:Int), (.slice none 0 0), .int .u64 (0:Int), .int .i64 (0:Int), .int .i64 (0:Int), .float .f64 (0:Nat), .float .f64 (0:Nat), .int .u64 (0:Int), .int .i64 (0:Int), .bool false]]) Try.results9 (rvs_cons (rv_cell (cs := [.int .u8 (IntKind.u8.wrap (IntKind.i64.wrap ((1:Int) + t426.1))), .int .u64 t714.1.Session, .int .u64 t714.1.Seq, .int .u64 (0:Int), .int .u64 (0:Int), .int .i64 (0:Int), .int .u64 (0:Int), .int .u64 (0:Int), .int .u64 (0:Int), (.slice none 0 0), (.slice none 0 0), (.slice none 0 0), (.slice none 0 0), (.slice none 0 0), .int .i64 (0:Int), .int .u64 (0:Int), .int .u64 (0:Int), (.slice none 0 0), (.slice none 0 0), .int .u64 (0:Int), (.slice none 0 0), .int .u64 (0:Int), .int .i64 (0:Int), .int .i64 (0:Int), .float .f64 (0:Nat), .float .f64 (0:Nat), .int .u64 (0:Int), .int .i64 (0:Int), .bool false]) rfl Try.isAgg45 Try.sizeOf45 (hst.bcs8 0 rfl)) rvs_nil) ?_
            replace hst := hst.pull10
            replace hst := hst.pull1
            replace hst := hst.pull2
            replace hst := hst.pull3
            replace hst := hst.pull4
            replace hst := hst.pull5
            replace hst := hst.pull6
            replace hst := hst.pull7
            replace hst := hst.pull8
            exact ⟨_, (.slice none 0 0), (.slice none 0 0), (.slice none 0 0), (.slice none 0 0), (.slice none 0 0), (.slice none 0 0), (.slice none 0 0), (.slice none 0 0), rfl, hI0, hst.keep9⟩
          · skip
            replace hm := bif_f hc713 hm
            refine wp_iff (congrArg Value.bool hc713) ?_
            refine wp_seq ?_
            refine wp_region_lit ?_
            refine wl_val (v := .bool ((IntKind.u8.wrap (IntKind.i64.wrap ((1:Int) + t426.1))) == (6:Int))) rfl rfl rfl ?_
            refine wl_val (v := .bool ((IntKind.u8.wrap (IntKind.i64.wrap ((1:Int) + t426.1))) == (6:Int))) rfl rfl rfl ?_
            refine wl_nil ?_
            refine then_n ?_
            refine bsplit ((IntKind.u8.wrap (IntKind.i64.wrap ((1:Int) + t426.1))) == (6:Int)) (fun hc723 => ?_) (fun hc723 => ?_)
            · skip
              replace hm := bif_t hc723 hm
              refine wp_ift (congrArg Value.bool hc723) ?_
              refine wp_seq ?_
              refine wp_region_lit ?_
              refine wl_val (v := p0) rfl rfl rfl ?_
              replace hst := hst.pull1
              obtain ⟨t724, ht725, hm⟩ := bind_some hm
              refine wl_call rfl rfl (x_call Try.call26 rfl (vs := [p0]) rfl) ?_
              refine (ref13_OfRule_ref hst.to1 ht725).mono ?_
              rintro _ w726 ⟨rfl, hst⟩
              refine ⟨_, rfl, ?_⟩
              replace hst := hst.of1
              refine wl_val (v := .pointer (some ⟨b447, 21, none⟩)) rfl rfl (x_field rfl Try.underlying45 rfl Try.sizeOf43 rfl) ?_
              replace hst := hst.pull1
              obtain ⟨w729, hr730, hst⟩ := hst.boxStore (P := Try.prog) (t := 43) (cs' := [.int .u8 (IntKind.u8.wrap (IntKind.i64.wrap ((1:Int) + t426.1))), .int .u64 (0:Int), .int .u64 (0:Int), .int .u64 (0:Int), .int .u64 (0:Int), .int .i64 (0:Int), .int .u64 (0:Int), .int .u64 (0:Int), .int .u64 (0:Int), (.slice none 0 0), (.slice none 0 0), (.slice none 0 0), (.slice none 0 0), (.slice none 0 0), .int .i64 (0:Int), .int .u64 (0:Int), .int .u64 (0:Int), (.slice none 0 0), (.slice none 0 0), .int .u64 (0:Int), (.slice none 0 0), .int .u64 t724.1.ID, .int .i64 t724.1.From, .int .i64 t724.1.To, .float .f64 t724.1.Lo, .float .f64 t724.1.Hi, .int .u64 t724.1.Authority, .int .i64 t724.1.Quota, .bool false]) 21 (.agg #[.int .u64 t724.1.ID, .int .i64 t724.1.From, .int .i64 t724.1.To, .float .f64 t724.1.Lo, .float .f64 t724.1.Hi, .int .u64 t724.1.Authority, .int .i64 t724.1.Quota]) Try.sizeOf43 (Nat.le_of_ble_eq_true rfl) (ones_cons rfl (ones_cons rfl (ones_cons rfl (ones_cons rfl (ones_cons rfl (ones_cons rfl (ones_cons rfl ones_nil))))))) (by kernel_rfl)
              refine wl_unit rfl rfl (x_unit hr730) ?_
              refine wl_nil ?_
              refine then_n ?_
              refine wp_region_lit ?_
              refine wl_val (v := p0) rfl rfl rfl ?_
              replace hst := hst.pull1
              obtain ⟨t731, ht732, hm⟩ := bind_some hm
              refine wl_call rfl rfl (x_call Try.call22 rfl (vs := [p0, .int .i64 (3:Int)]) rfl) ?_
              refine (ref12_Tape_Next_ref hst.to1 ht732).mono ?_
              rintro _ w733 ⟨rfl, hst⟩
              refine ⟨_, rfl, ?_⟩
              replace hst := hst.of1
              refine wl_val (v := .bool (decide (t731.1 > (0:Int)))) rfl rfl rfl ?_
              refine wl_val (v := .pointer (some ⟨b447, 28, none⟩)) rfl rfl (x_field rfl Try.underlying45 rfl Try.sizeOf4 rfl) ?_
              replace hst := hst.pull1
              obtain ⟨w736, hr737, hst⟩ := hst.boxStore (P := Try.prog) (t := 4) (cs' := [.int .u8 (IntKind.u8.wrap (IntKind.i64.wrap ((1:Int) + t426.1))), .int .u64 (0:Int), .int .u64 (0:Int), .int .u64 (0:Int), .int .u64 (0:Int), .int .i64 (0:Int), .int .u64 (0:Int), .int .u64 (0:Int), .int .u64 (0:Int), (.slice none 0 0), (.slice none 0 0), (.slice none 0 0), (.slice none 0 0), (.slice none 0 0), .int .i64 (0:Int), .int .u64 (0:Int), .int .u64 (0:Int), (.slice none 0 0), (.slice none 0 0), .int .u64 (0:Int), (.slice none 0 0), .int .u64 t724.1.ID, .int .i64 t724.1.From, .int .i64 t724.1.To, .float .f64 t724.1.Lo, .float .f64 t724.1.Hi, .int .u64 t724.1.Authority, .int .i64 t724.1.Quota, .bool (decide (t731.1 > (0:Int)))]) 28 (.bool (decide (t731.1 > (0:Int)))) Try.sizeOf4 (Nat.le_of_ble_eq_true rfl) (ones_cons rfl ones_nil) (by kernel_rfl)
              refine wl_unit rfl rfl (x_unit hr737) ?_
              refine wl_nil ?_
              refine blk_n ?_
              refine then_n ?_
              refine wp_seq ?_
              refine wp_region_lit ?_
              refine wl_val (v := .agg #[.int .u8 (IntKind.u8.wrap (IntKind.i64.wrap ((1:Int) + t426.1))), .int .u64 (0:Int), .int .u64 (0:Int), .int .u64 (0:Int), .int .u64 (0:Int), .int .i64 (0:Int), .int .u64 (0:Int), .int .u64 (0:Int), .int .u64 (0:Int), (.slice none 0 0), (.slice none 0 0), (.slice none 0 0), (.slice none 0 0), (.slice none 0 0), .int .i64 (0:Int), .int .u64 (0:Int), .int .u64 (0:Int), (.slice none 0 0), (.slice none 0 0), .int .u64 (0:Int), (.slice none 0 0), .int .u64 t724.1.ID, .int .i64 t724.1.From, .int .i64 t724.1.To, .float .f64 t724.1.Lo, .float .f64 t724.1.Hi, .int .u64 t724.1.Authority, .int .i64 t724.1.Quota, .bool (decide (t731.1 > (0:Int)))]) rfl rfl (x_loadN (cs := [.int .u8 (IntKind.u8.wrap (IntKind.i64.wrap ((1:Int) + t426.1))), .int .u64 (0:Int), .int .u64 (0:Int), .int .u64 (0:Int), .int .u64 (0:Int), .int .i64 (0:Int), .int .u64 (0:Int), .int .u64 (0:Int), .int .u64 (0:Int), (.slice none 0 0), (.slice none 0 0), (.slice none 0 0), (.slice none 0 0), (.slice none 0 0), .int .i64 (0:Int), .int .u64 (0:Int), .int .u64 (0:Int), (.slice none 0 0), (.slice none 0 0), .int .u64 (0:Int), (.slice none 0 0), .int .u64 t724.1.ID, .int .i64 t724.1.From, .int .i64 t724.1.To, .float .f64 t724.1.Lo, .float .f64 t724.1.Hi, .int .u64 t724.1.Authority, .int .i64 t724.1.Quota, .bool (decide (t731.1 > (0:Int)))]) rfl Try.isAgg45 Try.sizeOf45 (hst.bcs0 0 rfl)) ?_
              replace hst := hst.pull2
              obtain ⟨w738, hr739, hst⟩ := hst.boxStore (P := Try.prog) (t := 45) (cs' := [.int .u8 (IntKind.u8.wrap (IntKind.i64.wrap ((1:Int) + t426.1))), .int .u64 (0:Int), .int .u64 (0:Int), .int .u64 (0:Int), .int .u64 (0:Int), .int .i64 (0:Int), .int .u64 (0:Int), .int .u64 (0:Int), .int .u64 (0:Int), (.slice none 0 0), (.slice none 0 0), (.slice none 0 0), (.slice none 0 0), (.slice none 0 0), .int .i64 (0:Int), .int .u64 (0:Int), .int .u64 (0:Int), (.slice none 0 0), (.slice none 0 0), .int .u64 (0:Int), (.slice none 0 0), .int .u64 t724.1.ID, .int .i64 t724.1.From, .int .i64 t724.1.To, .float .f64 t724.1.Lo, .float .f64 t724.1.Hi, .int .u64 t724.1.Authority, .int .i64 t724.1.Quota, .bool (decide (t731.1 > (0:Int)))]) 0 (.agg #[.int .u8 (IntKind.u8.wrap (IntKind.i64.wrap ((1:Int) + t426.1))), .int .u64 (0:Int), .int .u64 (0:Int), .int .u64 (0:Int), .int .u64 (0:Int), .int .i64 (0:Int), .int .u64 (0:Int), .int .u64 (0:Int), .int .u64 (0:Int), (.slice none 0 0), (.slice none 0 0), (.slice none 0 0), (.slice none 0 0), (.slice none 0 0), .int .i64 (0:Int), .int .u64 (0:Int), .int .u64 (0:Int), (.slice none 0 0), (.slice none 0 0), .int .u64 (0:Int), (.slice none 0 0), .int .u64 t724.1.ID, .int .i64 t724.1.From, .int .i64 t724.1.To, .float .f64 t724.1.Lo, .float .f64 t724.1.Hi, .int .u64 t724.1.Authority, .int .i64 t724.1.Quota, .bool (decide (t731.1 > (0:Int)))]) Try.sizeOf45 (Nat.le_of_ble_eq_true rfl) (ones_cons rfl (ones_cons rfl (ones_cons rfl (ones_cons rfl (ones_cons rfl (ones_cons rfl (ones_cons rfl (ones_cons rfl (ones_cons rfl (ones_cons rfl (ones_cons rfl (ones_cons rfl (ones_cons rfl (ones_cons rfl (ones_cons rfl (ones_cons rfl (ones_cons rfl (ones_cons rfl (ones_cons rfl (ones_cons rfl (ones_cons rfl (ones_cons rfl (ones_cons rfl (ones_cons rfl (ones_cons rfl (ones_cons rfl (ones_cons rfl (ones_cons rfl (ones_cons rfl ones_nil))))))))))))))))))))))))))))) (by kernel_rfl)
              refine wl_unit rfl rfl (x_unit hr739) ?_
              refine wl_nil ?_
              refine then_n ?_
              refine wp_ret ?_
              replace hst := hst.own_nil tyF64
              replace hst := hst.own_nil tyF2
              replace hst := hst.own_nil tyF64
              replace hst := hst.own_nil (tyInt .u8)
              replace hst := hst.own_nil ty_api_Write
              replace hst := hst.own_nil ty_api_Got
              replace hst := hst.own_nil (tySl ty_api_Pair)
              replace hst := hst.own_nil ty_api_Part
              obtain rfl := some_inj hm
              refine post_ret (vs := [.agg #[.int .u8 (IntKind.u8.wrap (IntKind.i64.wrap ((1:Int) + t426.1))), .int .u64 (0:Int), .int .u64 (0:Int), .int .u64 (0:Int), .int .u64 (0:Int), .int .i64 (0:Int), .int .u64 (0:Int), .int .u64 (0:Int), .int .u64 (0:Int), (.slice none 0 0), (.slice none 0 0), (.slice none 0 0), (.slice none 0 0), (.slice none 0 0), .int .i64 (0:Int), .int .u64 (0:Int), .int .u64 (0:Int), (.slice none 0 0), (.slice none 0 0), .int .u64 (0:Int), (.slice none 0 0), .int .u64 t724.1.ID, .int .i64 t724.1.From, .int .i64 t724.1.To, .float .f64 t724.1.Lo, .float .f64 t724.1.Hi, .int .u64 t724.1.Authority, .int .i64 t724.1.Quota, .bool (decide (t731.1 > (0:Int)))]]) Try.results9 (rvs_cons (rv_cell (cs := [.int .u8 (IntKind.u8.wrap (IntKind.i64.wrap ((1:Int) + t426.1))), .int .u64 (0:Int), .int .u64 (0:Int), .int .u64 (0:Int), .int .u64 (0:Int), .int .i64 (0:Int), .int .u64 (0:Int), .int .u64 (0:Int), .int .u64 (0:Int), (.slice none 0 0), (.slice none 0 0), (.slice none 0 0), (.slice none 0 0), (.slice none 0 0), .int .i64 (0:Int), .int .u64 (0:Int), .int .u64 (0:Int), (.slice none 0 0), (.slice none 0 0), .int .u64 (0:Int), (.slice none 0 0), .int .u64 t724.1.ID, .int .i64 t724.1.From, .int .i64 t724.1.To, .float .f64 t724.1.Lo, .float .f64 t724.1.Hi, .int .u64 t724.1.Authority, .int .i64 t724.1.Quota, .bool (decide (t731.1 > (0:Int)))]) rfl Try.isAgg45 Try.sizeOf45 (hst.bcs8 0 rfl)) rvs_nil) ?_
              replace hst := hst.pull10
              replace hst := hst.pull1
              replace hst := hst.pull2
              replace hst := hst.pull3
              replace hst := hst.pull4
              replace hst := hst.pull5
              replace hst := hst.pull6
              replace hst := hst.pull7
              replace hst := hst.pull8
              exact ⟨_, (.slice none 0 0), (.slice none 0 0), (.slice none 0 0), (.slice none 0 0), (.slice none 0 0), (.slice none 0 0), (.slice none 0 0), (.slice none 0 0), rfl, hI0, hst.keep9⟩
            · skip
              replace hm := bif_f hc723 hm
              refine wp_iff (congrArg Value.bool hc723) ?_
              refine wp_seq ?_
              refine wp_region_lit ?_
              refine wl_val (v := .bool ((IntKind.u8.wrap (IntKind.i64.wrap ((1:Int) + t426.1))) == (7:Int))) rfl rfl rfl ?_
              refine wl_val (v := .bool ((IntKind.u8.wrap (IntKind.i64.wrap ((1:Int) + t426.1))) == (7:Int))) rfl rfl rfl ?_
              refine wl_nil ?_
              refine then_n ?_
              refine bsplit ((IntKind.u8.wrap (IntKind.i64.wrap ((1:Int) + t426.1))) == (7:Int)) (fun hc740 => ?_) (fun hc740 => ?_)
              · skip
                replace hm := bif_t hc740 hm
                refine wp_ift (congrArg Value.bool hc740) ?_
                refine wp_seq ?_
                refine wp_region_lit ?_
                refine wl_val (v := p0) rfl rfl rfl ?_
                replace hst := hst.pull1
                obtain ⟨t741, ht742, hm⟩ := bind_some hm
                refine wl_call rfl rfl (x_call Try.call24 rfl (vs := [p0]) rfl) ?_
                refine (ref12_Tape_Of_ref hst.to1 ht742).mono ?_
                rintro _ w743 ⟨rfl, hst⟩
                refine ⟨_, rfl, ?_⟩
                replace hst := hst.of1
                refine wl_val (v := .pointer (some ⟨b447, 1, none⟩)) rfl rfl (x_field rfl Try.underlying45 rfl Try.sizeOf29 rfl) ?_
                replace hst := hst.pull1
                obtain ⟨w746, hr747, hst⟩ := hst.boxStore (P := Try.prog) (t := 29) (cs' := [.int .u8 (IntKind.u8.wrap (IntKind.i64.wrap ((1:Int) + t426.1))), .int .u64 t741.1.Session, .int .u64 t741.1.Seq, .int .u64 (0:Int), .int .u64 (0:Int), .int .i64 (0:Int), .int .u64 (0:Int), .int .u64 (0:Int), .int .u64 (0:Int), (.slice none 0 0), (.slice none 0 0), (.slice none 0 0), (.slice none 0 0), (.slice none 0 0), .int .i64 (0:Int), .int .u64 (0:Int), .int .u64 (0:Int), (.slice none 0 0), (.slice none 0 0), .int .u64 (0:Int), (.slice none 0 0), .int .u64 (0:Int), .int .i64 (0:Int), .int .i64 (0:Int), .float .f64 (0:Nat), .float .f64 (0:Nat), .int .u64 (0:Int), .int .i64 (0:Int), .bool false]) 1 (.agg #[.int .u64 t741.1.Session, .int .u64 t741.1.Seq]) Try.sizeOf29 (Nat.le_of_ble_eq_true rfl) (ones_cons rfl (ones_cons rfl ones_nil)) (by kernel_rfl)
                refine wl_unit rfl rfl (x_unit hr747) ?_
                refine wl_nil ?_
                refine then_n ?_
                refine wp_seq ?_
                refine wp_region_lit ?_
                refine wl_val (v := p0) rfl rfl rfl ?_
                replace hst := hst.pull1
                obtain ⟨t748, ht749, hm⟩ := bind_some hm
                refine wl_call rfl rfl (x_call Try.call22 rfl (vs := [p0, .int .i64 (4:Int)]) rfl) ?_
                refine (ref12_Tape_Next_ref hst.to1 ht749).mono ?_
                rintro _ w750 ⟨rfl, hst⟩
                refine ⟨_, rfl, ?_⟩
                replace hst := hst.of1
                refine wl_val (v := .int .i64 (IntKind.i64.wrap ((1:Int) + t748.1))) rfl rfl rfl ?_
                refine wl_val (v := .int .u64 (IntKind.u64.wrap (IntKind.i64.wrap ((1:Int) + t748.1)))) rfl rfl (by kernel_rfl) ?_
                refine wl_val (v := .pointer (some ⟨b447, 3, none⟩)) rfl rfl (x_field rfl Try.underlying45 rfl Try.sizeOf27 rfl) ?_
                replace hst := hst.pull1
                obtain ⟨w753, hr754, hst⟩ := hst.boxStore (P := Try.prog) (t := 27) (cs' := [.int .u8 (IntKind.u8.wrap (IntKind.i64.wrap ((1:Int) + t426.1))), .int .u64 t741.1.Session, .int .u64 t741.1.Seq, .int .u64 (IntKind.u64.wrap (IntKind.i64.wrap ((1:Int) + t748.1))), .int .u64 (0:Int), .int .i64 (0:Int), .int .u64 (0:Int), .int .u64 (0:Int), .int .u64 (0:Int), (.slice none 0 0), (.slice none 0 0), (.slice none 0 0), (.slice none 0 0), (.slice none 0 0), .int .i64 (0:Int), .int .u64 (0:Int), .int .u64 (0:Int), (.slice none 0 0), (.slice none 0 0), .int .u64 (0:Int), (.slice none 0 0), .int .u64 (0:Int), .int .i64 (0:Int), .int .i64 (0:Int), .float .f64 (0:Nat), .float .f64 (0:Nat), .int .u64 (0:Int), .int .i64 (0:Int), .bool false]) 3 (.int .u64 (IntKind.u64.wrap (IntKind.i64.wrap ((1:Int) + t748.1)))) Try.sizeOf27 (Nat.le_of_ble_eq_true rfl) (ones_cons rfl ones_nil) (by kernel_rfl)
                refine wl_unit rfl rfl (x_unit hr754) ?_
                refine wl_nil ?_
                refine then_n ?_
                refine wp_seq ?_
                refine wp_region_lit ?_
                refine wl_val (v := p0) rfl rfl rfl ?_
                replace hst := hst.pull1
                obtain ⟨t755, ht756, hm⟩ := bind_some hm
                refine wl_call rfl rfl (x_call Try.call26 rfl (vs := [p0]) rfl) ?_
                refine (ref13_OfRule_ref hst.to1 ht756).mono ?_
                rintro _ w757 ⟨rfl, hst⟩
                refine ⟨_, rfl, ?_⟩
                replace hst := hst.of1
                refine wl_val (v := .pointer (some ⟨b447, 21, none⟩)) rfl rfl (x_field rfl Try.underlying45 rfl Try.sizeOf43 rfl) ?_
                replace hst := hst.pull1
                obtain ⟨w760, hr761, hst⟩ := hst.boxStore (P := Try.prog) (t := 43) (cs' := [.int .u8 (IntKind.u8.wrap (IntKind.i64.wrap ((1:Int) + t426.1))), .int .u64 t741.1.Session, .int .u64 t741.1.Seq, .int .u64 (IntKind.u64.wrap (IntKind.i64.wrap ((1:Int) + t748.1))), .int .u64 (0:Int), .int .i64 (0:Int), .int .u64 (0:Int), .int .u64 (0:Int), .int .u64 (0:Int), (.slice none 0 0), (.slice none 0 0), (.slice none 0 0), (.slice none 0 0), (.slice none 0 0), .int .i64 (0:Int), .int .u64 (0:Int), .int .u64 (0:Int), (.slice none 0 0), (.slice none 0 0), .int .u64 (0:Int), (.slice none 0 0), .int .u64 t755.1.ID, .int .i64 t755.1.From, .int .i64 t755.1.To, .float .f64 t755.1.Lo, .float .f64 t755.1.Hi, .int .u64 t755.1.Authority, .int .i64 t755.1.Quota, .bool false]) 21 (.agg #[.int .u64 t755.1.ID, .int .i64 t755.1.From, .int .i64 t755.1.To, .float .f64 t755.1.Lo, .float .f64 t755.1.Hi, .int .u64 t755.1.Authority, .int .i64 t755.1.Quota]) Try.sizeOf43 (Nat.le_of_ble_eq_true rfl) (ones_cons rfl (ones_cons rfl (ones_cons rfl (ones_cons rfl (ones_cons rfl (ones_cons rfl (ones_cons rfl ones_nil))))))) (by kernel_rfl)
                refine wl_unit rfl rfl (x_unit hr761) ?_
                refine wl_nil ?_
                refine then_n ?_
                refine wp_seq ?_
                refine wp_region_lit ?_
                refine wl_val (v := p0) rfl rfl rfl ?_
                replace hst := hst.pull1
                obtain ⟨t762, ht763, hm⟩ := bind_some hm
                refine wl_call rfl rfl (x_call Try.call25 rfl (vs := [p0]) rfl) ?_
                refine (ref13_OfWrites_ref hst.to1 ht763).mono ?_
                rintro _ w764 ⟨I765, v767, rfl, hI766, hst⟩
                refine ⟨_, rfl, ?_⟩
                replace hst := hst.of2
                replace hI0 := hI0.trans hI766
                refine wl_val (v := .pointer (some ⟨b447, 13, none⟩)) rfl rfl (x_field rfl Try.underlying45 rfl Try.sizeOf35 rfl) ?_
                replace hst := hst.pull2
                obtain ⟨w769, hr770, hst⟩ := hst.boxStore1 (P := Try.prog) (t := 35) (cs' := [.int .u8 (IntKind.u8.wrap (IntKind.i64.wrap ((1:Int) + t426.1))), .int .u64 t741.1.Session, .int .u64 t741.1.Seq, .int .u64 (IntKind.u64.wrap (IntKind.i64.wrap ((1:Int) + t748.1))), .int .u64 (0:Int), .int .i64 (0:Int), .int .u64 (0:Int), .int .u64 (0:Int), .int .u64 (0:Int), (.slice none 0 0), (.slice none 0 0), (.slice none 0 0), (.slice none 0 0), v767, .int .i64 (0:Int), .int .u64 (0:Int), .int .u64 (0:Int), (.slice none 0 0), (.slice none 0 0), .int .u64 (0:Int), (.slice none 0 0), .int .u64 t755.1.ID, .int .i64 t755.1.From, .int .i64 t755.1.To, .float .f64 t755.1.Lo, .float .f64 t755.1.Hi, .int .u64 t755.1.Authority, .int .i64 t755.1.Quota, .bool false]) 13 v767 (one_of_sliceV hst.sv1) Try.sizeOf35 rfl rfl
                refine wl_unit rfl rfl (x_unit hr770) ?_
                refine wl_nil ?_
                refine then_n ?_
                refine wp_region_lit ?_
                refine wl_val (v := p0) rfl rfl rfl ?_
                replace hst := hst.pull2
                obtain ⟨t771, ht772, hm⟩ := bind_some hm
                refine wl_call rfl rfl (x_call Try.call12 rfl (vs := [p0]) rfl) ?_
                refine (ref13_OfReply_ref hst.to1 ht772).mono ?_
                rintro _ w773 ⟨I774, v776, v778, rfl, hI775, hst⟩
                refine ⟨_, rfl, ?_⟩
                replace hst := hst.of3
                replace hI0 := hI0.trans hI775
                refine wl_val (v := .pointer (some ⟨b447, 14, none⟩)) rfl rfl (x_field rfl Try.underlying45 rfl Try.sizeOf39 rfl) ?_
                replace hst := hst.pull3
                obtain ⟨w780, hr781, hst⟩ := hst.boxStore (P := Try.prog) (t := 39) (cs' := [.int .u8 (IntKind.u8.wrap (IntKind.i64.wrap ((1:Int) + t426.1))), .int .u64 t741.1.Session, .int .u64 t741.1.Seq, .int .u64 (IntKind.u64.wrap (IntKind.i64.wrap ((1:Int) + t748.1))), .int .u64 (0:Int), .int .i64 (0:Int), .int .u64 (0:Int), .int .u64 (0:Int), .int .u64 (0:Int), (.slice none 0 0), (.slice none 0 0), (.slice none 0 0), (.slice none 0 0), v767, .int .i64 t771.1.E, .int .u64 t771.1.Epoch, .int .u64 t771.1.Index, v776, v778, .int .u64 (0:Int), (.slice none 0 0), .int .u64 t755.1.ID, .int .i64 t755.1.From, .int .i64 t755.1.To, .float .f64 t755.1.Lo, .float .f64 t755.1.Hi, .int .u64 t755.1.Authority, .int .i64 t755.1.Quota, .bool false]) 14 (.agg #[.int .i64 t771.1.E, .int .u64 t771.1.Epoch, .int .u64 t771.1.Index, v776, v778]) Try.sizeOf39 (Nat.le_of_ble_eq_true rfl) (ones_cons rfl (ones_cons rfl (ones_cons rfl (ones_cons (one_of_sliceV hst.sv1) (ones_cons (one_of_sliceV hst.sv2) ones_nil))))) (by kernel_rfl)
                refine wl_unit rfl rfl (x_unit hr781) ?_
                refine wl_nil ?_
                refine blk_n ?_
                refine then_n ?_
                refine wp_seq ?_
                refine wp_region_lit ?_
                refine wl_val (v := .agg #[.int .u8 (IntKind.u8.wrap (IntKind.i64.wrap ((1:Int) + t426.1))), .int .u64 t741.1.Session, .int .u64 t741.1.Seq, .int .u64 (IntKind.u64.wrap (IntKind.i64.wrap ((1:Int) + t748.1))), .int .u64 (0:Int), .int .i64 (0:Int), .int .u64 (0:Int), .int .u64 (0:Int), .int .u64 (0:Int), (.slice none 0 0), (.slice none 0 0), (.slice none 0 0), (.slice none 0 0), v767, .int .i64 t771.1.E, .int .u64 t771.1.Epoch, .int .u64 t771.1.Index, v776, v778, .int .u64 (0:Int), (.slice none 0 0), .int .u64 t755.1.ID, .int .i64 t755.1.From, .int .i64 t755.1.To, .float .f64 t755.1.Lo, .float .f64 t755.1.Hi, .int .u64 t755.1.Authority, .int .i64 t755.1.Quota, .bool false]) rfl rfl (x_loadN (cs := [.int .u8 (IntKind.u8.wrap (IntKind.i64.wrap ((1:Int) + t426.1))), .int .u64 t741.1.Session, .int .u64 t741.1.Seq, .int .u64 (IntKind.u64.wrap (IntKind.i64.wrap ((1:Int) + t748.1))), .int .u64 (0:Int), .int .i64 (0:Int), .int .u64 (0:Int), .int .u64 (0:Int), .int .u64 (0:Int), (.slice none 0 0), (.slice none 0 0), (.slice none 0 0), (.slice none 0 0), v767, .int .i64 t771.1.E, .int .u64 t771.1.Epoch, .int .u64 t771.1.Index, v776, v778, .int .u64 (0:Int), (.slice none 0 0), .int .u64 t755.1.ID, .int .i64 t755.1.From, .int .i64 t755.1.To, .float .f64 t755.1.Lo, .float .f64 t755.1.Hi, .int .u64 t755.1.Authority, .int .i64 t755.1.Quota, .bool false]) rfl Try.isAgg45 Try.sizeOf45 (hst.bcs0 0 rfl)) ?_
                replace hst := hst.pull5
                obtain ⟨w782, hr783, hst⟩ := hst.boxStore (P := Try.prog) (t := 45) (cs' := [.int .u8 (IntKind.u8.wrap (IntKind.i64.wrap ((1:Int) + t426.1))), .int .u64 t741.1.Session, .int .u64 t741.1.Seq, .int .u64 (IntKind.u64.wrap (IntKind.i64.wrap ((1:Int) + t748.1))), .int .u64 (0:Int), .int .i64 (0:Int), .int .u64 (0:Int), .int .u64 (0:Int), .int .u64 (0:Int), (.slice none 0 0), (.slice none 0 0), (.slice none 0 0), (.slice none 0 0), v767, .int .i64 t771.1.E, .int .u64 t771.1.Epoch, .int .u64 t771.1.Index, v776, v778, .int .u64 (0:Int), (.slice none 0 0), .int .u64 t755.1.ID, .int .i64 t755.1.From, .int .i64 t755.1.To, .float .f64 t755.1.Lo, .float .f64 t755.1.Hi, .int .u64 t755.1.Authority, .int .i64 t755.1.Quota, .bool false]) 0 (.agg #[.int .u8 (IntKind.u8.wrap (IntKind.i64.wrap ((1:Int) + t426.1))), .int .u64 t741.1.Session, .int .u64 t741.1.Seq, .int .u64 (IntKind.u64.wrap (IntKind.i64.wrap ((1:Int) + t748.1))), .int .u64 (0:Int), .int .i64 (0:Int), .int .u64 (0:Int), .int .u64 (0:Int), .int .u64 (0:Int), (.slice none 0 0), (.slice none 0 0), (.slice none 0 0), (.slice none 0 0), v767, .int .i64 t771.1.E, .int .u64 t771.1.Epoch, .int .u64 t771.1.Index, v776, v778, .int .u64 (0:Int), (.slice none 0 0), .int .u64 t755.1.ID, .int .i64 t755.1.From, .int .i64 t755.1.To, .float .f64 t755.1.Lo, .float .f64 t755.1.Hi, .int .u64 t755.1.Authority, .int .i64 t755.1.Quota, .bool false]) Try.sizeOf45 (Nat.le_of_ble_eq_true rfl) (ones_cons rfl (ones_cons rfl (ones_cons rfl (ones_cons rfl (ones_cons rfl (ones_cons rfl (ones_cons rfl (ones_cons rfl (ones_cons rfl (ones_cons rfl (ones_cons rfl (ones_cons rfl (ones_cons rfl (ones_cons (one_of_sliceV hst.sv5) (ones_cons rfl (ones_cons rfl (ones_cons rfl (ones_cons (one_of_sliceV hst.sv2) (ones_cons (one_of_sliceV hst.sv3) (ones_cons rfl (ones_cons rfl (ones_cons rfl (ones_cons rfl (ones_cons rfl (ones_cons rfl (ones_cons rfl (ones_cons rfl (ones_cons rfl (ones_cons rfl ones_nil))))))))))))))))))))))))))))) (by kernel_rfl)
                refine wl_unit rfl rfl (x_unit hr783) ?_
                refine wl_nil ?_
                refine then_n ?_
                refine wp_ret ?_
                replace hst := hst.own_nil tyF64
                replace hst := hst.own_nil tyF2
                replace hst := hst.own_nil tyF64
                replace hst := hst.own_nil (tyInt .u8)
                replace hst := hst.own_nil ty_api_Part
                obtain rfl := some_inj hm
                refine post_ret (vs := [.agg #[.int .u8 (IntKind.u8.wrap (IntKind.i64.wrap ((1:Int) + t426.1))), .int .u64 t741.1.Session, .int .u64 t741.1.Seq, .int .u64 (IntKind.u64.wrap (IntKind.i64.wrap ((1:Int) + t748.1))), .int .u64 (0:Int), .int .i64 (0:Int), .int .u64 (0:Int), .int .u64 (0:Int), .int .u64 (0:Int), (.slice none 0 0), (.slice none 0 0), (.slice none 0 0), (.slice none 0 0), v767, .int .i64 t771.1.E, .int .u64 t771.1.Epoch, .int .u64 t771.1.Index, v776, v778, .int .u64 (0:Int), (.slice none 0 0), .int .u64 t755.1.ID, .int .i64 t755.1.From, .int .i64 t755.1.To, .float .f64 t755.1.Lo, .float .f64 t755.1.Hi, .int .u64 t755.1.Authority, .int .i64 t755.1.Quota, .bool false]]) Try.results9 (rvs_cons (rv_cell (cs := [.int .u8 (IntKind.u8.wrap (IntKind.i64.wrap ((1:Int) + t426.1))), .int .u64 t741.1.Session, .int .u64 t741.1.Seq, .int .u64 (IntKind.u64.wrap (IntKind.i64.wrap ((1:Int) + t748.1))), .int .u64 (0:Int), .int .i64 (0:Int), .int .u64 (0:Int), .int .u64 (0:Int), .int .u64 (0:Int), (.slice none 0 0), (.slice none 0 0), (.slice none 0 0), (.slice none 0 0), v767, .int .i64 t771.1.E, .int .u64 t771.1.Epoch, .int .u64 t771.1.Index, v776, v778, .int .u64 (0:Int), (.slice none 0 0), .int .u64 t755.1.ID, .int .i64 t755.1.From, .int .i64 t755.1.To, .float .f64 t755.1.Lo, .float .f64 t755.1.Hi, .int .u64 t755.1.Authority, .int .i64 t755.1.Quota, .bool false]) rfl Try.isAgg45 Try.sizeOf45 (hst.bcs5 0 rfl)) rvs_nil) ?_
                replace hst := hst.pull9
                replace hst := hst.pull1
                replace hst := hst.pull9
                replace hst := hst.pull9
                replace hst := hst.pull10
                replace hst := hst.pull5
                replace hst := hst.pull6
                replace hst := hst.pull7
                replace hst := hst.pull8
                exact ⟨_, (.slice none 0 0), (.slice none 0 0), (.slice none 0 0), (.slice none 0 0), v767, v776, v778, (.slice none 0 0), rfl, hI0, hst.keep9⟩
              · skip
                replace hm := bif_f hc740 hm
                refine wp_iff (congrArg Value.bool hc740) ?_
                refine wp_skip ?_
                refine blk_n ?_
                refine then_n ?_
                refine wp_seq ?_
                refine wp_region_lit ?_
                refine wl_val (v := .agg #[.int .u8 (IntKind.u8.wrap (IntKind.i64.wrap ((1:Int) + t426.1))), .int .u64 (0:Int), .int .u64 (0:Int), .int .u64 (0:Int), .int .u64 (0:Int), .int .i64 (0:Int), .int .u64 (0:Int), .int .u64 (0:Int), .int .u64 (0:Int), (.slice none 0 0), (.slice none 0 0), (.slice none 0 0), (.slice none 0 0), (.slice none 0 0), .int .i64 (0:Int), .int .u64 (0:Int), .int .u64 (0:Int), (.slice none 0 0), (.slice none 0 0), .int .u64 (0:Int), (.slice none 0 0), .int .u64 (0:Int), .int .i64 (0:Int), .int .i64 (0:Int), .float .f64 (0:Nat), .float .f64 (0:Nat), .int .u64 (0:Int), .int .i64 (0:Int), .bool false]) rfl rfl (x_loadN (cs := [.int .u8 (IntKind.u8.wrap (IntKind.i64.wrap ((1:Int) + t426.1))), .int .u64 (0:Int), .int .u64 (0:Int), .int .u64 (0:Int), .int .u64 (0:Int), .int .i64 (0:Int), .int .u64 (0:Int), .int .u64 (0:Int), .int .u64 (0:Int), (.slice none 0 0), (.slice none 0 0), (.slice none 0 0), (.slice none 0 0), (.slice none 0 0), .int .i64 (0:Int), .int .u64 (0:Int), .int .u64 (0:Int), (.slice none 0 0), (.slice none 0 0), .int .u64 (0:Int), (.slice none 0 0), .int .u64 (0:Int), .int .i64 (0:Int), .int .i64 (0:Int), .float .f64 (0:Nat), .float .f64 (0:Nat), .int .u64 (0:Int), .int .i64 (0:Int), .bool false]) rfl Try.isAgg45 Try.sizeOf45 (hst.bcs0 0 rfl)) ?_
                replace hst := hst.pull2
                obtain ⟨w784, hr785, hst⟩ := hst.boxStore (P := Try.prog) (t := 45) (cs' := [.int .u8 (IntKind.u8.wrap (IntKind.i64.wrap ((1:Int) + t426.1))), .int .u64 (0:Int), .int .u64 (0:Int), .int .u64 (0:Int), .int .u64 (0:Int), .int .i64 (0:Int), .int .u64 (0:Int), .int .u64 (0:Int), .int .u64 (0:Int), (.slice none 0 0), (.slice none 0 0), (.slice none 0 0), (.slice none 0 0), (.slice none 0 0), .int .i64 (0:Int), .int .u64 (0:Int), .int .u64 (0:Int), (.slice none 0 0), (.slice none 0 0), .int .u64 (0:Int), (.slice none 0 0), .int .u64 (0:Int), .int .i64 (0:Int), .int .i64 (0:Int), .float .f64 (0:Nat), .float .f64 (0:Nat), .int .u64 (0:Int), .int .i64 (0:Int), .bool false]) 0 (.agg #[.int .u8 (IntKind.u8.wrap (IntKind.i64.wrap ((1:Int) + t426.1))), .int .u64 (0:Int), .int .u64 (0:Int), .int .u64 (0:Int), .int .u64 (0:Int), .int .i64 (0:Int), .int .u64 (0:Int), .int .u64 (0:Int), .int .u64 (0:Int), (.slice none 0 0), (.slice none 0 0), (.slice none 0 0), (.slice none 0 0), (.slice none 0 0), .int .i64 (0:Int), .int .u64 (0:Int), .int .u64 (0:Int), (.slice none 0 0), (.slice none 0 0), .int .u64 (0:Int), (.slice none 0 0), .int .u64 (0:Int), .int .i64 (0:Int), .int .i64 (0:Int), .float .f64 (0:Nat), .float .f64 (0:Nat), .int .u64 (0:Int), .int .i64 (0:Int), .bool false]) Try.sizeOf45 (Nat.le_of_ble_eq_true rfl) (ones_cons rfl (ones_cons rfl (ones_cons rfl (ones_cons rfl (ones_cons rfl (ones_cons rfl (ones_cons rfl (ones_cons rfl (ones_cons rfl (ones_cons rfl (ones_cons rfl (ones_cons rfl (ones_cons rfl (ones_cons rfl (ones_cons rfl (ones_cons rfl (ones_cons rfl (ones_cons rfl (ones_cons rfl (ones_cons rfl (ones_cons rfl (ones_cons rfl (ones_cons rfl (ones_cons rfl (ones_cons rfl (ones_cons rfl (ones_cons rfl (ones_cons rfl (ones_cons rfl ones_nil))))))))))))))))))))))))))))) (by kernel_rfl)
                refine wl_unit rfl rfl (x_unit hr785) ?_
                refine wl_nil ?_
                refine then_n ?_
                refine wp_ret ?_
                replace hst := hst.own_nil tyF64
                replace hst := hst.own_nil tyF2
                replace hst := hst.own_nil tyF64
                replace hst := hst.own_nil (tyInt .u8)
                replace hst := hst.own_nil ty_api_Write
                replace hst := hst.own_nil ty_api_Got
                replace hst := hst.own_nil (tySl ty_api_Pair)
                replace hst := hst.own_nil ty_api_Part
                obtain rfl := some_inj hm
                refine post_ret (vs := [.agg #[.int .u8 (IntKind.u8.wrap (IntKind.i64.wrap ((1:Int) + t426.1))), .int .u64 (0:Int), .int .u64 (0:Int), .int .u64 (0:Int), .int .u64 (0:Int), .int .i64 (0:Int), .int .u64 (0:Int), .int .u64 (0:Int), .int .u64 (0:Int), (.slice none 0 0), (.slice none 0 0), (.slice none 0 0), (.slice none 0 0), (.slice none 0 0), .int .i64 (0:Int), .int .u64 (0:Int), .int .u64 (0:Int), (.slice none 0 0), (.slice none 0 0), .int .u64 (0:Int), (.slice none 0 0), .int .u64 (0:Int), .int .i64 (0:Int), .int .i64 (0:Int), .float .f64 (0:Nat), .float .f64 (0:Nat), .int .u64 (0:Int), .int .i64 (0:Int), .bool false]]) Try.results9 (rvs_cons (rv_cell (cs := [.int .u8 (IntKind.u8.wrap (IntKind.i64.wrap ((1:Int) + t426.1))), .int .u64 (0:Int), .int .u64 (0:Int), .int .u64 (0:Int), .int .u64 (0:Int), .int .i64 (0:Int), .int .u64 (0:Int), .int .u64 (0:Int), .int .u64 (0:Int), (.slice none 0 0), (.slice none 0 0), (.slice none 0 0), (.slice none 0 0), (.slice none 0 0), .int .i64 (0:Int), .int .u64 (0:Int), .int .u64 (0:Int), (.slice none 0 0), (.slice none 0 0), .int .u64 (0:Int), (.slice none 0 0), .int .u64 (0:Int), .int .i64 (0:Int), .int .i64 (0:Int), .float .f64 (0:Nat), .float .f64 (0:Nat), .int .u64 (0:Int), .int .i64 (0:Int), .bool false]) rfl Try.isAgg45 Try.sizeOf45 (hst.bcs8 0 rfl)) rvs_nil) ?_
                replace hst := hst.pull10
                replace hst := hst.pull1
                replace hst := hst.pull2
                replace hst := hst.pull3
                replace hst := hst.pull4
                replace hst := hst.pull5
                replace hst := hst.pull6
                replace hst := hst.pull7
                replace hst := hst.pull8
                exact ⟨_, (.slice none 0 0), (.slice none 0 0), (.slice none 0 0), (.slice none 0 0), (.slice none 0 0), (.slice none 0 0), (.slice none 0 0), (.slice none 0 0), rfl, hI0, hst.keep9⟩

theorem math_Signbit_ref {w0 w : World} {I : HL} {R : SP} {a0 : Nat}  (hst : St w0 w I [] R) {r : (Bool)} (hm : math_Signbit a0 = some r) :
    Calls Try.prog 69 #[.float .f64 a0] w fun e w' => e = .returned (.bool r) ∧ St w0 w' I [] R := by
  unfold math_Signbit at hm
  refine calls_start (args := [.float .f64 a0]) Try.func69 rfl Try.ntmps69 (Nat.le_of_ble_eq_true rfl) ?_
  refine wp_seq ?_
  refine wp_region_lit ?_
  refine wl_val (v := .bool false) rfl rfl rfl ?_
  refine wl_nil ?_
  refine then_n ?_
  refine wp_seq ?_
  refine wp_region_lit ?_
  refine wl_val (v := .float .f64 a0) rfl rfl rfl ?_
  refine wl_val (v := .int .u64 (Int.ofNat a0)) rfl rfl (by kernel_rfl) ?_
  refine wl_val (v := .int .i64 (IntKind.i64.wrap (Int.ofNat a0))) rfl rfl (by kernel_rfl) ?_
  refine wl_val (v := .bool (decide ((IntKind.i64.wrap (Int.ofNat a0)) < (0:Int)))) rfl rfl rfl ?_
  refine wl_val (v := .bool (decide ((IntKind.i64.wrap (Int.ofNat a0)) < (0:Int)))) rfl rfl rfl ?_
  refine wl_nil ?_
  refine then_n ?_
  refine wp_ret ?_
  obtain rfl := some_inj hm
  refine post_ret (vs := [.bool (decide ((IntKind.i64.wrap (Int.ofNat a0)) < (0:Int)))]) Try.results69 (rvs_cons (rv_tmp rfl) rvs_nil) ?_
  exact ⟨rfl, hst.keep0⟩

theorem ref01_Ahead_ref {w0 w : World} {I : HL} {R : SP} {a0 : Nat} {a1 : Nat}  (hst : St w0 w I [] R) {r : (Bool)} (hm : ref01_Ahead a0 a1 = some r) :
    Calls Try.prog 68 #[.float .f64 a0, .float .f64 a1] w fun e w' => e = .returned (.bool r) ∧ St w0 w' I [] R := by
  unfold ref01_Ahead at hm
  refine calls_start (args := [.float .f64 a0, .float .f64 a1]) Try.func68 rfl Try.ntmps68 (Nat.le_of_ble_eq_true rfl) ?_
  refine wp_seq ?_
  refine wp_region_lit ?_
  refine wl_val (v := .bool false) rfl rfl rfl ?_
  refine wl_nil ?_
  refine then_n ?_
  refine wp_seq ?_
  refine wp_seq ?_
  refine wp_region_lit ?_
  refine wl_val (v := .float .f64 a0) rfl rfl rfl ?_
  refine wl_val (v := .float .f64 a0) rfl rfl rfl ?_
  refine wl_val (v := .bool (fNe a0 a0)) rfl rfl rfl ?_
  refine wl_nil ?_
  refine then_n ?_
  refine bsplit (fNe a0 a0) (fun hc186 => ?_) (fun hc186 => ?_)
  · skip
    replace hm := bif_t hc186 hm
    refine wp_ift (congrArg Value.bool hc186) ?_
    refine wp_seq ?_
    refine wp_region_lit ?_
    refine wl_val (v := .bool false) rfl rfl rfl ?_
    refine wl_nil ?_
    refine then_n ?_
    refine wp_ret ?_
    refine then_r ?_
    obtain rfl := some_inj hm
    refine post_ret (vs := [.bool false]) Try.results68 (rvs_cons (rv_tmp rfl) rvs_nil) ?_
    exact ⟨rfl, hst.keep0⟩
  · skip
    replace hm := bif_f hc186 hm
    refine wp_iff (congrArg Value.bool hc186) ?_
    refine wp_skip ?_
    refine then_n ?_
    refine wp_seq ?_
    refine wp_seq ?_
    refine wp_region_lit ?_
    refine wl_val (v := .float .f64 a1) rfl rfl rfl ?_
    refine wl_val (v := .float .f64 a1) rfl rfl rfl ?_
    refine wl_val (v := .bool (fNe a1 a1)) rfl rfl rfl ?_
    refine wl_nil ?_
    refine then_n ?_
    refine bsplit (fNe a1 a1) (fun hc187 => ?_) (fun hc187 => ?_)
    · skip
      replace hm := bif_t hc187 hm
      refine wp_ift (congrArg Value.bool hc187) ?_
      refine wp_seq ?_
      refine wp_region_lit ?_
      refine wl_val (v := .bool true) rfl rfl rfl ?_
      refine wl_nil ?_
      refine then_n ?_
      refine wp_ret ?_
      refine then_r ?_
      obtain rfl := some_inj hm
      refine post_ret (vs := [.bool true]) Try.results68 (rvs_cons (rv_tmp rfl) rvs_nil) ?_
      exact ⟨rfl, hst.keep0⟩
    · skip
      replace hm := bif_f hc187 hm
      refine wp_iff (congrArg Value.bool hc187) ?_
      refine wp_skip ?_
      refine then_n ?_
      obtain ⟨y203, hm, hx204⟩ := joinO_some hm
      refine wp_cut (fun a w => ∃ (σ201 : Nat → Value), (ref01_Ahead_j0 a0 a1) () = some r ∧ a = Fr 27 (upd (upd σ201 0 (.float .f64 a0)) 1 (.float .f64 a1)) ∧ St w0 w I [] R) ?_ ?_
      · skip
        refine wp_seq ?_
        refine wp_region_lit ?_
        refine wl_val (v := .float .f64 a0) rfl rfl rfl ?_
        refine wl_val (v := .bool (fEq a0 (0:Nat))) rfl rfl rfl ?_
        refine wl_val (v := .bool (fEq a0 (0:Nat))) rfl rfl rfl ?_
        refine bsplit (fEq a0 (0:Nat)) (fun hc188 => ?_) (fun hc188 => ?_)
        · skip
          replace hm := bif_t hc188 hm
          refine wl_val (v := .float .f64 a1) ((wanted_eq rfl rfl rfl (congrArg Value.bool hc188)).trans rfl) rfl rfl ?_
          refine wl_val (v := .bool (fEq a1 (0:Nat))) ((wanted_eq rfl rfl rfl (congrArg Value.bool hc188)).trans rfl) rfl rfl ?_
          refine wl_val (v := .bool (fEq a1 (0:Nat))) rfl rfl (x_pick_t hc188 rfl rfl) ?_
          refine wl_nil ?_
          refine then_n ?_
          refine bsplit (fEq a1 (0:Nat)) (fun hc189 => ?_) (fun hc189 => ?_)
          · skip
            replace hm := bif_t hc189 hm
            refine wp_ift (congrArg Value.bool hc189) ?_
            refine wp_seq ?_
            refine wp_region_lit ?_
            refine wl_val (v := .float .f64 a0) rfl rfl rfl ?_
            obtain ⟨t190, ht191, hm⟩ := bind_some hm
            refine wl_call rfl rfl (x_call Try.call69 rfl (vs := [.float .f64 a0]) rfl) ?_
            refine (math_Signbit_ref hst.to0 ht191).mono ?_
            rintro _ w192 ⟨rfl, hst⟩
            refine ⟨_, rfl, ?_⟩
            replace hst := hst.of0
            refine wl_val (v := .bool t190) rfl rfl rfl ?_
            refine bsplit t190 (fun hc195 => ?_) (fun hc195 => ?_)
            · skip
              replace hm := bif_t hc195 hm
              refine wl_val (v := .float .f64 a1) ((wanted_eq rfl rfl rfl (congrArg Value.bool hc195)).trans rfl) rfl rfl ?_
              obtain ⟨t196, ht197, hm⟩ := bind_some hm
              refine wl_call ((wanted_eq rfl rfl rfl (congrArg Value.bool hc195)).trans rfl) rfl (x_call Try.call69 rfl (vs := [.float .f64 a1]) rfl) ?_
              refine (math_Signbit_ref hst.to0 ht197).mono ?_
              rintro _ w198 ⟨rfl, hst⟩
              refine ⟨_, rfl, ?_⟩
              replace hst := hst.of0
              refine wl_val (v := .bool (!t196)) ((wanted_eq rfl rfl rfl (congrArg Value.bool hc195)).trans rfl) rfl rfl ?_
              refine wl_val (v := .bool (!t196)) rfl rfl (x_pick_t hc195 rfl rfl) ?_
              refine wl_val (v := .bool (!t196)) rfl rfl rfl ?_
              refine wl_nil ?_
              refine then_n ?_
              refine wp_ret ?_
              refine then_r ?_
              replace hm := inr_up hm hx204
              obtain rfl := some_inj hm
              refine post_ret (vs := [.bool (!t196)]) Try.results68 (rvs_cons (rv_tmp rfl) rvs_nil) ?_
              exact ⟨rfl, hst.keep0⟩
            · skip
              replace hm := bif_f hc195 hm
              refine wl_off ((wanted_eq rfl rfl rfl (congrArg Value.bool hc195)).trans rfl) rfl ?_
              refine wl_off ((wanted_eq rfl rfl rfl (congrArg Value.bool hc195)).trans rfl) rfl ?_
              refine wl_off ((wanted_eq rfl rfl rfl (congrArg Value.bool hc195)).trans rfl) rfl ?_
              refine wl_val (v := .bool false) rfl rfl (x_pick_f hc195 rfl rfl) ?_
              refine wl_val (v := .bool false) rfl rfl rfl ?_
              refine wl_nil ?_
              refine then_n ?_
              refine wp_ret ?_
              refine then_r ?_
              replace hm := inr_up hm hx204
              obtain rfl := some_inj hm
              refine post_ret (vs := [.bool false]) Try.results68 (rvs_cons (rv_tmp rfl) rvs_nil) ?_
              exact ⟨rfl, hst.keep0⟩
          · skip
            replace hm := bif_f hc189 hm
            refine wp_iff (congrArg Value.bool hc189) ?_
            refine wp_skip ?_
            refine then_n ?_
            replace hst := hst.keep0
            obtain rfl := some_inj hm
            exact ⟨_, hx204, ((fr_upd (t := 0) (v := .float .f64 a0) rfl).trans ((fr_upd (t := 1) (v := .float .f64 a1) rfl).trans rfl)), hst⟩
        · skip
          replace hm := bif_f hc188 hm
          refine wl_off ((wanted_eq rfl rfl rfl (congrArg Value.bool hc188)).trans rfl) rfl ?_
          refine wl_off ((wanted_eq rfl rfl rfl (congrArg Value.bool hc188)).trans rfl) rfl ?_
          refine wl_val (v := .bool false) rfl rfl (x_pick_f hc188 rfl rfl) ?_
          refine wl_nil ?_
          refine then_n ?_
          refine wp_iff rfl ?_
          refine wp_skip ?_
          refine then_n ?_
          replace hst := hst.keep0
          obtain rfl := some_inj hm
          exact ⟨_, hx204, ((fr_upd (t := 0) (v := .float .f64 a0) rfl).trans ((fr_upd (t := 1) (v := .float .f64 a1) rfl).trans rfl)), hst⟩
      · skip
        clear hst
        rintro _ w205 ⟨σ201, hm, rfl, hst⟩
        dsimp only [ref01_Ahead_j0] at hm
        refine wp_seq ?_
        refine wp_region_lit ?_
        refine wl_val (v := .float .f64 a0) rfl rfl rfl ?_
        refine wl_val (v := .float .f64 a1) rfl rfl rfl ?_
        refine wl_val (v := .bool (fLt a0 a1)) rfl rfl rfl ?_
        refine wl_val (v := .bool (fLt a0 a1)) rfl rfl rfl ?_
        refine wl_nil ?_
        refine then_n ?_
        refine wp_ret ?_
        obtain rfl := some_inj hm
        refine post_ret (vs := [.bool (fLt a0 a1)]) Try.results68 (rvs_cons (rv_tmp rfl) rvs_nil) ?_
        exact ⟨rfl, hst.keep0⟩

theorem ref01_Same_ref {w0 w : World} {I : HL} {R : SP} {a0 : Nat} {a1 : Nat}  (hst : St w0 w I [] R) {r : (Bool)} (hm : ref01_Same a0 a1 = some r) :
    Calls Try.prog 62 #[.float .f64 a0, .float .f64 a1] w fun e w' => e = .returned (.bool r) ∧ St w0 w' I [] R := by
  unfold ref01_Same at hm
  refine calls_start (args := [.float .f64 a0, .float .f64 a1]) Try.func62 rfl Try.ntmps62 (Nat.le_of_ble_eq_true rfl) ?_
  refine wp_seq ?_
  refine wp_region_lit ?_
  refine wl_val (v := .bool false) rfl rfl rfl ?_
  refine wl_nil ?_
  refine then_n ?_
  refine wp_seq ?_
  refine wp_region_lit ?_
  refine wl_val (v := .float .f64 a0) rfl rfl rfl ?_
  refine wl_val (v := .float .f64 a1) rfl rfl rfl ?_
  obtain ⟨t177, ht178, hm⟩ := bind_some hm
  refine wl_call rfl rfl (x_call Try.call68 rfl (vs := [.float .f64 a0, .float .f64 a1]) rfl) ?_
  refine (ref01_Ahead_ref hst.to0 ht178).mono ?_
  rintro _ w179 ⟨rfl, hst⟩
  refine ⟨_, rfl, ?_⟩
  replace hst := hst.of0
  refine wl_val (v := .bool (!t177)) rfl rfl rfl ?_
  refine wl_val (v := .bool (!t177)) rfl rfl rfl ?_
  refine bsplit (!t177) (fun hc182 => ?_) (fun hc182 => ?_)
  · skip
    replace hm := bif_t hc182 hm
    refine wl_val (v := .float .f64 a1) ((wanted_eq rfl rfl rfl (congrArg Value.bool hc182)).trans rfl) rfl rfl ?_
    refine wl_val (v := .float .f64 a0) ((wanted_eq rfl rfl rfl (congrArg Value.bool hc182)).trans rfl) rfl rfl ?_
    obtain ⟨t183, ht184, hm⟩ := bind_some hm
    refine wl_call ((wanted_eq rfl rfl rfl (congrArg Value.bool hc182)).trans rfl) rfl (x_call Try.call68 rfl (vs := [.float .f64 a1, .float .f64 a0]) rfl) ?_
    refine (ref01_Ahead_ref hst.to0 ht184).mono ?_
    rintro _ w185 ⟨rfl, hst⟩
    refine ⟨_, rfl, ?_⟩
    replace hst := hst.of0
    refine wl_val (v := .bool (!t183)) ((wanted_eq rfl rfl rfl (congrArg Value.bool hc182)).trans rfl) rfl rfl ?_
    refine wl_val (v := .bool (!t183)) rfl rfl (x_pick_t hc182 rfl rfl) ?_
    refine wl_val (v := .bool (!t183)) rfl rfl rfl ?_
    refine wl_nil ?_
    refine then_n ?_
    refine wp_ret ?_
    obtain rfl := some_inj hm
    refine post_ret (vs := [.bool (!t183)]) Try.results62 (rvs_cons (rv_tmp rfl) rvs_nil) ?_
    exact ⟨rfl, hst.keep0⟩
  · skip
    replace hm := bif_f hc182 hm
    refine wl_off ((wanted_eq rfl rfl rfl (congrArg Value.bool hc182)).trans rfl) rfl ?_
    refine wl_off ((wanted_eq rfl rfl rfl (congrArg Value.bool hc182)).trans rfl) rfl ?_
    refine wl_off ((wanted_eq rfl rfl rfl (congrArg Value.bool hc182)).trans rfl) rfl ?_
    refine wl_off ((wanted_eq rfl rfl rfl (congrArg Value.bool hc182)).trans rfl) rfl ?_
    refine wl_val (v := .bool false) rfl rfl (x_pick_f hc182 rfl rfl) ?_
    refine wl_val (v := .bool false) rfl rfl rfl ?_
    refine wl_nil ?_
    refine then_n ?_
    refine wp_ret ?_
    obtain rfl := some_inj hm
    refine post_ret (vs := [.bool false]) Try.results62 (rvs_cons (rv_tmp rfl) rvs_nil) ?_
    exact ⟨rfl, hst.keep0⟩

theorem ref11_SameHold_ref {w0 w : World} {I : HL} {R : SP} {a0 : api_Hold} {r0_0 : Value} {r0_1 : Value} {r0_2 : Value} {r0_3 : Value} {a1 : api_Hold} {r1_0 : Value} {r1_1 : Value} {r1_2 : Value} {r1_3 : Value} (f0_0 : Rd tyF64 R I r0_0 a0.Gets) (f0_1 : Rd tyF2 R I r0_1 a0.Scans) (f0_2 : Rd tyF64 R I r0_2 a0.Puts) (f0_3 : Rd (tyInt .u8) R I r0_3 a0.Data) (f1_0 : Rd tyF64 R I r1_0 a1.Gets) (f1_1 : Rd tyF2 R I r1_1 a1.Scans) (f1_2 : Rd tyF64 R I r1_2 a1.Puts) (f1_3 : Rd (tyInt .u8) R I r1_3 a1.Data) (hst : St w0 w I [] R) {r : (Bool)} (hm : ref11_SameHold a0 a1 = some r) :
    Calls Try.prog 33 #[.agg #[.int .u64 a0.ID.Session, .int .u64 a0.ID.Seq, .int .u64 a0.Epoch, r0_0, r0_1, r0_2, r0_3], .agg #[.int .u64 a1.ID.Session, .int .u64 a1.ID.Seq, .int .u64 a1.Epoch, r1_0, r1_1, r1_2, r1_3]] w fun e w' => e = .returned (.bool r) ∧ St w0 w' I [] R := by
  unfold ref11_SameHold at hm
  refine calls_start (args := [.agg #[.int .u64 a0.ID.Session, .int .u64 a0.ID.Seq, .int .u64 a0.Epoch, r0_0, r0_1, r0_2, r0_3], .agg #[.int .u64 a1.ID.Session, .int .u64 a1.ID.Seq, .int .u64 a1.Epoch, r1_0, r1_1, r1_2, r1_3]]) Try.func33 rfl Try.ntmps33 (Nat.le_of_ble_eq_true rfl) ?_
  refine wp_seq ?_
  refine wp_region_lit ?_
  obtain ⟨b384, w385, ew386, eb387, hst⟩ := hst.box [.int .u64 a0.ID.Session, .int .u64 a0.ID.Seq, .int .u64 a0.Epoch, r0_0, r0_1, r0_2, r0_3] 34
  refine wl_run (v := .pointer (some ⟨b384, 0, none⟩)) (w' := w385) rfl rfl (x_al (by kernel_rfl) ew386 eb387) ?_
  obtain ⟨b389, w390, ew391, eb392, hst⟩ := hst.box [.int .u64 a1.ID.Session, .int .u64 a1.ID.Seq, .int .u64 a1.Epoch, r1_0, r1_1, r1_2, r1_3] 34
  refine wl_run (v := .pointer (some ⟨b389, 0, none⟩)) (w' := w390) rfl rfl (x_al (by kernel_rfl) ew391 eb392) ?_
  refine wl_val (v := .bool false) rfl rfl rfl ?_
  refine wl_nil ?_
  refine then_n ?_
  refine wp_seq ?_
  refine wp_seq ?_
  refine wp_region_lit ?_
  refine wl_val (v := .pointer (some ⟨b384, 0, none⟩)) rfl rfl (x_field rfl Try.underlying34 rfl Try.sizeOf29 rfl) ?_
  refine wl_val (v := .agg #[.int .u64 a0.ID.Session, .int .u64 a0.ID.Seq]) rfl rfl (x_loadN (cs := [.int .u64 a0.ID.Session, .int .u64 a0.ID.Seq]) rfl Try.isAgg29 Try.sizeOf29 (hst.bcs1 0 rfl)) ?_
  refine wl_val (v := .pointer (some ⟨b389, 0, none⟩)) rfl rfl (x_field rfl Try.underlying34 rfl Try.sizeOf29 rfl) ?_
  refine wl_val (v := .agg #[.int .u64 a1.ID.Session, .int .u64 a1.ID.Seq]) rfl rfl (x_loadN (cs := [.int .u64 a1.ID.Session, .int .u64 a1.ID.Seq]) rfl Try.isAgg29 Try.sizeOf29 (hst.bcs0 0 rfl)) ?_
  refine wl_val (v := .bool (!((a0.ID.Session == a1.ID.Session) && (a0.ID.Seq == a1.ID.Seq)))) rfl rfl (x_aggne2 rfl rfl (by kernel_rfl) Try.underlying29 (by kernel_rfl) (by kernel_rfl) (by kernel_rfl) Try.underlying27 Try.underlying27 (fun _ _ _ => by kernel_rfl) (fun _ _ _ => by kernel_rfl)) ?_
  refine wl_val (v := .bool (!((a0.ID.Session == a1.ID.Session) && (a0.ID.Seq == a1.ID.Seq)))) rfl rfl rfl ?_
  refine bsplit (!((a0.ID.Session == a1.ID.Session) && (a0.ID.Seq == a1.ID.Seq))) (fun hc394 => ?_) (fun hc394 => ?_)
  · skip
    replace hm := bif_t hc394 hm
    refine wl_off ((wanted_eq rfl rfl rfl (congrArg Value.bool hc394)).trans rfl) rfl ?_
    refine wl_off ((wanted_eq rfl rfl rfl (congrArg Value.bool hc394)).trans rfl) rfl ?_
    refine wl_off ((wanted_eq rfl rfl rfl (congrArg Value.bool hc394)).trans rfl) rfl ?_
    refine wl_off ((wanted_eq rfl rfl rfl (congrArg Value.bool hc394)).trans rfl) rfl ?_
    refine wl_off ((wanted_eq rfl rfl rfl (congrArg Value.bool hc394)).trans rfl) rfl ?_
    refine wl_val (v := .bool true) rfl rfl (x_pick_t hc394 rfl rfl) ?_
    refine wl_val (v := .bool true) rfl rfl rfl ?_
    refine wl_off ((wanted_eq rfl rfl rfl rfl).trans rfl) rfl ?_
    refine wl_off ((wanted_eq rfl rfl rfl rfl).trans rfl) rfl ?_
    refine wl_off ((wanted_eq rfl rfl rfl rfl).trans rfl) rfl ?_
    refine wl_off ((wanted_eq rfl rfl rfl rfl).trans rfl) rfl ?_
    refine wl_off ((wanted_eq rfl rfl rfl rfl).trans rfl) rfl ?_
    refine wl_off ((wanted_eq rfl rfl rfl rfl).trans rfl) rfl ?_
    refine wl_off ((wanted_eq rfl rfl rfl rfl).trans rfl) rfl ?_
    refine wl_val (v := .bool true) rfl rfl (x_pick_t rfl rfl rfl) ?_
    refine wl_val (v := .bool true) rfl rfl rfl ?_
    refine wl_off ((wanted_eq rfl rfl rfl rfl).trans rfl) rfl ?_
    refine wl_off ((wanted_eq rfl rfl rfl rfl).trans rfl) rfl ?_
    refine wl_off ((wanted_eq rfl rfl rfl rfl).trans rfl) rfl ?_
    refine wl_off ((wanted_eq rfl rfl rfl rfl).trans rfl) rfl ?_
    refine wl_off ((wanted_eq rfl rfl rfl rfl).trans rfl) rfl ?_
    refine wl_off ((wanted_eq rfl rfl rfl rfl).trans rfl) rfl ?_
    refine wl_off ((wanted_eq rfl rfl rfl rfl).trans rfl) rfl ?_
    refine wl_val (v := .bool true) rfl rfl (x_pick_t rfl rfl rfl) ?_
    refine wl_val (v := .bool true) rfl rfl rfl ?_
    refine wl_off ((wanted_eq rfl rfl rfl rfl).trans rfl) rfl ?_
    refine wl_off ((wanted_eq rfl rfl rfl rfl).trans rfl) rfl ?_
    refine wl_off ((wanted_eq rfl rfl rfl rfl).trans rfl) rfl ?_
    refine wl_off ((wanted_eq rfl rfl rfl rfl).trans rfl) rfl ?_
    refine wl_off ((wanted_eq rfl rfl rfl rfl).trans rfl) rfl ?_
    refine wl_off ((wanted_eq rfl rfl rfl rfl).trans rfl) rfl ?_
    refine wl_off ((wanted_eq rfl rfl rfl rfl).trans rfl) rfl ?_
    refine wl_val (v := .bool true) rfl rfl (x_pick_t rfl rfl rfl) ?_
    refine wl_val (v := .bool true) rfl rfl rfl ?_
    refine wl_off ((wanted_eq rfl rfl rfl rfl).trans rfl) rfl ?_
    refine wl_off ((wanted_eq rfl rfl rfl rfl).trans rfl) rfl ?_
    refine wl_off ((wanted_eq rfl rfl rfl rfl).trans rfl) rfl ?_
    refine wl_off ((wanted_eq rfl rfl rfl rfl).trans rfl) rfl ?_
    refine wl_off ((wanted_eq rfl rfl rfl rfl).trans rfl) rfl ?_
    refine wl_off ((wanted_eq rfl rfl rfl rfl).trans rfl) rfl ?_
    refine wl_off ((wanted_eq rfl rfl rfl rfl).trans rfl) rfl ?_
    refine wl_val (v := .bool true) rfl rfl (x_pick_t rfl rfl rfl) ?_
    refine wl_nil ?_
    refine then_n ?_
    refine wp_ift rfl ?_
    refine wp_seq ?_
    refine wp_region_lit ?_
    refine wl_val (v := .bool false) rfl rfl rfl ?_
    refine wl_nil ?_
    refine then_n ?_
    refine wp_ret ?_
    refine then_r ?_
    obtain rfl := some_inj hm
    refine post_ret (vs := [.bool false]) Try.results33 (rvs_cons (rv_tmp rfl) rvs_nil) ?_
    exact ⟨rfl, hst.keep0⟩
  · skip
    replace hm := bif_f hc394 hm
    refine wl_val (v := .pointer (some ⟨b384, 2, none⟩)) ((wanted_eq rfl rfl rfl (congrArg Value.bool hc394)).trans rfl) rfl (x_field rfl Try.underlying34 rfl Try.sizeOf27 rfl) ?_
    refine wl_val (v := .int .u64 a0.Epoch) ((wanted_eq rfl rfl rfl (congrArg Value.bool hc394)).trans rfl) rfl (x_load rfl Try.isAgg27 (hst.bc1 rfl)) ?_
    refine wl_val (v := .pointer (some ⟨b389, 2, none⟩)) ((wanted_eq rfl rfl rfl (congrArg Value.bool hc394)).trans rfl) rfl (x_field rfl Try.underlying34 rfl Try.sizeOf27 rfl) ?_
    refine wl_val (v := .int .u64 a1.Epoch) ((wanted_eq rfl rfl rfl (congrArg Value.bool hc394)).trans rfl) rfl (x_load rfl Try.isAgg27 (hst.bc0 rfl)) ?_
    refine wl_val (v := .bool (a0.Epoch != a1.Epoch)) ((wanted_eq rfl rfl rfl (congrArg Value.bool hc394)).trans rfl) rfl rfl ?_
    refine wl_val (v := .bool (a0.Epoch != a1.Epoch)) rfl rfl (x_pick_f hc394 rfl rfl) ?_
    refine wl_val (v := .bool (a0.Epoch != a1.Epoch)) rfl rfl rfl ?_
    refine bsplit (a0.Epoch != a1.Epoch) (fun hc395 => ?_) (fun hc395 => ?_)
    · skip
      replace hm := bif_t hc395 hm
      refine wl_off ((wanted_eq rfl rfl rfl (congrArg Value.bool hc395)).trans rfl) rfl ?_
      refine wl_off ((wanted_eq rfl rfl rfl (congrArg Value.bool hc395)).trans rfl) rfl ?_
      refine wl_off ((wanted_eq rfl rfl rfl (congrArg Value.bool hc395)).trans rfl) rfl ?_
      refine wl_off ((wanted_eq rfl rfl rfl (congrArg Value.bool hc395)).trans rfl) rfl ?_
      refine wl_off ((wanted_eq rfl rfl rfl (congrArg Value.bool hc395)).trans rfl) rfl ?_
      refine wl_off ((wanted_eq rfl rfl rfl (congrArg Value.bool hc395)).trans rfl) rfl ?_
      refine wl_off ((wanted_eq rfl rfl rfl (congrArg Value.bool hc395)).trans rfl) rfl ?_
      refine wl_val (v := .bool true) rfl rfl (x_pick_t hc395 rfl rfl) ?_
      refine wl_val (v := .bool true) rfl rfl rfl ?_
      refine wl_off ((wanted_eq rfl rfl rfl rfl).trans rfl) rfl ?_
      refine wl_off ((wanted_eq rfl rfl rfl rfl).trans rfl) rfl ?_
      refine wl_off ((wanted_eq rfl rfl rfl rfl).trans rfl) rfl ?_
      refine wl_off ((wanted_eq rfl rfl rfl rfl).trans rfl) rfl ?_
      refine wl_off ((wanted_eq rfl rfl rfl rfl).trans rfl) rfl ?_
      refine wl_off ((wanted_eq rfl rfl rfl rfl).trans rfl) rfl ?_
      refine wl_off ((wanted_eq rfl rfl rfl rfl).trans rfl) rfl ?_
      refine wl_val (v := .bool true) rfl rfl (x_pick_t rfl rfl rfl) ?_
      refine wl_val (v := .bool true) rfl rfl rfl ?_
      refine wl_off ((wanted_eq rfl rfl rfl rfl).trans rfl) rfl ?_
      refine wl_off ((wanted_eq rfl rfl rfl rfl).trans rfl) rfl ?_
      refine wl_off ((wanted_eq rfl rfl rfl rfl).trans rfl) rfl ?_
      refine wl_off ((wanted_eq rfl rfl rfl rfl).trans rfl) rfl ?_
      refine wl_off ((wanted_eq rfl rfl rfl rfl).trans rfl) rfl ?_
      refine wl_off ((wanted_eq rfl rfl rfl rfl).trans rfl) rfl ?_
      refine wl_off ((wanted_eq rfl rfl rfl rfl).trans rfl) rfl ?_
      refine wl_val (v := .bool true) rfl rfl (x_pick_t rfl rfl rfl) ?_
      refine wl_val (v := .bool true) rfl rfl rfl ?_
      refine wl_off ((wanted_eq rfl rfl rfl rfl).trans rfl) rfl ?_
      refine wl_off ((wanted_eq rfl rfl rfl rfl).trans rfl) rfl ?_
      refine wl_off ((wanted_eq rfl rfl rfl rfl).trans rfl) rfl ?_
      refine wl_off ((wanted_eq rfl rfl rfl rfl).trans rfl) rfl ?_
      refine wl_off ((wanted_eq rfl rfl rfl rfl).trans rfl) rfl ?_
      refine wl_off ((wanted_eq rfl rfl rfl rfl).trans rfl) rfl ?_
      refine wl_off ((wanted_eq rfl rfl rfl rfl).trans rfl) rfl ?_
      refine wl_val (v := .bool true) rfl rfl (x_pick_t rfl rfl rfl) ?_
      refine wl_nil ?_
      refine then_n ?_
      refine wp_ift rfl ?_
      refine wp_seq ?_
      refine wp_region_lit ?_
      refine wl_val (v := .bool false) rfl rfl rfl ?_
      refine wl_nil ?_
      refine then_n ?_
      refine wp_ret ?_
      refine then_r ?_
      obtain rfl := some_inj hm
      refine post_ret (vs := [.bool false]) Try.results33 (rvs_cons (rv_tmp rfl) rvs_nil) ?_
      exact ⟨rfl, hst.keep0⟩
    · skip
      replace hm := bif_f hc395 hm
      refine wl_val (v := .pointer (some ⟨b384, 3, none⟩)) ((wanted_eq rfl rfl rfl (congrArg Value.bool hc395)).trans rfl) rfl (x_field rfl Try.underlying34 rfl Try.sizeOf31 rfl) ?_
      refine wl_val (v := r0_0) ((wanted_eq rfl rfl rfl (congrArg Value.bool hc395)).trans rfl) rfl (x_load rfl Try.isAgg31 (hst.bc1 rfl)) ?_
      refine wl_val (v := .int .i64 ((a0.Gets).length : Int)) ((wanted_eq rfl rfl rfl (congrArg Value.bool hc395)).trans rfl) rfl (x_len rfl Try.underlying31 (rd_sliceV f0_0)) ?_
      refine wl_val (v := .pointer (some ⟨b389, 3, none⟩)) ((wanted_eq rfl rfl rfl (congrArg Value.bool hc395)).trans rfl) rfl (x_field rfl Try.underlying34 rfl Try.sizeOf31 rfl) ?_
      refine wl_val (v := r1_0) ((wanted_eq rfl rfl rfl (congrArg Value.bool hc395)).trans rfl) rfl (x_load rfl Try.isAgg31 (hst.bc0 rfl)) ?_
      refine wl_val (v := .int .i64 ((a1.Gets).length : Int)) ((wanted_eq rfl rfl rfl (congrArg Value.bool hc395)).trans rfl) rfl (x_len rfl Try.underlying31 (rd_sliceV f1_0)) ?_
      refine wl_val (v := .bool (((a0.Gets).length : Int) != ((a1.Gets).length : Int))) ((wanted_eq rfl rfl rfl (congrArg Value.bool hc395)).trans rfl) rfl rfl ?_
      refine wl_val (v := .bool (((a0.Gets).length : Int) != ((a1.Gets).length : Int))) rfl rfl (x_pick_f hc395 rfl rfl) ?_
      refine wl_val (v := .bool (((a0.Gets).length : Int) != ((a1.Gets).length : Int))) rfl rfl rfl ?_
      refine bsplit (((a0.Gets).length : Int) != ((a1.Gets).length : Int)) (fun hc396 => ?_) (fun hc396 => ?_)
      · skip
        replace hm := bif_t hc396 hm
        refine wl_off ((wanted_eq rfl rfl rfl (congrArg Value.bool hc396)).trans rfl) rfl ?_
        refine wl_off ((wanted_eq rfl rfl rfl (congrArg Value.bool hc396)).trans rfl) rfl ?_
        refine wl_off ((wanted_eq rfl rfl rfl (congrArg Value.bool hc396)).trans rfl) rfl ?_
        refine wl_off ((wanted_eq rfl rfl rfl (congrArg Value.bool hc396)).trans rfl) rfl ?_
        refine wl_off ((wanted_eq rfl rfl rfl (congrArg Value.bool hc396)).trans rfl) rfl ?_
        refine wl_off ((wanted_eq rfl rfl rfl (congrArg Value.bool hc396)).trans rfl) rfl ?_
        refine wl_off ((wanted_eq rfl rfl rfl (congrArg Value.bool hc396)).trans rfl) rfl ?_
        refine wl_val (v := .bool true) rfl rfl (x_pick_t hc396 rfl rfl) ?_
        refine wl_val (v := .bool true) rfl rfl rfl ?_
        refine wl_off ((wanted_eq rfl rfl rfl rfl).trans rfl) rfl ?_
        refine wl_off ((wanted_eq rfl rfl rfl rfl).trans rfl) rfl ?_
        refine wl_off ((wanted_eq rfl rfl rfl rfl).trans rfl) rfl ?_
        refine wl_off ((wanted_eq rfl rfl rfl rfl).trans rfl) rfl ?_
        refine wl_off ((wanted_eq rfl rfl rfl rfl).trans rfl) rfl ?_
        refine wl_off ((wanted_eq rfl rfl rfl rfl).trans rfl) rfl ?_
        refine wl_off ((wanted_eq rfl rfl rfl rfl).trans rfl) rfl ?_
        refine wl_val (v := .bool true) rfl rfl (x_pick_t rfl rfl rfl) ?_
        refine wl_val (v := .bool true) rfl rfl rfl ?_
        refine wl_off ((wanted_eq rfl rfl rfl rfl).trans rfl) rfl ?_
        refine wl_off ((wanted_eq rfl rfl rfl rfl).trans rfl) rfl ?_
        refine wl_off ((wanted_eq rfl rfl rfl rfl).trans rfl) rfl ?_
        refine wl_off ((wanted_eq rfl rfl rfl rfl).trans rfl) rfl ?_
        refine wl_off ((wanted_eq rfl rfl rfl rfl).trans rfl) rfl ?_
        refine wl_off ((wanted_eq rfl rfl rfl rfl).trans rfl) rfl ?_
        refine wl_off ((wanted_eq rfl rfl rfl rfl).trans rfl) rfl ?_
        refine wl_val (v := .bool true) rfl rfl (x_pick_t rfl rfl rfl) ?_
        refine wl_nil ?_
        refine then_n ?_
        refine wp_ift rfl ?_
        refine wp_seq ?_
        refine wp_region_lit ?_
        refine wl_val (v := .bool false) rfl rfl rfl ?_
        refine wl_nil ?_
        refine then_n ?_
        refine wp_ret ?_
        refine then_r ?_
        obtain rfl := some_inj hm
        refine post_ret (vs := [.bool false]) Try.results33 (rvs_cons (rv_tmp rfl) rvs_nil) ?_
        exact ⟨rfl, hst.keep0⟩
      · skip
        replace hm := bif_f hc396 hm
        refine wl_val (v := .pointer (some ⟨b384, 4, none⟩)) ((wanted_eq rfl rfl rfl (congrArg Value.bool hc396)).trans rfl) rfl (x_field rfl Try.underlying34 rfl Try.sizeOf32 rfl) ?_
        refine wl_val (v := r0_1) ((wanted_eq rfl rfl rfl (congrArg Value.bool hc396)).trans rfl) rfl (x_load rfl Try.isAgg32 (hst.bc1 rfl)) ?_
        refine wl_val (v := .int .i64 ((a0.Scans).length : Int)) ((wanted_eq rfl rfl rfl (congrArg Value.bool hc396)).trans rfl) rfl (x_len rfl Try.underlying32 (rd_sliceV f0_1)) ?_
        refine wl_val (v := .pointer (some ⟨b389, 4, none⟩)) ((wanted_eq rfl rfl rfl (congrArg Value.bool hc396)).trans rfl) rfl (x_field rfl Try.underlying34 rfl Try.sizeOf32 rfl) ?_
        refine wl_val (v := r1_1) ((wanted_eq rfl rfl rfl (congrArg Value.bool hc396)).trans rfl) rfl (x_load rfl Try.isAgg32 (hst.bc0 rfl)) ?_
        refine wl_val (v := .int .i64 ((a1.Scans).length : Int)) ((wanted_eq rfl rfl rfl (congrArg Value.bool hc396)).trans rfl) rfl (x_len rfl Try.underlying32 (rd_sliceV f1_1)) ?_
        refine wl_val (v := .bool (((a0.Scans).length : Int) != ((a1.Scans).length : Int))) ((wanted_eq rfl rfl rfl (congrArg Value.bool hc396)).trans rfl) rfl rfl ?_
        refine wl_val (v := .bool (((a0.Scans).length : Int) != ((a1.Scans).length : Int))) rfl rfl (x_pick_f hc396 rfl rfl) ?_
        refine wl_val (v := .bool (((a0.Scans).length : Int) != ((a1.Scans).length : Int))) rfl rfl rfl ?_
        refine bsplit (((a0.Scans).length : Int) != ((a1.Scans).length : Int)) (fun hc397 => ?_) (fun hc397 => ?_)
        · skip
          replace hm := bif_t hc397 hm
          refine wl_off ((wanted_eq rfl rfl rfl (congrArg Value.bool hc397)).trans rfl) rfl ?_
          refine wl_off ((wanted_eq rfl rfl rfl (congrArg Value.bool hc397)).trans rfl) rfl ?_
          refine wl_off ((wanted_eq rfl rfl rfl (congrArg Value.bool hc397)).trans rfl) rfl ?_
          refine wl_off ((wanted_eq rfl rfl rfl (congrArg Value.bool hc397)).trans rfl) rfl ?_
          refine wl_off ((wanted_eq rfl rfl rfl (congrArg Value.bool hc397)).trans rfl) rfl ?_
          refine wl_off ((wanted_eq rfl rfl rfl (congrArg Value.bool hc397)).trans rfl) rfl ?_
          refine wl_off ((wanted_eq rfl rfl rfl (congrArg Value.bool hc397)).trans rfl) rfl ?_
          refine wl_val (v := .bool true) rfl rfl (x_pick_t hc397 rfl rfl) ?_
          refine wl_val (v := .bool true) rfl rfl rfl ?_
          refine wl_off ((wanted_eq rfl rfl rfl rfl).trans rfl) rfl ?_
          refine wl_off ((wanted_eq rfl rfl rfl rfl).trans rfl) rfl ?_
          refine wl_off ((wanted_eq rfl rfl rfl rfl).trans rfl) rfl ?_
          refine wl_off ((wanted_eq rfl rfl rfl rfl).trans rfl) rfl ?_
          refine wl_off ((wanted_eq rfl rfl rfl rfl).trans rfl) rfl ?_
          refine wl_off ((wanted_eq rfl rfl rfl rfl).trans rfl) rfl ?_
          refine wl_off ((wanted_eq rfl rfl rfl rfl).trans rfl) rfl ?_
          refine wl_val (v := .bool true) rfl rfl (x_pick_t rfl rfl rfl) ?_
          refine wl_nil ?_
          refine then_n ?_
          refine wp_ift rfl ?_
          refine wp_seq ?_
          refine wp_region_lit ?_
          refine wl_val (v := .bool false) rfl rfl rfl ?_
          refine wl_nil ?_
          refine then_n ?_
          refine wp_ret ?_
          refine then_r ?_
          obtain rfl := some_inj hm
          refine post_ret (vs := [.bool false]) Try.results33 (rvs_cons (rv_tmp rfl) rvs_nil) ?_
          exact ⟨rfl, hst.keep0⟩
        · skip
          replace hm := bif_f hc397 hm
          refine wl_val (v := .pointer (some ⟨b384, 5, none⟩)) ((wanted_eq rfl rfl rfl (congrArg Value.bool hc397)).trans rfl) rfl (x_field rfl Try.underlying34 rfl Try.sizeOf31 rfl) ?_
          refine wl_val (v := r0_2) ((wanted_eq rfl rfl rfl (congrArg Value.bool hc397)).trans rfl) rfl (x_load rfl Try.isAgg31 (hst.bc1 rfl)) ?_
          refine wl_val (v := .int .i64 ((a0.Puts).length : Int)) ((wanted_eq rfl rfl rfl (congrArg Value.bool hc397)).trans rfl) rfl (x_len rfl Try.underlying31 (rd_sliceV f0_2)) ?_
          refine wl_val (v := .pointer (some ⟨b389, 5, none⟩)) ((wanted_eq rfl rfl rfl (congrArg Value.bool hc397)).trans rfl) rfl (x_field rfl Try.underlying34 rfl Try.sizeOf31 rfl) ?_
          refine wl_val (v := r1_2) ((wanted_eq rfl rfl rfl (congrArg Value.bool hc397)).trans rfl) rfl (x_load rfl Try.isAgg31 (hst.bc0 rfl)) ?_
          refine wl_val (v := .int .i64 ((a1.Puts).length : Int)) ((wanted_eq rfl rfl rfl (congrArg Value.bool hc397)).trans rfl) rfl (x_len rfl Try.underlying31 (rd_sliceV f1_2)) ?_
          refine wl_val (v := .bool (((a0.Puts).length : Int) != ((a1.Puts).length : Int))) ((wanted_eq rfl rfl rfl (congrArg Value.bool hc397)).trans rfl) rfl rfl ?_
          refine wl_val (v := .bool (((a0.Puts).length : Int) != ((a1.Puts).length : Int))) rfl rfl (x_pick_f hc397 rfl rfl) ?_
          refine wl_val (v := .bool (((a0.Puts).length : Int) != ((a1.Puts).length : Int))) rfl rfl rfl ?_
          refine bsplit (((a0.Puts).length : Int) != ((a1.Puts).length : Int)) (fun hc398 => ?_) (fun hc398 => ?_)
          · skip
            replace hm := bif_t hc398 hm
            refine wl_off ((wanted_eq rfl rfl rfl (congrArg Value.bool hc398)).trans rfl) rfl ?_
            refine wl_off ((wanted_eq rfl rfl rfl (congrArg Value.bool hc398)).trans rfl) rfl ?_
            refine wl_off ((wanted_eq rfl rfl rfl (congrArg Value.bool hc398)).trans rfl) rfl ?_
            refine wl_off ((wanted_eq rfl rfl rfl (congrArg Value.bool hc398)).trans rfl) rfl ?_
            refine wl_off ((wanted_eq rfl rfl rfl (congrArg Value.bool hc398)).trans rfl) rfl ?_
            refine wl_off ((wanted_eq rfl rfl rfl (congrArg Value.bool hc398)).trans rfl) rfl ?_
            refine wl_off ((wanted_eq rfl rfl rfl (congrArg Value.bool hc398)).trans rfl) rfl ?_
            refine wl_val (v := .bool true) rfl rfl (x_pick_t hc398 rfl rfl) ?_
            refine wl_nil ?_
            refine then_n ?_
            refine wp_ift rfl ?_
            refine wp_seq ?_
            refine wp_region_lit ?_
            refine wl_val (v := .bool false) rfl rfl rfl ?_
            refine wl_nil ?_
            refine then_n ?_
            refine wp_ret ?_
            refine then_r ?_
            obtain rfl := some_inj hm
            refine post_ret (vs := [.bool false]) Try.results33 (rvs_cons (rv_tmp rfl) rvs_nil) ?_
            exact ⟨rfl, hst.keep0⟩
          · skip
            replace hm := bif_f hc398 hm
            refine wl_val (v := .pointer (some ⟨b384, 6, none⟩)) ((wanted_eq rfl rfl rfl (congrArg Value.bool hc398)).trans rfl) rfl (x_field rfl Try.underlying34 rfl Try.sizeOf22 rfl) ?_
            refine wl_val (v := r0_3) ((wanted_eq rfl rfl rfl (congrArg Value.bool hc398)).trans rfl) rfl (x_load rfl Try.isAgg22 (hst.bc1 rfl)) ?_
            refine wl_val (v := .string (toStr a0.Data)) ((wanted_eq rfl rfl rfl (congrArg Value.bool hc398)).trans rfl) rfl (x_tostr Try.underlying22 Try.underlying9 Try.underlying5 rfl (Src.of_rd hst f0_3 flat_int)) ?_
            refine wl_val (v := .pointer (some ⟨b389, 6, none⟩)) ((wanted_eq rfl rfl rfl (congrArg Value.bool hc398)).trans rfl) rfl (x_field rfl Try.underlying34 rfl Try.sizeOf22 rfl) ?_
            refine wl_val (v := r1_3) ((wanted_eq rfl rfl rfl (congrArg Value.bool hc398)).trans rfl) rfl (x_load rfl Try.isAgg22 (hst.bc0 rfl)) ?_
            refine wl_val (v := .string (toStr a1.Data)) ((wanted_eq rfl rfl rfl (congrArg Value.bool hc398)).trans rfl) rfl (x_tostr Try.underlying22 Try.underlying9 Try.underlying5 rfl (Src.of_rd hst f1_3 flat_int)) ?_
            refine wl_val (v := .bool (!(sEq (toStr a0.Data) (toStr a1.Data)))) ((wanted_eq rfl rfl rfl (congrArg Value.bool hc398)).trans rfl) rfl (by kernel_rfl) ?_
            refine wl_val (v := .bool (!(sEq (toStr a0.Data) (toStr a1.Data)))) rfl rfl (x_pick_f hc398 rfl rfl) ?_
            refine wl_nil ?_
            refine then_n ?_
            refine bsplit (!(sEq (toStr a0.Data) (toStr a1.Data))) (fun hc399 => ?_) (fun hc399 => ?_)
            · skip
              replace hm := bif_t hc399 hm
              refine wp_ift (congrArg Value.bool hc399) ?_
              refine wp_seq ?_
              refine wp_region_lit ?_
              refine wl_val (v := .bool false) rfl rfl rfl ?_
              refine wl_nil ?_
              refine then_n ?_
              refine wp_ret ?_
              refine then_r ?_
              obtain rfl := some_inj hm
              refine post_ret (vs := [.bool false]) Try.results33 (rvs_cons (rv_tmp rfl) rvs_nil) ?_
              exact ⟨rfl, hst.keep0⟩
            · skip
              replace hm := bif_f hc399 hm
              refine wp_iff (congrArg Value.bool hc399) ?_
              refine wp_skip ?_
              refine then_n ?_
              obtain ⟨y463, hm, hx464⟩ := joinO_some hm
              refine wp_cut (fun a w => ∃ (σ461 : Nat → Value), (ref11_SameHold_j0 a0 a1) () = some r ∧ a = Fr 131 (upd (upd σ461 2 (.pointer (some ⟨b384, 0, none⟩))) 3 (.pointer (some ⟨b389, 0, none⟩))) ∧ St w0 w I [cells b384 [.int .u64 a0.ID.Session, .int .u64 a0.ID.Seq, .int .u64 a0.Epoch, r0_0, r0_1, r0_2, r0_3], cells b389 [.int .u64 a1.ID.Session, .int .u64 a1.ID.Seq, .int .u64 a1.Epoch, r1_0, r1_1, r1_2, r1_3]] R) ?_ ?_
              · skip
                refine wp_seq ?_
                refine wp_region_lit ?_
                refine wl_val (v := .int .i64 (0:Int)) rfl rfl rfl ?_
                refine wl_nil ?_
                refine then_n ?_
                refine wp_block ?_
                obtain ⟨n437, hm⟩ := loopO_some hm
                refine wp_loop_n (fun n a w => ∃ (z435 : Int) (σ436 : Nat → Value), loopN (ref11_SameHold_l1 a0 a1) n z435 = some y463 ∧ a = Fr 131 (upd (upd (upd σ436 2 (.pointer (some ⟨b384, 0, none⟩))) 3 (.pointer (some ⟨b389, 0, none⟩))) 5 (.int .i64 z435)) ∧ St w0 w I [cells b389 [.int .u64 a1.ID.Session, .int .u64 a1.ID.Seq, .int .u64 a1.Epoch, r1_0, r1_1, r1_2, r1_3], cells b384 [.int .u64 a0.ID.Session, .int .u64 a0.ID.Seq, .int .u64 a0.Epoch, r0_0, r0_1, r0_2, r0_3]] R) n437 ⟨(0:Int), _, hm, ((fr_upd (t := 2) (v := .pointer (some ⟨b384, 0, none⟩)) rfl).trans ((fr_upd (t := 3) (v := .pointer (some ⟨b389, 0, none⟩)) rfl).trans ((fr_upd (t := 5) (v := .int .i64 (0:Int)) rfl).trans rfl))), hst⟩ ?_
                rintro n443 _ w438 ⟨z435, σ436, hm, rfl, hst⟩
                obtain ⟨n440, y441, rfl, hm, hx442⟩ := loopN_some hm
                dsimp only [ref11_SameHold_l1] at hm
                refine wp_seq ?_
                refine wp_seq ?_
                refine wp_region_lit ?_
                refine wl_val (v := .int .i64 z435) rfl rfl rfl ?_
                refine wl_val (v := .pointer (some ⟨b384, 3, none⟩)) rfl rfl (x_field rfl Try.underlying34 rfl Try.sizeOf31 rfl) ?_
                refine wl_val (v := r0_0) rfl rfl (x_load rfl Try.isAgg31 (hst.bc1 rfl)) ?_
                refine wl_val (v := .int .i64 ((a0.Gets).length : Int)) rfl rfl (x_len rfl Try.underlying31 (rd_sliceV f0_0)) ?_
                refine wl_val (v := .bool (decide (z435 < ((a0.Gets).length : Int)))) rfl rfl rfl ?_
                refine wl_nil ?_
                refine then_n ?_
                refine bsplit (decide (z435 < ((a0.Gets).length : Int))) (fun hc444 => ?_) (fun hc444 => ?_)
                · skip
                  replace hm := bif_t hc444 hm
                  refine wp_ift (congrArg Value.bool hc444) ?_
                  refine wp_skip ?_
                  refine then_n ?_
                  refine wp_seq ?_
                  refine wp_block ?_
                  refine wp_seq ?_
                  refine wp_region_St hst 12 [0, 1, 2, 3, 4, 5, 6, 7, 8, 9, 10, 11] [0, 1, 0, 7, 15, 0, 32, 0, 224, 480, 1023, 2047] [] rfl (by kernel_rfl) (by kernel_rfl) Try.mixed (by kernel_rfl) ?_
                  refine ws_q (v := .pointer (some ⟨b384, 3, none⟩)) 0 [1, 2, 3, 4, 5, 6, 7, 8, 9, 10, 11] (by kernel_rfl) rfl rfl (yi_run rfl (fun w hst => x_field rfl Try.underlying34 rfl Try.sizeOf31 rfl)) ?_
                  refine ws_q (v := r0_0) 1 [2, 3, 4, 5, 6, 7, 8, 9, 10, 11] (by kernel_rfl) rfl rfl (yi_run rfl (fun w hst => x_load rfl Try.isAgg31 (hst.bc1 rfl))) ?_
                  refine ws_q (v := .int .i64 z435) 2 [3, 4, 5, 6, 7, 8, 9, 10, 11] (by kernel_rfl) rfl rfl (yi_run rfl (fun w hst => rfl)) ?_
                  obtain ⟨x445, hx446, hm⟩ := bind_some hm
                  obtain ⟨h447, h448, hi449⟩ := geto_some hx446
                  refine ws_q (v := .pointer (some (eAddr r0_0 (z435.toNat * 1 + 0)))) 3 [4, 5, 6, 7, 8, 9, 10, 11] (by kernel_rfl) rfl rfl (yi_run rfl (fun w hst => x_index rfl rfl Try.underlying31 Try.sizeOf41 (rd_sliceV f0_0) h447 h448)) ?_
                  refine ws_q (v := .float .f64 x445) 4 [5, 6, 7, 8, 9, 10, 11] (by kernel_rfl) rfl rfl (yi_run rfl (fun w hst => x_load rfl Try.isAgg41 (rd_load f0_0 (HL.le.refl _) hst hi449 (by rintro _ rfl; rfl)))) ?_
                  refine ws_q (v := .pointer (some ⟨b389, 3, none⟩)) 5 [6, 7, 8, 9, 10, 11] (by kernel_rfl) rfl rfl (yi_run rfl (fun w hst => x_field rfl Try.underlying34 rfl Try.sizeOf31 rfl)) ?_
                  refine ws_q (v := r1_0) 6 [7, 8, 9, 10, 11] (by kernel_rfl) rfl rfl (yi_run rfl (fun w hst => x_load rfl Try.isAgg31 (hst.bc0 rfl))) ?_
                  refine ws_q (v := .int .i64 z435) 7 [8, 9, 10, 11] (by kernel_rfl) rfl rfl (yi_run rfl (fun w hst => rfl)) ?_
                  obtain ⟨x450, hx451, hm⟩ := bind_some hm
                  obtain ⟨h452, h453, hi454⟩ := geto_some hx451
                  refine ws_q (v := .pointer (some (eAddr r1_0 (z435.toNat * 1 + 0)))) 8 [9, 10, 11] (by kernel_rfl) rfl rfl (yi_run rfl (fun w hst => x_index rfl rfl Try.underlying31 Try.sizeOf41 (rd_sliceV f1_0) h452 h453)) ?_
                  refine ws_q (v := .float .f64 x450) 9 [10, 11] (by kernel_rfl) rfl rfl (yi_run rfl (fun w hst => x_load rfl Try.isAgg41 (rd_load f1_0 (HL.le.refl _) hst hi454 (by rintro _ rfl; rfl)))) ?_
                  refine ws_e1 10 (by kernel_rfl) ?_
                  refine nxe [11] (by kernel_rfl) rfl rfl ?_
                  clear hst
                  intro w hst
                  obtain ⟨t455, ht456, hm⟩ := bind_some hm
                  refine we_call rfl (x_call Try.call62 rfl (vs := [.float .f64 x445, .float .f64 x450]) rfl) ?_
                  refine (ref01_Same_ref hst.to0 ht456).mono ?_
                  rintro _ w457 ⟨rfl, hst⟩
                  refine ⟨_, rfl, ?_⟩
                  replace hst := hst.of0
                  refine ws_next (pend' := []) hst (by kernel_rfl) pk_nil ?_
                  refine ws_q (v := .bool (!t455)) 11 [] (by kernel_rfl) rfl rfl (yi_run rfl (fun w hst => rfl)) ?_
                  refine ws_nil ?_
                  intro w hst
                  refine then_n ?_
                  refine bsplit (!t455) (fun hc460 => ?_) (fun hc460 => ?_)
                  · skip
                    replace hm := bif_t hc460 hm
                    refine wp_ift (congrArg Value.bool hc460) ?_
                    refine wp_seq ?_
                    refine wp_region_lit ?_
                    refine wl_val (v := .bool false) rfl rfl rfl ?_
                    refine wl_nil ?_
                    refine then_n ?_
                    refine wp_ret ?_
                    refine blk_r ?_
                    refine then_r ?_
                    refine then_r ?_
                    replace hm := inr_up hm hx442
                    refine blk_r ?_
                    refine then_r ?_
                    replace hm := inr_up hm hx464
                    obtain rfl := some_inj hm
                    refine post_ret (vs := [.bool false]) Try.results33 (rvs_cons (rv_tmp rfl) rvs_nil) ?_
                    exact ⟨rfl, hst.keep0⟩
                  · skip
                    replace hm := bif_f hc460 hm
                    refine wp_iff (congrArg Value.bool hc460) ?_
                    refine wp_skip ?_
                    refine blk_n ?_
                    refine then_n ?_
                    refine wp_region_lit ?_
                    refine wl_val (v := .int .i64 z435) rfl rfl rfl ?_
                    refine wl_val (v := .int .i64 (IntKind.i64.wrap (z435 + (1:Int)))) rfl rfl rfl ?_
                    refine wl_val (v := .int .i64 (IntKind.i64.wrap (z435 + (1:Int)))) rfl rfl rfl ?_
                    refine wl_nil ?_
                    refine then_n ?_
                    replace hst := hst.pull1
                    replace hst := hst.pull1
                    replace hst := hst.keep2
                    obtain rfl := some_inj hm
                    exact ⟨_, Nat.lt_succ_self _, (IntKind.i64.wrap (z435 + (1:Int))), _, hx442, ((fr_upd (t := 2) (v := .pointer (some ⟨b384, 0, none⟩)) rfl).trans ((fr_upd (t := 3) (v := .pointer (some ⟨b389, 0, none⟩)) rfl).trans ((fr_upd (t := 5) (v := .int .i64 (IntKind.i64.wrap (z435 + (1:Int)))) rfl).trans rfl))), hst⟩
                · skip
                  replace hm := bif_f hc444 hm
                  refine wp_iff (congrArg Value.bool hc444) ?_
                  refine wp_exit ?_
                  refine then_x ?_
                  refine then_x ?_
                  replace hm := inr_up hm hx442
                  refine blk_x ?_
                  refine then_n ?_
                  replace hst := hst.pull1
                  replace hst := hst.keep2
                  obtain rfl := some_inj hm
                  exact ⟨_, hx464, ((fr_upd (t := 2) (v := .pointer (some ⟨b384, 0, none⟩)) rfl).trans ((fr_upd (t := 3) (v := .pointer (some ⟨b389, 0, none⟩)) rfl).trans rfl)), hst⟩
              · skip
                clear hst
                rintro _ w465 ⟨σ461, hm, rfl, hst⟩
                dsimp only [ref11_SameHold_j0] at hm
                obtain ⟨y547, hm, hx548⟩ := joinO_some hm
                refine wp_cut (fun a w => ∃ (σ545 : Nat → Value), (ref11_SameHold_j2 a0 a1) () = some r ∧ a = Fr 131 (upd (upd σ545 2 (.pointer (some ⟨b384, 0, none⟩))) 3 (.pointer (some ⟨b389, 0, none⟩))) ∧ St w0 w I [cells b384 [.int .u64 a0.ID.Session, .int .u64 a0.ID.Seq, .int .u64 a0.Epoch, r0_0, r0_1, r0_2, r0_3], cells b389 [.int .u64 a1.ID.Session, .int .u64 a1.ID.Seq, .int .u64 a1.Epoch, r1_0, r1_1, r1_2, r1_3]] R) ?_ ?_
                · skip
                  refine wp_seq ?_
                  refine wp_region_lit ?_
                  refine wl_val (v := .int .i64 (0:Int)) rfl rfl rfl ?_
                  refine wl_nil ?_
                  refine then_n ?_
                  refine wp_block ?_
                  obtain ⟨n515, hm⟩ := loopO_some hm
                  refine wp_loop_n (fun n a w => ∃ (z513 : Int) (σ514 : Nat → Value), loopN (ref11_SameHold_l3 a0 a1) n z513 = some y547 ∧ a = Fr 131 (upd (upd (upd σ514 2 (.pointer (some ⟨b384, 0, none⟩))) 3 (.pointer (some ⟨b389, 0, none⟩))) 6 (.int .i64 z513)) ∧ St w0 w I [cells b384 [.int .u64 a0.ID.Session, .int .u64 a0.ID.Seq, .int .u64 a0.Epoch, r0_0, r0_1, r0_2, r0_3], cells b389 [.int .u64 a1.ID.Session, .int .u64 a1.ID.Seq, .int .u64 a1.Epoch, r1_0, r1_1, r1_2, r1_3]] R) n515 ⟨(0:Int), _, hm, ((fr_upd (t := 2) (v := .pointer (some ⟨b384, 0, none⟩)) rfl).trans ((fr_upd (t := 3) (v := .pointer (some ⟨b389, 0, none⟩)) rfl).trans ((fr_upd (t := 6) (v := .int .i64 (0:Int)) rfl).trans rfl))), hst⟩ ?_
                  rintro n521 _ w516 ⟨z513, σ514, hm, rfl, hst⟩
                  obtain ⟨n518, y519, rfl, hm, hx520⟩ := loopN_some hm
                  dsimp only [ref11_SameHold_l3] at hm
                  refine wp_seq ?_
                  refine wp_seq ?_
                  refine wp_region_lit ?_
                  refine wl_val (v := .int .i64 z513) rfl rfl rfl ?_
                  refine wl_val (v := .pointer (some ⟨b384, 4, none⟩)) rfl rfl (x_field rfl Try.underlying34 rfl Try.sizeOf32 rfl) ?_
                  refine wl_val (v := r0_1) rfl rfl (x_load rfl Try.isAgg32 (hst.bc0 rfl)) ?_
                  refine wl_val (v := .int .i64 ((a0.Scans).length : Int)) rfl rfl (x_len rfl Try.underlying32 (rd_sliceV f0_1)) ?_
                  refine wl_val (v := .bool (decide (z513 < ((a0.Scans).length : Int)))) rfl rfl rfl ?_
                  refine wl_nil ?_
                  refine then_n ?_
                  refine bsplit (decide (z513 < ((a0.Scans).length : Int))) (fun hc522 => ?_) (fun hc522 => ?_)
                  · skip
                    replace hm := bif_t hc522 hm
                    refine wp_ift (congrArg Value.bool hc522) ?_
                    refine wp_skip ?_
                    refine then_n ?_
                    refine wp_seq ?_
                    refine wp_block ?_
                    refine wp_seq ?_
                    refine wp_region_St hst 30 [0, 1, 2, 3, 4, 5, 6, 7, 8, 9, 10, 11, 12, 13, 14, 15, 16, 17, 18, 19, 20, 21, 22, 23, 24, 25, 26, 27, 28, 29] [0, 1, 0, 7, 15, 31, 0, 64, 0, 448, 960, 1984, 4095, 8191, 16383, 32767, 65535, 32767, 262143, 524287, 1048575, 32767, 2129919, 32767, 14712831, 31490047, 65044479, 134217727, 268435455, 536870911] [] rfl (by kernel_rfl) (by kernel_rfl) Try.mixed (by kernel_rfl) ?_
                    refine ws_q (v := .pointer (some ⟨b384, 4, none⟩)) 0 [1, 2, 3, 4, 5, 6, 7, 8, 9, 10, 11, 12, 13, 14, 15, 16, 17, 18, 19, 20, 21, 22, 23, 24, 25, 26, 27, 28, 29] (by kernel_rfl) rfl rfl (yi_run rfl (fun w hst => x_field rfl Try.underlying34 rfl Try.sizeOf32 rfl)) ?_
                    refine ws_q (v := r0_1) 1 [2, 3, 4, 5, 6, 7, 8, 9, 10, 11, 12, 13, 14, 15, 16, 17, 18, 19, 20, 21, 22, 23, 24, 25, 26, 27, 28, 29] (by kernel_rfl) rfl rfl (yi_run rfl (fun w hst => x_load rfl Try.isAgg32 (hst.bc0 rfl))) ?_
                    refine ws_q (v := .int .i64 z513) 2 [3, 4, 5, 6, 7, 8, 9, 10, 11, 12, 13, 14, 15, 16, 17, 18, 19, 20, 21, 22, 23, 24, 25, 26, 27, 28, 29] (by kernel_rfl) rfl rfl (yi_run rfl (fun w hst => rfl)) ?_
                    obtain ⟨x523, hx524, hm⟩ := bind_some hm
                    obtain ⟨h525, h526, hi527⟩ := geto_some hx524
                    refine ws_q (v := .pointer (some (eAddr r0_1 (z513.toNat * 2 + 0)))) 3 [4, 5, 6, 7, 8, 9, 10, 11, 12, 13, 14, 15, 16, 17, 18, 19, 20, 21, 22, 23, 24, 25, 26, 27, 28, 29] (by kernel_rfl) rfl rfl (yi_run rfl (fun w hst => x_index rfl rfl Try.underlying32 Try.sizeOf111 (rd_sliceV f0_1) h525 h526)) ?_
                    refine ws_q (v := .pointer (some (eAddr r0_1 (z513.toNat * 2 + 0)))) 4 [5, 6, 7, 8, 9, 10, 11, 12, 13, 14, 15, 16, 17, 18, 19, 20, 21, 22, 23, 24, 25, 26, 27, 28, 29] (by kernel_rfl) rfl rfl (yi_run rfl (fun w hst => x_index_arr_e (i := (0:Int)) rfl rfl Try.underlying111 Try.sizeOf41 (by decide) (by decide) rfl)) ?_
                    refine ws_q (v := .float .f64 x523.1) 5 [6, 7, 8, 9, 10, 11, 12, 13, 14, 15, 16, 17, 18, 19, 20, 21, 22, 23, 24, 25, 26, 27, 28, 29] (by kernel_rfl) rfl rfl (yi_run rfl (fun w hst => x_load rfl Try.isAgg41 (rd_load f0_1 (HL.le.refl _) hst hi527 (by rintro _ rfl; rfl)))) ?_
                    refine ws_q (v := .pointer (some ⟨b389, 4, none⟩)) 6 [7, 8, 9, 10, 11, 12, 13, 14, 15, 16, 17, 18, 19, 20, 21, 22, 23, 24, 25, 26, 27, 28, 29] (by kernel_rfl) rfl rfl (yi_run rfl (fun w hst => x_field rfl Try.underlying34 rfl Try.sizeOf32 rfl)) ?_
                    refine ws_q (v := r1_1) 7 [8, 9, 10, 11, 12, 13, 14, 15, 16, 17, 18, 19, 20, 21, 22, 23, 24, 25, 26, 27, 28, 29] (by kernel_rfl) rfl rfl (yi_run rfl (fun w hst => x_load rfl Try.isAgg32 (hst.bc1 rfl))) ?_
                    refine ws_q (v := .int .i64 z513) 8 [9, 10, 11, 12, 13, 14, 15, 16, 17, 18, 19, 20, 21, 22, 23, 24, 25, 26, 27, 28, 29] (by kernel_rfl) rfl rfl (yi_run rfl (fun w hst => rfl)) ?_
                    obtain ⟨x528, hx529, hm⟩ := bind_some hm
                    obtain ⟨h530, h531, hi532⟩ := geto_some hx529
                    refine ws_q (v := .pointer (some (eAddr r1_1 (z513.toNat * 2 + 0)))) 9 [10, 11, 12, 13, 14, 15, 16, 17, 18, 19, 20, 21, 22, 23, 24, 25, 26, 27, 28, 29] (by kernel_rfl) rfl rfl (yi_run rfl (fun w hst => x_index rfl rfl Try.underlying32 Try.sizeOf111 (rd_sliceV f1_1) h530 h531)) ?_
                    refine ws_q (v := .pointer (some (eAddr r1_1 (z513.toNat * 2 + 0)))) 10 [11, 12, 13, 14, 15, 16, 17, 18, 19, 20, 21, 22, 23, 24, 25, 26, 27, 28, 29] (by kernel_rfl) rfl rfl (yi_run rfl (fun w hst => x_index_arr_e (i := (0:Int)) rfl rfl Try.underlying111 Try.sizeOf41 (by decide) (by decide) rfl)) ?_
                    refine ws_q (v := .float .f64 x528.1) 11 [12, 13, 14, 15, 16, 17, 18, 19, 20, 21, 22, 23, 24, 25, 26, 27, 28, 29] (by kernel_rfl) rfl rfl (yi_run rfl (fun w hst => x_load rfl Try.isAgg41 (rd_load f1_1 (HL.le.refl _) hst hi532 (by rintro _ rfl; rfl)))) ?_
                    refine ws_e1 12 (by kernel_rfl) ?_
                    refine nxe [13, 14, 15, 16, 17, 18, 19, 20, 21, 22, 23, 24, 25, 26, 27, 28, 29] (by kernel_rfl) rfl rfl ?_
                    clear hst
                    intro w hst
                    obtain ⟨t533, ht534, hm⟩ := bind_some hm
                    refine we_call rfl (x_call Try.call62 rfl (vs := [.float .f64 x523.1, .float .f64 x528.1]) rfl) ?_
                    refine (ref01_Same_ref hst.to0 ht534).mono ?_
                    rintro _ w535 ⟨rfl, hst⟩
                    refine ⟨_, rfl, ?_⟩
                    replace hst := hst.of0
                    refine ws_next (pend' := []) hst (by kernel_rfl) pk_nil ?_
                    refine ws_q (v := .bool (!t533)) 13 [14, 15, 16, 17, 18, 19, 20, 21, 22, 23, 24, 25, 26, 27, 28, 29] (by kernel_rfl) rfl rfl (yi_run rfl (fun w hst => rfl)) ?_
                    refine ws_q (v := .bool (!t533)) 14 [15, 16, 17, 18, 19, 20, 21, 22, 23, 24, 25, 26, 27, 28, 29] (by kernel_rfl) rfl rfl (yi_run rfl (fun w hst => rfl)) ?_
                    refine bsplit (!t533) (fun hc538 => ?_) (fun hc538 => ?_)
                    · skip
                      replace hm := bif_t hc538 hm
                      refine ws_q (v := undef) 15 [16, 17, 18, 19, 20, 21, 22, 23, 24, 25, 26, 27, 28, 29] (by kernel_rfl) rfl rfl (yi_off ((wanted_eq rfl rfl rfl (congrArg Value.bool hc538)).trans rfl)) ?_
                      refine ws_q (v := undef) 16 [17, 18, 19, 20, 21, 22, 23, 24, 25, 26, 27, 28, 29] (by kernel_rfl) rfl rfl (yi_off ((wanted_eq rfl rfl rfl (congrArg Value.bool hc538)).trans rfl)) ?_
                      refine ws_q (v := undef) 17 [18, 19, 20, 21, 22, 23, 24, 25, 26, 27, 28, 29] (by kernel_rfl) rfl rfl (yi_off ((wanted_eq rfl rfl rfl (congrArg Value.bool hc538)).trans rfl)) ?_
                      refine ws_q (v := undef) 18 [19, 20, 21, 22, 23, 24, 25, 26, 27, 28, 29] (by kernel_rfl) rfl rfl (yi_off ((wanted_eq rfl rfl rfl (congrArg Value.bool hc538)).trans rfl)) ?_
                      refine ws_q (v := undef) 19 [20, 21, 22, 23, 24, 25, 26, 27, 28, 29] (by kernel_rfl) rfl rfl (yi_off ((wanted_eq rfl rfl rfl (congrArg Value.bool hc538)).trans rfl)) ?_
                      refine ws_q (v := undef) 20 [21, 22, 23, 24, 25, 26, 27, 28, 29] (by kernel_rfl) rfl rfl (yi_off ((wanted_eq rfl rfl rfl (congrArg Value.bool hc538)).trans rfl)) ?_
                      refine ws_q (v := undef) 21 [22, 23, 24, 25, 26, 27, 28, 29] (by kernel_rfl) rfl rfl (yi_off ((wanted_eq rfl rfl rfl (congrArg Value.bool hc538)).trans rfl)) ?_
                      refine ws_q (v := undef) 22 [23, 24, 25, 26, 27, 28, 29] (by kernel_rfl) rfl rfl (yi_off ((wanted_eq rfl rfl rfl (congrArg Value.bool hc538)).trans rfl)) ?_
                      refine ws_q (v := undef) 23 [24, 25, 26, 27, 28, 29] (by kernel_rfl) rfl rfl (yi_off ((wanted_eq rfl rfl rfl (congrArg Value.bool hc538)).trans rfl)) ?_
                      refine ws_q (v := undef) 24 [25, 26, 27, 28, 29] (by kernel_rfl) rfl rfl (yi_off ((wanted_eq rfl rfl rfl (congrArg Value.bool hc538)).trans rfl)) ?_
                      refine ws_q (v := undef) 25 [26, 27, 28, 29] (by kernel_rfl) rfl rfl (yi_off ((wanted_eq rfl rfl rfl (congrArg Value.bool hc538)).trans rfl)) ?_
                      refine ws_q (v := undef) 26 [27, 28, 29] (by kernel_rfl) rfl rfl (yi_off ((wanted_eq rfl rfl rfl (congrArg Value.bool hc538)).trans rfl)) ?_
                      refine ws_q (v := undef) 27 [28, 29] (by kernel_rfl) rfl rfl (yi_off ((wanted_eq rfl rfl rfl (congrArg Value.bool hc538)).trans rfl)) ?_
                      refine ws_q (v := undef) 28 [29] (by kernel_rfl) rfl rfl (yi_off ((wanted_eq rfl rfl rfl (congrArg Value.bool hc538)).trans rfl)) ?_
                      refine ws_q (v := .bool true) 29 [] (by kernel_rfl) rfl rfl (yi_run rfl (fun w hst => x_pick_t hc538 rfl rfl)) ?_
                      refine ws_nil ?_
                      intro w hst
                      refine then_n ?_
                      refine wp_ift rfl ?_
                      refine wp_seq ?_
                      refine wp_region_lit ?_
                      refine wl_val (v := .bool false) rfl rfl rfl ?_
                      refine wl_nil ?_
                      refine then_n ?_
                      refine wp_ret ?_
                      refine blk_r ?_
                      refine then_r ?_
                      refine then_r ?_
                      replace hm := inr_up hm hx520
                      refine blk_r ?_
                      refine then_r ?_
                      replace hm := inr_up hm hx548
                      obtain rfl := some_inj hm
                      refine post_ret (vs := [.bool false]) Try.results33 (rvs_cons (rv_tmp rfl) rvs_nil) ?_
                      exact ⟨rfl, hst.keep0⟩
                    · skip
                      replace hm := bif_f hc538 hm
                      refine ws_q (v := .pointer (some ⟨b384, 4, none⟩)) 15 [16, 17, 18, 19, 20, 21, 22, 23, 24, 25, 26, 27, 28, 29] (by kernel_rfl) rfl rfl (yi_run ((wanted_eq rfl rfl rfl (congrArg Value.bool hc538)).trans rfl) (fun w hst => x_field rfl Try.underlying34 rfl Try.sizeOf32 rfl)) ?_
                      refine ws_q (v := r0_1) 16 [17, 18, 19, 20, 21, 22, 23, 24, 25, 26, 27, 28, 29] (by kernel_rfl) rfl rfl (yi_run ((wanted_eq rfl rfl rfl (congrArg Value.bool hc538)).trans rfl) (fun w hst => x_load rfl Try.isAgg32 (hst.bc0 rfl))) ?_
                      refine ws_q (v := .int .i64 z513) 17 [18, 19, 20, 21, 22, 23, 24, 25, 26, 27, 28, 29] (by kernel_rfl) rfl rfl (yi_run ((wanted_eq rfl rfl rfl (congrArg Value.bool hc538)).trans rfl) (fun w hst => rfl)) ?_
                      refine ws_q (v := .pointer (some (eAddr r0_1 (z513.toNat * 2 + 0)))) 18 [19, 20, 21, 22, 23, 24, 25, 26, 27, 28, 29] (by kernel_rfl) rfl rfl (yi_run ((wanted_eq rfl rfl rfl (congrArg Value.bool hc538)).trans rfl) (fun w hst => x_index rfl rfl Try.underlying32 Try.sizeOf111 (rd_sliceV f0_1) h525 h526)) ?_
                      refine ws_q (v := .pointer (some (eAddr r0_1 (z513.toNat * 2 + 1)))) 19 [20, 21, 22, 23, 24, 25, 26, 27, 28, 29] (by kernel_rfl) rfl rfl (yi_run ((wanted_eq rfl rfl rfl (congrArg Value.bool hc538)).trans rfl) (fun w hst => x_index_arr_e (i := (1:Int)) rfl rfl Try.underlying111 Try.sizeOf41 (by decide) (by decide) rfl)) ?_
                      refine ws_q (v := .float .f64 x523.2) 20 [21, 22, 23, 24, 25, 26, 27, 28, 29] (by kernel_rfl) rfl rfl (yi_run ((wanted_eq rfl rfl rfl (congrArg Value.bool hc538)).trans rfl) (fun w hst => x_load rfl Try.isAgg41 (rd_load f0_1 (HL.le.refl _) hst hi527 (by rintro _ rfl; rfl)))) ?_
                      refine ws_q (v := .pointer (some ⟨b389, 4, none⟩)) 21 [22, 23, 24, 25, 26, 27, 28, 29] (by kernel_rfl) rfl rfl (yi_run ((wanted_eq rfl rfl rfl (congrArg Value.bool hc538)).trans rfl) (fun w hst => x_field rfl Try.underlying34 rfl Try.sizeOf32 rfl)) ?_
                      refine ws_q (v := r1_1) 22 [23, 24, 25, 26, 27, 28, 29] (by kernel_rfl) rfl rfl (yi_run ((wanted_eq rfl rfl rfl (congrArg Value.bool hc538)).trans rfl) (fun w hst => x_load rfl Try.isAgg32 (hst.bc1 rfl))) ?_
                      refine ws_q (v := .int .i64 z513) 23 [24, 25, 26, 27, 28, 29] (by kernel_rfl) rfl rfl (yi_run ((wanted_eq rfl rfl rfl (congrArg Value.bool hc538)).trans rfl) (fun w hst => rfl)) ?_
                      refine ws_q (v := .pointer (some (eAddr r1_1 (z513.toNat * 2 + 0)))) 24 [25, 26, 27, 28, 29] (by kernel_rfl) rfl rfl (yi_run ((wanted_eq rfl rfl rfl (congrArg Value.bool hc538)).trans rfl) (fun w hst => x_index rfl rfl Try.underlying32 Try.sizeOf111 (rd_sliceV f1_1) h530 h531)) ?_
                      refine ws_q (v := .pointer (some (eAddr r1_1 (z513.toNat * 2 + 1)))) 25 [26, 27, 28, 29] (by kernel_rfl) rfl rfl (yi_run ((wanted_eq rfl rfl rfl (congrArg Value.bool hc538)).trans rfl) (fun w hst => x_index_arr_e (i := (1:Int)) rfl rfl Try.underlying111 Try.sizeOf41 (by decide) (by decide) rfl)) ?_
                      refine ws_q (v := .float .f64 x528.2) 26 [27, 28, 29] (by kernel_rfl) rfl rfl (yi_run ((wanted_eq rfl rfl rfl (congrArg Value.bool hc538)).trans rfl) (fun w hst => x_load rfl Try.isAgg41 (rd_load f1_1 (HL.le.refl _) hst hi532 (by rintro _ rfl; rfl)))) ?_
                      refine ws_e1 27 (by kernel_rfl) ?_
                      refine nxe [28, 29] (by kernel_rfl) rfl ((wanted_eq rfl rfl rfl (congrArg Value.bool hc538)).trans rfl) ?_
                      clear hst
                      intro w hst
                      obtain ⟨t539, ht540, hm⟩ := bind_some hm
                      refine we_call rfl (x_call Try.call62 rfl (vs := [.float .f64 x523.2, .float .f64 x528.2]) rfl) ?_
                      refine (ref01_Same_ref hst.to0 ht540).mono ?_
                      rintro _ w541 ⟨rfl, hst⟩
                      refine ⟨_, rfl, ?_⟩
                      replace hst := hst.of0
                      refine ws_next (pend' := []) hst (by kernel_rfl) pk_nil ?_
                      refine ws_q (v := .bool (!t539)) 28 [29] (by kernel_rfl) rfl rfl (yi_run ((wanted_eq rfl rfl rfl (congrArg Value.bool hc538)).trans rfl) (fun w hst => rfl)) ?_
                      refine ws_q (v := .bool (!t539)) 29 [] (by kernel_rfl) rfl rfl (yi_run rfl (fun w hst => x_pick_f hc538 rfl rfl)) ?_
                      refine ws_nil ?_
                      intro w hst
                      refine then_n ?_
                      refine bsplit (!t539) (fun hc544 => ?_) (fun hc544 => ?_)
                      · skip
                        replace hm := bif_t hc544 hm
                        refine wp_ift (congrArg Value.bool hc544) ?_
                        refine wp_seq ?_
                        refine wp_region_lit ?_
                        refine wl_val (v := .bool false) rfl rfl rfl ?_
                        refine wl_nil ?_
                        refine then_n ?_
                        refine wp_ret ?_
                        refine blk_r ?_
                        refine then_r ?_
                        refine then_r ?_
                        replace hm := inr_up hm hx520
                        refine blk_r ?_
                        refine then_r ?_
                        replace hm := inr_up hm hx548
                        obtain rfl := some_inj hm
                        refine post_ret (vs := [.bool false]) Try.results33 (rvs_cons (rv_tmp rfl) rvs_nil) ?_
                        exact ⟨rfl, hst.keep0⟩
                      · skip
                        replace hm := bif_f hc544 hm
                        refine wp_iff (congrArg Value.bool hc544) ?_
                        refine wp_skip ?_
                        refine blk_n ?_
                        refine then_n ?_
                        refine wp_region_lit ?_
                        refine wl_val (v := .int .i64 z513) rfl rfl rfl ?_
                        refine wl_val (v := .int .i64 (IntKind.i64.wrap (z513 + (1:Int)))) rfl rfl rfl ?_
                        refine wl_val (v := .int .i64 (IntKind.i64.wrap (z513 + (1:Int)))) rfl rfl rfl ?_
                        refine wl_nil ?_
                        refine then_n ?_
                        replace hst := hst.pull1
                        replace hst := hst.pull1
                        replace hst := hst.keep2
                        obtain rfl := some_inj hm
                        exact ⟨_, Nat.lt_succ_self _, (IntKind.i64.wrap (z513 + (1:Int))), _, hx520, ((fr_upd (t := 2) (v := .pointer (some ⟨b384, 0, none⟩)) rfl).trans ((fr_upd (t := 3) (v := .pointer (some ⟨b389, 0, none⟩)) rfl).trans ((fr_upd (t := 6) (v := .int .i64 (IntKind.i64.wrap (z513 + (1:Int)))) rfl).trans rfl))), hst⟩
                  · skip
                    replace hm := bif_f hc522 hm
                    refine wp_iff (congrArg Value.bool hc522) ?_
                    refine wp_exit ?_
                    refine then_x ?_
                    refine then_x ?_
                    replace hm := inr_up hm hx520
                    refine blk_x ?_
                    refine then_n ?_
                    replace hst := hst.pull1
                    replace hst := hst.pull1
                    replace hst := hst.keep2
                    obtain rfl := some_inj hm
                    exact ⟨_, hx548, ((fr_upd (t := 2) (v := .pointer (some ⟨b384, 0, none⟩)) rfl).trans ((fr_upd (t := 3) (v := .pointer (some ⟨b389, 0, none⟩)) rfl).trans rfl)), hst⟩
                · skip
                  clear hst
                  rintro _ w549 ⟨σ545, hm, rfl, hst⟩
                  dsimp only [ref11_SameHold_j2] at hm
                  refine wp_seq ?_
                  refine wp_seq ?_
                  refine wp_region_lit ?_
                  refine wl_val (v := .int .i64 (0:Int)) rfl rfl rfl ?_
                  refine wl_nil ?_
                  refine then_n ?_
                  refine wp_block ?_
                  obtain ⟨n587, hm⟩ := loopO_some hm
                  refine wp_loop_n (fun n a w => ∃ (z585 : Int) (σ586 : Nat → Value), loopN (ref11_SameHold_l4 a0 a1) n z585 = some r ∧ a = Fr 131 (upd (upd (upd σ586 2 (.pointer (some ⟨b384, 0, none⟩))) 3 (.pointer (some ⟨b389, 0, none⟩))) 7 (.int .i64 z585)) ∧ St w0 w I [cells b384 [.int .u64 a0.ID.Session, .int .u64 a0.ID.Seq, .int .u64 a0.Epoch, r0_0, r0_1, r0_2, r0_3], cells b389 [.int .u64 a1.ID.Session, .int .u64 a1.ID.Seq, .int .u64 a1.Epoch, r1_0, r1_1, r1_2, r1_3]] R) n587 ⟨(0:Int), _, hm, ((fr_upd (t := 2) (v := .pointer (some ⟨b384, 0, none⟩)) rfl).trans ((fr_upd (t := 3) (v := .pointer (some ⟨b389, 0, none⟩)) rfl).trans ((fr_upd (t := 7) (v := .int .i64 (0:Int)) rfl).trans rfl))), hst⟩ ?_
                  rintro n593 _ w588 ⟨z585, σ586, hm, rfl, hst⟩
                  obtain ⟨n590, y591, rfl, hm, hx592⟩ := loopN_some hm
                  dsimp only [ref11_SameHold_l4] at hm
                  refine wp_seq ?_
                  refine wp_seq ?_
                  refine wp_region_lit ?_
                  refine wl_val (v := .int .i64 z585) rfl rfl rfl ?_
                  refine wl_val (v := .pointer (some ⟨b384, 5, none⟩)) rfl rfl (x_field rfl Try.underlying34 rfl Try.sizeOf31 rfl) ?_
                  refine wl_val (v := r0_2) rfl rfl (x_load rfl Try.isAgg31 (hst.bc0 rfl)) ?_
                  refine wl_val (v := .int .i64 ((a0.Puts).length : Int)) rfl rfl (x_len rfl Try.underlying31 (rd_sliceV f0_2)) ?_
                  refine wl_val (v := .bool (decide (z585 < ((a0.Puts).length : Int)))) rfl rfl rfl ?_
                  refine wl_nil ?_
                  refine then_n ?_
                  refine bsplit (decide (z585 < ((a0.Puts).length : Int))) (fun hc594 => ?_) (fun hc594 => ?_)
                  · skip
                    replace hm := bif_t hc594 hm
                    refine wp_ift (congrArg Value.bool hc594) ?_
                    refine wp_skip ?_
                    refine then_n ?_
                    refine wp_seq ?_
                    refine wp_block ?_
                    refine wp_seq ?_
                    refine wp_region_St hst 12 [0, 1, 2, 3, 4, 5, 6, 7, 8, 9, 10, 11] [0, 1, 0, 7, 15, 0, 32, 0, 224, 480, 1023, 2047] [] rfl (by kernel_rfl) (by kernel_rfl) Try.mixed (by kernel_rfl) ?_
                    refine ws_q (v := .pointer (some ⟨b384, 5, none⟩)) 0 [1, 2, 3, 4, 5, 6, 7, 8, 9, 10, 11] (by kernel_rfl) rfl rfl (yi_run rfl (fun w hst => x_field rfl Try.underlying34 rfl Try.sizeOf31 rfl)) ?_
                    refine ws_q (v := r0_2) 1 [2, 3, 4, 5, 6, 7, 8, 9, 10, 11] (by kernel_rfl) rfl rfl (yi_run rfl (fun w hst => x_load rfl Try.isAgg31 (hst.bc0 rfl))) ?_
                    refine ws_q (v := .int .i64 z585) 2 [3, 4, 5, 6, 7, 8, 9, 10, 11] (by kernel_rfl) rfl rfl (yi_run rfl (fun w hst => rfl)) ?_
                    obtain ⟨x595, hx596, hm⟩ := bind_some hm
                    obtain ⟨h597, h598, hi599⟩ := geto_some hx596
                    refine ws_q (v := .pointer (some (eAddr r0_2 (z585.toNat * 1 + 0)))) 3 [4, 5, 6, 7, 8, 9, 10, 11] (by kernel_rfl) rfl rfl (yi_run rfl (fun w hst => x_index rfl rfl Try.underlying31 Try.sizeOf41 (rd_sliceV f0_2) h597 h598)) ?_
                    refine ws_q (v := .float .f64 x595) 4 [5, 6, 7, 8, 9, 10, 11] (by kernel_rfl) rfl rfl (yi_run rfl (fun w hst => x_load rfl Try.isAgg41 (rd_load f0_2 (HL.le.refl _) hst hi599 (by rintro _ rfl; rfl)))) ?_
                    refine ws_q (v := .pointer (some ⟨b389, 5, none⟩)) 5 [6, 7, 8, 9, 10, 11] (by kernel_rfl) rfl rfl (yi_run rfl (fun w hst => x_field rfl Try.underlying34 rfl Try.sizeOf31 rfl)) ?_
                    refine ws_q (v := r1_2) 6 [7, 8, 9, 10, 11] (by kernel_rfl) rfl rfl (yi_run rfl (fun w hst => x_load rfl Try.isAgg31 (hst.bc1 rfl))) ?_
                    refine ws_q (v := .int .i64 z585) 7 [8, 9, 10, 11] (by kernel_rfl) rfl rfl (yi_run rfl (fun w hst => rfl)) ?_
                    obtain ⟨x600, hx601, hm⟩ := bind_some hm
                    obtain ⟨h602, h603, hi604⟩ := geto_some hx601
                    refine ws_q (v := .pointer (some (eAddr r1_2 (z585.toNat * 1 + 0)))) 8 [9, 10, 11] (by kernel_rfl) rfl rfl (yi_run rfl (fun w hst => x_index rfl rfl Try.underlying31 Try.sizeOf41 (rd_sliceV f1_2) h602 h603)) ?_
                    refine ws_q (v := .float .f64 x600) 9 [10, 11] (by kernel_rfl) rfl rfl (yi_run rfl (fun w hst => x_load rfl Try.isAgg41 (rd_load f1_2 (HL.le.refl _) hst hi604 (by rintro _ rfl; rfl)))) ?_
                    refine ws_e1 10 (by kernel_rfl) ?_
                    refine nxe [11] (by kernel_rfl) rfl rfl ?_
                    clear hst
                    intro w hst
                    obtain ⟨t605, ht606, hm⟩ := bind_some hm
                    refine we_call rfl (x_call Try.call62 rfl (vs := [.float .f64 x595, .float .f64 x600]) rfl) ?_
                    refine (ref01_Same_ref hst.to0 ht606).mono ?_
                    rintro _ w607 ⟨rfl, hst⟩
                    refine ⟨_, rfl, ?_⟩
                    replace hst := hst.of0
                    refine ws_next (pend' := []) hst (by kernel_rfl) pk_nil ?_
                    refine ws_q (v := .bool (!t605)) 11 [] (by kernel_rfl) rfl rfl (yi_run rfl (fun w hst => rfl)) ?_
                    refine ws_nil ?_
                    intro w hst
                    refine then_n ?_
                    refine bsplit (!t605) (fun hc610 => ?_) (fun hc610 => ?_)
                    · skip
                      replace hm := bif_t hc610 hm
                      refine wp_ift (congrArg Value.bool hc610) ?_
                      refine wp_seq ?_
                      refine wp_region_lit ?_
                      refine wl_val (v := .bool false) rfl rfl rfl ?_
                      refine wl_nil ?_
                      refine then_n ?_
                      refine wp_ret ?_
                      refine blk_r ?_
                      refine then_r ?_
                      refine then_r ?_
                      replace hm := inr_up hm hx592
                      refine blk_r ?_
                      refine then_r ?_
                      obtain rfl := some_inj hm
                      refine post_ret (vs := [.bool false]) Try.results33 (rvs_cons (rv_tmp rfl) rvs_nil) ?_
                      exact ⟨rfl, hst.keep0⟩
                    · skip
                      replace hm := bif_f hc610 hm
                      refine wp_iff (congrArg Value.bool hc610) ?_
                      refine wp_skip ?_
                      refine blk_n ?_
                      refine then_n ?_
                      refine wp_region_lit ?_
                      refine wl_val (v := .int .i64 z585) rfl rfl rfl ?_
                      refine wl_val (v := .int .i64 (IntKind.i64.wrap (z585 + (1:Int)))) rfl rfl rfl ?_
                      refine wl_val (v := .int .i64 (IntKind.i64.wrap (z585 + (1:Int)))) rfl rfl rfl ?_
                      refine wl_nil ?_
                      refine then_n ?_
                      replace hst := hst.pull1
                      replace hst := hst.pull1
                      replace hst := hst.keep2
                      obtain rfl := some_inj hm
                      exact ⟨_, Nat.lt_succ_self _, (IntKind.i64.wrap (z585 + (1:Int))), _, hx592, ((fr_upd (t := 2) (v := .pointer (some ⟨b384, 0, none⟩)) rfl).trans ((fr_upd (t := 3) (v := .pointer (some ⟨b389, 0, none⟩)) rfl).trans ((fr_upd (t := 7) (v := .int .i64 (IntKind.i64.wrap (z585 + (1:Int)))) rfl).trans rfl))), hst⟩
                  · skip
                    replace hm := bif_f hc594 hm
                    refine wp_iff (congrArg Value.bool hc594) ?_
                    refine wp_exit ?_
                    refine then_x ?_
                    refine then_x ?_
                    replace hm := inr_up hm hx592
                    refine blk_x ?_
                    refine then_n ?_
                    refine wp_seq ?_
                    refine wp_region_lit ?_
                    refine wl_val (v := .bool true) rfl rfl rfl ?_
                    refine wl_nil ?_
                    refine then_n ?_
                    refine wp_ret ?_
                    obtain rfl := some_inj hm
                    refine post_ret (vs := [.bool true]) Try.results33 (rvs_cons (rv_tmp rfl) rvs_nil) ?_
                    exact ⟨rfl, hst.keep0⟩

end Go.Proofs.Ytijcfglomdfglaa
