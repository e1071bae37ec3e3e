/- The Go functions refine their models, part 1. -/
import Derived.Test.YtijcfglomdfglaaCommandBytesR0
set_option linter.unusedVariables false
set_option linter.unusedSimpArgs false
set_option maxRecDepth 100000
set_option maxHeartbeats 4000000
namespace Go.Proofs.Ytijcfglomdfglaa
open Go Go.V
attribute [local irreducible] wpList Code.wp wpQuiet Calls bodyPost Oper.wp wpS Nx PendOK YieldsIn
theorem ref13_OfReply_ref {w0 w : World} {I : HL} {R : SP} {a0 : ref12_Tape} {p0 : Value}  (hst : St w0 w I [at_ref12_Tape p0 a0] R) {r : (api_Reply × ref12_Tape)} (hm : ref13_OfReply a0 = some r) :
  Calls Try.prog 12 #[p0] w fun e w' => ∃ (I' : HL) (q0_0 : Value) (q0_1 : Value), e = .returned (.agg #[.int .i64 r.1.E, .int .u64 r.1.Epoch, .int .u64 r.1.Index, q0_0, q0_1]) ∧ I.le I' ∧ St w0 w' I' [ownS ty_api_Got q0_0 r.1.Gots, ownS (tySl ty_api_Pair) q0_1 r.1.Scans, at_ref12_Tape p0 r.2] R := by
 unfold ref13_OfReply at hm
 refine calls_start (args := [p0]) Try.func12 rfl Try.ntmps12 (Nat.le_of_ble_eq_true rfl) ?_
 have hI0 := HL.le.refl I
 refine wp_seq (wp_region_lit ?_)
 obtain ⟨b1257, w1258, ew1259, eb1260, hst⟩ := hst.box [.int .i64 (0:Int), .int .u64 (0:Int), .int .u64 (0:Int), (.slice none 0 0), (.slice none 0 0)] 39
 refine wl_run (v := .pointer (some ⟨b1257, 0, none⟩)) (w' := w1258) rfl rfl (x_al (by kernel_rfl) ew1259 eb1260) ?_
 refine wl_nil (then_n (wp_seq (wp_region_lit ?_)))
 obtain ⟨b1262, w1263, ew1264, eb1265, hst⟩ := hst.lits (E := (tyInt .i64)) (xs := [(0:Int), (0:Int), (0:Int), (8:Int), (9:Int), (3:Int)]) [[.int .i64 (0:Int)], [.int .i64 (0:Int)], [.int .i64 (0:Int)], [.int .i64 (8:Int)], [.int .i64 (9:Int)], [.int .i64 (3:Int)]] 30 6 rfl (Reps.cons rfl (Reps.cons rfl (Reps.cons rfl (Reps.cons rfl (Reps.cons rfl (Reps.cons rfl Reps.nil))))))
 refine wl_run (v := (.slice (some ⟨b1262, 0, none⟩) 6 6)) (w' := w1263) rfl rfl (x_als (by kernel_rfl) ew1264 eb1265) ?_
 refine wv ((.slice (some ⟨b1262, 0, none⟩) 6 6)) rfl rfl rfl ?_
 refine wl_nil (then_n (wp_seq ?_))
 obtain ⟨y1374, hm, hx1375⟩ := bind_some hm
 refine wp_mid (fun a w => ∃ (z1366 : ref12_Tape) (z1369 : Int) (z1370 : Int) (z1371 : Int) (b1368 : Nat) (σ1372 : Nat → Value), (ref13_OfReply_j0) (z1366, z1369, z1370, z1371) = some r ∧ a = Fr 72 (upd (upd (upd σ1372 0 (p0)) 2 (.pointer (some ⟨b1257, 0, none⟩))) 4 (.pointer (some ⟨b1368, 0, none⟩))) ∧ St w0 w I [at_ref12_Tape p0 z1366, cells b1257 [.int .i64 (0:Int), .int .u64 (0:Int), .int .u64 (0:Int), (.slice none 0 0), (.slice none 0 0)], cells b1368 [.int .i64 z1369, .int .u64 z1370, .int .u64 z1371, (.slice none 0 0), (.slice none 0 0)]] R) ?_ ?_
 ·skip
  refine wp_region_St hst 14 [0, 1, 2, 3, 4, 5, 6, 7, 8, 9, 10, 11, 12, 13] [0, 0, 2, 7, 15, 0, 38, 102, 0, 358, 870, 2047, 0, 8191] [] rfl (by kernel_rfl) (by kernel_rfl) Try.mixed (by kernel_rfl) ?_
  refine wsr ((.slice (some ⟨b1262, 0, none⟩) 6 6)) 0 rfl rfl rfl (by kernel_rfl) (fun w hst => rfl) ?_
  refine wsr (p0) 1 rfl rfl rfl (by kernel_rfl) (fun w hst => rfl) ?_
  refine wsr (p0) 5 rfl rfl rfl (by kernel_rfl) (fun w hst => rfl) ?_
  refine wsr (p0) 8 rfl rfl rfl (by kernel_rfl) (fun w hst => rfl) ?_
  refine ws_e2 2 12 (by kernel_rfl) ?_ ?_
  ·skip
   refine nxe [3, 4, 6, 7, 9, 10, 11, 12, 13] (by kernel_rfl) rfl rfl ?_
   clear hst
   intro w hst
   replace hst := hst.pull2
   obtain ⟨t1267, ht1268, hm⟩ := bind_some hm
   refine we_call rfl (x_call Try.call22 rfl (vs := [p0, .int .i64 (6:Int)]) rfl) ?_
   refine (ref12_Tape_Next_ref hst.to1 ht1268).mono ?_
   rintro _ w1269 ⟨rfl, hst⟩
   refine ⟨_, rfl, ?_⟩
   replace hst := hst.of1
   refine ws_next (pend' := [(8, p0), (5, p0), (0, (.slice (some ⟨b1262, 0, none⟩) 6 6))]) hst (by kernel_rfl) (pkr rfl rfl (fun w hst => rfl) (pkr rfl rfl (fun w hst => rfl) (pkr rfl rfl (fun w hst => rfl) pk_nil))) ?_
   obtain ⟨x1272, hx1273, hm⟩ := bind_some hm
   obtain ⟨h1274, h1275, hi1276⟩ := geto_some hx1273
   refine wsr (.pointer (some (eAddr (.slice (some ⟨b1262, 0, none⟩) 6 6) (t1267.1.toNat * 1 + 0)))) 3 rfl rfl rfl (by kernel_rfl) (fun w hst => x_index rfl rfl Try.underlying78 Try.sizeOf30 hst.sv1 h1274 h1275) ?_
   refine wsr (.int .i64 x1272) 4 rfl rfl rfl (by kernel_rfl) (fun w hst => x_load rfl Try.isAgg30 (hst.ol1 hi1276 (by rintro _ rfl; rfl))) ?_
   refine ws_e2 6 12 (by kernel_rfl) ?_ ?_
   ·skip
    refine nxe [7, 9, 10, 11, 12, 13] (by kernel_rfl) rfl rfl ?_
    clear hst
    intro w hst
    obtain ⟨t1277, ht1278, hm⟩ := bind_some hm
    refine we_call rfl (x_call Try.call22 rfl (vs := [p0, .int .i64 (4:Int)]) rfl) ?_
    refine (ref12_Tape_Next_ref hst.to1 ht1278).mono ?_
    rintro _ w1279 ⟨rfl, hst⟩
    refine ⟨_, rfl, ?_⟩
    replace hst := hst.of1
    refine ws_next (pend' := [(4, .int .i64 x1272), (3, .pointer (some (eAddr (.slice (some ⟨b1262, 0, none⟩) 6 6) (t1267.1.toNat * 1 + 0)))), (8, p0), (0, (.slice (some ⟨b1262, 0, none⟩) 6 6))]) hst (by kernel_rfl) (pkr rfl rfl (fun w hst => x_load rfl Try.isAgg30 (hst.ol1 hi1276 (by rintro _ rfl; rfl))) (pkr rfl rfl (fun w hst => x_index rfl rfl Try.underlying78 Try.sizeOf30 hst.sv1 h1274 h1275) (pkr rfl rfl (fun w hst => rfl) (pkr rfl rfl (fun w hst => rfl) pk_nil)))) ?_
    refine wsr (.int .u64 (IntKind.u64.wrap t1277.1)) 7 rfl rfl rfl (by kernel_rfl) (fun w hst => by kernel_rfl) ?_
    refine ws_e2 9 12 (by kernel_rfl) ?_ ?_
    ·skip
     refine nxe [10, 11, 12, 13] (by kernel_rfl) rfl rfl ?_
     clear hst
     intro w hst
     obtain ⟨t1282, ht1283, hm⟩ := bind_some hm
     refine we_call rfl (x_call Try.call22 rfl (vs := [p0, .int .i64 (9:Int)]) rfl) ?_
     refine (ref12_Tape_Next_ref hst.to1 ht1283).mono ?_
     rintro _ w1284 ⟨rfl, hst⟩
     refine ⟨_, rfl, ?_⟩
     replace hst := hst.of1
     refine ws_next (pend' := [(7, .int .u64 (IntKind.u64.wrap t1277.1)), (4, .int .i64 x1272), (3, .pointer (some (eAddr (.slice (some ⟨b1262, 0, none⟩) 6 6) (t1267.1.toNat * 1 + 0)))), (0, (.slice (some ⟨b1262, 0, none⟩) 6 6))]) hst (by kernel_rfl) (pkr rfl rfl (fun w hst => by kernel_rfl) (pkr rfl rfl (fun w hst => x_load rfl Try.isAgg30 (hst.ol1 hi1276 (by rintro _ rfl; rfl))) (pkr rfl rfl (fun w hst => x_index rfl rfl Try.underlying78 Try.sizeOf30 hst.sv1 h1274 h1275) (pkr rfl rfl (fun w hst => rfl) pk_nil)))) ?_
     refine wsr (.int .u64 (IntKind.u64.wrap t1282.1)) 10 rfl rfl rfl (by kernel_rfl) (fun w hst => by kernel_rfl) ?_
     refine wsr (.agg #[.int .i64 x1272, .int .u64 (IntKind.u64.wrap t1277.1), .int .u64 (IntKind.u64.wrap t1282.1), (.slice none 0 0), (.slice none 0 0)]) 11 rfl rfl rfl (by kernel_rfl) (fun w hst => by kernel_rfl) ?_
     refine ws_e1 12 (by kernel_rfl) ?_
     refine nxe [13] (by kernel_rfl) rfl rfl ?_
     clear hst
     intro w hst
     obtain ⟨b1291, w1292, ew1293, eb1294, hst⟩ := hst.box [.int .i64 (0:Int), .int .u64 (0:Int), .int .u64 (0:Int), (.slice none 0 0), (.slice none 0 0)] 39
     refine we_run (v := .pointer (some ⟨b1291, 0, none⟩)) (w' := w1292) rfl (x_al (by kernel_rfl) ew1293 eb1294) ?_
     refine ws_next (pend' := [(11, .agg #[.int .i64 x1272, .int .u64 (IntKind.u64.wrap t1277.1), .int .u64 (IntKind.u64.wrap t1282.1), (.slice none 0 0), (.slice none 0 0)]), (10, .int .u64 (IntKind.u64.wrap t1282.1)), (7, .int .u64 (IntKind.u64.wrap t1277.1)), (4, .int .i64 x1272), (3, .pointer (some (eAddr (.slice (some ⟨b1262, 0, none⟩) 6 6) (t1267.1.toNat * 1 + 0)))), (0, (.slice (some ⟨b1262, 0, none⟩) 6 6))]) hst (by kernel_rfl) (pkr rfl rfl (fun w hst => by kernel_rfl) (pkr rfl rfl (fun w hst => by kernel_rfl) (pkr rfl rfl (fun w hst => by kernel_rfl) (pkr rfl rfl (fun w hst => x_load rfl Try.isAgg30 (hst.ol2 hi1276 (by rintro _ rfl; rfl))) (pkr rfl rfl (fun w hst => x_index rfl rfl Try.underlying78 Try.sizeOf30 hst.sv2 h1274 h1275) (pkr rfl rfl (fun w hst => rfl) pk_nil)))))) ?_
     refine ws_e1 13 (by kernel_rfl) ?_
     refine nxe [] (by kernel_rfl) rfl rfl ?_
     clear hst
     intro w hst
     obtain ⟨w1296, hr1297, hst⟩ := hst.boxStore (P := Try.prog) (t := 39) (cs' := [.int .i64 x1272, .int .u64 (IntKind.u64.wrap t1277.1), .int .u64 (IntKind.u64.wrap t1282.1), (.slice none 0 0), (.slice none 0 0)]) 0 (.agg #[.int .i64 x1272, .int .u64 (IntKind.u64.wrap t1277.1), .int .u64 (IntKind.u64.wrap t1282.1), (.slice none 0 0), (.slice none 0 0)]) Try.sizeOf39 (Nat.le_of_ble_eq_true rfl) (ones_cons rfl (ones_cons rfl (ones_cons rfl (ones_cons rfl (ones_cons rfl ones_nil))))) (by kernel_rfl)
     refine we_unit rfl (x_unit hr1297) ?_
     refine ws_next (pend' := []) hst (by kernel_rfl) pk_nil ?_
     refine ws_nil ?_
     intro w hst
     refine ⟨rfl, ?_⟩
     replace hst := hst.pull3
     replace hst := hst.pull2
     replace hst := hst.keep3
     obtain rfl := some_inj hm
     exact ⟨t1282.2, x1272, (IntKind.u64.wrap t1277.1), (IntKind.u64.wrap t1282.1), b1291, _, hx1375, ((fr_upd (t := 0) (v := p0) rfl).trans ((fr_upd (t := 2) (v := .pointer (some ⟨b1257, 0, none⟩)) rfl).trans ((fr_upd (t := 4) (v := .pointer (some ⟨b1291, 0, none⟩)) rfl).trans rfl))), hst⟩
    ·skip
     refine nxe [9, 10, 11, 13] (by kernel_rfl) rfl rfl ?_
     clear hst
     intro w hst
     obtain ⟨b1300, w1301, ew1302, eb1303, hst⟩ := hst.box [.int .i64 (0:Int), .int .u64 (0:Int), .int .u64 (0:Int), (.slice none 0 0), (.slice none 0 0)] 39
     refine we_run (v := .pointer (some ⟨b1300, 0, none⟩)) (w' := w1301) rfl (x_al (by kernel_rfl) ew1302 eb1303) ?_
     refine ws_next (pend' := [(7, .int .u64 (IntKind.u64.wrap t1277.1)), (4, .int .i64 x1272), (3, .pointer (some (eAddr (.slice (some ⟨b1262, 0, none⟩) 6 6) (t1267.1.toNat * 1 + 0)))), (8, p0), (0, (.slice (some ⟨b1262, 0, none⟩) 6 6))]) hst (by kernel_rfl) (pkr rfl rfl (fun w hst => by kernel_rfl) (pkr rfl rfl (fun w hst => x_load rfl Try.isAgg30 (hst.ol2 hi1276 (by rintro _ rfl; rfl))) (pkr rfl rfl (fun w hst => x_index rfl rfl Try.underlying78 Try.sizeOf30 hst.sv2 h1274 h1275) (pkr rfl rfl (fun w hst => rfl) (pkr rfl rfl (fun w hst => rfl) pk_nil))))) ?_
     refine ws_e1 9 (by kernel_rfl) ?_
     refine nxe [10, 11, 13] (by kernel_rfl) rfl rfl ?_
     clear hst
     intro w hst
     replace hst := hst.pull1
     obtain ⟨t1305, ht1306, hm⟩ := bind_some hm
     refine we_call rfl (x_call Try.call22 rfl (vs := [p0, .int .i64 (9:Int)]) rfl) ?_
     refine (ref12_Tape_Next_ref hst.to1 ht1306).mono ?_
     rintro _ w1307 ⟨rfl, hst⟩
     refine ⟨_, rfl, ?_⟩
     replace hst := hst.of1
     refine ws_next (pend' := [(7, .int .u64 (IntKind.u64.wrap t1277.1)), (4, .int .i64 x1272), (3, .pointer (some (eAddr (.slice (some ⟨b1262, 0, none⟩) 6 6) (t1267.1.toNat * 1 + 0)))), (0, (.slice (some ⟨b1262, 0, none⟩) 6 6))]) hst (by kernel_rfl) (pkr rfl rfl (fun w hst => by kernel_rfl) (pkr rfl rfl (fun w hst => x_load rfl Try.isAgg30 (hst.ol2 hi1276 (by rintro _ rfl; rfl))) (pkr rfl rfl (fun w hst => x_index rfl rfl Try.underlying78 Try.sizeOf30 hst.sv2 h1274 h1275) (pkr rfl rfl (fun w hst => rfl) pk_nil)))) ?_
     refine wsr (.int .u64 (IntKind.u64.wrap t1305.1)) 10 rfl rfl rfl (by kernel_rfl) (fun w hst => by kernel_rfl) ?_
     refine wsr (.agg #[.int .i64 x1272, .int .u64 (IntKind.u64.wrap t1277.1), .int .u64 (IntKind.u64.wrap t1305.1), (.slice none 0 0), (.slice none 0 0)]) 11 rfl rfl rfl (by kernel_rfl) (fun w hst => by kernel_rfl) ?_
     refine ws_e1 13 (by kernel_rfl) ?_
     refine nxe [] (by kernel_rfl) rfl rfl ?_
     clear hst
     intro w hst
     replace hst := hst.pull1
     obtain ⟨w1312, hr1313, hst⟩ := hst.boxStore (P := Try.prog) (t := 39) (cs' := [.int .i64 x1272, .int .u64 (IntKind.u64.wrap t1277.1), .int .u64 (IntKind.u64.wrap t1305.1), (.slice none 0 0), (.slice none 0 0)]) 0 (.agg #[.int .i64 x1272, .int .u64 (IntKind.u64.wrap t1277.1), .int .u64 (IntKind.u64.wrap t1305.1), (.slice none 0 0), (.slice none 0 0)]) Try.sizeOf39 (Nat.le_of_ble_eq_true rfl) (ones_cons rfl (ones_cons rfl (ones_cons rfl (ones_cons rfl (ones_cons rfl ones_nil))))) (by kernel_rfl)
     refine we_unit rfl (x_unit hr1313) ?_
     refine ws_next (pend' := []) hst (by kernel_rfl) pk_nil ?_
     refine ws_nil ?_
     intro w hst
     refine ⟨rfl, ?_⟩
     replace hst := hst.pull3
     replace hst := hst.pull2
     replace hst := hst.keep3
     obtain rfl := some_inj hm
     exact ⟨t1305.2, x1272, (IntKind.u64.wrap t1277.1), (IntKind.u64.wrap t1305.1), b1300, _, hx1375, ((fr_upd (t := 0) (v := p0) rfl).trans ((fr_upd (t := 2) (v := .pointer (some ⟨b1257, 0, none⟩)) rfl).trans ((fr_upd (t := 4) (v := .pointer (some ⟨b1300, 0, none⟩)) rfl).trans rfl))), hst⟩
   ·skip
    refine nxe [6, 7, 9, 10, 11, 13] (by kernel_rfl) rfl rfl ?_
    clear hst
    intro w hst
    obtain ⟨b1316, w1317, ew1318, eb1319, hst⟩ := hst.box [.int .i64 (0:Int), .int .u64 (0:Int), .int .u64 (0:Int), (.slice none 0 0), (.slice none 0 0)] 39
    refine we_run (v := .pointer (some ⟨b1316, 0, none⟩)) (w' := w1317) rfl (x_al (by kernel_rfl) ew1318 eb1319) ?_
    refine ws_next (pend' := [(4, .int .i64 x1272), (3, .pointer (some (eAddr (.slice (some ⟨b1262, 0, none⟩) 6 6) (t1267.1.toNat * 1 + 0)))), (8, p0), (5, p0), (0, (.slice (some ⟨b1262, 0, none⟩) 6 6))]) hst (by kernel_rfl) (pkr rfl rfl (fun w hst => x_load rfl Try.isAgg30 (hst.ol2 hi1276 (by rintro _ rfl; rfl))) (pkr rfl rfl (fun w hst => x_index rfl rfl Try.underlying78 Try.sizeOf30 hst.sv2 h1274 h1275) (pkr rfl rfl (fun w hst => rfl) (pkr rfl rfl (fun w hst => rfl) (pkr rfl rfl (fun w hst => rfl) pk_nil))))) ?_
    refine ws_e1 6 (by kernel_rfl) ?_
    refine nxe [7, 9, 10, 11, 13] (by kernel_rfl) rfl rfl ?_
    clear hst
    intro w hst
    replace hst := hst.pull1
    obtain ⟨t1321, ht1322, hm⟩ := bind_some hm
    refine we_call rfl (x_call Try.call22 rfl (vs := [p0, .int .i64 (4:Int)]) rfl) ?_
    refine (ref12_Tape_Next_ref hst.to1 ht1322).mono ?_
    rintro _ w1323 ⟨rfl, hst⟩
    refine ⟨_, rfl, ?_⟩
    replace hst := hst.of1
    refine ws_next (pend' := [(4, .int .i64 x1272), (3, .pointer (some (eAddr (.slice (some ⟨b1262, 0, none⟩) 6 6) (t1267.1.toNat * 1 + 0)))), (8, p0), (0, (.slice (some ⟨b1262, 0, none⟩) 6 6))]) hst (by kernel_rfl) (pkr rfl rfl (fun w hst => x_load rfl Try.isAgg30 (hst.ol2 hi1276 (by rintro _ rfl; rfl))) (pkr rfl rfl (fun w hst => x_index rfl rfl Try.underlying78 Try.sizeOf30 hst.sv2 h1274 h1275) (pkr rfl rfl (fun w hst => rfl) (pkr rfl rfl (fun w hst => rfl) pk_nil)))) ?_
    refine wsr (.int .u64 (IntKind.u64.wrap t1321.1)) 7 rfl rfl rfl (by kernel_rfl) (fun w hst => by kernel_rfl) ?_
    refine ws_e1 9 (by kernel_rfl) ?_
    refine nxe [10, 11, 13] (by kernel_rfl) rfl rfl ?_
    clear hst
    intro w hst
    obtain ⟨t1326, ht1327, hm⟩ := bind_some hm
    refine we_call rfl (x_call Try.call22 rfl (vs := [p0, .int .i64 (9:Int)]) rfl) ?_
    refine (ref12_Tape_Next_ref hst.to1 ht1327).mono ?_
    rintro _ w1328 ⟨rfl, hst⟩
    refine ⟨_, rfl, ?_⟩
    replace hst := hst.of1
    refine ws_next (pend' := [(7, .int .u64 (IntKind.u64.wrap t1321.1)), (4, .int .i64 x1272), (3, .pointer (some (eAddr (.slice (some ⟨b1262, 0, none⟩) 6 6) (t1267.1.toNat * 1 + 0)))), (0, (.slice (some ⟨b1262, 0, none⟩) 6 6))]) hst (by kernel_rfl) (pkr rfl rfl (fun w hst => by kernel_rfl) (pkr rfl rfl (fun w hst => x_load rfl Try.isAgg30 (hst.ol2 hi1276 (by rintro _ rfl; rfl))) (pkr rfl rfl (fun w hst => x_index rfl rfl Try.underlying78 Try.sizeOf30 hst.sv2 h1274 h1275) (pkr rfl rfl (fun w hst => rfl) pk_nil)))) ?_
    refine wsr (.int .u64 (IntKind.u64.wrap t1326.1)) 10 rfl rfl rfl (by kernel_rfl) (fun w hst => by kernel_rfl) ?_
    refine wsr (.agg #[.int .i64 x1272, .int .u64 (IntKind.u64.wrap t1321.1), .int .u64 (IntKind.u64.wrap t1326.1), (.slice none 0 0), (.slice none 0 0)]) 11 rfl rfl rfl (by kernel_rfl) (fun w hst => by kernel_rfl) ?_
    refine ws_e1 13 (by kernel_rfl) ?_
    refine nxe [] (by kernel_rfl) rfl rfl ?_
    clear hst
    intro w hst
    replace hst := hst.pull1
    obtain ⟨w1333, hr1334, hst⟩ := hst.boxStore (P := Try.prog) (t := 39) (cs' := [.int .i64 x1272, .int .u64 (IntKind.u64.wrap t1321.1), .int .u64 (IntKind.u64.wrap t1326.1), (.slice none 0 0), (.slice none 0 0)]) 0 (.agg #[.int .i64 x1272, .int .u64 (IntKind.u64.wrap t1321.1), .int .u64 (IntKind.u64.wrap t1326.1), (.slice none 0 0), (.slice none 0 0)]) Try.sizeOf39 (Nat.le_of_ble_eq_true rfl) (ones_cons rfl (ones_cons rfl (ones_cons rfl (ones_cons rfl (ones_cons rfl ones_nil))))) (by kernel_rfl)
    refine we_unit rfl (x_unit hr1334) ?_
    refine ws_next (pend' := []) hst (by kernel_rfl) pk_nil ?_
    refine ws_nil ?_
    intro w hst
    refine ⟨rfl, ?_⟩
    replace hst := hst.pull3
    replace hst := hst.pull2
    replace hst := hst.keep3
    obtain rfl := some_inj hm
    exact ⟨t1326.2, x1272, (IntKind.u64.wrap t1321.1), (IntKind.u64.wrap t1326.1), b1316, _, hx1375, ((fr_upd (t := 0) (v := p0) rfl).trans ((fr_upd (t := 2) (v := .pointer (some ⟨b1257, 0, none⟩)) rfl).trans ((fr_upd (t := 4) (v := .pointer (some ⟨b1316, 0, none⟩)) rfl).trans rfl))), hst⟩
  ·skip
   refine nxe [2, 3, 4, 6, 7, 9, 10, 11, 13] (by kernel_rfl) rfl rfl ?_
   clear hst
   intro w hst
   obtain ⟨b1337, w1338, ew1339, eb1340, hst⟩ := hst.box [.int .i64 (0:Int), .int .u64 (0:Int), .int .u64 (0:Int), (.slice none 0 0), (.slice none 0 0)] 39
   refine we_run (v := .pointer (some ⟨b1337, 0, none⟩)) (w' := w1338) rfl (x_al (by kernel_rfl) ew1339 eb1340) ?_
   refine ws_next (pend' := [(8, p0), (5, p0), (1, p0), (0, (.slice (some ⟨b1262, 0, none⟩) 6 6))]) hst (by kernel_rfl) (pkr rfl rfl (fun w hst => rfl) (pkr rfl rfl (fun w hst => rfl) (pkr rfl rfl (fun w hst => rfl) (pkr rfl rfl (fun w hst => rfl) pk_nil)))) ?_
   refine ws_e1 2 (by kernel_rfl) ?_
   refine nxe [3, 4, 6, 7, 9, 10, 11, 13] (by kernel_rfl) rfl rfl ?_
   clear hst
   intro w hst
   replace hst := hst.pull3
   obtain ⟨t1342, ht1343, hm⟩ := bind_some hm
   refine we_call rfl (x_call Try.call22 rfl (vs := [p0, .int .i64 (6:Int)]) rfl) ?_
   refine (ref12_Tape_Next_ref hst.to1 ht1343).mono ?_
   rintro _ w1344 ⟨rfl, hst⟩
   refine ⟨_, rfl, ?_⟩
   replace hst := hst.of1
   refine ws_next (pend' := [(8, p0), (5, p0), (0, (.slice (some ⟨b1262, 0, none⟩) 6 6))]) hst (by kernel_rfl) (pkr rfl rfl (fun w hst => rfl) (pkr rfl rfl (fun w hst => rfl) (pkr rfl rfl (fun w hst => rfl) pk_nil))) ?_
   obtain ⟨x1347, hx1348, hm⟩ := bind_some hm
   obtain ⟨h1349, h1350, hi1351⟩ := geto_some hx1348
   refine wsr (.pointer (some (eAddr (.slice (some ⟨b1262, 0, none⟩) 6 6) (t1342.1.toNat * 1 + 0)))) 3 rfl rfl rfl (by kernel_rfl) (fun w hst => x_index rfl rfl Try.underlying78 Try.sizeOf30 hst.sv2 h1349 h1350) ?_
   refine wsr (.int .i64 x1347) 4 rfl rfl rfl (by kernel_rfl) (fun w hst => x_load rfl Try.isAgg30 (hst.ol2 hi1351 (by rintro _ rfl; rfl))) ?_
   refine ws_e1 6 (by kernel_rfl) ?_
   refine nxe [7, 9, 10, 11, 13] (by kernel_rfl) rfl rfl ?_
   clear hst
   intro w hst
   obtain ⟨t1352, ht1353, hm⟩ := bind_some hm
   refine we_call rfl (x_call Try.call22 rfl (vs := [p0, .int .i64 (4:Int)]) rfl) ?_
   refine (ref12_Tape_Next_ref hst.to1 ht1353).mono ?_
   rintro _ w1354 ⟨rfl, hst⟩
   refine ⟨_, rfl, ?_⟩
   replace hst := hst.of1
   refine ws_next (pend' := [(4, .int .i64 x1347), (3, .pointer (some (eAddr (.slice (some ⟨b1262, 0, none⟩) 6 6) (t1342.1.toNat * 1 + 0)))), (8, p0), (0, (.slice (some ⟨b1262, 0, none⟩) 6 6))]) hst (by kernel_rfl) (pkr rfl rfl (fun w hst => x_load rfl Try.isAgg30 (hst.ol2 hi1351 (by rintro _ rfl; rfl))) (pkr rfl rfl (fun w hst => x_index rfl rfl Try.underlying78 Try.sizeOf30 hst.sv2 h1349 h1350) (pkr rfl rfl (fun w hst => rfl) (pkr rfl rfl (fun w hst => rfl) pk_nil)))) ?_
   refine wsr (.int .u64 (IntKind.u64.wrap t1352.1)) 7 rfl rfl rfl (by kernel_rfl) (fun w hst => by kernel_rfl) ?_
   refine ws_e1 9 (by kernel_rfl) ?_
   refine nxe [10, 11, 13] (by kernel_rfl) rfl rfl ?_
   clear hst
   intro w hst
   obtain ⟨t1357, ht1358, hm⟩ := bind_some hm
   refine we_call rfl (x_call Try.call22 rfl (vs := [p0, .int .i64 (9:Int)]) rfl) ?_
   refine (ref12_Tape_Next_ref hst.to1 ht1358).mono ?_
   rintro _ w1359 ⟨rfl, hst⟩
   refine ⟨_, rfl, ?_⟩
   replace hst := hst.of1
   refine ws_next (pend' := [(7, .int .u64 (IntKind.u64.wrap t1352.1)), (4, .int .i64 x1347), (3, .pointer (some (eAddr (.slice (some ⟨b1262, 0, none⟩) 6 6) (t1342.1.toNat * 1 + 0)))), (0, (.slice (some ⟨b1262, 0, none⟩) 6 6))]) hst (by kernel_rfl) (pkr rfl rfl (fun w hst => by kernel_rfl) (pkr rfl rfl (fun w hst => x_load rfl Try.isAgg30 (hst.ol2 hi1351 (by rintro _ rfl; rfl))) (pkr rfl rfl (fun w hst => x_index rfl rfl Try.underlying78 Try.sizeOf30 hst.sv2 h1349 h1350) (pkr rfl rfl (fun w hst => rfl) pk_nil)))) ?_
   refine wsr (.int .u64 (IntKind.u64.wrap t1357.1)) 10 rfl rfl rfl (by kernel_rfl) (fun w hst => by kernel_rfl) ?_
   refine wsr (.agg #[.int .i64 x1347, .int .u64 (IntKind.u64.wrap t1352.1), .int .u64 (IntKind.u64.wrap t1357.1), (.slice none 0 0), (.slice none 0 0)]) 11 rfl rfl rfl (by kernel_rfl) (fun w hst => by kernel_rfl) ?_
   refine ws_e1 13 (by kernel_rfl) ?_
   refine nxe [] (by kernel_rfl) rfl rfl ?_
   clear hst
   intro w hst
   replace hst := hst.pull1
   obtain ⟨w1364, hr1365, hst⟩ := hst.boxStore (P := Try.prog) (t := 39) (cs' := [.int .i64 x1347, .int .u64 (IntKind.u64.wrap t1352.1), .int .u64 (IntKind.u64.wrap t1357.1), (.slice none 0 0), (.slice none 0 0)]) 0 (.agg #[.int .i64 x1347, .int .u64 (IntKind.u64.wrap t1352.1), .int .u64 (IntKind.u64.wrap t1357.1), (.slice none 0 0), (.slice none 0 0)]) Try.sizeOf39 (Nat.le_of_ble_eq_true rfl) (ones_cons rfl (ones_cons rfl (ones_cons rfl (ones_cons rfl (ones_cons rfl ones_nil))))) (by kernel_rfl)
   refine we_unit rfl (x_unit hr1365) ?_
   refine ws_next (pend' := []) hst (by kernel_rfl) pk_nil ?_
   refine ws_nil ?_
   intro w hst
   refine ⟨rfl, ?_⟩
   replace hst := hst.pull3
   replace hst := hst.pull2
   replace hst := hst.keep3
   obtain rfl := some_inj hm
   exact ⟨t1357.2, x1347, (IntKind.u64.wrap t1352.1), (IntKind.u64.wrap t1357.1), b1337, _, hx1375, ((fr_upd (t := 0) (v := p0) rfl).trans ((fr_upd (t := 2) (v := .pointer (some ⟨b1257, 0, none⟩)) rfl).trans ((fr_upd (t := 4) (v := .pointer (some ⟨b1337, 0, none⟩)) rfl).trans rfl))), hst⟩
 ·skip
  clear hst
  rintro _ w1376 ⟨z1366, z1369, z1370, z1371, b1368, σ1372, hm, rfl, hst⟩
  dsimp only [ref13_OfReply_j0] at hm
  refine then_n (wp_seq (wp_region_lit ?_))
  refine wv (p0) rfl rfl rfl ?_
  obtain ⟨t1377, ht1378, hm⟩ := bind_some hm
  refine wl_call rfl rfl (x_call Try.call22 rfl (vs := [p0, .int .i64 (3:Int)]) rfl) ?_
  refine (ref12_Tape_Next_ref hst.to1 ht1378).mono ?_
  rintro _ w1379 ⟨rfl, hst⟩
  refine ⟨_, rfl, ?_⟩
  replace hst := hst.of1
  refine wv (.int .i64 t1377.1) rfl rfl rfl ?_
  refine wl_nil (then_n ?_)
  obtain ⟨y1524, hm, hx1525⟩ := bind_some hm
  refine wp_cut (fun a w => ∃ (I1521 : HL) (z1517 : ref12_Tape) (z1520 : (List api_Got)) (v1519 : Value) (σ1522 : Nat → Value), (ref13_OfReply_j1 z1369 z1370 z1371) (z1517, z1520) = some r ∧ a = Fr 72 (upd (upd (upd σ1522 0 (p0)) 2 (.pointer (some ⟨b1257, 0, none⟩))) 4 (.pointer (some ⟨b1368, 0, none⟩))) ∧ I.le I1521 ∧ St w0 w I1521 [at_ref12_Tape p0 z1517, cells b1257 [.int .i64 (0:Int), .int .u64 (0:Int), .int .u64 (0:Int), (.slice none 0 0), (.slice none 0 0)], cells b1368 [.int .i64 z1369, .int .u64 z1370, .int .u64 z1371, v1519, (.slice none 0 0)], ownS ty_api_Got v1519 z1520] R) ?_ ?_
  ·skip
   have hL1526 := HL.le.refl I
   refine wp_seq (wp_region_lit ?_)
   refine wv (.int .i64 (0:Int)) rfl rfl rfl ?_
   refine wl_nil (then_n (wp_block ?_))
   replace hst := hst.own_nil ty_api_Got
   obtain ⟨n1481, hm⟩ := loopO_some hm
   refine wp_loop_n (fun n a w => ∃ (I1479 : HL) (z1474 : (List api_Got)) (z1477 : ref12_Tape) (z1478 : Int) (v1475 : Value) (σ1480 : Nat → Value), loopN (ref13_OfReply_l2 t1377) n (z1474, z1477, z1478) = some y1524 ∧ a = Fr 72 (upd (upd (upd (upd (upd σ1480 0 (p0)) 2 (.pointer (some ⟨b1257, 0, none⟩))) 4 (.pointer (some ⟨b1368, 0, none⟩))) 5 (.int .i64 t1377.1)) 6 (.int .i64 z1478)) ∧ I.le I1479 ∧ St w0 w I1479 [ownS ty_api_Got v1475 z1474, at_ref12_Tape p0 z1477, cells b1257 [.int .i64 (0:Int), .int .u64 (0:Int), .int .u64 (0:Int), (.slice none 0 0), (.slice none 0 0)], cells b1368 [.int .i64 z1369, .int .u64 z1370, .int .u64 z1371, v1475, (.slice none 0 0)]] R) n1481 ⟨_, [], t1377.2, (0:Int), (.slice none 0 0), _, hm, ((fr_upd (t := 0) (v := p0) rfl).trans ((fr_upd (t := 2) (v := .pointer (some ⟨b1257, 0, none⟩)) rfl).trans ((fr_upd (t := 4) (v := .pointer (some ⟨b1368, 0, none⟩)) rfl).trans ((fr_upd (t := 5) (v := .int .i64 t1377.1) rfl).trans ((fr_upd (t := 6) (v := .int .i64 (0:Int)) rfl).trans rfl))))), (HL.le.refl _), hst⟩ ?_
   rintro n1487 _ w1482 ⟨I1479, z1474, z1477, z1478, v1475, σ1480, hm, rfl, hL1483, hst⟩
   obtain ⟨n1484, y1485, rfl, hm, hx1486⟩ := loopN_some hm
   dsimp only [ref13_OfReply_l2] at hm
   replace hI0 := hI0.trans hL1483
   replace hL1526 := hL1526.trans hL1483
   refine wp_seq (wp_seq (wp_region_lit ?_))
   refine wv (.int .i64 z1478) rfl rfl rfl ?_
   refine wv (.int .i64 t1377.1) rfl rfl rfl ?_
   refine wv (.bool (decide (z1478 < t1377.1))) rfl rfl rfl ?_
   refine wl_nil (then_n ?_)
   refine bsplit (decide (z1478 < t1377.1)) (fun hc1488 => ?_) (fun hc1488 => ?_)
   ·skip
    replace hm := bif_t hc1488 hm
    refine wp_ift (congrArg Value.bool hc1488) ?_
    refine wp_skip (then_n (wp_seq (wp_block ?_)))
    refine wp_region_St hst 12 [0, 1, 2, 3, 4, 5, 6, 7, 8, 9, 10, 11] [0, 1, 0, 4, 12, 0, 44, 124, 252, 511, 1023, 2047] [] rfl (by kernel_rfl) (by kernel_rfl) Try.mixed (by kernel_rfl) ?_
    refine wsr (.pointer (some ⟨b1368, 3, none⟩)) 0 rfl rfl rfl (by kernel_rfl) (fun w hst => x_field rfl Try.underlying39 rfl Try.sizeOf36 rfl) ?_
    refine wsr (v1475) 1 rfl rfl rfl (by kernel_rfl) (fun w hst => x_load rfl Try.isAgg36 (hst.bc3 rfl)) ?_
    refine wsr (p0) 2 rfl rfl rfl (by kernel_rfl) (fun w hst => rfl) ?_
    refine wsr (p0) 5 rfl rfl rfl (by kernel_rfl) (fun w hst => rfl) ?_
    refine ws_e1 3 (by kernel_rfl) ?_
    refine nxe [4, 6, 7, 8, 9, 10, 11] (by kernel_rfl) rfl rfl ?_
    clear hst
    intro w hst
    replace hst := hst.pull1
    obtain ⟨t1489, ht1490, hm⟩ := bind_some hm
    refine we_call rfl (x_call Try.call22 rfl (vs := [p0, .int .i64 (2:Int)]) rfl) ?_
    refine (ref12_Tape_Next_ref hst.to1 ht1490).mono ?_
    rintro _ w1491 ⟨rfl, hst⟩
    refine ⟨_, rfl, ?_⟩
    replace hst := hst.of1
    refine ws_next (pend' := [(5, p0), (1, v1475), (0, .pointer (some ⟨b1368, 3, none⟩))]) hst (by kernel_rfl) (pkr rfl rfl (fun w hst => rfl) (pkr rfl rfl (fun w hst => x_load rfl Try.isAgg36 (hst.bc3 rfl)) (pkr rfl rfl (fun w hst => x_field rfl Try.underlying39 rfl Try.sizeOf36 rfl) pk_nil))) ?_
    refine wsr (.bool (t1489.1 == (0:Int))) 4 rfl rfl rfl (by kernel_rfl) (fun w hst => rfl) ?_
    refine ws_e1 6 (by kernel_rfl) ?_
    refine nxe [7, 8, 9, 10, 11] (by kernel_rfl) rfl rfl ?_
    clear hst
    intro w hst
    obtain ⟨t1494, ht1495, hm⟩ := bind_some hm
    refine we_call rfl (x_call Try.call36 rfl (vs := [p0]) rfl) ?_
    refine (ref12_Tape_Val_ref hst.to1 ht1495).mono ?_
    rintro _ w1496 ⟨v1499, rfl, hst⟩
    refine ⟨_, rfl, ?_⟩
    replace hst := hst.of2
    refine ws_next (pend' := [(4, .bool (t1489.1 == (0:Int))), (1, v1475), (0, .pointer (some ⟨b1368, 3, none⟩))]) hst (by kernel_rfl) (pkr rfl rfl (fun w hst => rfl) (pkr rfl rfl (fun w hst => x_load rfl Try.isAgg36 (hst.bc4 rfl)) (pkr rfl rfl (fun w hst => x_field rfl Try.underlying39 rfl Try.sizeOf36 rfl) pk_nil))) ?_
    refine wsr (.agg #[.bool (t1489.1 == (0:Int)), v1499]) 7 rfl rfl rfl (by kernel_rfl) (fun w hst => by obtain ⟨_, _, hv_, _⟩ := hst.sv0; rw [hv_]; kernel_rfl) ?_
    refine ws_e1 8 (by kernel_rfl) ?_
    refine nxe [9, 10, 11] (by kernel_rfl) rfl rfl ?_
    clear hst
    intro w hst
    obtain ⟨I1503, hI1504, f1505, hst⟩ := hst.own_fix
    replace hI0 := hI0.trans hI1504
    replace hL1526 := hL1526.trans hI1504
    replace hL1483 := hL1483.trans hI1504
    obtain ⟨b1506, w1507, ew1508, eb1509, hst⟩ := hst.lits (E := ty_api_Got) (xs := [({ Has := (t1489.1 == (0:Int)), Val := t1494.1 } : api_Got)]) [[.bool (t1489.1 == (0:Int)), v1499]] 51 1 rfl (Reps.cons ⟨_, rfl, f1505, one_of_sliceV (ro_sliceV f1505)⟩ Reps.nil)
    refine we_run (v := (.slice (some ⟨b1506, 0, none⟩) 1 1)) (w' := w1507) rfl (x_als (by kernel_rfl) ew1508 eb1509) ?_
    refine ws_next (pend' := [(1, v1475), (0, .pointer (some ⟨b1368, 3, none⟩))]) hst (by kernel_rfl) (pkr rfl rfl (fun w hst => x_load rfl Try.isAgg36 (hst.bc4 rfl)) (pkr rfl rfl (fun w hst => x_field rfl Try.underlying39 rfl Try.sizeOf36 rfl) pk_nil)) ?_
    refine ws_e1 9 (by kernel_rfl) ?_
    refine nxe [10, 11] (by kernel_rfl) rfl rfl ?_
    clear hst
    intro w hst
    obtain ⟨hg1511, hm⟩ := gd_some hm
    replace hst := hst.pull2
    obtain ⟨v1512, w1513, hr1514, hst⟩ := run_append elem_36 Try.underlying36 hst hst.src1 (room_of hg1511 rfl) 36
    refine we_run (v := v1512) (w' := w1513) rfl (x_append rfl rfl hr1514) ?_
    refine ws_next (pend' := []) hst (by kernel_rfl) pk_nil ?_
    refine wsr (.pointer (some ⟨b1368, 3, none⟩)) 10 rfl rfl rfl (by kernel_rfl) (fun w hst => x_field rfl Try.underlying39 rfl Try.sizeOf36 rfl) ?_
    refine ws_e1 11 (by kernel_rfl) ?_
    refine nxe [] (by kernel_rfl) rfl rfl ?_
    clear hst
    intro w hst
    replace hst := hst.pull4
    obtain ⟨w1515, hr1516, hst⟩ := hst.boxStore1 (P := Try.prog) (t := 36) (cs' := [.int .i64 z1369, .int .u64 z1370, .int .u64 z1371, v1512, (.slice none 0 0)]) 3 v1512 (one_of_sliceV hst.sv1) Try.sizeOf36 rfl rfl
    refine we_unit rfl (x_unit hr1516) ?_
    refine ws_next (pend' := []) hst (by kernel_rfl) pk_nil ?_
    refine ws_nil ?_
    intro w hst
    refine blk_n (then_n (wp_region_lit ?_))
    refine wv (.int .i64 z1478) rfl rfl rfl ?_
    refine wv (.int .i64 (IntKind.i64.wrap (z1478 + (1:Int)))) rfl rfl rfl ?_
    refine wv (.int .i64 (IntKind.i64.wrap (z1478 + (1:Int)))) rfl rfl rfl ?_
    refine wl_nil (then_n ?_)
    replace hst := hst.pull4
    replace hst := hst.pull4
    replace hst := hst.pull3
    replace hst := hst.keep4
    obtain rfl := some_inj hm
    exact ⟨_, Nat.lt_succ_self _, _, (z1474 ++ ([({ Has := (t1489.1 == (0:Int)), Val := t1494.1 } : api_Got)])), t1494.2, (IntKind.i64.wrap (z1478 + (1:Int))), v1512, _, hx1486, ((fr_upd (t := 0) (v := p0) rfl).trans ((fr_upd (t := 2) (v := .pointer (some ⟨b1257, 0, none⟩)) rfl).trans ((fr_upd (t := 4) (v := .pointer (some ⟨b1368, 0, none⟩)) rfl).trans ((fr_upd (t := 5) (v := .int .i64 t1377.1) rfl).trans ((fr_upd (t := 6) (v := .int .i64 (IntKind.i64.wrap (z1478 + (1:Int)))) rfl).trans rfl))))), hL1483, hst⟩
   ·skip
    replace hm := bif_f hc1488 hm
    refine wp_iff (congrArg Value.bool hc1488) ?_
    refine wp_exit (then_x (then_x ?_))
    replace hm := inr_up hm hx1486
    refine blk_x (then_n ?_)
    replace hst := hst.pull3
    replace hst := hst.pull3
    replace hst := hst.pull3
    replace hst := hst.keep4
    obtain rfl := some_inj hm
    exact ⟨_, z1477, z1474, v1475, _, hx1525, ((fr_upd (t := 0) (v := p0) rfl).trans ((fr_upd (t := 2) (v := .pointer (some ⟨b1257, 0, none⟩)) rfl).trans ((fr_upd (t := 4) (v := .pointer (some ⟨b1368, 0, none⟩)) rfl).trans rfl))), hL1526, hst⟩
  ·skip
   clear hst
   rintro _ w1527 ⟨I1521, z1517, z1520, v1519, σ1522, hm, rfl, hL1523, hst⟩
   dsimp only [ref13_OfReply_j1] at hm
   replace hI0 := hI0.trans hL1523
   refine wp_seq (wp_region_lit ?_)
   refine wv (p0) rfl rfl rfl ?_
   obtain ⟨t1528, ht1529, hm⟩ := bind_some hm
   refine wl_call rfl rfl (x_call Try.call22 rfl (vs := [p0, .int .i64 (3:Int)]) rfl) ?_
   refine (ref12_Tape_Next_ref hst.to1 ht1529).mono ?_
   rintro _ w1530 ⟨rfl, hst⟩
   refine ⟨_, rfl, ?_⟩
   replace hst := hst.of1
   refine wv (.int .i64 (IntKind.i64.wrap (Int.tdiv t1528.1 (2:Int)))) rfl rfl (x_quo (by decide) rfl rfl) ?_
   refine wv (.int .i64 (IntKind.i64.wrap (Int.tdiv t1528.1 (2:Int)))) rfl rfl rfl ?_
   refine wl_nil (then_n (wp_seq (wp_seq (wp_region_lit ?_))))
   refine wv (.int .i64 (0:Int)) rfl rfl rfl ?_
   refine wl_nil (then_n (wp_block ?_))
   replace hst := hst.own_nil (tySl ty_api_Pair)
   obtain ⟨n2025, hm⟩ := loopO_some hm
   refine wp_loop_n (fun n a w => ∃ (I2023 : HL) (z2018 : (List (List api_Pair))) (z2021 : ref12_Tape) (z2022 : Int) (v2019 : Value) (σ2024 : Nat → Value), loopN (ref13_OfReply_l3 t1528 z1369 z1370 z1371 z1520) n (z2018, z2021, z2022) = some r ∧ a = Fr 72 (upd (upd (upd (upd (upd σ2024 0 (p0)) 2 (.pointer (some ⟨b1257, 0, none⟩))) 4 (.pointer (some ⟨b1368, 0, none⟩))) 5 (.int .i64 (IntKind.i64.wrap (Int.tdiv t1528.1 (2:Int))))) 7 (.int .i64 z2022)) ∧ I1521.le I2023 ∧ St w0 w I2023 [ownS (tySl ty_api_Pair) v2019 z2018, at_ref12_Tape p0 z2021, cells b1257 [.int .i64 (0:Int), .int .u64 (0:Int), .int .u64 (0:Int), (.slice none 0 0), (.slice none 0 0)], cells b1368 [.int .i64 z1369, .int .u64 z1370, .int .u64 z1371, v1519, v2019], ownS ty_api_Got v1519 z1520] R) n2025 ⟨_, [], t1528.2, (0:Int), (.slice none 0 0), _, hm, ((fr_upd (t := 0) (v := p0) rfl).trans ((fr_upd (t := 2) (v := .pointer (some ⟨b1257, 0, none⟩)) rfl).trans ((fr_upd (t := 4) (v := .pointer (some ⟨b1368, 0, none⟩)) rfl).trans ((fr_upd (t := 5) (v := .int .i64 (IntKind.i64.wrap (Int.tdiv t1528.1 (2:Int)))) rfl).trans ((fr_upd (t := 7) (v := .int .i64 (0:Int)) rfl).trans rfl))))), (HL.le.refl _), hst⟩ ?_
   rintro n2031 _ w2026 ⟨I2023, z2018, z2021, z2022, v2019, σ2024, hm, rfl, hL2027, hst⟩
   obtain ⟨n2028, y2029, rfl, hm, hx2030⟩ := loopN_some hm
   dsimp only [ref13_OfReply_l3] at hm
   replace hI0 := hI0.trans hL2027
   refine wp_seq (wp_seq (wp_region_lit ?_))
   refine wv (.int .i64 z2022) rfl rfl rfl ?_
   refine wv (.int .i64 (IntKind.i64.wrap (Int.tdiv t1528.1 (2:Int)))) rfl rfl rfl ?_
   refine wv (.bool (decide (z2022 < (IntKind.i64.wrap (Int.tdiv t1528.1 (2:Int)))))) rfl rfl rfl ?_
   refine wl_nil (then_n ?_)
   refine bsplit (decide (z2022 < (IntKind.i64.wrap (Int.tdiv t1528.1 (2:Int))))) (fun hc2032 => ?_) (fun hc2032 => ?_)
   ·skip
    replace hm := bif_t hc2032 hm
    refine wp_ift (congrArg Value.bool hc2032) ?_
    refine wp_skip (then_n (wp_seq (wp_block (wp_seq (wp_region_lit ?_)))))
    refine wv ((.slice none 0 0)) rfl rfl rfl ?_
    refine wl_nil (then_n (wp_seq (wp_region_lit ?_)))
    refine wv (p0) rfl rfl rfl ?_
    replace hst := hst.pull1
    obtain ⟨t2034, ht2035, hm⟩ := bind_some hm
    refine wl_call rfl rfl (x_call Try.call22 rfl (vs := [p0, .int .i64 (3:Int)]) rfl) ?_
    refine (ref12_Tape_Next_ref hst.to1 ht2035).mono ?_
    rintro _ w2036 ⟨rfl, hst⟩
    refine ⟨_, rfl, ?_⟩
    replace hst := hst.of1
    refine wv (.int .i64 t2034.1) rfl rfl rfl ?_
    refine wl_nil (then_n ?_)
    obtain ⟨y2173, hm, hx2174⟩ := bind_some hm
    refine wp_cut (fun a w => ∃ (I2170 : HL) (z2166 : ref12_Tape) (z2169 : (List api_Pair)) (v2168 : Value) (σ2171 : Nat → Value), (ref13_OfReply_j4 z2018 z2022) (z2166, z2169) = some y2029 ∧ a = Fr 72 (upd (upd (upd (upd (upd (upd σ2171 0 (p0)) 2 (.pointer (some ⟨b1257, 0, none⟩))) 4 (.pointer (some ⟨b1368, 0, none⟩))) 5 (.int .i64 (IntKind.i64.wrap (Int.tdiv t1528.1 (2:Int))))) 7 (.int .i64 z2022)) 8 (v2168)) ∧ I2023.le I2170 ∧ St w0 w I2170 [at_ref12_Tape p0 z2166, cells b1257 [.int .i64 (0:Int), .int .u64 (0:Int), .int .u64 (0:Int), (.slice none 0 0), (.slice none 0 0)], cells b1368 [.int .i64 z1369, .int .u64 z1370, .int .u64 z1371, v1519, v2019], ownS ty_api_Got v1519 z1520, ownS (tySl ty_api_Pair) v2019 z2018, ownS ty_api_Pair v2168 z2169] R) ?_ ?_
    ·skip
     have hL2175 := HL.le.refl I2023
     refine wp_seq (wp_region_lit ?_)
     refine wv (.int .i64 (0:Int)) rfl rfl rfl ?_
     refine wl_nil (then_n (wp_block ?_))
     replace hst := hst.own_nil ty_api_Pair
     obtain ⟨n2132, hm⟩ := loopO_some hm
     refine wp_loop_n (fun n a w => ∃ (I2130 : HL) (z2125 : ref12_Tape) (z2126 : Int) (z2127 : (List api_Pair)) (v2128 : Value) (σ2131 : Nat → Value), loopN (ref13_OfReply_l5 t2034) n (z2125, z2126, z2127) = some y2173 ∧ a = Fr 72 (upd (upd (upd (upd (upd (upd (upd (upd σ2131 0 (p0)) 2 (.pointer (some ⟨b1257, 0, none⟩))) 4 (.pointer (some ⟨b1368, 0, none⟩))) 5 (.int .i64 (IntKind.i64.wrap (Int.tdiv t1528.1 (2:Int))))) 7 (.int .i64 z2022)) 8 (v2128)) 9 (.int .i64 t2034.1)) 10 (.int .i64 z2126)) ∧ I2023.le I2130 ∧ St w0 w I2130 [ownS ty_api_Pair v2128 z2127, at_ref12_Tape p0 z2125, ownS (tySl ty_api_Pair) v2019 z2018, cells b1257 [.int .i64 (0:Int), .int .u64 (0:Int), .int .u64 (0:Int), (.slice none 0 0), (.slice none 0 0)], cells b1368 [.int .i64 z1369, .int .u64 z1370, .int .u64 z1371, v1519, v2019], ownS ty_api_Got v1519 z1520] R) n2132 ⟨_, t2034.2, (0:Int), [], (.slice none 0 0), _, hm, ((fr_upd (t := 0) (v := p0) rfl).trans ((fr_upd (t := 2) (v := .pointer (some ⟨b1257, 0, none⟩)) rfl).trans ((fr_upd (t := 4) (v := .pointer (some ⟨b1368, 0, none⟩)) rfl).trans ((fr_upd (t := 5) (v := .int .i64 (IntKind.i64.wrap (Int.tdiv t1528.1 (2:Int)))) rfl).trans ((fr_upd (t := 7) (v := .int .i64 z2022) rfl).trans ((fr_upd (t := 8) (v := (.slice none 0 0)) rfl).trans ((fr_upd (t := 9) (v := .int .i64 t2034.1) rfl).trans ((fr_upd (t := 10) (v := .int .i64 (0:Int)) rfl).trans rfl)))))))), (HL.le.refl _), hst⟩ ?_
     rintro n2138 _ w2133 ⟨I2130, z2125, z2126, z2127, v2128, σ2131, hm, rfl, hL2134, hst⟩
     obtain ⟨n2135, y2136, rfl, hm, hx2137⟩ := loopN_some hm
     dsimp only [ref13_OfReply_l5] at hm
     replace hI0 := hI0.trans hL2134
     replace hL2027 := hL2027.trans hL2134
     replace hL2175 := hL2175.trans hL2134
     refine wp_seq (wp_seq (wp_region_lit ?_))
     refine wv (.int .i64 z2126) rfl rfl rfl ?_
     refine wv (.int .i64 t2034.1) rfl rfl rfl ?_
     refine wv (.bool (decide (z2126 < t2034.1))) rfl rfl rfl ?_
     refine wl_nil (then_n ?_)
     refine bsplit (decide (z2126 < t2034.1)) (fun hc2139 => ?_) (fun hc2139 => ?_)
     ·skip
      replace hm := bif_t hc2139 hm
      refine wp_ift (congrArg Value.bool hc2139) ?_
      refine wp_skip (then_n (wp_seq (wp_block (wp_region_lit ?_))))
      refine wv (v2128) rfl rfl rfl ?_
      refine wv (p0) rfl rfl rfl ?_
      replace hst := hst.pull1
      obtain ⟨t2140, ht2141, hm⟩ := bind_some hm
      refine wl_call rfl rfl (x_call Try.call37 rfl (vs := [p0]) rfl) ?_
      refine (ref12_Tape_Float_ref hst.to1 ht2141).mono ?_
      rintro _ w2142 ⟨rfl, hst⟩
      refine ⟨_, rfl, ?_⟩
      replace hst := hst.of1
      refine wv (p0) rfl rfl rfl ?_
      obtain ⟨t2145, ht2146, hm⟩ := bind_some hm
      refine wl_call rfl rfl (x_call Try.call36 rfl (vs := [p0]) rfl) ?_
      refine (ref12_Tape_Val_ref hst.to1 ht2146).mono ?_
      rintro _ w2147 ⟨v2150, rfl, hst⟩
      refine ⟨_, rfl, ?_⟩
      replace hst := hst.of2
      refine wv (.agg #[.float .f64 t2140.1, v2150]) rfl rfl (by obtain ⟨_, _, hv_, _⟩ := hst.sv0; rw [hv_]; kernel_rfl) ?_
      obtain ⟨I2154, hI2155, f2156, hst⟩ := hst.own_fix
      replace hI0 := hI0.trans hI2155
      replace hL2027 := hL2027.trans hI2155
      replace hL2175 := hL2175.trans hI2155
      replace hL2134 := hL2134.trans hI2155
      obtain ⟨b2157, w2158, ew2159, eb2160, hst⟩ := hst.lits (E := ty_api_Pair) (xs := [({ At := t2140.1, Val := t2145.1 } : api_Pair)]) [[.float .f64 t2140.1, v2150]] 54 1 rfl (Reps.cons ⟨_, rfl, f2156, one_of_sliceV (ro_sliceV f2156)⟩ Reps.nil)
      refine wl_run (v := (.slice (some ⟨b2157, 0, none⟩) 1 1)) (w' := w2158) rfl rfl (x_als (by kernel_rfl) ew2159 eb2160) ?_
      obtain ⟨hg2162, hm⟩ := gd_some hm
      replace hst := hst.pull2
      obtain ⟨v2163, w2164, hr2165, hst⟩ := run_append elem_52 Try.underlying52 hst hst.src1 (room_of hg2162 rfl) 52
      refine wl_run (v := v2163) (w' := w2164) rfl rfl (x_append rfl rfl hr2165) ?_
      refine wv (v2163) rfl rfl rfl ?_
      refine wl_nil (blk_n (then_n (wp_region_lit ?_)))
      refine wv (.int .i64 z2126) rfl rfl rfl ?_
      refine wv (.int .i64 (IntKind.i64.wrap (z2126 + (1:Int)))) rfl rfl rfl ?_
      refine wv (.int .i64 (IntKind.i64.wrap (z2126 + (1:Int)))) rfl rfl rfl ?_
      refine wl_nil (then_n ?_)
      replace hst := hst.pull6
      replace hst := hst.pull6
      replace hst := hst.pull6
      replace hst := hst.pull6
      replace hst := hst.pull6
      replace hst := hst.pull5
      replace hst := hst.keep6
      obtain rfl := some_inj hm
      exact ⟨_, Nat.lt_succ_self _, _, t2145.2, (IntKind.i64.wrap (z2126 + (1:Int))), (z2127 ++ ([({ At := t2140.1, Val := t2145.1 } : api_Pair)])), v2163, _, hx2137, ((fr_upd (t := 0) (v := p0) rfl).trans ((fr_upd (t := 2) (v := .pointer (some ⟨b1257, 0, none⟩)) rfl).trans ((fr_upd (t := 4) (v := .pointer (some ⟨b1368, 0, none⟩)) rfl).trans ((fr_upd (t := 5) (v := .int .i64 (IntKind.i64.wrap (Int.tdiv t1528.1 (2:Int)))) rfl).trans ((fr_upd (t := 7) (v := .int .i64 z2022) rfl).trans ((fr_upd (t := 8) (v := v2163) rfl).trans ((fr_upd (t := 9) (v := .int .i64 t2034.1) rfl).trans ((fr_upd (t := 10) (v := .int .i64 (IntKind.i64.wrap (z2126 + (1:Int)))) rfl).trans rfl)))))))), hL2134, hst⟩
     ·skip
      replace hm := bif_f hc2139 hm
      refine wp_iff (congrArg Value.bool hc2139) ?_
      refine wp_exit (then_x (then_x ?_))
      replace hm := inr_up hm hx2137
      refine blk_x (then_n ?_)
      replace hst := hst.pull2
      replace hst := hst.pull5
      replace hst := hst.pull5
      replace hst := hst.pull5
      replace hst := hst.pull5
      replace hst := hst.keep6
      obtain rfl := some_inj hm
      exact ⟨_, z2125, z2127, v2128, _, hx2174, ((fr_upd (t := 0) (v := p0) rfl).trans ((fr_upd (t := 2) (v := .pointer (some ⟨b1257, 0, none⟩)) rfl).trans ((fr_upd (t := 4) (v := .pointer (some ⟨b1368, 0, none⟩)) rfl).trans ((fr_upd (t := 5) (v := .int .i64 (IntKind.i64.wrap (Int.tdiv t1528.1 (2:Int)))) rfl).trans ((fr_upd (t := 7) (v := .int .i64 z2022) rfl).trans ((fr_upd (t := 8) (v := v2128) rfl).trans rfl)))))), hL2175, hst⟩
    ·skip
     clear hst
     rintro _ w2176 ⟨I2170, z2166, z2169, v2168, σ2171, hm, rfl, hL2172, hst⟩
     dsimp only [ref13_OfReply_j4] at hm
     replace hI0 := hI0.trans hL2172
     replace hL2027 := hL2027.trans hL2172
     refine wp_region_lit ?_
     refine wv (.pointer (some ⟨b1368, 4, none⟩)) rfl rfl (x_field rfl Try.underlying39 rfl Try.sizeOf37 rfl) ?_
     refine wv (v2019) rfl rfl (x_load rfl Try.isAgg37 (hst.bc2 rfl)) ?_
     refine wv (v2168) rfl rfl rfl ?_
     replace hst := hst.pull5
     obtain ⟨I2178, hI2179, f2180, hst⟩ := hst.own_fix
     replace hI0 := hI0.trans hI2179
     replace hL2027 := hL2027.trans hI2179
     obtain ⟨b2181, w2182, ew2183, eb2184, hst⟩ := hst.lits (E := (tySl ty_api_Pair)) (xs := [z2169]) [[v2168]] 52 1 rfl (Reps.cons ⟨_, rfl, f2180, one_of_sliceV (ro_sliceV f2180)⟩ Reps.nil)
     refine wl_run (v := (.slice (some ⟨b2181, 0, none⟩) 1 1)) (w' := w2182) rfl rfl (x_als (by obtain ⟨_, _, hv_, _⟩ := (ro_sliceV f2180); rw [hv_]; kernel_rfl) ew2183 eb2184) ?_
     obtain ⟨hg2186, hm⟩ := gd_some hm
     replace hst := hst.pull5
     obtain ⟨v2187, w2188, hr2189, hst⟩ := run_append elem_37 Try.underlying37 hst hst.src1 (room_of hg2186 rfl) 37
     refine wl_run (v := v2187) (w' := w2188) rfl rfl (x_append rfl rfl hr2189) ?_
     refine wv (.pointer (some ⟨b1368, 4, none⟩)) rfl rfl (x_field rfl Try.underlying39 rfl Try.sizeOf37 rfl) ?_
     replace hst := hst.pull4
     obtain ⟨w2190, hr2191, hst⟩ := hst.boxStore1 (P := Try.prog) (t := 37) (cs' := [.int .i64 z1369, .int .u64 z1370, .int .u64 z1371, v1519, v2187]) 4 v2187 (one_of_sliceV hst.sv1) Try.sizeOf37 rfl rfl
     refine wl_unit rfl rfl (x_unit hr2191) ?_
     refine wl_nil (blk_n (then_n (wp_region_lit ?_)))
     refine wv (.int .i64 z2022) rfl rfl rfl ?_
     refine wv (.int .i64 (IntKind.i64.wrap (z2022 + (1:Int)))) rfl rfl rfl ?_
     refine wv (.int .i64 (IntKind.i64.wrap (z2022 + (1:Int)))) rfl rfl rfl ?_
     refine wl_nil (then_n ?_)
     replace hst := hst.pull5
     replace hst := hst.pull1
     replace hst := hst.pull5
     replace hst := hst.pull5
     replace hst := hst.pull4
     replace hst := hst.keep5
     obtain rfl := some_inj hm
     exact ⟨_, Nat.lt_succ_self _, _, (z2018 ++ ([z2169])), z2166, (IntKind.i64.wrap (z2022 + (1:Int))), v2187, _, hx2030, ((fr_upd (t := 0) (v := p0) rfl).trans ((fr_upd (t := 2) (v := .pointer (some ⟨b1257, 0, none⟩)) rfl).trans ((fr_upd (t := 4) (v := .pointer (some ⟨b1368, 0, none⟩)) rfl).trans ((fr_upd (t := 5) (v := .int .i64 (IntKind.i64.wrap (Int.tdiv t1528.1 (2:Int)))) rfl).trans ((fr_upd (t := 7) (v := .int .i64 (IntKind.i64.wrap (z2022 + (1:Int)))) rfl).trans rfl))))), hL2027, hst⟩
   ·skip
    replace hm := bif_f hc2032 hm
    refine wp_iff (congrArg Value.bool hc2032) ?_
    refine wp_exit (then_x (then_x ?_))
    replace hm := inr_up hm hx2030
    refine blk_x (then_n (wp_seq (wp_region_lit ?_)))
    refine wv (.agg #[.int .i64 z1369, .int .u64 z1370, .int .u64 z1371, v1519, v2019]) rfl rfl (x_loadN (cs := [.int .i64 z1369, .int .u64 z1370, .int .u64 z1371, v1519, v2019]) rfl Try.isAgg39 Try.sizeOf39 (hst.bcs3 0 rfl)) ?_
    replace hst := hst.pull2
    obtain ⟨w2192, hr2193, hst⟩ := hst.boxStore (P := Try.prog) (t := 39) (cs' := [.int .i64 z1369, .int .u64 z1370, .int .u64 z1371, v1519, v2019]) 0 (.agg #[.int .i64 z1369, .int .u64 z1370, .int .u64 z1371, v1519, v2019]) Try.sizeOf39 (Nat.le_of_ble_eq_true rfl) (ones_cons rfl (ones_cons rfl (ones_cons rfl (ones_cons (one_of_sliceV hst.sv4) (ones_cons (one_of_sliceV hst.sv1) ones_nil))))) (by kernel_rfl)
    refine wl_unit rfl rfl (x_unit hr2193) ?_
    refine wl_nil (then_n (wp_ret ?_))
    obtain rfl := some_inj hm
    refine post_ret (vs := [.agg #[.int .i64 z1369, .int .u64 z1370, .int .u64 z1371, v1519, v2019]]) Try.results12 (rvs_cons (rv_cell (cs := [.int .i64 z1369, .int .u64 z1370, .int .u64 z1371, v1519, v2019]) rfl Try.isAgg39 Try.sizeOf39 (hst.bcs0 0 rfl)) rvs_nil) ?_
    replace hst := hst.pull2
    replace hst := hst.pull2
    replace hst := hst.pull4
    exact ⟨_, v1519, v2019, rfl, hI0, hst.keep3⟩

theorem ref13_OfRule_ref {w0 w : World} {I : HL} {R : SP} {a0 : ref12_Tape} {p0 : Value}  (hst : St w0 w I [at_ref12_Tape p0 a0] R) {r : (api_Rule × ref12_Tape)} (hm : ref13_OfRule a0 = some r) :
  Calls Try.prog 26 #[p0] w fun e w' => e = .returned (.agg #[.int .u64 r.1.ID, .int .i64 r.1.From, .int .i64 r.1.To, .float .f64 r.1.Lo, .float .f64 r.1.Hi, .int .u64 r.1.Authority, .int .i64 r.1.Quota]) ∧ St w0 w' I [at_ref12_Tape p0 r.2] R := by
 unfold ref13_OfRule at hm
 refine calls_start (args := [p0]) Try.func26 rfl Try.ntmps26 (Nat.le_of_ble_eq_true rfl) ?_
 refine wp_seq (wp_region_lit ?_)
 obtain ⟨b382, w383, ew384, eb385, hst⟩ := hst.box [.int .u64 (0:Int), .int .i64 (0:Int), .int .i64 (0:Int), .float .f64 (0:Nat), .float .f64 (0:Nat), .int .u64 (0:Int), .int .i64 (0:Int)] 43
 refine wl_run (v := .pointer (some ⟨b382, 0, none⟩)) (w' := w383) rfl rfl (x_al (by kernel_rfl) ew384 eb385) ?_
 refine wl_nil (then_n (wp_seq (wp_region_lit ?_)))
 refine wv (p0) rfl rfl rfl ?_
 replace hst := hst.pull1
 obtain ⟨t387, ht388, hm⟩ := bind_some hm
 refine wl_call rfl rfl (x_call Try.call22 rfl (vs := [p0, .int .i64 (3:Int)]) rfl) ?_
 refine (ref12_Tape_Next_ref hst.to1 ht388).mono ?_
 rintro _ w389 ⟨rfl, hst⟩
 refine ⟨_, rfl, ?_⟩
 replace hst := hst.of1
 refine wv (.int .u64 (IntKind.u64.wrap t387.1)) rfl rfl (by kernel_rfl) ?_
 refine wv (p0) rfl rfl rfl ?_
 obtain ⟨t392, ht393, hm⟩ := bind_some hm
 refine wl_call rfl rfl (x_call Try.call22 rfl (vs := [p0, .int .i64 (4:Int)]) rfl) ?_
 refine (ref12_Tape_Next_ref hst.to1 ht393).mono ?_
 rintro _ w394 ⟨rfl, hst⟩
 refine ⟨_, rfl, ?_⟩
 replace hst := hst.of1
 refine wv (p0) rfl rfl rfl ?_
 obtain ⟨t397, ht398, hm⟩ := bind_some hm
 refine wl_call rfl rfl (x_call Try.call22 rfl (vs := [p0, .int .i64 (4:Int)]) rfl) ?_
 refine (ref12_Tape_Next_ref hst.to1 ht398).mono ?_
 rintro _ w399 ⟨rfl, hst⟩
 refine ⟨_, rfl, ?_⟩
 replace hst := hst.of1
 refine wv (p0) rfl rfl rfl ?_
 obtain ⟨t402, ht403, hm⟩ := bind_some hm
 refine wl_call rfl rfl (x_call Try.call37 rfl (vs := [p0]) rfl) ?_
 refine (ref12_Tape_Float_ref hst.to1 ht403).mono ?_
 rintro _ w404 ⟨rfl, hst⟩
 refine ⟨_, rfl, ?_⟩
 replace hst := hst.of1
 refine wv (p0) rfl rfl rfl ?_
 obtain ⟨t407, ht408, hm⟩ := bind_some hm
 refine wl_call rfl rfl (x_call Try.call37 rfl (vs := [p0]) rfl) ?_
 refine (ref12_Tape_Float_ref hst.to1 ht408).mono ?_
 rintro _ w409 ⟨rfl, hst⟩
 refine ⟨_, rfl, ?_⟩
 replace hst := hst.of1
 refine wv (p0) rfl rfl rfl ?_
 obtain ⟨t412, ht413, hm⟩ := bind_some hm
 refine wl_call rfl rfl (x_call Try.call22 rfl (vs := [p0, .int .i64 (2:Int)]) rfl) ?_
 refine (ref12_Tape_Next_ref hst.to1 ht413).mono ?_
 rintro _ w414 ⟨rfl, hst⟩
 refine ⟨_, rfl, ?_⟩
 replace hst := hst.of1
 refine wv (.int .u64 (IntKind.u64.wrap t412.1)) rfl rfl (by kernel_rfl) ?_
 refine wv (p0) rfl rfl rfl ?_
 obtain ⟨t417, ht418, hm⟩ := bind_some hm
 refine wl_call rfl rfl (x_call Try.call22 rfl (vs := [p0, .int .i64 (3:Int)]) rfl) ?_
 refine (ref12_Tape_Next_ref hst.to1 ht418).mono ?_
 rintro _ w419 ⟨rfl, hst⟩
 refine ⟨_, rfl, ?_⟩
 replace hst := hst.of1
 refine wv (.agg #[.int .u64 (IntKind.u64.wrap t387.1), .int .i64 t392.1, .int .i64 t397.1, .float .f64 t402.1, .float .f64 t407.1, .int .u64 (IntKind.u64.wrap t412.1), .int .i64 t417.1]) rfl rfl (by kernel_rfl) ?_
 replace hst := hst.pull1
 obtain ⟨w422, hr423, hst⟩ := hst.boxStore (P := Try.prog) (t := 43) (cs' := [.int .u64 (IntKind.u64.wrap t387.1), .int .i64 t392.1, .int .i64 t397.1, .float .f64 t402.1, .float .f64 t407.1, .int .u64 (IntKind.u64.wrap t412.1), .int .i64 t417.1]) 0 (.agg #[.int .u64 (IntKind.u64.wrap t387.1), .int .i64 t392.1, .int .i64 t397.1, .float .f64 t402.1, .float .f64 t407.1, .int .u64 (IntKind.u64.wrap t412.1), .int .i64 t417.1]) Try.sizeOf43 (Nat.le_of_ble_eq_true rfl) (ones_cons rfl (ones_cons rfl (ones_cons rfl (ones_cons rfl (ones_cons rfl (ones_cons rfl (ones_cons rfl ones_nil))))))) (by kernel_rfl)
 refine wl_unit rfl rfl (x_unit hr423) ?_
 refine wl_nil (then_n (wp_ret ?_))
 obtain rfl := some_inj hm
 refine post_ret (vs := [.agg #[.int .u64 (IntKind.u64.wrap t387.1), .int .i64 t392.1, .int .i64 t397.1, .float .f64 t402.1, .float .f64 t407.1, .int .u64 (IntKind.u64.wrap t412.1), .int .i64 t417.1]]) Try.results26 (rvs_cons (rv_cell (cs := [.int .u64 (IntKind.u64.wrap t387.1), .int .i64 t392.1, .int .i64 t397.1, .float .f64 t402.1, .float .f64 t407.1, .int .u64 (IntKind.u64.wrap t412.1), .int .i64 t417.1]) rfl Try.isAgg43 Try.sizeOf43 (hst.bcs0 0 rfl)) rvs_nil) ?_
 replace hst := hst.pull1
 exact ⟨rfl, hst.keep1⟩

theorem ref13_OfCommand_ref {w0 w : World} {I : HL} {R : SP} {a0 : ref12_Tape} {p0 : Value}  (hst : St w0 w I [at_ref12_Tape p0 a0] R) {r : (api_Command × ref12_Tape)} (hm : ref13_OfCommand a0 = some r) :
  Calls Try.prog 9 #[p0] w fun e w' => ∃ (I' : HL) (q0_0 : Value) (q0_1 : Value) (q0_2 : Value) (q0_3 : Value) (q0_4 : Value) (q0_5 : Value) (q0_6 : Value) (q0_7 : Value), e = .returned (.agg #[.int .u8 r.1.Kind, .int .u64 r.1.ID.Session, .int .u64 r.1.ID.Seq, .int .u64 r.1.Epoch, .int .u64 r.1.Index, .int .i64 r.1.E, .int .u64 r.1.Hold.ID.Session, .int .u64 r.1.Hold.ID.Seq, .int .u64 r.1.Hold.Epoch, q0_0, q0_1, q0_2, q0_3, q0_4, .int .i64 r.1.R.E, .int .u64 r.1.R.Epoch, .int .u64 r.1.R.Index, q0_5, q0_6, .int .u64 r.1.Shards, q0_7, .int .u64 r.1.Rule.ID, .int .i64 r.1.Rule.From, .int .i64 r.1.Rule.To, .float .f64 r.1.Rule.Lo, .float .f64 r.1.Rule.Hi, .int .u64 r.1.Rule.Authority, .int .i64 r.1.Rule.Quota, .bool r.1.On]) ∧ I.le I' ∧ St w0 w' I' [ownS tyF64 q0_0 r.1.Hold.Gets, ownS tyF2 q0_1 r.1.Hold.Scans, ownS tyF64 q0_2 r.1.Hold.Puts, ownS (tyInt .u8) q0_3 r.1.Hold.Data, ownS ty_api_Write q0_4 r.1.Writes, ownS ty_api_Got q0_5 r.1.R.Gots, ownS (tySl ty_api_Pair) q0_6 r.1.R.Scans, ownS ty_api_Part q0_7 r.1.Parts, at_ref12_Tape p0 r.2] R := by
 unfold ref13_OfCommand at hm
 refine calls_start (args := [p0]) Try.func9 rfl Try.ntmps9 (Nat.le_of_ble_eq_true rfl) ?_
 have hI0 := HL.le.refl I
 refine wp_seq (wp_region_lit ?_)
 obtain ⟨b409, w410, ew411, eb412, hst⟩ := hst.box [.int .u8 (0:Int), .int .u64 (0:Int), .int .u64 (0:Int), .int .u64 (0:Int), .int .u64 (0:Int), .int .i64 (0:Int), .int .u64 (0:Int), .int .u64 (0:Int), .int .u64 (0:Int), (.slice none 0 0), (.slice none 0 0), (.slice none 0 0), (.slice none 0 0), (.slice none 0 0), .int .i64 (0:Int), .int .u64 (0:Int), .int .u64 (0:Int), (.slice none 0 0), (.slice none 0 0), .int .u64 (0:Int), (.slice none 0 0), .int .u64 (0:Int), .int .i64 (0:Int), .int .i64 (0:Int), .float .f64 (0:Nat), .float .f64 (0:Nat), .int .u64 (0:Int), .int .i64 (0:Int), .bool false] 45
 refine wl_run (v := .pointer (some ⟨b409, 0, none⟩)) (w' := w410) rfl rfl (x_al (by kernel_rfl) ew411 eb412) ?_
 refine wl_nil (then_n (wp_seq (wp_region_lit ?_)))
 refine wv (p0) rfl rfl rfl ?_
 replace hst := hst.pull1
 obtain ⟨t414, ht415, hm⟩ := bind_some hm
 refine wl_call rfl rfl (x_call Try.call22 rfl (vs := [p0, .int .i64 (7:Int)]) rfl) ?_
 refine (ref12_Tape_Next_ref hst.to1 ht415).mono ?_
 rintro _ w416 ⟨rfl, hst⟩
 refine ⟨_, rfl, ?_⟩
 replace hst := hst.of1
 refine wv (.int .i64 (IntKind.i64.wrap ((1:Int) + t414.1))) rfl rfl rfl ?_
 refine wv (.int .u8 (IntKind.u8.wrap (IntKind.i64.wrap ((1:Int) + t414.1)))) rfl rfl (by kernel_rfl) ?_
 refine wv (.agg #[.int .u8 (IntKind.u8.wrap (IntKind.i64.wrap ((1:Int) + t414.1))), .int .u64 (0:Int), .int .u64 (0:Int), .int .u64 (0:Int), .int .u64 (0:Int), .int .i64 (0:Int), .int .u64 (0:Int), .int .u64 (0:Int), .int .u64 (0:Int), (.slice none 0 0), (.slice none 0 0), (.slice none 0 0), (.slice none 0 0), (.slice none 0 0), .int .i64 (0:Int), .int .u64 (0:Int), .int .u64 (0:Int), (.slice none 0 0), (.slice none 0 0), .int .u64 (0:Int), (.slice none 0 0), .int .u64 (0:Int), .int .i64 (0:Int), .int .i64 (0:Int), .float .f64 (0:Nat), .float .f64 (0:Nat), .int .u64 (0:Int), .int .i64 (0:Int), .bool false]) rfl rfl (by kernel_rfl) ?_
 obtain ⟨b435, w436, ew437, eb438, hst⟩ := hst.box [.int .u8 (0:Int), .int .u64 (0:Int), .int .u64 (0:Int), .int .u64 (0:Int), .int .u64 (0:Int), .int .i64 (0:Int), .int .u64 (0:Int), .int .u64 (0:Int), .int .u64 (0:Int), (.slice none 0 0), (.slice none 0 0), (.slice none 0 0), (.slice none 0 0), (.slice none 0 0), .int .i64 (0:Int), .int .u64 (0:Int), .int .u64 (0:Int), (.slice none 0 0), (.slice none 0 0), .int .u64 (0:Int), (.slice none 0 0), .int .u64 (0:Int), .int .i64 (0:Int), .int .i64 (0:Int), .float .f64 (0:Nat), .float .f64 (0:Nat), .int .u64 (0:Int), .int .i64 (0:Int), .bool false] 45
 refine wl_run (v := .pointer (some ⟨b435, 0, none⟩)) (w' := w436) rfl rfl (x_al (by kernel_rfl) ew437 eb438) ?_
 obtain ⟨w440, hr441, hst⟩ := hst.boxStore (P := Try.prog) (t := 45) (cs' := [.int .u8 (IntKind.u8.wrap (IntKind.i64.wrap ((1:Int) + t414.1))), .int .u64 (0:Int), .int .u64 (0:Int), .int .u64 (0:Int), .int .u64 (0:Int), .int .i64 (0:Int), .int .u64 (0:Int), .int .u64 (0:Int), .int .u64 (0:Int), (.slice none 0 0), (.slice none 0 0), (.slice none 0 0), (.slice none 0 0), (.slice none 0 0), .int .i64 (0:Int), .int .u64 (0:Int), .int .u64 (0:Int), (.slice none 0 0), (.slice none 0 0), .int .u64 (0:Int), (.slice none 0 0), .int .u64 (0:Int), .int .i64 (0:Int), .int .i64 (0:Int), .float .f64 (0:Nat), .float .f64 (0:Nat), .int .u64 (0:Int), .int .i64 (0:Int), .bool false]) 0 (.agg #[.int .u8 (IntKind.u8.wrap (IntKind.i64.wrap ((1:Int) + t414.1))), .int .u64 (0:Int), .int .u64 (0:Int), .int .u64 (0:Int), .int .u64 (0:Int), .int .i64 (0:Int), .int .u64 (0:Int), .int .u64 (0:Int), .int .u64 (0:Int), (.slice none 0 0), (.slice none 0 0), (.slice none 0 0), (.slice none 0 0), (.slice none 0 0), .int .i64 (0:Int), .int .u64 (0:Int), .int .u64 (0:Int), (.slice none 0 0), (.slice none 0 0), .int .u64 (0:Int), (.slice none 0 0), .int .u64 (0:Int), .int .i64 (0:Int), .int .i64 (0:Int), .float .f64 (0:Nat), .float .f64 (0:Nat), .int .u64 (0:Int), .int .i64 (0:Int), .bool false]) Try.sizeOf45 (Nat.le_of_ble_eq_true rfl) (ones_cons rfl (ones_cons rfl (ones_cons rfl (ones_cons rfl (ones_cons rfl (ones_cons rfl (ones_cons rfl (ones_cons rfl (ones_cons rfl (ones_cons rfl (ones_cons rfl (ones_cons rfl (ones_cons rfl (ones_cons rfl (ones_cons rfl (ones_cons rfl (ones_cons rfl (ones_cons rfl (ones_cons rfl (ones_cons rfl (ones_cons rfl (ones_cons rfl (ones_cons rfl (ones_cons rfl (ones_cons rfl (ones_cons rfl (ones_cons rfl (ones_cons rfl (ones_cons rfl ones_nil))))))))))))))))))))))))))))) (by kernel_rfl)
 refine wl_unit rfl rfl (x_unit hr441) ?_
 refine wl_nil (then_n (wp_seq (wp_seq (wp_region_lit ?_))))
 refine wv (.pointer (some ⟨b435, 0, none⟩)) rfl rfl (x_field rfl Try.underlying45 rfl Try.sizeOf5 rfl) ?_
 refine wv (.int .u8 (IntKind.u8.wrap (IntKind.i64.wrap ((1:Int) + t414.1)))) rfl rfl (x_load rfl Try.isAgg5 (hst.bc0 rfl)) ?_
 refine wl_nil (then_n (wp_block (wp_seq (wp_region_lit ?_))))
 refine wv (.bool ((IntKind.u8.wrap (IntKind.i64.wrap ((1:Int) + t414.1))) == (1:Int))) rfl rfl rfl ?_
 refine wv (.bool ((IntKind.u8.wrap (IntKind.i64.wrap ((1:Int) + t414.1))) == (1:Int))) rfl rfl rfl ?_
 refine wl_nil (then_n ?_)
 refine bsplit ((IntKind.u8.wrap (IntKind.i64.wrap ((1:Int) + t414.1))) == (1:Int)) (fun hc442 => ?_) (fun hc442 => ?_)
 ·skip
  replace hm := bif_t hc442 hm
  refine wp_ift (congrArg Value.bool hc442) ?_
  refine wp_region_lit ?_
  refine wv (p0) rfl rfl rfl ?_
  replace hst := hst.pull1
  obtain ⟨t443, ht444, hm⟩ := bind_some hm
  refine wl_call rfl rfl (x_call Try.call22 rfl (vs := [p0, .int .i64 (4:Int)]) rfl) ?_
  refine (ref12_Tape_Next_ref hst.to1 ht444).mono ?_
  rintro _ w445 ⟨rfl, hst⟩
  refine ⟨_, rfl, ?_⟩
  replace hst := hst.of1
  refine wv (.int .i64 (IntKind.i64.wrap ((1:Int) + t443.1))) rfl rfl rfl ?_
  refine wv (.int .u64 (IntKind.u64.wrap (IntKind.i64.wrap ((1:Int) + t443.1)))) rfl rfl (by kernel_rfl) ?_
  refine wv (.pointer (some ⟨b435, 3, none⟩)) rfl rfl (x_field rfl Try.underlying45 rfl Try.sizeOf27 rfl) ?_
  replace hst := hst.pull1
  obtain ⟨w448, hr449, hst⟩ := hst.boxStore (P := Try.prog) (t := 27) (cs' := [.int .u8 (IntKind.u8.wrap (IntKind.i64.wrap ((1:Int) + t414.1))), .int .u64 (0:Int), .int .u64 (0:Int), .int .u64 (IntKind.u64.wrap (IntKind.i64.wrap ((1:Int) + t443.1))), .int .u64 (0:Int), .int .i64 (0:Int), .int .u64 (0:Int), .int .u64 (0:Int), .int .u64 (0:Int), (.slice none 0 0), (.slice none 0 0), (.slice none 0 0), (.slice none 0 0), (.slice none 0 0), .int .i64 (0:Int), .int .u64 (0:Int), .int .u64 (0:Int), (.slice none 0 0), (.slice none 0 0), .int .u64 (0:Int), (.slice none 0 0), .int .u64 (0:Int), .int .i64 (0:Int), .int .i64 (0:Int), .float .f64 (0:Nat), .float .f64 (0:Nat), .int .u64 (0:Int), .int .i64 (0:Int), .bool false]) 3 (.int .u64 (IntKind.u64.wrap (IntKind.i64.wrap ((1:Int) + t443.1)))) Try.sizeOf27 (Nat.le_of_ble_eq_true rfl) (ones_cons rfl ones_nil) (by kernel_rfl)
  refine wl_unit rfl rfl (x_unit hr449) ?_
  refine wl_nil (blk_n (then_n (wp_seq (wp_region_lit ?_))))
  refine wv (.agg #[.int .u8 (IntKind.u8.wrap (IntKind.i64.wrap ((1:Int) + t414.1))), .int .u64 (0:Int), .int .u64 (0:Int), .int .u64 (IntKind.u64.wrap (IntKind.i64.wrap ((1:Int) + t443.1))), .int .u64 (0:Int), .int .i64 (0:Int), .int .u64 (0:Int), .int .u64 (0:Int), .int .u64 (0:Int), (.slice none 0 0), (.slice none 0 0), (.slice none 0 0), (.slice none 0 0), (.slice none 0 0), .int .i64 (0:Int), .int .u64 (0:Int), .int .u64 (0:Int), (.slice none 0 0), (.slice none 0 0), .int .u64 (0:Int), (.slice none 0 0), .int .u64 (0:Int), .int .i64 (0:Int), .int .i64 (0:Int), .float .f64 (0:Nat), .float .f64 (0:Nat), .int .u64 (0:Int), .int .i64 (0:Int), .bool false]) rfl rfl (x_loadN (cs := [.int .u8 (IntKind.u8.wrap (IntKind.i64.wrap ((1:Int) + t414.1))), .int .u64 (0:Int), .int .u64 (0:Int), .int .u64 (IntKind.u64.wrap (IntKind.i64.wrap ((1:Int) + t443.1))), .int .u64 (0:Int), .int .i64 (0:Int), .int .u64 (0:Int), .int .u64 (0:Int), .int .u64 (0:Int), (.slice none 0 0), (.slice none 0 0), (.slice none 0 0), (.slice none 0 0), (.slice none 0 0), .int .i64 (0:Int), .int .u64 (0:Int), .int .u64 (0:Int), (.slice none 0 0), (.slice none 0 0), .int .u64 (0:Int), (.slice none 0 0), .int .u64 (0:Int), .int .i64 (0:Int), .int .i64 (0:Int), .float .f64 (0:Nat), .float .f64 (0:Nat), .int .u64 (0:Int), .int .i64 (0:Int), .bool false]) rfl Try.isAgg45 Try.sizeOf45 (hst.bcs0 0 rfl)) ?_
  replace hst := hst.pull2
  obtain ⟨w450, hr451, hst⟩ := hst.boxStore (P := Try.prog) (t := 45) (cs' := [.int .u8 (IntKind.u8.wrap (IntKind.i64.wrap ((1:Int) + t414.1))), .int .u64 (0:Int), .int .u64 (0:Int), .int .u64 (IntKind.u64.wrap (IntKind.i64.wrap ((1:Int) + t443.1))), .int .u64 (0:Int), .int .i64 (0:Int), .int .u64 (0:Int), .int .u64 (0:Int), .int .u64 (0:Int), (.slice none 0 0), (.slice none 0 0), (.slice none 0 0), (.slice none 0 0), (.slice none 0 0), .int .i64 (0:Int), .int .u64 (0:Int), .int .u64 (0:Int), (.slice none 0 0), (.slice none 0 0), .int .u64 (0:Int), (.slice none 0 0), .int .u64 (0:Int), .int .i64 (0:Int), .int .i64 (0:Int), .float .f64 (0:Nat), .float .f64 (0:Nat), .int .u64 (0:Int), .int .i64 (0:Int), .bool false]) 0 (.agg #[.int .u8 (IntKind.u8.wrap (IntKind.i64.wrap ((1:Int) + t414.1))), .int .u64 (0:Int), .int .u64 (0:Int), .int .u64 (IntKind.u64.wrap (IntKind.i64.wrap ((1:Int) + t443.1))), .int .u64 (0:Int), .int .i64 (0:Int), .int .u64 (0:Int), .int .u64 (0:Int), .int .u64 (0:Int), (.slice none 0 0), (.slice none 0 0), (.slice none 0 0), (.slice none 0 0), (.slice none 0 0), .int .i64 (0:Int), .int .u64 (0:Int), .int .u64 (0:Int), (.slice none 0 0), (.slice none 0 0), .int .u64 (0:Int), (.slice none 0 0), .int .u64 (0:Int), .int .i64 (0:Int), .int .i64 (0:Int), .float .f64 (0:Nat), .float .f64 (0:Nat), .int .u64 (0:Int), .int .i64 (0:Int), .bool false]) Try.sizeOf45 (Nat.le_of_ble_eq_true rfl) (ones_cons rfl (ones_cons rfl (ones_cons rfl (ones_cons rfl (ones_cons rfl (ones_cons rfl (ones_cons rfl (ones_cons rfl (ones_cons rfl (ones_cons rfl (ones_cons rfl (ones_cons rfl (ones_cons rfl (ones_cons rfl (ones_cons rfl (ones_cons rfl (ones_cons rfl (ones_cons rfl (ones_cons rfl (ones_cons rfl (ones_cons rfl (ones_cons rfl (ones_cons rfl (ones_cons rfl (ones_cons rfl (ones_cons rfl (ones_cons rfl (ones_cons rfl (ones_cons rfl ones_nil))))))))))))))))))))))))))))) (by kernel_rfl)
  refine wl_unit rfl rfl (x_unit hr451) ?_
  refine wl_nil (then_n (wp_ret ?_))
  replace hst := hst.own_nil tyF64
  replace hst := hst.own_nil tyF2
  replace hst := hst.own_nil tyF64
  replace hst := hst.own_nil (tyInt .u8)
  replace hst := hst.own_nil ty_api_Write
  replace hst := hst.own_nil ty_api_Got
  replace hst := hst.own_nil (tySl ty_api_Pair)
  replace hst := hst.own_nil ty_api_Part
  obtain rfl := some_inj hm
  refine post_ret (vs := [.agg #[.int .u8 (IntKind.u8.wrap (IntKind.i64.wrap ((1:Int) + t414.1))), .int .u64 (0:Int), .int .u64 (0:Int), .int .u64 (IntKind.u64.wrap (IntKind.i64.wrap ((1:Int) + t443.1))), .int .u64 (0:Int), .int .i64 (0:Int), .int .u64 (0:Int), .int .u64 (0:Int), .int .u64 (0:Int), (.slice none 0 0), (.slice none 0 0), (.slice none 0 0), (.slice none 0 0), (.slice none 0 0), .int .i64 (0:Int), .int .u64 (0:Int), .int .u64 (0:Int), (.slice none 0 0), (.slice none 0 0), .int .u64 (0:Int), (.slice none 0 0), .int .u64 (0:Int), .int .i64 (0:Int), .int .i64 (0:Int), .float .f64 (0:Nat), .float .f64 (0:Nat), .int .u64 (0:Int), .int .i64 (0:Int), .bool false]]) Try.results9 (rvs_cons (rv_cell (cs := [.int .u8 (IntKind.u8.wrap (IntKind.i64.wrap ((1:Int) + t414.1))), .int .u64 (0:Int), .int .u64 (0:Int), .int .u64 (IntKind.u64.wrap (IntKind.i64.wrap ((1:Int) + t443.1))), .int .u64 (0:Int), .int .i64 (0:Int), .int .u64 (0:Int), .int .u64 (0:Int), .int .u64 (0:Int), (.slice none 0 0), (.slice none 0 0), (.slice none 0 0), (.slice none 0 0), (.slice none 0 0), .int .i64 (0:Int), .int .u64 (0:Int), .int .u64 (0:Int), (.slice none 0 0), (.slice none 0 0), .int .u64 (0:Int), (.slice none 0 0), .int .u64 (0:Int), .int .i64 (0:Int), .int .i64 (0:Int), .float .f64 (0:Nat), .float .f64 (0:Nat), .int .u64 (0:Int), .int .i64 (0:Int), .bool false]) rfl Try.isAgg45 Try.sizeOf45 (hst.bcs8 0 rfl)) rvs_nil) ?_
  replace hst := hst.pull10
  replace hst := hst.pull1
  replace hst := hst.pull2
  replace hst := hst.pull3
  replace hst := hst.pull4
  replace hst := hst.pull5
  replace hst := hst.pull6
  replace hst := hst.pull7
  replace hst := hst.pull8
  exact ⟨_, (.slice none 0 0), (.slice none 0 0), (.slice none 0 0), (.slice none 0 0), (.slice none 0 0), (.slice none 0 0), (.slice none 0 0), (.slice none 0 0), rfl, hI0, hst.keep9⟩
 ·skip
  replace hm := bif_f hc442 hm
  refine wp_iff (congrArg Value.bool hc442) ?_
  refine wp_seq (wp_region_lit ?_)
  refine wv (.bool ((IntKind.u8.wrap (IntKind.i64.wrap ((1:Int) + t414.1))) == (2:Int))) rfl rfl rfl ?_
  refine wv (.bool ((IntKind.u8.wrap (IntKind.i64.wrap ((1:Int) + t414.1))) == (2:Int))) rfl rfl rfl ?_
  refine wl_nil (then_n ?_)
  refine bsplit ((IntKind.u8.wrap (IntKind.i64.wrap ((1:Int) + t414.1))) == (2:Int)) (fun hc452 => ?_) (fun hc452 => ?_)
  ·skip
   replace hm := bif_t hc452 hm
   refine wp_ift (congrArg Value.bool hc452) ?_
   refine wp_region_lit ?_
   refine wv (p0) rfl rfl rfl ?_
   replace hst := hst.pull1
   obtain ⟨t453, ht454, hm⟩ := bind_some hm
   refine wl_call rfl rfl (x_call Try.call23 rfl (vs := [p0]) rfl) ?_
   refine (ref12_Tape_Hold_ref hst.to1 ht454).mono ?_
   rintro _ w455 ⟨v458, v460, v462, v464, rfl, hst⟩
   refine ⟨_, rfl, ?_⟩
   replace hst := hst.of5
   refine wv (.pointer (some ⟨b435, 6, none⟩)) rfl rfl (x_field rfl Try.underlying45 rfl Try.sizeOf34 rfl) ?_
   replace hst := hst.pull5
   obtain ⟨w466, hr467, hst⟩ := hst.boxStore (P := Try.prog) (t := 34) (cs' := [.int .u8 (IntKind.u8.wrap (IntKind.i64.wrap ((1:Int) + t414.1))), .int .u64 (0:Int), .int .u64 (0:Int), .int .u64 (0:Int), .int .u64 (0:Int), .int .i64 (0:Int), .int .u64 t453.1.ID.Session, .int .u64 t453.1.ID.Seq, .int .u64 t453.1.Epoch, v458, v460, v462, v464, (.slice none 0 0), .int .i64 (0:Int), .int .u64 (0:Int), .int .u64 (0:Int), (.slice none 0 0), (.slice none 0 0), .int .u64 (0:Int), (.slice none 0 0), .int .u64 (0:Int), .int .i64 (0:Int), .int .i64 (0:Int), .float .f64 (0:Nat), .float .f64 (0:Nat), .int .u64 (0:Int), .int .i64 (0:Int), .bool false]) 6 (.agg #[.int .u64 t453.1.ID.Session, .int .u64 t453.1.ID.Seq, .int .u64 t453.1.Epoch, v458, v460, v462, v464]) Try.sizeOf34 (Nat.le_of_ble_eq_true rfl) (ones_cons rfl (ones_cons rfl (ones_cons rfl (ones_cons (one_of_sliceV hst.sv1) (ones_cons (one_of_sliceV hst.sv2) (ones_cons (one_of_sliceV hst.sv3) (ones_cons (one_of_sliceV hst.sv4) ones_nil))))))) (by kernel_rfl)
   refine wl_unit rfl rfl (x_unit hr467) ?_
   refine wl_nil (blk_n (then_n (wp_seq (wp_region_lit ?_))))
   refine wv (.agg #[.int .u8 (IntKind.u8.wrap (IntKind.i64.wrap ((1:Int) + t414.1))), .int .u64 (0:Int), .int .u64 (0:Int), .int .u64 (0:Int), .int .u64 (0:Int), .int .i64 (0:Int), .int .u64 t453.1.ID.Session, .int .u64 t453.1.ID.Seq, .int .u64 t453.1.Epoch, v458, v460, v462, v464, (.slice none 0 0), .int .i64 (0:Int), .int .u64 (0:Int), .int .u64 (0:Int), (.slice none 0 0), (.slice none 0 0), .int .u64 (0:Int), (.slice none 0 0), .int .u64 (0:Int), .int .i64 (0:Int), .int .i64 (0:Int), .float .f64 (0:Nat), .float .f64 (0:Nat), .int .u64 (0:Int), .int .i64 (0:Int), .bool false]) rfl rfl (x_loadN (cs := [.int .u8 (IntKind.u8.wrap (IntKind.i64.wrap ((1:Int) + t414.1))), .int .u64 (0:Int), .int .u64 (0:Int), .int .u64 (0:Int), .int .u64 (0:Int), .int .i64 (0:Int), .int .u64 t453.1.ID.Session, .int .u64 t453.1.ID.Seq, .int .u64 t453.1.Epoch, v458, v460, v462, v464, (.slice none 0 0), .int .i64 (0:Int), .int .u64 (0:Int), .int .u64 (0:Int), (.slice none 0 0), (.slice none 0 0), .int .u64 (0:Int), (.slice none 0 0), .int .u64 (0:Int), .int .i64 (0:Int), .int .i64 (0:Int), .float .f64 (0:Nat), .float .f64 (0:Nat), .int .u64 (0:Int), .int .i64 (0:Int), .bool false]) rfl Try.isAgg45 Try.sizeOf45 (hst.bcs0 0 rfl)) ?_
   replace hst := hst.pull6
   obtain ⟨w468, hr469, hst⟩ := hst.boxStore (P := Try.prog) (t := 45) (cs' := [.int .u8 (IntKind.u8.wrap (IntKind.i64.wrap ((1:Int) + t414.1))), .int .u64 (0:Int), .int .u64 (0:Int), .int .u64 (0:Int), .int .u64 (0:Int), .int .i64 (0:Int), .int .u64 t453.1.ID.Session, .int .u64 t453.1.ID.Seq, .int .u64 t453.1.Epoch, v458, v460, v462, v464, (.slice none 0 0), .int .i64 (0:Int), .int .u64 (0:Int), .int .u64 (0:Int), (.slice none 0 0), (.slice none 0 0), .int .u64 (0:Int), (.slice none 0 0), .int .u64 (0:Int), .int .i64 (0:Int), .int .i64 (0:Int), .float .f64 (0:Nat), .float .f64 (0:Nat), .int .u64 (0:Int), .int .i64 (0:Int), .bool false]) 0 (.agg #[.int .u8 (IntKind.u8.wrap (IntKind.i64.wrap ((1:Int) + t414.1))), .int .u64 (0:Int), .int .u64 (0:Int), .int .u64 (0:Int), .int .u64 (0:Int), .int .i64 (0:Int), .int .u64 t453.1.ID.Session, .int .u64 t453.1.ID.Seq, .int .u64 t453.1.Epoch, v458, v460, v462, v464, (.slice none 0 0), .int .i64 (0:Int), .int .u64 (0:Int), .int .u64 (0:Int), (.slice none 0 0), (.slice none 0 0), .int .u64 (0:Int), (.slice none 0 0), .int .u64 (0:Int), .int .i64 (0:Int), .int .i64 (0:Int), .float .f64 (0:Nat), .float .f64 (0:Nat), .int .u64 (0:Int), .int .i64 (0:Int), .bool false]) Try.sizeOf45 (Nat.le_of_ble_eq_true rfl) (ones_cons rfl (ones_cons rfl (ones_cons rfl (ones_cons rfl (ones_cons rfl (ones_cons rfl (ones_cons rfl (ones_cons rfl (ones_cons rfl (ones_cons (one_of_sliceV hst.sv2) (ones_cons (one_of_sliceV hst.sv3) (ones_cons (one_of_sliceV hst.sv4) (ones_cons (one_of_sliceV hst.sv5) (ones_cons rfl (ones_cons rfl (ones_cons rfl (ones_cons rfl (ones_cons rfl (ones_cons rfl (ones_cons rfl (ones_cons rfl (ones_cons rfl (ones_cons rfl (ones_cons rfl (ones_cons rfl (ones_cons rfl (ones_cons rfl (ones_cons rfl (ones_cons rfl ones_nil))))))))))))))))))))))))))))) (by kernel_rfl)
   refine wl_unit rfl rfl (x_unit hr469) ?_
   refine wl_nil (then_n (wp_ret ?_))
   replace hst := hst.own_nil ty_api_Write
   replace hst := hst.own_nil ty_api_Got
   replace hst := hst.own_nil (tySl ty_api_Pair)
   replace hst := hst.own_nil ty_api_Part
   obtain rfl := some_inj hm
   refine post_ret (vs := [.agg #[.int .u8 (IntKind.u8.wrap (IntKind.i64.wrap ((1:Int) + t414.1))), .int .u64 (0:Int), .int .u64 (0:Int), .int .u64 (0:Int), .int .u64 (0:Int), .int .i64 (0:Int), .int .u64 t453.1.ID.Session, .int .u64 t453.1.ID.Seq, .int .u64 t453.1.Epoch, v458, v460, v462, v464, (.slice none 0 0), .int .i64 (0:Int), .int .u64 (0:Int), .int .u64 (0:Int), (.slice none 0 0), (.slice none 0 0), .int .u64 (0:Int), (.slice none 0 0), .int .u64 (0:Int), .int .i64 (0:Int), .int .i64 (0:Int), .float .f64 (0:Nat), .float .f64 (0:Nat), .int .u64 (0:Int), .int .i64 (0:Int), .bool false]]) Try.results9 (rvs_cons (rv_cell (cs := [.int .u8 (IntKind.u8.wrap (IntKind.i64.wrap ((1:Int) + t414.1))), .int .u64 (0:Int), .int .u64 (0:Int), .int .u64 (0:Int), .int .u64 (0:Int), .int .i64 (0:Int), .int .u64 t453.1.ID.Session, .int .u64 t453.1.ID.Seq, .int .u64 t453.1.Epoch, v458, v460, v462, v464, (.slice none 0 0), .int .i64 (0:Int), .int .u64 (0:Int), .int .u64 (0:Int), (.slice none 0 0), (.slice none 0 0), .int .u64 (0:Int), (.slice none 0 0), .int .u64 (0:Int), .int .i64 (0:Int), .int .i64 (0:Int), .float .f64 (0:Nat), .float .f64 (0:Nat), .int .u64 (0:Int), .int .i64 (0:Int), .bool false]) rfl Try.isAgg45 Try.sizeOf45 (hst.bcs4 0 rfl)) rvs_nil) ?_
   replace hst := hst.pull10
   replace hst := hst.pull1
   replace hst := hst.pull2
   replace hst := hst.pull3
   replace hst := hst.pull4
   replace hst := hst.pull10
   replace hst := hst.pull10
   replace hst := hst.pull10
   replace hst := hst.pull10
   exact ⟨_, v458, v460, v462, v464, (.slice none 0 0), (.slice none 0 0), (.slice none 0 0), (.slice none 0 0), rfl, hI0, hst.keep9⟩
  ·skip
   replace hm := bif_f hc452 hm
   refine wp_iff (congrArg Value.bool hc452) ?_
   refine wp_seq (wp_region_lit ?_)
   refine wv (.bool ((IntKind.u8.wrap (IntKind.i64.wrap ((1:Int) + t414.1))) == (3:Int))) rfl rfl rfl ?_
   refine wv (.bool ((IntKind.u8.wrap (IntKind.i64.wrap ((1:Int) + t414.1))) == (3:Int))) rfl rfl rfl ?_
   refine wl_nil (then_n ?_)
   refine bsplit ((IntKind.u8.wrap (IntKind.i64.wrap ((1:Int) + t414.1))) == (3:Int)) (fun hc470 => ?_) (fun hc470 => ?_)
   ·skip
    replace hm := bif_t hc470 hm
    refine wp_ift (congrArg Value.bool hc470) ?_
    refine wp_seq (wp_region_lit ?_)
    refine wv (p0) rfl rfl rfl ?_
    replace hst := hst.pull1
    obtain ⟨t471, ht472, hm⟩ := bind_some hm
    refine wl_call rfl rfl (x_call Try.call24 rfl (vs := [p0]) rfl) ?_
    refine (ref12_Tape_Of_ref hst.to1 ht472).mono ?_
    rintro _ w473 ⟨rfl, hst⟩
    refine ⟨_, rfl, ?_⟩
    replace hst := hst.of1
    refine wv (.pointer (some ⟨b435, 1, none⟩)) rfl rfl (x_field rfl Try.underlying45 rfl Try.sizeOf29 rfl) ?_
    replace hst := hst.pull1
    obtain ⟨w476, hr477, hst⟩ := hst.boxStore (P := Try.prog) (t := 29) (cs' := [.int .u8 (IntKind.u8.wrap (IntKind.i64.wrap ((1:Int) + t414.1))), .int .u64 t471.1.Session, .int .u64 t471.1.Seq, .int .u64 (0:Int), .int .u64 (0:Int), .int .i64 (0:Int), .int .u64 (0:Int), .int .u64 (0:Int), .int .u64 (0:Int), (.slice none 0 0), (.slice none 0 0), (.slice none 0 0), (.slice none 0 0), (.slice none 0 0), .int .i64 (0:Int), .int .u64 (0:Int), .int .u64 (0:Int), (.slice none 0 0), (.slice none 0 0), .int .u64 (0:Int), (.slice none 0 0), .int .u64 (0:Int), .int .i64 (0:Int), .int .i64 (0:Int), .float .f64 (0:Nat), .float .f64 (0:Nat), .int .u64 (0:Int), .int .i64 (0:Int), .bool false]) 1 (.agg #[.int .u64 t471.1.Session, .int .u64 t471.1.Seq]) Try.sizeOf29 (Nat.le_of_ble_eq_true rfl) (ones_cons rfl (ones_cons rfl ones_nil)) (by kernel_rfl)
    refine wl_unit rfl rfl (x_unit hr477) ?_
    refine wl_nil (then_n (wp_seq (wp_region_lit ?_)))
    obtain ⟨b478, w479, ew480, eb481, hst⟩ := hst.lits (E := (tyInt .i64)) (xs := [(0:Int), (0:Int), (8:Int)]) [[.int .i64 (0:Int)], [.int .i64 (0:Int)], [.int .i64 (8:Int)]] 30 3 rfl (Reps.cons rfl (Reps.cons rfl (Reps.cons rfl Reps.nil)))
    refine wl_run (v := (.slice (some ⟨b478, 0, none⟩) 3 3)) (w' := w479) rfl rfl (x_als (by kernel_rfl) ew480 eb481) ?_
    refine wv (p0) rfl rfl rfl ?_
    replace hst := hst.pull2
    obtain ⟨t483, ht484, hm⟩ := bind_some hm
    refine wl_call rfl rfl (x_call Try.call22 rfl (vs := [p0, .int .i64 (3:Int)]) rfl) ?_
    refine (ref12_Tape_Next_ref hst.to1 ht484).mono ?_
    rintro _ w485 ⟨rfl, hst⟩
    refine ⟨_, rfl, ?_⟩
    replace hst := hst.of1
    obtain ⟨x488, hx489, hm⟩ := bind_some hm
    obtain ⟨h490, h491, hi492⟩ := geto_some hx489
    refine wv (.pointer (some (eAddr (.slice (some ⟨b478, 0, none⟩) 3 3) (t483.1.toNat * 1 + 0)))) rfl rfl (x_index rfl rfl Try.underlying78 Try.sizeOf30 hst.sv1 h490 h491) ?_
    refine wv (.int .i64 x488) rfl rfl (x_load rfl Try.isAgg30 (hst.ol1 hi492 (by rintro _ rfl; rfl))) ?_
    refine wv (.pointer (some ⟨b435, 5, none⟩)) rfl rfl (x_field rfl Try.underlying45 rfl Try.sizeOf30 rfl) ?_
    replace hst := hst.pull2
    obtain ⟨w493, hr494, hst⟩ := hst.boxStore (P := Try.prog) (t := 30) (cs' := [.int .u8 (IntKind.u8.wrap (IntKind.i64.wrap ((1:Int) + t414.1))), .int .u64 t471.1.Session, .int .u64 t471.1.Seq, .int .u64 (0:Int), .int .u64 (0:Int), .int .i64 x488, .int .u64 (0:Int), .int .u64 (0:Int), .int .u64 (0:Int), (.slice none 0 0), (.slice none 0 0), (.slice none 0 0), (.slice none 0 0), (.slice none 0 0), .int .i64 (0:Int), .int .u64 (0:Int), .int .u64 (0:Int), (.slice none 0 0), (.slice none 0 0), .int .u64 (0:Int), (.slice none 0 0), .int .u64 (0:Int), .int .i64 (0:Int), .int .i64 (0:Int), .float .f64 (0:Nat), .float .f64 (0:Nat), .int .u64 (0:Int), .int .i64 (0:Int), .bool false]) 5 (.int .i64 x488) Try.sizeOf30 (Nat.le_of_ble_eq_true rfl) (ones_cons rfl ones_nil) (by kernel_rfl)
    refine wl_unit rfl rfl (x_unit hr494) ?_
    refine wl_nil (then_n (wp_seq (wp_region_lit ?_)))
    refine wv (p0) rfl rfl rfl ?_
    replace hst := hst.pull1
    obtain ⟨t495, ht496, hm⟩ := bind_some hm
    refine wl_call rfl rfl (x_call Try.call22 rfl (vs := [p0, .int .i64 (4:Int)]) rfl) ?_
    refine (ref12_Tape_Next_ref hst.to1 ht496).mono ?_
    rintro _ w497 ⟨rfl, hst⟩
    refine ⟨_, rfl, ?_⟩
    replace hst := hst.of1
    refine wv (.int .i64 (IntKind.i64.wrap ((1:Int) + t495.1))) rfl rfl rfl ?_
    refine wv (.int .u64 (IntKind.u64.wrap (IntKind.i64.wrap ((1:Int) + t495.1)))) rfl rfl (by kernel_rfl) ?_
    refine wv (.pointer (some ⟨b435, 3, none⟩)) rfl rfl (x_field rfl Try.underlying45 rfl Try.sizeOf27 rfl) ?_
    replace hst := hst.pull1
    obtain ⟨w500, hr501, hst⟩ := hst.boxStore (P := Try.prog) (t := 27) (cs' := [.int .u8 (IntKind.u8.wrap (IntKind.i64.wrap ((1:Int) + t414.1))), .int .u64 t471.1.Session, .int .u64 t471.1.Seq, .int .u64 (IntKind.u64.wrap (IntKind.i64.wrap ((1:Int) + t495.1))), .int .u64 (0:Int), .int .i64 x488, .int .u64 (0:Int), .int .u64 (0:Int), .int .u64 (0:Int), (.slice none 0 0), (.slice none 0 0), (.slice none 0 0), (.slice none 0 0), (.slice none 0 0), .int .i64 (0:Int), .int .u64 (0:Int), .int .u64 (0:Int), (.slice none 0 0), (.slice none 0 0), .int .u64 (0:Int), (.slice none 0 0), .int .u64 (0:Int), .int .i64 (0:Int), .int .i64 (0:Int), .float .f64 (0:Nat), .float .f64 (0:Nat), .int .u64 (0:Int), .int .i64 (0:Int), .bool false]) 3 (.int .u64 (IntKind.u64.wrap (IntKind.i64.wrap ((1:Int) + t495.1)))) Try.sizeOf27 (Nat.le_of_ble_eq_true rfl) (ones_cons rfl ones_nil) (by kernel_rfl)
    refine wl_unit rfl rfl (x_unit hr501) ?_
    refine wl_nil (then_n (wp_seq (wp_region_lit ?_)))
    refine wv (p0) rfl rfl rfl ?_
    replace hst := hst.pull1
    obtain ⟨t502, ht503, hm⟩ := bind_some hm
    refine wl_call rfl rfl (x_call Try.call22 rfl (vs := [p0, .int .i64 (20:Int)]) rfl) ?_
    refine (ref12_Tape_Next_ref hst.to1 ht503).mono ?_
    rintro _ w504 ⟨rfl, hst⟩
    refine ⟨_, rfl, ?_⟩
    replace hst := hst.of1
    refine wv (.int .u64 (IntKind.u64.wrap t502.1)) rfl rfl (by kernel_rfl) ?_
    refine wv (.pointer (some ⟨b435, 4, none⟩)) rfl rfl (x_field rfl Try.underlying45 rfl Try.sizeOf27 rfl) ?_
    replace hst := hst.pull1
    obtain ⟨w507, hr508, hst⟩ := hst.boxStore (P := Try.prog) (t := 27) (cs' := [.int .u8 (IntKind.u8.wrap (IntKind.i64.wrap ((1:Int) + t414.1))), .int .u64 t471.1.Session, .int .u64 t471.1.Seq, .int .u64 (IntKind.u64.wrap (IntKind.i64.wrap ((1:Int) + t495.1))), .int .u64 (IntKind.u64.wrap t502.1), .int .i64 x488, .int .u64 (0:Int), .int .u64 (0:Int), .int .u64 (0:Int), (.slice none 0 0), (.slice none 0 0), (.slice none 0 0), (.slice none 0 0), (.slice none 0 0), .int .i64 (0:Int), .int .u64 (0:Int), .int .u64 (0:Int), (.slice none 0 0), (.slice none 0 0), .int .u64 (0:Int), (.slice none 0 0), .int .u64 (0:Int), .int .i64 (0:Int), .int .i64 (0:Int), .float .f64 (0:Nat), .float .f64 (0:Nat), .int .u64 (0:Int), .int .i64 (0:Int), .bool false]) 4 (.int .u64 (IntKind.u64.wrap t502.1)) Try.sizeOf27 (Nat.le_of_ble_eq_true rfl) (ones_cons rfl ones_nil) (by kernel_rfl)
    refine wl_unit rfl rfl (x_unit hr508) ?_
    refine wl_nil (then_n (wp_region_lit ?_))
    refine wv (p0) rfl rfl rfl ?_
    replace hst := hst.pull1
    obtain ⟨t509, ht510, hm⟩ := bind_some hm
    refine wl_call rfl rfl (x_call Try.call25 rfl (vs := [p0]) rfl) ?_
    refine (ref13_OfWrites_ref hst.to1 ht510).mono ?_
    rintro _ w511 ⟨I512, v514, rfl, hI513, hst⟩
    refine ⟨_, rfl, ?_⟩
    replace hst := hst.of2
    replace hI0 := hI0.trans hI513
    refine wv (.pointer (some ⟨b435, 13, none⟩)) rfl rfl (x_field rfl Try.underlying45 rfl Try.sizeOf35 rfl) ?_
    replace hst := hst.pull2
    obtain ⟨w516, hr517, hst⟩ := hst.boxStore1 (P := Try.prog) (t := 35) (cs' := [.int .u8 (IntKind.u8.wrap (IntKind.i64.wrap ((1:Int) + t414.1))), .int .u64 t471.1.Session, .int .u64 t471.1.Seq, .int .u64 (IntKind.u64.wrap (IntKind.i64.wrap ((1:Int) + t495.1))), .int .u64 (IntKind.u64.wrap t502.1), .int .i64 x488, .int .u64 (0:Int), .int .u64 (0:Int), .int .u64 (0:Int), (.slice none 0 0), (.slice none 0 0), (.slice none 0 0), (.slice none 0 0), v514, .int .i64 (0:Int), .int .u64 (0:Int), .int .u64 (0:Int), (.slice none 0 0), (.slice none 0 0), .int .u64 (0:Int), (.slice none 0 0), .int .u64 (0:Int), .int .i64 (0:Int), .int .i64 (0:Int), .float .f64 (0:Nat), .float .f64 (0:Nat), .int .u64 (0:Int), .int .i64 (0:Int), .bool false]) 13 v514 (one_of_sliceV hst.sv1) Try.sizeOf35 rfl rfl
    refine wl_unit rfl rfl (x_unit hr517) ?_
    refine wl_nil (blk_n (then_n (wp_seq (wp_region_lit ?_))))
    refine wv (.agg #[.int .u8 (IntKind.u8.wrap (IntKind.i64.wrap ((1:Int) + t414.1))), .int .u64 t471.1.Session, .int .u64 t471.1.Seq, .int .u64 (IntKind.u64.wrap (IntKind.i64.wrap ((1:Int) + t495.1))), .int .u64 (IntKind.u64.wrap t502.1), .int .i64 x488, .int .u64 (0:Int), .int .u64 (0:Int), .int .u64 (0:Int), (.slice none 0 0), (.slice none 0 0), (.slice none 0 0), (.slice none 0 0), v514, .int .i64 (0:Int), .int .u64 (0:Int), .int .u64 (0:Int), (.slice none 0 0), (.slice none 0 0), .int .u64 (0:Int), (.slice none 0 0), .int .u64 (0:Int), .int .i64 (0:Int), .int .i64 (0:Int), .float .f64 (0:Nat), .float .f64 (0:Nat), .int .u64 (0:Int), .int .i64 (0:Int), .bool false]) rfl rfl (x_loadN (cs := [.int .u8 (IntKind.u8.wrap (IntKind.i64.wrap ((1:Int) + t414.1))), .int .u64 t471.1.Session, .int .u64 t471.1.Seq, .int .u64 (IntKind.u64.wrap (IntKind.i64.wrap ((1:Int) + t495.1))), .int .u64 (IntKind.u64.wrap t502.1), .int .i64 x488, .int .u64 (0:Int), .int .u64 (0:Int), .int .u64 (0:Int), (.slice none 0 0), (.slice none 0 0), (.slice none 0 0), (.slice none 0 0), v514, .int .i64 (0:Int), .int .u64 (0:Int), .int .u64 (0:Int), (.slice none 0 0), (.slice none 0 0), .int .u64 (0:Int), (.slice none 0 0), .int .u64 (0:Int), .int .i64 (0:Int), .int .i64 (0:Int), .float .f64 (0:Nat), .float .f64 (0:Nat), .int .u64 (0:Int), .int .i64 (0:Int), .bool false]) rfl Try.isAgg45 Try.sizeOf45 (hst.bcs0 0 rfl)) ?_
    replace hst := hst.pull4
    obtain ⟨w518, hr519, hst⟩ := hst.boxStore (P := Try.prog) (t := 45) (cs' := [.int .u8 (IntKind.u8.wrap (IntKind.i64.wrap ((1:Int) + t414.1))), .int .u64 t471.1.Session, .int .u64 t471.1.Seq, .int .u64 (IntKind.u64.wrap (IntKind.i64.wrap ((1:Int) + t495.1))), .int .u64 (IntKind.u64.wrap t502.1), .int .i64 x488, .int .u64 (0:Int), .int .u64 (0:Int), .int .u64 (0:Int), (.slice none 0 0), (.slice none 0 0), (.slice none 0 0), (.slice none 0 0), v514, .int .i64 (0:Int), .int .u64 (0:Int), .int .u64 (0:Int), (.slice none 0 0), (.slice none 0 0), .int .u64 (0:Int), (.slice none 0 0), .int .u64 (0:Int), .int .i64 (0:Int), .int .i64 (0:Int), .float .f64 (0:Nat), .float .f64 (0:Nat), .int .u64 (0:Int), .int .i64 (0:Int), .bool false]) 0 (.agg #[.int .u8 (IntKind.u8.wrap (IntKind.i64.wrap ((1:Int) + t414.1))), .int .u64 t471.1.Session, .int .u64 t471.1.Seq, .int .u64 (IntKind.u64.wrap (IntKind.i64.wrap ((1:Int) + t495.1))), .int .u64 (IntKind.u64.wrap t502.1), .int .i64 x488, .int .u64 (0:Int), .int .u64 (0:Int), .int .u64 (0:Int), (.slice none 0 0), (.slice none 0 0), (.slice none 0 0), (.slice none 0 0), v514, .int .i64 (0:Int), .int .u64 (0:Int), .int .u64 (0:Int), (.slice none 0 0), (.slice none 0 0), .int .u64 (0:Int), (.slice none 0 0), .int .u64 (0:Int), .int .i64 (0:Int), .int .i64 (0:Int), .float .f64 (0:Nat), .float .f64 (0:Nat), .int .u64 (0:Int), .int .i64 (0:Int), .bool false]) Try.sizeOf45 (Nat.le_of_ble_eq_true rfl) (ones_cons rfl (ones_cons rfl (ones_cons rfl (ones_cons rfl (ones_cons rfl (ones_cons rfl (ones_cons rfl (ones_cons rfl (ones_cons rfl (ones_cons rfl (ones_cons rfl (ones_cons rfl (ones_cons rfl (ones_cons (one_of_sliceV hst.sv2) (ones_cons rfl (ones_cons rfl (ones_cons rfl (ones_cons rfl (ones_cons rfl (ones_cons rfl (ones_cons rfl (ones_cons rfl (ones_cons rfl (ones_cons rfl (ones_cons rfl (ones_cons rfl (ones_cons rfl (ones_cons rfl (ones_cons rfl ones_nil))))))))))))))))))))))))))))) (by kernel_rfl)
    refine wl_unit rfl rfl (x_unit hr519) ?_
    refine wl_nil (then_n (wp_ret ?_))
    replace hst := hst.own_nil tyF64
    replace hst := hst.own_nil tyF2
    replace hst := hst.own_nil tyF64
    replace hst := hst.own_nil (tyInt .u8)
    replace hst := hst.own_nil ty_api_Got
    replace hst := hst.own_nil (tySl ty_api_Pair)
    replace hst := hst.own_nil ty_api_Part
    obtain rfl := some_inj hm
    refine post_ret (vs := [.agg #[.int .u8 (IntKind.u8.wrap (IntKind.i64.wrap ((1:Int) + t414.1))), .int .u64 t471.1.Session, .int .u64 t471.1.Seq, .int .u64 (IntKind.u64.wrap (IntKind.i64.wrap ((1:Int) + t495.1))), .int .u64 (IntKind.u64.wrap t502.1), .int .i64 x488, .int .u64 (0:Int), .int .u64 (0:Int), .int .u64 (0:Int), (.slice none 0 0), (.slice none 0 0), (.slice none 0 0), (.slice none 0 0), v514, .int .i64 (0:Int), .int .u64 (0:Int), .int .u64 (0:Int), (.slice none 0 0), (.slice none 0 0), .int .u64 (0:Int), (.slice none 0 0), .int .u64 (0:Int), .int .i64 (0:Int), .int .i64 (0:Int), .float .f64 (0:Nat), .float .f64 (0:Nat), .int .u64 (0:Int), .int .i64 (0:Int), .bool false]]) Try.results9 (rvs_cons (rv_cell (cs := [.int .u8 (IntKind.u8.wrap (IntKind.i64.wrap ((1:Int) + t414.1))), .int .u64 t471.1.Session, .int .u64 t471.1.Seq, .int .u64 (IntKind.u64.wrap (IntKind.i64.wrap ((1:Int) + t495.1))), .int .u64 (IntKind.u64.wrap t502.1), .int .i64 x488, .int .u64 (0:Int), .int .u64 (0:Int), .int .u64 (0:Int), (.slice none 0 0), (.slice none 0 0), (.slice none 0 0), (.slice none 0 0), v514, .int .i64 (0:Int), .int .u64 (0:Int), .int .u64 (0:Int), (.slice none 0 0), (.slice none 0 0), .int .u64 (0:Int), (.slice none 0 0), .int .u64 (0:Int), .int .i64 (0:Int), .int .i64 (0:Int), .float .f64 (0:Nat), .float .f64 (0:Nat), .int .u64 (0:Int), .int .i64 (0:Int), .bool false]) rfl Try.isAgg45 Try.sizeOf45 (hst.bcs7 0 rfl)) rvs_nil) ?_
    replace hst := hst.pull10
    replace hst := hst.pull1
    replace hst := hst.pull2
    replace hst := hst.pull3
    replace hst := hst.pull10
    replace hst := hst.pull5
    replace hst := hst.pull6
    replace hst := hst.pull7
    replace hst := hst.pull8
    exact ⟨_, (.slice none 0 0), (.slice none 0 0), (.slice none 0 0), (.slice none 0 0), v514, (.slice none 0 0), (.slice none 0 0), (.slice none 0 0), rfl, hI0, hst.keep9⟩
   ·skip
    replace hm := bif_f hc470 hm
    refine wp_iff (congrArg Value.bool hc470) ?_
    refine wp_seq (wp_region_lit ?_)
    refine wv (.bool ((IntKind.u8.wrap (IntKind.i64.wrap ((1:Int) + t414.1))) == (4:Int))) rfl rfl rfl ?_
    refine wv (.bool ((IntKind.u8.wrap (IntKind.i64.wrap ((1:Int) + t414.1))) == (4:Int))) rfl rfl rfl ?_
    refine wl_nil (then_n ?_)
    refine bsplit ((IntKind.u8.wrap (IntKind.i64.wrap ((1:Int) + t414.1))) == (4:Int)) (fun hc520 => ?_) (fun hc520 => ?_)
    ·skip
     replace hm := bif_t hc520 hm
     refine wp_ift (congrArg Value.bool hc520) ?_
     refine wp_seq (wp_region_lit ?_)
     refine wv (p0) rfl rfl rfl ?_
     replace hst := hst.pull1
     obtain ⟨t521, ht522, hm⟩ := bind_some hm
     refine wl_call rfl rfl (x_call Try.call24 rfl (vs := [p0]) rfl) ?_
     refine (ref12_Tape_Of_ref hst.to1 ht522).mono ?_
     rintro _ w523 ⟨rfl, hst⟩
     refine ⟨_, rfl, ?_⟩
     replace hst := hst.of1
     refine wv (.pointer (some ⟨b435, 1, none⟩)) rfl rfl (x_field rfl Try.underlying45 rfl Try.sizeOf29 rfl) ?_
     replace hst := hst.pull1
     obtain ⟨w526, hr527, hst⟩ := hst.boxStore (P := Try.prog) (t := 29) (cs' := [.int .u8 (IntKind.u8.wrap (IntKind.i64.wrap ((1:Int) + t414.1))), .int .u64 t521.1.Session, .int .u64 t521.1.Seq, .int .u64 (0:Int), .int .u64 (0:Int), .int .i64 (0:Int), .int .u64 (0:Int), .int .u64 (0:Int), .int .u64 (0:Int), (.slice none 0 0), (.slice none 0 0), (.slice none 0 0), (.slice none 0 0), (.slice none 0 0), .int .i64 (0:Int), .int .u64 (0:Int), .int .u64 (0:Int), (.slice none 0 0), (.slice none 0 0), .int .u64 (0:Int), (.slice none 0 0), .int .u64 (0:Int), .int .i64 (0:Int), .int .i64 (0:Int), .float .f64 (0:Nat), .float .f64 (0:Nat), .int .u64 (0:Int), .int .i64 (0:Int), .bool false]) 1 (.agg #[.int .u64 t521.1.Session, .int .u64 t521.1.Seq]) Try.sizeOf29 (Nat.le_of_ble_eq_true rfl) (ones_cons rfl (ones_cons rfl ones_nil)) (by kernel_rfl)
     refine wl_unit rfl rfl (x_unit hr527) ?_
     refine wl_nil (then_n ?_)
     obtain ⟨y540, hm, hx541⟩ := bind_some hm
     refine wp_cut (fun a w => ∃ (z536 : ref12_Tape) (z537 : Int) (σ538 : Nat → Value), (ref13_OfCommand_j0 t414 t521) (z536, z537) = some r ∧ a = Fr 124 (upd (upd (upd σ538 0 (p0)) 2 (.pointer (some ⟨b409, 0, none⟩))) 3 (.pointer (some ⟨b435, 0, none⟩))) ∧ St w0 w I [at_ref12_Tape p0 z536, cells b409 [.int .u8 (0:Int), .int .u64 (0:Int), .int .u64 (0:Int), .int .u64 (0:Int), .int .u64 (0:Int), .int .i64 (0:Int), .int .u64 (0:Int), .int .u64 (0:Int), .int .u64 (0:Int), (.slice none 0 0), (.slice none 0 0), (.slice none 0 0), (.slice none 0 0), (.slice none 0 0), .int .i64 (0:Int), .int .u64 (0:Int), .int .u64 (0:Int), (.slice none 0 0), (.slice none 0 0), .int .u64 (0:Int), (.slice none 0 0), .int .u64 (0:Int), .int .i64 (0:Int), .int .i64 (0:Int), .float .f64 (0:Nat), .float .f64 (0:Nat), .int .u64 (0:Int), .int .i64 (0:Int), .bool false], cells b435 [.int .u8 (IntKind.u8.wrap (IntKind.i64.wrap ((1:Int) + t414.1))), .int .u64 z537, .int .u64 t521.1.Seq, .int .u64 (0:Int), .int .u64 (0:Int), .int .i64 (0:Int), .int .u64 (0:Int), .int .u64 (0:Int), .int .u64 (0:Int), (.slice none 0 0), (.slice none 0 0), (.slice none 0 0), (.slice none 0 0), (.slice none 0 0), .int .i64 (0:Int), .int .u64 (0:Int), .int .u64 (0:Int), (.slice none 0 0), (.slice none 0 0), .int .u64 (0:Int), (.slice none 0 0), .int .u64 (0:Int), .int .i64 (0:Int), .int .i64 (0:Int), .float .f64 (0:Nat), .float .f64 (0:Nat), .int .u64 (0:Int), .int .i64 (0:Int), .bool false]] R) ?_ ?_
     ·skip
      refine wp_seq (wp_region_lit ?_)
      refine wv (p0) rfl rfl rfl ?_
      replace hst := hst.pull1
      obtain ⟨t528, ht529, hm⟩ := bind_some hm
      refine wl_call rfl rfl (x_call Try.call22 rfl (vs := [p0, .int .i64 (6:Int)]) rfl) ?_
      refine (ref12_Tape_Next_ref hst.to1 ht529).mono ?_
      rintro _ w530 ⟨rfl, hst⟩
      refine ⟨_, rfl, ?_⟩
      replace hst := hst.of1
      refine wv (.bool (t528.1 == (0:Int))) rfl rfl rfl ?_
      refine wl_nil (then_n ?_)
      refine bsplit (t528.1 == (0:Int)) (fun hc533 => ?_) (fun hc533 => ?_)
      ·skip
       replace hm := bif_t hc533 hm
       refine wp_ift (congrArg Value.bool hc533) ?_
       refine wp_region_lit ?_
       refine wv (.pointer (some ⟨b435, 1, none⟩)) rfl rfl (x_field rfl Try.underlying45 rfl Try.sizeOf29 rfl) ?_
       refine wv (.pointer (some ⟨b435, 1, none⟩)) rfl rfl (x_field rfl Try.underlying29 rfl Try.sizeOf27 rfl) ?_
       refine wv (.int .u64 t521.1.Session) rfl rfl (x_load rfl Try.isAgg27 (hst.bc1 rfl)) ?_
       refine wv (.int .u64 (IntKind.u64.wrap (t521.1.Session + (9223372036854775808:Int)))) rfl rfl rfl ?_
       refine wv (.pointer (some ⟨b435, 1, none⟩)) rfl rfl (x_field rfl Try.underlying45 rfl Try.sizeOf29 rfl) ?_
       refine wv (.pointer (some ⟨b435, 1, none⟩)) rfl rfl (x_field rfl Try.underlying29 rfl Try.sizeOf27 rfl) ?_
       replace hst := hst.pull1
       obtain ⟨w534, hr535, hst⟩ := hst.boxStore (P := Try.prog) (t := 27) (cs' := [.int .u8 (IntKind.u8.wrap (IntKind.i64.wrap ((1:Int) + t414.1))), .int .u64 (IntKind.u64.wrap (t521.1.Session + (9223372036854775808:Int))), .int .u64 t521.1.Seq, .int .u64 (0:Int), .int .u64 (0:Int), .int .i64 (0:Int), .int .u64 (0:Int), .int .u64 (0:Int), .int .u64 (0:Int), (.slice none 0 0), (.slice none 0 0), (.slice none 0 0), (.slice none 0 0), (.slice none 0 0), .int .i64 (0:Int), .int .u64 (0:Int), .int .u64 (0:Int), (.slice none 0 0), (.slice none 0 0), .int .u64 (0:Int), (.slice none 0 0), .int .u64 (0:Int), .int .i64 (0:Int), .int .i64 (0:Int), .float .f64 (0:Nat), .float .f64 (0:Nat), .int .u64 (0:Int), .int .i64 (0:Int), .bool false]) 1 (.int .u64 (IntKind.u64.wrap (t521.1.Session + (9223372036854775808:Int)))) Try.sizeOf27 (Nat.le_of_ble_eq_true rfl) (ones_cons rfl ones_nil) (by kernel_rfl)
       refine wl_unit rfl rfl (x_unit hr535) ?_
       refine wl_nil (then_n ?_)
       replace hst := hst.pull2
       replace hst := hst.pull2
       replace hst := hst.keep3
       obtain rfl := some_inj hm
       exact ⟨t528.2, (IntKind.u64.wrap (t521.1.Session + (9223372036854775808:Int))), _, hx541, ((fr_upd (t := 0) (v := p0) rfl).trans ((fr_upd (t := 2) (v := .pointer (some ⟨b409, 0, none⟩)) rfl).trans ((fr_upd (t := 3) (v := .pointer (some ⟨b435, 0, none⟩)) rfl).trans rfl))), hst⟩
      ·skip
       replace hm := bif_f hc533 hm
       refine wp_iff (congrArg Value.bool hc533) ?_
       refine wp_skip (then_n ?_)
       replace hst := hst.pull1
       replace hst := hst.pull2
       replace hst := hst.pull2
       replace hst := hst.keep3
       obtain rfl := some_inj hm
       exact ⟨t528.2, t521.1.Session, _, hx541, ((fr_upd (t := 0) (v := p0) rfl).trans ((fr_upd (t := 2) (v := .pointer (some ⟨b409, 0, none⟩)) rfl).trans ((fr_upd (t := 3) (v := .pointer (some ⟨b435, 0, none⟩)) rfl).trans rfl))), hst⟩
     ·skip
      clear hst
      rintro _ w542 ⟨z536, z537, σ538, hm, rfl, hst⟩
      dsimp only [ref13_OfCommand_j0] at hm
      refine wp_seq (wp_region_lit ?_)
      refine wv (p0) rfl rfl rfl ?_
      obtain ⟨t543, ht544, hm⟩ := bind_some hm
      refine wl_call rfl rfl (x_call Try.call22 rfl (vs := [p0, .int .i64 (4:Int)]) rfl) ?_
      refine (ref12_Tape_Next_ref hst.to1 ht544).mono ?_
      rintro _ w545 ⟨rfl, hst⟩
      refine ⟨_, rfl, ?_⟩
      replace hst := hst.of1
      refine wv (.int .i64 (IntKind.i64.wrap ((1:Int) + t543.1))) rfl rfl rfl ?_
      refine wv (.int .u64 (IntKind.u64.wrap (IntKind.i64.wrap ((1:Int) + t543.1)))) rfl rfl (by kernel_rfl) ?_
      refine wv (.pointer (some ⟨b435, 3, none⟩)) rfl rfl (x_field rfl Try.underlying45 rfl Try.sizeOf27 rfl) ?_
      replace hst := hst.pull2
      obtain ⟨w548, hr549, hst⟩ := hst.boxStore (P := Try.prog) (t := 27) (cs' := [.int .u8 (IntKind.u8.wrap (IntKind.i64.wrap ((1:Int) + t414.1))), .int .u64 z537, .int .u64 t521.1.Seq, .int .u64 (IntKind.u64.wrap (IntKind.i64.wrap ((1:Int) + t543.1))), .int .u64 (0:Int), .int .i64 (0:Int), .int .u64 (0:Int), .int .u64 (0:Int), .int .u64 (0:Int), (.slice none 0 0), (.slice none 0 0), (.slice none 0 0), (.slice none 0 0), (.slice none 0 0), .int .i64 (0:Int), .int .u64 (0:Int), .int .u64 (0:Int), (.slice none 0 0), (.slice none 0 0), .int .u64 (0:Int), (.slice none 0 0), .int .u64 (0:Int), .int .i64 (0:Int), .int .i64 (0:Int), .float .f64 (0:Nat), .float .f64 (0:Nat), .int .u64 (0:Int), .int .i64 (0:Int), .bool false]) 3 (.int .u64 (IntKind.u64.wrap (IntKind.i64.wrap ((1:Int) + t543.1)))) Try.sizeOf27 (Nat.le_of_ble_eq_true rfl) (ones_cons rfl ones_nil) (by kernel_rfl)
      refine wl_unit rfl rfl (x_unit hr549) ?_
      refine wl_nil (then_n (wp_seq (wp_region_lit ?_)))
      refine wv (p0) rfl rfl rfl ?_
      replace hst := hst.pull1
      obtain ⟨t550, ht551, hm⟩ := bind_some hm
      refine wl_call rfl rfl (x_call Try.call22 rfl (vs := [p0, .int .i64 (4:Int)]) rfl) ?_
      refine (ref12_Tape_Next_ref hst.to1 ht551).mono ?_
      rintro _ w552 ⟨rfl, hst⟩
      refine ⟨_, rfl, ?_⟩
      replace hst := hst.of1
      refine wv (.int .u64 (IntKind.u64.wrap t550.1)) rfl rfl (by kernel_rfl) ?_
      refine wv (.pointer (some ⟨b435, 19, none⟩)) rfl rfl (x_field rfl Try.underlying45 rfl Try.sizeOf27 rfl) ?_
      replace hst := hst.pull1
      obtain ⟨w555, hr556, hst⟩ := hst.boxStore (P := Try.prog) (t := 27) (cs' := [.int .u8 (IntKind.u8.wrap (IntKind.i64.wrap ((1:Int) + t414.1))), .int .u64 z537, .int .u64 t521.1.Seq, .int .u64 (IntKind.u64.wrap (IntKind.i64.wrap ((1:Int) + t543.1))), .int .u64 (0:Int), .int .i64 (0:Int), .int .u64 (0:Int), .int .u64 (0:Int), .int .u64 (0:Int), (.slice none 0 0), (.slice none 0 0), (.slice none 0 0), (.slice none 0 0), (.slice none 0 0), .int .i64 (0:Int), .int .u64 (0:Int), .int .u64 (0:Int), (.slice none 0 0), (.slice none 0 0), .int .u64 (IntKind.u64.wrap t550.1), (.slice none 0 0), .int .u64 (0:Int), .int .i64 (0:Int), .int .i64 (0:Int), .float .f64 (0:Nat), .float .f64 (0:Nat), .int .u64 (0:Int), .int .i64 (0:Int), .bool false]) 19 (.int .u64 (IntKind.u64.wrap t550.1)) Try.sizeOf27 (Nat.le_of_ble_eq_true rfl) (ones_cons rfl ones_nil) (by kernel_rfl)
      refine wl_unit rfl rfl (x_unit hr556) ?_
      refine wl_nil (then_n (wp_seq (wp_region_lit ?_)))
      refine wv (p0) rfl rfl rfl ?_
      replace hst := hst.pull1
      obtain ⟨t557, ht558, hm⟩ := bind_some hm
      refine wl_call rfl rfl (x_call Try.call22 rfl (vs := [p0, .int .i64 (3:Int)]) rfl) ?_
      refine (ref12_Tape_Next_ref hst.to1 ht558).mono ?_
      rintro _ w559 ⟨rfl, hst⟩
      refine ⟨_, rfl, ?_⟩
      replace hst := hst.of1
      refine wv (.int .i64 t557.1) rfl rfl rfl ?_
      refine wl_nil (then_n ?_)
      obtain ⟨y684, hm, hx685⟩ := bind_some hm
      refine wp_cut (fun a w => ∃ (I681 : HL) (z677 : ref12_Tape) (z680 : (List api_Part)) (v679 : Value) (σ682 : Nat → Value), (ref13_OfCommand_j1 t414 z537 t521 t543 t550) (z677, z680) = some r ∧ a = Fr 124 (upd (upd (upd σ682 0 (p0)) 2 (.pointer (some ⟨b409, 0, none⟩))) 3 (.pointer (some ⟨b435, 0, none⟩))) ∧ I.le I681 ∧ St w0 w I681 [at_ref12_Tape p0 z677, cells b409 [.int .u8 (0:Int), .int .u64 (0:Int), .int .u64 (0:Int), .int .u64 (0:Int), .int .u64 (0:Int), .int .i64 (0:Int), .int .u64 (0:Int), .int .u64 (0:Int), .int .u64 (0:Int), (.slice none 0 0), (.slice none 0 0), (.slice none 0 0), (.slice none 0 0), (.slice none 0 0), .int .i64 (0:Int), .int .u64 (0:Int), .int .u64 (0:Int), (.slice none 0 0), (.slice none 0 0), .int .u64 (0:Int), (.slice none 0 0), .int .u64 (0:Int), .int .i64 (0:Int), .int .i64 (0:Int), .float .f64 (0:Nat), .float .f64 (0:Nat), .int .u64 (0:Int), .int .i64 (0:Int), .bool false], cells b435 [.int .u8 (IntKind.u8.wrap (IntKind.i64.wrap ((1:Int) + t414.1))), .int .u64 z537, .int .u64 t521.1.Seq, .int .u64 (IntKind.u64.wrap (IntKind.i64.wrap ((1:Int) + t543.1))), .int .u64 (0:Int), .int .i64 (0:Int), .int .u64 (0:Int), .int .u64 (0:Int), .int .u64 (0:Int), (.slice none 0 0), (.slice none 0 0), (.slice none 0 0), (.slice none 0 0), (.slice none 0 0), .int .i64 (0:Int), .int .u64 (0:Int), .int .u64 (0:Int), (.slice none 0 0), (.slice none 0 0), .int .u64 (IntKind.u64.wrap t550.1), v679, .int .u64 (0:Int), .int .i64 (0:Int), .int .i64 (0:Int), .float .f64 (0:Nat), .float .f64 (0:Nat), .int .u64 (0:Int), .int .i64 (0:Int), .bool false], ownS ty_api_Part v679 z680] R) ?_ ?_
      ·skip
       have hL686 := HL.le.refl I
       refine wp_seq (wp_region_lit ?_)
       refine wv (.int .i64 (0:Int)) rfl rfl rfl ?_
       refine wl_nil (then_n (wp_block ?_))
       replace hst := hst.own_nil ty_api_Part
       obtain ⟨n646, hm⟩ := loopO_some hm
       refine wp_loop_n (fun n a w => ∃ (I644 : HL) (z639 : (List api_Part)) (z642 : ref12_Tape) (z643 : Int) (v640 : Value) (σ645 : Nat → Value), loopN (ref13_OfCommand_l2 t557) n (z639, z642, z643) = some y684 ∧ a = Fr 124 (upd (upd (upd (upd (upd σ645 0 (p0)) 2 (.pointer (some ⟨b409, 0, none⟩))) 3 (.pointer (some ⟨b435, 0, none⟩))) 4 (.int .i64 t557.1)) 5 (.int .i64 z643)) ∧ I.le I644 ∧ St w0 w I644 [ownS ty_api_Part v640 z639, at_ref12_Tape p0 z642, cells b435 [.int .u8 (IntKind.u8.wrap (IntKind.i64.wrap ((1:Int) + t414.1))), .int .u64 z537, .int .u64 t521.1.Seq, .int .u64 (IntKind.u64.wrap (IntKind.i64.wrap ((1:Int) + t543.1))), .int .u64 (0:Int), .int .i64 (0:Int), .int .u64 (0:Int), .int .u64 (0:Int), .int .u64 (0:Int), (.slice none 0 0), (.slice none 0 0), (.slice none 0 0), (.slice none 0 0), (.slice none 0 0), .int .i64 (0:Int), .int .u64 (0:Int), .int .u64 (0:Int), (.slice none 0 0), (.slice none 0 0), .int .u64 (IntKind.u64.wrap t550.1), v640, .int .u64 (0:Int), .int .i64 (0:Int), .int .i64 (0:Int), .float .f64 (0:Nat), .float .f64 (0:Nat), .int .u64 (0:Int), .int .i64 (0:Int), .bool false], cells b409 [.int .u8 (0:Int), .int .u64 (0:Int), .int .u64 (0:Int), .int .u64 (0:Int), .int .u64 (0:Int), .int .i64 (0:Int), .int .u64 (0:Int), .int .u64 (0:Int), .int .u64 (0:Int), (.slice none 0 0), (.slice none 0 0), (.slice none 0 0), (.slice none 0 0), (.slice none 0 0), .int .i64 (0:Int), .int .u64 (0:Int), .int .u64 (0:Int), (.slice none 0 0), (.slice none 0 0), .int .u64 (0:Int), (.slice none 0 0), .int .u64 (0:Int), .int .i64 (0:Int), .int .i64 (0:Int), .float .f64 (0:Nat), .float .f64 (0:Nat), .int .u64 (0:Int), .int .i64 (0:Int), .bool false]] R) n646 ⟨_, [], t557.2, (0:Int), (.slice none 0 0), _, hm, ((fr_upd (t := 0) (v := p0) rfl).trans ((fr_upd (t := 2) (v := .pointer (some ⟨b409, 0, none⟩)) rfl).trans ((fr_upd (t := 3) (v := .pointer (some ⟨b435, 0, none⟩)) rfl).trans ((fr_upd (t := 4) (v := .int .i64 t557.1) rfl).trans ((fr_upd (t := 5) (v := .int .i64 (0:Int)) rfl).trans rfl))))), (HL.le.refl _), hst⟩ ?_
       rintro n652 _ w647 ⟨I644, z639, z642, z643, v640, σ645, hm, rfl, hL648, hst⟩
       obtain ⟨n649, y650, rfl, hm, hx651⟩ := loopN_some hm
       dsimp only [ref13_OfCommand_l2] at hm
       replace hI0 := hI0.trans hL648
       replace hL686 := hL686.trans hL648
       refine wp_seq (wp_seq (wp_region_lit ?_))
       refine wv (.int .i64 z643) rfl rfl rfl ?_
       refine wv (.int .i64 t557.1) rfl rfl rfl ?_
       refine wv (.bool (decide (z643 < t557.1))) rfl rfl rfl ?_
       refine wl_nil (then_n ?_)
       refine bsplit (decide (z643 < t557.1)) (fun hc653 => ?_) (fun hc653 => ?_)
       ·skip
        replace hm := bif_t hc653 hm
        refine wp_ift (congrArg Value.bool hc653) ?_
        refine wp_skip (then_n (wp_seq (wp_block ?_)))
        refine wp_region_St hst 10 [0, 1, 2, 3, 4, 5, 6, 7, 8, 9] [0, 1, 0, 0, 8, 28, 60, 127, 255, 511] [] rfl (by kernel_rfl) (by kernel_rfl) Try.mixed (by kernel_rfl) ?_
        refine wsr (.pointer (some ⟨b435, 20, none⟩)) 0 rfl rfl rfl (by kernel_rfl) (fun w hst => x_field rfl Try.underlying45 rfl Try.sizeOf40 rfl) ?_
        refine wsr (v640) 1 rfl rfl rfl (by kernel_rfl) (fun w hst => x_load rfl Try.isAgg40 (hst.bc2 rfl)) ?_
        refine wsr (.int .i64 z643) 2 rfl rfl rfl (by kernel_rfl) (fun w hst => rfl) ?_
        refine wsr (p0) 3 rfl rfl rfl (by kernel_rfl) (fun w hst => rfl) ?_
        refine ws_e1 4 (by kernel_rfl) ?_
        refine nxe [5, 6, 7, 8, 9] (by kernel_rfl) rfl rfl ?_
        clear hst
        intro w hst
        replace hst := hst.pull1
        obtain ⟨t654, ht655, hm⟩ := bind_some hm
        refine we_call rfl (x_call Try.call25 rfl (vs := [p0]) rfl) ?_
        refine (ref13_OfWrites_ref hst.to1 ht655).mono ?_
        rintro _ w656 ⟨I657, v659, rfl, hI658, hst⟩
        refine ⟨_, rfl, ?_⟩
        replace hst := hst.of2
        replace hI0 := hI0.trans hI658
        replace hL686 := hL686.trans hI658
        replace hL648 := hL648.trans hI658
        refine ws_next (pend' := [(2, .int .i64 z643), (1, v640), (0, .pointer (some ⟨b435, 20, none⟩))]) hst (by kernel_rfl) (pkr rfl rfl (fun w hst => rfl) (pkr rfl rfl (fun w hst => x_load rfl Try.isAgg40 (hst.bc3 rfl)) (pkr rfl rfl (fun w hst => x_field rfl Try.underlying45 rfl Try.sizeOf40 rfl) pk_nil))) ?_
        refine wsr (.agg #[.int .i64 z643, v659]) 5 rfl rfl rfl (by kernel_rfl) (fun w hst => by obtain ⟨_, _, hv_, _⟩ := hst.sv0; rw [hv_]; kernel_rfl) ?_
        refine ws_e1 6 (by kernel_rfl) ?_
        refine nxe [7, 8, 9] (by kernel_rfl) rfl rfl ?_
        clear hst
        intro w hst
        obtain ⟨I663, hI664, f665, hst⟩ := hst.own_fix
        replace hI0 := hI0.trans hI664
        replace hL686 := hL686.trans hI664
        replace hL648 := hL648.trans hI664
        obtain ⟨b666, w667, ew668, eb669, hst⟩ := hst.lits (E := ty_api_Part) (xs := [({ Shard := z643, Writes := t654.1 } : api_Part)]) [[.int .i64 z643, v659]] 81 1 rfl (Reps.cons ⟨_, rfl, f665, one_of_sliceV (ro_sliceV f665)⟩ Reps.nil)
        refine we_run (v := (.slice (some ⟨b666, 0, none⟩) 1 1)) (w' := w667) rfl (x_als (by kernel_rfl) ew668 eb669) ?_
        refine ws_next (pend' := [(1, v640), (0, .pointer (some ⟨b435, 20, none⟩))]) hst (by kernel_rfl) (pkr rfl rfl (fun w hst => x_load rfl Try.isAgg40 (hst.bc3 rfl)) (pkr rfl rfl (fun w hst => x_field rfl Try.underlying45 rfl Try.sizeOf40 rfl) pk_nil)) ?_
        refine ws_e1 7 (by kernel_rfl) ?_
        refine nxe [8, 9] (by kernel_rfl) rfl rfl ?_
        clear hst
        intro w hst
        obtain ⟨hg671, hm⟩ := gd_some hm
        replace hst := hst.pull2
        obtain ⟨v672, w673, hr674, hst⟩ := run_append elem_40 Try.underlying40 hst hst.src1 (room_of hg671 rfl) 40
        refine we_run (v := v672) (w' := w673) rfl (x_append rfl rfl hr674) ?_
        refine ws_next (pend' := []) hst (by kernel_rfl) pk_nil ?_
        refine wsr (.pointer (some ⟨b435, 20, none⟩)) 8 rfl rfl rfl (by kernel_rfl) (fun w hst => x_field rfl Try.underlying45 rfl Try.sizeOf40 rfl) ?_
        refine ws_e1 9 (by kernel_rfl) ?_
        refine nxe [] (by kernel_rfl) rfl rfl ?_
        clear hst
        intro w hst
        replace hst := hst.pull3
        obtain ⟨w675, hr676, hst⟩ := hst.boxStore1 (P := Try.prog) (t := 40) (cs' := [.int .u8 (IntKind.u8.wrap (IntKind.i64.wrap ((1:Int) + t414.1))), .int .u64 z537, .int .u64 t521.1.Seq, .int .u64 (IntKind.u64.wrap (IntKind.i64.wrap ((1:Int) + t543.1))), .int .u64 (0:Int), .int .i64 (0:Int), .int .u64 (0:Int), .int .u64 (0:Int), .int .u64 (0:Int), (.slice none 0 0), (.slice none 0 0), (.slice none 0 0), (.slice none 0 0), (.slice none 0 0), .int .i64 (0:Int), .int .u64 (0:Int), .int .u64 (0:Int), (.slice none 0 0), (.slice none 0 0), .int .u64 (IntKind.u64.wrap t550.1), v672, .int .u64 (0:Int), .int .i64 (0:Int), .int .i64 (0:Int), .float .f64 (0:Nat), .float .f64 (0:Nat), .int .u64 (0:Int), .int .i64 (0:Int), .bool false]) 20 v672 (one_of_sliceV hst.sv1) Try.sizeOf40 rfl rfl
        refine we_unit rfl (x_unit hr676) ?_
        refine ws_next (pend' := []) hst (by kernel_rfl) pk_nil ?_
        refine ws_nil ?_
        intro w hst
        refine blk_n (then_n (wp_region_lit ?_))
        refine wv (.int .i64 z643) rfl rfl rfl ?_
        refine wv (.int .i64 (IntKind.i64.wrap (z643 + (1:Int)))) rfl rfl rfl ?_
        refine wv (.int .i64 (IntKind.i64.wrap (z643 + (1:Int)))) rfl rfl rfl ?_
        refine wl_nil (then_n ?_)
        replace hst := hst.pull4
        replace hst := hst.pull1
        replace hst := hst.pull4
        replace hst := hst.pull3
        replace hst := hst.keep4
        obtain rfl := some_inj hm
        exact ⟨_, Nat.lt_succ_self _, _, (z639 ++ ([({ Shard := z643, Writes := t654.1 } : api_Part)])), t654.2, (IntKind.i64.wrap (z643 + (1:Int))), v672, _, hx651, ((fr_upd (t := 0) (v := p0) rfl).trans ((fr_upd (t := 2) (v := .pointer (some ⟨b409, 0, none⟩)) rfl).trans ((fr_upd (t := 3) (v := .pointer (some ⟨b435, 0, none⟩)) rfl).trans ((fr_upd (t := 4) (v := .int .i64 t557.1) rfl).trans ((fr_upd (t := 5) (v := .int .i64 (IntKind.i64.wrap (z643 + (1:Int)))) rfl).trans rfl))))), hL648, hst⟩
       ·skip
        replace hm := bif_f hc653 hm
        refine wp_iff (congrArg Value.bool hc653) ?_
        refine wp_exit (then_x (then_x ?_))
        replace hm := inr_up hm hx651
        refine blk_x (then_n ?_)
        replace hst := hst.pull2
        replace hst := hst.pull3
        replace hst := hst.pull3
        replace hst := hst.keep4
        obtain rfl := some_inj hm
        exact ⟨_, z642, z639, v640, _, hx685, ((fr_upd (t := 0) (v := p0) rfl).trans ((fr_upd (t := 2) (v := .pointer (some ⟨b409, 0, none⟩)) rfl).trans ((fr_upd (t := 3) (v := .pointer (some ⟨b435, 0, none⟩)) rfl).trans rfl))), hL686, hst⟩
      ·skip
       clear hst
       rintro _ w687 ⟨I681, z677, z680, v679, σ682, hm, rfl, hL683, hst⟩
       dsimp only [ref13_OfCommand_j1] at hm
       replace hI0 := hI0.trans hL683
       refine wp_region_lit ?_
       refine wv (p0) rfl rfl rfl ?_
       obtain ⟨t688, ht689, hm⟩ := bind_some hm
       refine wl_call rfl rfl (x_call Try.call12 rfl (vs := [p0]) rfl) ?_
       refine (ref13_OfReply_ref hst.to1 ht689).mono ?_
       rintro _ w690 ⟨I691, v693, v695, rfl, hI692, hst⟩
       refine ⟨_, rfl, ?_⟩
       replace hst := hst.of3
       replace hI0 := hI0.trans hI692
       refine wv (.pointer (some ⟨b435, 14, none⟩)) rfl rfl (x_field rfl Try.underlying45 rfl Try.sizeOf39 rfl) ?_
       replace hst := hst.pull4
       obtain ⟨w697, hr698, hst⟩ := hst.boxStore (P := Try.prog) (t := 39) (cs' := [.int .u8 (IntKind.u8.wrap (IntKind.i64.wrap ((1:Int) + t414.1))), .int .u64 z537, .int .u64 t521.1.Seq, .int .u64 (IntKind.u64.wrap (IntKind.i64.wrap ((1:Int) + t543.1))), .int .u64 (0:Int), .int .i64 (0:Int), .int .u64 (0:Int), .int .u64 (0:Int), .int .u64 (0:Int), (.slice none 0 0), (.slice none 0 0), (.slice none 0 0), (.slice none 0 0), (.slice none 0 0), .int .i64 t688.1.E, .int .u64 t688.1.Epoch, .int .u64 t688.1.Index, v693, v695, .int .u64 (IntKind.u64.wrap t550.1), v679, .int .u64 (0:Int), .int .i64 (0:Int), .int .i64 (0:Int), .float .f64 (0:Nat), .float .f64 (0:Nat), .int .u64 (0:Int), .int .i64 (0:Int), .bool false]) 14 (.agg #[.int .i64 t688.1.E, .int .u64 t688.1.Epoch, .int .u64 t688.1.Index, v693, v695]) Try.sizeOf39 (Nat.le_of_ble_eq_true rfl) (ones_cons rfl (ones_cons rfl (ones_cons rfl (ones_cons (one_of_sliceV hst.sv1) (ones_cons (one_of_sliceV hst.sv2) ones_nil))))) (by kernel_rfl)
       refine wl_unit rfl rfl (x_unit hr698) ?_
       refine wl_nil (blk_n (then_n (wp_seq (wp_region_lit ?_))))
       refine wv (.agg #[.int .u8 (IntKind.u8.wrap (IntKind.i64.wrap ((1:Int) + t414.1))), .int .u64 z537, .int .u64 t521.1.Seq, .int .u64 (IntKind.u64.wrap (IntKind.i64.wrap ((1:Int) + t543.1))), .int .u64 (0:Int), .int .i64 (0:Int), .int .u64 (0:Int), .int .u64 (0:Int), .int .u64 (0:Int), (.slice none 0 0), (.slice none 0 0), (.slice none 0 0), (.slice none 0 0), (.slice none 0 0), .int .i64 t688.1.E, .int .u64 t688.1.Epoch, .int .u64 t688.1.Index, v693, v695, .int .u64 (IntKind.u64.wrap t550.1), v679, .int .u64 (0:Int), .int .i64 (0:Int), .int .i64 (0:Int), .float .f64 (0:Nat), .float .f64 (0:Nat), .int .u64 (0:Int), .int .i64 (0:Int), .bool false]) rfl rfl (x_loadN (cs := [.int .u8 (IntKind.u8.wrap (IntKind.i64.wrap ((1:Int) + t414.1))), .int .u64 z537, .int .u64 t521.1.Seq, .int .u64 (IntKind.u64.wrap (IntKind.i64.wrap ((1:Int) + t543.1))), .int .u64 (0:Int), .int .i64 (0:Int), .int .u64 (0:Int), .int .u64 (0:Int), .int .u64 (0:Int), (.slice none 0 0), (.slice none 0 0), (.slice none 0 0), (.slice none 0 0), (.slice none 0 0), .int .i64 t688.1.E, .int .u64 t688.1.Epoch, .int .u64 t688.1.Index, v693, v695, .int .u64 (IntKind.u64.wrap t550.1), v679, .int .u64 (0:Int), .int .i64 (0:Int), .int .i64 (0:Int), .float .f64 (0:Nat), .float .f64 (0:Nat), .int .u64 (0:Int), .int .i64 (0:Int), .bool false]) rfl Try.isAgg45 Try.sizeOf45 (hst.bcs0 0 rfl)) ?_
       replace hst := hst.pull4
       obtain ⟨w699, hr700, hst⟩ := hst.boxStore (P := Try.prog) (t := 45) (cs' := [.int .u8 (IntKind.u8.wrap (IntKind.i64.wrap ((1:Int) + t414.1))), .int .u64 z537, .int .u64 t521.1.Seq, .int .u64 (IntKind.u64.wrap (IntKind.i64.wrap ((1:Int) + t543.1))), .int .u64 (0:Int), .int .i64 (0:Int), .int .u64 (0:Int), .int .u64 (0:Int), .int .u64 (0:Int), (.slice none 0 0), (.slice none 0 0), (.slice none 0 0), (.slice none 0 0), (.slice none 0 0), .int .i64 t688.1.E, .int .u64 t688.1.Epoch, .int .u64 t688.1.Index, v693, v695, .int .u64 (IntKind.u64.wrap t550.1), v679, .int .u64 (0:Int), .int .i64 (0:Int), .int .i64 (0:Int), .float .f64 (0:Nat), .float .f64 (0:Nat), .int .u64 (0:Int), .int .i64 (0:Int), .bool false]) 0 (.agg #[.int .u8 (IntKind.u8.wrap (IntKind.i64.wrap ((1:Int) + t414.1))), .int .u64 z537, .int .u64 t521.1.Seq, .int .u64 (IntKind.u64.wrap (IntKind.i64.wrap ((1:Int) + t543.1))), .int .u64 (0:Int), .int .i64 (0:Int), .int .u64 (0:Int), .int .u64 (0:Int), .int .u64 (0:Int), (.slice none 0 0), (.slice none 0 0), (.slice none 0 0), (.slice none 0 0), (.slice none 0 0), .int .i64 t688.1.E, .int .u64 t688.1.Epoch, .int .u64 t688.1.Index, v693, v695, .int .u64 (IntKind.u64.wrap t550.1), v679, .int .u64 (0:Int), .int .i64 (0:Int), .int .i64 (0:Int), .float .f64 (0:Nat), .float .f64 (0:Nat), .int .u64 (0:Int), .int .i64 (0:Int), .bool false]) Try.sizeOf45 (Nat.le_of_ble_eq_true rfl) (ones_cons rfl (ones_cons rfl (ones_cons rfl (ones_cons rfl (ones_cons rfl (ones_cons rfl (ones_cons rfl (ones_cons rfl (ones_cons rfl (ones_cons rfl (ones_cons rfl (ones_cons rfl (ones_cons rfl (ones_cons rfl (ones_cons rfl (ones_cons rfl (ones_cons rfl (ones_cons (one_of_sliceV hst.sv2) (ones_cons (one_of_sliceV hst.sv3) (ones_cons rfl (ones_cons (one_of_sliceV hst.sv5) (ones_cons rfl (ones_cons rfl (ones_cons rfl (ones_cons rfl (ones_cons rfl (ones_cons rfl (ones_cons rfl (ones_cons rfl ones_nil))))))))))))))))))))))))))))) (by kernel_rfl)
       refine wl_unit rfl rfl (x_unit hr700) ?_
       refine wl_nil (then_n (wp_ret ?_))
       replace hst := hst.own_nil tyF64
       replace hst := hst.own_nil tyF2
       replace hst := hst.own_nil tyF64
       replace hst := hst.own_nil (tyInt .u8)
       replace hst := hst.own_nil ty_api_Write
       obtain rfl := some_inj hm
       refine post_ret (vs := [.agg #[.int .u8 (IntKind.u8.wrap (IntKind.i64.wrap ((1:Int) + t414.1))), .int .u64 z537, .int .u64 t521.1.Seq, .int .u64 (IntKind.u64.wrap (IntKind.i64.wrap ((1:Int) + t543.1))), .int .u64 (0:Int), .int .i64 (0:Int), .int .u64 (0:Int), .int .u64 (0:Int), .int .u64 (0:Int), (.slice none 0 0), (.slice none 0 0), (.slice none 0 0), (.slice none 0 0), (.slice none 0 0), .int .i64 t688.1.E, .int .u64 t688.1.Epoch, .int .u64 t688.1.Index, v693, v695, .int .u64 (IntKind.u64.wrap t550.1), v679, .int .u64 (0:Int), .int .i64 (0:Int), .int .i64 (0:Int), .float .f64 (0:Nat), .float .f64 (0:Nat), .int .u64 (0:Int), .int .i64 (0:Int), .bool false]]) Try.results9 (rvs_cons (rv_cell (cs := [.int .u8 (IntKind.u8.wrap (IntKind.i64.wrap ((1:Int) + t414.1))), .int .u64 z537, .int .u64 t521.1.Seq, .int .u64 (IntKind.u64.wrap (IntKind.i64.wrap ((1:Int) + t543.1))), .int .u64 (0:Int), .int .i64 (0:Int), .int .u64 (0:Int), .int .u64 (0:Int), .int .u64 (0:Int), (.slice none 0 0), (.slice none 0 0), (.slice none 0 0), (.slice none 0 0), (.slice none 0 0), .int .i64 t688.1.E, .int .u64 t688.1.Epoch, .int .u64 t688.1.Index, v693, v695, .int .u64 (IntKind.u64.wrap t550.1), v679, .int .u64 (0:Int), .int .i64 (0:Int), .int .i64 (0:Int), .float .f64 (0:Nat), .float .f64 (0:Nat), .int .u64 (0:Int), .int .i64 (0:Int), .bool false]) rfl Try.isAgg45 Try.sizeOf45 (hst.bcs5 0 rfl)) rvs_nil) ?_
       replace hst := hst.pull9
       replace hst := hst.pull10
       replace hst := hst.pull10
       replace hst := hst.pull10
       replace hst := hst.pull4
       replace hst := hst.pull5
       replace hst := hst.pull6
       replace hst := hst.pull7
       replace hst := hst.pull8
       exact ⟨_, (.slice none 0 0), (.slice none 0 0), (.slice none 0 0), (.slice none 0 0), (.slice none 0 0), v693, v695, v679, rfl, hI0, hst.keep9⟩
    ·skip
     replace hm := bif_f hc520 hm
     refine wp_iff (congrArg Value.bool hc520) ?_
     refine wp_seq (wp_region_lit ?_)
     refine wv (.bool ((IntKind.u8.wrap (IntKind.i64.wrap ((1:Int) + t414.1))) == (5:Int))) rfl rfl rfl ?_
     refine wv (.bool ((IntKind.u8.wrap (IntKind.i64.wrap ((1:Int) + t414.1))) == (5:Int))) rfl rfl rfl ?_
     refine wl_nil (then_n ?_)
     refine bsplit ((IntKind.u8.wrap (IntKind.i64.wrap ((1:Int) + t414.1))) == (5:Int)) (fun hc701 => ?_) (fun hc701 => ?_)
     ·skip
      replace hm := bif_t hc701 hm
      refine wp_ift (congrArg Value.bool hc701) ?_
      refine wp_region_lit ?_
      refine wv (p0) rfl rfl rfl ?_
      replace hst := hst.pull1
      obtain ⟨t702, ht703, hm⟩ := bind_some hm
      refine wl_call rfl rfl (x_call Try.call24 rfl (vs := [p0]) rfl) ?_
      refine (ref12_Tape_Of_ref hst.to1 ht703).mono ?_
      rintro _ w704 ⟨rfl, hst⟩
      refine ⟨_, rfl, ?_⟩
      replace hst := hst.of1
      refine wv (.pointer (some ⟨b435, 1, none⟩)) rfl rfl (x_field rfl Try.underlying45 rfl Try.sizeOf29 rfl) ?_
      replace hst := hst.pull1
      obtain ⟨w707, hr708, hst⟩ := hst.boxStore (P := Try.prog) (t := 29) (cs' := [.int .u8 (IntKind.u8.wrap (IntKind.i64.wrap ((1:Int) + t414.1))), .int .u64 t702.1.Session, .int .u64 t702.1.Seq, .int .u64 (0:Int), .int .u64 (0:Int), .int .i64 (0:Int), .int .u64 (0:Int), .int .u64 (0:Int), .int .u64 (0:Int), (.slice none 0 0), (.slice none 0 0), (.slice none 0 0), (.slice none 0 0), (.slice none 0 0), .int .i64 (0:Int), .int .u64 (0:Int), .int .u64 (0:Int), (.slice none 0 0), (.slice none 0 0), .int .u64 (0:Int), (.slice none 0 0), .int .u64 (0:Int), .int .i64 (0:Int), .int .i64 (0:Int), .float .f64 (0:Nat), .float .f64 (0:Nat), .int .u64 (0:Int), .int .i64 (0:Int), .bool false]) 1 (.agg #[.int .u64 t702.1.Session, .int .u64 t702.1.Seq]) Try.sizeOf29 (Nat.le_of_ble_eq_true rfl) (ones_cons rfl (ones_cons rfl ones_nil)) (by kernel_rfl)
      refine wl_unit rfl rfl (x_unit hr708) ?_
      refine wl_nil (blk_n (then_n (wp_seq (wp_region_lit ?_))))
      refine wv (.agg #[.int .u8 (IntKind.u8.wrap (IntKind.i64.wrap ((1:Int) + t414.1))), .int .u64 t702.1.Session, .int .u64 t702.1.Seq, .int .u64 (0:Int), .int .u64 (0:Int), .int .i64 (0:Int), .int .u64 (0:Int), .int .u64 (0:Int), .int .u64 (0:Int), (.slice none 0 0), (.slice none 0 0), (.slice none 0 0), (.slice none 0 0), (.slice none 0 0), .int .i64 (0:Int), .int .u64 (0:Int), .int .u64 (0:Int), (.slice none 0 0), (.slice none 0 0), .int .u64 (0:Int), (.slice none 0 0), .int .u64 (0:Int), .int .i64 (0:Int), .int .i64 (0:Int), .float .f64 (0:Nat), .float .f64 (0:Nat), .int .u64 (0:Int), .int .i64 (0:Int), .bool false]) rfl rfl (x_loadN (cs := [.int .u8 (IntKind.u8.wrap (IntKind.i64.wrap ((1:Int) + t414.1))), .int .u64 t702.1.Session, .int .u64 t702.1.Seq, .int .u64 (0:Int), .int .u64 (0:Int), .int .i64 (0:Int), .int .u64 (0:Int), .int .u64 (0:Int), .int .u64 (0:Int), (.slice none 0 0), (.slice none 0 0), (.slice none 0 0), (.slice none 0 0), (.slice none 0 0), .int .i64 (0:Int), .int .u64 (0:Int), .int .u64 (0:Int), (.slice none 0 0), (.slice none 0 0), .int .u64 (0:Int), (.slice none 0 0), .int .u64 (0:Int), .int .i64 (0:Int), .int .i64 (0:Int), .float .f64 (0:Nat), .float .f64 (0:Nat), .int .u64 (0:Int), .int .i64 (0:Int), .bool false]) rfl Try.isAgg45 Try.sizeOf45 (hst.bcs0 0 rfl)) ?_
      replace hst := hst.pull2
      obtain ⟨w709, hr710, hst⟩ := hst.boxStore (P := Try.prog) (t := 45) (cs' := [.int .u8 (IntKind.u8.wrap (IntKind.i64.wrap ((1:Int) + t414.1))), .int .u64 t702.1.Session, .int .u64 t702.1.Seq, .int .u64 (0:Int), .int .u64 (0:Int), .int .i64 (0:Int), .int .u64 (0:Int), .int .u64 (0:Int), .int .u64 (0:Int), (.slice none 0 0), (.slice none 0 0), (.slice none 0 0), (.slice none 0 0), (.slice none 0 0), .int .i64 (0:Int), .int .u64 (0:Int), .int .u64 (0:Int), (.slice none 0 0), (.slice none 0 0), .int .u64 (0:Int), (.slice none 0 0), .int .u64 (0:Int), .int .i64 (0:Int), .int .i64 (0:Int), .float .f64 (0:Nat), .float .f64 (0:Nat), .int .u64 (0:Int), .int .i64 (0:Int), .bool false]) 0 (.agg #[.int .u8 (IntKind.u8.wrap (IntKind.i64.wrap ((1:Int) + t414.1))), .int .u64 t702.1.Session, .int .u64 t702.1.Seq, .int .u64 (0:Int), .int .u64 (0:Int), .int .i64 (0:Int), .int .u64 (0:Int), .int .u64 (0:Int), .int .u64 (0:Int), (.slice none 0 0), (.slice none 0 0), (.slice none 0 0), (.slice none 0 0), (.slice none 0 0), .int .i64 (0:Int), .int .u64 (0:Int), .int .u64 (0:Int), (.slice none 0 0), (.slice none 0 0), .int .u64 (0:Int), (.slice none 0 0), .int .u64 (0:Int), .int .i64 (0:Int), .int .i64 (0:Int), .float .f64 (0:Nat), .float .f64 (0:Nat), .int .u64 (0:Int), .int .i64 (0:Int), .bool false]) Try.sizeOf45 (Nat.le_of_ble_eq_true rfl) (ones_cons rfl (ones_cons rfl (ones_cons rfl (ones_cons rfl (ones_cons rfl (ones_cons rfl (ones_cons rfl (ones_cons rfl (ones_cons rfl (ones_cons rfl (ones_cons rfl (ones_cons rfl (ones_cons rfl (ones_cons rfl (ones_cons rfl (ones_cons rfl (ones_cons rfl (ones_cons rfl (ones_cons rfl (ones_cons rfl (ones_cons rfl (ones_cons rfl (ones_cons rfl (ones_cons rfl (ones_cons rfl (ones_cons rfl (ones_cons rfl (ones_cons rfl (ones_cons rfl ones_nil))))))))))))))))))))))))))))) (by kernel_rfl)
      refine wl_unit rfl rfl (x_unit hr710) ?_
      refine wl_nil (then_n (wp_ret ?_))
      replace hst := hst.own_nil tyF64
      replace hst := hst.own_nil tyF2
      replace hst := hst.own_nil tyF64
      replace hst := hst.own_nil (tyInt .u8)
      replace hst := hst.own_nil ty_api_Write
      replace hst := hst.own_nil ty_api_Got
      replace hst := hst.own_nil (tySl ty_api_Pair)
      replace hst := hst.own_nil ty_api_Part
      obtain rfl := some_inj hm
      refine post_ret (vs := [.agg #[.int .u8 (IntKind.u8.wrap (IntKind.i64.wrap ((1:Int) + t414.1))), .int .u64 t702.1.Session, .int .u64 t702.1.Seq, .int .u64 (0:Int), .int .u64 (0:Int), .int .i64 (0:Int), .int .u64 (0:Int), .int .u64 (0:Int), .int .u64 (0:Int), (.slice none 0 0), (.slice none 0 0), (.slice none 0 0), (.slice none 0 0), (.slice none 0 0), .int .i64 (0:Int), .int .u64 (0:Int), .int .u64 (0:Int), (.slice none 0 0), (.slice none 0 0), .int .u64 (0:Int), (.slice none 0 0), .int .u64 (0:Int), .int .i64 (0:Int), .int .i64 (0:Int), .float .f64 (0:Nat), .float .f64 (0:Nat), .int .u64 (0:Int), .int .i64 (0:Int), .bool false]]) Try.results9 (rvs_cons (rv_cell (cs := [.int .u8 (IntKind.u8.wrap (IntKind.i64.wrap ((1:Int) + t414.1))), .int .u64 t702.1.Session, .int .u64 t702.1.Seq, .int .u64 (0:Int), .int .u64 (0:Int), .int .i64 (0:Int), .int .u64 (0:Int), .int .u64 (0:Int), .int .u64 (0:Int), (.slice none 0 0), (.slice none 0 0), (.slice none 0 0), (.slice none 0 0), (.slice none 0 0), .int .i64 (0:Int), .int .u64 (0:Int), .int .u64 (0:Int), (.slice none 0 0), (.slice none 0 0), .int .u64 (0:Int), (.slice none 0 0), .int .u64 (0:Int), .int .i64 (0:Int), .int .i64 (0:Int), .float .f64 (0:Nat), .float .f64 (0:Nat), .int .u64 (0:Int), .int .i64 (0:Int), .bool false]) rfl Try.isAgg45 Try.sizeOf45 (hst.bcs8 0 rfl)) rvs_nil) ?_
      replace hst := hst.pull10
      replace hst := hst.pull1
      replace hst := hst.pull2
      replace hst := hst.pull3
      replace hst := hst.pull4
      replace hst := hst.pull5
      replace hst := hst.pull6
      replace hst := hst.pull7
      replace hst := hst.pull8
      exact ⟨_, (.slice none 0 0), (.slice none 0 0), (.slice none 0 0), (.slice none 0 0), (.slice none 0 0), (.slice none 0 0), (.slice none 0 0), (.slice none 0 0), rfl, hI0, hst.keep9⟩
     ·skip
      replace hm := bif_f hc701 hm
      refine wp_iff (congrArg Value.bool hc701) ?_
      refine wp_seq (wp_region_lit ?_)
      refine wv (.bool ((IntKind.u8.wrap (IntKind.i64.wrap ((1:Int) + t414.1))) == (6:Int))) rfl rfl rfl ?_
      refine wv (.bool ((IntKind.u8.wrap (IntKind.i64.wrap ((1:Int) + t414.1))) == (6:Int))) rfl rfl rfl ?_
      refine wl_nil (then_n ?_)
      refine bsplit ((IntKind.u8.wrap (IntKind.i64.wrap ((1:Int) + t414.1))) == (6:Int)) (fun hc711 => ?_) (fun hc711 => ?_)
      ·skip
       replace hm := bif_t hc711 hm
       refine wp_ift (congrArg Value.bool hc711) ?_
       refine wp_seq (wp_region_lit ?_)
       refine wv (p0) rfl rfl rfl ?_
       replace hst := hst.pull1
       obtain ⟨t712, ht713, hm⟩ := bind_some hm
       refine wl_call rfl rfl (x_call Try.call26 rfl (vs := [p0]) rfl) ?_
       refine (ref13_OfRule_ref hst.to1 ht713).mono ?_
       rintro _ w714 ⟨rfl, hst⟩
       refine ⟨_, rfl, ?_⟩
       replace hst := hst.of1
       refine wv (.pointer (some ⟨b435, 21, none⟩)) rfl rfl (x_field rfl Try.underlying45 rfl Try.sizeOf43 rfl) ?_
       replace hst := hst.pull1
       obtain ⟨w717, hr718, hst⟩ := hst.boxStore (P := Try.prog) (t := 43) (cs' := [.int .u8 (IntKind.u8.wrap (IntKind.i64.wrap ((1:Int) + t414.1))), .int .u64 (0:Int), .int .u64 (0:Int), .int .u64 (0:Int), .int .u64 (0:Int), .int .i64 (0:Int), .int .u64 (0:Int), .int .u64 (0:Int), .int .u64 (0:Int), (.slice none 0 0), (.slice none 0 0), (.slice none 0 0), (.slice none 0 0), (.slice none 0 0), .int .i64 (0:Int), .int .u64 (0:Int), .int .u64 (0:Int), (.slice none 0 0), (.slice none 0 0), .int .u64 (0:Int), (.slice none 0 0), .int .u64 t712.1.ID, .int .i64 t712.1.From, .int .i64 t712.1.To, .float .f64 t712.1.Lo, .float .f64 t712.1.Hi, .int .u64 t712.1.Authority, .int .i64 t712.1.Quota, .bool false]) 21 (.agg #[.int .u64 t712.1.ID, .int .i64 t712.1.From, .int .i64 t712.1.To, .float .f64 t712.1.Lo, .float .f64 t712.1.Hi, .int .u64 t712.1.Authority, .int .i64 t712.1.Quota]) Try.sizeOf43 (Nat.le_of_ble_eq_true rfl) (ones_cons rfl (ones_cons rfl (ones_cons rfl (ones_cons rfl (ones_cons rfl (ones_cons rfl (ones_cons rfl ones_nil))))))) (by kernel_rfl)
       refine wl_unit rfl rfl (x_unit hr718) ?_
       refine wl_nil (then_n (wp_region_lit ?_))
       refine wv (p0) rfl rfl rfl ?_
       replace hst := hst.pull1
       obtain ⟨t719, ht720, hm⟩ := bind_some hm
       refine wl_call rfl rfl (x_call Try.call22 rfl (vs := [p0, .int .i64 (3:Int)]) rfl) ?_
       refine (ref12_Tape_Next_ref hst.to1 ht720).mono ?_
       rintro _ w721 ⟨rfl, hst⟩
       refine ⟨_, rfl, ?_⟩
       replace hst := hst.of1
       refine wv (.bool (decide (t719.1 > (0:Int)))) rfl rfl rfl ?_
       refine wv (.pointer (some ⟨b435, 28, none⟩)) rfl rfl (x_field rfl Try.underlying45 rfl Try.sizeOf4 rfl) ?_
       replace hst := hst.pull1
       obtain ⟨w724, hr725, hst⟩ := hst.boxStore (P := Try.prog) (t := 4) (cs' := [.int .u8 (IntKind.u8.wrap (IntKind.i64.wrap ((1:Int) + t414.1))), .int .u64 (0:Int), .int .u64 (0:Int), .int .u64 (0:Int), .int .u64 (0:Int), .int .i64 (0:Int), .int .u64 (0:Int), .int .u64 (0:Int), .int .u64 (0:Int), (.slice none 0 0), (.slice none 0 0), (.slice none 0 0), (.slice none 0 0), (.slice none 0 0), .int .i64 (0:Int), .int .u64 (0:Int), .int .u64 (0:Int), (.slice none 0 0), (.slice none 0 0), .int .u64 (0:Int), (.slice none 0 0), .int .u64 t712.1.ID, .int .i64 t712.1.From, .int .i64 t712.1.To, .float .f64 t712.1.Lo, .float .f64 t712.1.Hi, .int .u64 t712.1.Authority, .int .i64 t712.1.Quota, .bool (decide (t719.1 > (0:Int)))]) 28 (.bool (decide (t719.1 > (0:Int)))) Try.sizeOf4 (Nat.le_of_ble_eq_true rfl) (ones_cons rfl ones_nil) (by kernel_rfl)
       refine wl_unit rfl rfl (x_unit hr725) ?_
       refine wl_nil (blk_n (then_n (wp_seq (wp_region_lit ?_))))
       refine wv (.agg #[.int .u8 (IntKind.u8.wrap (IntKind.i64.wrap ((1:Int) + t414.1))), .int .u64 (0:Int), .int .u64 (0:Int), .int .u64 (0:Int), .int .u64 (0:Int), .int .i64 (0:Int), .int .u64 (0:Int), .int .u64 (0:Int), .int .u64 (0:Int), (.slice none 0 0), (.slice none 0 0), (.slice none 0 0), (.slice none 0 0), (.slice none 0 0), .int .i64 (0:Int), .int .u64 (0:Int), .int .u64 (0:Int), (.slice none 0 0), (.slice none 0 0), .int .u64 (0:Int), (.slice none 0 0), .int .u64 t712.1.ID, .int .i64 t712.1.From, .int .i64 t712.1.To, .float .f64 t712.1.Lo, .float .f64 t712.1.Hi, .int .u64 t712.1.Authority, .int .i64 t712.1.Quota, .bool (decide (t719.1 > (0:Int)))]) rfl rfl (x_loadN (cs := [.int .u8 (IntKind.u8.wrap (IntKind.i64.wrap ((1:Int) + t414.1))), .int .u64 (0:Int), .int .u64 (0:Int), .int .u64 (0:Int), .int .u64 (0:Int), .int .i64 (0:Int), .int .u64 (0:Int), .int .u64 (0:Int), .int .u64 (0:Int), (.slice none 0 0), (.slice none 0 0), (.slice none 0 0), (.slice none 0 0), (.slice none 0 0), .int .i64 (0:Int), .int .u64 (0:Int), .int .u64 (0:Int), (.slice none 0 0), (.slice none 0 0), .int .u64 (0:Int), (.slice none 0 0), .int .u64 t712.1.ID, .int .i64 t712.1.From, .int .i64 t712.1.To, .float .f64 t712.1.Lo, .float .f64 t712.1.Hi, .int .u64 t712.1.Authority, .int .i64 t712.1.Quota, .bool (decide (t719.1 > (0:Int)))]) rfl Try.isAgg45 Try.sizeOf45 (hst.bcs0 0 rfl)) ?_
       replace hst := hst.pull2
       obtain ⟨w726, hr727, hst⟩ := hst.boxStore (P := Try.prog) (t := 45) (cs' := [.int .u8 (IntKind.u8.wrap (IntKind.i64.wrap ((1:Int) + t414.1))), .int .u64 (0:Int), .int .u64 (0:Int), .int .u64 (0:Int), .int .u64 (0:Int), .int .i64 (0:Int), .int .u64 (0:Int), .int .u64 (0:Int), .int .u64 (0:Int), (.slice none 0 0), (.slice none 0 0), (.slice none 0 0), (.slice none 0 0), (.slice none 0 0), .int .i64 (0:Int), .int .u64 (0:Int), .int .u64 (0:Int), (.slice none 0 0), (.slice none 0 0), .int .u64 (0:Int), (.slice none 0 0), .int .u64 t712.1.ID, .int .i64 t712.1.From, .int .i64 t712.1.To, .float .f64 t712.1.Lo, .float .f64 t712.1.Hi, .int .u64 t712.1.Authority, .int .i64 t712.1.Quota, .bool (decide (t719.1 > (0:Int)))]) 0 (.agg #[.int .u8 (IntKind.u8.wrap (IntKind.i64.wrap ((1:Int) + t414.1))), .int .u64 (0:Int), .int .u64 (0:Int), .int .u64 (0:Int), .int .u64 (0:Int), .int .i64 (0:Int), .int .u64 (0:Int), .int .u64 (0:Int), .int .u64 (0:Int), (.slice none 0 0), (.slice none 0 0), (.slice none 0 0), (.slice none 0 0), (.slice none 0 0), .int .i64 (0:Int), .int .u64 (0:Int), .int .u64 (0:Int), (.slice none 0 0), (.slice none 0 0), .int .u64 (0:Int), (.slice none 0 0), .int .u64 t712.1.ID, .int .i64 t712.1.From, .int .i64 t712.1.To, .float .f64 t712.1.Lo, .float .f64 t712.1.Hi, .int .u64 t712.1.Authority, .int .i64 t712.1.Quota, .bool (decide (t719.1 > (0:Int)))]) Try.sizeOf45 (Nat.le_of_ble_eq_true rfl) (ones_cons rfl (ones_cons rfl (ones_cons rfl (ones_cons rfl (ones_cons rfl (ones_cons rfl (ones_cons rfl (ones_cons rfl (ones_cons rfl (ones_cons rfl (ones_cons rfl (ones_cons rfl (ones_cons rfl (ones_cons rfl (ones_cons rfl (ones_cons rfl (ones_cons rfl (ones_cons rfl (ones_cons rfl (ones_cons rfl (ones_cons rfl (ones_cons rfl (ones_cons rfl (ones_cons rfl (ones_cons rfl (ones_cons rfl (ones_cons rfl (ones_cons rfl (ones_cons rfl ones_nil))))))))))))))))))))))))))))) (by kernel_rfl)
       refine wl_unit rfl rfl (x_unit hr727) ?_
       refine wl_nil (then_n (wp_ret ?_))
       replace hst := hst.own_nil tyF64
       replace hst := hst.own_nil tyF2
       replace hst := hst.own_nil tyF64
       replace hst := hst.own_nil (tyInt .u8)
       replace hst := hst.own_nil ty_api_Write
       replace hst := hst.own_nil ty_api_Got
       replace hst := hst.own_nil (tySl ty_api_Pair)
       replace hst := hst.own_nil ty_api_Part
       obtain rfl := some_inj hm
       refine post_ret (vs := [.agg #[.int .u8 (IntKind.u8.wrap (IntKind.i64.wrap ((1:Int) + t414.1))), .int .u64 (0:Int), .int .u64 (0:Int), .int .u64 (0:Int), .int .u64 (0:Int), .int .i64 (0:Int), .int .u64 (0:Int), .int .u64 (0:Int), .int .u64 (0:Int), (.slice none 0 0), (.slice none 0 0), (.slice none 0 0), (.slice none 0 0), (.slice none 0 0), .int .i64 (0:Int), .int .u64 (0:Int), .int .u64 (0:Int), (.slice none 0 0), (.slice none 0 0), .int .u64 (0:Int), (.slice none 0 0), .int .u64 t712.1.ID, .int .i64 t712.1.From, .int .i64 t712.1.To, .float .f64 t712.1.Lo, .float .f64 t712.1.Hi, .int .u64 t712.1.Authority, .int .i64 t712.1.Quota, .bool (decide (t719.1 > (0:Int)))]]) Try.results9 (rvs_cons (rv_cell (cs := [.int .u8 (IntKind.u8.wrap (IntKind.i64.wrap ((1:Int) + t414.1))), .int .u64 (0:Int), .int .u64 (0:Int), .int .u64 (0:Int), .int .u64 (0:Int), .int .i64 (0:Int), .int .u64 (0:Int), .int .u64 (0:Int), .int .u64 (0:Int), (.slice none 0 0), (.slice none 0 0), (.slice none 0 0), (.slice none 0 0), (.slice none 0 0), .int .i64 (0:Int), .int .u64 (0:Int), .int .u64 (0:Int), (.slice none 0 0), (.slice none 0 0), .int .u64 (0:Int), (.slice none 0 0), .int .u64 t712.1.ID, .int .i64 t712.1.From, .int .i64 t712.1.To, .float .f64 t712.1.Lo, .float .f64 t712.1.Hi, .int .u64 t712.1.Authority, .int .i64 t712.1.Quota, .bool (decide (t719.1 > (0:Int)))]) rfl Try.isAgg45 Try.sizeOf45 (hst.bcs8 0 rfl)) rvs_nil) ?_
       replace hst := hst.pull10
       replace hst := hst.pull1
       replace hst := hst.pull2
       replace hst := hst.pull3
       replace hst := hst.pull4
       replace hst := hst.pull5
       replace hst := hst.pull6
       replace hst := hst.pull7
       replace hst := hst.pull8
       exact ⟨_, (.slice none 0 0), (.slice none 0 0), (.slice none 0 0), (.slice none 0 0), (.slice none 0 0), (.slice none 0 0), (.slice none 0 0), (.slice none 0 0), rfl, hI0, hst.keep9⟩
      ·skip
       replace hm := bif_f hc711 hm
       refine wp_iff (congrArg Value.bool hc711) ?_
       refine wp_seq (wp_region_lit ?_)
       refine wv (.bool ((IntKind.u8.wrap (IntKind.i64.wrap ((1:Int) + t414.1))) == (7:Int))) rfl rfl rfl ?_
       refine wv (.bool ((IntKind.u8.wrap (IntKind.i64.wrap ((1:Int) + t414.1))) == (7:Int))) rfl rfl rfl ?_
       refine wl_nil (then_n ?_)
       refine bsplit ((IntKind.u8.wrap (IntKind.i64.wrap ((1:Int) + t414.1))) == (7:Int)) (fun hc728 => ?_) (fun hc728 => ?_)
       ·skip
        replace hm := bif_t hc728 hm
        refine wp_ift (congrArg Value.bool hc728) ?_
        refine wp_seq (wp_region_lit ?_)
        refine wv (p0) rfl rfl rfl ?_
        replace hst := hst.pull1
        obtain ⟨t729, ht730, hm⟩ := bind_some hm
        refine wl_call rfl rfl (x_call Try.call24 rfl (vs := [p0]) rfl) ?_
        refine (ref12_Tape_Of_ref hst.to1 ht730).mono ?_
        rintro _ w731 ⟨rfl, hst⟩
        refine ⟨_, rfl, ?_⟩
        replace hst := hst.of1
        refine wv (.pointer (some ⟨b435, 1, none⟩)) rfl rfl (x_field rfl Try.underlying45 rfl Try.sizeOf29 rfl) ?_
        replace hst := hst.pull1
        obtain ⟨w734, hr735, hst⟩ := hst.boxStore (P := Try.prog) (t := 29) (cs' := [.int .u8 (IntKind.u8.wrap (IntKind.i64.wrap ((1:Int) + t414.1))), .int .u64 t729.1.Session, .int .u64 t729.1.Seq, .int .u64 (0:Int), .int .u64 (0:Int), .int .i64 (0:Int), .int .u64 (0:Int), .int .u64 (0:Int), .int .u64 (0:Int), (.slice none 0 0), (.slice none 0 0), (.slice none 0 0), (.slice none 0 0), (.slice none 0 0), .int .i64 (0:Int), .int .u64 (0:Int), .int .u64 (0:Int), (.slice none 0 0), (.slice none 0 0), .int .u64 (0:Int), (.slice none 0 0), .int .u64 (0:Int), .int .i64 (0:Int), .int .i64 (0:Int), .float .f64 (0:Nat), .float .f64 (0:Nat), .int .u64 (0:Int), .int .i64 (0:Int), .bool false]) 1 (.agg #[.int .u64 t729.1.Session, .int .u64 t729.1.Seq]) Try.sizeOf29 (Nat.le_of_ble_eq_true rfl) (ones_cons rfl (ones_cons rfl ones_nil)) (by kernel_rfl)
        refine wl_unit rfl rfl (x_unit hr735) ?_
        refine wl_nil (then_n (wp_seq (wp_region_lit ?_)))
        refine wv (p0) rfl rfl rfl ?_
        replace hst := hst.pull1
        obtain ⟨t736, ht737, hm⟩ := bind_some hm
        refine wl_call rfl rfl (x_call Try.call22 rfl (vs := [p0, .int .i64 (4:Int)]) rfl) ?_
        refine (ref12_Tape_Next_ref hst.to1 ht737).mono ?_
        rintro _ w738 ⟨rfl, hst⟩
        refine ⟨_, rfl, ?_⟩
        replace hst := hst.of1
        refine wv (.int .i64 (IntKind.i64.wrap ((1:Int) + t736.1))) rfl rfl rfl ?_
        refine wv (.int .u64 (IntKind.u64.wrap (IntKind.i64.wrap ((1:Int) + t736.1)))) rfl rfl (by kernel_rfl) ?_
        refine wv (.pointer (some ⟨b435, 3, none⟩)) rfl rfl (x_field rfl Try.underlying45 rfl Try.sizeOf27 rfl) ?_
        replace hst := hst.pull1
        obtain ⟨w741, hr742, hst⟩ := hst.boxStore (P := Try.prog) (t := 27) (cs' := [.int .u8 (IntKind.u8.wrap (IntKind.i64.wrap ((1:Int) + t414.1))), .int .u64 t729.1.Session, .int .u64 t729.1.Seq, .int .u64 (IntKind.u64.wrap (IntKind.i64.wrap ((1:Int) + t736.1))), .int .u64 (0:Int), .int .i64 (0:Int), .int .u64 (0:Int), .int .u64 (0:Int), .int .u64 (0:Int), (.slice none 0 0), (.slice none 0 0), (.slice none 0 0), (.slice none 0 0), (.slice none 0 0), .int .i64 (0:Int), .int .u64 (0:Int), .int .u64 (0:Int), (.slice none 0 0), (.slice none 0 0), .int .u64 (0:Int), (.slice none 0 0), .int .u64 (0:Int), .int .i64 (0:Int), .int .i64 (0:Int), .float .f64 (0:Nat), .float .f64 (0:Nat), .int .u64 (0:Int), .int .i64 (0:Int), .bool false]) 3 (.int .u64 (IntKind.u64.wrap (IntKind.i64.wrap ((1:Int) + t736.1)))) Try.sizeOf27 (Nat.le_of_ble_eq_true rfl) (ones_cons rfl ones_nil) (by kernel_rfl)
        refine wl_unit rfl rfl (x_unit hr742) ?_
        refine wl_nil (then_n (wp_seq (wp_region_lit ?_)))
        refine wv (p0) rfl rfl rfl ?_
        replace hst := hst.pull1
        obtain ⟨t743, ht744, hm⟩ := bind_some hm
        refine wl_call rfl rfl (x_call Try.call26 rfl (vs := [p0]) rfl) ?_
        refine (ref13_OfRule_ref hst.to1 ht744).mono ?_
        rintro _ w745 ⟨rfl, hst⟩
        refine ⟨_, rfl, ?_⟩
        replace hst := hst.of1
        refine wv (.pointer (some ⟨b435, 21, none⟩)) rfl rfl (x_field rfl Try.underlying45 rfl Try.sizeOf43 rfl) ?_
        replace hst := hst.pull1
        obtain ⟨w748, hr749, hst⟩ := hst.boxStore (P := Try.prog) (t := 43) (cs' := [.int .u8 (IntKind.u8.wrap (IntKind.i64.wrap ((1:Int) + t414.1))), .int .u64 t729.1.Session, .int .u64 t729.1.Seq, .int .u64 (IntKind.u64.wrap (IntKind.i64.wrap ((1:Int) + t736.1))), .int .u64 (0:Int), .int .i64 (0:Int), .int .u64 (0:Int), .int .u64 (0:Int), .int .u64 (0:Int), (.slice none 0 0), (.slice none 0 0), (.slice none 0 0), (.slice none 0 0), (.slice none 0 0), .int .i64 (0:Int), .int .u64 (0:Int), .int .u64 (0:Int), (.slice none 0 0), (.slice none 0 0), .int .u64 (0:Int), (.slice none 0 0), .int .u64 t743.1.ID, .int .i64 t743.1.From, .int .i64 t743.1.To, .float .f64 t743.1.Lo, .float .f64 t743.1.Hi, .int .u64 t743.1.Authority, .int .i64 t743.1.Quota, .bool false]) 21 (.agg #[.int .u64 t743.1.ID, .int .i64 t743.1.From, .int .i64 t743.1.To, .float .f64 t743.1.Lo, .float .f64 t743.1.Hi, .int .u64 t743.1.Authority, .int .i64 t743.1.Quota]) Try.sizeOf43 (Nat.le_of_ble_eq_true rfl) (ones_cons rfl (ones_cons rfl (ones_cons rfl (ones_cons rfl (ones_cons rfl (ones_cons rfl (ones_cons rfl ones_nil))))))) (by kernel_rfl)
        refine wl_unit rfl rfl (x_unit hr749) ?_
        refine wl_nil (then_n (wp_seq (wp_region_lit ?_)))
        refine wv (p0) rfl rfl rfl ?_
        replace hst := hst.pull1
        obtain ⟨t750, ht751, hm⟩ := bind_some hm
        refine wl_call rfl rfl (x_call Try.call25 rfl (vs := [p0]) rfl) ?_
        refine (ref13_OfWrites_ref hst.to1 ht751).mono ?_
        rintro _ w752 ⟨I753, v755, rfl, hI754, hst⟩
        refine ⟨_, rfl, ?_⟩
        replace hst := hst.of2
        replace hI0 := hI0.trans hI754
        refine wv (.pointer (some ⟨b435, 13, none⟩)) rfl rfl (x_field rfl Try.underlying45 rfl Try.sizeOf35 rfl) ?_
        replace hst := hst.pull2
        obtain ⟨w757, hr758, hst⟩ := hst.boxStore1 (P := Try.prog) (t := 35) (cs' := [.int .u8 (IntKind.u8.wrap (IntKind.i64.wrap ((1:Int) + t414.1))), .int .u64 t729.1.Session, .int .u64 t729.1.Seq, .int .u64 (IntKind.u64.wrap (IntKind.i64.wrap ((1:Int) + t736.1))), .int .u64 (0:Int), .int .i64 (0:Int), .int .u64 (0:Int), .int .u64 (0:Int), .int .u64 (0:Int), (.slice none 0 0), (.slice none 0 0), (.slice none 0 0), (.slice none 0 0), v755, .int .i64 (0:Int), .int .u64 (0:Int), .int .u64 (0:Int), (.slice none 0 0), (.slice none 0 0), .int .u64 (0:Int), (.slice none 0 0), .int .u64 t743.1.ID, .int .i64 t743.1.From, .int .i64 t743.1.To, .float .f64 t743.1.Lo, .float .f64 t743.1.Hi, .int .u64 t743.1.Authority, .int .i64 t743.1.Quota, .bool false]) 13 v755 (one_of_sliceV hst.sv1) Try.sizeOf35 rfl rfl
        refine wl_unit rfl rfl (x_unit hr758) ?_
        refine wl_nil (then_n (wp_region_lit ?_))
        refine wv (p0) rfl rfl rfl ?_
        replace hst := hst.pull2
        obtain ⟨t759, ht760, hm⟩ := bind_some hm
        refine wl_call rfl rfl (x_call Try.call12 rfl (vs := [p0]) rfl) ?_
        refine (ref13_OfReply_ref hst.to1 ht760).mono ?_
        rintro _ w761 ⟨I762, v764, v766, rfl, hI763, hst⟩
        refine ⟨_, rfl, ?_⟩
        replace hst := hst.of3
        replace hI0 := hI0.trans hI763
        refine wv (.pointer (some ⟨b435, 14, none⟩)) rfl rfl (x_field rfl Try.underlying45 rfl Try.sizeOf39 rfl) ?_
        replace hst := hst.pull3
        obtain ⟨w768, hr769, hst⟩ := hst.boxStore (P := Try.prog) (t := 39) (cs' := [.int .u8 (IntKind.u8.wrap (IntKind.i64.wrap ((1:Int) + t414.1))), .int .u64 t729.1.Session, .int .u64 t729.1.Seq, .int .u64 (IntKind.u64.wrap (IntKind.i64.wrap ((1:Int) + t736.1))), .int .u64 (0:Int), .int .i64 (0:Int), .int .u64 (0:Int), .int .u64 (0:Int), .int .u64 (0:Int), (.slice none 0 0), (.slice none 0 0), (.slice none 0 0), (.slice none 0 0), v755, .int .i64 t759.1.E, .int .u64 t759.1.Epoch, .int .u64 t759.1.Index, v764, v766, .int .u64 (0:Int), (.slice none 0 0), .int .u64 t743.1.ID, .int .i64 t743.1.From, .int .i64 t743.1.To, .float .f64 t743.1.Lo, .float .f64 t743.1.Hi, .int .u64 t743.1.Authority, .int .i64 t743.1.Quota, .bool false]) 14 (.agg #[.int .i64 t759.1.E, .int .u64 t759.1.Epoch, .int .u64 t759.1.Index, v764, v766]) Try.sizeOf39 (Nat.le_of_ble_eq_true rfl) (ones_cons rfl (ones_cons rfl (ones_cons rfl (ones_cons (one_of_sliceV hst.sv1) (ones_cons (one_of_sliceV hst.sv2) ones_nil))))) (by kernel_rfl)
        refine wl_unit rfl rfl (x_unit hr769) ?_
        refine wl_nil (blk_n (then_n (wp_seq (wp_region_lit ?_))))
        refine wv (.agg #[.int .u8 (IntKind.u8.wrap (IntKind.i64.wrap ((1:Int) + t414.1))), .int .u64 t729.1.Session, .int .u64 t729.1.Seq, .int .u64 (IntKind.u64.wrap (IntKind.i64.wrap ((1:Int) + t736.1))), .int .u64 (0:Int), .int .i64 (0:Int), .int .u64 (0:Int), .int .u64 (0:Int), .int .u64 (0:Int), (.slice none 0 0), (.slice none 0 0), (.slice none 0 0), (.slice none 0 0), v755, .int .i64 t759.1.E, .int .u64 t759.1.Epoch, .int .u64 t759.1.Index, v764, v766, .int .u64 (0:Int), (.slice none 0 0), .int .u64 t743.1.ID, .int .i64 t743.1.From, .int .i64 t743.1.To, .float .f64 t743.1.Lo, .float .f64 t743.1.Hi, .int .u64 t743.1.Authority, .int .i64 t743.1.Quota, .bool false]) rfl rfl (x_loadN (cs := [.int .u8 (IntKind.u8.wrap (IntKind.i64.wrap ((1:Int) + t414.1))), .int .u64 t729.1.Session, .int .u64 t729.1.Seq, .int .u64 (IntKind.u64.wrap (IntKind.i64.wrap ((1:Int) + t736.1))), .int .u64 (0:Int), .int .i64 (0:Int), .int .u64 (0:Int), .int .u64 (0:Int), .int .u64 (0:Int), (.slice none 0 0), (.slice none 0 0), (.slice none 0 0), (.slice none 0 0), v755, .int .i64 t759.1.E, .int .u64 t759.1.Epoch, .int .u64 t759.1.Index, v764, v766, .int .u64 (0:Int), (.slice none 0 0), .int .u64 t743.1.ID, .int .i64 t743.1.From, .int .i64 t743.1.To, .float .f64 t743.1.Lo, .float .f64 t743.1.Hi, .int .u64 t743.1.Authority, .int .i64 t743.1.Quota, .bool false]) rfl Try.isAgg45 Try.sizeOf45 (hst.bcs0 0 rfl)) ?_
        replace hst := hst.pull5
        obtain ⟨w770, hr771, hst⟩ := hst.boxStore (P := Try.prog) (t := 45) (cs' := [.int .u8 (IntKind.u8.wrap (IntKind.i64.wrap ((1:Int) + t414.1))), .int .u64 t729.1.Session, .int .u64 t729.1.Seq, .int .u64 (IntKind.u64.wrap (IntKind.i64.wrap ((1:Int) + t736.1))), .int .u64 (0:Int), .int .i64 (0:Int), .int .u64 (0:Int), .int .u64 (0:Int), .int .u64 (0:Int), (.slice none 0 0), (.slice none 0 0), (.slice none 0 0), (.slice none 0 0), v755, .int .i64 t759.1.E, .int .u64 t759.1.Epoch, .int .u64 t759.1.Index, v764, v766, .int .u64 (0:Int), (.slice none 0 0), .int .u64 t743.1.ID, .int .i64 t743.1.From, .int .i64 t743.1.To, .float .f64 t743.1.Lo, .float .f64 t743.1.Hi, .int .u64 t743.1.Authority, .int .i64 t743.1.Quota, .bool false]) 0 (.agg #[.int .u8 (IntKind.u8.wrap (IntKind.i64.wrap ((1:Int) + t414.1))), .int .u64 t729.1.Session, .int .u64 t729.1.Seq, .int .u64 (IntKind.u64.wrap (IntKind.i64.wrap ((1:Int) + t736.1))), .int .u64 (0:Int), .int .i64 (0:Int), .int .u64 (0:Int), .int .u64 (0:Int), .int .u64 (0:Int), (.slice none 0 0), (.slice none 0 0), (.slice none 0 0), (.slice none 0 0), v755, .int .i64 t759.1.E, .int .u64 t759.1.Epoch, .int .u64 t759.1.Index, v764, v766, .int .u64 (0:Int), (.slice none 0 0), .int .u64 t743.1.ID, .int .i64 t743.1.From, .int .i64 t743.1.To, .float .f64 t743.1.Lo, .float .f64 t743.1.Hi, .int .u64 t743.1.Authority, .int .i64 t743.1.Quota, .bool false]) Try.sizeOf45 (Nat.le_of_ble_eq_true rfl) (ones_cons rfl (ones_cons rfl (ones_cons rfl (ones_cons rfl (ones_cons rfl (ones_cons rfl (ones_cons rfl (ones_cons rfl (ones_cons rfl (ones_cons rfl (ones_cons rfl (ones_cons rfl (ones_cons rfl (ones_cons (one_of_sliceV hst.sv5) (ones_cons rfl (ones_cons rfl (ones_cons rfl (ones_cons (one_of_sliceV hst.sv2) (ones_cons (one_of_sliceV hst.sv3) (ones_cons rfl (ones_cons rfl (ones_cons rfl (ones_cons rfl (ones_cons rfl (ones_cons rfl (ones_cons rfl (ones_cons rfl (ones_cons rfl (ones_cons rfl ones_nil))))))))))))))))))))))))))))) (by kernel_rfl)
        refine wl_unit rfl rfl (x_unit hr771) ?_
        refine wl_nil (then_n (wp_ret ?_))
        replace hst := hst.own_nil tyF64
        replace hst := hst.own_nil tyF2
        replace hst := hst.own_nil tyF64
        replace hst := hst.own_nil (tyInt .u8)
        replace hst := hst.own_nil ty_api_Part
        obtain rfl := some_inj hm
        refine post_ret (vs := [.agg #[.int .u8 (IntKind.u8.wrap (IntKind.i64.wrap ((1:Int) + t414.1))), .int .u64 t729.1.Session, .int .u64 t729.1.Seq, .int .u64 (IntKind.u64.wrap (IntKind.i64.wrap ((1:Int) + t736.1))), .int .u64 (0:Int), .int .i64 (0:Int), .int .u64 (0:Int), .int .u64 (0:Int), .int .u64 (0:Int), (.slice none 0 0), (.slice none 0 0), (.slice none 0 0), (.slice none 0 0), v755, .int .i64 t759.1.E, .int .u64 t759.1.Epoch, .int .u64 t759.1.Index, v764, v766, .int .u64 (0:Int), (.slice none 0 0), .int .u64 t743.1.ID, .int .i64 t743.1.From, .int .i64 t743.1.To, .float .f64 t743.1.Lo, .float .f64 t743.1.Hi, .int .u64 t743.1.Authority, .int .i64 t743.1.Quota, .bool false]]) Try.results9 (rvs_cons (rv_cell (cs := [.int .u8 (IntKind.u8.wrap (IntKind.i64.wrap ((1:Int) + t414.1))), .int .u64 t729.1.Session, .int .u64 t729.1.Seq, .int .u64 (IntKind.u64.wrap (IntKind.i64.wrap ((1:Int) + t736.1))), .int .u64 (0:Int), .int .i64 (0:Int), .int .u64 (0:Int), .int .u64 (0:Int), .int .u64 (0:Int), (.slice none 0 0), (.slice none 0 0), (.slice none 0 0), (.slice none 0 0), v755, .int .i64 t759.1.E, .int .u64 t759.1.Epoch, .int .u64 t759.1.Index, v764, v766, .int .u64 (0:Int), (.slice none 0 0), .int .u64 t743.1.ID, .int .i64 t743.1.From, .int .i64 t743.1.To, .float .f64 t743.1.Lo, .float .f64 t743.1.Hi, .int .u64 t743.1.Authority, .int .i64 t743.1.Quota, .bool false]) rfl Try.isAgg45 Try.sizeOf45 (hst.bcs5 0 rfl)) rvs_nil) ?_
        replace hst := hst.pull9
        replace hst := hst.pull1
        replace hst := hst.pull9
        replace hst := hst.pull9
        replace hst := hst.pull10
        replace hst := hst.pull5
        replace hst := hst.pull6
        replace hst := hst.pull7
        replace hst := hst.pull8
        exact ⟨_, (.slice none 0 0), (.slice none 0 0), (.slice none 0 0), (.slice none 0 0), v755, v764, v766, (.slice none 0 0), rfl, hI0, hst.keep9⟩
       ·skip
        replace hm := bif_f hc728 hm
        refine wp_iff (congrArg Value.bool hc728) ?_
        refine wp_skip (blk_n (then_n (wp_seq (wp_region_lit ?_))))
        refine wv (.agg #[.int .u8 (IntKind.u8.wrap (IntKind.i64.wrap ((1:Int) + t414.1))), .int .u64 (0:Int), .int .u64 (0:Int), .int .u64 (0:Int), .int .u64 (0:Int), .int .i64 (0:Int), .int .u64 (0:Int), .int .u64 (0:Int), .int .u64 (0:Int), (.slice none 0 0), (.slice none 0 0), (.slice none 0 0), (.slice none 0 0), (.slice none 0 0), .int .i64 (0:Int), .int .u64 (0:Int), .int .u64 (0:Int), (.slice none 0 0), (.slice none 0 0), .int .u64 (0:Int), (.slice none 0 0), .int .u64 (0:Int), .int .i64 (0:Int), .int .i64 (0:Int), .float .f64 (0:Nat), .float .f64 (0:Nat), .int .u64 (0:Int), .int .i64 (0:Int), .bool false]) rfl rfl (x_loadN (cs := [.int .u8 (IntKind.u8.wrap (IntKind.i64.wrap ((1:Int) + t414.1))), .int .u64 (0:Int), .int .u64 (0:Int), .int .u64 (0:Int), .int .u64 (0:Int), .int .i64 (0:Int), .int .u64 (0:Int), .int .u64 (0:Int), .int .u64 (0:Int), (.slice none 0 0), (.slice none 0 0), (.slice none 0 0), (.slice none 0 0), (.slice none 0 0), .int .i64 (0:Int), .int .u64 (0:Int), .int .u64 (0:Int), (.slice none 0 0), (.slice none 0 0), .int .u64 (0:Int), (.slice none 0 0), .int .u64 (0:Int), .int .i64 (0:Int), .int .i64 (0:Int), .float .f64 (0:Nat), .float .f64 (0:Nat), .int .u64 (0:Int), .int .i64 (0:Int), .bool false]) rfl Try.isAgg45 Try.sizeOf45 (hst.bcs0 0 rfl)) ?_
        replace hst := hst.pull2
        obtain ⟨w772, hr773, hst⟩ := hst.boxStore (P := Try.prog) (t := 45) (cs' := [.int .u8 (IntKind.u8.wrap (IntKind.i64.wrap ((1:Int) + t414.1))), .int .u64 (0:Int), .int .u64 (0:Int), .int .u64 (0:Int), .int .u64 (0:Int), .int .i64 (0:Int), .int .u64 (0:Int), .int .u64 (0:Int), .int .u64 (0:Int), (.slice none 0 0), (.slice none 0 0), (.slice none 0 0), (.slice none 0 0), (.slice none 0 0), .int .i64 (0:Int), .int .u64 (0:Int), .int .u64 (0:Int), (.slice none 0 0), (.slice none 0 0), .int .u64 (0:Int), (.slice none 0 0), .int .u64 (0:Int), .int .i64 (0:Int), .int .i64 (0:Int), .float .f64 (0:Nat), .float .f64 (0:Nat), .int .u64 (0:Int), .int .i64 (0:Int), .bool false]) 0 (.agg #[.int .u8 (IntKind.u8.wrap (IntKind.i64.wrap ((1:Int) + t414.1))), .int .u64 (0:Int), .int .u64 (0:Int), .int .u64 (0:Int), .int .u64 (0:Int), .int .i64 (0:Int), .int .u64 (0:Int), .int .u64 (0:Int), .int .u64 (0:Int), (.slice none 0 0), (.slice none 0 0), (.slice none 0 0), (.slice none 0 0), (.slice none 0 0), .int .i64 (0:Int), .int .u64 (0:Int), .int .u64 (0:Int), (.slice none 0 0), (.slice none 0 0), .int .u64 (0:Int), (.slice none 0 0), .int .u64 (0:Int), .int .i64 (0:Int), .int .i64 (0:Int), .float .f64 (0:Nat), .float .f64 (0:Nat), .int .u64 (0:Int), .int .i64 (0:Int), .bool false]) Try.sizeOf45 (Nat.le_of_ble_eq_true rfl) (ones_cons rfl (ones_cons rfl (ones_cons rfl (ones_cons rfl (ones_cons rfl (ones_cons rfl (ones_cons rfl (ones_cons rfl (ones_cons rfl (ones_cons rfl (ones_cons rfl (ones_cons rfl (ones_cons rfl (ones_cons rfl (ones_cons rfl (ones_cons rfl (ones_cons rfl (ones_cons rfl (ones_cons rfl (ones_cons rfl (ones_cons rfl (ones_cons rfl (ones_cons rfl (ones_cons rfl (ones_cons rfl (ones_cons rfl (ones_cons rfl (ones_cons rfl (ones_cons rfl ones_nil))))))))))))))))))))))))))))) (by kernel_rfl)
        refine wl_unit rfl rfl (x_unit hr773) ?_
        refine wl_nil (then_n (wp_ret ?_))
        replace hst := hst.own_nil tyF64
        replace hst := hst.own_nil tyF2
        replace hst := hst.own_nil tyF64
        replace hst := hst.own_nil (tyInt .u8)
        replace hst := hst.own_nil ty_api_Write
        replace hst := hst.own_nil ty_api_Got
        replace hst := hst.own_nil (tySl ty_api_Pair)
        replace hst := hst.own_nil ty_api_Part
        obtain rfl := some_inj hm
        refine post_ret (vs := [.agg #[.int .u8 (IntKind.u8.wrap (IntKind.i64.wrap ((1:Int) + t414.1))), .int .u64 (0:Int), .int .u64 (0:Int), .int .u64 (0:Int), .int .u64 (0:Int), .int .i64 (0:Int), .int .u64 (0:Int), .int .u64 (0:Int), .int .u64 (0:Int), (.slice none 0 0), (.slice none 0 0), (.slice none 0 0), (.slice none 0 0), (.slice none 0 0), .int .i64 (0:Int), .int .u64 (0:Int), .int .u64 (0:Int), (.slice none 0 0), (.slice none 0 0), .int .u64 (0:Int), (.slice none 0 0), .int .u64 (0:Int), .int .i64 (0:Int), .int .i64 (0:Int), .float .f64 (0:Nat), .float .f64 (0:Nat), .int .u64 (0:Int), .int .i64 (0:Int), .bool false]]) Try.results9 (rvs_cons (rv_cell (cs := [.int .u8 (IntKind.u8.wrap (IntKind.i64.wrap ((1:Int) + t414.1))), .int .u64 (0:Int), .int .u64 (0:Int), .int .u64 (0:Int), .int .u64 (0:Int), .int .i64 (0:Int), .int .u64 (0:Int), .int .u64 (0:Int), .int .u64 (0:Int), (.slice none 0 0), (.slice none 0 0), (.slice none 0 0), (.slice none 0 0), (.slice none 0 0), .int .i64 (0:Int), .int .u64 (0:Int), .int .u64 (0:Int), (.slice none 0 0), (.slice none 0 0), .int .u64 (0:Int), (.slice none 0 0), .int .u64 (0:Int), .int .i64 (0:Int), .int .i64 (0:Int), .float .f64 (0:Nat), .float .f64 (0:Nat), .int .u64 (0:Int), .int .i64 (0:Int), .bool false]) rfl Try.isAgg45 Try.sizeOf45 (hst.bcs8 0 rfl)) rvs_nil) ?_
        replace hst := hst.pull10
        replace hst := hst.pull1
        replace hst := hst.pull2
        replace hst := hst.pull3
        replace hst := hst.pull4
        replace hst := hst.pull5
        replace hst := hst.pull6
        replace hst := hst.pull7
        replace hst := hst.pull8
        exact ⟨_, (.slice none 0 0), (.slice none 0 0), (.slice none 0 0), (.slice none 0 0), (.slice none 0 0), (.slice none 0 0), (.slice none 0 0), (.slice none 0 0), rfl, hI0, hst.keep9⟩

theorem octet_Read_ref {w0 w : World} {I : HL} {R : SP} {a0 : (List Int)} {r0_0 : Value} (f0_0 : Ro (tyInt .u8) I r0_0 a0) (hst : St w0 w I [] R) {r : (octet_Reader)} (hm : octet_Read a0 = some r) :
  Calls Try.prog 15 #[r0_0] w fun e w' => ∃ (q0 : Value), e = .returned (q0) ∧ St w0 w' I [at_octet_Reader q0 r] R := by
 unfold octet_Read at hm
 refine calls_start (args := [r0_0]) Try.func15 rfl Try.ntmps15 (Nat.le_of_ble_eq_true rfl) ?_
 refine wp_seq (wp_region_lit ?_)
 refine wv (.pointer none) rfl rfl rfl ?_
 refine wl_nil (then_n (wp_seq (wp_region_lit ?_)))
 refine wv (r0_0) rfl rfl rfl ?_
 refine wv (.agg #[r0_0, .bool false]) rfl rfl (by obtain ⟨_, _, hv_, _⟩ := (ro_sliceV f0_0); rw [hv_]; kernel_rfl) ?_
 obtain ⟨b108, w109, ew110, eb111, hst⟩ := hst.box [r0_0, .bool false] 95
 refine wl_run (v := .pointer (some ⟨b108, 0, none⟩)) (w' := w109) rfl rfl (x_al (by kernel_rfl) ew110 eb111) ?_
 refine wv (.pointer (some ⟨b108, 0, none⟩)) rfl rfl rfl ?_
 refine wl_nil (then_n (wp_ret ?_))
 replace hst := at_octet_Reader_close (pv := .pointer (some ⟨b108, 0, none⟩)) (x := ({ p := a0, bad := false } : octet_Reader)) hst ⟨rfl, f0_0⟩
 obtain rfl := some_inj hm
 refine post_ret (vs := [.pointer (some ⟨b108, 0, none⟩)]) Try.results15 (rvs_cons (rv_tmp rfl) rvs_nil) ?_
 exact ⟨.pointer (some ⟨b108, 0, none⟩), rfl, hst.keep1⟩

theorem octet_Reader_spoil_ref {w0 w : World} {I : HL} {R : SP} {a0 : octet_Reader} {p0 : Value}  (hst : St w0 w I [at_octet_Reader p0 a0] R) {r : (octet_Reader)} (hm : octet_Reader_spoil a0 = some r) :
  Calls Try.prog 66 #[p0] w fun e w' => e = .returned (.tuple #[]) ∧ St w0 w' I [at_octet_Reader p0 r] R := by
 unfold octet_Reader_spoil at hm
 refine calls_start (args := [p0]) Try.func66 rfl Try.ntmps66 (Nat.le_of_ble_eq_true rfl) ?_
 refine wp_seq (wp_region_lit ?_)
 refine wv (p0) rfl rfl rfl ?_
 obtain ⟨b131, v132, ⟨rfl, f134⟩, hst'⟩ := at_octet_Reader_open hst
 clear hst
 have hst := hst'
 clear hst'
 refine wv (.bool true) rfl rfl (by kernel_rfl) ?_
 refine wl_nil (then_n ?_)
 refine wp_ift rfl ?_
 refine wp_region_lit ?_
 refine wv (.pointer (some ⟨b131, 0, none⟩)) rfl rfl rfl ?_
 refine wv (.pointer (some ⟨b131, 0, none⟩)) rfl rfl rfl ?_
 refine wv (.pointer (some ⟨b131, 1, none⟩)) rfl rfl (x_field rfl Try.underlying95 rfl Try.sizeOf4 rfl) ?_
 obtain ⟨w135, hr136, hst⟩ := hst.boxStore (P := Try.prog) (t := 4) (cs' := [v132, .bool true]) 1 (.bool true) Try.sizeOf4 (Nat.le_of_ble_eq_true rfl) (ones_cons rfl ones_nil) (by kernel_rfl)
 refine wl_unit rfl rfl (x_unit hr136) ?_
 refine wl_nil ?_
 replace hst := at_octet_Reader_close (pv := .pointer (some ⟨b131, 0, none⟩)) (x := ({ p := a0.p, bad := true } : octet_Reader)) hst ⟨rfl, f134⟩
 obtain rfl := some_inj hm
 refine post_end (vs := []) Try.results66 rvs_nil ?_
 exact ⟨rfl, hst.keep1⟩

theorem octet_Reader_Num_ref {w0 w : World} {I : HL} {R : SP} {a0 : octet_Reader} {p0 : Value} {a1 : Int}  (hst : St w0 w I [at_octet_Reader p0 a0] R) {r : (Int × octet_Reader)} (hm : octet_Reader_Num a0 a1 = some r) :
  Calls Try.prog 40 #[p0, .int .i64 a1] w fun e w' => e = .returned (.int .u64 r.1) ∧ St w0 w' I [at_octet_Reader p0 r.2] R := by
 unfold octet_Reader_Num at hm
 refine calls_start (args := [p0, .int .i64 a1]) Try.func40 rfl Try.ntmps40 (Nat.le_of_ble_eq_true rfl) ?_
 refine wp_seq (wp_region_lit ?_)
 refine wv (.int .u64 (0:Int)) rfl rfl rfl ?_
 refine wl_nil (then_n (wp_seq (wp_seq (wp_region_lit ?_))))
 refine wv (p0) rfl rfl rfl ?_
 obtain ⟨b208, v209, ⟨rfl, f211⟩, hst'⟩ := at_octet_Reader_open hst
 clear hst
 have hst := hst'
 clear hst'
 refine wv (.bool false) rfl rfl (by kernel_rfl) ?_
 refine wv (.bool false) rfl rfl rfl ?_
 refine wv (.pointer (some ⟨b208, 0, none⟩)) ((wanted_eq rfl rfl rfl rfl).trans rfl) rfl rfl ?_
 refine wv (.pointer (some ⟨b208, 0, none⟩)) ((wanted_eq rfl rfl rfl rfl).trans rfl) rfl rfl ?_
 refine wv (.pointer (some ⟨b208, 1, none⟩)) ((wanted_eq rfl rfl rfl rfl).trans rfl) rfl (x_field rfl Try.underlying95 rfl Try.sizeOf4 rfl) ?_
 refine wv (.bool a0.bad) ((wanted_eq rfl rfl rfl rfl).trans rfl) rfl (x_load rfl Try.isAgg4 (hst.bc0 rfl)) ?_
 refine wv (.bool a0.bad) rfl rfl (x_pick_f rfl rfl rfl) ?_
 refine wv (.bool a0.bad) rfl rfl rfl ?_
 refine bsplit a0.bad (fun hc212 => ?_) (fun hc212 => ?_)
 ·skip
  replace hm := bif_t hc212 hm
  refine wo hc212 rfl rfl rfl rfl rfl rfl ?_
  refine wo hc212 rfl rfl rfl rfl rfl rfl ?_
  refine wv (.bool true) rfl rfl (x_pick_t hc212 rfl rfl) ?_
  refine wv (.bool true) rfl rfl rfl ?_
  refine wl_off ((wanted_eq rfl rfl rfl rfl).trans rfl) rfl ?_
  refine wl_off ((wanted_eq rfl rfl rfl rfl).trans rfl) rfl ?_
  refine wl_off ((wanted_eq rfl rfl rfl rfl).trans rfl) rfl ?_
  refine wl_off ((wanted_eq rfl rfl rfl rfl).trans rfl) rfl ?_
  refine wl_off ((wanted_eq rfl rfl rfl rfl).trans rfl) rfl ?_
  refine wl_off ((wanted_eq rfl rfl rfl rfl).trans rfl) rfl ?_
  refine wl_off ((wanted_eq rfl rfl rfl rfl).trans rfl) rfl ?_
  refine wv (.bool true) rfl rfl (x_pick_t rfl rfl rfl) ?_
  refine wl_nil (then_n ?_)
  refine wp_ift rfl ?_
  refine wp_seq (wp_region_lit ?_)
  refine wv (.pointer (some ⟨b208, 0, none⟩)) rfl rfl rfl ?_
  replace hst := at_octet_Reader_close (pv := .pointer (some ⟨b208, 0, none⟩)) (x := a0) hst ⟨rfl, f211⟩
  obtain ⟨t213, ht214, hm⟩ := bind_some hm
  refine wl_call rfl rfl (x_call Try.call66 rfl (vs := [.pointer (some ⟨b208, 0, none⟩)]) rfl) ?_
  refine (octet_Reader_spoil_ref hst.to1 ht214).mono ?_
  rintro _ w215 ⟨rfl, hst⟩
  refine ⟨_, rfl, ?_⟩
  replace hst := hst.of1
  refine wl_nil (then_n (wp_seq (wp_region_lit ?_)))
  refine wv (.int .u64 (0:Int)) rfl rfl rfl ?_
  refine wl_nil (then_n (wp_ret (then_r ?_)))
  obtain rfl := some_inj hm
  refine post_ret (vs := [.int .u64 (0:Int)]) Try.results40 (rvs_cons (rv_tmp rfl) rvs_nil) ?_
  exact ⟨rfl, hst.keep1⟩
 ·skip
  replace hm := bif_f hc212 hm
  refine wv (.int .i64 a1) ((wanted_eq rfl rfl rfl (congrArg Value.bool hc212)).trans rfl) rfl rfl ?_
  refine wv (.bool (decide (a1 < (0:Int)))) ((wanted_eq rfl rfl rfl (congrArg Value.bool hc212)).trans rfl) rfl rfl ?_
  refine wv (.bool (decide (a1 < (0:Int)))) rfl rfl (x_pick_f hc212 rfl rfl) ?_
  refine wv (.bool (decide (a1 < (0:Int)))) rfl rfl rfl ?_
  refine bsplit (decide (a1 < (0:Int))) (fun hc218 => ?_) (fun hc218 => ?_)
  ·skip
   replace hm := bif_t hc218 hm
   refine wo hc218 rfl rfl rfl rfl rfl rfl ?_
   refine wo hc218 rfl rfl rfl rfl rfl rfl ?_
   refine wo hc218 rfl rfl rfl rfl rfl rfl ?_
   refine wo hc218 rfl rfl rfl rfl rfl rfl ?_
   refine wo hc218 rfl rfl rfl rfl rfl rfl ?_
   refine wo hc218 rfl rfl rfl rfl rfl rfl ?_
   refine wo hc218 rfl rfl rfl rfl rfl rfl ?_
   refine wv (.bool true) rfl rfl (x_pick_t hc218 rfl rfl) ?_
   refine wl_nil (then_n ?_)
   refine wp_ift rfl ?_
   refine wp_seq (wp_region_lit ?_)
   refine wv (.pointer (some ⟨b208, 0, none⟩)) rfl rfl rfl ?_
   replace hst := at_octet_Reader_close (pv := .pointer (some ⟨b208, 0, none⟩)) (x := a0) hst ⟨rfl, f211⟩
   obtain ⟨t219, ht220, hm⟩ := bind_some hm
   refine wl_call rfl rfl (x_call Try.call66 rfl (vs := [.pointer (some ⟨b208, 0, none⟩)]) rfl) ?_
   refine (octet_Reader_spoil_ref hst.to1 ht220).mono ?_
   rintro _ w221 ⟨rfl, hst⟩
   refine ⟨_, rfl, ?_⟩
   replace hst := hst.of1
   refine wl_nil (then_n (wp_seq (wp_region_lit ?_)))
   refine wv (.int .u64 (0:Int)) rfl rfl rfl ?_
   refine wl_nil (then_n (wp_ret (then_r ?_)))
   obtain rfl := some_inj hm
   refine post_ret (vs := [.int .u64 (0:Int)]) Try.results40 (rvs_cons (rv_tmp rfl) rvs_nil) ?_
   exact ⟨rfl, hst.keep1⟩
  ·skip
   replace hm := bif_f hc218 hm
   refine wv (.pointer (some ⟨b208, 0, none⟩)) ((wanted_eq rfl rfl rfl (congrArg Value.bool hc218)).trans rfl) rfl rfl ?_
   refine wv (.pointer (some ⟨b208, 0, none⟩)) ((wanted_eq rfl rfl rfl (congrArg Value.bool hc218)).trans rfl) rfl rfl ?_
   refine wv (.pointer (some ⟨b208, 0, none⟩)) ((wanted_eq rfl rfl rfl (congrArg Value.bool hc218)).trans rfl) rfl (x_field rfl Try.underlying95 rfl Try.sizeOf22 rfl) ?_
   refine wv (v209) ((wanted_eq rfl rfl rfl (congrArg Value.bool hc218)).trans rfl) rfl (x_load rfl Try.isAgg22 (hst.bc0 rfl)) ?_
   refine wv (.int .i64 ((a0.p).length : Int)) ((wanted_eq rfl rfl rfl (congrArg Value.bool hc218)).trans rfl) rfl (x_len rfl Try.underlying22 (ro_sliceV f211)) ?_
   refine wv (.int .i64 a1) ((wanted_eq rfl rfl rfl (congrArg Value.bool hc218)).trans rfl) rfl rfl ?_
   refine wv (.bool (decide (((a0.p).length : Int) < a1))) ((wanted_eq rfl rfl rfl (congrArg Value.bool hc218)).trans rfl) rfl rfl ?_
   refine wv (.bool (decide (((a0.p).length : Int) < a1))) rfl rfl (x_pick_f hc218 rfl rfl) ?_
   refine wl_nil (then_n ?_)
   refine bsplit (decide (((a0.p).length : Int) < a1)) (fun hc224 => ?_) (fun hc224 => ?_)
   ·skip
    replace hm := bif_t hc224 hm
    refine wp_ift (congrArg Value.bool hc224) ?_
    refine wp_seq (wp_region_lit ?_)
    refine wv (.pointer (some ⟨b208, 0, none⟩)) rfl rfl rfl ?_
    replace hst := at_octet_Reader_close (pv := .pointer (some ⟨b208, 0, none⟩)) (x := a0) hst ⟨rfl, f211⟩
    obtain ⟨t225, ht226, hm⟩ := bind_some hm
    refine wl_call rfl rfl (x_call Try.call66 rfl (vs := [.pointer (some ⟨b208, 0, none⟩)]) rfl) ?_
    refine (octet_Reader_spoil_ref hst.to1 ht226).mono ?_
    rintro _ w227 ⟨rfl, hst⟩
    refine ⟨_, rfl, ?_⟩
    replace hst := hst.of1
    refine wl_nil (then_n (wp_seq (wp_region_lit ?_)))
    refine wv (.int .u64 (0:Int)) rfl rfl rfl ?_
    refine wl_nil (then_n (wp_ret (then_r ?_)))
    obtain rfl := some_inj hm
    refine post_ret (vs := [.int .u64 (0:Int)]) Try.results40 (rvs_cons (rv_tmp rfl) rvs_nil) ?_
    exact ⟨rfl, hst.keep1⟩
   ·skip
    replace hm := bif_f hc224 hm
    refine wp_iff (congrArg Value.bool hc224) ?_
    refine wp_skip (then_n (wp_seq (wp_region_lit ?_)))
    refine wv (.int .u64 (0:Int)) rfl rfl rfl ?_
    refine wl_nil (then_n ?_)
    obtain ⟨y281, hm, hx282⟩ := bind_some hm
    refine wp_cut (fun a w => ∃ (z278 : Int) (σ279 : Nat → Value), (octet_Reader_Num_j0 a0 a1) z278 = some r ∧ a = Fr 59 (upd (upd (upd σ279 0 (.pointer (some ⟨b208, 0, none⟩))) 1 (.int .i64 a1)) 5 (.int .u64 z278)) ∧ St w0 w I [at_octet_Reader (.pointer (some ⟨b208, 0, none⟩)) a0] R) ?_ ?_
    ·skip
     refine wp_seq (wp_region_lit ?_)
     refine wv (.int .i64 a1) rfl rfl rfl ?_
     refine wv (.int .i64 (if (8:Int) < a1 then (8:Int) else a1)) rfl rfl (by kernel_rfl) ?_
     refine wv (.int .i64 (0:Int)) rfl rfl rfl ?_
     refine wl_nil (then_n (wp_block ?_))
     replace hst := at_octet_Reader_close (pv := .pointer (some ⟨b208, 0, none⟩)) (x := a0) hst ⟨rfl, f211⟩
     obtain ⟨n259, hm⟩ := loopO_some hm
     refine wp_loop_n (fun n a w => ∃ (z256 : Int) (z257 : Int) (σ258 : Nat → Value), loopN (octet_Reader_Num_l1 a1 a0) n (z256, z257) = some y281 ∧ a = Fr 59 (upd (upd (upd (upd (upd σ258 0 (.pointer (some ⟨b208, 0, none⟩))) 1 (.int .i64 a1)) 5 (.int .u64 z257)) 31 (.int .i64 (if (8:Int) < a1 then (8:Int) else a1))) 32 (.int .i64 z256)) ∧ St w0 w I [at_octet_Reader (.pointer (some ⟨b208, 0, none⟩)) a0] R) n259 ⟨(0:Int), (0:Int), _, hm, ((fr_upd (t := 0) (v := .pointer (some ⟨b208, 0, none⟩)) rfl).trans ((fr_upd (t := 1) (v := .int .i64 a1) rfl).trans ((fr_upd (t := 5) (v := .int .u64 (0:Int)) rfl).trans ((fr_upd (t := 31) (v := .int .i64 (if (8:Int) < a1 then (8:Int) else a1)) rfl).trans ((fr_upd (t := 32) (v := .int .i64 (0:Int)) rfl).trans rfl))))), hst⟩ ?_
     rintro n265 _ w260 ⟨z256, z257, σ258, hm, rfl, hst⟩
     obtain ⟨n262, y263, rfl, hm, hx264⟩ := loopN_some hm
     dsimp only [octet_Reader_Num_l1] at hm
     refine wp_seq (wp_region_lit ?_)
     refine wv (.bool (decide (z256 < (if (8:Int) < a1 then (8:Int) else a1)))) rfl rfl rfl ?_
     refine wl_nil (then_n (wp_seq ?_))
     refine bsplit (decide (z256 < (if (8:Int) < a1 then (8:Int) else a1))) (fun hc266 => ?_) (fun hc266 => ?_)
     ·skip
      replace hm := bif_t hc266 hm
      refine wp_ift (congrArg Value.bool hc266) ?_
      refine wp_skip (then_n (wp_seq (wp_block (wp_seq (wp_region_lit ?_)))))
      refine wv (.int .i64 z256) rfl rfl rfl ?_
      refine wv (.int .i64 z256) rfl rfl rfl ?_
      refine wl_nil (then_n (wp_region_lit ?_))
      refine wv (.int .u64 z257) rfl rfl rfl ?_
      refine wv (.pointer (some ⟨b208, 0, none⟩)) rfl rfl rfl ?_
      obtain ⟨b267, v268, ⟨e271, f270⟩, hst'⟩ := at_octet_Reader_open hst
      clear hst
      have e271 := ptr_inj e271
      subst e271
      have hst := hst'
      clear hst'
      refine wv (.pointer (some ⟨b208, 0, none⟩)) rfl rfl rfl ?_
      refine wv (.pointer (some ⟨b208, 0, none⟩)) rfl rfl (x_field rfl Try.underlying95 rfl Try.sizeOf22 rfl) ?_
      refine wv (v268) rfl rfl (x_load rfl Try.isAgg22 (hst.bc0 rfl)) ?_
      refine wv (.int .i64 z256) rfl rfl rfl ?_
      obtain ⟨x272, hx273, hm⟩ := bind_some hm
      obtain ⟨h274, h275, hi276⟩ := geto_some hx273
      refine wv (.pointer (some (eAddr v268 (z256.toNat * 1 + 0)))) rfl rfl (x_index rfl rfl Try.underlying22 Try.sizeOf5 (ro_sliceV f270) h274 h275) ?_
      refine wv (.int .u8 x272) rfl rfl (x_load rfl Try.isAgg5 (ro_load f270 hst hi276 (by rintro _ rfl; rfl))) ?_
      refine wv (.int .u64 (IntKind.u64.wrap x272)) rfl rfl (by kernel_rfl) ?_
      refine wv (.int .i64 z256) rfl rfl rfl ?_
      refine wv (.int .i64 (IntKind.i64.wrap ((8:Int) * z256))) rfl rfl rfl ?_
      obtain ⟨hg277, hm⟩ := gd_some hm
      refine wv (.int .u64 (iShl .u64 (IntKind.u64.wrap x272) (IntKind.i64.wrap ((8:Int) * z256)))) rfl rfl (x_shl (of_decide_eq_true hg277) rfl rfl) ?_
      refine wv (.int .u64 (bOr .u64 z257 (iShl .u64 (IntKind.u64.wrap x272) (IntKind.i64.wrap ((8:Int) * z256))))) rfl rfl rfl ?_
      refine wv (.int .u64 (bOr .u64 z257 (iShl .u64 (IntKind.u64.wrap x272) (IntKind.i64.wrap ((8:Int) * z256))))) rfl rfl rfl ?_
      refine wl_nil (blk_n (then_n (wp_region_lit ?_)))
      refine wv (.int .i64 (IntKind.i64.wrap (z256 + (1:Int)))) rfl rfl rfl ?_
      refine wv (.int .i64 (IntKind.i64.wrap (z256 + (1:Int)))) rfl rfl rfl ?_
      refine wl_nil (then_n ?_)
      replace hst := at_octet_Reader_close (pv := .pointer (some ⟨b208, 0, none⟩)) (x := a0) hst ⟨rfl, f270⟩
      replace hst := hst.keep1
      obtain rfl := some_inj hm
      exact ⟨_, Nat.lt_succ_self _, (IntKind.i64.wrap (z256 + (1:Int))), (bOr .u64 z257 (iShl .u64 (IntKind.u64.wrap x272) (IntKind.i64.wrap ((8:Int) * z256)))), _, hx264, ((fr_upd (t := 0) (v := .pointer (some ⟨b208, 0, none⟩)) rfl).trans ((fr_upd (t := 1) (v := .int .i64 a1) rfl).trans ((fr_upd (t := 5) (v := .int .u64 (bOr .u64 z257 (iShl .u64 (IntKind.u64.wrap x272) (IntKind.i64.wrap ((8:Int) * z256))))) rfl).trans ((fr_upd (t := 31) (v := .int .i64 (if (8:Int) < a1 then (8:Int) else a1)) rfl).trans ((fr_upd (t := 32) (v := .int .i64 (IntKind.i64.wrap (z256 + (1:Int)))) rfl).trans rfl))))), hst⟩
     ·skip
      replace hm := bif_f hc266 hm
      refine wp_iff (congrArg Value.bool hc266) ?_
      refine wp_exit (then_x (then_x ?_))
      replace hm := inr_up hm hx264
      refine blk_x (then_n ?_)
      replace hst := hst.keep1
      obtain rfl := some_inj hm
      exact ⟨z257, _, hx282, ((fr_upd (t := 0) (v := .pointer (some ⟨b208, 0, none⟩)) rfl).trans ((fr_upd (t := 1) (v := .int .i64 a1) rfl).trans ((fr_upd (t := 5) (v := .int .u64 z257) rfl).trans rfl))), hst⟩
    ·skip
     clear hst
     rintro _ w283 ⟨z278, σ279, hm, rfl, hst⟩
     dsimp only [octet_Reader_Num_j0] at hm
     refine wp_seq (wp_region_lit ?_)
     refine wv (.pointer (some ⟨b208, 0, none⟩)) rfl rfl rfl ?_
     refine wv (.pointer (some ⟨b208, 0, none⟩)) rfl rfl rfl ?_
     obtain ⟨b284, v285, ⟨e288, f287⟩, hst'⟩ := at_octet_Reader_open hst
     clear hst
     have e288 := ptr_inj e288
     subst e288
     have hst := hst'
     clear hst'
     refine wv (.pointer (some ⟨b208, 0, none⟩)) rfl rfl rfl ?_
     refine wv (.pointer (some ⟨b208, 0, none⟩)) rfl rfl (x_field rfl Try.underlying95 rfl Try.sizeOf22 rfl) ?_
     refine wv (v285) rfl rfl (x_load rfl Try.isAgg22 (hst.bc0 rfl)) ?_
     refine wv (.int .i64 a1) rfl rfl rfl ?_
     obtain ⟨hg289, hm⟩ := gd_some hm
     obtain ⟨h290, h291, h292⟩ := fits_of hg289
     have f294 : Ro (tyInt .u8) I (slcV 1 v285 a1.toNat (((a0.p).length : Nat) : Int).toNat) (subs a0.p a1 (((a0.p).length : Nat) : Int)) := Ro.part f287 h291 h292 h290
     refine wv ((slcV 1 v285 a1.toNat (((a0.p).length : Nat) : Int).toNat)) rfl rfl (x_slice Try.underlying22 Try.sizeOf5 rfl (ro_sliceV f287) h290 h291 h292 .i64 .i64 (.inl rfl) (.inr ⟨rfl, rfl⟩)) ?_
     refine wv (.pointer (some ⟨b208, 0, none⟩)) rfl rfl rfl ?_
     refine wv (.pointer (some ⟨b208, 0, none⟩)) rfl rfl (x_field rfl Try.underlying95 rfl Try.sizeOf22 rfl) ?_
     obtain ⟨w295, hr296, hst⟩ := hst.boxStore1 (P := Try.prog) (t := 22) (cs' := [(slcV 1 v285 a1.toNat (((a0.p).length : Nat) : Int).toNat), .bool a0.bad]) 0 (slcV 1 v285 a1.toNat (((a0.p).length : Nat) : Int).toNat) (one_of_sliceV (ro_sliceV f294)) Try.sizeOf22 rfl rfl
     refine wl_unit rfl rfl (x_unit hr296) ?_
     refine wl_nil (then_n (wp_seq (wp_region_lit ?_)))
     refine wv (.int .u64 z278) rfl rfl rfl ?_
     refine wv (.int .u64 z278) rfl rfl rfl ?_
     refine wl_nil (then_n (wp_ret ?_))
     replace hst := at_octet_Reader_close (pv := .pointer (some ⟨b208, 0, none⟩)) (x := ({ p := (subs a0.p a1 (((a0.p).length : Nat) : Int)), bad := a0.bad } : octet_Reader)) hst ⟨rfl, f294⟩
     obtain rfl := some_inj hm
     refine post_ret (vs := [.int .u64 z278]) Try.results40 (rvs_cons (rv_tmp rfl) rvs_nil) ?_
     exact ⟨rfl, hst.keep1⟩

theorem octet_Reader_Count_ref {w0 w : World} {I : HL} {R : SP} {a0 : octet_Reader} {p0 : Value} {a1 : Int}  (hst : St w0 w I [at_octet_Reader p0 a0] R) {r : (Int × octet_Reader)} (hm : octet_Reader_Count a0 a1 = some r) :
  Calls Try.prog 41 #[p0, .int .i64 a1] w fun e w' => e = .returned (.int .i64 r.1) ∧ St w0 w' I [at_octet_Reader p0 r.2] R := by
 unfold octet_Reader_Count at hm
 refine calls_start (args := [p0, .int .i64 a1]) Try.func41 rfl Try.ntmps41 (Nat.le_of_ble_eq_true rfl) ?_
 refine wp_seq (wp_region_lit ?_)
 refine wv (.int .i64 (0:Int)) rfl rfl rfl ?_
 refine wl_nil (then_n (wp_seq (wp_region_lit ?_)))
 refine wv (p0) rfl rfl rfl ?_
 obtain ⟨t213, ht214, hm⟩ := bind_some hm
 refine wl_call rfl rfl (x_call Try.call40 rfl (vs := [p0, .int .i64 (4:Int)]) rfl) ?_
 refine (octet_Reader_Num_ref hst.to1 ht214).mono ?_
 rintro _ w215 ⟨rfl, hst⟩
 refine ⟨_, rfl, ?_⟩
 replace hst := hst.of1
 refine wv (.int .u64 t213.1) rfl rfl rfl ?_
 refine wl_nil (then_n (wp_seq (wp_seq (wp_region_lit ?_))))
 refine wv (.int .i64 a1) rfl rfl rfl ?_
 refine wv (.bool (decide (a1 < (0:Int)))) rfl rfl rfl ?_
 refine wv (.bool (decide (a1 < (0:Int)))) rfl rfl rfl ?_
 refine bsplit (decide (a1 < (0:Int))) (fun hc218 => ?_) (fun hc218 => ?_)
 ·skip
  replace hm := bif_t hc218 hm
  refine wo hc218 rfl rfl rfl rfl rfl rfl ?_
  refine wo hc218 rfl rfl rfl rfl rfl rfl ?_
  refine wo hc218 rfl rfl rfl rfl rfl rfl ?_
  refine wo hc218 rfl rfl rfl rfl rfl rfl ?_
  refine wv (.bool true) rfl rfl (x_pick_t hc218 rfl rfl) ?_
  refine wl_nil (then_n ?_)
  refine wp_ift rfl ?_
  refine wp_seq (wp_region_lit ?_)
  refine wv (p0) rfl rfl rfl ?_
  obtain ⟨t219, ht220, hm⟩ := bind_some hm
  refine wl_call rfl rfl (x_call Try.call66 rfl (vs := [p0]) rfl) ?_
  refine (octet_Reader_spoil_ref hst.to1 ht220).mono ?_
  rintro _ w221 ⟨rfl, hst⟩
  refine ⟨_, rfl, ?_⟩
  replace hst := hst.of1
  refine wl_nil (then_n (wp_seq (wp_region_lit ?_)))
  refine wv (.int .i64 (0:Int)) rfl rfl rfl ?_
  refine wl_nil (then_n (wp_ret (then_r ?_)))
  obtain rfl := some_inj hm
  refine post_ret (vs := [.int .i64 (0:Int)]) Try.results41 (rvs_cons (rv_tmp rfl) rvs_nil) ?_
  exact ⟨rfl, hst.keep1⟩
 ·skip
  replace hm := bif_f hc218 hm
  refine wv (.int .u64 t213.1) ((wanted_eq rfl rfl rfl (congrArg Value.bool hc218)).trans rfl) rfl rfl ?_
  refine wv (.int .i64 a1) ((wanted_eq rfl rfl rfl (congrArg Value.bool hc218)).trans rfl) rfl rfl ?_
  refine wv (.int .u64 (IntKind.u64.wrap a1)) ((wanted_eq rfl rfl rfl (congrArg Value.bool hc218)).trans rfl) rfl (by kernel_rfl) ?_
  refine wv (.bool (decide (t213.1 > (IntKind.u64.wrap a1)))) ((wanted_eq rfl rfl rfl (congrArg Value.bool hc218)).trans rfl) rfl rfl ?_
  refine wv (.bool (decide (t213.1 > (IntKind.u64.wrap a1)))) rfl rfl (x_pick_f hc218 rfl rfl) ?_
  refine wl_nil (then_n ?_)
  refine bsplit (decide (t213.1 > (IntKind.u64.wrap a1))) (fun hc224 => ?_) (fun hc224 => ?_)
  ·skip
   replace hm := bif_t hc224 hm
   refine wp_ift (congrArg Value.bool hc224) ?_
   refine wp_seq (wp_region_lit ?_)
   refine wv (p0) rfl rfl rfl ?_
   obtain ⟨t225, ht226, hm⟩ := bind_some hm
   refine wl_call rfl rfl (x_call Try.call66 rfl (vs := [p0]) rfl) ?_
   refine (octet_Reader_spoil_ref hst.to1 ht226).mono ?_
   rintro _ w227 ⟨rfl, hst⟩
   refine ⟨_, rfl, ?_⟩
   replace hst := hst.of1
   refine wl_nil (then_n (wp_seq (wp_region_lit ?_)))
   refine wv (.int .i64 (0:Int)) rfl rfl rfl ?_
   refine wl_nil (then_n (wp_ret (then_r ?_)))
   obtain rfl := some_inj hm
   refine post_ret (vs := [.int .i64 (0:Int)]) Try.results41 (rvs_cons (rv_tmp rfl) rvs_nil) ?_
   exact ⟨rfl, hst.keep1⟩
  ·skip
   replace hm := bif_f hc224 hm
   refine wp_iff (congrArg Value.bool hc224) ?_
   refine wp_skip (then_n (wp_seq (wp_region_lit ?_)))
   refine wv (.int .u64 t213.1) rfl rfl rfl ?_
   refine wv (.int .i64 (IntKind.i64.wrap t213.1)) rfl rfl (by kernel_rfl) ?_
   refine wv (.int .i64 (IntKind.i64.wrap t213.1)) rfl rfl rfl ?_
   refine wl_nil (then_n (wp_ret ?_))
   obtain rfl := some_inj hm
   refine post_ret (vs := [.int .i64 (IntKind.i64.wrap t213.1)]) Try.results41 (rvs_cons (rv_tmp rfl) rvs_nil) ?_
   exact ⟨rfl, hst.keep1⟩

theorem number_Back_ref {w0 w : World} {I : HL} {R : SP} {a0 : Int}  (hst : St w0 w I [] R) {r : (Nat)} (hm : number_Back a0 = some r) :
  Calls Try.prog 44 #[.int .u64 a0] w fun e w' => e = .returned (.float .f64 r) ∧ St w0 w' I [] R := by
 unfold number_Back at hm
 refine calls_start (args := [.int .u64 a0]) Try.func44 rfl Try.ntmps44 (Nat.le_of_ble_eq_true rfl) ?_
 refine wp_seq (wp_region_lit ?_)
 refine wv (.float .f64 (0:Nat)) rfl rfl rfl ?_
 refine wl_nil (then_n (wp_seq (wp_seq (wp_region_lit ?_))))
 refine wv (.int .u64 a0) rfl rfl rfl ?_
 refine wv (.int .u64 (iShr .u64 a0 (63:Int))) rfl rfl (x_shr (by decide) rfl rfl) ?_
 refine wv (.bool ((iShr .u64 a0 (63:Int)) == (1:Int))) rfl rfl rfl ?_
 refine wl_nil (then_n ?_)
 refine bsplit ((iShr .u64 a0 (63:Int)) == (1:Int)) (fun hc201 => ?_) (fun hc201 => ?_)
 ·skip
  replace hm := bif_t hc201 hm
  refine wp_ift (congrArg Value.bool hc201) ?_
  refine wp_seq (wp_region_lit ?_)
  refine wv (.int .u64 a0) rfl rfl rfl ?_
  refine wv (.int .u64 (bAndNot .u64 a0 (9223372036854775808:Int))) rfl rfl rfl ?_
  refine wv (.float .f64 (Int.toNat (bAndNot .u64 a0 (9223372036854775808:Int)))) rfl rfl (by kernel_rfl) ?_
  refine wv (.float .f64 (Int.toNat (bAndNot .u64 a0 (9223372036854775808:Int)))) rfl rfl rfl ?_
  refine wl_nil (then_n (wp_ret (then_r ?_)))
  obtain rfl := some_inj hm
  refine post_ret (vs := [.float .f64 (Int.toNat (bAndNot .u64 a0 (9223372036854775808:Int)))]) Try.results44 (rvs_cons (rv_tmp rfl) rvs_nil) ?_
  exact ⟨rfl, hst.keep0⟩
 ·skip
  replace hm := bif_f hc201 hm
  refine wp_iff (congrArg Value.bool hc201) ?_
  refine wp_skip (then_n (wp_seq (wp_region_lit ?_)))
  refine wv (.int .u64 a0) rfl rfl rfl ?_
  refine wv (.int .u64 (bXor .u64 ((18446744073709551615):Int) a0)) rfl rfl (by kernel_rfl) ?_
  refine wv (.float .f64 (Int.toNat (bXor .u64 ((18446744073709551615):Int) a0))) rfl rfl (by kernel_rfl) ?_
  refine wv (.float .f64 (Int.toNat (bXor .u64 ((18446744073709551615):Int) a0))) rfl rfl rfl ?_
  refine wl_nil (then_n (wp_ret ?_))
  obtain rfl := some_inj hm
  refine post_ret (vs := [.float .f64 (Int.toNat (bXor .u64 ((18446744073709551615):Int) a0))]) Try.results44 (rvs_cons (rv_tmp rfl) rvs_nil) ?_
  exact ⟨rfl, hst.keep0⟩

theorem octet_Reader_Bytes_ref {w0 w : World} {I : HL} {R : SP} {a0 : octet_Reader} {p0 : Value} {a1 : Int}  (hst : St w0 w I [at_octet_Reader p0 a0] R) {r : ((List Int) × octet_Reader)} (hm : octet_Reader_Bytes a0 a1 = some r) :
  Calls Try.prog 43 #[p0, .int .i64 a1] w fun e w' => ∃ (q0_0 : Value), e = .returned (q0_0) ∧ St w0 w' I [ownS (tyInt .u8) q0_0 r.1, at_octet_Reader p0 r.2] R := by
 unfold octet_Reader_Bytes at hm
 refine calls_start (args := [p0, .int .i64 a1]) Try.func43 rfl Try.ntmps43 (Nat.le_of_ble_eq_true rfl) ?_
 refine wp_seq (wp_region_lit ?_)
 refine wv ((.slice none 0 0)) rfl rfl rfl ?_
 refine wl_nil (then_n (wp_seq (wp_region_lit ?_)))
 refine wv (p0) rfl rfl rfl ?_
 obtain ⟨t654, ht655, hm⟩ := bind_some hm
 refine wl_call rfl rfl (x_call Try.call40 rfl (vs := [p0, .int .i64 (4:Int)]) rfl) ?_
 refine (octet_Reader_Num_ref hst.to1 ht655).mono ?_
 rintro _ w656 ⟨rfl, hst⟩
 refine ⟨_, rfl, ?_⟩
 replace hst := hst.of1
 refine wv (.int .u64 t654.1) rfl rfl rfl ?_
 refine wl_nil (then_n (wp_seq (wp_seq (wp_region_lit ?_))))
 refine wv (p0) rfl rfl rfl ?_
 obtain ⟨b659, v660, ⟨rfl, f662⟩, hst'⟩ := at_octet_Reader_open hst
 clear hst
 have hst := hst'
 clear hst'
 refine wv (.bool false) rfl rfl (by kernel_rfl) ?_
 refine wv (.bool false) rfl rfl rfl ?_
 refine wv (.pointer (some ⟨b659, 0, none⟩)) ((wanted_eq rfl rfl rfl rfl).trans rfl) rfl rfl ?_
 refine wv (.pointer (some ⟨b659, 0, none⟩)) ((wanted_eq rfl rfl rfl rfl).trans rfl) rfl rfl ?_
 refine wv (.pointer (some ⟨b659, 1, none⟩)) ((wanted_eq rfl rfl rfl rfl).trans rfl) rfl (x_field rfl Try.underlying95 rfl Try.sizeOf4 rfl) ?_
 refine wv (.bool t654.2.bad) ((wanted_eq rfl rfl rfl rfl).trans rfl) rfl (x_load rfl Try.isAgg4 (hst.bc0 rfl)) ?_
 refine wv (.bool t654.2.bad) rfl rfl (x_pick_f rfl rfl rfl) ?_
 refine wv (.bool t654.2.bad) rfl rfl rfl ?_
 refine bsplit t654.2.bad (fun hc663 => ?_) (fun hc663 => ?_)
 ·skip
  replace hm := bif_t hc663 hm
  refine wo hc663 rfl rfl rfl rfl rfl rfl ?_
  refine wo hc663 rfl rfl rfl rfl rfl rfl ?_
  refine wv (.bool true) rfl rfl (x_pick_t hc663 rfl rfl) ?_
  refine wv (.bool true) rfl rfl rfl ?_
  refine wl_off ((wanted_eq rfl rfl rfl rfl).trans rfl) rfl ?_
  refine wl_off ((wanted_eq rfl rfl rfl rfl).trans rfl) rfl ?_
  refine wl_off ((wanted_eq rfl rfl rfl rfl).trans rfl) rfl ?_
  refine wl_off ((wanted_eq rfl rfl rfl rfl).trans rfl) rfl ?_
  refine wv (.bool true) rfl rfl (x_pick_t rfl rfl rfl) ?_
  refine wv (.bool true) rfl rfl rfl ?_
  refine wl_off ((wanted_eq rfl rfl rfl rfl).trans rfl) rfl ?_
  refine wl_off ((wanted_eq rfl rfl rfl rfl).trans rfl) rfl ?_
  refine wl_off ((wanted_eq rfl rfl rfl rfl).trans rfl) rfl ?_
  refine wl_off ((wanted_eq rfl rfl rfl rfl).trans rfl) rfl ?_
  refine wl_off ((wanted_eq rfl rfl rfl rfl).trans rfl) rfl ?_
  refine wl_off ((wanted_eq rfl rfl rfl rfl).trans rfl) rfl ?_
  refine wl_off ((wanted_eq rfl rfl rfl rfl).trans rfl) rfl ?_
  refine wl_off ((wanted_eq rfl rfl rfl rfl).trans rfl) rfl ?_
  refine wv (.bool true) rfl rfl (x_pick_t rfl rfl rfl) ?_
  refine wl_nil (then_n ?_)
  refine wp_ift rfl ?_
  refine wp_seq (wp_region_lit ?_)
  refine wv (.pointer (some ⟨b659, 0, none⟩)) rfl rfl rfl ?_
  replace hst := at_octet_Reader_close (pv := .pointer (some ⟨b659, 0, none⟩)) (x := t654.2) hst ⟨rfl, f662⟩
  obtain ⟨t664, ht665, hm⟩ := bind_some hm
  refine wl_call rfl rfl (x_call Try.call66 rfl (vs := [.pointer (some ⟨b659, 0, none⟩)]) rfl) ?_
  refine (octet_Reader_spoil_ref hst.to1 ht665).mono ?_
  rintro _ w666 ⟨rfl, hst⟩
  refine ⟨_, rfl, ?_⟩
  replace hst := hst.of1
  refine wl_nil (then_n (wp_seq (wp_region_lit ?_)))
  refine wv ((.slice none 0 0)) rfl rfl rfl ?_
  refine wl_nil (then_n (wp_ret (then_r ?_)))
  replace hst := hst.own_nil (tyInt .u8)
  obtain rfl := some_inj hm
  refine post_ret (vs := [(.slice none 0 0)]) Try.results43 (rvs_cons (rv_tmp rfl) rvs_nil) ?_
  replace hst := hst.pull1
  replace hst := hst.pull1
  exact ⟨(.slice none 0 0), rfl, hst.keep2⟩
 ·skip
  replace hm := bif_f hc663 hm
  refine wv (.int .i64 a1) ((wanted_eq rfl rfl rfl (congrArg Value.bool hc663)).trans rfl) rfl rfl ?_
  refine wv (.bool (decide (a1 < (0:Int)))) ((wanted_eq rfl rfl rfl (congrArg Value.bool hc663)).trans rfl) rfl rfl ?_
  refine wv (.bool (decide (a1 < (0:Int)))) rfl rfl (x_pick_f hc663 rfl rfl) ?_
  refine wv (.bool (decide (a1 < (0:Int)))) rfl rfl rfl ?_
  refine bsplit (decide (a1 < (0:Int))) (fun hc670 => ?_) (fun hc670 => ?_)
  ·skip
   replace hm := bif_t hc670 hm
   refine wo hc670 rfl rfl rfl rfl rfl rfl ?_
   refine wo hc670 rfl rfl rfl rfl rfl rfl ?_
   refine wo hc670 rfl rfl rfl rfl rfl rfl ?_
   refine wo hc670 rfl rfl rfl rfl rfl rfl ?_
   refine wv (.bool true) rfl rfl (x_pick_t hc670 rfl rfl) ?_
   refine wv (.bool true) rfl rfl rfl ?_
   refine wl_off ((wanted_eq rfl rfl rfl rfl).trans rfl) rfl ?_
   refine wl_off ((wanted_eq rfl rfl rfl rfl).trans rfl) rfl ?_
   refine wl_off ((wanted_eq rfl rfl rfl rfl).trans rfl) rfl ?_
   refine wl_off ((wanted_eq rfl rfl rfl rfl).trans rfl) rfl ?_
   refine wl_off ((wanted_eq rfl rfl rfl rfl).trans rfl) rfl ?_
   refine wl_off ((wanted_eq rfl rfl rfl rfl).trans rfl) rfl ?_
   refine wl_off ((wanted_eq rfl rfl rfl rfl).trans rfl) rfl ?_
   refine wl_off ((wanted_eq rfl rfl rfl rfl).trans rfl) rfl ?_
   refine wv (.bool true) rfl rfl (x_pick_t rfl rfl rfl) ?_
   refine wl_nil (then_n ?_)
   refine wp_ift rfl ?_
   refine wp_seq (wp_region_lit ?_)
   refine wv (.pointer (some ⟨b659, 0, none⟩)) rfl rfl rfl ?_
   replace hst := at_octet_Reader_close (pv := .pointer (some ⟨b659, 0, none⟩)) (x := t654.2) hst ⟨rfl, f662⟩
   obtain ⟨t671, ht672, hm⟩ := bind_some hm
   refine wl_call rfl rfl (x_call Try.call66 rfl (vs := [.pointer (some ⟨b659, 0, none⟩)]) rfl) ?_
   refine (octet_Reader_spoil_ref hst.to1 ht672).mono ?_
   rintro _ w673 ⟨rfl, hst⟩
   refine ⟨_, rfl, ?_⟩
   replace hst := hst.of1
   refine wl_nil (then_n (wp_seq (wp_region_lit ?_)))
   refine wv ((.slice none 0 0)) rfl rfl rfl ?_
   refine wl_nil (then_n (wp_ret (then_r ?_)))
   replace hst := hst.own_nil (tyInt .u8)
   obtain rfl := some_inj hm
   refine post_ret (vs := [(.slice none 0 0)]) Try.results43 (rvs_cons (rv_tmp rfl) rvs_nil) ?_
   replace hst := hst.pull1
   replace hst := hst.pull1
   exact ⟨(.slice none 0 0), rfl, hst.keep2⟩
  ·skip
   replace hm := bif_f hc670 hm
   refine wv (.int .u64 t654.1) ((wanted_eq rfl rfl rfl (congrArg Value.bool hc670)).trans rfl) rfl rfl ?_
   refine wv (.int .i64 a1) ((wanted_eq rfl rfl rfl (congrArg Value.bool hc670)).trans rfl) rfl rfl ?_
   refine wv (.int .u64 (IntKind.u64.wrap a1)) ((wanted_eq rfl rfl rfl (congrArg Value.bool hc670)).trans rfl) rfl (by kernel_rfl) ?_
   refine wv (.bool (decide (t654.1 > (IntKind.u64.wrap a1)))) ((wanted_eq rfl rfl rfl (congrArg Value.bool hc670)).trans rfl) rfl rfl ?_
   refine wv (.bool (decide (t654.1 > (IntKind.u64.wrap a1)))) rfl rfl (x_pick_f hc670 rfl rfl) ?_
   refine wv (.bool (decide (t654.1 > (IntKind.u64.wrap a1)))) rfl rfl rfl ?_
   refine bsplit (decide (t654.1 > (IntKind.u64.wrap a1))) (fun hc677 => ?_) (fun hc677 => ?_)
   ·skip
    replace hm := bif_t hc677 hm
    refine wo hc677 rfl rfl rfl rfl rfl rfl ?_
    refine wo hc677 rfl rfl rfl rfl rfl rfl ?_
    refine wo hc677 rfl rfl rfl rfl rfl rfl ?_
    refine wo hc677 rfl rfl rfl rfl rfl rfl ?_
    refine wo hc677 rfl rfl rfl rfl rfl rfl ?_
    refine wo hc677 rfl rfl rfl rfl rfl rfl ?_
    refine wo hc677 rfl rfl rfl rfl rfl rfl ?_
    refine wo hc677 rfl rfl rfl rfl rfl rfl ?_
    refine wv (.bool true) rfl rfl (x_pick_t hc677 rfl rfl) ?_
    refine wl_nil (then_n ?_)
    refine wp_ift rfl ?_
    refine wp_seq (wp_region_lit ?_)
    refine wv (.pointer (some ⟨b659, 0, none⟩)) rfl rfl rfl ?_
    replace hst := at_octet_Reader_close (pv := .pointer (some ⟨b659, 0, none⟩)) (x := t654.2) hst ⟨rfl, f662⟩
    obtain ⟨t678, ht679, hm⟩ := bind_some hm
    refine wl_call rfl rfl (x_call Try.call66 rfl (vs := [.pointer (some ⟨b659, 0, none⟩)]) rfl) ?_
    refine (octet_Reader_spoil_ref hst.to1 ht679).mono ?_
    rintro _ w680 ⟨rfl, hst⟩
    refine ⟨_, rfl, ?_⟩
    replace hst := hst.of1
    refine wl_nil (then_n (wp_seq (wp_region_lit ?_)))
    refine wv ((.slice none 0 0)) rfl rfl rfl ?_
    refine wl_nil (then_n (wp_ret (then_r ?_)))
    replace hst := hst.own_nil (tyInt .u8)
    obtain rfl := some_inj hm
    refine post_ret (vs := [(.slice none 0 0)]) Try.results43 (rvs_cons (rv_tmp rfl) rvs_nil) ?_
    replace hst := hst.pull1
    replace hst := hst.pull1
    exact ⟨(.slice none 0 0), rfl, hst.keep2⟩
   ·skip
    replace hm := bif_f hc677 hm
    refine wv (.int .u64 t654.1) ((wanted_eq rfl rfl rfl (congrArg Value.bool hc677)).trans rfl) rfl rfl ?_
    refine wv (.pointer (some ⟨b659, 0, none⟩)) ((wanted_eq rfl rfl rfl (congrArg Value.bool hc677)).trans rfl) rfl rfl ?_
    refine wv (.pointer (some ⟨b659, 0, none⟩)) ((wanted_eq rfl rfl rfl (congrArg Value.bool hc677)).trans rfl) rfl rfl ?_
    refine wv (.pointer (some ⟨b659, 0, none⟩)) ((wanted_eq rfl rfl rfl (congrArg Value.bool hc677)).trans rfl) rfl (x_field rfl Try.underlying95 rfl Try.sizeOf22 rfl) ?_
    refine wv (v660) ((wanted_eq rfl rfl rfl (congrArg Value.bool hc677)).trans rfl) rfl (x_load rfl Try.isAgg22 (hst.bc0 rfl)) ?_
    refine wv (.int .i64 ((t654.2.p).length : Int)) ((wanted_eq rfl rfl rfl (congrArg Value.bool hc677)).trans rfl) rfl (x_len rfl Try.underlying22 (ro_sliceV f662)) ?_
    refine wv (.int .u64 (IntKind.u64.wrap ((t654.2.p).length : Int))) ((wanted_eq rfl rfl rfl (congrArg Value.bool hc677)).trans rfl) rfl (by kernel_rfl) ?_
    refine wv (.bool (decide (t654.1 > (IntKind.u64.wrap ((t654.2.p).length : Int))))) ((wanted_eq rfl rfl rfl (congrArg Value.bool hc677)).trans rfl) rfl rfl ?_
    refine wv (.bool (decide (t654.1 > (IntKind.u64.wrap ((t654.2.p).length : Int))))) rfl rfl (x_pick_f hc677 rfl rfl) ?_
    refine wl_nil (then_n ?_)
    refine bsplit (decide (t654.1 > (IntKind.u64.wrap ((t654.2.p).length : Int)))) (fun hc684 => ?_) (fun hc684 => ?_)
    ·skip
     replace hm := bif_t hc684 hm
     refine wp_ift (congrArg Value.bool hc684) ?_
     refine wp_seq (wp_region_lit ?_)
     refine wv (.pointer (some ⟨b659, 0, none⟩)) rfl rfl rfl ?_
     replace hst := at_octet_Reader_close (pv := .pointer (some ⟨b659, 0, none⟩)) (x := t654.2) hst ⟨rfl, f662⟩
     obtain ⟨t685, ht686, hm⟩ := bind_some hm
     refine wl_call rfl rfl (x_call Try.call66 rfl (vs := [.pointer (some ⟨b659, 0, none⟩)]) rfl) ?_
     refine (octet_Reader_spoil_ref hst.to1 ht686).mono ?_
     rintro _ w687 ⟨rfl, hst⟩
     refine ⟨_, rfl, ?_⟩
     replace hst := hst.of1
     refine wl_nil (then_n (wp_seq (wp_region_lit ?_)))
     refine wv ((.slice none 0 0)) rfl rfl rfl ?_
     refine wl_nil (then_n (wp_ret (then_r ?_)))
     replace hst := hst.own_nil (tyInt .u8)
     obtain rfl := some_inj hm
     refine post_ret (vs := [(.slice none 0 0)]) Try.results43 (rvs_cons (rv_tmp rfl) rvs_nil) ?_
     replace hst := hst.pull1
     replace hst := hst.pull1
     exact ⟨(.slice none 0 0), rfl, hst.keep2⟩
    ·skip
     replace hm := bif_f hc684 hm
     refine wp_iff (congrArg Value.bool hc684) ?_
     refine wp_skip (then_n (wp_seq (wp_region_lit ?_)))
     refine wv (.pointer (some ⟨b659, 0, none⟩)) rfl rfl rfl ?_
     refine wv (.pointer (some ⟨b659, 0, none⟩)) rfl rfl rfl ?_
     refine wv (.pointer (some ⟨b659, 0, none⟩)) rfl rfl (x_field rfl Try.underlying95 rfl Try.sizeOf22 rfl) ?_
     refine wv (v660) rfl rfl (x_load rfl Try.isAgg22 (hst.bc0 rfl)) ?_
     refine wv (.int .u64 t654.1) rfl rfl rfl ?_
     obtain ⟨hg691, hm⟩ := gd_some hm
     obtain ⟨h692, h693, h694⟩ := fits_of hg691
     have f696 : Ro (tyInt .u8) I (slcV 1 v660 (0:Int).toNat t654.1.toNat) (subs t654.2.p (0:Int) t654.1) := Ro.part f662 h693 h694 h692
     refine wv ((slcV 1 v660 (0:Int).toNat t654.1.toNat)) rfl rfl (x_slice Try.underlying22 Try.sizeOf5 rfl (ro_sliceV f662) h692 h693 h694 .i64 .u64 (.inr ⟨rfl, rfl⟩) (.inl rfl)) ?_
     replace hst := hst.own_nil (tyInt .u8)
     obtain ⟨hg698, hm⟩ := gd_some hm
     obtain ⟨v699, w700, hr701, hst⟩ := run_append elem_22 Try.underlying22 hst (Src.of_ro hst f696) (room_of hg698 rfl) 22
     replace hst := St.nil_app hst
     refine wl_run (v := v699) (w' := w700) rfl rfl (x_append rfl rfl hr701) ?_
     refine wv (v699) rfl rfl rfl ?_
     refine wl_nil (then_n (wp_seq (wp_region_lit ?_)))
     refine wv (.pointer (some ⟨b659, 0, none⟩)) rfl rfl rfl ?_
     refine wv (.pointer (some ⟨b659, 0, none⟩)) rfl rfl rfl ?_
     refine wv (.pointer (some ⟨b659, 0, none⟩)) rfl rfl rfl ?_
     refine wv (.pointer (some ⟨b659, 0, none⟩)) rfl rfl (x_field rfl Try.underlying95 rfl Try.sizeOf22 rfl) ?_
     refine wv (v660) rfl rfl (x_load rfl Try.isAgg22 (hst.bc1 rfl)) ?_
     refine wv (.int .u64 t654.1) rfl rfl rfl ?_
     obtain ⟨hg702, hm⟩ := gd_some hm
     obtain ⟨h703, h704, h705⟩ := fits_of hg702
     have f707 : Ro (tyInt .u8) I (slcV 1 v660 t654.1.toNat (((t654.2.p).length : Nat) : Int).toNat) (subs t654.2.p t654.1 (((t654.2.p).length : Nat) : Int)) := Ro.part f662 h704 h705 h703
     refine wv ((slcV 1 v660 t654.1.toNat (((t654.2.p).length : Nat) : Int).toNat)) rfl rfl (x_slice Try.underlying22 Try.sizeOf5 rfl (ro_sliceV f662) h703 h704 h705 .u64 .i64 (.inl rfl) (.inr ⟨rfl, rfl⟩)) ?_
     refine wv (.pointer (some ⟨b659, 0, none⟩)) rfl rfl rfl ?_
     refine wv (.pointer (some ⟨b659, 0, none⟩)) rfl rfl (x_field rfl Try.underlying95 rfl Try.sizeOf22 rfl) ?_
     replace hst := hst.pull1
     obtain ⟨w708, hr709, hst⟩ := hst.boxStore1 (P := Try.prog) (t := 22) (cs' := [(slcV 1 v660 t654.1.toNat (((t654.2.p).length : Nat) : Int).toNat), .bool t654.2.bad]) 0 (slcV 1 v660 t654.1.toNat (((t654.2.p).length : Nat) : Int).toNat) (one_of_sliceV (ro_sliceV f707)) Try.sizeOf22 rfl rfl
     refine wl_unit rfl rfl (x_unit hr709) ?_
     refine wl_nil (then_n (wp_seq (wp_region_lit ?_)))
     refine wv (v699) rfl rfl rfl ?_
     refine wv (v699) rfl rfl rfl ?_
     refine wl_nil (then_n (wp_ret ?_))
     replace hst := at_octet_Reader_close (pv := .pointer (some ⟨b659, 0, none⟩)) (x := ({ p := (subs t654.2.p t654.1 (((t654.2.p).length : Nat) : Int)), bad := t654.2.bad } : octet_Reader)) hst ⟨rfl, f707⟩
     obtain rfl := some_inj hm
     refine post_ret (vs := [v699]) Try.results43 (rvs_cons (rv_tmp rfl) rvs_nil) ?_
     replace hst := hst.pull1
     exact ⟨v699, rfl, hst.keep2⟩

theorem locks_Read_ref {w0 w : World} {I : HL} {R : SP} {a0 : octet_Reader} {p0 : Value}  (hst : St w0 w I [at_octet_Reader p0 a0] R) {r : (api_Hold × octet_Reader)} (hm : locks_Read a0 = some r) :
  Calls Try.prog 53 #[p0] w fun e w' => ∃ (q0_0 : Value) (q0_1 : Value) (q0_2 : Value) (q0_3 : Value), e = .returned (.agg #[.int .u64 r.1.ID.Session, .int .u64 r.1.ID.Seq, .int .u64 r.1.Epoch, q0_0, q0_1, q0_2, q0_3]) ∧ St w0 w' I [ownS tyF64 q0_0 r.1.Gets, ownS tyF2 q0_1 r.1.Scans, ownS tyF64 q0_2 r.1.Puts, ownS (tyInt .u8) q0_3 r.1.Data, at_octet_Reader p0 r.2] R := by
 unfold locks_Read at hm
 refine calls_start (args := [p0]) Try.func53 rfl Try.ntmps53 (Nat.le_of_ble_eq_true rfl) ?_
 refine wp_seq (wp_region_lit ?_)
 obtain ⟨b610, w611, ew612, eb613, hst⟩ := hst.box [.int .u64 (0:Int), .int .u64 (0:Int), .int .u64 (0:Int), (.slice none 0 0), (.slice none 0 0), (.slice none 0 0), (.slice none 0 0)] 34
 refine wl_run (v := .pointer (some ⟨b610, 0, none⟩)) (w' := w611) rfl rfl (x_al (by kernel_rfl) ew612 eb613) ?_
 refine wl_nil (then_n (wp_seq (wp_region_lit ?_)))
 refine wv (p0) rfl rfl rfl ?_
 replace hst := hst.pull1
 obtain ⟨t615, ht616, hm⟩ := bind_some hm
 refine wl_call rfl rfl (x_call Try.call40 rfl (vs := [p0, .int .i64 (8:Int)]) rfl) ?_
 refine (octet_Reader_Num_ref hst.to1 ht616).mono ?_
 rintro _ w617 ⟨rfl, hst⟩
 refine ⟨_, rfl, ?_⟩
 replace hst := hst.of1
 refine wv (p0) rfl rfl rfl ?_
 obtain ⟨t620, ht621, hm⟩ := bind_some hm
 refine wl_call rfl rfl (x_call Try.call40 rfl (vs := [p0, .int .i64 (8:Int)]) rfl) ?_
 refine (octet_Reader_Num_ref hst.to1 ht621).mono ?_
 rintro _ w622 ⟨rfl, hst⟩
 refine ⟨_, rfl, ?_⟩
 replace hst := hst.of1
 refine wv (.agg #[.int .u64 t615.1, .int .u64 t620.1]) rfl rfl (by kernel_rfl) ?_
 refine wv (p0) rfl rfl rfl ?_
 obtain ⟨t625, ht626, hm⟩ := bind_some hm
 refine wl_call rfl rfl (x_call Try.call40 rfl (vs := [p0, .int .i64 (8:Int)]) rfl) ?_
 refine (octet_Reader_Num_ref hst.to1 ht626).mono ?_
 rintro _ w627 ⟨rfl, hst⟩
 refine ⟨_, rfl, ?_⟩
 replace hst := hst.of1
 refine wv (.agg #[.int .u64 t615.1, .int .u64 t620.1, .int .u64 t625.1, (.slice none 0 0), (.slice none 0 0), (.slice none 0 0), (.slice none 0 0)]) rfl rfl (by kernel_rfl) ?_
 obtain ⟨b638, w639, ew640, eb641, hst⟩ := hst.box [.int .u64 (0:Int), .int .u64 (0:Int), .int .u64 (0:Int), (.slice none 0 0), (.slice none 0 0), (.slice none 0 0), (.slice none 0 0)] 34
 refine wl_run (v := .pointer (some ⟨b638, 0, none⟩)) (w' := w639) rfl rfl (x_al (by kernel_rfl) ew640 eb641) ?_
 obtain ⟨w643, hr644, hst⟩ := hst.boxStore (P := Try.prog) (t := 34) (cs' := [.int .u64 t615.1, .int .u64 t620.1, .int .u64 t625.1, (.slice none 0 0), (.slice none 0 0), (.slice none 0 0), (.slice none 0 0)]) 0 (.agg #[.int .u64 t615.1, .int .u64 t620.1, .int .u64 t625.1, (.slice none 0 0), (.slice none 0 0), (.slice none 0 0), (.slice none 0 0)]) Try.sizeOf34 (Nat.le_of_ble_eq_true rfl) (ones_cons rfl (ones_cons rfl (ones_cons rfl (ones_cons rfl (ones_cons rfl (ones_cons rfl (ones_cons rfl ones_nil))))))) (by kernel_rfl)
 refine wl_unit rfl rfl (x_unit hr644) ?_
 refine wl_nil (then_n ?_)
 obtain ⟨y762, hm, hx763⟩ := bind_some hm
 refine wp_cut (fun a w => ∃ (z756 : octet_Reader) (z759 : (List Nat)) (v758 : Value) (σ760 : Nat → Value), (locks_Read_j0 t615 t620 t625) (z756, z759) = some r ∧ a = Fr 59 (upd (upd (upd σ760 0 (p0)) 2 (.pointer (some ⟨b610, 0, none⟩))) 3 (.pointer (some ⟨b638, 0, none⟩))) ∧ St w0 w I [at_octet_Reader p0 z756, cells b610 [.int .u64 (0:Int), .int .u64 (0:Int), .int .u64 (0:Int), (.slice none 0 0), (.slice none 0 0), (.slice none 0 0), (.slice none 0 0)], cells b638 [.int .u64 t615.1, .int .u64 t620.1, .int .u64 t625.1, v758, (.slice none 0 0), (.slice none 0 0), (.slice none 0 0)], ownS tyF64 v758 z759] R) ?_ ?_
 ·skip
  refine wp_seq (wp_region_lit ?_)
  refine wv (p0) rfl rfl rfl ?_
  replace hst := hst.pull1
  obtain ⟨t645, ht646, hm⟩ := bind_some hm
  refine wl_call rfl rfl (x_call Try.call41 rfl (vs := [p0, .int .i64 (32:Int)]) rfl) ?_
  refine (octet_Reader_Count_ref hst.to1 ht646).mono ?_
  rintro _ w647 ⟨rfl, hst⟩
  refine ⟨_, rfl, ?_⟩
  replace hst := hst.of1
  refine wv (.int .i64 (0:Int)) rfl rfl rfl ?_
  refine wl_nil (then_n (wp_block ?_))
  replace hst := hst.own_nil tyF64
  obtain ⟨n727, hm⟩ := loopO_some hm
  refine wp_loop_n (fun n a w => ∃ (z721 : (List Nat)) (z724 : octet_Reader) (z725 : Int) (v722 : Value) (σ726 : Nat → Value), loopN (locks_Read_l1 t645) n (z721, z724, z725) = some y762 ∧ a = Fr 59 (upd (upd (upd (upd (upd σ726 0 (p0)) 2 (.pointer (some ⟨b610, 0, none⟩))) 3 (.pointer (some ⟨b638, 0, none⟩))) 13 (.int .i64 t645.1)) 14 (.int .i64 z725)) ∧ St w0 w I [ownS tyF64 v722 z721, at_octet_Reader p0 z724, cells b638 [.int .u64 t615.1, .int .u64 t620.1, .int .u64 t625.1, v722, (.slice none 0 0), (.slice none 0 0), (.slice none 0 0)], cells b610 [.int .u64 (0:Int), .int .u64 (0:Int), .int .u64 (0:Int), (.slice none 0 0), (.slice none 0 0), (.slice none 0 0), (.slice none 0 0)]] R) n727 ⟨[], t645.2, (0:Int), (.slice none 0 0), _, hm, ((fr_upd (t := 0) (v := p0) rfl).trans ((fr_upd (t := 2) (v := .pointer (some ⟨b610, 0, none⟩)) rfl).trans ((fr_upd (t := 3) (v := .pointer (some ⟨b638, 0, none⟩)) rfl).trans ((fr_upd (t := 13) (v := .int .i64 t645.1) rfl).trans ((fr_upd (t := 14) (v := .int .i64 (0:Int)) rfl).trans rfl))))), hst⟩ ?_
  rintro n733 _ w728 ⟨z721, z724, z725, v722, σ726, hm, rfl, hst⟩
  obtain ⟨n730, y731, rfl, hm, hx732⟩ := loopN_some hm
  dsimp only [locks_Read_l1] at hm
  refine wp_seq (wp_region_lit ?_)
  refine wv (.bool (decide (z725 < t645.1))) rfl rfl rfl ?_
  refine wl_nil (then_n (wp_seq ?_))
  refine bsplit (decide (z725 < t645.1)) (fun hc734 => ?_) (fun hc734 => ?_)
  ·skip
   replace hm := bif_t hc734 hm
   refine wp_ift (congrArg Value.bool hc734) ?_
   refine wp_skip (then_n (wp_seq (wp_block ?_)))
   refine wp_region_St hst 9 [0, 1, 2, 3, 4, 5, 6, 7, 8] [0, 1, 0, 4, 12, 28, 63, 127, 255] [] rfl (by kernel_rfl) (by kernel_rfl) Try.mixed (by kernel_rfl) ?_
   refine wsr (.pointer (some ⟨b638, 3, none⟩)) 0 rfl rfl rfl (by kernel_rfl) (fun w hst => x_field rfl Try.underlying34 rfl Try.sizeOf31 rfl) ?_
   refine wsr (v722) 1 rfl rfl rfl (by kernel_rfl) (fun w hst => x_load rfl Try.isAgg31 (hst.bc2 rfl)) ?_
   refine wsr (p0) 2 rfl rfl rfl (by kernel_rfl) (fun w hst => rfl) ?_
   refine ws_e1 3 (by kernel_rfl) ?_
   refine nxe [4, 5, 6, 7, 8] (by kernel_rfl) rfl rfl ?_
   clear hst
   intro w hst
   replace hst := hst.pull1
   obtain ⟨t735, ht736, hm⟩ := bind_some hm
   refine we_call rfl (x_call Try.call40 rfl (vs := [p0, .int .i64 (8:Int)]) rfl) ?_
   refine (octet_Reader_Num_ref hst.to1 ht736).mono ?_
   rintro _ w737 ⟨rfl, hst⟩
   refine ⟨_, rfl, ?_⟩
   replace hst := hst.of1
   refine ws_next (pend' := [(1, v722), (0, .pointer (some ⟨b638, 3, none⟩))]) hst (by kernel_rfl) (pkr rfl rfl (fun w hst => x_load rfl Try.isAgg31 (hst.bc2 rfl)) (pkr rfl rfl (fun w hst => x_field rfl Try.underlying34 rfl Try.sizeOf31 rfl) pk_nil)) ?_
   refine ws_e1 4 (by kernel_rfl) ?_
   refine nxe [5, 6, 7, 8] (by kernel_rfl) rfl rfl ?_
   clear hst
   intro w hst
   obtain ⟨t740, ht741, hm⟩ := bind_some hm
   refine we_call rfl (x_call Try.call44 rfl (vs := [.int .u64 t735.1]) rfl) ?_
   refine (number_Back_ref hst.to0 ht741).mono ?_
   rintro _ w742 ⟨rfl, hst⟩
   refine ⟨_, rfl, ?_⟩
   replace hst := hst.of0
   refine ws_next (pend' := [(1, v722), (0, .pointer (some ⟨b638, 3, none⟩))]) hst (by kernel_rfl) (pkr rfl rfl (fun w hst => x_load rfl Try.isAgg31 (hst.bc2 rfl)) (pkr rfl rfl (fun w hst => x_field rfl Try.underlying34 rfl Try.sizeOf31 rfl) pk_nil)) ?_
   refine ws_e1 5 (by kernel_rfl) ?_
   refine nxe [6, 7, 8] (by kernel_rfl) rfl rfl ?_
   clear hst
   intro w hst
   obtain ⟨b745, w746, ew747, eb748, hst⟩ := hst.lits (E := tyF64) (xs := [t740]) [[.float .f64 t740]] 41 1 rfl (Reps.cons rfl Reps.nil)
   refine we_run (v := (.slice (some ⟨b745, 0, none⟩) 1 1)) (w' := w746) rfl (x_als (by kernel_rfl) ew747 eb748) ?_
   refine ws_next (pend' := [(1, v722), (0, .pointer (some ⟨b638, 3, none⟩))]) hst (by kernel_rfl) (pkr rfl rfl (fun w hst => x_load rfl Try.isAgg31 (hst.bc3 rfl)) (pkr rfl rfl (fun w hst => x_field rfl Try.underlying34 rfl Try.sizeOf31 rfl) pk_nil)) ?_
   refine ws_e1 6 (by kernel_rfl) ?_
   refine nxe [7, 8] (by kernel_rfl) rfl rfl ?_
   clear hst
   intro w hst
   obtain ⟨hg750, hm⟩ := gd_some hm
   replace hst := hst.pull2
   obtain ⟨v751, w752, hr753, hst⟩ := run_append elem_31 Try.underlying31 hst hst.src1 (room_of hg750 rfl) 31
   refine we_run (v := v751) (w' := w752) rfl (x_append rfl rfl hr753) ?_
   refine ws_next (pend' := []) hst (by kernel_rfl) pk_nil ?_
   refine wsr (.pointer (some ⟨b638, 3, none⟩)) 7 rfl rfl rfl (by kernel_rfl) (fun w hst => x_field rfl Try.underlying34 rfl Try.sizeOf31 rfl) ?_
   refine ws_e1 8 (by kernel_rfl) ?_
   refine nxe [] (by kernel_rfl) rfl rfl ?_
   clear hst
   intro w hst
   replace hst := hst.pull3
   obtain ⟨w754, hr755, hst⟩ := hst.boxStore1 (P := Try.prog) (t := 31) (cs' := [.int .u64 t615.1, .int .u64 t620.1, .int .u64 t625.1, v751, (.slice none 0 0), (.slice none 0 0), (.slice none 0 0)]) 3 v751 (one_of_sliceV hst.sv1) Try.sizeOf31 rfl rfl
   refine we_unit rfl (x_unit hr755) ?_
   refine ws_next (pend' := []) hst (by kernel_rfl) pk_nil ?_
   refine ws_nil ?_
   intro w hst
   refine blk_n (then_n (wp_region_lit ?_))
   refine wv (.int .i64 (IntKind.i64.wrap (z725 + (1:Int)))) rfl rfl rfl ?_
   refine wv (.int .i64 (IntKind.i64.wrap (z725 + (1:Int)))) rfl rfl rfl ?_
   refine wl_nil (then_n ?_)
   replace hst := hst.pull4
   replace hst := hst.pull1
   replace hst := hst.pull4
   replace hst := hst.pull3
   replace hst := hst.keep4
   obtain rfl := some_inj hm
   exact ⟨_, Nat.lt_succ_self _, (z721 ++ ([t740])), t735.2, (IntKind.i64.wrap (z725 + (1:Int))), v751, _, hx732, ((fr_upd (t := 0) (v := p0) rfl).trans ((fr_upd (t := 2) (v := .pointer (some ⟨b610, 0, none⟩)) rfl).trans ((fr_upd (t := 3) (v := .pointer (some ⟨b638, 0, none⟩)) rfl).trans ((fr_upd (t := 13) (v := .int .i64 t645.1) rfl).trans ((fr_upd (t := 14) (v := .int .i64 (IntKind.i64.wrap (z725 + (1:Int)))) rfl).trans rfl))))), hst⟩
  ·skip
   replace hm := bif_f hc734 hm
   refine wp_iff (congrArg Value.bool hc734) ?_
   refine wp_exit (then_x (then_x ?_))
   replace hm := inr_up hm hx732
   refine blk_x (then_n ?_)
   replace hst := hst.pull2
   replace hst := hst.pull3
   replace hst := hst.pull3
   replace hst := hst.keep4
   obtain rfl := some_inj hm
   exact ⟨z724, z721, v722, _, hx763, ((fr_upd (t := 0) (v := p0) rfl).trans ((fr_upd (t := 2) (v := .pointer (some ⟨b610, 0, none⟩)) rfl).trans ((fr_upd (t := 3) (v := .pointer (some ⟨b638, 0, none⟩)) rfl).trans rfl))), hst⟩
 ·skip
  clear hst
  rintro _ w764 ⟨z756, z759, v758, σ760, hm, rfl, hst⟩
  dsimp only [locks_Read_j0] at hm
  obtain ⟨y922, hm, hx923⟩ := bind_some hm
  refine wp_cut (fun a w => ∃ (z916 : octet_Reader) (z919 : (List (Nat × Nat))) (v918 : Value) (σ920 : Nat → Value), (locks_Read_j2 t615 t620 t625 z759) (z916, z919) = some r ∧ a = Fr 59 (upd (upd (upd σ920 0 (p0)) 2 (.pointer (some ⟨b610, 0, none⟩))) 3 (.pointer (some ⟨b638, 0, none⟩))) ∧ St w0 w I [at_octet_Reader p0 z916, cells b610 [.int .u64 (0:Int), .int .u64 (0:Int), .int .u64 (0:Int), (.slice none 0 0), (.slice none 0 0), (.slice none 0 0), (.slice none 0 0)], cells b638 [.int .u64 t615.1, .int .u64 t620.1, .int .u64 t625.1, v758, v918, (.slice none 0 0), (.slice none 0 0)], ownS tyF64 v758 z759, ownS tyF2 v918 z919] R) ?_ ?_
  ·skip
   refine wp_seq (wp_region_lit ?_)
   refine wv (p0) rfl rfl rfl ?_
   obtain ⟨t765, ht766, hm⟩ := bind_some hm
   refine wl_call rfl rfl (x_call Try.call41 rfl (vs := [p0, .int .i64 (32:Int)]) rfl) ?_
   refine (octet_Reader_Count_ref hst.to1 ht766).mono ?_
   rintro _ w767 ⟨rfl, hst⟩
   refine ⟨_, rfl, ?_⟩
   replace hst := hst.of1
   refine wv (.int .i64 (0:Int)) rfl rfl rfl ?_
   refine wl_nil (then_n (wp_block ?_))
   replace hst := hst.own_nil tyF2
   obtain ⟨n877, hm⟩ := loopO_some hm
   refine wp_loop_n (fun n a w => ∃ (z871 : (List (Nat × Nat))) (z874 : octet_Reader) (z875 : Int) (v872 : Value) (σ876 : Nat → Value), loopN (locks_Read_l3 t765) n (z871, z874, z875) = some y922 ∧ a = Fr 59 (upd (upd (upd (upd (upd σ876 0 (p0)) 2 (.pointer (some ⟨b610, 0, none⟩))) 3 (.pointer (some ⟨b638, 0, none⟩))) 26 (.int .i64 t765.1)) 27 (.int .i64 z875)) ∧ St w0 w I [ownS tyF2 v872 z871, at_octet_Reader p0 z874, cells b610 [.int .u64 (0:Int), .int .u64 (0:Int), .int .u64 (0:Int), (.slice none 0 0), (.slice none 0 0), (.slice none 0 0), (.slice none 0 0)], cells b638 [.int .u64 t615.1, .int .u64 t620.1, .int .u64 t625.1, v758, v872, (.slice none 0 0), (.slice none 0 0)], ownS tyF64 v758 z759] R) n877 ⟨[], t765.2, (0:Int), (.slice none 0 0), _, hm, ((fr_upd (t := 0) (v := p0) rfl).trans ((fr_upd (t := 2) (v := .pointer (some ⟨b610, 0, none⟩)) rfl).trans ((fr_upd (t := 3) (v := .pointer (some ⟨b638, 0, none⟩)) rfl).trans ((fr_upd (t := 26) (v := .int .i64 t765.1) rfl).trans ((fr_upd (t := 27) (v := .int .i64 (0:Int)) rfl).trans rfl))))), hst⟩ ?_
   rintro n883 _ w878 ⟨z871, z874, z875, v872, σ876, hm, rfl, hst⟩
   obtain ⟨n880, y881, rfl, hm, hx882⟩ := loopN_some hm
   dsimp only [locks_Read_l3] at hm
   refine wp_seq (wp_region_lit ?_)
   refine wv (.bool (decide (z875 < t765.1))) rfl rfl rfl ?_
   refine wl_nil (then_n (wp_seq ?_))
   refine bsplit (decide (z875 < t765.1)) (fun hc884 => ?_) (fun hc884 => ?_)
   ·skip
    replace hm := bif_t hc884 hm
    refine wp_ift (congrArg Value.bool hc884) ?_
    refine wp_skip (then_n (wp_seq (wp_block ?_)))
    refine wp_region_St hst 13 [0, 1, 2, 3, 4, 5, 6, 7, 8, 9, 10, 11, 12] [0, 1, 0, 4, 12, 0, 60, 124, 252, 508, 1023, 2047, 4095] [] rfl (by kernel_rfl) (by kernel_rfl) Try.mixed (by kernel_rfl) ?_
    refine wsr (.pointer (some ⟨b638, 4, none⟩)) 0 rfl rfl rfl (by kernel_rfl) (fun w hst => x_field rfl Try.underlying34 rfl Try.sizeOf32 rfl) ?_
    refine wsr (v872) 1 rfl rfl rfl (by kernel_rfl) (fun w hst => x_load rfl Try.isAgg32 (hst.bc3 rfl)) ?_
    refine wsr (p0) 2 rfl rfl rfl (by kernel_rfl) (fun w hst => rfl) ?_
    refine wsr (p0) 5 rfl rfl rfl (by kernel_rfl) (fun w hst => rfl) ?_
    refine ws_e1 3 (by kernel_rfl) ?_
    refine nxe [4, 6, 7, 8, 9, 10, 11, 12] (by kernel_rfl) rfl rfl ?_
    clear hst
    intro w hst
    replace hst := hst.pull1
    obtain ⟨t885, ht886, hm⟩ := bind_some hm
    refine we_call rfl (x_call Try.call40 rfl (vs := [p0, .int .i64 (8:Int)]) rfl) ?_
    refine (octet_Reader_Num_ref hst.to1 ht886).mono ?_
    rintro _ w887 ⟨rfl, hst⟩
    refine ⟨_, rfl, ?_⟩
    replace hst := hst.of1
    refine ws_next (pend' := [(5, p0), (1, v872), (0, .pointer (some ⟨b638, 4, none⟩))]) hst (by kernel_rfl) (pkr rfl rfl (fun w hst => rfl) (pkr rfl rfl (fun w hst => x_load rfl Try.isAgg32 (hst.bc3 rfl)) (pkr rfl rfl (fun w hst => x_field rfl Try.underlying34 rfl Try.sizeOf32 rfl) pk_nil))) ?_
    refine ws_e1 4 (by kernel_rfl) ?_
    refine nxe [6, 7, 8, 9, 10, 11, 12] (by kernel_rfl) rfl rfl ?_
    clear hst
    intro w hst
    obtain ⟨t890, ht891, hm⟩ := bind_some hm
    refine we_call rfl (x_call Try.call44 rfl (vs := [.int .u64 t885.1]) rfl) ?_
    refine (number_Back_ref hst.to0 ht891).mono ?_
    rintro _ w892 ⟨rfl, hst⟩
    refine ⟨_, rfl, ?_⟩
    replace hst := hst.of0
    refine ws_next (pend' := [(5, p0), (1, v872), (0, .pointer (some ⟨b638, 4, none⟩))]) hst (by kernel_rfl) (pkr rfl rfl (fun w hst => rfl) (pkr rfl rfl (fun w hst => x_load rfl Try.isAgg32 (hst.bc3 rfl)) (pkr rfl rfl (fun w hst => x_field rfl Try.underlying34 rfl Try.sizeOf32 rfl) pk_nil))) ?_
    refine ws_e1 6 (by kernel_rfl) ?_
    refine nxe [7, 8, 9, 10, 11, 12] (by kernel_rfl) rfl rfl ?_
    clear hst
    intro w hst
    obtain ⟨t895, ht896, hm⟩ := bind_some hm
    refine we_call rfl (x_call Try.call40 rfl (vs := [p0, .int .i64 (8:Int)]) rfl) ?_
    refine (octet_Reader_Num_ref hst.to1 ht896).mono ?_
    rintro _ w897 ⟨rfl, hst⟩
    refine ⟨_, rfl, ?_⟩
    replace hst := hst.of1
    refine ws_next (pend' := [(1, v872), (0, .pointer (some ⟨b638, 4, none⟩))]) hst (by kernel_rfl) (pkr rfl rfl (fun w hst => x_load rfl Try.isAgg32 (hst.bc3 rfl)) (pkr rfl rfl (fun w hst => x_field rfl Try.underlying34 rfl Try.sizeOf32 rfl) pk_nil)) ?_
    refine ws_e1 7 (by kernel_rfl) ?_
    refine nxe [8, 9, 10, 11, 12] (by kernel_rfl) rfl rfl ?_
    clear hst
    intro w hst
    obtain ⟨t900, ht901, hm⟩ := bind_some hm
    refine we_call rfl (x_call Try.call44 rfl (vs := [.int .u64 t895.1]) rfl) ?_
    refine (number_Back_ref hst.to0 ht901).mono ?_
    rintro _ w902 ⟨rfl, hst⟩
    refine ⟨_, rfl, ?_⟩
    replace hst := hst.of0
    refine ws_next (pend' := [(1, v872), (0, .pointer (some ⟨b638, 4, none⟩))]) hst (by kernel_rfl) (pkr rfl rfl (fun w hst => x_load rfl Try.isAgg32 (hst.bc3 rfl)) (pkr rfl rfl (fun w hst => x_field rfl Try.underlying34 rfl Try.sizeOf32 rfl) pk_nil)) ?_
    refine wsr (.agg #[.float .f64 t890, .float .f64 t900]) 8 rfl rfl rfl (by kernel_rfl) (fun w hst => by kernel_rfl) ?_
    refine ws_e1 9 (by kernel_rfl) ?_
    refine nxe [10, 11, 12] (by kernel_rfl) rfl rfl ?_
    clear hst
    intro w hst
    obtain ⟨b905, w906, ew907, eb908, hst⟩ := hst.lits (E := tyF2) (xs := [(t890, t900)]) [[.float .f64 t890, .float .f64 t900]] 111 1 rfl (Reps.cons rfl Reps.nil)
    refine we_run (v := (.slice (some ⟨b905, 0, none⟩) 1 1)) (w' := w906) rfl (x_als (by kernel_rfl) ew907 eb908) ?_
    refine ws_next (pend' := [(1, v872), (0, .pointer (some ⟨b638, 4, none⟩))]) hst (by kernel_rfl) (pkr rfl rfl (fun w hst => x_load rfl Try.isAgg32 (hst.bc4 rfl)) (pkr rfl rfl (fun w hst => x_field rfl Try.underlying34 rfl Try.sizeOf32 rfl) pk_nil)) ?_
    refine ws_e1 10 (by kernel_rfl) ?_
    refine nxe [11, 12] (by kernel_rfl) rfl rfl ?_
    clear hst
    intro w hst
    obtain ⟨hg910, hm⟩ := gd_some hm
    replace hst := hst.pull2
    obtain ⟨v911, w912, hr913, hst⟩ := run_append elem_32 Try.underlying32 hst hst.src1 (room_of hg910 rfl) 32
    refine we_run (v := v911) (w' := w912) rfl (x_append rfl rfl hr913) ?_
    refine ws_next (pend' := []) hst (by kernel_rfl) pk_nil ?_
    refine wsr (.pointer (some ⟨b638, 4, none⟩)) 11 rfl rfl rfl (by kernel_rfl) (fun w hst => x_field rfl Try.underlying34 rfl Try.sizeOf32 rfl) ?_
    refine ws_e1 12 (by kernel_rfl) ?_
    refine nxe [] (by kernel_rfl) rfl rfl ?_
    clear hst
    intro w hst
    replace hst := hst.pull4
    obtain ⟨w914, hr915, hst⟩ := hst.boxStore1 (P := Try.prog) (t := 32) (cs' := [.int .u64 t615.1, .int .u64 t620.1, .int .u64 t625.1, v758, v911, (.slice none 0 0), (.slice none 0 0)]) 4 v911 (one_of_sliceV hst.sv1) Try.sizeOf32 rfl rfl
    refine we_unit rfl (x_unit hr915) ?_
    refine ws_next (pend' := []) hst (by kernel_rfl) pk_nil ?_
    refine ws_nil ?_
    intro w hst
    refine blk_n (then_n (wp_region_lit ?_))
    refine wv (.int .i64 (IntKind.i64.wrap (z875 + (1:Int)))) rfl rfl rfl ?_
    refine wv (.int .i64 (IntKind.i64.wrap (z875 + (1:Int)))) rfl rfl rfl ?_
    refine wl_nil (then_n ?_)
    replace hst := hst.pull5
    replace hst := hst.pull1
    replace hst := hst.pull5
    replace hst := hst.pull5
    replace hst := hst.pull4
    replace hst := hst.keep5
    obtain rfl := some_inj hm
    exact ⟨_, Nat.lt_succ_self _, (z871 ++ ([(t890, t900)])), t895.2, (IntKind.i64.wrap (z875 + (1:Int))), v911, _, hx882, ((fr_upd (t := 0) (v := p0) rfl).trans ((fr_upd (t := 2) (v := .pointer (some ⟨b610, 0, none⟩)) rfl).trans ((fr_upd (t := 3) (v := .pointer (some ⟨b638, 0, none⟩)) rfl).trans ((fr_upd (t := 26) (v := .int .i64 t765.1) rfl).trans ((fr_upd (t := 27) (v := .int .i64 (IntKind.i64.wrap (z875 + (1:Int)))) rfl).trans rfl))))), hst⟩
   ·skip
    replace hm := bif_f hc884 hm
    refine wp_iff (congrArg Value.bool hc884) ?_
    refine wp_exit (then_x (then_x ?_))
    replace hm := inr_up hm hx882
    refine blk_x (then_n ?_)
    replace hst := hst.pull4
    replace hst := hst.pull4
    replace hst := hst.pull4
    replace hst := hst.pull4
    replace hst := hst.keep5
    obtain rfl := some_inj hm
    exact ⟨z874, z871, v872, _, hx923, ((fr_upd (t := 0) (v := p0) rfl).trans ((fr_upd (t := 2) (v := .pointer (some ⟨b610, 0, none⟩)) rfl).trans ((fr_upd (t := 3) (v := .pointer (some ⟨b638, 0, none⟩)) rfl).trans rfl))), hst⟩
  ·skip
   clear hst
   rintro _ w924 ⟨z916, z919, v918, σ920, hm, rfl, hst⟩
   dsimp only [locks_Read_j2] at hm
   obtain ⟨y1042, hm, hx1043⟩ := bind_some hm
   refine wp_cut (fun a w => ∃ (z1036 : octet_Reader) (z1039 : (List Nat)) (v1038 : Value) (σ1040 : Nat → Value), (locks_Read_j4 t615 t620 t625 z759 z919) (z1036, z1039) = some r ∧ a = Fr 59 (upd (upd (upd σ1040 0 (p0)) 2 (.pointer (some ⟨b610, 0, none⟩))) 3 (.pointer (some ⟨b638, 0, none⟩))) ∧ St w0 w I [at_octet_Reader p0 z1036, cells b610 [.int .u64 (0:Int), .int .u64 (0:Int), .int .u64 (0:Int), (.slice none 0 0), (.slice none 0 0), (.slice none 0 0), (.slice none 0 0)], cells b638 [.int .u64 t615.1, .int .u64 t620.1, .int .u64 t625.1, v758, v918, v1038, (.slice none 0 0)], ownS tyF64 v758 z759, ownS tyF2 v918 z919, ownS tyF64 v1038 z1039] R) ?_ ?_
   ·skip
    refine wp_seq (wp_region_lit ?_)
    refine wv (p0) rfl rfl rfl ?_
    obtain ⟨t925, ht926, hm⟩ := bind_some hm
    refine wl_call rfl rfl (x_call Try.call41 rfl (vs := [p0, .int .i64 (32:Int)]) rfl) ?_
    refine (octet_Reader_Count_ref hst.to1 ht926).mono ?_
    rintro _ w927 ⟨rfl, hst⟩
    refine ⟨_, rfl, ?_⟩
    replace hst := hst.of1
    refine wv (.int .i64 (0:Int)) rfl rfl rfl ?_
    refine wl_nil (then_n (wp_block ?_))
    replace hst := hst.own_nil tyF64
    obtain ⟨n1007, hm⟩ := loopO_some hm
    refine wp_loop_n (fun n a w => ∃ (z1001 : (List Nat)) (z1004 : octet_Reader) (z1005 : Int) (v1002 : Value) (σ1006 : Nat → Value), loopN (locks_Read_l5 t925) n (z1001, z1004, z1005) = some y1042 ∧ a = Fr 59 (upd (upd (upd (upd (upd σ1006 0 (p0)) 2 (.pointer (some ⟨b610, 0, none⟩))) 3 (.pointer (some ⟨b638, 0, none⟩))) 43 (.int .i64 t925.1)) 44 (.int .i64 z1005)) ∧ St w0 w I [ownS tyF64 v1002 z1001, at_octet_Reader p0 z1004, cells b610 [.int .u64 (0:Int), .int .u64 (0:Int), .int .u64 (0:Int), (.slice none 0 0), (.slice none 0 0), (.slice none 0 0), (.slice none 0 0)], cells b638 [.int .u64 t615.1, .int .u64 t620.1, .int .u64 t625.1, v758, v918, v1002, (.slice none 0 0)], ownS tyF64 v758 z759, ownS tyF2 v918 z919] R) n1007 ⟨[], t925.2, (0:Int), (.slice none 0 0), _, hm, ((fr_upd (t := 0) (v := p0) rfl).trans ((fr_upd (t := 2) (v := .pointer (some ⟨b610, 0, none⟩)) rfl).trans ((fr_upd (t := 3) (v := .pointer (some ⟨b638, 0, none⟩)) rfl).trans ((fr_upd (t := 43) (v := .int .i64 t925.1) rfl).trans ((fr_upd (t := 44) (v := .int .i64 (0:Int)) rfl).trans rfl))))), hst⟩ ?_
    rintro n1013 _ w1008 ⟨z1001, z1004, z1005, v1002, σ1006, hm, rfl, hst⟩
    obtain ⟨n1010, y1011, rfl, hm, hx1012⟩ := loopN_some hm
    dsimp only [locks_Read_l5] at hm
    refine wp_seq (wp_region_lit ?_)
    refine wv (.bool (decide (z1005 < t925.1))) rfl rfl rfl ?_
    refine wl_nil (then_n (wp_seq ?_))
    refine bsplit (decide (z1005 < t925.1)) (fun hc1014 => ?_) (fun hc1014 => ?_)
    ·skip
     replace hm := bif_t hc1014 hm
     refine wp_ift (congrArg Value.bool hc1014) ?_
     refine wp_skip (then_n (wp_seq (wp_block ?_)))
     refine wp_region_St hst 9 [0, 1, 2, 3, 4, 5, 6, 7, 8] [0, 1, 0, 4, 12, 28, 63, 127, 255] [] rfl (by kernel_rfl) (by kernel_rfl) Try.mixed (by kernel_rfl) ?_
     refine wsr (.pointer (some ⟨b638, 5, none⟩)) 0 rfl rfl rfl (by kernel_rfl) (fun w hst => x_field rfl Try.underlying34 rfl Try.sizeOf31 rfl) ?_
     refine wsr (v1002) 1 rfl rfl rfl (by kernel_rfl) (fun w hst => x_load rfl Try.isAgg31 (hst.bc3 rfl)) ?_
     refine wsr (p0) 2 rfl rfl rfl (by kernel_rfl) (fun w hst => rfl) ?_
     refine ws_e1 3 (by kernel_rfl) ?_
     refine nxe [4, 5, 6, 7, 8] (by kernel_rfl) rfl rfl ?_
     clear hst
     intro w hst
     replace hst := hst.pull1
     obtain ⟨t1015, ht1016, hm⟩ := bind_some hm
     refine we_call rfl (x_call Try.call40 rfl (vs := [p0, .int .i64 (8:Int)]) rfl) ?_
     refine (octet_Reader_Num_ref hst.to1 ht1016).mono ?_
     rintro _ w1017 ⟨rfl, hst⟩
     refine ⟨_, rfl, ?_⟩
     replace hst := hst.of1
     refine ws_next (pend' := [(1, v1002), (0, .pointer (some ⟨b638, 5, none⟩))]) hst (by kernel_rfl) (pkr rfl rfl (fun w hst => x_load rfl Try.isAgg31 (hst.bc3 rfl)) (pkr rfl rfl (fun w hst => x_field rfl Try.underlying34 rfl Try.sizeOf31 rfl) pk_nil)) ?_
     refine ws_e1 4 (by kernel_rfl) ?_
     refine nxe [5, 6, 7, 8] (by kernel_rfl) rfl rfl ?_
     clear hst
     intro w hst
     obtain ⟨t1020, ht1021, hm⟩ := bind_some hm
     refine we_call rfl (x_call Try.call44 rfl (vs := [.int .u64 t1015.1]) rfl) ?_
     refine (number_Back_ref hst.to0 ht1021).mono ?_
     rintro _ w1022 ⟨rfl, hst⟩
     refine ⟨_, rfl, ?_⟩
     replace hst := hst.of0
     refine ws_next (pend' := [(1, v1002), (0, .pointer (some ⟨b638, 5, none⟩))]) hst (by kernel_rfl) (pkr rfl rfl (fun w hst => x_load rfl Try.isAgg31 (hst.bc3 rfl)) (pkr rfl rfl (fun w hst => x_field rfl Try.underlying34 rfl Try.sizeOf31 rfl) pk_nil)) ?_
     refine ws_e1 5 (by kernel_rfl) ?_
     refine nxe [6, 7, 8] (by kernel_rfl) rfl rfl ?_
     clear hst
     intro w hst
     obtain ⟨b1025, w1026, ew1027, eb1028, hst⟩ := hst.lits (E := tyF64) (xs := [t1020]) [[.float .f64 t1020]] 41 1 rfl (Reps.cons rfl Reps.nil)
     refine we_run (v := (.slice (some ⟨b1025, 0, none⟩) 1 1)) (w' := w1026) rfl (x_als (by kernel_rfl) ew1027 eb1028) ?_
     refine ws_next (pend' := [(1, v1002), (0, .pointer (some ⟨b638, 5, none⟩))]) hst (by kernel_rfl) (pkr rfl rfl (fun w hst => x_load rfl Try.isAgg31 (hst.bc4 rfl)) (pkr rfl rfl (fun w hst => x_field rfl Try.underlying34 rfl Try.sizeOf31 rfl) pk_nil)) ?_
     refine ws_e1 6 (by kernel_rfl) ?_
     refine nxe [7, 8] (by kernel_rfl) rfl rfl ?_
     clear hst
     intro w hst
     obtain ⟨hg1030, hm⟩ := gd_some hm
     replace hst := hst.pull2
     obtain ⟨v1031, w1032, hr1033, hst⟩ := run_append elem_31 Try.underlying31 hst hst.src1 (room_of hg1030 rfl) 31
     refine we_run (v := v1031) (w' := w1032) rfl (x_append rfl rfl hr1033) ?_
     refine ws_next (pend' := []) hst (by kernel_rfl) pk_nil ?_
     refine wsr (.pointer (some ⟨b638, 5, none⟩)) 7 rfl rfl rfl (by kernel_rfl) (fun w hst => x_field rfl Try.underlying34 rfl Try.sizeOf31 rfl) ?_
     refine ws_e1 8 (by kernel_rfl) ?_
     refine nxe [] (by kernel_rfl) rfl rfl ?_
     clear hst
     intro w hst
     replace hst := hst.pull4
     obtain ⟨w1034, hr1035, hst⟩ := hst.boxStore1 (P := Try.prog) (t := 31) (cs' := [.int .u64 t615.1, .int .u64 t620.1, .int .u64 t625.1, v758, v918, v1031, (.slice none 0 0)]) 5 v1031 (one_of_sliceV hst.sv1) Try.sizeOf31 rfl rfl
     refine we_unit rfl (x_unit hr1035) ?_
     refine ws_next (pend' := []) hst (by kernel_rfl) pk_nil ?_
     refine ws_nil ?_
     intro w hst
     refine blk_n (then_n (wp_region_lit ?_))
     refine wv (.int .i64 (IntKind.i64.wrap (z1005 + (1:Int)))) rfl rfl rfl ?_
     refine wv (.int .i64 (IntKind.i64.wrap (z1005 + (1:Int)))) rfl rfl rfl ?_
     refine wl_nil (then_n ?_)
     replace hst := hst.pull6
     replace hst := hst.pull6
     replace hst := hst.pull2
     replace hst := hst.pull6
     replace hst := hst.pull6
     replace hst := hst.pull5
     replace hst := hst.keep6
     obtain rfl := some_inj hm
     exact ⟨_, Nat.lt_succ_self _, (z1001 ++ ([t1020])), t1015.2, (IntKind.i64.wrap (z1005 + (1:Int))), v1031, _, hx1012, ((fr_upd (t := 0) (v := p0) rfl).trans ((fr_upd (t := 2) (v := .pointer (some ⟨b610, 0, none⟩)) rfl).trans ((fr_upd (t := 3) (v := .pointer (some ⟨b638, 0, none⟩)) rfl).trans ((fr_upd (t := 43) (v := .int .i64 t925.1) rfl).trans ((fr_upd (t := 44) (v := .int .i64 (IntKind.i64.wrap (z1005 + (1:Int)))) rfl).trans rfl))))), hst⟩
    ·skip
     replace hm := bif_f hc1014 hm
     refine wp_iff (congrArg Value.bool hc1014) ?_
     refine wp_exit (then_x (then_x ?_))
     replace hm := inr_up hm hx1012
     refine blk_x (then_n ?_)
     replace hst := hst.pull5
     replace hst := hst.pull5
     replace hst := hst.pull5
     replace hst := hst.pull5
     replace hst := hst.pull5
     replace hst := hst.keep6
     obtain rfl := some_inj hm
     exact ⟨z1004, z1001, v1002, _, hx1043, ((fr_upd (t := 0) (v := p0) rfl).trans ((fr_upd (t := 2) (v := .pointer (some ⟨b610, 0, none⟩)) rfl).trans ((fr_upd (t := 3) (v := .pointer (some ⟨b638, 0, none⟩)) rfl).trans rfl))), hst⟩
   ·skip
    clear hst
    rintro _ w1044 ⟨z1036, z1039, v1038, σ1040, hm, rfl, hst⟩
    dsimp only [locks_Read_j4] at hm
    refine wp_seq (wp_region_lit ?_)
    refine wv (p0) rfl rfl rfl ?_
    obtain ⟨t1045, ht1046, hm⟩ := bind_some hm
    refine wl_call rfl rfl (x_call Try.call43 rfl (vs := [p0, .int .i64 (257:Int)]) rfl) ?_
    refine (octet_Reader_Bytes_ref hst.to1 ht1046).mono ?_
    rintro _ w1047 ⟨v1050, rfl, hst⟩
    refine ⟨_, rfl, ?_⟩
    replace hst := hst.of2
    refine wv (.pointer (some ⟨b638, 6, none⟩)) rfl rfl (x_field rfl Try.underlying34 rfl Try.sizeOf22 rfl) ?_
    replace hst := hst.pull3
    obtain ⟨w1052, hr1053, hst⟩ := hst.boxStore1 (P := Try.prog) (t := 22) (cs' := [.int .u64 t615.1, .int .u64 t620.1, .int .u64 t625.1, v758, v918, v1038, v1050]) 6 v1050 (one_of_sliceV hst.sv1) Try.sizeOf22 rfl rfl
    refine wl_unit rfl rfl (x_unit hr1053) ?_
    refine wl_nil (then_n (wp_seq (wp_region_lit ?_)))
    refine wv (.agg #[.int .u64 t615.1, .int .u64 t620.1, .int .u64 t625.1, v758, v918, v1038, v1050]) rfl rfl (x_loadN (cs := [.int .u64 t615.1, .int .u64 t620.1, .int .u64 t625.1, v758, v918, v1038, v1050]) rfl Try.isAgg34 Try.sizeOf34 (hst.bcs0 0 rfl)) ?_
    replace hst := hst.pull3
    obtain ⟨w1054, hr1055, hst⟩ := hst.boxStore (P := Try.prog) (t := 34) (cs' := [.int .u64 t615.1, .int .u64 t620.1, .int .u64 t625.1, v758, v918, v1038, v1050]) 0 (.agg #[.int .u64 t615.1, .int .u64 t620.1, .int .u64 t625.1, v758, v918, v1038, v1050]) Try.sizeOf34 (Nat.le_of_ble_eq_true rfl) (ones_cons rfl (ones_cons rfl (ones_cons rfl (ones_cons (one_of_sliceV hst.sv4) (ones_cons (one_of_sliceV hst.sv5) (ones_cons (one_of_sliceV hst.sv6) (ones_cons (one_of_sliceV hst.sv2) ones_nil))))))) (by kernel_rfl)
    refine wl_unit rfl rfl (x_unit hr1055) ?_
    refine wl_nil (then_n (wp_ret ?_))
    obtain rfl := some_inj hm
    refine post_ret (vs := [.agg #[.int .u64 t615.1, .int .u64 t620.1, .int .u64 t625.1, v758, v918, v1038, v1050]]) Try.results53 (rvs_cons (rv_cell (cs := [.int .u64 t615.1, .int .u64 t620.1, .int .u64 t625.1, v758, v918, v1038, v1050]) rfl Try.isAgg34 Try.sizeOf34 (hst.bcs0 0 rfl)) rvs_nil) ?_
    replace hst := hst.pull3
    replace hst := hst.pull3
    replace hst := hst.pull6
    replace hst := hst.pull6
    replace hst := hst.pull6
    exact ⟨v758, v918, v1038, v1050, rfl, hst.keep5⟩

theorem octet_Reader_Flag_ref {w0 w : World} {I : HL} {R : SP} {a0 : octet_Reader} {p0 : Value}  (hst : St w0 w I [at_octet_Reader p0 a0] R) {r : (Bool × octet_Reader)} (hm : octet_Reader_Flag a0 = some r) :
  Calls Try.prog 42 #[p0] w fun e w' => e = .returned (.bool r.1) ∧ St w0 w' I [at_octet_Reader p0 r.2] R := by
 unfold octet_Reader_Flag at hm
 refine calls_start (args := [p0]) Try.func42 rfl Try.ntmps42 (Nat.le_of_ble_eq_true rfl) ?_
 refine wp_seq (wp_region_lit ?_)
 refine wv (.bool false) rfl rfl rfl ?_
 refine wl_nil (then_n (wp_seq (wp_region_lit ?_)))
 refine wv (p0) rfl rfl rfl ?_
 obtain ⟨t242, ht243, hm⟩ := bind_some hm
 refine wl_call rfl rfl (x_call Try.call40 rfl (vs := [p0, .int .i64 (1:Int)]) rfl) ?_
 refine (octet_Reader_Num_ref hst.to1 ht243).mono ?_
 rintro _ w244 ⟨rfl, hst⟩
 refine ⟨_, rfl, ?_⟩
 replace hst := hst.of1
 refine wv (.int .u64 t242.1) rfl rfl rfl ?_
 refine wl_nil (then_n (wp_seq (wp_seq (wp_region_lit ?_))))
 refine wv (.int .u64 t242.1) rfl rfl rfl ?_
 refine wv (.bool (decide (t242.1 > (1:Int)))) rfl rfl rfl ?_
 refine wl_nil (then_n ?_)
 refine bsplit (decide (t242.1 > (1:Int))) (fun hc247 => ?_) (fun hc247 => ?_)
 ·skip
  replace hm := bif_t hc247 hm
  refine wp_ift (congrArg Value.bool hc247) ?_
  refine wp_seq (wp_region_lit ?_)
  refine wv (p0) rfl rfl rfl ?_
  obtain ⟨t248, ht249, hm⟩ := bind_some hm
  refine wl_call rfl rfl (x_call Try.call66 rfl (vs := [p0]) rfl) ?_
  refine (octet_Reader_spoil_ref hst.to1 ht249).mono ?_
  rintro _ w250 ⟨rfl, hst⟩
  refine ⟨_, rfl, ?_⟩
  replace hst := hst.of1
  refine wl_nil (then_n (wp_seq (wp_region_lit ?_)))
  refine wv (.bool false) rfl rfl rfl ?_
  refine wl_nil (then_n (wp_ret (then_r ?_)))
  obtain rfl := some_inj hm
  refine post_ret (vs := [.bool false]) Try.results42 (rvs_cons (rv_tmp rfl) rvs_nil) ?_
  exact ⟨rfl, hst.keep1⟩
 ·skip
  replace hm := bif_f hc247 hm
  refine wp_iff (congrArg Value.bool hc247) ?_
  refine wp_skip (then_n (wp_seq (wp_region_lit ?_)))
  refine wv (.int .u64 t242.1) rfl rfl rfl ?_
  refine wv (.bool (t242.1 == (1:Int))) rfl rfl rfl ?_
  refine wv (.bool (t242.1 == (1:Int))) rfl rfl rfl ?_
  refine wl_nil (then_n (wp_ret ?_))
  obtain rfl := some_inj hm
  refine post_ret (vs := [.bool (t242.1 == (1:Int))]) Try.results42 (rvs_cons (rv_tmp rfl) rvs_nil) ?_
  exact ⟨rfl, hst.keep1⟩

end Go.Proofs.Ytijcfglomdfglaa
