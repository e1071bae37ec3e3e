/- The Go functions refine their models, part 1. -/
import Derived.Test.YtijcfglomdfglaaCommandJunkR0
set_option linter.unusedVariables false
set_option linter.unusedSimpArgs false
set_option maxRecDepth 100000
set_option maxHeartbeats 4000000
namespace Go.Proofs.Ytijcfglomdfglaa
open Go Go.V
attribute [local irreducible] wpList Code.wp wpQuiet Calls bodyPost Oper.wp wpS Nx PendOK YieldsIn
theorem command_readWrites_ref {w0 w : World} {I : HL} {R : SP} {a0 : octet_Reader} {p0 : Value}  (hst : St w0 w I [at_octet_Reader p0 a0] R) {r : ((List api_Write) × octet_Reader)} (hm : command_readWrites a0 = some r) :
    Calls Try.prog 54 #[p0] w fun e w' => ∃ (I' : HL) (q0_0 : Value), e = .returned (q0_0) ∧ I.le I' ∧ St w0 w' I' [ownS ty_api_Write q0_0 r.1, at_octet_Reader p0 r.2] R := by
  unfold command_readWrites at hm
  refine calls_start (args := [p0]) Try.func54 rfl Try.ntmps54 (Nat.le_of_ble_eq_true rfl) ?_
  have hI0 := HL.le.refl I
  refine wp_seq ?_
  refine wp_region_lit ?_
  refine wl_val (v := (.slice none 0 0)) rfl rfl rfl ?_
  refine wl_nil ?_
  refine then_n ?_
  refine wp_seq ?_
  refine wp_region_lit ?_
  refine wl_val (v := (.slice none 0 0)) rfl rfl rfl ?_
  refine wl_nil ?_
  refine then_n ?_
  refine wp_seq ?_
  refine wp_seq ?_
  refine wp_region_lit ?_
  refine wl_val (v := p0) rfl rfl rfl ?_
  obtain ⟨t329, ht330, hm⟩ := bind_some hm
  refine wl_call rfl rfl (x_call Try.call41 rfl (vs := [p0, .int .i64 (32:Int)]) rfl) ?_
  refine (octet_Reader_Count_ref hst.to1 ht330).mono ?_
  rintro _ w331 ⟨rfl, hst⟩
  refine ⟨_, rfl, ?_⟩
  replace hst := hst.of1
  refine wl_val (v := .int .i64 (0:Int)) rfl rfl rfl ?_
  refine wl_nil ?_
  refine then_n ?_
  refine wp_block ?_
  replace hst := hst.own_nil ty_api_Write
  obtain ⟨n457, hm⟩ := loopO_some hm
  refine wp_loop_n (fun n a w => ∃ (I455 : HL) (z450 : octet_Reader) (z451 : (List api_Write)) (z454 : Int) (v452 : Value) (σ456 : Nat → Value), loopN (command_readWrites_l0 t329) n (z450, z451, z454) = some r ∧ a = Fr 21 (upd (upd (upd (upd σ456 0 (p0)) 3 (v452)) 5 (.int .i64 t329.1)) 6 (.int .i64 z454)) ∧ I.le I455 ∧ St w0 w I455 [ownS ty_api_Write v452 z451, at_octet_Reader p0 z450] R) n457 ⟨_, t329.2, [], (0:Int), (.slice none 0 0), _, hm, ((fr_upd (t := 0) (v := p0) rfl).trans ((fr_upd (t := 3) (v := (.slice none 0 0)) rfl).trans ((fr_upd (t := 5) (v := .int .i64 t329.1) rfl).trans ((fr_upd (t := 6) (v := .int .i64 (0:Int)) rfl).trans rfl)))), (HL.le.refl _), hst⟩ ?_
  rintro n463 _ w458 ⟨I455, z450, z451, z454, v452, σ456, hm, rfl, hL459, hst⟩
  obtain ⟨n460, y461, rfl, hm, hx462⟩ := loopN_some hm
  dsimp only [command_readWrites_l0] at hm
  replace hI0 := hI0.trans hL459
  refine wp_seq ?_
  refine wp_region_lit ?_
  refine wl_val (v := .bool (decide (z454 < t329.1))) rfl rfl rfl ?_
  refine wl_nil ?_
  refine then_n ?_
  refine wp_seq ?_
  refine bsplit (decide (z454 < t329.1)) (fun hc464 => ?_) (fun hc464 => ?_)
  · skip
    replace hm := bif_t hc464 hm
    refine wp_ift (congrArg Value.bool hc464) ?_
    refine wp_skip ?_
    refine then_n ?_
    refine wp_seq ?_
    refine wp_block ?_
    refine wp_region_lit ?_
    refine wl_val (v := v452) rfl rfl rfl ?_
    refine wl_val (v := p0) rfl rfl rfl ?_
    replace hst := hst.pull1
    obtain ⟨t465, ht466, hm⟩ := bind_some hm
    refine wl_call rfl rfl (x_call Try.call40 rfl (vs := [p0, .int .i64 (8:Int)]) rfl) ?_
    refine (octet_Reader_Num_ref hst.to1 ht466).mono ?_
    rintro _ w467 ⟨rfl, hst⟩
    refine ⟨_, rfl, ?_⟩
    replace hst := hst.of1
    obtain ⟨t470, ht471, hm⟩ := bind_some hm
    refine wl_call rfl rfl (x_call Try.call44 rfl (vs := [.int .u64 t465.1]) rfl) ?_
    refine (number_Back_ref hst.to0 ht471).mono ?_
    rintro _ w472 ⟨rfl, hst⟩
    refine ⟨_, rfl, ?_⟩
    replace hst := hst.of0
    refine wl_val (v := p0) rfl rfl rfl ?_
    obtain ⟨t475, ht476, hm⟩ := bind_some hm
    refine wl_call rfl rfl (x_call Try.call42 rfl (vs := [p0]) rfl) ?_
    refine (octet_Reader_Flag_ref hst.to1 ht476).mono ?_
    rintro _ w477 ⟨rfl, hst⟩
    refine ⟨_, rfl, ?_⟩
    replace hst := hst.of1
    refine wl_val (v := p0) rfl rfl rfl ?_
    obtain ⟨t480, ht481, hm⟩ := bind_some hm
    refine wl_call rfl rfl (x_call Try.call43 rfl (vs := [p0, .int .i64 (256:Int)]) rfl) ?_
    refine (octet_Reader_Bytes_ref hst.to1 ht481).mono ?_
    rintro _ w482 ⟨v485, rfl, hst⟩
    refine ⟨_, rfl, ?_⟩
    replace hst := hst.of2
    refine wl_val (v := .agg #[.float .f64 t470, .bool t475.1, v485]) rfl rfl (by obtain ⟨_, _, hv_, _⟩ := hst.sv0; rw [hv_]; kernel_rfl) ?_
    obtain ⟨I489, hI490, f491, hst⟩ := hst.own_fix
    replace hI0 := hI0.trans hI490
    replace hL459 := hL459.trans hI490
    obtain ⟨b492, w493, ew494, eb495, hst⟩ := hst.lits (E := ty_api_Write) (xs := [({ At := t470, Del := t475.1, Val := t480.1 } : api_Write)]) [[.float .f64 t470, .bool t475.1, v485]] 73 1 rfl (Reps.cons ⟨_, rfl, f491, one_of_sliceV (ro_sliceV f491)⟩ Reps.nil)
    refine wl_run (v := (.slice (some ⟨b492, 0, none⟩) 1 1)) (w' := w493) rfl rfl (x_als (by kernel_rfl) ew494 eb495) ?_
    obtain ⟨hg497, hm⟩ := gd_some hm
    replace hst := hst.pull2
    obtain ⟨v498, w499, hr500, hst⟩ := run_append elem_35 Try.underlying35 hst hst.src1 (room_of hg497 rfl) 35
    refine wl_run (v := v498) (w' := w499) rfl rfl (x_append rfl rfl hr500) ?_
    refine wl_val (v := v498) rfl rfl rfl ?_
    refine wl_nil ?_
    refine blk_n ?_
    refine then_n ?_
    refine wp_region_lit ?_
    refine wl_val (v := .int .i64 (IntKind.i64.wrap (z454 + (1:Int)))) rfl rfl rfl ?_
    refine wl_val (v := .int .i64 (IntKind.i64.wrap (z454 + (1:Int)))) rfl rfl rfl ?_
    refine wl_nil ?_
    refine then_n ?_
    replace hst := hst.pull2
    replace hst := hst.pull1
    replace hst := hst.keep2
    obtain rfl := some_inj hm
    exact ⟨_, Nat.lt_succ_self _, _, t480.2, (z451 ++ ([({ At := t470, Del := t475.1, Val := t480.1 } : api_Write)])), (IntKind.i64.wrap (z454 + (1:Int))), v498, _, hx462, ((fr_upd (t := 0) (v := p0) rfl).trans ((fr_upd (t := 3) (v := v498) rfl).trans ((fr_upd (t := 5) (v := .int .i64 t329.1) rfl).trans ((fr_upd (t := 6) (v := .int .i64 (IntKind.i64.wrap (z454 + (1:Int)))) rfl).trans rfl)))), hL459, hst⟩
  · skip
    replace hm := bif_f hc464 hm
    refine wp_iff (congrArg Value.bool hc464) ?_
    refine wp_exit ?_
    refine then_x ?_
    refine then_x ?_
    replace hm := inr_up hm hx462
    refine blk_x ?_
    refine then_n ?_
    refine wp_seq ?_
    refine wp_region_lit ?_
    refine wl_val (v := v452) rfl rfl rfl ?_
    refine wl_val (v := v452) rfl rfl rfl ?_
    refine wl_nil ?_
    refine then_n ?_
    refine wp_ret ?_
    obtain rfl := some_inj hm
    refine post_ret (vs := [v452]) Try.results54 (rvs_cons (rv_tmp rfl) rvs_nil) ?_
    replace hst := hst.pull1
    replace hst := hst.pull1
    exact ⟨_, v452, rfl, hI0, hst.keep2⟩

theorem command_ReadReply_ref {w0 w : World} {I : HL} {R : SP} {a0 : octet_Reader} {p0 : Value}  (hst : St w0 w I [at_octet_Reader p0 a0] R) {r : (api_Reply × octet_Reader)} (hm : command_ReadReply a0 = some r) :
    Calls Try.prog 16 #[p0] w fun e w' => ∃ (I' : HL) (q0_0 : Value) (q0_1 : Value), e = .returned (.agg #[.int .i64 r.1.E, .int .u64 r.1.Epoch, .int .u64 r.1.Index, q0_0, q0_1]) ∧ I.le I' ∧ St w0 w' I' [ownS ty_api_Got q0_0 r.1.Gots, ownS (tySl ty_api_Pair) q0_1 r.1.Scans, at_octet_Reader p0 r.2] R := by
  unfold command_ReadReply at hm
  refine calls_start (args := [p0]) Try.func16 rfl Try.ntmps16 (Nat.le_of_ble_eq_true rfl) ?_
  have hI0 := HL.le.refl I
  refine wp_seq ?_
  refine wp_region_lit ?_
  obtain ⟨b1279, w1280, ew1281, eb1282, hst⟩ := hst.box [.int .i64 (0:Int), .int .u64 (0:Int), .int .u64 (0:Int), (.slice none 0 0), (.slice none 0 0)] 39
  refine wl_run (v := .pointer (some ⟨b1279, 0, none⟩)) (w' := w1280) rfl rfl (x_al (by kernel_rfl) ew1281 eb1282) ?_
  refine wl_nil ?_
  refine then_n ?_
  refine wp_seq ?_
  refine wp_region_lit ?_
  refine wl_val (v := p0) rfl rfl rfl ?_
  replace hst := hst.pull1
  obtain ⟨t1284, ht1285, hm⟩ := bind_some hm
  refine wl_call rfl rfl (x_call Try.call40 rfl (vs := [p0, .int .i64 (1:Int)]) rfl) ?_
  refine (octet_Reader_Num_ref hst.to1 ht1285).mono ?_
  rintro _ w1286 ⟨rfl, hst⟩
  refine ⟨_, rfl, ?_⟩
  replace hst := hst.of1
  refine wl_val (v := .int .i64 (IntKind.i64.wrap t1284.1)) rfl rfl (by kernel_rfl) ?_
  refine wl_val (v := p0) rfl rfl rfl ?_
  obtain ⟨t1289, ht1290, hm⟩ := bind_some hm
  refine wl_call rfl rfl (x_call Try.call40 rfl (vs := [p0, .int .i64 (8:Int)]) rfl) ?_
  refine (octet_Reader_Num_ref hst.to1 ht1290).mono ?_
  rintro _ w1291 ⟨rfl, hst⟩
  refine ⟨_, rfl, ?_⟩
  replace hst := hst.of1
  refine wl_val (v := p0) rfl rfl rfl ?_
  obtain ⟨t1294, ht1295, hm⟩ := bind_some hm
  refine wl_call rfl rfl (x_call Try.call40 rfl (vs := [p0, .int .i64 (8:Int)]) rfl) ?_
  refine (octet_Reader_Num_ref hst.to1 ht1295).mono ?_
  rintro _ w1296 ⟨rfl, hst⟩
  refine ⟨_, rfl, ?_⟩
  replace hst := hst.of1
  refine wl_val (v := .agg #[.int .i64 (IntKind.i64.wrap t1284.1), .int .u64 t1289.1, .int .u64 t1294.1, (.slice none 0 0), (.slice none 0 0)]) rfl rfl (by kernel_rfl) ?_
  obtain ⟨b1303, w1304, ew1305, eb1306, hst⟩ := hst.box [.int .i64 (0:Int), .int .u64 (0:Int), .int .u64 (0:Int), (.slice none 0 0), (.slice none 0 0)] 39
  refine wl_run (v := .pointer (some ⟨b1303, 0, none⟩)) (w' := w1304) rfl rfl (x_al (by kernel_rfl) ew1305 eb1306) ?_
  obtain ⟨w1308, hr1309, hst⟩ := hst.boxStore (P := Try.prog) (t := 39) (cs' := [.int .i64 (IntKind.i64.wrap t1284.1), .int .u64 t1289.1, .int .u64 t1294.1, (.slice none 0 0), (.slice none 0 0)]) 0 (.agg #[.int .i64 (IntKind.i64.wrap t1284.1), .int .u64 t1289.1, .int .u64 t1294.1, (.slice none 0 0), (.slice none 0 0)]) Try.sizeOf39 (Nat.le_of_ble_eq_true rfl) (ones_cons rfl (ones_cons rfl (ones_cons rfl (ones_cons rfl (ones_cons rfl ones_nil))))) (by kernel_rfl)
  refine wl_unit rfl rfl (x_unit hr1309) ?_
  refine wl_nil ?_
  refine then_n ?_
  obtain ⟨y1457, hm, hx1458⟩ := bind_some hm
  refine wp_cut (fun a w => ∃ (I1454 : HL) (z1450 : octet_Reader) (z1453 : (List api_Got)) (v1452 : Value) (σ1455 : Nat → Value), (command_ReadReply_j0 t1284 t1289 t1294) (z1450, z1453) = some r ∧ a = Fr 54 (upd (upd (upd σ1455 0 (p0)) 2 (.pointer (some ⟨b1279, 0, none⟩))) 3 (.pointer (some ⟨b1303, 0, none⟩))) ∧ I.le I1454 ∧ St w0 w I1454 [at_octet_Reader p0 z1450, cells b1279 [.int .i64 (0:Int), .int .u64 (0:Int), .int .u64 (0:Int), (.slice none 0 0), (.slice none 0 0)], cells b1303 [.int .i64 (IntKind.i64.wrap t1284.1), .int .u64 t1289.1, .int .u64 t1294.1, v1452, (.slice none 0 0)], ownS ty_api_Got v1452 z1453] R) ?_ ?_
  · skip
    have hL1459 := HL.le.refl I
    refine wp_seq ?_
    refine wp_region_lit ?_
    refine wl_val (v := p0) rfl rfl rfl ?_
    replace hst := hst.pull1
    obtain ⟨t1310, ht1311, hm⟩ := bind_some hm
    refine wl_call rfl rfl (x_call Try.call41 rfl (vs := [p0, .int .i64 (32:Int)]) rfl) ?_
    refine (octet_Reader_Count_ref hst.to1 ht1311).mono ?_
    rintro _ w1312 ⟨rfl, hst⟩
    refine ⟨_, rfl, ?_⟩
    replace hst := hst.of1
    refine wl_val (v := .int .i64 (0:Int)) rfl rfl rfl ?_
    refine wl_nil ?_
    refine then_n ?_
    refine wp_block ?_
    replace hst := hst.own_nil ty_api_Got
    obtain ⟨n1414, hm⟩ := loopO_some hm
    refine wp_loop_n (fun n a w => ∃ (I1412 : HL) (z1407 : (List api_Got)) (z1410 : octet_Reader) (z1411 : Int) (v1408 : Value) (σ1413 : Nat → Value), loopN (command_ReadReply_l1 t1310) n (z1407, z1410, z1411) = some y1457 ∧ a = Fr 54 (upd (upd (upd (upd (upd σ1413 0 (p0)) 2 (.pointer (some ⟨b1279, 0, none⟩))) 3 (.pointer (some ⟨b1303, 0, none⟩))) 14 (.int .i64 t1310.1)) 15 (.int .i64 z1411)) ∧ I.le I1412 ∧ St w0 w I1412 [ownS ty_api_Got v1408 z1407, at_octet_Reader p0 z1410, cells b1303 [.int .i64 (IntKind.i64.wrap t1284.1), .int .u64 t1289.1, .int .u64 t1294.1, v1408, (.slice none 0 0)], cells b1279 [.int .i64 (0:Int), .int .u64 (0:Int), .int .u64 (0:Int), (.slice none 0 0), (.slice none 0 0)]] R) n1414 ⟨_, [], t1310.2, (0:Int), (.slice none 0 0), _, hm, ((fr_upd (t := 0) (v := p0) rfl).trans ((fr_upd (t := 2) (v := .pointer (some ⟨b1279, 0, none⟩)) rfl).trans ((fr_upd (t := 3) (v := .pointer (some ⟨b1303, 0, none⟩)) rfl).trans ((fr_upd (t := 14) (v := .int .i64 t1310.1) rfl).trans ((fr_upd (t := 15) (v := .int .i64 (0:Int)) rfl).trans rfl))))), (HL.le.refl _), hst⟩ ?_
    rintro n1420 _ w1415 ⟨I1412, z1407, z1410, z1411, v1408, σ1413, hm, rfl, hL1416, hst⟩
    obtain ⟨n1417, y1418, rfl, hm, hx1419⟩ := loopN_some hm
    dsimp only [command_ReadReply_l1] at hm
    replace hI0 := hI0.trans hL1416
    replace hL1459 := hL1459.trans hL1416
    refine wp_seq ?_
    refine wp_region_lit ?_
    refine wl_val (v := .bool (decide (z1411 < t1310.1))) rfl rfl rfl ?_
    refine wl_nil ?_
    refine then_n ?_
    refine wp_seq ?_
    refine bsplit (decide (z1411 < t1310.1)) (fun hc1421 => ?_) (fun hc1421 => ?_)
    · skip
      replace hm := bif_t hc1421 hm
      refine wp_ift (congrArg Value.bool hc1421) ?_
      refine wp_skip ?_
      refine then_n ?_
      refine wp_seq ?_
      refine wp_block ?_
      refine wp_region_St hst 11 [0, 1, 2, 3, 4, 5, 6, 7, 8, 9, 10] [0, 1, 0, 4, 0, 28, 60, 124, 255, 511, 1023] [] rfl (by kernel_rfl) (by kernel_rfl) Try.mixed (by kernel_rfl) ?_
      refine ws_q (v := .pointer (some ⟨b1303, 3, none⟩)) 0 [1, 2, 3, 4, 5, 6, 7, 8, 9, 10] (by kernel_rfl) rfl rfl (yi_run rfl (fun w hst => x_field rfl Try.underlying39 rfl Try.sizeOf36 rfl)) ?_
      refine ws_q (v := v1408) 1 [2, 3, 4, 5, 6, 7, 8, 9, 10] (by kernel_rfl) rfl rfl (yi_run rfl (fun w hst => x_load rfl Try.isAgg36 (hst.bc2 rfl))) ?_
      refine ws_q (v := p0) 2 [3, 4, 5, 6, 7, 8, 9, 10] (by kernel_rfl) rfl rfl (yi_run rfl (fun w hst => rfl)) ?_
      refine ws_q (v := p0) 4 [3, 5, 6, 7, 8, 9, 10] (by kernel_rfl) rfl rfl (yi_run rfl (fun w hst => rfl)) ?_
      refine ws_e1 3 (by kernel_rfl) ?_
      refine nxe [5, 6, 7, 8, 9, 10] (by kernel_rfl) rfl rfl ?_
      clear hst
      intro w hst
      replace hst := hst.pull1
      obtain ⟨t1422, ht1423, hm⟩ := bind_some hm
      refine we_call rfl (x_call Try.call42 rfl (vs := [p0]) rfl) ?_
      refine (octet_Reader_Flag_ref hst.to1 ht1423).mono ?_
      rintro _ w1424 ⟨rfl, hst⟩
      refine ⟨_, rfl, ?_⟩
      replace hst := hst.of1
      refine ws_next (pend' := [(4, p0), (1, v1408), (0, .pointer (some ⟨b1303, 3, none⟩))]) hst (by kernel_rfl) (pk_cons rfl (yi_run rfl (fun w hst => rfl)) (pk_cons rfl (yi_run rfl (fun w hst => x_load rfl Try.isAgg36 (hst.bc2 rfl))) (pk_cons rfl (yi_run rfl (fun w hst => x_field rfl Try.underlying39 rfl Try.sizeOf36 rfl)) pk_nil))) ?_
      refine ws_e1 5 (by kernel_rfl) ?_
      refine nxe [6, 7, 8, 9, 10] (by kernel_rfl) rfl rfl ?_
      clear hst
      intro w hst
      obtain ⟨t1427, ht1428, hm⟩ := bind_some hm
      refine we_call rfl (x_call Try.call43 rfl (vs := [p0, .int .i64 (256:Int)]) rfl) ?_
      refine (octet_Reader_Bytes_ref hst.to1 ht1428).mono ?_
      rintro _ w1429 ⟨v1432, rfl, hst⟩
      refine ⟨_, rfl, ?_⟩
      replace hst := hst.of2
      refine ws_next (pend' := [(1, v1408), (0, .pointer (some ⟨b1303, 3, none⟩))]) hst (by kernel_rfl) (pk_cons rfl (yi_run rfl (fun w hst => x_load rfl Try.isAgg36 (hst.bc3 rfl))) (pk_cons rfl (yi_run rfl (fun w hst => x_field rfl Try.underlying39 rfl Try.sizeOf36 rfl)) pk_nil)) ?_
      refine ws_q (v := .agg #[.bool t1422.1, v1432]) 6 [7, 8, 9, 10] (by kernel_rfl) rfl rfl (yi_run rfl (fun w hst => by obtain ⟨_, _, hv_, _⟩ := hst.sv0; rw [hv_]; kernel_rfl)) ?_
      refine ws_e1 7 (by kernel_rfl) ?_
      refine nxe [8, 9, 10] (by kernel_rfl) rfl rfl ?_
      clear hst
      intro w hst
      obtain ⟨I1436, hI1437, f1438, hst⟩ := hst.own_fix
      replace hI0 := hI0.trans hI1437
      replace hL1459 := hL1459.trans hI1437
      replace hL1416 := hL1416.trans hI1437
      obtain ⟨b1439, w1440, ew1441, eb1442, hst⟩ := hst.lits (E := ty_api_Got) (xs := [({ Has := t1422.1, Val := t1427.1 } : api_Got)]) [[.bool t1422.1, v1432]] 51 1 rfl (Reps.cons ⟨_, rfl, f1438, one_of_sliceV (ro_sliceV f1438)⟩ Reps.nil)
      refine we_run (v := (.slice (some ⟨b1439, 0, none⟩) 1 1)) (w' := w1440) rfl (x_als (by kernel_rfl) ew1441 eb1442) ?_
      refine ws_next (pend' := [(1, v1408), (0, .pointer (some ⟨b1303, 3, none⟩))]) hst (by kernel_rfl) (pk_cons rfl (yi_run rfl (fun w hst => x_load rfl Try.isAgg36 (hst.bc3 rfl))) (pk_cons rfl (yi_run rfl (fun w hst => x_field rfl Try.underlying39 rfl Try.sizeOf36 rfl)) pk_nil)) ?_
      refine ws_e1 8 (by kernel_rfl) ?_
      refine nxe [9, 10] (by kernel_rfl) rfl rfl ?_
      clear hst
      intro w hst
      obtain ⟨hg1444, hm⟩ := gd_some hm
      replace hst := hst.pull2
      obtain ⟨v1445, w1446, hr1447, hst⟩ := run_append elem_36 Try.underlying36 hst hst.src1 (room_of hg1444 rfl) 36
      refine we_run (v := v1445) (w' := w1446) rfl (x_append rfl rfl hr1447) ?_
      refine ws_next (pend' := []) hst (by kernel_rfl) pk_nil ?_
      refine ws_q (v := .pointer (some ⟨b1303, 3, none⟩)) 9 [10] (by kernel_rfl) rfl rfl (yi_run rfl (fun w hst => x_field rfl Try.underlying39 rfl Try.sizeOf36 rfl)) ?_
      refine ws_e1 10 (by kernel_rfl) ?_
      refine nxe [] (by kernel_rfl) rfl rfl ?_
      clear hst
      intro w hst
      replace hst := hst.pull3
      obtain ⟨w1448, hr1449, hst⟩ := hst.boxStore1 (P := Try.prog) (t := 36) (cs' := [.int .i64 (IntKind.i64.wrap t1284.1), .int .u64 t1289.1, .int .u64 t1294.1, v1445, (.slice none 0 0)]) 3 v1445 (one_of_sliceV hst.sv1) Try.sizeOf36 rfl rfl
      refine we_unit rfl (x_unit hr1449) ?_
      refine ws_next (pend' := []) hst (by kernel_rfl) pk_nil ?_
      refine ws_nil ?_
      intro w hst
      refine blk_n ?_
      refine then_n ?_
      refine wp_region_lit ?_
      refine wl_val (v := .int .i64 (IntKind.i64.wrap (z1411 + (1:Int)))) rfl rfl rfl ?_
      refine wl_val (v := .int .i64 (IntKind.i64.wrap (z1411 + (1:Int)))) rfl rfl rfl ?_
      refine wl_nil ?_
      refine then_n ?_
      replace hst := hst.pull4
      replace hst := hst.pull1
      replace hst := hst.pull4
      replace hst := hst.pull3
      replace hst := hst.keep4
      obtain rfl := some_inj hm
      exact ⟨_, Nat.lt_succ_self _, _, (z1407 ++ ([({ Has := t1422.1, Val := t1427.1 } : api_Got)])), t1427.2, (IntKind.i64.wrap (z1411 + (1:Int))), v1445, _, hx1419, ((fr_upd (t := 0) (v := p0) rfl).trans ((fr_upd (t := 2) (v := .pointer (some ⟨b1279, 0, none⟩)) rfl).trans ((fr_upd (t := 3) (v := .pointer (some ⟨b1303, 0, none⟩)) rfl).trans ((fr_upd (t := 14) (v := .int .i64 t1310.1) rfl).trans ((fr_upd (t := 15) (v := .int .i64 (IntKind.i64.wrap (z1411 + (1:Int)))) rfl).trans rfl))))), hL1416, hst⟩
    · skip
      replace hm := bif_f hc1421 hm
      refine wp_iff (congrArg Value.bool hc1421) ?_
      refine wp_exit ?_
      refine then_x ?_
      refine then_x ?_
      replace hm := inr_up hm hx1419
      refine blk_x ?_
      refine then_n ?_
      replace hst := hst.pull2
      replace hst := hst.pull3
      replace hst := hst.pull3
      replace hst := hst.keep4
      obtain rfl := some_inj hm
      exact ⟨_, z1410, z1407, v1408, _, hx1458, ((fr_upd (t := 0) (v := p0) rfl).trans ((fr_upd (t := 2) (v := .pointer (some ⟨b1279, 0, none⟩)) rfl).trans ((fr_upd (t := 3) (v := .pointer (some ⟨b1303, 0, none⟩)) rfl).trans rfl))), hL1459, hst⟩
  · skip
    clear hst
    rintro _ w1460 ⟨I1454, z1450, z1453, v1452, σ1455, hm, rfl, hL1456, hst⟩
    dsimp only [command_ReadReply_j0] at hm
    replace hI0 := hI0.trans hL1456
    refine wp_seq ?_
    refine wp_seq ?_
    refine wp_region_lit ?_
    refine wl_val (v := p0) rfl rfl rfl ?_
    obtain ⟨t1461, ht1462, hm⟩ := bind_some hm
    refine wl_call rfl rfl (x_call Try.call41 rfl (vs := [p0, .int .i64 (32:Int)]) rfl) ?_
    refine (octet_Reader_Count_ref hst.to1 ht1462).mono ?_
    rintro _ w1463 ⟨rfl, hst⟩
    refine ⟨_, rfl, ?_⟩
    replace hst := hst.of1
    refine wl_val (v := .int .i64 (0:Int)) rfl rfl rfl ?_
    refine wl_nil ?_
    refine then_n ?_
    refine wp_block ?_
    replace hst := hst.own_nil (tySl ty_api_Pair)
    obtain ⟨n2018, hm⟩ := loopO_some hm
    refine wp_loop_n (fun n a w => ∃ (I2016 : HL) (z2011 : (List (List api_Pair))) (z2014 : octet_Reader) (z2015 : Int) (v2012 : Value) (σ2017 : Nat → Value), loopN (command_ReadReply_l2 t1461 t1284 t1289 t1294 z1453) n (z2011, z2014, z2015) = some r ∧ a = Fr 54 (upd (upd (upd (upd (upd σ2017 0 (p0)) 2 (.pointer (some ⟨b1279, 0, none⟩))) 3 (.pointer (some ⟨b1303, 0, none⟩))) 29 (.int .i64 t1461.1)) 30 (.int .i64 z2015)) ∧ I1454.le I2016 ∧ St w0 w I2016 [ownS (tySl ty_api_Pair) v2012 z2011, at_octet_Reader p0 z2014, cells b1279 [.int .i64 (0:Int), .int .u64 (0:Int), .int .u64 (0:Int), (.slice none 0 0), (.slice none 0 0)], cells b1303 [.int .i64 (IntKind.i64.wrap t1284.1), .int .u64 t1289.1, .int .u64 t1294.1, v1452, v2012], ownS ty_api_Got v1452 z1453] R) n2018 ⟨_, [], t1461.2, (0:Int), (.slice none 0 0), _, hm, ((fr_upd (t := 0) (v := p0) rfl).trans ((fr_upd (t := 2) (v := .pointer (some ⟨b1279, 0, none⟩)) rfl).trans ((fr_upd (t := 3) (v := .pointer (some ⟨b1303, 0, none⟩)) rfl).trans ((fr_upd (t := 29) (v := .int .i64 t1461.1) rfl).trans ((fr_upd (t := 30) (v := .int .i64 (0:Int)) rfl).trans rfl))))), (HL.le.refl _), hst⟩ ?_
    rintro n2024 _ w2019 ⟨I2016, z2011, z2014, z2015, v2012, σ2017, hm, rfl, hL2020, hst⟩
    obtain ⟨n2021, y2022, rfl, hm, hx2023⟩ := loopN_some hm
    dsimp only [command_ReadReply_l2] at hm
    replace hI0 := hI0.trans hL2020
    refine wp_seq ?_
    refine wp_region_lit ?_
    refine wl_val (v := .bool (decide (z2015 < t1461.1))) rfl rfl rfl ?_
    refine wl_nil ?_
    refine then_n ?_
    refine wp_seq ?_
    refine bsplit (decide (z2015 < t1461.1)) (fun hc2025 => ?_) (fun hc2025 => ?_)
    · skip
      replace hm := bif_t hc2025 hm
      refine wp_ift (congrArg Value.bool hc2025) ?_
      refine wp_skip ?_
      refine then_n ?_
      refine wp_seq ?_
      refine wp_block ?_
      refine wp_seq ?_
      refine wp_region_lit ?_
      refine wl_val (v := (.slice none 0 0)) rfl rfl rfl ?_
      refine wl_nil ?_
      refine then_n ?_
      obtain ⟨y2186, hm, hx2187⟩ := bind_some hm
      refine wp_cut (fun a w => ∃ (I2183 : HL) (z2179 : octet_Reader) (z2182 : (List api_Pair)) (v2181 : Value) (σ2184 : Nat → Value), (command_ReadReply_j3 z2011 z2015) (z2179, z2182) = some y2022 ∧ a = Fr 54 (upd (upd (upd (upd (upd (upd σ2184 0 (p0)) 2 (.pointer (some ⟨b1279, 0, none⟩))) 3 (.pointer (some ⟨b1303, 0, none⟩))) 4 (v2181)) 29 (.int .i64 t1461.1)) 30 (.int .i64 z2015)) ∧ I2016.le I2183 ∧ St w0 w I2183 [at_octet_Reader p0 z2179, cells b1279 [.int .i64 (0:Int), .int .u64 (0:Int), .int .u64 (0:Int), (.slice none 0 0), (.slice none 0 0)], cells b1303 [.int .i64 (IntKind.i64.wrap t1284.1), .int .u64 t1289.1, .int .u64 t1294.1, v1452, v2012], ownS ty_api_Got v1452 z1453, ownS (tySl ty_api_Pair) v2012 z2011, ownS ty_api_Pair v2181 z2182] R) ?_ ?_
      · skip
        have hL2188 := HL.le.refl I2016
        refine wp_seq ?_
        refine wp_region_lit ?_
        refine wl_val (v := p0) rfl rfl rfl ?_
        replace hst := hst.pull1
        obtain ⟨t2027, ht2028, hm⟩ := bind_some hm
        refine wl_call rfl rfl (x_call Try.call41 rfl (vs := [p0, .int .i64 (64:Int)]) rfl) ?_
        refine (octet_Reader_Count_ref hst.to1 ht2028).mono ?_
        rintro _ w2029 ⟨rfl, hst⟩
        refine ⟨_, rfl, ?_⟩
        replace hst := hst.of1
        refine wl_val (v := .int .i64 (0:Int)) rfl rfl rfl ?_
        refine wl_nil ?_
        refine then_n ?_
        refine wp_block ?_
        replace hst := hst.own_nil ty_api_Pair
        obtain ⟨n2140, hm⟩ := loopO_some hm
        refine wp_loop_n (fun n a w => ∃ (I2138 : HL) (z2133 : octet_Reader) (z2134 : Int) (z2135 : (List api_Pair)) (v2136 : Value) (σ2139 : Nat → Value), loopN (command_ReadReply_l4 t2027) n (z2133, z2134, z2135) = some y2186 ∧ a = Fr 54 (upd (upd (upd (upd (upd (upd (upd (upd σ2139 0 (p0)) 2 (.pointer (some ⟨b1279, 0, none⟩))) 3 (.pointer (some ⟨b1303, 0, none⟩))) 4 (v2136)) 29 (.int .i64 t1461.1)) 30 (.int .i64 z2015)) 33 (.int .i64 t2027.1)) 34 (.int .i64 z2134)) ∧ I2016.le I2138 ∧ St w0 w I2138 [ownS ty_api_Pair v2136 z2135, at_octet_Reader p0 z2133, ownS (tySl ty_api_Pair) v2012 z2011, cells b1279 [.int .i64 (0:Int), .int .u64 (0:Int), .int .u64 (0:Int), (.slice none 0 0), (.slice none 0 0)], cells b1303 [.int .i64 (IntKind.i64.wrap t1284.1), .int .u64 t1289.1, .int .u64 t1294.1, v1452, v2012], ownS ty_api_Got v1452 z1453] R) n2140 ⟨_, t2027.2, (0:Int), [], (.slice none 0 0), _, hm, ((fr_upd (t := 0) (v := p0) rfl).trans ((fr_upd (t := 2) (v := .pointer (some ⟨b1279, 0, none⟩)) rfl).trans ((fr_upd (t := 3) (v := .pointer (some ⟨b1303, 0, none⟩)) rfl).trans ((fr_upd (t := 4) (v := (.slice none 0 0)) rfl).trans ((fr_upd (t := 29) (v := .int .i64 t1461.1) rfl).trans ((fr_upd (t := 30) (v := .int .i64 z2015) rfl).trans ((fr_upd (t := 33) (v := .int .i64 t2027.1) rfl).trans ((fr_upd (t := 34) (v := .int .i64 (0:Int)) rfl).trans rfl)))))))), (HL.le.refl _), hst⟩ ?_
        rintro n2146 _ w2141 ⟨I2138, z2133, z2134, z2135, v2136, σ2139, hm, rfl, hL2142, hst⟩
        obtain ⟨n2143, y2144, rfl, hm, hx2145⟩ := loopN_some hm
        dsimp only [command_ReadReply_l4] at hm
        replace hI0 := hI0.trans hL2142
        replace hL2020 := hL2020.trans hL2142
        replace hL2188 := hL2188.trans hL2142
        refine wp_seq ?_
        refine wp_region_lit ?_
        refine wl_val (v := .bool (decide (z2134 < t2027.1))) rfl rfl rfl ?_
        refine wl_nil ?_
        refine then_n ?_
        refine wp_seq ?_
        refine bsplit (decide (z2134 < t2027.1)) (fun hc2147 => ?_) (fun hc2147 => ?_)
        · skip
          replace hm := bif_t hc2147 hm
          refine wp_ift (congrArg Value.bool hc2147) ?_
          refine wp_skip ?_
          refine then_n ?_
          refine wp_seq ?_
          refine wp_block ?_
          refine wp_region_lit ?_
          refine wl_val (v := v2136) rfl rfl rfl ?_
          refine wl_val (v := p0) rfl rfl rfl ?_
          replace hst := hst.pull1
          obtain ⟨t2148, ht2149, hm⟩ := bind_some hm
          refine wl_call rfl rfl (x_call Try.call40 rfl (vs := [p0, .int .i64 (8:Int)]) rfl) ?_
          refine (octet_Reader_Num_ref hst.to1 ht2149).mono ?_
          rintro _ w2150 ⟨rfl, hst⟩
          refine ⟨_, rfl, ?_⟩
          replace hst := hst.of1
          obtain ⟨t2153, ht2154, hm⟩ := bind_some hm
          refine wl_call rfl rfl (x_call Try.call44 rfl (vs := [.int .u64 t2148.1]) rfl) ?_
          refine (number_Back_ref hst.to0 ht2154).mono ?_
          rintro _ w2155 ⟨rfl, hst⟩
          refine ⟨_, rfl, ?_⟩
          replace hst := hst.of0
          refine wl_val (v := p0) rfl rfl rfl ?_
          obtain ⟨t2158, ht2159, hm⟩ := bind_some hm
          refine wl_call rfl rfl (x_call Try.call43 rfl (vs := [p0, .int .i64 (256:Int)]) rfl) ?_
          refine (octet_Reader_Bytes_ref hst.to1 ht2159).mono ?_
          rintro _ w2160 ⟨v2163, rfl, hst⟩
          refine ⟨_, rfl, ?_⟩
          replace hst := hst.of2
          refine wl_val (v := .agg #[.float .f64 t2153, v2163]) rfl rfl (by obtain ⟨_, _, hv_, _⟩ := hst.sv0; rw [hv_]; kernel_rfl) ?_
          obtain ⟨I2167, hI2168, f2169, hst⟩ := hst.own_fix
          replace hI0 := hI0.trans hI2168
          replace hL2020 := hL2020.trans hI2168
          replace hL2188 := hL2188.trans hI2168
          replace hL2142 := hL2142.trans hI2168
          obtain ⟨b2170, w2171, ew2172, eb2173, hst⟩ := hst.lits (E := ty_api_Pair) (xs := [({ At := t2153, Val := t2158.1 } : api_Pair)]) [[.float .f64 t2153, v2163]] 54 1 rfl (Reps.cons ⟨_, rfl, f2169, one_of_sliceV (ro_sliceV f2169)⟩ Reps.nil)
          refine wl_run (v := (.slice (some ⟨b2170, 0, none⟩) 1 1)) (w' := w2171) rfl rfl (x_als (by kernel_rfl) ew2172 eb2173) ?_
          obtain ⟨hg2175, hm⟩ := gd_some hm
          replace hst := hst.pull2
          obtain ⟨v2176, w2177, hr2178, hst⟩ := run_append elem_52 Try.underlying52 hst hst.src1 (room_of hg2175 rfl) 52
          refine wl_run (v := v2176) (w' := w2177) rfl rfl (x_append rfl rfl hr2178) ?_
          refine wl_val (v := v2176) rfl rfl rfl ?_
          refine wl_nil ?_
          refine blk_n ?_
          refine then_n ?_
          refine wp_region_lit ?_
          refine wl_val (v := .int .i64 (IntKind.i64.wrap (z2134 + (1:Int)))) rfl rfl rfl ?_
          refine wl_val (v := .int .i64 (IntKind.i64.wrap (z2134 + (1:Int)))) rfl rfl rfl ?_
          refine wl_nil ?_
          refine then_n ?_
          replace hst := hst.pull6
          replace hst := hst.pull6
          replace hst := hst.pull6
          replace hst := hst.pull6
          replace hst := hst.pull6
          replace hst := hst.pull5
          replace hst := hst.keep6
          obtain rfl := some_inj hm
          exact ⟨_, Nat.lt_succ_self _, _, t2158.2, (IntKind.i64.wrap (z2134 + (1:Int))), (z2135 ++ ([({ At := t2153, Val := t2158.1 } : api_Pair)])), v2176, _, hx2145, ((fr_upd (t := 0) (v := p0) rfl).trans ((fr_upd (t := 2) (v := .pointer (some ⟨b1279, 0, none⟩)) rfl).trans ((fr_upd (t := 3) (v := .pointer (some ⟨b1303, 0, none⟩)) rfl).trans ((fr_upd (t := 4) (v := v2176) rfl).trans ((fr_upd (t := 29) (v := .int .i64 t1461.1) rfl).trans ((fr_upd (t := 30) (v := .int .i64 z2015) rfl).trans ((fr_upd (t := 33) (v := .int .i64 t2027.1) rfl).trans ((fr_upd (t := 34) (v := .int .i64 (IntKind.i64.wrap (z2134 + (1:Int)))) rfl).trans rfl)))))))), hL2142, hst⟩
        · skip
          replace hm := bif_f hc2147 hm
          refine wp_iff (congrArg Value.bool hc2147) ?_
          refine wp_exit ?_
          refine then_x ?_
          refine then_x ?_
          replace hm := inr_up hm hx2145
          refine blk_x ?_
          refine then_n ?_
          replace hst := hst.pull2
          replace hst := hst.pull5
          replace hst := hst.pull5
          replace hst := hst.pull5
          replace hst := hst.pull5
          replace hst := hst.keep6
          obtain rfl := some_inj hm
          exact ⟨_, z2133, z2135, v2136, _, hx2187, ((fr_upd (t := 0) (v := p0) rfl).trans ((fr_upd (t := 2) (v := .pointer (some ⟨b1279, 0, none⟩)) rfl).trans ((fr_upd (t := 3) (v := .pointer (some ⟨b1303, 0, none⟩)) rfl).trans ((fr_upd (t := 4) (v := v2136) rfl).trans ((fr_upd (t := 29) (v := .int .i64 t1461.1) rfl).trans ((fr_upd (t := 30) (v := .int .i64 z2015) rfl).trans rfl)))))), hL2188, hst⟩
      · skip
        clear hst
        rintro _ w2189 ⟨I2183, z2179, z2182, v2181, σ2184, hm, rfl, hL2185, hst⟩
        dsimp only [command_ReadReply_j3] at hm
        replace hI0 := hI0.trans hL2185
        replace hL2020 := hL2020.trans hL2185
        refine wp_region_lit ?_
        refine wl_val (v := .pointer (some ⟨b1303, 4, none⟩)) rfl rfl (x_field rfl Try.underlying39 rfl Try.sizeOf37 rfl) ?_
        refine wl_val (v := v2012) rfl rfl (x_load rfl Try.isAgg37 (hst.bc2 rfl)) ?_
        refine wl_val (v := v2181) rfl rfl rfl ?_
        replace hst := hst.pull5
        obtain ⟨I2191, hI2192, f2193, hst⟩ := hst.own_fix
        replace hI0 := hI0.trans hI2192
        replace hL2020 := hL2020.trans hI2192
        obtain ⟨b2194, w2195, ew2196, eb2197, hst⟩ := hst.lits (E := (tySl ty_api_Pair)) (xs := [z2182]) [[v2181]] 52 1 rfl (Reps.cons ⟨_, rfl, f2193, one_of_sliceV (ro_sliceV f2193)⟩ Reps.nil)
        refine wl_run (v := (.slice (some ⟨b2194, 0, none⟩) 1 1)) (w' := w2195) rfl rfl (x_als (by obtain ⟨_, _, hv_, _⟩ := (ro_sliceV f2193); rw [hv_]; kernel_rfl) ew2196 eb2197) ?_
        obtain ⟨hg2199, hm⟩ := gd_some hm
        replace hst := hst.pull5
        obtain ⟨v2200, w2201, hr2202, hst⟩ := run_append elem_37 Try.underlying37 hst hst.src1 (room_of hg2199 rfl) 37
        refine wl_run (v := v2200) (w' := w2201) rfl rfl (x_append rfl rfl hr2202) ?_
        refine wl_val (v := .pointer (some ⟨b1303, 4, none⟩)) rfl rfl (x_field rfl Try.underlying39 rfl Try.sizeOf37 rfl) ?_
        replace hst := hst.pull4
        obtain ⟨w2203, hr2204, hst⟩ := hst.boxStore1 (P := Try.prog) (t := 37) (cs' := [.int .i64 (IntKind.i64.wrap t1284.1), .int .u64 t1289.1, .int .u64 t1294.1, v1452, v2200]) 4 v2200 (one_of_sliceV hst.sv1) Try.sizeOf37 rfl rfl
        refine wl_unit rfl rfl (x_unit hr2204) ?_
        refine wl_nil ?_
        refine blk_n ?_
        refine then_n ?_
        refine wp_region_lit ?_
        refine wl_val (v := .int .i64 (IntKind.i64.wrap (z2015 + (1:Int)))) rfl rfl rfl ?_
        refine wl_val (v := .int .i64 (IntKind.i64.wrap (z2015 + (1:Int)))) rfl rfl rfl ?_
        refine wl_nil ?_
        refine then_n ?_
        replace hst := hst.pull5
        replace hst := hst.pull1
        replace hst := hst.pull5
        replace hst := hst.pull5
        replace hst := hst.pull4
        replace hst := hst.keep5
        obtain rfl := some_inj hm
        exact ⟨_, Nat.lt_succ_self _, _, (z2011 ++ ([z2182])), z2179, (IntKind.i64.wrap (z2015 + (1:Int))), v2200, _, hx2023, ((fr_upd (t := 0) (v := p0) rfl).trans ((fr_upd (t := 2) (v := .pointer (some ⟨b1279, 0, none⟩)) rfl).trans ((fr_upd (t := 3) (v := .pointer (some ⟨b1303, 0, none⟩)) rfl).trans ((fr_upd (t := 29) (v := .int .i64 t1461.1) rfl).trans ((fr_upd (t := 30) (v := .int .i64 (IntKind.i64.wrap (z2015 + (1:Int)))) rfl).trans rfl))))), hL2020, hst⟩
    · skip
      replace hm := bif_f hc2025 hm
      refine wp_iff (congrArg Value.bool hc2025) ?_
      refine wp_exit ?_
      refine then_x ?_
      refine then_x ?_
      replace hm := inr_up hm hx2023
      refine blk_x ?_
      refine then_n ?_
      refine wp_seq ?_
      refine wp_region_lit ?_
      refine wl_val (v := .agg #[.int .i64 (IntKind.i64.wrap t1284.1), .int .u64 t1289.1, .int .u64 t1294.1, v1452, v2012]) rfl rfl (x_loadN (cs := [.int .i64 (IntKind.i64.wrap t1284.1), .int .u64 t1289.1, .int .u64 t1294.1, v1452, v2012]) rfl Try.isAgg39 Try.sizeOf39 (hst.bcs3 0 rfl)) ?_
      replace hst := hst.pull2
      obtain ⟨w2205, hr2206, hst⟩ := hst.boxStore (P := Try.prog) (t := 39) (cs' := [.int .i64 (IntKind.i64.wrap t1284.1), .int .u64 t1289.1, .int .u64 t1294.1, v1452, v2012]) 0 (.agg #[.int .i64 (IntKind.i64.wrap t1284.1), .int .u64 t1289.1, .int .u64 t1294.1, v1452, v2012]) Try.sizeOf39 (Nat.le_of_ble_eq_true rfl) (ones_cons rfl (ones_cons rfl (ones_cons rfl (ones_cons (one_of_sliceV hst.sv4) (ones_cons (one_of_sliceV hst.sv1) ones_nil))))) (by kernel_rfl)
      refine wl_unit rfl rfl (x_unit hr2206) ?_
      refine wl_nil ?_
      refine then_n ?_
      refine wp_ret ?_
      obtain rfl := some_inj hm
      refine post_ret (vs := [.agg #[.int .i64 (IntKind.i64.wrap t1284.1), .int .u64 t1289.1, .int .u64 t1294.1, v1452, v2012]]) Try.results16 (rvs_cons (rv_cell (cs := [.int .i64 (IntKind.i64.wrap t1284.1), .int .u64 t1289.1, .int .u64 t1294.1, v1452, v2012]) rfl Try.isAgg39 Try.sizeOf39 (hst.bcs0 0 rfl)) rvs_nil) ?_
      replace hst := hst.pull2
      replace hst := hst.pull2
      replace hst := hst.pull4
      exact ⟨_, v1452, v2012, rfl, hI0, hst.keep3⟩

theorem command_readRule_ref {w0 w : World} {I : HL} {R : SP} {a0 : octet_Reader} {p0 : Value}  (hst : St w0 w I [at_octet_Reader p0 a0] R) {r : (api_Rule × octet_Reader)} (hm : command_readRule a0 = some r) :
    Calls Try.prog 55 #[p0] w fun e w' => e = .returned (.agg #[.int .u64 r.1.ID, .int .i64 r.1.From, .int .i64 r.1.To, .float .f64 r.1.Lo, .float .f64 r.1.Hi, .int .u64 r.1.Authority, .int .i64 r.1.Quota]) ∧ St w0 w' I [at_octet_Reader p0 r.2] R := by
  unfold command_readRule at hm
  refine calls_start (args := [p0]) Try.func55 rfl Try.ntmps55 (Nat.le_of_ble_eq_true rfl) ?_
  refine wp_seq ?_
  refine wp_region_lit ?_
  obtain ⟨b431, w432, ew433, eb434, hst⟩ := hst.box [.int .u64 (0:Int), .int .i64 (0:Int), .int .i64 (0:Int), .float .f64 (0:Nat), .float .f64 (0:Nat), .int .u64 (0:Int), .int .i64 (0:Int)] 43
  refine wl_run (v := .pointer (some ⟨b431, 0, none⟩)) (w' := w432) rfl rfl (x_al (by kernel_rfl) ew433 eb434) ?_
  refine wl_nil ?_
  refine then_n ?_
  refine wp_seq ?_
  refine wp_region_lit ?_
  refine wl_val (v := p0) rfl rfl rfl ?_
  replace hst := hst.pull1
  obtain ⟨t436, ht437, hm⟩ := bind_some hm
  refine wl_call rfl rfl (x_call Try.call40 rfl (vs := [p0, .int .i64 (8:Int)]) rfl) ?_
  refine (octet_Reader_Num_ref hst.to1 ht437).mono ?_
  rintro _ w438 ⟨rfl, hst⟩
  refine ⟨_, rfl, ?_⟩
  replace hst := hst.of1
  refine wl_val (v := p0) rfl rfl rfl ?_
  obtain ⟨t441, ht442, hm⟩ := bind_some hm
  refine wl_call rfl rfl (x_call Try.call40 rfl (vs := [p0, .int .i64 (1:Int)]) rfl) ?_
  refine (octet_Reader_Num_ref hst.to1 ht442).mono ?_
  rintro _ w443 ⟨rfl, hst⟩
  refine ⟨_, rfl, ?_⟩
  replace hst := hst.of1
  refine wl_val (v := .int .i64 (IntKind.i64.wrap t441.1)) rfl rfl (by kernel_rfl) ?_
  refine wl_val (v := p0) rfl rfl rfl ?_
  obtain ⟨t446, ht447, hm⟩ := bind_some hm
  refine wl_call rfl rfl (x_call Try.call40 rfl (vs := [p0, .int .i64 (1:Int)]) rfl) ?_
  refine (octet_Reader_Num_ref hst.to1 ht447).mono ?_
  rintro _ w448 ⟨rfl, hst⟩
  refine ⟨_, rfl, ?_⟩
  replace hst := hst.of1
  refine wl_val (v := .int .i64 (IntKind.i64.wrap t446.1)) rfl rfl (by kernel_rfl) ?_
  refine wl_val (v := p0) rfl rfl rfl ?_
  obtain ⟨t451, ht452, hm⟩ := bind_some hm
  refine wl_call rfl rfl (x_call Try.call40 rfl (vs := [p0, .int .i64 (8:Int)]) rfl) ?_
  refine (octet_Reader_Num_ref hst.to1 ht452).mono ?_
  rintro _ w453 ⟨rfl, hst⟩
  refine ⟨_, rfl, ?_⟩
  replace hst := hst.of1
  obtain ⟨t456, ht457, hm⟩ := bind_some hm
  refine wl_call rfl rfl (x_call Try.call44 rfl (vs := [.int .u64 t451.1]) rfl) ?_
  refine (number_Back_ref hst.to0 ht457).mono ?_
  rintro _ w458 ⟨rfl, hst⟩
  refine ⟨_, rfl, ?_⟩
  replace hst := hst.of0
  refine wl_val (v := p0) rfl rfl rfl ?_
  obtain ⟨t461, ht462, hm⟩ := bind_some hm
  refine wl_call rfl rfl (x_call Try.call40 rfl (vs := [p0, .int .i64 (8:Int)]) rfl) ?_
  refine (octet_Reader_Num_ref hst.to1 ht462).mono ?_
  rintro _ w463 ⟨rfl, hst⟩
  refine ⟨_, rfl, ?_⟩
  replace hst := hst.of1
  obtain ⟨t466, ht467, hm⟩ := bind_some hm
  refine wl_call rfl rfl (x_call Try.call44 rfl (vs := [.int .u64 t461.1]) rfl) ?_
  refine (number_Back_ref hst.to0 ht467).mono ?_
  rintro _ w468 ⟨rfl, hst⟩
  refine ⟨_, rfl, ?_⟩
  replace hst := hst.of0
  refine wl_val (v := p0) rfl rfl rfl ?_
  obtain ⟨t471, ht472, hm⟩ := bind_some hm
  refine wl_call rfl rfl (x_call Try.call40 rfl (vs := [p0, .int .i64 (8:Int)]) rfl) ?_
  refine (octet_Reader_Num_ref hst.to1 ht472).mono ?_
  rintro _ w473 ⟨rfl, hst⟩
  refine ⟨_, rfl, ?_⟩
  replace hst := hst.of1
  refine wl_val (v := p0) rfl rfl rfl ?_
  obtain ⟨t476, ht477, hm⟩ := bind_some hm
  refine wl_call rfl rfl (x_call Try.call40 rfl (vs := [p0, .int .i64 (4:Int)]) rfl) ?_
  refine (octet_Reader_Num_ref hst.to1 ht477).mono ?_
  rintro _ w478 ⟨rfl, hst⟩
  refine ⟨_, rfl, ?_⟩
  replace hst := hst.of1
  refine wl_val (v := .int .i64 (IntKind.i64.wrap t476.1)) rfl rfl (by kernel_rfl) ?_
  refine wl_val (v := .agg #[.int .u64 t436.1, .int .i64 (IntKind.i64.wrap t441.1), .int .i64 (IntKind.i64.wrap t446.1), .float .f64 t456, .float .f64 t466, .int .u64 t471.1, .int .i64 (IntKind.i64.wrap t476.1)]) rfl rfl (by kernel_rfl) ?_
  replace hst := hst.pull1
  obtain ⟨w481, hr482, hst⟩ := hst.boxStore (P := Try.prog) (t := 43) (cs' := [.int .u64 t436.1, .int .i64 (IntKind.i64.wrap t441.1), .int .i64 (IntKind.i64.wrap t446.1), .float .f64 t456, .float .f64 t466, .int .u64 t471.1, .int .i64 (IntKind.i64.wrap t476.1)]) 0 (.agg #[.int .u64 t436.1, .int .i64 (IntKind.i64.wrap t441.1), .int .i64 (IntKind.i64.wrap t446.1), .float .f64 t456, .float .f64 t466, .int .u64 t471.1, .int .i64 (IntKind.i64.wrap t476.1)]) Try.sizeOf43 (Nat.le_of_ble_eq_true rfl) (ones_cons rfl (ones_cons rfl (ones_cons rfl (ones_cons rfl (ones_cons rfl (ones_cons rfl (ones_cons rfl ones_nil))))))) (by kernel_rfl)
  refine wl_unit rfl rfl (x_unit hr482) ?_
  refine wl_nil ?_
  refine then_n ?_
  refine wp_ret ?_
  obtain rfl := some_inj hm
  refine post_ret (vs := [.agg #[.int .u64 t436.1, .int .i64 (IntKind.i64.wrap t441.1), .int .i64 (IntKind.i64.wrap t446.1), .float .f64 t456, .float .f64 t466, .int .u64 t471.1, .int .i64 (IntKind.i64.wrap t476.1)]]) Try.results55 (rvs_cons (rv_cell (cs := [.int .u64 t436.1, .int .i64 (IntKind.i64.wrap t441.1), .int .i64 (IntKind.i64.wrap t446.1), .float .f64 t456, .float .f64 t466, .int .u64 t471.1, .int .i64 (IntKind.i64.wrap t476.1)]) rfl Try.isAgg43 Try.sizeOf43 (hst.bcs0 0 rfl)) rvs_nil) ?_
  replace hst := hst.pull1
  exact ⟨rfl, hst.keep1⟩

theorem octet_Reader_Bad_ref {w0 w : World} {I : HL} {R : SP} {a0 : octet_Reader} {p0 : Value}  (hst : St w0 w I [at_octet_Reader p0 a0] R) {r : (Bool)} (hm : octet_Reader_Bad a0 = some r) :
    Calls Try.prog 49 #[p0] w fun e w' => e = .returned (.bool r) ∧ St w0 w' I [at_octet_Reader p0 a0] R := by
  unfold octet_Reader_Bad at hm
  refine calls_start (args := [p0]) Try.func49 rfl Try.ntmps49 (Nat.le_of_ble_eq_true rfl) ?_
  refine wp_seq ?_
  refine wp_region_lit ?_
  refine wl_val (v := .bool false) rfl rfl rfl ?_
  refine wl_nil ?_
  refine then_n ?_
  refine wp_seq ?_
  refine wp_region_lit ?_
  refine wl_val (v := p0) rfl rfl rfl ?_
  obtain ⟨b514, v515, ⟨rfl, f517⟩, hst'⟩ := at_octet_Reader_open hst
  clear hst
  have hst := hst'
  clear hst'
  refine wl_val (v := .bool false) rfl rfl (by kernel_rfl) ?_
  refine wl_val (v := .bool false) rfl rfl rfl ?_
  refine wl_val (v := .pointer (some ⟨b514, 0, none⟩)) ((wanted_eq rfl rfl rfl rfl).trans rfl) rfl rfl ?_
  refine wl_val (v := .pointer (some ⟨b514, 0, none⟩)) ((wanted_eq rfl rfl rfl rfl).trans rfl) rfl rfl ?_
  refine wl_val (v := .pointer (some ⟨b514, 1, none⟩)) ((wanted_eq rfl rfl rfl rfl).trans rfl) rfl (x_field rfl Try.underlying95 rfl Try.sizeOf4 rfl) ?_
  refine wl_val (v := .bool a0.bad) ((wanted_eq rfl rfl rfl rfl).trans rfl) rfl (x_load rfl Try.isAgg4 (hst.bc0 rfl)) ?_
  refine wl_val (v := .bool a0.bad) rfl rfl (x_pick_f rfl rfl rfl) ?_
  refine wl_val (v := .bool a0.bad) rfl rfl rfl ?_
  refine wl_nil ?_
  refine then_n ?_
  refine wp_ret ?_
  replace hst := at_octet_Reader_close (pv := .pointer (some ⟨b514, 0, none⟩)) (x := a0) hst ⟨rfl, f517⟩
  obtain rfl := some_inj hm
  refine post_ret (vs := [.bool a0.bad]) Try.results49 (rvs_cons (rv_tmp rfl) rvs_nil) ?_
  exact ⟨rfl, hst.keep1⟩

theorem octet_Reader_End_ref {w0 w : World} {I : HL} {R : SP} {a0 : octet_Reader} {p0 : Value}  (hst : St w0 w I [at_octet_Reader p0 a0] R) {r : (Bool)} (hm : octet_Reader_End a0 = some r) :
    Calls Try.prog 18 #[p0] w fun e w' => e = .returned (.bool r) ∧ St w0 w' I [at_octet_Reader p0 a0] R := by
  unfold octet_Reader_End at hm
  refine calls_start (args := [p0]) Try.func18 rfl Try.ntmps18 (Nat.le_of_ble_eq_true rfl) ?_
  refine wp_seq ?_
  refine wp_region_lit ?_
  refine wl_val (v := .bool false) rfl rfl rfl ?_
  refine wl_nil ?_
  refine then_n ?_
  refine wp_seq ?_
  refine wp_region_lit ?_
  refine wl_val (v := p0) rfl rfl rfl ?_
  obtain ⟨t519, ht520, hm⟩ := bind_some hm
  refine wl_call rfl rfl (x_call Try.call49 rfl (vs := [p0]) rfl) ?_
  refine (octet_Reader_Bad_ref hst.to1 ht520).mono ?_
  rintro _ w521 ⟨rfl, hst⟩
  refine ⟨_, rfl, ?_⟩
  replace hst := hst.of1
  refine wl_val (v := .bool (!t519)) rfl rfl rfl ?_
  refine wl_val (v := .bool (!t519)) rfl rfl rfl ?_
  refine bsplit (!t519) (fun hc524 => ?_) (fun hc524 => ?_)
  · skip
    replace hm := bif_t hc524 hm
    refine wl_val (v := p0) ((wanted_eq rfl rfl rfl (congrArg Value.bool hc524)).trans rfl) rfl rfl ?_
    obtain ⟨b525, v526, ⟨rfl, f528⟩, hst'⟩ := at_octet_Reader_open hst
    clear hst
    have hst := hst'
    clear hst'
    refine wl_val (v := .pointer (some ⟨b525, 0, none⟩)) ((wanted_eq rfl rfl rfl (congrArg Value.bool hc524)).trans rfl) rfl rfl ?_
    refine wl_val (v := .pointer (some ⟨b525, 0, none⟩)) ((wanted_eq rfl rfl rfl (congrArg Value.bool hc524)).trans rfl) rfl (x_field rfl Try.underlying95 rfl Try.sizeOf22 rfl) ?_
    refine wl_val (v := v526) ((wanted_eq rfl rfl rfl (congrArg Value.bool hc524)).trans rfl) rfl (x_load rfl Try.isAgg22 (hst.bc0 rfl)) ?_
    refine wl_val (v := .int .i64 ((a0.p).length : Int)) ((wanted_eq rfl rfl rfl (congrArg Value.bool hc524)).trans rfl) rfl (x_len rfl Try.underlying22 (ro_sliceV f528)) ?_
    refine wl_val (v := .bool (((a0.p).length : Int) == (0:Int))) ((wanted_eq rfl rfl rfl (congrArg Value.bool hc524)).trans rfl) rfl rfl ?_
    refine wl_val (v := .bool (((a0.p).length : Int) == (0:Int))) rfl rfl (x_pick_t hc524 rfl rfl) ?_
    refine wl_val (v := .bool (((a0.p).length : Int) == (0:Int))) rfl rfl rfl ?_
    refine wl_nil ?_
    refine then_n ?_
    refine wp_ret ?_
    replace hst := at_octet_Reader_close (pv := .pointer (some ⟨b525, 0, none⟩)) (x := a0) hst ⟨rfl, f528⟩
    obtain rfl := some_inj hm
    refine post_ret (vs := [.bool (((a0.p).length : Int) == (0:Int))]) Try.results18 (rvs_cons (rv_tmp rfl) rvs_nil) ?_
    exact ⟨rfl, hst.keep1⟩
  · skip
    replace hm := bif_f hc524 hm
    refine wl_off ((wanted_eq rfl rfl rfl (congrArg Value.bool hc524)).trans rfl) rfl ?_
    refine wl_off ((wanted_eq rfl rfl rfl (congrArg Value.bool hc524)).trans rfl) rfl ?_
    refine wl_off ((wanted_eq rfl rfl rfl (congrArg Value.bool hc524)).trans rfl) rfl ?_
    refine wl_off ((wanted_eq rfl rfl rfl (congrArg Value.bool hc524)).trans rfl) rfl ?_
    refine wl_off ((wanted_eq rfl rfl rfl (congrArg Value.bool hc524)).trans rfl) rfl ?_
    refine wl_off ((wanted_eq rfl rfl rfl (congrArg Value.bool hc524)).trans rfl) rfl ?_
    refine wl_val (v := .bool false) rfl rfl (x_pick_f hc524 rfl rfl) ?_
    refine wl_val (v := .bool false) rfl rfl rfl ?_
    refine wl_nil ?_
    refine then_n ?_
    refine wp_ret ?_
    obtain rfl := some_inj hm
    refine post_ret (vs := [.bool false]) Try.results18 (rvs_cons (rv_tmp rfl) rvs_nil) ?_
    exact ⟨rfl, hst.keep1⟩

theorem slices_Equal_byte_byte_ref {w0 w : World} {I : HL} {R : SP} {a0 : (List Int)} {r0_0 : Value} {a1 : (List Int)} {r1_0 : Value} (f0_0 : Rd (tyInt .u8) R I r0_0 a0) (f1_0 : Rd (tyInt .u8) R I r1_0 a1) (hst : St w0 w I [] R) {r : (Bool)} (hm : slices_Equal_byte_byte a0 a1 = some r) :
    Calls Try.prog 56 #[r0_0, r1_0] w fun e w' => e = .returned (.bool r) ∧ St w0 w' I [] R := by
  unfold slices_Equal_byte_byte at hm
  refine calls_start (args := [r0_0, r1_0]) Try.func56 rfl Try.ntmps56 (Nat.le_of_ble_eq_true rfl) ?_
  refine wp_seq ?_
  refine wp_region_lit ?_
  refine wl_val (v := .bool false) rfl rfl rfl ?_
  refine wl_nil ?_
  refine then_n ?_
  refine wp_seq ?_
  refine wp_seq ?_
  refine wp_region_lit ?_
  refine wl_val (v := r0_0) rfl rfl rfl ?_
  refine wl_val (v := .int .i64 ((a0).length : Int)) rfl rfl (x_len rfl Try.underlying22 (rd_sliceV f0_0)) ?_
  refine wl_val (v := r1_0) rfl rfl rfl ?_
  refine wl_val (v := .int .i64 ((a1).length : Int)) rfl rfl (x_len rfl Try.underlying22 (rd_sliceV f1_0)) ?_
  refine wl_val (v := .bool (((a0).length : Int) != ((a1).length : Int))) rfl rfl rfl ?_
  refine wl_nil ?_
  refine then_n ?_
  refine bsplit (((a0).length : Int) != ((a1).length : Int)) (fun hc597 => ?_) (fun hc597 => ?_)
  · skip
    replace hm := bif_t hc597 hm
    refine wp_ift (congrArg Value.bool hc597) ?_
    refine wp_seq ?_
    refine wp_region_lit ?_
    refine wl_val (v := .bool false) rfl rfl rfl ?_
    refine wl_nil ?_
    refine then_n ?_
    refine wp_ret ?_
    refine then_r ?_
    obtain rfl := some_inj hm
    refine post_ret (vs := [.bool false]) Try.results56 (rvs_cons (rv_tmp rfl) rvs_nil) ?_
    exact ⟨rfl, hst.keep0⟩
  · skip
    replace hm := bif_f hc597 hm
    refine wp_iff (congrArg Value.bool hc597) ?_
    refine wp_skip ?_
    refine then_n ?_
    refine wp_seq ?_
    refine wp_seq ?_
    refine wp_region_lit ?_
    refine wl_val (v := r0_0) rfl rfl rfl ?_
    refine wl_val (v := .int .i64 ((a0).length : Int)) rfl rfl (x_len rfl Try.underlying22 (rd_sliceV f0_0)) ?_
    refine wl_val (v := .int .i64 (0:Int)) rfl rfl rfl ?_
    refine wl_nil ?_
    refine then_n ?_
    refine wp_block ?_
    obtain ⟨n625, hm⟩ := loopO_some hm
    refine wp_loop_n (fun n a w => ∃ (z623 : Int) (σ624 : Nat → Value), loopN (slices_Equal_byte_byte_l0 a0 a1) n z623 = some r ∧ a = Fr 26 (upd (upd (upd (upd σ624 0 (r0_0)) 1 (r1_0)) 12 (.int .i64 ((a0).length : Int))) 13 (.int .i64 z623)) ∧ St w0 w I [] R) n625 ⟨(0:Int), _, hm, ((fr_upd (t := 0) (v := r0_0) rfl).trans ((fr_upd (t := 1) (v := r1_0) rfl).trans ((fr_upd (t := 12) (v := .int .i64 ((a0).length : Int)) rfl).trans ((fr_upd (t := 13) (v := .int .i64 (0:Int)) rfl).trans rfl)))), hst⟩ ?_
    rintro n631 _ w626 ⟨z623, σ624, hm, rfl, hst⟩
    obtain ⟨n628, y629, rfl, hm, hx630⟩ := loopN_some hm
    dsimp only [slices_Equal_byte_byte_l0] at hm
    refine wp_seq ?_
    refine wp_region_lit ?_
    refine wl_val (v := .bool (decide (z623 < ((a0).length : Int)))) rfl rfl rfl ?_
    refine wl_nil ?_
    refine then_n ?_
    refine wp_seq ?_
    refine bsplit (decide (z623 < ((a0).length : Int))) (fun hc632 => ?_) (fun hc632 => ?_)
    · skip
      replace hm := bif_t hc632 hm
      refine wp_ift (congrArg Value.bool hc632) ?_
      refine wp_skip ?_
      refine then_n ?_
      refine wp_seq ?_
      refine wp_block ?_
      refine wp_seq ?_
      refine wp_region_lit ?_
      refine wl_val (v := .int .i64 z623) rfl rfl rfl ?_
      refine wl_val (v := .int .i64 z623) rfl rfl rfl ?_
      refine wl_nil ?_
      refine then_n ?_
      refine wp_seq ?_
      refine wq_regionS hst Try.mixed (by kernel_rfl) ?_
      refine wq_run (v := r0_0) rfl rfl (fun w hst => rfl) ?_
      refine wq_run (v := .int .i64 z623) rfl rfl (fun w hst => rfl) ?_
      obtain ⟨x633, hx634, hm⟩ := bind_some hm
      obtain ⟨h635, h636, hi637⟩ := geto_some hx634
      refine wq_run (v := .pointer (some (eAddr r0_0 (z623.toNat * 1 + 0)))) rfl rfl (fun w hst => x_index rfl rfl Try.underlying22 Try.sizeOf5 (rd_sliceV f0_0) h635 h636) ?_
      refine wq_run (v := .int .u8 x633) rfl rfl (fun w hst => x_load rfl Try.isAgg5 (rd_load f0_0 (HL.le.refl _) hst hi637 (by rintro _ rfl; rfl))) ?_
      refine wq_run (v := r1_0) rfl rfl (fun w hst => rfl) ?_
      refine wq_run (v := .int .i64 z623) rfl rfl (fun w hst => rfl) ?_
      obtain ⟨x638, hx639, hm⟩ := bind_some hm
      obtain ⟨h640, h641, hi642⟩ := geto_some hx639
      refine wq_run (v := .pointer (some (eAddr r1_0 (z623.toNat * 1 + 0)))) rfl rfl (fun w hst => x_index rfl rfl Try.underlying22 Try.sizeOf5 (rd_sliceV f1_0) h640 h641) ?_
      refine wq_run (v := .int .u8 x638) rfl rfl (fun w hst => x_load rfl Try.isAgg5 (rd_load f1_0 (HL.le.refl _) hst hi642 (by rintro _ rfl; rfl))) ?_
      refine wq_run (v := .bool (x633 != x638)) rfl rfl (fun w hst => rfl) ?_
      refine wq_nil ?_
      intro w hst
      refine then_n ?_
      refine bsplit (x633 != x638) (fun hc643 => ?_) (fun hc643 => ?_)
      · skip
        replace hm := bif_t hc643 hm
        refine wp_ift (congrArg Value.bool hc643) ?_
        refine wp_seq ?_
        refine wp_region_lit ?_
        refine wl_val (v := .bool false) rfl rfl rfl ?_
        refine wl_nil ?_
        refine then_n ?_
        refine wp_ret ?_
        refine blk_r ?_
        refine then_r ?_
        refine then_r ?_
        replace hm := inr_up hm hx630
        refine blk_r ?_
        refine then_r ?_
        obtain rfl := some_inj hm
        refine post_ret (vs := [.bool false]) Try.results56 (rvs_cons (rv_tmp rfl) rvs_nil) ?_
        exact ⟨rfl, hst.keep0⟩
      · skip
        replace hm := bif_f hc643 hm
        refine wp_iff (congrArg Value.bool hc643) ?_
        refine wp_skip ?_
        refine blk_n ?_
        refine then_n ?_
        refine wp_region_lit ?_
        refine wl_val (v := .int .i64 (IntKind.i64.wrap (z623 + (1:Int)))) rfl rfl rfl ?_
        refine wl_val (v := .int .i64 (IntKind.i64.wrap (z623 + (1:Int)))) rfl rfl rfl ?_
        refine wl_nil ?_
        refine then_n ?_
        replace hst := hst.keep0
        obtain rfl := some_inj hm
        exact ⟨_, Nat.lt_succ_self _, (IntKind.i64.wrap (z623 + (1:Int))), _, hx630, ((fr_upd (t := 0) (v := r0_0) rfl).trans ((fr_upd (t := 1) (v := r1_0) rfl).trans ((fr_upd (t := 12) (v := .int .i64 ((a0).length : Int)) rfl).trans ((fr_upd (t := 13) (v := .int .i64 (IntKind.i64.wrap (z623 + (1:Int)))) rfl).trans rfl)))), hst⟩
    · skip
      replace hm := bif_f hc632 hm
      refine wp_iff (congrArg Value.bool hc632) ?_
      refine wp_exit ?_
      refine then_x ?_
      refine then_x ?_
      replace hm := inr_up hm hx630
      refine blk_x ?_
      refine then_n ?_
      refine wp_seq ?_
      refine wp_region_lit ?_
      refine wl_val (v := .bool true) rfl rfl rfl ?_
      refine wl_nil ?_
      refine then_n ?_
      refine wp_ret ?_
      obtain rfl := some_inj hm
      refine post_ret (vs := [.bool true]) Try.results56 (rvs_cons (rv_tmp rfl) rvs_nil) ?_
      exact ⟨rfl, hst.keep0⟩

theorem command_Decode_ref {w0 w : World} {I : HL} {R : SP} {a0 : (List Int)} {r0_0 : Value} (f0_0 : Ro (tyInt .u8) I r0_0 a0) (hst : St w0 w I [] R) {r : (api_Command × Int)} (hm : command_Decode a0 = some r) :
    Calls Try.prog 20 #[r0_0] w fun e w' => ∃ (I' : HL) (q0_0 : Value) (q0_1 : Value) (q0_2 : Value) (q0_3 : Value) (q0_4 : Value) (q0_5 : Value) (q0_6 : Value) (q0_7 : Value), e = .returned (.tuple #[.agg #[.int .u8 r.1.Kind, .int .u64 r.1.ID.Session, .int .u64 r.1.ID.Seq, .int .u64 r.1.Epoch, .int .u64 r.1.Index, .int .i64 r.1.E, .int .u64 r.1.Hold.ID.Session, .int .u64 r.1.Hold.ID.Seq, .int .u64 r.1.Hold.Epoch, q0_0, q0_1, q0_2, q0_3, q0_4, .int .i64 r.1.R.E, .int .u64 r.1.R.Epoch, .int .u64 r.1.R.Index, q0_5, q0_6, .int .u64 r.1.Shards, q0_7, .int .u64 r.1.Rule.ID, .int .i64 r.1.Rule.From, .int .i64 r.1.Rule.To, .float .f64 r.1.Rule.Lo, .float .f64 r.1.Rule.Hi, .int .u64 r.1.Rule.Authority, .int .i64 r.1.Rule.Quota, .bool r.1.On], .int .i64 r.2]) ∧ I.le I' ∧ St w0 w' I' [ownS tyF64 q0_0 r.1.Hold.Gets, ownS tyF2 q0_1 r.1.Hold.Scans, ownS tyF64 q0_2 r.1.Hold.Puts, ownS (tyInt .u8) q0_3 r.1.Hold.Data, ownS ty_api_Write q0_4 r.1.Writes, ownS ty_api_Got q0_5 r.1.R.Gots, ownS (tySl ty_api_Pair) q0_6 r.1.R.Scans, ownS ty_api_Part q0_7 r.1.Parts] R := by
  unfold command_Decode at hm
  refine calls_start (args := [r0_0]) Try.func20 rfl Try.ntmps20 (Nat.le_of_ble_eq_true rfl) ?_
  have hI0 := HL.le.refl I
  refine wp_seq ?_
  refine wp_region_lit ?_
  obtain ⟨b575, w576, ew577, eb578, hst⟩ := hst.box [.int .u8 (0:Int), .int .u64 (0:Int), .int .u64 (0:Int), .int .u64 (0:Int), .int .u64 (0:Int), .int .i64 (0:Int), .int .u64 (0:Int), .int .u64 (0:Int), .int .u64 (0:Int), (.slice none 0 0), (.slice none 0 0), (.slice none 0 0), (.slice none 0 0), (.slice none 0 0), .int .i64 (0:Int), .int .u64 (0:Int), .int .u64 (0:Int), (.slice none 0 0), (.slice none 0 0), .int .u64 (0:Int), (.slice none 0 0), .int .u64 (0:Int), .int .i64 (0:Int), .int .i64 (0:Int), .float .f64 (0:Nat), .float .f64 (0:Nat), .int .u64 (0:Int), .int .i64 (0:Int), .bool false] 45
  refine wl_run (v := .pointer (some ⟨b575, 0, none⟩)) (w' := w576) rfl rfl (x_al (by kernel_rfl) ew577 eb578) ?_
  refine wl_val (v := .int .i64 (0:Int)) rfl rfl rfl ?_
  refine wl_nil ?_
  refine then_n ?_
  refine wp_seq ?_
  refine wp_region_lit ?_
  refine wl_val (v := r0_0) rfl rfl rfl ?_
  obtain ⟨t580, ht581, hm⟩ := bind_some hm
  refine wl_call rfl rfl (x_call Try.call15 rfl (vs := [r0_0]) rfl) ?_
  refine (octet_Read_ref f0_0 hst.to0 ht581).mono ?_
  rintro _ w582 ⟨v585, rfl, hst⟩
  refine ⟨_, rfl, ?_⟩
  replace hst := hst.of1
  obtain ⟨b587, w588, ew589, eb590, hst⟩ := hst.box [.pointer none] 61
  refine wl_run (v := .pointer (some ⟨b587, 0, none⟩)) (w' := w588) rfl rfl (x_al (by kernel_rfl) ew589 eb590) ?_
  replace hst := hst.pull1
  obtain ⟨b592, v593, ⟨rfl, f595⟩, hst'⟩ := at_octet_Reader_open hst
  clear hst
  have hst := hst'
  clear hst'
  replace hst := hst.pull1
  obtain ⟨w596, hr597, hst⟩ := hst.boxStore (P := Try.prog) (t := 61) (cs' := [.pointer (some ⟨b592, 0, none⟩)]) 0 (.pointer (some ⟨b592, 0, none⟩)) Try.sizeOf61 (Nat.le_of_ble_eq_true rfl) (ones_cons rfl ones_nil) (by kernel_rfl)
  refine wl_unit rfl rfl (x_unit hr597) ?_
  refine wl_nil ?_
  refine then_n ?_
  refine wp_seq ?_
  refine wp_region_lit ?_
  refine wl_val (v := .pointer (some ⟨b592, 0, none⟩)) rfl rfl (x_load rfl Try.isAgg61 (hst.bc0 rfl)) ?_
  replace hst := hst.pull1
  replace hst := at_octet_Reader_close (pv := .pointer (some ⟨b592, 0, none⟩)) (x := t580) hst ⟨rfl, f595⟩
  obtain ⟨t598, ht599, hm⟩ := bind_some hm
  refine wl_call rfl rfl (x_call Try.call40 rfl (vs := [.pointer (some ⟨b592, 0, none⟩), .int .i64 (1:Int)]) rfl) ?_
  refine (octet_Reader_Num_ref hst.to1 ht599).mono ?_
  rintro _ w600 ⟨rfl, hst⟩
  refine ⟨_, rfl, ?_⟩
  replace hst := hst.of1
  refine wl_val (v := .int .u8 (IntKind.u8.wrap t598.1)) rfl rfl (by kernel_rfl) ?_
  refine wl_val (v := .agg #[.int .u8 (IntKind.u8.wrap t598.1), .int .u64 (0:Int), .int .u64 (0:Int), .int .u64 (0:Int), .int .u64 (0:Int), .int .i64 (0:Int), .int .u64 (0:Int), .int .u64 (0:Int), .int .u64 (0:Int), (.slice none 0 0), (.slice none 0 0), (.slice none 0 0), (.slice none 0 0), (.slice none 0 0), .int .i64 (0:Int), .int .u64 (0:Int), .int .u64 (0:Int), (.slice none 0 0), (.slice none 0 0), .int .u64 (0:Int), (.slice none 0 0), .int .u64 (0:Int), .int .i64 (0:Int), .int .i64 (0:Int), .float .f64 (0:Nat), .float .f64 (0:Nat), .int .u64 (0:Int), .int .i64 (0:Int), .bool false]) rfl rfl (by kernel_rfl) ?_
  obtain ⟨b619, w620, ew621, eb622, hst⟩ := hst.box [.int .u8 (0:Int), .int .u64 (0:Int), .int .u64 (0:Int), .int .u64 (0:Int), .int .u64 (0:Int), .int .i64 (0:Int), .int .u64 (0:Int), .int .u64 (0:Int), .int .u64 (0:Int), (.slice none 0 0), (.slice none 0 0), (.slice none 0 0), (.slice none 0 0), (.slice none 0 0), .int .i64 (0:Int), .int .u64 (0:Int), .int .u64 (0:Int), (.slice none 0 0), (.slice none 0 0), .int .u64 (0:Int), (.slice none 0 0), .int .u64 (0:Int), .int .i64 (0:Int), .int .i64 (0:Int), .float .f64 (0:Nat), .float .f64 (0:Nat), .int .u64 (0:Int), .int .i64 (0:Int), .bool false] 45
  refine wl_run (v := .pointer (some ⟨b619, 0, none⟩)) (w' := w620) rfl rfl (x_al (by kernel_rfl) ew621 eb622) ?_
  obtain ⟨w624, hr625, hst⟩ := hst.boxStore (P := Try.prog) (t := 45) (cs' := [.int .u8 (IntKind.u8.wrap t598.1), .int .u64 (0:Int), .int .u64 (0:Int), .int .u64 (0:Int), .int .u64 (0:Int), .int .i64 (0:Int), .int .u64 (0:Int), .int .u64 (0:Int), .int .u64 (0:Int), (.slice none 0 0), (.slice none 0 0), (.slice none 0 0), (.slice none 0 0), (.slice none 0 0), .int .i64 (0:Int), .int .u64 (0:Int), .int .u64 (0:Int), (.slice none 0 0), (.slice none 0 0), .int .u64 (0:Int), (.slice none 0 0), .int .u64 (0:Int), .int .i64 (0:Int), .int .i64 (0:Int), .float .f64 (0:Nat), .float .f64 (0:Nat), .int .u64 (0:Int), .int .i64 (0:Int), .bool false]) 0 (.agg #[.int .u8 (IntKind.u8.wrap t598.1), .int .u64 (0:Int), .int .u64 (0:Int), .int .u64 (0:Int), .int .u64 (0:Int), .int .i64 (0:Int), .int .u64 (0:Int), .int .u64 (0:Int), .int .u64 (0:Int), (.slice none 0 0), (.slice none 0 0), (.slice none 0 0), (.slice none 0 0), (.slice none 0 0), .int .i64 (0:Int), .int .u64 (0:Int), .int .u64 (0:Int), (.slice none 0 0), (.slice none 0 0), .int .u64 (0:Int), (.slice none 0 0), .int .u64 (0:Int), .int .i64 (0:Int), .int .i64 (0:Int), .float .f64 (0:Nat), .float .f64 (0:Nat), .int .u64 (0:Int), .int .i64 (0:Int), .bool false]) Try.sizeOf45 (Nat.le_of_ble_eq_true rfl) (ones_cons rfl (ones_cons rfl (ones_cons rfl (ones_cons rfl (ones_cons rfl (ones_cons rfl (ones_cons rfl (ones_cons rfl (ones_cons rfl (ones_cons rfl (ones_cons rfl (ones_cons rfl (ones_cons rfl (ones_cons rfl (ones_cons rfl (ones_cons rfl (ones_cons rfl (ones_cons rfl (ones_cons rfl (ones_cons rfl (ones_cons rfl (ones_cons rfl (ones_cons rfl (ones_cons rfl (ones_cons rfl (ones_cons rfl (ones_cons rfl (ones_cons rfl (ones_cons rfl ones_nil))))))))))))))))))))))))))))) (by kernel_rfl)
  refine wl_unit rfl rfl (x_unit hr625) ?_
  refine wl_nil ?_
  refine then_n ?_
  refine wp_seq ?_
  refine wp_region_lit ?_
  refine wl_val (v := .func (.func 52) #[] #[.pointer (some ⟨b587, 0, none⟩), .pointer (some ⟨b619, 0, none⟩)]) rfl rfl (by kernel_rfl) ?_
  refine wl_val (v := .func (.func 52) #[] #[.pointer (some ⟨b587, 0, none⟩), .pointer (some ⟨b619, 0, none⟩)]) rfl rfl rfl ?_
  refine wl_nil ?_
  refine then_n ?_
  obtain ⟨y1043, hm, hx1044⟩ := joinO_some hm
  refine wp_cut (fun a w => ∃ (I1040 : HL) (z995 : octet_Reader) (z996 : Int) (z997 : Int) (z998 : Int) (z999 : Int) (z1000 : Int) (z1001 : Int) (z1002 : Int) (z1003 : Int) (z1006 : (List Nat)) (z1009 : (List (Nat × Nat))) (z1012 : (List Nat)) (z1015 : (List Int)) (z1018 : (List api_Write)) (z1019 : Int) (z1020 : Int) (z1021 : Int) (z1024 : (List api_Got)) (z1027 : (List (List api_Pair))) (z1028 : Int) (z1031 : (List api_Part)) (z1032 : Int) (z1033 : Int) (z1034 : Int) (z1035 : Nat) (z1036 : Nat) (z1037 : Int) (z1038 : Int) (z1039 : Bool) (v1005 : Value) (v1008 : Value) (v1011 : Value) (v1014 : Value) (v1017 : Value) (v1023 : Value) (v1026 : Value) (v1030 : Value) (σ1041 : Nat → Value), (command_Decode_j0 t598 a0) (z995, z996, z997, z998, z999, z1000, z1001, z1002, z1003, z1006, z1009, z1012, z1015, z1018, z1019, z1020, z1021, z1024, z1027, z1028, z1031, z1032, z1033, z1034, z1035, z1036, z1037, z1038, z1039) = some r ∧ a = Fr 113 (upd (upd (upd (upd σ1041 0 (r0_0)) 2 (.pointer (some ⟨b575, 0, none⟩))) 4 (.pointer (some ⟨b587, 0, none⟩))) 5 (.pointer (some ⟨b619, 0, none⟩))) ∧ I.le I1040 ∧ St w0 w I1040 [cells b575 [.int .u8 (0:Int), .int .u64 (0:Int), .int .u64 (0:Int), .int .u64 (0:Int), .int .u64 (0:Int), .int .i64 (0:Int), .int .u64 (0:Int), .int .u64 (0:Int), .int .u64 (0:Int), (.slice none 0 0), (.slice none 0 0), (.slice none 0 0), (.slice none 0 0), (.slice none 0 0), .int .i64 (0:Int), .int .u64 (0:Int), .int .u64 (0:Int), (.slice none 0 0), (.slice none 0 0), .int .u64 (0:Int), (.slice none 0 0), .int .u64 (0:Int), .int .i64 (0:Int), .int .i64 (0:Int), .float .f64 (0:Nat), .float .f64 (0:Nat), .int .u64 (0:Int), .int .i64 (0:Int), .bool false], cells b587 [.pointer (some ⟨b592, 0, none⟩)], at_octet_Reader (.pointer (some ⟨b592, 0, none⟩)) z995, cells b619 [.int .u8 (IntKind.u8.wrap t598.1), .int .u64 z996, .int .u64 z997, .int .u64 z998, .int .u64 z999, .int .i64 z1000, .int .u64 z1001, .int .u64 z1002, .int .u64 z1003, v1005, v1008, v1011, v1014, v1017, .int .i64 z1019, .int .u64 z1020, .int .u64 z1021, v1023, v1026, .int .u64 z1028, v1030, .int .u64 z1032, .int .i64 z1033, .int .i64 z1034, .float .f64 z1035, .float .f64 z1036, .int .u64 z1037, .int .i64 z1038, .bool z1039], ownS tyF64 v1005 z1006, ownS tyF2 v1008 z1009, ownS tyF64 v1011 z1012, ownS (tyInt .u8) v1014 z1015, ownS ty_api_Write v1017 z1018, ownS ty_api_Got v1023 z1024, ownS (tySl ty_api_Pair) v1026 z1027, ownS ty_api_Part v1030 z1031] R) ?_ ?_
  · skip
    have hL1045 := HL.le.refl I
    refine wp_seq ?_
    refine wp_region_lit ?_
    refine wl_val (v := .pointer (some ⟨b619, 0, none⟩)) rfl rfl (x_field rfl Try.underlying45 rfl Try.sizeOf5 rfl) ?_
    refine wl_val (v := .int .u8 (IntKind.u8.wrap t598.1)) rfl rfl (x_load rfl Try.isAgg5 (hst.bc0 rfl)) ?_
    refine wl_nil ?_
    refine then_n ?_
    refine wp_block ?_
    refine wp_seq ?_
    refine wp_region_lit ?_
    refine wl_val (v := .bool ((IntKind.u8.wrap t598.1) == (1:Int))) rfl rfl rfl ?_
    refine wl_val (v := .bool ((IntKind.u8.wrap t598.1) == (1:Int))) rfl rfl rfl ?_
    refine wl_nil ?_
    refine then_n ?_
    refine bsplit ((IntKind.u8.wrap t598.1) == (1:Int)) (fun hc626 => ?_) (fun hc626 => ?_)
    · skip
      replace hm := bif_t hc626 hm
      refine wp_ift (congrArg Value.bool hc626) ?_
      refine wp_region_lit ?_
      refine wl_val (v := .pointer (some ⟨b592, 0, none⟩)) rfl rfl (x_load rfl Try.isAgg61 (hst.bc2 rfl)) ?_
      replace hst := hst.pull1
      obtain ⟨t627, ht628, hm⟩ := bind_some hm
      refine wl_call rfl rfl (x_call Try.call40 rfl (vs := [.pointer (some ⟨b592, 0, none⟩), .int .i64 (8:Int)]) rfl) ?_
      refine (octet_Reader_Num_ref hst.to1 ht628).mono ?_
      rintro _ w629 ⟨rfl, hst⟩
      refine ⟨_, rfl, ?_⟩
      replace hst := hst.of1
      refine wl_val (v := .pointer (some ⟨b619, 3, none⟩)) rfl rfl (x_field rfl Try.underlying45 rfl Try.sizeOf27 rfl) ?_
      replace hst := hst.pull1
      obtain ⟨w632, hr633, hst⟩ := hst.boxStore (P := Try.prog) (t := 27) (cs' := [.int .u8 (IntKind.u8.wrap t598.1), .int .u64 (0:Int), .int .u64 (0:Int), .int .u64 t627.1, .int .u64 (0:Int), .int .i64 (0:Int), .int .u64 (0:Int), .int .u64 (0:Int), .int .u64 (0:Int), (.slice none 0 0), (.slice none 0 0), (.slice none 0 0), (.slice none 0 0), (.slice none 0 0), .int .i64 (0:Int), .int .u64 (0:Int), .int .u64 (0:Int), (.slice none 0 0), (.slice none 0 0), .int .u64 (0:Int), (.slice none 0 0), .int .u64 (0:Int), .int .i64 (0:Int), .int .i64 (0:Int), .float .f64 (0:Nat), .float .f64 (0:Nat), .int .u64 (0:Int), .int .i64 (0:Int), .bool false]) 3 (.int .u64 t627.1) Try.sizeOf27 (Nat.le_of_ble_eq_true rfl) (ones_cons rfl ones_nil) (by kernel_rfl)
      refine wl_unit rfl rfl (x_unit hr633) ?_
      refine wl_nil ?_
      refine blk_n ?_
      refine then_n ?_
      replace hst := hst.own_nil tyF64
      replace hst := hst.own_nil tyF2
      replace hst := hst.own_nil tyF64
      replace hst := hst.own_nil (tyInt .u8)
      replace hst := hst.own_nil ty_api_Write
      replace hst := hst.own_nil ty_api_Got
      replace hst := hst.own_nil (tySl ty_api_Pair)
      replace hst := hst.own_nil ty_api_Part
      replace hst := hst.pull1
      replace hst := hst.pull2
      replace hst := hst.pull3
      replace hst := hst.pull4
      replace hst := hst.pull5
      replace hst := hst.pull6
      replace hst := hst.pull7
      replace hst := hst.pull8
      replace hst := hst.pull9
      replace hst := hst.pull10
      replace hst := hst.pull11
      replace hst := hst.keep12
      obtain rfl := some_inj hm
      exact ⟨_, t627.2, (0:Int), (0:Int), t627.1, (0:Int), (0:Int), (0:Int), (0:Int), (0:Int), ([]), ([]), ([]), ([]), ([]), (0:Int), (0:Int), (0:Int), ([]), ([]), (0:Int), ([]), (0:Int), (0:Int), (0:Int), (0:Nat), (0:Nat), (0:Int), (0:Int), false, (.slice none 0 0), (.slice none 0 0), (.slice none 0 0), (.slice none 0 0), (.slice none 0 0), (.slice none 0 0), (.slice none 0 0), (.slice none 0 0), _, hx1044, ((fr_upd (t := 0) (v := r0_0) rfl).trans ((fr_upd (t := 2) (v := .pointer (some ⟨b575, 0, none⟩)) rfl).trans ((fr_upd (t := 4) (v := .pointer (some ⟨b587, 0, none⟩)) rfl).trans ((fr_upd (t := 5) (v := .pointer (some ⟨b619, 0, none⟩)) rfl).trans rfl)))), hL1045, hst⟩
    · skip
      replace hm := bif_f hc626 hm
      refine wp_iff (congrArg Value.bool hc626) ?_
      refine wp_seq ?_
      refine wp_region_lit ?_
      refine wl_val (v := .bool ((IntKind.u8.wrap t598.1) == (2:Int))) rfl rfl rfl ?_
      refine wl_val (v := .bool ((IntKind.u8.wrap t598.1) == (2:Int))) rfl rfl rfl ?_
      refine wl_nil ?_
      refine then_n ?_
      refine bsplit ((IntKind.u8.wrap t598.1) == (2:Int)) (fun hc634 => ?_) (fun hc634 => ?_)
      · skip
        replace hm := bif_t hc634 hm
        refine wp_ift (congrArg Value.bool hc634) ?_
        refine wp_region_lit ?_
        refine wl_val (v := .pointer (some ⟨b592, 0, none⟩)) rfl rfl (x_load rfl Try.isAgg61 (hst.bc2 rfl)) ?_
        replace hst := hst.pull1
        obtain ⟨t635, ht636, hm⟩ := bind_some hm
        refine wl_call rfl rfl (x_call Try.call53 rfl (vs := [.pointer (some ⟨b592, 0, none⟩)]) rfl) ?_
        refine (locks_Read_ref hst.to1 ht636).mono ?_
        rintro _ w637 ⟨v640, v642, v644, v646, rfl, hst⟩
        refine ⟨_, rfl, ?_⟩
        replace hst := hst.of5
        refine wl_val (v := .pointer (some ⟨b619, 6, none⟩)) rfl rfl (x_field rfl Try.underlying45 rfl Try.sizeOf34 rfl) ?_
        replace hst := hst.pull5
        obtain ⟨w648, hr649, hst⟩ := hst.boxStore (P := Try.prog) (t := 34) (cs' := [.int .u8 (IntKind.u8.wrap t598.1), .int .u64 (0:Int), .int .u64 (0:Int), .int .u64 (0:Int), .int .u64 (0:Int), .int .i64 (0:Int), .int .u64 t635.1.ID.Session, .int .u64 t635.1.ID.Seq, .int .u64 t635.1.Epoch, v640, v642, v644, v646, (.slice none 0 0), .int .i64 (0:Int), .int .u64 (0:Int), .int .u64 (0:Int), (.slice none 0 0), (.slice none 0 0), .int .u64 (0:Int), (.slice none 0 0), .int .u64 (0:Int), .int .i64 (0:Int), .int .i64 (0:Int), .float .f64 (0:Nat), .float .f64 (0:Nat), .int .u64 (0:Int), .int .i64 (0:Int), .bool false]) 6 (.agg #[.int .u64 t635.1.ID.Session, .int .u64 t635.1.ID.Seq, .int .u64 t635.1.Epoch, v640, v642, v644, v646]) Try.sizeOf34 (Nat.le_of_ble_eq_true rfl) (ones_cons rfl (ones_cons rfl (ones_cons rfl (ones_cons (one_of_sliceV hst.sv1) (ones_cons (one_of_sliceV hst.sv2) (ones_cons (one_of_sliceV hst.sv3) (ones_cons (one_of_sliceV hst.sv4) ones_nil))))))) (by kernel_rfl)
        refine wl_unit rfl rfl (x_unit hr649) ?_
        refine wl_nil ?_
        refine blk_n ?_
        refine then_n ?_
        replace hst := hst.own_nil ty_api_Write
        replace hst := hst.own_nil ty_api_Got
        replace hst := hst.own_nil (tySl ty_api_Pair)
        replace hst := hst.own_nil ty_api_Part
        replace hst := hst.pull1
        replace hst := hst.pull2
        replace hst := hst.pull3
        replace hst := hst.pull8
        replace hst := hst.pull8
        replace hst := hst.pull8
        replace hst := hst.pull8
        replace hst := hst.pull8
        replace hst := hst.pull9
        replace hst := hst.pull10
        replace hst := hst.pull11
        replace hst := hst.keep12
        obtain rfl := some_inj hm
        exact ⟨_, t635.2, (0:Int), (0:Int), (0:Int), (0:Int), (0:Int), t635.1.ID.Session, t635.1.ID.Seq, t635.1.Epoch, t635.1.Gets, t635.1.Scans, t635.1.Puts, t635.1.Data, ([]), (0:Int), (0:Int), (0:Int), ([]), ([]), (0:Int), ([]), (0:Int), (0:Int), (0:Int), (0:Nat), (0:Nat), (0:Int), (0:Int), false, v640, v642, v644, v646, (.slice none 0 0), (.slice none 0 0), (.slice none 0 0), (.slice none 0 0), _, hx1044, ((fr_upd (t := 0) (v := r0_0) rfl).trans ((fr_upd (t := 2) (v := .pointer (some ⟨b575, 0, none⟩)) rfl).trans ((fr_upd (t := 4) (v := .pointer (some ⟨b587, 0, none⟩)) rfl).trans ((fr_upd (t := 5) (v := .pointer (some ⟨b619, 0, none⟩)) rfl).trans rfl)))), hL1045, hst⟩
      · skip
        replace hm := bif_f hc634 hm
        refine wp_iff (congrArg Value.bool hc634) ?_
        refine wp_seq ?_
        refine wp_region_lit ?_
        refine wl_val (v := .bool ((IntKind.u8.wrap t598.1) == (3:Int))) rfl rfl rfl ?_
        refine wl_val (v := .bool ((IntKind.u8.wrap t598.1) == (3:Int))) rfl rfl rfl ?_
        refine wl_nil ?_
        refine then_n ?_
        refine bsplit ((IntKind.u8.wrap t598.1) == (3:Int)) (fun hc650 => ?_) (fun hc650 => ?_)
        · skip
          replace hm := bif_t hc650 hm
          refine wp_ift (congrArg Value.bool hc650) ?_
          refine wp_seq ?_
          refine wp_region_lit ?_
          refine wl_val (v := .func (.func 52) #[] #[.pointer (some ⟨b587, 0, none⟩), .pointer (some ⟨b619, 0, none⟩)]) rfl rfl rfl ?_
          obtain ⟨y667, hq668, hm⟩ := bind_some hm
          refine wl_call rfl rfl (x_callv Try.call52 (caps := [.pointer (some ⟨b587, 0, none⟩), .pointer (some ⟨b619, 0, none⟩)]) rfl (vs := []) rfl) ?_
          refine Calls.mono (show Calls Try.prog 52 #[.pointer (some ⟨b587, 0, none⟩), .pointer (some ⟨b619, 0, none⟩)] _ (fun e w' => ∃ (z663 : octet_Reader) (z664 : Int) (z665 : Int), y667 = (z663, z664, z665) ∧ e = .returned (.tuple #[]) ∧ St w0 w' I [cells b575 [.int .u8 (0:Int), .int .u64 (0:Int), .int .u64 (0:Int), .int .u64 (0:Int), .int .u64 (0:Int), .int .i64 (0:Int), .int .u64 (0:Int), .int .u64 (0:Int), .int .u64 (0:Int), (.slice none 0 0), (.slice none 0 0), (.slice none 0 0), (.slice none 0 0), (.slice none 0 0), .int .i64 (0:Int), .int .u64 (0:Int), .int .u64 (0:Int), (.slice none 0 0), (.slice none 0 0), .int .u64 (0:Int), (.slice none 0 0), .int .u64 (0:Int), .int .i64 (0:Int), .int .i64 (0:Int), .float .f64 (0:Nat), .float .f64 (0:Nat), .int .u64 (0:Int), .int .i64 (0:Int), .bool false], at_octet_Reader (.pointer (some ⟨b592, 0, none⟩)) z663, cells b587 [.pointer (some ⟨b592, 0, none⟩)], cells b619 [.int .u8 (IntKind.u8.wrap t598.1), .int .u64 z664, .int .u64 z665, .int .u64 (0:Int), .int .u64 (0:Int), .int .i64 (0:Int), .int .u64 (0:Int), .int .u64 (0:Int), .int .u64 (0:Int), (.slice none 0 0), (.slice none 0 0), (.slice none 0 0), (.slice none 0 0), (.slice none 0 0), .int .i64 (0:Int), .int .u64 (0:Int), .int .u64 (0:Int), (.slice none 0 0), (.slice none 0 0), .int .u64 (0:Int), (.slice none 0 0), .int .u64 (0:Int), .int .i64 (0:Int), .int .i64 (0:Int), .float .f64 (0:Nat), .float .f64 (0:Nat), .int .u64 (0:Int), .int .i64 (0:Int), .bool false]] R) from ?_) ?_
          · skip
            clear hm; have hm := hq668
            refine calls_start (args := [.pointer (some ⟨b587, 0, none⟩), .pointer (some ⟨b619, 0, none⟩)]) Try.func52 rfl Try.ntmps52 (Nat.le_of_ble_eq_true rfl) ?_
            refine wp_region_St hst 7 [0, 1, 2, 3, 4, 5, 6] [0, 1, 0, 7, 15, 31, 63] [] rfl (by kernel_rfl) (by kernel_rfl) Try.mixed (by kernel_rfl) ?_
            refine ws_q (v := .pointer (some ⟨b592, 0, none⟩)) 0 [1, 2, 3, 4, 5, 6] (by kernel_rfl) rfl rfl (yi_run rfl (fun w hst => x_load rfl Try.isAgg61 (hst.bc2 rfl))) ?_
            refine ws_q (v := .pointer (some ⟨b592, 0, none⟩)) 2 [1, 3, 4, 5, 6] (by kernel_rfl) rfl rfl (yi_run rfl (fun w hst => x_load rfl Try.isAgg61 (hst.bc2 rfl))) ?_
            refine ws_e1 1 (by kernel_rfl) ?_
            refine nxe [3, 4, 5, 6] (by kernel_rfl) rfl rfl ?_
            clear hst
            intro w hst
            replace hst := hst.pull1
            obtain ⟨t651, ht652, hm⟩ := bind_some hm
            refine we_call rfl (x_call Try.call40 rfl (vs := [.pointer (some ⟨b592, 0, none⟩), .int .i64 (8:Int)]) rfl) ?_
            refine (octet_Reader_Num_ref hst.to1 ht652).mono ?_
            rintro _ w653 ⟨rfl, hst⟩
            refine ⟨_, rfl, ?_⟩
            replace hst := hst.of1
            refine ws_next (pend' := [(2, .pointer (some ⟨b592, 0, none⟩))]) hst (by kernel_rfl) (pk_cons rfl (yi_run rfl (fun w hst => x_load rfl Try.isAgg61 (hst.bc2 rfl))) pk_nil) ?_
            refine ws_e1 3 (by kernel_rfl) ?_
            refine nxe [4, 5, 6] (by kernel_rfl) rfl rfl ?_
            clear hst
            intro w hst
            obtain ⟨t656, ht657, hm⟩ := bind_some hm
            refine we_call rfl (x_call Try.call40 rfl (vs := [.pointer (some ⟨b592, 0, none⟩), .int .i64 (8:Int)]) rfl) ?_
            refine (octet_Reader_Num_ref hst.to1 ht657).mono ?_
            rintro _ w658 ⟨rfl, hst⟩
            refine ⟨_, rfl, ?_⟩
            replace hst := hst.of1
            refine ws_next (pend' := []) hst (by kernel_rfl) pk_nil ?_
            refine ws_q (v := .agg #[.int .u64 t651.1, .int .u64 t656.1]) 4 [5, 6] (by kernel_rfl) rfl rfl (yi_run rfl (fun w hst => by kernel_rfl)) ?_
            refine ws_q (v := .pointer (some ⟨b619, 1, none⟩)) 5 [6] (by kernel_rfl) rfl rfl (yi_run rfl (fun w hst => x_field rfl Try.underlying45 rfl Try.sizeOf29 rfl)) ?_
            refine ws_e1 6 (by kernel_rfl) ?_
            refine nxe [] (by kernel_rfl) rfl rfl ?_
            clear hst
            intro w hst
            replace hst := hst.pull1
            obtain ⟨w661, hr662, hst⟩ := hst.boxStore (P := Try.prog) (t := 29) (cs' := [.int .u8 (IntKind.u8.wrap t598.1), .int .u64 t651.1, .int .u64 t656.1, .int .u64 (0:Int), .int .u64 (0:Int), .int .i64 (0:Int), .int .u64 (0:Int), .int .u64 (0:Int), .int .u64 (0:Int), (.slice none 0 0), (.slice none 0 0), (.slice none 0 0), (.slice none 0 0), (.slice none 0 0), .int .i64 (0:Int), .int .u64 (0:Int), .int .u64 (0:Int), (.slice none 0 0), (.slice none 0 0), .int .u64 (0:Int), (.slice none 0 0), .int .u64 (0:Int), .int .i64 (0:Int), .int .i64 (0:Int), .float .f64 (0:Nat), .float .f64 (0:Nat), .int .u64 (0:Int), .int .i64 (0:Int), .bool false]) 1 (.agg #[.int .u64 t651.1, .int .u64 t656.1]) Try.sizeOf29 (Nat.le_of_ble_eq_true rfl) (ones_cons rfl (ones_cons rfl ones_nil)) (by kernel_rfl)
            refine we_unit rfl (x_unit hr662) ?_
            refine ws_next (pend' := []) hst (by kernel_rfl) pk_nil ?_
            refine ws_nil ?_
            intro w hst
            refine post_end (vs := []) Try.results52 rvs_nil ?_
            replace hst := hst.pull2
            replace hst := hst.pull2
            replace hst := hst.pull3
            replace hst := hst.keep4
            obtain rfl := some_inj hm
            exact ⟨t656.2, t651.1, t656.1, rfl, rfl, hst⟩
          clear hst
          rintro _ w669 ⟨z663, z664, z665, rfl, rfl, hst⟩
          refine ⟨_, rfl, ?_⟩
          try dsimp only at hm
          refine wl_nil ?_
          refine then_n ?_
          refine wp_seq ?_
          refine wp_region_St hst 13 [0, 1, 2, 3, 4, 5, 6, 7, 8, 9, 10, 11, 12] [0, 1, 3, 0, 11, 0, 59, 7, 255, 511, 1023, 2047, 4095] [] rfl (by kernel_rfl) (by kernel_rfl) Try.mixed (by kernel_rfl) ?_
          refine ws_q (v := .pointer (some ⟨b592, 0, none⟩)) 0 [1, 2, 3, 4, 5, 6, 7, 8, 9, 10, 11, 12] (by kernel_rfl) rfl rfl (yi_run rfl (fun w hst => x_load rfl Try.isAgg61 (hst.bc2 rfl))) ?_
          refine ws_q (v := .pointer (some ⟨b592, 0, none⟩)) 3 [1, 2, 4, 5, 6, 7, 8, 9, 10, 11, 12] (by kernel_rfl) rfl rfl (yi_run rfl (fun w hst => x_load rfl Try.isAgg61 (hst.bc2 rfl))) ?_
          refine ws_q (v := .pointer (some ⟨b592, 0, none⟩)) 5 [1, 2, 4, 6, 7, 8, 9, 10, 11, 12] (by kernel_rfl) rfl rfl (yi_run rfl (fun w hst => x_load rfl Try.isAgg61 (hst.bc2 rfl))) ?_
          refine ws_e1 1 (by kernel_rfl) ?_
          refine nxe [2, 4, 6, 7, 8, 9, 10, 11, 12] (by kernel_rfl) rfl rfl ?_
          clear hst
          intro w hst
          replace hst := hst.pull1
          obtain ⟨t670, ht671, hm⟩ := bind_some hm
          refine we_call rfl (x_call Try.call40 rfl (vs := [.pointer (some ⟨b592, 0, none⟩), .int .i64 (1:Int)]) rfl) ?_
          refine (octet_Reader_Num_ref hst.to1 ht671).mono ?_
          rintro _ w672 ⟨rfl, hst⟩
          refine ⟨_, rfl, ?_⟩
          replace hst := hst.of1
          refine ws_next (pend' := [(5, .pointer (some ⟨b592, 0, none⟩)), (3, .pointer (some ⟨b592, 0, none⟩))]) hst (by kernel_rfl) (pk_cons rfl (yi_run rfl (fun w hst => x_load rfl Try.isAgg61 (hst.bc2 rfl))) (pk_cons rfl (yi_run rfl (fun w hst => x_load rfl Try.isAgg61 (hst.bc2 rfl))) pk_nil)) ?_
          refine ws_q (v := .int .i64 (IntKind.i64.wrap t670.1)) 2 [4, 6, 7, 8, 9, 10, 11, 12] (by kernel_rfl) rfl rfl (yi_run rfl (fun w hst => by kernel_rfl)) ?_
          refine ws_q (v := .pointer (some ⟨b619, 5, none⟩)) 7 [4, 6, 8, 9, 10, 11, 12] (by kernel_rfl) rfl rfl (yi_run rfl (fun w hst => x_field rfl Try.underlying45 rfl Try.sizeOf30 rfl)) ?_
          refine ws_e1 4 (by kernel_rfl) ?_
          refine nxe [6, 8, 9, 10, 11, 12] (by kernel_rfl) rfl rfl ?_
          clear hst
          intro w hst
          obtain ⟨t675, ht676, hm⟩ := bind_some hm
          refine we_call rfl (x_call Try.call40 rfl (vs := [.pointer (some ⟨b592, 0, none⟩), .int .i64 (8:Int)]) rfl) ?_
          refine (octet_Reader_Num_ref hst.to1 ht676).mono ?_
          rintro _ w677 ⟨rfl, hst⟩
          refine ⟨_, rfl, ?_⟩
          replace hst := hst.of1
          refine ws_next (pend' := [(7, .pointer (some ⟨b619, 5, none⟩)), (2, .int .i64 (IntKind.i64.wrap t670.1)), (5, .pointer (some ⟨b592, 0, none⟩))]) hst (by kernel_rfl) (pk_cons rfl (yi_run rfl (fun w hst => x_field rfl Try.underlying45 rfl Try.sizeOf30 rfl)) (pk_cons rfl (yi_run rfl (fun w hst => by kernel_rfl)) (pk_cons rfl (yi_run rfl (fun w hst => x_load rfl Try.isAgg61 (hst.bc2 rfl))) pk_nil))) ?_
          refine ws_e1 6 (by kernel_rfl) ?_
          refine nxe [8, 9, 10, 11, 12] (by kernel_rfl) rfl rfl ?_
          clear hst
          intro w hst
          obtain ⟨t680, ht681, hm⟩ := bind_some hm
          refine we_call rfl (x_call Try.call40 rfl (vs := [.pointer (some ⟨b592, 0, none⟩), .int .i64 (8:Int)]) rfl) ?_
          refine (octet_Reader_Num_ref hst.to1 ht681).mono ?_
          rintro _ w682 ⟨rfl, hst⟩
          refine ⟨_, rfl, ?_⟩
          replace hst := hst.of1
          refine ws_next (pend' := [(7, .pointer (some ⟨b619, 5, none⟩)), (2, .int .i64 (IntKind.i64.wrap t670.1))]) hst (by kernel_rfl) (pk_cons rfl (yi_run rfl (fun w hst => x_field rfl Try.underlying45 rfl Try.sizeOf30 rfl)) (pk_cons rfl (yi_run rfl (fun w hst => by kernel_rfl)) pk_nil)) ?_
          refine ws_e1 8 (by kernel_rfl) ?_
          refine nxe [9, 10, 11, 12] (by kernel_rfl) rfl rfl ?_
          clear hst
          intro w hst
          replace hst := hst.pull3
          obtain ⟨w685, hr686, hst⟩ := hst.boxStore (P := Try.prog) (t := 30) (cs' := [.int .u8 (IntKind.u8.wrap t598.1), .int .u64 z664, .int .u64 z665, .int .u64 (0:Int), .int .u64 (0:Int), .int .i64 (IntKind.i64.wrap t670.1), .int .u64 (0:Int), .int .u64 (0:Int), .int .u64 (0:Int), (.slice none 0 0), (.slice none 0 0), (.slice none 0 0), (.slice none 0 0), (.slice none 0 0), .int .i64 (0:Int), .int .u64 (0:Int), .int .u64 (0:Int), (.slice none 0 0), (.slice none 0 0), .int .u64 (0:Int), (.slice none 0 0), .int .u64 (0:Int), .int .i64 (0:Int), .int .i64 (0:Int), .float .f64 (0:Nat), .float .f64 (0:Nat), .int .u64 (0:Int), .int .i64 (0:Int), .bool false]) 5 (.int .i64 (IntKind.i64.wrap t670.1)) Try.sizeOf30 (Nat.le_of_ble_eq_true rfl) (ones_cons rfl ones_nil) (by kernel_rfl)
          refine we_unit rfl (x_unit hr686) ?_
          refine ws_next (pend' := []) hst (by kernel_rfl) pk_nil ?_
          refine ws_q (v := .pointer (some ⟨b619, 3, none⟩)) 9 [10, 11, 12] (by kernel_rfl) rfl rfl (yi_run rfl (fun w hst => x_field rfl Try.underlying45 rfl Try.sizeOf27 rfl)) ?_
          refine ws_e1 10 (by kernel_rfl) ?_
          refine nxe [11, 12] (by kernel_rfl) rfl rfl ?_
          clear hst
          intro w hst
          obtain ⟨w687, hr688, hst⟩ := hst.boxStore (P := Try.prog) (t := 27) (cs' := [.int .u8 (IntKind.u8.wrap t598.1), .int .u64 z664, .int .u64 z665, .int .u64 t675.1, .int .u64 (0:Int), .int .i64 (IntKind.i64.wrap t670.1), .int .u64 (0:Int), .int .u64 (0:Int), .int .u64 (0:Int), (.slice none 0 0), (.slice none 0 0), (.slice none 0 0), (.slice none 0 0), (.slice none 0 0), .int .i64 (0:Int), .int .u64 (0:Int), .int .u64 (0:Int), (.slice none 0 0), (.slice none 0 0), .int .u64 (0:Int), (.slice none 0 0), .int .u64 (0:Int), .int .i64 (0:Int), .int .i64 (0:Int), .float .f64 (0:Nat), .float .f64 (0:Nat), .int .u64 (0:Int), .int .i64 (0:Int), .bool false]) 3 (.int .u64 t675.1) Try.sizeOf27 (Nat.le_of_ble_eq_true rfl) (ones_cons rfl ones_nil) (by kernel_rfl)
          refine we_unit rfl (x_unit hr688) ?_
          refine ws_next (pend' := []) hst (by kernel_rfl) pk_nil ?_
          refine ws_q (v := .pointer (some ⟨b619, 4, none⟩)) 11 [12] (by kernel_rfl) rfl rfl (yi_run rfl (fun w hst => x_field rfl Try.underlying45 rfl Try.sizeOf27 rfl)) ?_
          refine ws_e1 12 (by kernel_rfl) ?_
          refine nxe [] (by kernel_rfl) rfl rfl ?_
          clear hst
          intro w hst
          obtain ⟨w689, hr690, hst⟩ := hst.boxStore (P := Try.prog) (t := 27) (cs' := [.int .u8 (IntKind.u8.wrap t598.1), .int .u64 z664, .int .u64 z665, .int .u64 t675.1, .int .u64 t680.1, .int .i64 (IntKind.i64.wrap t670.1), .int .u64 (0:Int), .int .u64 (0:Int), .int .u64 (0:Int), (.slice none 0 0), (.slice none 0 0), (.slice none 0 0), (.slice none 0 0), (.slice none 0 0), .int .i64 (0:Int), .int .u64 (0:Int), .int .u64 (0:Int), (.slice none 0 0), (.slice none 0 0), .int .u64 (0:Int), (.slice none 0 0), .int .u64 (0:Int), .int .i64 (0:Int), .int .i64 (0:Int), .float .f64 (0:Nat), .float .f64 (0:Nat), .int .u64 (0:Int), .int .i64 (0:Int), .bool false]) 4 (.int .u64 t680.1) Try.sizeOf27 (Nat.le_of_ble_eq_true rfl) (ones_cons rfl ones_nil) (by kernel_rfl)
          refine we_unit rfl (x_unit hr690) ?_
          refine ws_next (pend' := []) hst (by kernel_rfl) pk_nil ?_
          refine ws_nil ?_
          intro w hst
          refine then_n ?_
          refine wp_region_lit ?_
          refine wl_val (v := .pointer (some ⟨b592, 0, none⟩)) rfl rfl (x_load rfl Try.isAgg61 (hst.bc3 rfl)) ?_
          replace hst := hst.pull1
          obtain ⟨t691, ht692, hm⟩ := bind_some hm
          refine wl_call rfl rfl (x_call Try.call54 rfl (vs := [.pointer (some ⟨b592, 0, none⟩)]) rfl) ?_
          refine (command_readWrites_ref hst.to1 ht692).mono ?_
          rintro _ w693 ⟨I694, v696, rfl, hI695, hst⟩
          refine ⟨_, rfl, ?_⟩
          replace hst := hst.of2
          replace f0_0 := f0_0.mono (ro_le hI695)
          replace f595 := f595.mono (ro_le hI695)
          replace hI0 := hI0.trans hI695
          replace hL1045 := hL1045.trans hI695
          refine wl_val (v := .pointer (some ⟨b619, 13, none⟩)) rfl rfl (x_field rfl Try.underlying45 rfl Try.sizeOf35 rfl) ?_
          replace hst := hst.pull2
          obtain ⟨w698, hr699, hst⟩ := hst.boxStore1 (P := Try.prog) (t := 35) (cs' := [.int .u8 (IntKind.u8.wrap t598.1), .int .u64 z664, .int .u64 z665, .int .u64 t675.1, .int .u64 t680.1, .int .i64 (IntKind.i64.wrap t670.1), .int .u64 (0:Int), .int .u64 (0:Int), .int .u64 (0:Int), (.slice none 0 0), (.slice none 0 0), (.slice none 0 0), (.slice none 0 0), v696, .int .i64 (0:Int), .int .u64 (0:Int), .int .u64 (0:Int), (.slice none 0 0), (.slice none 0 0), .int .u64 (0:Int), (.slice none 0 0), .int .u64 (0:Int), .int .i64 (0:Int), .int .i64 (0:Int), .float .f64 (0:Nat), .float .f64 (0:Nat), .int .u64 (0:Int), .int .i64 (0:Int), .bool false]) 13 v696 (one_of_sliceV hst.sv1) Try.sizeOf35 rfl rfl
          refine wl_unit rfl rfl (x_unit hr699) ?_
          refine wl_nil ?_
          refine blk_n ?_
          refine then_n ?_
          replace hst := hst.own_nil tyF64
          replace hst := hst.own_nil tyF2
          replace hst := hst.own_nil tyF64
          replace hst := hst.own_nil (tyInt .u8)
          replace hst := hst.own_nil ty_api_Got
          replace hst := hst.own_nil (tySl ty_api_Pair)
          replace hst := hst.own_nil ty_api_Part
          replace hst := hst.pull1
          replace hst := hst.pull2
          replace hst := hst.pull8
          replace hst := hst.pull4
          replace hst := hst.pull5
          replace hst := hst.pull6
          replace hst := hst.pull7
          replace hst := hst.pull8
          replace hst := hst.pull9
          replace hst := hst.pull11
          replace hst := hst.pull11
          replace hst := hst.keep12
          obtain rfl := some_inj hm
          exact ⟨_, t691.2, z664, z665, t675.1, t680.1, (IntKind.i64.wrap t670.1), (0:Int), (0:Int), (0:Int), ([]), ([]), ([]), ([]), t691.1, (0:Int), (0:Int), (0:Int), ([]), ([]), (0:Int), ([]), (0:Int), (0:Int), (0:Int), (0:Nat), (0:Nat), (0:Int), (0:Int), false, (.slice none 0 0), (.slice none 0 0), (.slice none 0 0), (.slice none 0 0), v696, (.slice none 0 0), (.slice none 0 0), (.slice none 0 0), _, hx1044, ((fr_upd (t := 0) (v := r0_0) rfl).trans ((fr_upd (t := 2) (v := .pointer (some ⟨b575, 0, none⟩)) rfl).trans ((fr_upd (t := 4) (v := .pointer (some ⟨b587, 0, none⟩)) rfl).trans ((fr_upd (t := 5) (v := .pointer (some ⟨b619, 0, none⟩)) rfl).trans rfl)))), hL1045, hst⟩
        · skip
          replace hm := bif_f hc650 hm
          refine wp_iff (congrArg Value.bool hc650) ?_
          refine wp_seq ?_
          refine wp_region_lit ?_
          refine wl_val (v := .bool ((IntKind.u8.wrap t598.1) == (4:Int))) rfl rfl rfl ?_
          refine wl_val (v := .bool ((IntKind.u8.wrap t598.1) == (4:Int))) rfl rfl rfl ?_
          refine wl_nil ?_
          refine then_n ?_
          refine bsplit ((IntKind.u8.wrap t598.1) == (4:Int)) (fun hc700 => ?_) (fun hc700 => ?_)
          · skip
            replace hm := bif_t hc700 hm
            refine wp_ift (congrArg Value.bool hc700) ?_
            refine wp_seq ?_
            refine wp_region_lit ?_
            refine wl_val (v := .func (.func 52) #[] #[.pointer (some ⟨b587, 0, none⟩), .pointer (some ⟨b619, 0, none⟩)]) rfl rfl rfl ?_
            obtain ⟨y717, hq718, hm⟩ := bind_some hm
            refine wl_call rfl rfl (x_callv Try.call52 (caps := [.pointer (some ⟨b587, 0, none⟩), .pointer (some ⟨b619, 0, none⟩)]) rfl (vs := []) rfl) ?_
            refine Calls.mono (show Calls Try.prog 52 #[.pointer (some ⟨b587, 0, none⟩), .pointer (some ⟨b619, 0, none⟩)] _ (fun e w' => ∃ (z713 : octet_Reader) (z714 : Int) (z715 : Int), y717 = (z713, z714, z715) ∧ e = .returned (.tuple #[]) ∧ St w0 w' I [cells b575 [.int .u8 (0:Int), .int .u64 (0:Int), .int .u64 (0:Int), .int .u64 (0:Int), .int .u64 (0:Int), .int .i64 (0:Int), .int .u64 (0:Int), .int .u64 (0:Int), .int .u64 (0:Int), (.slice none 0 0), (.slice none 0 0), (.slice none 0 0), (.slice none 0 0), (.slice none 0 0), .int .i64 (0:Int), .int .u64 (0:Int), .int .u64 (0:Int), (.slice none 0 0), (.slice none 0 0), .int .u64 (0:Int), (.slice none 0 0), .int .u64 (0:Int), .int .i64 (0:Int), .int .i64 (0:Int), .float .f64 (0:Nat), .float .f64 (0:Nat), .int .u64 (0:Int), .int .i64 (0:Int), .bool false], at_octet_Reader (.pointer (some ⟨b592, 0, none⟩)) z713, cells b587 [.pointer (some ⟨b592, 0, none⟩)], cells b619 [.int .u8 (IntKind.u8.wrap t598.1), .int .u64 z714, .int .u64 z715, .int .u64 (0:Int), .int .u64 (0:Int), .int .i64 (0:Int), .int .u64 (0:Int), .int .u64 (0:Int), .int .u64 (0:Int), (.slice none 0 0), (.slice none 0 0), (.slice none 0 0), (.slice none 0 0), (.slice none 0 0), .int .i64 (0:Int), .int .u64 (0:Int), .int .u64 (0:Int), (.slice none 0 0), (.slice none 0 0), .int .u64 (0:Int), (.slice none 0 0), .int .u64 (0:Int), .int .i64 (0:Int), .int .i64 (0:Int), .float .f64 (0:Nat), .float .f64 (0:Nat), .int .u64 (0:Int), .int .i64 (0:Int), .bool false]] R) from ?_) ?_
            · skip
              clear hm; have hm := hq718
              refine calls_start (args := [.pointer (some ⟨b587, 0, none⟩), .pointer (some ⟨b619, 0, none⟩)]) Try.func52 rfl Try.ntmps52 (Nat.le_of_ble_eq_true rfl) ?_
              refine wp_region_St hst 7 [0, 1, 2, 3, 4, 5, 6] [0, 1, 0, 7, 15, 31, 63] [] rfl (by kernel_rfl) (by kernel_rfl) Try.mixed (by kernel_rfl) ?_
              refine ws_q (v := .pointer (some ⟨b592, 0, none⟩)) 0 [1, 2, 3, 4, 5, 6] (by kernel_rfl) rfl rfl (yi_run rfl (fun w hst => x_load rfl Try.isAgg61 (hst.bc2 rfl))) ?_
              refine ws_q (v := .pointer (some ⟨b592, 0, none⟩)) 2 [1, 3, 4, 5, 6] (by kernel_rfl) rfl rfl (yi_run rfl (fun w hst => x_load rfl Try.isAgg61 (hst.bc2 rfl))) ?_
              refine ws_e1 1 (by kernel_rfl) ?_
              refine nxe [3, 4, 5, 6] (by kernel_rfl) rfl rfl ?_
              clear hst
              intro w hst
              replace hst := hst.pull1
              obtain ⟨t701, ht702, hm⟩ := bind_some hm
              refine we_call rfl (x_call Try.call40 rfl (vs := [.pointer (some ⟨b592, 0, none⟩), .int .i64 (8:Int)]) rfl) ?_
              refine (octet_Reader_Num_ref hst.to1 ht702).mono ?_
              rintro _ w703 ⟨rfl, hst⟩
              refine ⟨_, rfl, ?_⟩
              replace hst := hst.of1
              refine ws_next (pend' := [(2, .pointer (some ⟨b592, 0, none⟩))]) hst (by kernel_rfl) (pk_cons rfl (yi_run rfl (fun w hst => x_load rfl Try.isAgg61 (hst.bc2 rfl))) pk_nil) ?_
              refine ws_e1 3 (by kernel_rfl) ?_
              refine nxe [4, 5, 6] (by kernel_rfl) rfl rfl ?_
              clear hst
              intro w hst
              obtain ⟨t706, ht707, hm⟩ := bind_some hm
              refine we_call rfl (x_call Try.call40 rfl (vs := [.pointer (some ⟨b592, 0, none⟩), .int .i64 (8:Int)]) rfl) ?_
              refine (octet_Reader_Num_ref hst.to1 ht707).mono ?_
              rintro _ w708 ⟨rfl, hst⟩
              refine ⟨_, rfl, ?_⟩
              replace hst := hst.of1
              refine ws_next (pend' := []) hst (by kernel_rfl) pk_nil ?_
              refine ws_q (v := .agg #[.int .u64 t701.1, .int .u64 t706.1]) 4 [5, 6] (by kernel_rfl) rfl rfl (yi_run rfl (fun w hst => by kernel_rfl)) ?_
              refine ws_q (v := .pointer (some ⟨b619, 1, none⟩)) 5 [6] (by kernel_rfl) rfl rfl (yi_run rfl (fun w hst => x_field rfl Try.underlying45 rfl Try.sizeOf29 rfl)) ?_
              refine ws_e1 6 (by kernel_rfl) ?_
              refine nxe [] (by kernel_rfl) rfl rfl ?_
              clear hst
              intro w hst
              replace hst := hst.pull1
              obtain ⟨w711, hr712, hst⟩ := hst.boxStore (P := Try.prog) (t := 29) (cs' := [.int .u8 (IntKind.u8.wrap t598.1), .int .u64 t701.1, .int .u64 t706.1, .int .u64 (0:Int), .int .u64 (0:Int), .int .i64 (0:Int), .int .u64 (0:Int), .int .u64 (0:Int), .int .u64 (0:Int), (.slice none 0 0), (.slice none 0 0), (.slice none 0 0), (.slice none 0 0), (.slice none 0 0), .int .i64 (0:Int), .int .u64 (0:Int), .int .u64 (0:Int), (.slice none 0 0), (.slice none 0 0), .int .u64 (0:Int), (.slice none 0 0), .int .u64 (0:Int), .int .i64 (0:Int), .int .i64 (0:Int), .float .f64 (0:Nat), .float .f64 (0:Nat), .int .u64 (0:Int), .int .i64 (0:Int), .bool false]) 1 (.agg #[.int .u64 t701.1, .int .u64 t706.1]) Try.sizeOf29 (Nat.le_of_ble_eq_true rfl) (ones_cons rfl (ones_cons rfl ones_nil)) (by kernel_rfl)
              refine we_unit rfl (x_unit hr712) ?_
              refine ws_next (pend' := []) hst (by kernel_rfl) pk_nil ?_
              refine ws_nil ?_
              intro w hst
              refine post_end (vs := []) Try.results52 rvs_nil ?_
              replace hst := hst.pull2
              replace hst := hst.pull2
              replace hst := hst.pull3
              replace hst := hst.keep4
              obtain rfl := some_inj hm
              exact ⟨t706.2, t701.1, t706.1, rfl, rfl, hst⟩
            clear hst
            rintro _ w719 ⟨z713, z714, z715, rfl, rfl, hst⟩
            refine ⟨_, rfl, ?_⟩
            try dsimp only at hm
            refine wl_nil ?_
            refine then_n ?_
            refine wp_seq ?_
            refine wp_region_St hst 8 [0, 1, 2, 3, 4, 5, 6, 7] [0, 1, 0, 7, 3, 31, 63, 127] [] rfl (by kernel_rfl) (by kernel_rfl) Try.mixed (by kernel_rfl) ?_
            refine ws_q (v := .pointer (some ⟨b592, 0, none⟩)) 0 [1, 2, 3, 4, 5, 6, 7] (by kernel_rfl) rfl rfl (yi_run rfl (fun w hst => x_load rfl Try.isAgg61 (hst.bc2 rfl))) ?_
            refine ws_q (v := .pointer (some ⟨b592, 0, none⟩)) 2 [1, 3, 4, 5, 6, 7] (by kernel_rfl) rfl rfl (yi_run rfl (fun w hst => x_load rfl Try.isAgg61 (hst.bc2 rfl))) ?_
            refine ws_e1 1 (by kernel_rfl) ?_
            refine nxe [3, 4, 5, 6, 7] (by kernel_rfl) rfl rfl ?_
            clear hst
            intro w hst
            replace hst := hst.pull1
            obtain ⟨t720, ht721, hm⟩ := bind_some hm
            refine we_call rfl (x_call Try.call40 rfl (vs := [.pointer (some ⟨b592, 0, none⟩), .int .i64 (8:Int)]) rfl) ?_
            refine (octet_Reader_Num_ref hst.to1 ht721).mono ?_
            rintro _ w722 ⟨rfl, hst⟩
            refine ⟨_, rfl, ?_⟩
            replace hst := hst.of1
            refine ws_next (pend' := [(2, .pointer (some ⟨b592, 0, none⟩))]) hst (by kernel_rfl) (pk_cons rfl (yi_run rfl (fun w hst => x_load rfl Try.isAgg61 (hst.bc2 rfl))) pk_nil) ?_
            refine ws_q (v := .pointer (some ⟨b619, 3, none⟩)) 4 [3, 5, 6, 7] (by kernel_rfl) rfl rfl (yi_run rfl (fun w hst => x_field rfl Try.underlying45 rfl Try.sizeOf27 rfl)) ?_
            refine ws_e1 3 (by kernel_rfl) ?_
            refine nxe [5, 6, 7] (by kernel_rfl) rfl rfl ?_
            clear hst
            intro w hst
            obtain ⟨t725, ht726, hm⟩ := bind_some hm
            refine we_call rfl (x_call Try.call40 rfl (vs := [.pointer (some ⟨b592, 0, none⟩), .int .i64 (2:Int)]) rfl) ?_
            refine (octet_Reader_Num_ref hst.to1 ht726).mono ?_
            rintro _ w727 ⟨rfl, hst⟩
            refine ⟨_, rfl, ?_⟩
            replace hst := hst.of1
            refine ws_next (pend' := [(4, .pointer (some ⟨b619, 3, none⟩))]) hst (by kernel_rfl) (pk_cons rfl (yi_run rfl (fun w hst => x_field rfl Try.underlying45 rfl Try.sizeOf27 rfl)) pk_nil) ?_
            refine ws_e1 5 (by kernel_rfl) ?_
            refine nxe [6, 7] (by kernel_rfl) rfl rfl ?_
            clear hst
            intro w hst
            replace hst := hst.pull3
            obtain ⟨w730, hr731, hst⟩ := hst.boxStore (P := Try.prog) (t := 27) (cs' := [.int .u8 (IntKind.u8.wrap t598.1), .int .u64 z714, .int .u64 z715, .int .u64 t720.1, .int .u64 (0:Int), .int .i64 (0:Int), .int .u64 (0:Int), .int .u64 (0:Int), .int .u64 (0:Int), (.slice none 0 0), (.slice none 0 0), (.slice none 0 0), (.slice none 0 0), (.slice none 0 0), .int .i64 (0:Int), .int .u64 (0:Int), .int .u64 (0:Int), (.slice none 0 0), (.slice none 0 0), .int .u64 (0:Int), (.slice none 0 0), .int .u64 (0:Int), .int .i64 (0:Int), .int .i64 (0:Int), .float .f64 (0:Nat), .float .f64 (0:Nat), .int .u64 (0:Int), .int .i64 (0:Int), .bool false]) 3 (.int .u64 t720.1) Try.sizeOf27 (Nat.le_of_ble_eq_true rfl) (ones_cons rfl ones_nil) (by kernel_rfl)
            refine we_unit rfl (x_unit hr731) ?_
            refine ws_next (pend' := []) hst (by kernel_rfl) pk_nil ?_
            refine ws_q (v := .pointer (some ⟨b619, 19, none⟩)) 6 [7] (by kernel_rfl) rfl rfl (yi_run rfl (fun w hst => x_field rfl Try.underlying45 rfl Try.sizeOf27 rfl)) ?_
            refine ws_e1 7 (by kernel_rfl) ?_
            refine nxe [] (by kernel_rfl) rfl rfl ?_
            clear hst
            intro w hst
            obtain ⟨w732, hr733, hst⟩ := hst.boxStore (P := Try.prog) (t := 27) (cs' := [.int .u8 (IntKind.u8.wrap t598.1), .int .u64 z714, .int .u64 z715, .int .u64 t720.1, .int .u64 (0:Int), .int .i64 (0:Int), .int .u64 (0:Int), .int .u64 (0:Int), .int .u64 (0:Int), (.slice none 0 0), (.slice none 0 0), (.slice none 0 0), (.slice none 0 0), (.slice none 0 0), .int .i64 (0:Int), .int .u64 (0:Int), .int .u64 (0:Int), (.slice none 0 0), (.slice none 0 0), .int .u64 t725.1, (.slice none 0 0), .int .u64 (0:Int), .int .i64 (0:Int), .int .i64 (0:Int), .float .f64 (0:Nat), .float .f64 (0:Nat), .int .u64 (0:Int), .int .i64 (0:Int), .bool false]) 19 (.int .u64 t725.1) Try.sizeOf27 (Nat.le_of_ble_eq_true rfl) (ones_cons rfl ones_nil) (by kernel_rfl)
            refine we_unit rfl (x_unit hr733) ?_
            refine ws_next (pend' := []) hst (by kernel_rfl) pk_nil ?_
            refine ws_nil ?_
            intro w hst
            refine then_n ?_
            obtain ⟨y881, hm, hx882⟩ := bind_some hm
            refine wp_cut (fun a w => ∃ (I878 : HL) (z874 : octet_Reader) (z877 : (List api_Part)) (v876 : Value) (σ879 : Nat → Value), (command_Decode_j1 z714 z715 t720 t725) (z874, z877) = some y1043 ∧ a = Fr 113 (upd (upd (upd (upd σ879 0 (r0_0)) 2 (.pointer (some ⟨b575, 0, none⟩))) 4 (.pointer (some ⟨b587, 0, none⟩))) 5 (.pointer (some ⟨b619, 0, none⟩))) ∧ I.le I878 ∧ St w0 w I878 [cells b575 [.int .u8 (0:Int), .int .u64 (0:Int), .int .u64 (0:Int), .int .u64 (0:Int), .int .u64 (0:Int), .int .i64 (0:Int), .int .u64 (0:Int), .int .u64 (0:Int), .int .u64 (0:Int), (.slice none 0 0), (.slice none 0 0), (.slice none 0 0), (.slice none 0 0), (.slice none 0 0), .int .i64 (0:Int), .int .u64 (0:Int), .int .u64 (0:Int), (.slice none 0 0), (.slice none 0 0), .int .u64 (0:Int), (.slice none 0 0), .int .u64 (0:Int), .int .i64 (0:Int), .int .i64 (0:Int), .float .f64 (0:Nat), .float .f64 (0:Nat), .int .u64 (0:Int), .int .i64 (0:Int), .bool false], cells b587 [.pointer (some ⟨b592, 0, none⟩)], at_octet_Reader (.pointer (some ⟨b592, 0, none⟩)) z874, cells b619 [.int .u8 (IntKind.u8.wrap t598.1), .int .u64 z714, .int .u64 z715, .int .u64 t720.1, .int .u64 (0:Int), .int .i64 (0:Int), .int .u64 (0:Int), .int .u64 (0:Int), .int .u64 (0:Int), (.slice none 0 0), (.slice none 0 0), (.slice none 0 0), (.slice none 0 0), (.slice none 0 0), .int .i64 (0:Int), .int .u64 (0:Int), .int .u64 (0:Int), (.slice none 0 0), (.slice none 0 0), .int .u64 t725.1, v876, .int .u64 (0:Int), .int .i64 (0:Int), .int .i64 (0:Int), .float .f64 (0:Nat), .float .f64 (0:Nat), .int .u64 (0:Int), .int .i64 (0:Int), .bool false], ownS ty_api_Part v876 z877] R) ?_ ?_
            · skip
              have hL883 := HL.le.refl I
              refine wp_seq ?_
              refine wp_region_lit ?_
              refine wl_val (v := .pointer (some ⟨b592, 0, none⟩)) rfl rfl (x_load rfl Try.isAgg61 (hst.bc3 rfl)) ?_
              replace hst := hst.pull1
              obtain ⟨t734, ht735, hm⟩ := bind_some hm
              refine wl_call rfl rfl (x_call Try.call41 rfl (vs := [.pointer (some ⟨b592, 0, none⟩), .int .i64 (8:Int)]) rfl) ?_
              refine (octet_Reader_Count_ref hst.to1 ht735).mono ?_
              rintro _ w736 ⟨rfl, hst⟩
              refine ⟨_, rfl, ?_⟩
              replace hst := hst.of1
              refine wl_val (v := .int .i64 (0:Int)) rfl rfl rfl ?_
              refine wl_nil ?_
              refine then_n ?_
              refine wp_block ?_
              replace hst := hst.own_nil ty_api_Part
              obtain ⟨n838, hm⟩ := loopO_some hm
              refine wp_loop_n (fun n a w => ∃ (I836 : HL) (z831 : (List api_Part)) (z834 : octet_Reader) (z835 : Int) (v832 : Value) (σ837 : Nat → Value), loopN (command_Decode_l2 t734) n (z831, z834, z835) = some y881 ∧ a = Fr 113 (upd (upd (upd (upd (upd (upd σ837 0 (r0_0)) 2 (.pointer (some ⟨b575, 0, none⟩))) 4 (.pointer (some ⟨b587, 0, none⟩))) 5 (.pointer (some ⟨b619, 0, none⟩))) 55 (.int .i64 t734.1)) 56 (.int .i64 z835)) ∧ I.le I836 ∧ St w0 w I836 [ownS ty_api_Part v832 z831, at_octet_Reader (.pointer (some ⟨b592, 0, none⟩)) z834, cells b619 [.int .u8 (IntKind.u8.wrap t598.1), .int .u64 z714, .int .u64 z715, .int .u64 t720.1, .int .u64 (0:Int), .int .i64 (0:Int), .int .u64 (0:Int), .int .u64 (0:Int), .int .u64 (0:Int), (.slice none 0 0), (.slice none 0 0), (.slice none 0 0), (.slice none 0 0), (.slice none 0 0), .int .i64 (0:Int), .int .u64 (0:Int), .int .u64 (0:Int), (.slice none 0 0), (.slice none 0 0), .int .u64 t725.1, v832, .int .u64 (0:Int), .int .i64 (0:Int), .int .i64 (0:Int), .float .f64 (0:Nat), .float .f64 (0:Nat), .int .u64 (0:Int), .int .i64 (0:Int), .bool false], cells b575 [.int .u8 (0:Int), .int .u64 (0:Int), .int .u64 (0:Int), .int .u64 (0:Int), .int .u64 (0:Int), .int .i64 (0:Int), .int .u64 (0:Int), .int .u64 (0:Int), .int .u64 (0:Int), (.slice none 0 0), (.slice none 0 0), (.slice none 0 0), (.slice none 0 0), (.slice none 0 0), .int .i64 (0:Int), .int .u64 (0:Int), .int .u64 (0:Int), (.slice none 0 0), (.slice none 0 0), .int .u64 (0:Int), (.slice none 0 0), .int .u64 (0:Int), .int .i64 (0:Int), .int .i64 (0:Int), .float .f64 (0:Nat), .float .f64 (0:Nat), .int .u64 (0:Int), .int .i64 (0:Int), .bool false], cells b587 [.pointer (some ⟨b592, 0, none⟩)]] R) n838 ⟨_, [], t734.2, (0:Int), (.slice none 0 0), _, hm, ((fr_upd (t := 0) (v := r0_0) rfl).trans ((fr_upd (t := 2) (v := .pointer (some ⟨b575, 0, none⟩)) rfl).trans ((fr_upd (t := 4) (v := .pointer (some ⟨b587, 0, none⟩)) rfl).trans ((fr_upd (t := 5) (v := .pointer (some ⟨b619, 0, none⟩)) rfl).trans ((fr_upd (t := 55) (v := .int .i64 t734.1) rfl).trans ((fr_upd (t := 56) (v := .int .i64 (0:Int)) rfl).trans rfl)))))), (HL.le.refl _), hst⟩ ?_
              rintro n844 _ w839 ⟨I836, z831, z834, z835, v832, σ837, hm, rfl, hL840, hst⟩
              obtain ⟨n841, y842, rfl, hm, hx843⟩ := loopN_some hm
              dsimp only [command_Decode_l2] at hm
              replace f0_0 := f0_0.mono (ro_le hL840)
              replace f595 := f595.mono (ro_le hL840)
              replace hI0 := hI0.trans hL840
              replace hL1045 := hL1045.trans hL840
              replace hL883 := hL883.trans hL840
              refine wp_seq ?_
              refine wp_region_lit ?_
              refine wl_val (v := .bool (decide (z835 < t734.1))) rfl rfl rfl ?_
              refine wl_nil ?_
              refine then_n ?_
              refine wp_seq ?_
              refine bsplit (decide (z835 < t734.1)) (fun hc845 => ?_) (fun hc845 => ?_)
              · skip
                replace hm := bif_t hc845 hm
                refine wp_ift (congrArg Value.bool hc845) ?_
                refine wp_skip ?_
                refine then_n ?_
                refine wp_seq ?_
                refine wp_block ?_
                refine wp_region_St hst 12 [0, 1, 2, 3, 4, 5, 6, 7, 8, 9, 10, 11] [0, 1, 0, 4, 12, 0, 44, 124, 252, 511, 1023, 2047] [] rfl (by kernel_rfl) (by kernel_rfl) Try.mixed (by kernel_rfl) ?_
                refine ws_q (v := .pointer (some ⟨b619, 20, none⟩)) 0 [1, 2, 3, 4, 5, 6, 7, 8, 9, 10, 11] (by kernel_rfl) rfl rfl (yi_run rfl (fun w hst => x_field rfl Try.underlying45 rfl Try.sizeOf40 rfl)) ?_
                refine ws_q (v := v832) 1 [2, 3, 4, 5, 6, 7, 8, 9, 10, 11] (by kernel_rfl) rfl rfl (yi_run rfl (fun w hst => x_load rfl Try.isAgg40 (hst.bc2 rfl))) ?_
                refine ws_q (v := .pointer (some ⟨b592, 0, none⟩)) 2 [3, 4, 5, 6, 7, 8, 9, 10, 11] (by kernel_rfl) rfl rfl (yi_run rfl (fun w hst => x_load rfl Try.isAgg61 (hst.bc4 rfl))) ?_
                refine ws_q (v := .pointer (some ⟨b592, 0, none⟩)) 5 [3, 4, 6, 7, 8, 9, 10, 11] (by kernel_rfl) rfl rfl (yi_run rfl (fun w hst => x_load rfl Try.isAgg61 (hst.bc4 rfl))) ?_
                refine ws_e1 3 (by kernel_rfl) ?_
                refine nxe [4, 6, 7, 8, 9, 10, 11] (by kernel_rfl) rfl rfl ?_
                clear hst
                intro w hst
                replace hst := hst.pull1
                obtain ⟨t846, ht847, hm⟩ := bind_some hm
                refine we_call rfl (x_call Try.call40 rfl (vs := [.pointer (some ⟨b592, 0, none⟩), .int .i64 (1:Int)]) rfl) ?_
                refine (octet_Reader_Num_ref hst.to1 ht847).mono ?_
                rintro _ w848 ⟨rfl, hst⟩
                refine ⟨_, rfl, ?_⟩
                replace hst := hst.of1
                refine ws_next (pend' := [(5, .pointer (some ⟨b592, 0, none⟩)), (1, v832), (0, .pointer (some ⟨b619, 20, none⟩))]) hst (by kernel_rfl) (pk_cons rfl (yi_run rfl (fun w hst => x_load rfl Try.isAgg61 (hst.bc4 rfl))) (pk_cons rfl (yi_run rfl (fun w hst => x_load rfl Try.isAgg40 (hst.bc2 rfl))) (pk_cons rfl (yi_run rfl (fun w hst => x_field rfl Try.underlying45 rfl Try.sizeOf40 rfl)) pk_nil))) ?_
                refine ws_q (v := .int .i64 (IntKind.i64.wrap t846.1)) 4 [6, 7, 8, 9, 10, 11] (by kernel_rfl) rfl rfl (yi_run rfl (fun w hst => by kernel_rfl)) ?_
                refine ws_e1 6 (by kernel_rfl) ?_
                refine nxe [7, 8, 9, 10, 11] (by kernel_rfl) rfl rfl ?_
                clear hst
                intro w hst
                obtain ⟨t851, ht852, hm⟩ := bind_some hm
                refine we_call rfl (x_call Try.call54 rfl (vs := [.pointer (some ⟨b592, 0, none⟩)]) rfl) ?_
                refine (command_readWrites_ref hst.to1 ht852).mono ?_
                rintro _ w853 ⟨I854, v856, rfl, hI855, hst⟩
                refine ⟨_, rfl, ?_⟩
                replace hst := hst.of2
                replace f0_0 := f0_0.mono (ro_le hI855)
                replace f595 := f595.mono (ro_le hI855)
                replace hI0 := hI0.trans hI855
                replace hL1045 := hL1045.trans hI855
                replace hL883 := hL883.trans hI855
                replace hL840 := hL840.trans hI855
                refine ws_next (pend' := [(4, .int .i64 (IntKind.i64.wrap t846.1)), (1, v832), (0, .pointer (some ⟨b619, 20, none⟩))]) hst (by kernel_rfl) (pk_cons rfl (yi_run rfl (fun w hst => by kernel_rfl)) (pk_cons rfl (yi_run rfl (fun w hst => x_load rfl Try.isAgg40 (hst.bc3 rfl))) (pk_cons rfl (yi_run rfl (fun w hst => x_field rfl Try.underlying45 rfl Try.sizeOf40 rfl)) pk_nil))) ?_
                refine ws_q (v := .agg #[.int .i64 (IntKind.i64.wrap t846.1), v856]) 7 [8, 9, 10, 11] (by kernel_rfl) rfl rfl (yi_run rfl (fun w hst => by obtain ⟨_, _, hv_, _⟩ := hst.sv0; rw [hv_]; kernel_rfl)) ?_
                refine ws_e1 8 (by kernel_rfl) ?_
                refine nxe [9, 10, 11] (by kernel_rfl) rfl rfl ?_
                clear hst
                intro w hst
                obtain ⟨I860, hI861, f862, hst⟩ := hst.own_fix
                replace f0_0 := f0_0.mono (ro_le hI861)
                replace f595 := f595.mono (ro_le hI861)
                replace hI0 := hI0.trans hI861
                replace hL1045 := hL1045.trans hI861
                replace hL883 := hL883.trans hI861
                replace hL840 := hL840.trans hI861
                obtain ⟨b863, w864, ew865, eb866, hst⟩ := hst.lits (E := ty_api_Part) (xs := [({ Shard := (IntKind.i64.wrap t846.1), Writes := t851.1 } : api_Part)]) [[.int .i64 (IntKind.i64.wrap t846.1), v856]] 81 1 rfl (Reps.cons ⟨_, rfl, f862, one_of_sliceV (ro_sliceV f862)⟩ Reps.nil)
                refine we_run (v := (.slice (some ⟨b863, 0, none⟩) 1 1)) (w' := w864) rfl (x_als (by kernel_rfl) ew865 eb866) ?_
                refine ws_next (pend' := [(1, v832), (0, .pointer (some ⟨b619, 20, none⟩))]) hst (by kernel_rfl) (pk_cons rfl (yi_run rfl (fun w hst => x_load rfl Try.isAgg40 (hst.bc3 rfl))) (pk_cons rfl (yi_run rfl (fun w hst => x_field rfl Try.underlying45 rfl Try.sizeOf40 rfl)) pk_nil)) ?_
                refine ws_e1 9 (by kernel_rfl) ?_
                refine nxe [10, 11] (by kernel_rfl) rfl rfl ?_
                clear hst
                intro w hst
                obtain ⟨hg868, hm⟩ := gd_some hm
                replace hst := hst.pull2
                obtain ⟨v869, w870, hr871, hst⟩ := run_append elem_40 Try.underlying40 hst hst.src1 (room_of hg868 rfl) 40
                refine we_run (v := v869) (w' := w870) rfl (x_append rfl rfl hr871) ?_
                refine ws_next (pend' := []) hst (by kernel_rfl) pk_nil ?_
                refine ws_q (v := .pointer (some ⟨b619, 20, none⟩)) 10 [11] (by kernel_rfl) rfl rfl (yi_run rfl (fun w hst => x_field rfl Try.underlying45 rfl Try.sizeOf40 rfl)) ?_
                refine ws_e1 11 (by kernel_rfl) ?_
                refine nxe [] (by kernel_rfl) rfl rfl ?_
                clear hst
                intro w hst
                replace hst := hst.pull3
                obtain ⟨w872, hr873, hst⟩ := hst.boxStore1 (P := Try.prog) (t := 40) (cs' := [.int .u8 (IntKind.u8.wrap t598.1), .int .u64 z714, .int .u64 z715, .int .u64 t720.1, .int .u64 (0:Int), .int .i64 (0:Int), .int .u64 (0:Int), .int .u64 (0:Int), .int .u64 (0:Int), (.slice none 0 0), (.slice none 0 0), (.slice none 0 0), (.slice none 0 0), (.slice none 0 0), .int .i64 (0:Int), .int .u64 (0:Int), .int .u64 (0:Int), (.slice none 0 0), (.slice none 0 0), .int .u64 t725.1, v869, .int .u64 (0:Int), .int .i64 (0:Int), .int .i64 (0:Int), .float .f64 (0:Nat), .float .f64 (0:Nat), .int .u64 (0:Int), .int .i64 (0:Int), .bool false]) 20 v869 (one_of_sliceV hst.sv1) Try.sizeOf40 rfl rfl
                refine we_unit rfl (x_unit hr873) ?_
                refine ws_next (pend' := []) hst (by kernel_rfl) pk_nil ?_
                refine ws_nil ?_
                intro w hst
                refine blk_n ?_
                refine then_n ?_
                refine wp_region_lit ?_
                refine wl_val (v := .int .i64 (IntKind.i64.wrap (z835 + (1:Int)))) rfl rfl rfl ?_
                refine wl_val (v := .int .i64 (IntKind.i64.wrap (z835 + (1:Int)))) rfl rfl rfl ?_
                refine wl_nil ?_
                refine then_n ?_
                replace hst := hst.pull5
                replace hst := hst.pull5
                replace hst := hst.pull2
                replace hst := hst.pull5
                replace hst := hst.pull4
                replace hst := hst.keep5
                obtain rfl := some_inj hm
                exact ⟨_, Nat.lt_succ_self _, _, (z831 ++ ([({ Shard := (IntKind.i64.wrap t846.1), Writes := t851.1 } : api_Part)])), t851.2, (IntKind.i64.wrap (z835 + (1:Int))), v869, _, hx843, ((fr_upd (t := 0) (v := r0_0) rfl).trans ((fr_upd (t := 2) (v := .pointer (some ⟨b575, 0, none⟩)) rfl).trans ((fr_upd (t := 4) (v := .pointer (some ⟨b587, 0, none⟩)) rfl).trans ((fr_upd (t := 5) (v := .pointer (some ⟨b619, 0, none⟩)) rfl).trans ((fr_upd (t := 55) (v := .int .i64 t734.1) rfl).trans ((fr_upd (t := 56) (v := .int .i64 (IntKind.i64.wrap (z835 + (1:Int)))) rfl).trans rfl)))))), hL840, hst⟩
              · skip
                replace hm := bif_f hc845 hm
                refine wp_iff (congrArg Value.bool hc845) ?_
                refine wp_exit ?_
                refine then_x ?_
                refine then_x ?_
                replace hm := inr_up hm hx843
                refine blk_x ?_
                refine then_n ?_
                replace hst := hst.pull2
                replace hst := hst.pull2
                replace hst := hst.pull4
                replace hst := hst.pull4
                replace hst := hst.keep5
                obtain rfl := some_inj hm
                exact ⟨_, z834, z831, v832, _, hx882, ((fr_upd (t := 0) (v := r0_0) rfl).trans ((fr_upd (t := 2) (v := .pointer (some ⟨b575, 0, none⟩)) rfl).trans ((fr_upd (t := 4) (v := .pointer (some ⟨b587, 0, none⟩)) rfl).trans ((fr_upd (t := 5) (v := .pointer (some ⟨b619, 0, none⟩)) rfl).trans rfl)))), hL883, hst⟩
            · skip
              clear hst
              rintro _ w884 ⟨I878, z874, z877, v876, σ879, hm, rfl, hL880, hst⟩
              dsimp only [command_Decode_j1] at hm
              replace f0_0 := f0_0.mono (ro_le hL880)
              replace f595 := f595.mono (ro_le hL880)
              replace hI0 := hI0.trans hL880
              replace hL1045 := hL1045.trans hL880
              refine wp_region_lit ?_
              refine wl_val (v := .pointer (some ⟨b592, 0, none⟩)) rfl rfl (x_load rfl Try.isAgg61 (hst.bc1 rfl)) ?_
              replace hst := hst.pull2
              obtain ⟨t885, ht886, hm⟩ := bind_some hm
              refine wl_call rfl rfl (x_call Try.call16 rfl (vs := [.pointer (some ⟨b592, 0, none⟩)]) rfl) ?_
              refine (command_ReadReply_ref hst.to1 ht886).mono ?_
              rintro _ w887 ⟨I888, v890, v892, rfl, hI889, hst⟩
              refine ⟨_, rfl, ?_⟩
              replace hst := hst.of3
              replace f0_0 := f0_0.mono (ro_le hI889)
              replace f595 := f595.mono (ro_le hI889)
              replace hI0 := hI0.trans hI889
              replace hL1045 := hL1045.trans hI889
              refine wl_val (v := .pointer (some ⟨b619, 14, none⟩)) rfl rfl (x_field rfl Try.underlying45 rfl Try.sizeOf39 rfl) ?_
              replace hst := hst.pull5
              obtain ⟨w894, hr895, hst⟩ := hst.boxStore (P := Try.prog) (t := 39) (cs' := [.int .u8 (IntKind.u8.wrap t598.1), .int .u64 z714, .int .u64 z715, .int .u64 t720.1, .int .u64 (0:Int), .int .i64 (0:Int), .int .u64 (0:Int), .int .u64 (0:Int), .int .u64 (0:Int), (.slice none 0 0), (.slice none 0 0), (.slice none 0 0), (.slice none 0 0), (.slice none 0 0), .int .i64 t885.1.E, .int .u64 t885.1.Epoch, .int .u64 t885.1.Index, v890, v892, .int .u64 t725.1, v876, .int .u64 (0:Int), .int .i64 (0:Int), .int .i64 (0:Int), .float .f64 (0:Nat), .float .f64 (0:Nat), .int .u64 (0:Int), .int .i64 (0:Int), .bool false]) 14 (.agg #[.int .i64 t885.1.E, .int .u64 t885.1.Epoch, .int .u64 t885.1.Index, v890, v892]) Try.sizeOf39 (Nat.le_of_ble_eq_true rfl) (ones_cons rfl (ones_cons rfl (ones_cons rfl (ones_cons (one_of_sliceV hst.sv1) (ones_cons (one_of_sliceV hst.sv2) ones_nil))))) (by kernel_rfl)
              refine wl_unit rfl rfl (x_unit hr895) ?_
              refine wl_nil ?_
              refine blk_n ?_
              refine then_n ?_
              replace hst := hst.own_nil tyF64
              replace hst := hst.own_nil tyF2
              replace hst := hst.own_nil tyF64
              replace hst := hst.own_nil (tyInt .u8)
              replace hst := hst.own_nil ty_api_Write
              replace hst := hst.pull11
              replace hst := hst.pull8
              replace hst := hst.pull8
              replace hst := hst.pull3
              replace hst := hst.pull4
              replace hst := hst.pull5
              replace hst := hst.pull6
              replace hst := hst.pull7
              replace hst := hst.pull8
              replace hst := hst.pull9
              replace hst := hst.pull11
              replace hst := hst.pull11
              replace hst := hst.keep12
              obtain rfl := some_inj hm
              exact ⟨_, t885.2, z714, z715, t720.1, (0:Int), (0:Int), (0:Int), (0:Int), (0:Int), ([]), ([]), ([]), ([]), ([]), t885.1.E, t885.1.Epoch, t885.1.Index, t885.1.Gots, t885.1.Scans, t725.1, z877, (0:Int), (0:Int), (0:Int), (0:Nat), (0:Nat), (0:Int), (0:Int), false, (.slice none 0 0), (.slice none 0 0), (.slice none 0 0), (.slice none 0 0), (.slice none 0 0), v890, v892, v876, _, hx1044, ((fr_upd (t := 0) (v := r0_0) rfl).trans ((fr_upd (t := 2) (v := .pointer (some ⟨b575, 0, none⟩)) rfl).trans ((fr_upd (t := 4) (v := .pointer (some ⟨b587, 0, none⟩)) rfl).trans ((fr_upd (t := 5) (v := .pointer (some ⟨b619, 0, none⟩)) rfl).trans rfl)))), hL1045, hst⟩
          · skip
            replace hm := bif_f hc700 hm
            refine wp_iff (congrArg Value.bool hc700) ?_
            refine wp_seq ?_
            refine wp_region_lit ?_
            refine wl_val (v := .bool ((IntKind.u8.wrap t598.1) == (5:Int))) rfl rfl rfl ?_
            refine wl_val (v := .bool ((IntKind.u8.wrap t598.1) == (5:Int))) rfl rfl rfl ?_
            refine wl_nil ?_
            refine then_n ?_
            refine bsplit ((IntKind.u8.wrap t598.1) == (5:Int)) (fun hc896 => ?_) (fun hc896 => ?_)
            · skip
              replace hm := bif_t hc896 hm
              refine wp_ift (congrArg Value.bool hc896) ?_
              refine wp_region_lit ?_
              refine wl_val (v := .func (.func 52) #[] #[.pointer (some ⟨b587, 0, none⟩), .pointer (some ⟨b619, 0, none⟩)]) rfl rfl rfl ?_
              obtain ⟨y913, hq914, hm⟩ := bind_some hm
              refine wl_call rfl rfl (x_callv Try.call52 (caps := [.pointer (some ⟨b587, 0, none⟩), .pointer (some ⟨b619, 0, none⟩)]) rfl (vs := []) rfl) ?_
              refine Calls.mono (show Calls Try.prog 52 #[.pointer (some ⟨b587, 0, none⟩), .pointer (some ⟨b619, 0, none⟩)] _ (fun e w' => ∃ (z909 : octet_Reader) (z910 : Int) (z911 : Int), y913 = (z909, z910, z911) ∧ e = .returned (.tuple #[]) ∧ St w0 w' I [cells b575 [.int .u8 (0:Int), .int .u64 (0:Int), .int .u64 (0:Int), .int .u64 (0:Int), .int .u64 (0:Int), .int .i64 (0:Int), .int .u64 (0:Int), .int .u64 (0:Int), .int .u64 (0:Int), (.slice none 0 0), (.slice none 0 0), (.slice none 0 0), (.slice none 0 0), (.slice none 0 0), .int .i64 (0:Int), .int .u64 (0:Int), .int .u64 (0:Int), (.slice none 0 0), (.slice none 0 0), .int .u64 (0:Int), (.slice none 0 0), .int .u64 (0:Int), .int .i64 (0:Int), .int .i64 (0:Int), .float .f64 (0:Nat), .float .f64 (0:Nat), .int .u64 (0:Int), .int .i64 (0:Int), .bool false], at_octet_Reader (.pointer (some ⟨b592, 0, none⟩)) z909, cells b587 [.pointer (some ⟨b592, 0, none⟩)], cells b619 [.int .u8 (IntKind.u8.wrap t598.1), .int .u64 z910, .int .u64 z911, .int .u64 (0:Int), .int .u64 (0:Int), .int .i64 (0:Int), .int .u64 (0:Int), .int .u64 (0:Int), .int .u64 (0:Int), (.slice none 0 0), (.slice none 0 0), (.slice none 0 0), (.slice none 0 0), (.slice none 0 0), .int .i64 (0:Int), .int .u64 (0:Int), .int .u64 (0:Int), (.slice none 0 0), (.slice none 0 0), .int .u64 (0:Int), (.slice none 0 0), .int .u64 (0:Int), .int .i64 (0:Int), .int .i64 (0:Int), .float .f64 (0:Nat), .float .f64 (0:Nat), .int .u64 (0:Int), .int .i64 (0:Int), .bool false]] R) from ?_) ?_
              · skip
                clear hm; have hm := hq914
                refine calls_start (args := [.pointer (some ⟨b587, 0, none⟩), .pointer (some ⟨b619, 0, none⟩)]) Try.func52 rfl Try.ntmps52 (Nat.le_of_ble_eq_true rfl) ?_
                refine wp_region_St hst 7 [0, 1, 2, 3, 4, 5, 6] [0, 1, 0, 7, 15, 31, 63] [] rfl (by kernel_rfl) (by kernel_rfl) Try.mixed (by kernel_rfl) ?_
                refine ws_q (v := .pointer (some ⟨b592, 0, none⟩)) 0 [1, 2, 3, 4, 5, 6] (by kernel_rfl) rfl rfl (yi_run rfl (fun w hst => x_load rfl Try.isAgg61 (hst.bc2 rfl))) ?_
                refine ws_q (v := .pointer (some ⟨b592, 0, none⟩)) 2 [1, 3, 4, 5, 6] (by kernel_rfl) rfl rfl (yi_run rfl (fun w hst => x_load rfl Try.isAgg61 (hst.bc2 rfl))) ?_
                refine ws_e1 1 (by kernel_rfl) ?_
                refine nxe [3, 4, 5, 6] (by kernel_rfl) rfl rfl ?_
                clear hst
                intro w hst
                replace hst := hst.pull1
                obtain ⟨t897, ht898, hm⟩ := bind_some hm
                refine we_call rfl (x_call Try.call40 rfl (vs := [.pointer (some ⟨b592, 0, none⟩), .int .i64 (8:Int)]) rfl) ?_
                refine (octet_Reader_Num_ref hst.to1 ht898).mono ?_
                rintro _ w899 ⟨rfl, hst⟩
                refine ⟨_, rfl, ?_⟩
                replace hst := hst.of1
                refine ws_next (pend' := [(2, .pointer (some ⟨b592, 0, none⟩))]) hst (by kernel_rfl) (pk_cons rfl (yi_run rfl (fun w hst => x_load rfl Try.isAgg61 (hst.bc2 rfl))) pk_nil) ?_
                refine ws_e1 3 (by kernel_rfl) ?_
                refine nxe [4, 5, 6] (by kernel_rfl) rfl rfl ?_
                clear hst
                intro w hst
                obtain ⟨t902, ht903, hm⟩ := bind_some hm
                refine we_call rfl (x_call Try.call40 rfl (vs := [.pointer (some ⟨b592, 0, none⟩), .int .i64 (8:Int)]) rfl) ?_
                refine (octet_Reader_Num_ref hst.to1 ht903).mono ?_
                rintro _ w904 ⟨rfl, hst⟩
                refine ⟨_, rfl, ?_⟩
                replace hst := hst.of1
                refine ws_next (pend' := []) hst (by kernel_rfl) pk_nil ?_
                refine ws_q (v := .agg #[.int .u64 t897.1, .int .u64 t902.1]) 4 [5, 6] (by kernel_rfl) rfl rfl (yi_run rfl (fun w hst => by kernel_rfl)) ?_
                refine ws_q (v := .pointer (some ⟨b619, 1, none⟩)) 5 [6] (by kernel_rfl) rfl rfl (yi_run rfl (fun w hst => x_field rfl Try.underlying45 rfl Try.sizeOf29 rfl)) ?_
                refine ws_e1 6 (by kernel_rfl) ?_
                refine nxe [] (by kernel_rfl) rfl rfl ?_
                clear hst
                intro w hst
                replace hst := hst.pull1
                obtain ⟨w907, hr908, hst⟩ := hst.boxStore (P := Try.prog) (t := 29) (cs' := [.int .u8 (IntKind.u8.wrap t598.1), .int .u64 t897.1, .int .u64 t902.1, .int .u64 (0:Int), .int .u64 (0:Int), .int .i64 (0:Int), .int .u64 (0:Int), .int .u64 (0:Int), .int .u64 (0:Int), (.slice none 0 0), (.slice none 0 0), (.slice none 0 0), (.slice none 0 0), (.slice none 0 0), .int .i64 (0:Int), .int .u64 (0:Int), .int .u64 (0:Int), (.slice none 0 0), (.slice none 0 0), .int .u64 (0:Int), (.slice none 0 0), .int .u64 (0:Int), .int .i64 (0:Int), .int .i64 (0:Int), .float .f64 (0:Nat), .float .f64 (0:Nat), .int .u64 (0:Int), .int .i64 (0:Int), .bool false]) 1 (.agg #[.int .u64 t897.1, .int .u64 t902.1]) Try.sizeOf29 (Nat.le_of_ble_eq_true rfl) (ones_cons rfl (ones_cons rfl ones_nil)) (by kernel_rfl)
                refine we_unit rfl (x_unit hr908) ?_
                refine ws_next (pend' := []) hst (by kernel_rfl) pk_nil ?_
                refine ws_nil ?_
                intro w hst
                refine post_end (vs := []) Try.results52 rvs_nil ?_
                replace hst := hst.pull2
                replace hst := hst.pull2
                replace hst := hst.pull3
                replace hst := hst.keep4
                obtain rfl := some_inj hm
                exact ⟨t902.2, t897.1, t902.1, rfl, rfl, hst⟩
              clear hst
              rintro _ w915 ⟨z909, z910, z911, rfl, rfl, hst⟩
              refine ⟨_, rfl, ?_⟩
              try dsimp only at hm
              refine wl_nil ?_
              refine blk_n ?_
              refine then_n ?_
              replace hst := hst.own_nil tyF64
              replace hst := hst.own_nil tyF2
              replace hst := hst.own_nil tyF64
              replace hst := hst.own_nil (tyInt .u8)
              replace hst := hst.own_nil ty_api_Write
              replace hst := hst.own_nil ty_api_Got
              replace hst := hst.own_nil (tySl ty_api_Pair)
              replace hst := hst.own_nil ty_api_Part
              replace hst := hst.pull1
              replace hst := hst.pull2
              replace hst := hst.pull3
              replace hst := hst.pull4
              replace hst := hst.pull5
              replace hst := hst.pull6
              replace hst := hst.pull7
              replace hst := hst.pull11
              replace hst := hst.pull10
              replace hst := hst.pull11
              replace hst := hst.pull11
              replace hst := hst.keep12
              obtain rfl := some_inj hm
              exact ⟨_, z909, z910, z911, (0:Int), (0:Int), (0:Int), (0:Int), (0:Int), (0:Int), ([]), ([]), ([]), ([]), ([]), (0:Int), (0:Int), (0:Int), ([]), ([]), (0:Int), ([]), (0:Int), (0:Int), (0:Int), (0:Nat), (0:Nat), (0:Int), (0:Int), false, (.slice none 0 0), (.slice none 0 0), (.slice none 0 0), (.slice none 0 0), (.slice none 0 0), (.slice none 0 0), (.slice none 0 0), (.slice none 0 0), _, hx1044, ((fr_upd (t := 0) (v := r0_0) rfl).trans ((fr_upd (t := 2) (v := .pointer (some ⟨b575, 0, none⟩)) rfl).trans ((fr_upd (t := 4) (v := .pointer (some ⟨b587, 0, none⟩)) rfl).trans ((fr_upd (t := 5) (v := .pointer (some ⟨b619, 0, none⟩)) rfl).trans rfl)))), hL1045, hst⟩
            · skip
              replace hm := bif_f hc896 hm
              refine wp_iff (congrArg Value.bool hc896) ?_
              refine wp_seq ?_
              refine wp_region_lit ?_
              refine wl_val (v := .bool ((IntKind.u8.wrap t598.1) == (6:Int))) rfl rfl rfl ?_
              refine wl_val (v := .bool ((IntKind.u8.wrap t598.1) == (6:Int))) rfl rfl rfl ?_
              refine wl_nil ?_
              refine then_n ?_
              refine bsplit ((IntKind.u8.wrap t598.1) == (6:Int)) (fun hc916 => ?_) (fun hc916 => ?_)
              · skip
                replace hm := bif_t hc916 hm
                refine wp_ift (congrArg Value.bool hc916) ?_
                refine wp_seq ?_
                refine wp_region_lit ?_
                refine wl_val (v := .pointer (some ⟨b592, 0, none⟩)) rfl rfl (x_load rfl Try.isAgg61 (hst.bc2 rfl)) ?_
                replace hst := hst.pull1
                obtain ⟨t917, ht918, hm⟩ := bind_some hm
                refine wl_call rfl rfl (x_call Try.call55 rfl (vs := [.pointer (some ⟨b592, 0, none⟩)]) rfl) ?_
                refine (command_readRule_ref hst.to1 ht918).mono ?_
                rintro _ w919 ⟨rfl, hst⟩
                refine ⟨_, rfl, ?_⟩
                replace hst := hst.of1
                refine wl_val (v := .pointer (some ⟨b619, 21, none⟩)) rfl rfl (x_field rfl Try.underlying45 rfl Try.sizeOf43 rfl) ?_
                replace hst := hst.pull1
                obtain ⟨w922, hr923, hst⟩ := hst.boxStore (P := Try.prog) (t := 43) (cs' := [.int .u8 (IntKind.u8.wrap t598.1), .int .u64 (0:Int), .int .u64 (0:Int), .int .u64 (0:Int), .int .u64 (0:Int), .int .i64 (0:Int), .int .u64 (0:Int), .int .u64 (0:Int), .int .u64 (0:Int), (.slice none 0 0), (.slice none 0 0), (.slice none 0 0), (.slice none 0 0), (.slice none 0 0), .int .i64 (0:Int), .int .u64 (0:Int), .int .u64 (0:Int), (.slice none 0 0), (.slice none 0 0), .int .u64 (0:Int), (.slice none 0 0), .int .u64 t917.1.ID, .int .i64 t917.1.From, .int .i64 t917.1.To, .float .f64 t917.1.Lo, .float .f64 t917.1.Hi, .int .u64 t917.1.Authority, .int .i64 t917.1.Quota, .bool false]) 21 (.agg #[.int .u64 t917.1.ID, .int .i64 t917.1.From, .int .i64 t917.1.To, .float .f64 t917.1.Lo, .float .f64 t917.1.Hi, .int .u64 t917.1.Authority, .int .i64 t917.1.Quota]) Try.sizeOf43 (Nat.le_of_ble_eq_true rfl) (ones_cons rfl (ones_cons rfl (ones_cons rfl (ones_cons rfl (ones_cons rfl (ones_cons rfl (ones_cons rfl ones_nil))))))) (by kernel_rfl)
                refine wl_unit rfl rfl (x_unit hr923) ?_
                refine wl_nil ?_
                refine then_n ?_
                refine wp_region_lit ?_
                refine wl_val (v := .pointer (some ⟨b592, 0, none⟩)) rfl rfl (x_load rfl Try.isAgg61 (hst.bc2 rfl)) ?_
                replace hst := hst.pull1
                obtain ⟨t924, ht925, hm⟩ := bind_some hm
                refine wl_call rfl rfl (x_call Try.call42 rfl (vs := [.pointer (some ⟨b592, 0, none⟩)]) rfl) ?_
                refine (octet_Reader_Flag_ref hst.to1 ht925).mono ?_
                rintro _ w926 ⟨rfl, hst⟩
                refine ⟨_, rfl, ?_⟩
                replace hst := hst.of1
                refine wl_val (v := .pointer (some ⟨b619, 28, none⟩)) rfl rfl (x_field rfl Try.underlying45 rfl Try.sizeOf4 rfl) ?_
                replace hst := hst.pull1
                obtain ⟨w929, hr930, hst⟩ := hst.boxStore (P := Try.prog) (t := 4) (cs' := [.int .u8 (IntKind.u8.wrap t598.1), .int .u64 (0:Int), .int .u64 (0:Int), .int .u64 (0:Int), .int .u64 (0:Int), .int .i64 (0:Int), .int .u64 (0:Int), .int .u64 (0:Int), .int .u64 (0:Int), (.slice none 0 0), (.slice none 0 0), (.slice none 0 0), (.slice none 0 0), (.slice none 0 0), .int .i64 (0:Int), .int .u64 (0:Int), .int .u64 (0:Int), (.slice none 0 0), (.slice none 0 0), .int .u64 (0:Int), (.slice none 0 0), .int .u64 t917.1.ID, .int .i64 t917.1.From, .int .i64 t917.1.To, .float .f64 t917.1.Lo, .float .f64 t917.1.Hi, .int .u64 t917.1.Authority, .int .i64 t917.1.Quota, .bool t924.1]) 28 (.bool t924.1) Try.sizeOf4 (Nat.le_of_ble_eq_true rfl) (ones_cons rfl ones_nil) (by kernel_rfl)
                refine wl_unit rfl rfl (x_unit hr930) ?_
                refine wl_nil ?_
                refine blk_n ?_
                refine then_n ?_
                replace hst := hst.own_nil tyF64
                replace hst := hst.own_nil tyF2
                replace hst := hst.own_nil tyF64
                replace hst := hst.own_nil (tyInt .u8)
                replace hst := hst.own_nil ty_api_Write
                replace hst := hst.own_nil ty_api_Got
                replace hst := hst.own_nil (tySl ty_api_Pair)
                replace hst := hst.own_nil ty_api_Part
                replace hst := hst.pull1
                replace hst := hst.pull2
                replace hst := hst.pull3
                replace hst := hst.pull4
                replace hst := hst.pull5
                replace hst := hst.pull6
                replace hst := hst.pull7
                replace hst := hst.pull8
                replace hst := hst.pull9
                replace hst := hst.pull10
                replace hst := hst.pull11
                replace hst := hst.keep12
                obtain rfl := some_inj hm
                exact ⟨_, t924.2, (0:Int), (0:Int), (0:Int), (0:Int), (0:Int), (0:Int), (0:Int), (0:Int), ([]), ([]), ([]), ([]), ([]), (0:Int), (0:Int), (0:Int), ([]), ([]), (0:Int), ([]), t917.1.ID, t917.1.From, t917.1.To, t917.1.Lo, t917.1.Hi, t917.1.Authority, t917.1.Quota, t924.1, (.slice none 0 0), (.slice none 0 0), (.slice none 0 0), (.slice none 0 0), (.slice none 0 0), (.slice none 0 0), (.slice none 0 0), (.slice none 0 0), _, hx1044, ((fr_upd (t := 0) (v := r0_0) rfl).trans ((fr_upd (t := 2) (v := .pointer (some ⟨b575, 0, none⟩)) rfl).trans ((fr_upd (t := 4) (v := .pointer (some ⟨b587, 0, none⟩)) rfl).trans ((fr_upd (t := 5) (v := .pointer (some ⟨b619, 0, none⟩)) rfl).trans rfl)))), hL1045, hst⟩
              · skip
                replace hm := bif_f hc916 hm
                refine wp_iff (congrArg Value.bool hc916) ?_
                refine wp_seq ?_
                refine wp_region_lit ?_
                refine wl_val (v := .bool ((IntKind.u8.wrap t598.1) == (7:Int))) rfl rfl rfl ?_
                refine wl_val (v := .bool ((IntKind.u8.wrap t598.1) == (7:Int))) rfl rfl rfl ?_
                refine wl_nil ?_
                refine then_n ?_
                refine bsplit ((IntKind.u8.wrap t598.1) == (7:Int)) (fun hc931 => ?_) (fun hc931 => ?_)
                · skip
                  replace hm := bif_t hc931 hm
                  refine wp_ift (congrArg Value.bool hc931) ?_
                  refine wp_seq ?_
                  refine wp_region_lit ?_
                  refine wl_val (v := .func (.func 52) #[] #[.pointer (some ⟨b587, 0, none⟩), .pointer (some ⟨b619, 0, none⟩)]) rfl rfl rfl ?_
                  obtain ⟨y948, hq949, hm⟩ := bind_some hm
                  refine wl_call rfl rfl (x_callv Try.call52 (caps := [.pointer (some ⟨b587, 0, none⟩), .pointer (some ⟨b619, 0, none⟩)]) rfl (vs := []) rfl) ?_
                  refine Calls.mono (show Calls Try.prog 52 #[.pointer (some ⟨b587, 0, none⟩), .pointer (some ⟨b619, 0, none⟩)] _ (fun e w' => ∃ (z944 : octet_Reader) (z945 : Int) (z946 : Int), y948 = (z944, z945, z946) ∧ e = .returned (.tuple #[]) ∧ St w0 w' I [cells b575 [.int .u8 (0:Int), .int .u64 (0:Int), .int .u64 (0:Int), .int .u64 (0:Int), .int .u64 (0:Int), .int .i64 (0:Int), .int .u64 (0:Int), .int .u64 (0:Int), .int .u64 (0:Int), (.slice none 0 0), (.slice none 0 0), (.slice none 0 0), (.slice none 0 0), (.slice none 0 0), .int .i64 (0:Int), .int .u64 (0:Int), .int .u64 (0:Int), (.slice none 0 0), (.slice none 0 0), .int .u64 (0:Int), (.slice none 0 0), .int .u64 (0:Int), .int .i64 (0:Int), .int .i64 (0:Int), .float .f64 (0:Nat), .float .f64 (0:Nat), .int .u64 (0:Int), .int .i64 (0:Int), .bool false], at_octet_Reader (.pointer (some ⟨b592, 0, none⟩)) z944, cells b587 [.pointer (some ⟨b592, 0, none⟩)], cells b619 [.int .u8 (IntKind.u8.wrap t598.1), .int .u64 z945, .int .u64 z946, .int .u64 (0:Int), .int .u64 (0:Int), .int .i64 (0:Int), .int .u64 (0:Int), .int .u64 (0:Int), .int .u64 (0:Int), (.slice none 0 0), (.slice none 0 0), (.slice none 0 0), (.slice none 0 0), (.slice none 0 0), .int .i64 (0:Int), .int .u64 (0:Int), .int .u64 (0:Int), (.slice none 0 0), (.slice none 0 0), .int .u64 (0:Int), (.slice none 0 0), .int .u64 (0:Int), .int .i64 (0:Int), .int .i64 (0:Int), .float .f64 (0:Nat), .float .f64 (0:Nat), .int .u64 (0:Int), .int .i64 (0:Int), .bool false]] R) from ?_) ?_
                  · skip
                    clear hm; have hm := hq949
                    refine calls_start (args := [.pointer (some ⟨b587, 0, none⟩), .pointer (some ⟨b619, 0, none⟩)]) Try.func52 rfl Try.ntmps52 (Nat.le_of_ble_eq_true rfl) ?_
                    refine wp_region_St hst 7 [0, 1, 2, 3, 4, 5, 6] [0, 1, 0, 7, 15, 31, 63] [] rfl (by kernel_rfl) (by kernel_rfl) Try.mixed (by kernel_rfl) ?_
                    refine ws_q (v := .pointer (some ⟨b592, 0, none⟩)) 0 [1, 2, 3, 4, 5, 6] (by kernel_rfl) rfl rfl (yi_run rfl (fun w hst => x_load rfl Try.isAgg61 (hst.bc2 rfl))) ?_
                    refine ws_q (v := .pointer (some ⟨b592, 0, none⟩)) 2 [1, 3, 4, 5, 6] (by kernel_rfl) rfl rfl (yi_run rfl (fun w hst => x_load rfl Try.isAgg61 (hst.bc2 rfl))) ?_
                    refine ws_e1 1 (by kernel_rfl) ?_
                    refine nxe [3, 4, 5, 6] (by kernel_rfl) rfl rfl ?_
                    clear hst
                    intro w hst
                    replace hst := hst.pull1
                    obtain ⟨t932, ht933, hm⟩ := bind_some hm
                    refine we_call rfl (x_call Try.call40 rfl (vs := [.pointer (some ⟨b592, 0, none⟩), .int .i64 (8:Int)]) rfl) ?_
                    refine (octet_Reader_Num_ref hst.to1 ht933).mono ?_
                    rintro _ w934 ⟨rfl, hst⟩
                    refine ⟨_, rfl, ?_⟩
                    replace hst := hst.of1
                    refine ws_next (pend' := [(2, .pointer (some ⟨b592, 0, none⟩))]) hst (by kernel_rfl) (pk_cons rfl (yi_run rfl (fun w hst => x_load rfl Try.isAgg61 (hst.bc2 rfl))) pk_nil) ?_
                    refine ws_e1 3 (by kernel_rfl) ?_
                    refine nxe [4, 5, 6] (by kernel_rfl) rfl rfl ?_
                    clear hst
                    intro w hst
                    obtain ⟨t937, ht938, hm⟩ := bind_some hm
                    refine we_call rfl (x_call Try.call40 rfl (vs := [.pointer (some ⟨b592, 0, none⟩), .int .i64 (8:Int)]) rfl) ?_
                    refine (octet_Reader_Num_ref hst.to1 ht938).mono ?_
                    rintro _ w939 ⟨rfl, hst⟩
                    refine ⟨_, rfl, ?_⟩
                    replace hst := hst.of1
                    refine ws_next (pend' := []) hst (by kernel_rfl) pk_nil ?_
                    refine ws_q (v := .agg #[.int .u64 t932.1, .int .u64 t937.1]) 4 [5, 6] (by kernel_rfl) rfl rfl (yi_run rfl (fun w hst => by kernel_rfl)) ?_
                    refine ws_q (v := .pointer (some ⟨b619, 1, none⟩)) 5 [6] (by kernel_rfl) rfl rfl (yi_run rfl (fun w hst => x_field rfl Try.underlying45 rfl Try.sizeOf29 rfl)) ?_
                    refine ws_e1 6 (by kernel_rfl) ?_
                    refine nxe [] (by kernel_rfl) rfl rfl ?_
                    clear hst
                    intro w hst
                    replace hst := hst.pull1
                    obtain ⟨w942, hr943, hst⟩ := hst.boxStore (P := Try.prog) (t := 29) (cs' := [.int .u8 (IntKind.u8.wrap t598.1), .int .u64 t932.1, .int .u64 t937.1, .int .u64 (0:Int), .int .u64 (0:Int), .int .i64 (0:Int), .int .u64 (0:Int), .int .u64 (0:Int), .int .u64 (0:Int), (.slice none 0 0), (.slice none 0 0), (.slice none 0 0), (.slice none 0 0), (.slice none 0 0), .int .i64 (0:Int), .int .u64 (0:Int), .int .u64 (0:Int), (.slice none 0 0), (.slice none 0 0), .int .u64 (0:Int), (.slice none 0 0), .int .u64 (0:Int), .int .i64 (0:Int), .int .i64 (0:Int), .float .f64 (0:Nat), .float .f64 (0:Nat), .int .u64 (0:Int), .int .i64 (0:Int), .bool false]) 1 (.agg #[.int .u64 t932.1, .int .u64 t937.1]) Try.sizeOf29 (Nat.le_of_ble_eq_true rfl) (ones_cons rfl (ones_cons rfl ones_nil)) (by kernel_rfl)
                    refine we_unit rfl (x_unit hr943) ?_
                    refine ws_next (pend' := []) hst (by kernel_rfl) pk_nil ?_
                    refine ws_nil ?_
                    intro w hst
                    refine post_end (vs := []) Try.results52 rvs_nil ?_
                    replace hst := hst.pull2
                    replace hst := hst.pull2
                    replace hst := hst.pull3
                    replace hst := hst.keep4
                    obtain rfl := some_inj hm
                    exact ⟨t937.2, t932.1, t937.1, rfl, rfl, hst⟩
                  clear hst
                  rintro _ w950 ⟨z944, z945, z946, rfl, rfl, hst⟩
                  refine ⟨_, rfl, ?_⟩
                  try dsimp only at hm
                  refine wl_nil ?_
                  refine then_n ?_
                  refine wp_seq ?_
                  refine wp_region_lit ?_
                  refine wl_val (v := .pointer (some ⟨b592, 0, none⟩)) rfl rfl (x_load rfl Try.isAgg61 (hst.bc2 rfl)) ?_
                  replace hst := hst.pull1
                  obtain ⟨t951, ht952, hm⟩ := bind_some hm
                  refine wl_call rfl rfl (x_call Try.call40 rfl (vs := [.pointer (some ⟨b592, 0, none⟩), .int .i64 (8:Int)]) rfl) ?_
                  refine (octet_Reader_Num_ref hst.to1 ht952).mono ?_
                  rintro _ w953 ⟨rfl, hst⟩
                  refine ⟨_, rfl, ?_⟩
                  replace hst := hst.of1
                  refine wl_val (v := .pointer (some ⟨b619, 3, none⟩)) rfl rfl (x_field rfl Try.underlying45 rfl Try.sizeOf27 rfl) ?_
                  replace hst := hst.pull3
                  obtain ⟨w956, hr957, hst⟩ := hst.boxStore (P := Try.prog) (t := 27) (cs' := [.int .u8 (IntKind.u8.wrap t598.1), .int .u64 z945, .int .u64 z946, .int .u64 t951.1, .int .u64 (0:Int), .int .i64 (0:Int), .int .u64 (0:Int), .int .u64 (0:Int), .int .u64 (0:Int), (.slice none 0 0), (.slice none 0 0), (.slice none 0 0), (.slice none 0 0), (.slice none 0 0), .int .i64 (0:Int), .int .u64 (0:Int), .int .u64 (0:Int), (.slice none 0 0), (.slice none 0 0), .int .u64 (0:Int), (.slice none 0 0), .int .u64 (0:Int), .int .i64 (0:Int), .int .i64 (0:Int), .float .f64 (0:Nat), .float .f64 (0:Nat), .int .u64 (0:Int), .int .i64 (0:Int), .bool false]) 3 (.int .u64 t951.1) Try.sizeOf27 (Nat.le_of_ble_eq_true rfl) (ones_cons rfl ones_nil) (by kernel_rfl)
                  refine wl_unit rfl rfl (x_unit hr957) ?_
                  refine wl_nil ?_
                  refine then_n ?_
                  refine wp_seq ?_
                  refine wp_region_lit ?_
                  refine wl_val (v := .pointer (some ⟨b592, 0, none⟩)) rfl rfl (x_load rfl Try.isAgg61 (hst.bc3 rfl)) ?_
                  replace hst := hst.pull1
                  obtain ⟨t958, ht959, hm⟩ := bind_some hm
                  refine wl_call rfl rfl (x_call Try.call55 rfl (vs := [.pointer (some ⟨b592, 0, none⟩)]) rfl) ?_
                  refine (command_readRule_ref hst.to1 ht959).mono ?_
                  rintro _ w960 ⟨rfl, hst⟩
                  refine ⟨_, rfl, ?_⟩
                  replace hst := hst.of1
                  refine wl_val (v := .pointer (some ⟨b619, 21, none⟩)) rfl rfl (x_field rfl Try.underlying45 rfl Try.sizeOf43 rfl) ?_
                  replace hst := hst.pull1
                  obtain ⟨w963, hr964, hst⟩ := hst.boxStore (P := Try.prog) (t := 43) (cs' := [.int .u8 (IntKind.u8.wrap t598.1), .int .u64 z945, .int .u64 z946, .int .u64 t951.1, .int .u64 (0:Int), .int .i64 (0:Int), .int .u64 (0:Int), .int .u64 (0:Int), .int .u64 (0:Int), (.slice none 0 0), (.slice none 0 0), (.slice none 0 0), (.slice none 0 0), (.slice none 0 0), .int .i64 (0:Int), .int .u64 (0:Int), .int .u64 (0:Int), (.slice none 0 0), (.slice none 0 0), .int .u64 (0:Int), (.slice none 0 0), .int .u64 t958.1.ID, .int .i64 t958.1.From, .int .i64 t958.1.To, .float .f64 t958.1.Lo, .float .f64 t958.1.Hi, .int .u64 t958.1.Authority, .int .i64 t958.1.Quota, .bool false]) 21 (.agg #[.int .u64 t958.1.ID, .int .i64 t958.1.From, .int .i64 t958.1.To, .float .f64 t958.1.Lo, .float .f64 t958.1.Hi, .int .u64 t958.1.Authority, .int .i64 t958.1.Quota]) Try.sizeOf43 (Nat.le_of_ble_eq_true rfl) (ones_cons rfl (ones_cons rfl (ones_cons rfl (ones_cons rfl (ones_cons rfl (ones_cons rfl (ones_cons rfl ones_nil))))))) (by kernel_rfl)
                  refine wl_unit rfl rfl (x_unit hr964) ?_
                  refine wl_nil ?_
                  refine then_n ?_
                  refine wp_seq ?_
                  refine wp_region_lit ?_
                  refine wl_val (v := .pointer (some ⟨b592, 0, none⟩)) rfl rfl (x_load rfl Try.isAgg61 (hst.bc3 rfl)) ?_
                  replace hst := hst.pull1
                  obtain ⟨t965, ht966, hm⟩ := bind_some hm
                  refine wl_call rfl rfl (x_call Try.call54 rfl (vs := [.pointer (some ⟨b592, 0, none⟩)]) rfl) ?_
                  refine (command_readWrites_ref hst.to1 ht966).mono ?_
                  rintro _ w967 ⟨I968, v970, rfl, hI969, hst⟩
                  refine ⟨_, rfl, ?_⟩
                  replace hst := hst.of2
                  replace f0_0 := f0_0.mono (ro_le hI969)
                  replace f595 := f595.mono (ro_le hI969)
                  replace hI0 := hI0.trans hI969
                  replace hL1045 := hL1045.trans hI969
                  refine wl_val (v := .pointer (some ⟨b619, 13, none⟩)) rfl rfl (x_field rfl Try.underlying45 rfl Try.sizeOf35 rfl) ?_
                  replace hst := hst.pull2
                  obtain ⟨w972, hr973, hst⟩ := hst.boxStore1 (P := Try.prog) (t := 35) (cs' := [.int .u8 (IntKind.u8.wrap t598.1), .int .u64 z945, .int .u64 z946, .int .u64 t951.1, .int .u64 (0:Int), .int .i64 (0:Int), .int .u64 (0:Int), .int .u64 (0:Int), .int .u64 (0:Int), (.slice none 0 0), (.slice none 0 0), (.slice none 0 0), (.slice none 0 0), v970, .int .i64 (0:Int), .int .u64 (0:Int), .int .u64 (0:Int), (.slice none 0 0), (.slice none 0 0), .int .u64 (0:Int), (.slice none 0 0), .int .u64 t958.1.ID, .int .i64 t958.1.From, .int .i64 t958.1.To, .float .f64 t958.1.Lo, .float .f64 t958.1.Hi, .int .u64 t958.1.Authority, .int .i64 t958.1.Quota, .bool false]) 13 v970 (one_of_sliceV hst.sv1) Try.sizeOf35 rfl rfl
                  refine wl_unit rfl rfl (x_unit hr973) ?_
                  refine wl_nil ?_
                  refine then_n ?_
                  refine wp_region_lit ?_
                  refine wl_val (v := .pointer (some ⟨b592, 0, none⟩)) rfl rfl (x_load rfl Try.isAgg61 (hst.bc4 rfl)) ?_
                  replace hst := hst.pull2
                  obtain ⟨t974, ht975, hm⟩ := bind_some hm
                  refine wl_call rfl rfl (x_call Try.call16 rfl (vs := [.pointer (some ⟨b592, 0, none⟩)]) rfl) ?_
                  refine (command_ReadReply_ref hst.to1 ht975).mono ?_
                  rintro _ w976 ⟨I977, v979, v981, rfl, hI978, hst⟩
                  refine ⟨_, rfl, ?_⟩
                  replace hst := hst.of3
                  replace f0_0 := f0_0.mono (ro_le hI978)
                  replace f595 := f595.mono (ro_le hI978)
                  replace hI0 := hI0.trans hI978
                  replace hL1045 := hL1045.trans hI978
                  refine wl_val (v := .pointer (some ⟨b619, 14, none⟩)) rfl rfl (x_field rfl Try.underlying45 rfl Try.sizeOf39 rfl) ?_
                  replace hst := hst.pull3
                  obtain ⟨w983, hr984, hst⟩ := hst.boxStore (P := Try.prog) (t := 39) (cs' := [.int .u8 (IntKind.u8.wrap t598.1), .int .u64 z945, .int .u64 z946, .int .u64 t951.1, .int .u64 (0:Int), .int .i64 (0:Int), .int .u64 (0:Int), .int .u64 (0:Int), .int .u64 (0:Int), (.slice none 0 0), (.slice none 0 0), (.slice none 0 0), (.slice none 0 0), v970, .int .i64 t974.1.E, .int .u64 t974.1.Epoch, .int .u64 t974.1.Index, v979, v981, .int .u64 (0:Int), (.slice none 0 0), .int .u64 t958.1.ID, .int .i64 t958.1.From, .int .i64 t958.1.To, .float .f64 t958.1.Lo, .float .f64 t958.1.Hi, .int .u64 t958.1.Authority, .int .i64 t958.1.Quota, .bool false]) 14 (.agg #[.int .i64 t974.1.E, .int .u64 t974.1.Epoch, .int .u64 t974.1.Index, v979, v981]) Try.sizeOf39 (Nat.le_of_ble_eq_true rfl) (ones_cons rfl (ones_cons rfl (ones_cons rfl (ones_cons (one_of_sliceV hst.sv1) (ones_cons (one_of_sliceV hst.sv2) ones_nil))))) (by kernel_rfl)
                  refine wl_unit rfl rfl (x_unit hr984) ?_
                  refine wl_nil ?_
                  refine blk_n ?_
                  refine then_n ?_
                  replace hst := hst.own_nil tyF64
                  replace hst := hst.own_nil tyF2
                  replace hst := hst.own_nil tyF64
                  replace hst := hst.own_nil (tyInt .u8)
                  replace hst := hst.own_nil ty_api_Part
                  replace hst := hst.pull7
                  replace hst := hst.pull7
                  replace hst := hst.pull9
                  replace hst := hst.pull4
                  replace hst := hst.pull5
                  replace hst := hst.pull6
                  replace hst := hst.pull7
                  replace hst := hst.pull8
                  replace hst := hst.pull9
                  replace hst := hst.pull11
                  replace hst := hst.pull11
                  replace hst := hst.keep12
                  obtain rfl := some_inj hm
                  exact ⟨_, t974.2, z945, z946, t951.1, (0:Int), (0:Int), (0:Int), (0:Int), (0:Int), ([]), ([]), ([]), ([]), t965.1, t974.1.E, t974.1.Epoch, t974.1.Index, t974.1.Gots, t974.1.Scans, (0:Int), ([]), t958.1.ID, t958.1.From, t958.1.To, t958.1.Lo, t958.1.Hi, t958.1.Authority, t958.1.Quota, false, (.slice none 0 0), (.slice none 0 0), (.slice none 0 0), (.slice none 0 0), v970, v979, v981, (.slice none 0 0), _, hx1044, ((fr_upd (t := 0) (v := r0_0) rfl).trans ((fr_upd (t := 2) (v := .pointer (some ⟨b575, 0, none⟩)) rfl).trans ((fr_upd (t := 4) (v := .pointer (some ⟨b587, 0, none⟩)) rfl).trans ((fr_upd (t := 5) (v := .pointer (some ⟨b619, 0, none⟩)) rfl).trans rfl)))), hL1045, hst⟩
                · skip
                  replace hm := bif_f hc931 hm
                  refine wp_iff (congrArg Value.bool hc931) ?_
                  refine wp_seq ?_
                  refine wp_region_lit ?_
                  refine wl_val (v := .agg #[.int .u8 (0:Int), .int .u64 (0:Int), .int .u64 (0:Int), .int .u64 (0:Int), .int .u64 (0:Int), .int .i64 (0:Int), .int .u64 (0:Int), .int .u64 (0:Int), .int .u64 (0:Int), (.slice none 0 0), (.slice none 0 0), (.slice none 0 0), (.slice none 0 0), (.slice none 0 0), .int .i64 (0:Int), .int .u64 (0:Int), .int .u64 (0:Int), (.slice none 0 0), (.slice none 0 0), .int .u64 (0:Int), (.slice none 0 0), .int .u64 (0:Int), .int .i64 (0:Int), .int .i64 (0:Int), .float .f64 (0:Nat), .float .f64 (0:Nat), .int .u64 (0:Int), .int .i64 (0:Int), .bool false]) rfl rfl (by kernel_rfl) ?_
                  replace hst := hst.pull3
                  obtain ⟨w993, hr994, hst⟩ := hst.boxStore (P := Try.prog) (t := 45) (cs' := [.int .u8 (0:Int), .int .u64 (0:Int), .int .u64 (0:Int), .int .u64 (0:Int), .int .u64 (0:Int), .int .i64 (0:Int), .int .u64 (0:Int), .int .u64 (0:Int), .int .u64 (0:Int), (.slice none 0 0), (.slice none 0 0), (.slice none 0 0), (.slice none 0 0), (.slice none 0 0), .int .i64 (0:Int), .int .u64 (0:Int), .int .u64 (0:Int), (.slice none 0 0), (.slice none 0 0), .int .u64 (0:Int), (.slice none 0 0), .int .u64 (0:Int), .int .i64 (0:Int), .int .i64 (0:Int), .float .f64 (0:Nat), .float .f64 (0:Nat), .int .u64 (0:Int), .int .i64 (0:Int), .bool false]) 0 (.agg #[.int .u8 (0:Int), .int .u64 (0:Int), .int .u64 (0:Int), .int .u64 (0:Int), .int .u64 (0:Int), .int .i64 (0:Int), .int .u64 (0:Int), .int .u64 (0:Int), .int .u64 (0:Int), (.slice none 0 0), (.slice none 0 0), (.slice none 0 0), (.slice none 0 0), (.slice none 0 0), .int .i64 (0:Int), .int .u64 (0:Int), .int .u64 (0:Int), (.slice none 0 0), (.slice none 0 0), .int .u64 (0:Int), (.slice none 0 0), .int .u64 (0:Int), .int .i64 (0:Int), .int .i64 (0:Int), .float .f64 (0:Nat), .float .f64 (0:Nat), .int .u64 (0:Int), .int .i64 (0:Int), .bool false]) Try.sizeOf45 (Nat.le_of_ble_eq_true rfl) (ones_cons rfl (ones_cons rfl (ones_cons rfl (ones_cons rfl (ones_cons rfl (ones_cons rfl (ones_cons rfl (ones_cons rfl (ones_cons rfl (ones_cons rfl (ones_cons rfl (ones_cons rfl (ones_cons rfl (ones_cons rfl (ones_cons rfl (ones_cons rfl (ones_cons rfl (ones_cons rfl (ones_cons rfl (ones_cons rfl (ones_cons rfl (ones_cons rfl (ones_cons rfl (ones_cons rfl (ones_cons rfl (ones_cons rfl (ones_cons rfl (ones_cons rfl (ones_cons rfl ones_nil))))))))))))))))))))))))))))) (by kernel_rfl)
                  refine wl_unit rfl rfl (x_unit hr994) ?_
                  refine wl_val (v := .int .i64 (5:Int)) rfl rfl rfl ?_
                  refine wl_nil ?_
                  refine then_n ?_
                  refine wp_ret ?_
                  refine blk_r ?_
                  refine then_r ?_
                  replace hm := inr_up hm hx1044
                  replace hst := hst.own_nil tyF64
                  replace hst := hst.own_nil tyF2
                  replace hst := hst.own_nil tyF64
                  replace hst := hst.own_nil (tyInt .u8)
                  replace hst := hst.own_nil ty_api_Write
                  replace hst := hst.own_nil ty_api_Got
                  replace hst := hst.own_nil (tySl ty_api_Pair)
                  replace hst := hst.own_nil ty_api_Part
                  obtain rfl := some_inj hm
                  refine post_ret (vs := [.agg #[.int .u8 (0:Int), .int .u64 (0:Int), .int .u64 (0:Int), .int .u64 (0:Int), .int .u64 (0:Int), .int .i64 (0:Int), .int .u64 (0:Int), .int .u64 (0:Int), .int .u64 (0:Int), (.slice none 0 0), (.slice none 0 0), (.slice none 0 0), (.slice none 0 0), (.slice none 0 0), .int .i64 (0:Int), .int .u64 (0:Int), .int .u64 (0:Int), (.slice none 0 0), (.slice none 0 0), .int .u64 (0:Int), (.slice none 0 0), .int .u64 (0:Int), .int .i64 (0:Int), .int .i64 (0:Int), .float .f64 (0:Nat), .float .f64 (0:Nat), .int .u64 (0:Int), .int .i64 (0:Int), .bool false], .int .i64 (5:Int)]) Try.results20 (rvs_cons (rv_cell (cs := [.int .u8 (0:Int), .int .u64 (0:Int), .int .u64 (0:Int), .int .u64 (0:Int), .int .u64 (0:Int), .int .i64 (0:Int), .int .u64 (0:Int), .int .u64 (0:Int), .int .u64 (0:Int), (.slice none 0 0), (.slice none 0 0), (.slice none 0 0), (.slice none 0 0), (.slice none 0 0), .int .i64 (0:Int), .int .u64 (0:Int), .int .u64 (0:Int), (.slice none 0 0), (.slice none 0 0), .int .u64 (0:Int), (.slice none 0 0), .int .u64 (0:Int), .int .i64 (0:Int), .int .i64 (0:Int), .float .f64 (0:Nat), .float .f64 (0:Nat), .int .u64 (0:Int), .int .i64 (0:Int), .bool false]) rfl Try.isAgg45 Try.sizeOf45 (hst.bcs8 0 rfl)) (rvs_cons (rv_tmp rfl) rvs_nil)) ?_
                  replace hst := hst.pull1
                  replace hst := hst.pull2
                  replace hst := hst.pull3
                  replace hst := hst.pull4
                  replace hst := hst.pull5
                  replace hst := hst.pull6
                  replace hst := hst.pull7
                  exact ⟨_, (.slice none 0 0), (.slice none 0 0), (.slice none 0 0), (.slice none 0 0), (.slice none 0 0), (.slice none 0 0), (.slice none 0 0), (.slice none 0 0), rfl, hI0, hst.keep8⟩
  · skip
    clear hst
    rintro _ w1046 ⟨I1040, z995, z996, z997, z998, z999, z1000, z1001, z1002, z1003, z1006, z1009, z1012, z1015, z1018, z1019, z1020, z1021, z1024, z1027, z1028, z1031, z1032, z1033, z1034, z1035, z1036, z1037, z1038, z1039, v1005, v1008, v1011, v1014, v1017, v1023, v1026, v1030, σ1041, hm, rfl, hL1042, hst⟩
    dsimp only [command_Decode_j0] at hm
    replace f0_0 := f0_0.mono (ro_le hL1042)
    replace f595 := f595.mono (ro_le hL1042)
    replace hI0 := hI0.trans hL1042
    refine wp_seq ?_
    refine wp_seq ?_
    refine wp_region_lit ?_
    refine wl_val (v := .pointer (some ⟨b592, 0, none⟩)) rfl rfl (x_load rfl Try.isAgg61 (hst.bc1 rfl)) ?_
    replace hst := hst.pull2
    obtain ⟨t1047, ht1048, hm⟩ := bind_some hm
    refine wl_call rfl rfl (x_call Try.call18 rfl (vs := [.pointer (some ⟨b592, 0, none⟩)]) rfl) ?_
    refine (octet_Reader_End_ref hst.to1 ht1048).mono ?_
    rintro _ w1049 ⟨rfl, hst⟩
    refine ⟨_, rfl, ?_⟩
    replace hst := hst.of1
    refine wl_val (v := .bool (!t1047)) rfl rfl rfl ?_
    refine wl_val (v := .bool (!t1047)) rfl rfl rfl ?_
    refine bsplit (!t1047) (fun hc1052 => ?_) (fun hc1052 => ?_)
    · skip
      replace hm := bif_t hc1052 hm
      refine wl_off ((wanted_eq rfl rfl rfl (congrArg Value.bool hc1052)).trans rfl) rfl ?_
      refine wl_off ((wanted_eq rfl rfl rfl (congrArg Value.bool hc1052)).trans rfl) rfl ?_
      refine wl_off ((wanted_eq rfl rfl rfl (congrArg Value.bool hc1052)).trans rfl) rfl ?_
      refine wl_off ((wanted_eq rfl rfl rfl (congrArg Value.bool hc1052)).trans rfl) rfl ?_
      refine wl_off ((wanted_eq rfl rfl rfl (congrArg Value.bool hc1052)).trans rfl) rfl ?_
      refine wl_val (v := .bool true) rfl rfl (x_pick_t hc1052 rfl rfl) ?_
      refine wl_nil ?_
      refine then_n ?_
      refine wp_ift rfl ?_
      refine wp_seq ?_
      refine wp_region_lit ?_
      refine wl_val (v := .agg #[.int .u8 (0:Int), .int .u64 (0:Int), .int .u64 (0:Int), .int .u64 (0:Int), .int .u64 (0:Int), .int .i64 (0:Int), .int .u64 (0:Int), .int .u64 (0:Int), .int .u64 (0:Int), (.slice none 0 0), (.slice none 0 0), (.slice none 0 0), (.slice none 0 0), (.slice none 0 0), .int .i64 (0:Int), .int .u64 (0:Int), .int .u64 (0:Int), (.slice none 0 0), (.slice none 0 0), .int .u64 (0:Int), (.slice none 0 0), .int .u64 (0:Int), .int .i64 (0:Int), .int .i64 (0:Int), .float .f64 (0:Nat), .float .f64 (0:Nat), .int .u64 (0:Int), .int .i64 (0:Int), .bool false]) rfl rfl (by kernel_rfl) ?_
      replace hst := hst.pull1
      obtain ⟨w1061, hr1062, hst⟩ := hst.boxStore (P := Try.prog) (t := 45) (cs' := [.int .u8 (0:Int), .int .u64 (0:Int), .int .u64 (0:Int), .int .u64 (0:Int), .int .u64 (0:Int), .int .i64 (0:Int), .int .u64 (0:Int), .int .u64 (0:Int), .int .u64 (0:Int), (.slice none 0 0), (.slice none 0 0), (.slice none 0 0), (.slice none 0 0), (.slice none 0 0), .int .i64 (0:Int), .int .u64 (0:Int), .int .u64 (0:Int), (.slice none 0 0), (.slice none 0 0), .int .u64 (0:Int), (.slice none 0 0), .int .u64 (0:Int), .int .i64 (0:Int), .int .i64 (0:Int), .float .f64 (0:Nat), .float .f64 (0:Nat), .int .u64 (0:Int), .int .i64 (0:Int), .bool false]) 0 (.agg #[.int .u8 (0:Int), .int .u64 (0:Int), .int .u64 (0:Int), .int .u64 (0:Int), .int .u64 (0:Int), .int .i64 (0:Int), .int .u64 (0:Int), .int .u64 (0:Int), .int .u64 (0:Int), (.slice none 0 0), (.slice none 0 0), (.slice none 0 0), (.slice none 0 0), (.slice none 0 0), .int .i64 (0:Int), .int .u64 (0:Int), .int .u64 (0:Int), (.slice none 0 0), (.slice none 0 0), .int .u64 (0:Int), (.slice none 0 0), .int .u64 (0:Int), .int .i64 (0:Int), .int .i64 (0:Int), .float .f64 (0:Nat), .float .f64 (0:Nat), .int .u64 (0:Int), .int .i64 (0:Int), .bool false]) Try.sizeOf45 (Nat.le_of_ble_eq_true rfl) (ones_cons rfl (ones_cons rfl (ones_cons rfl (ones_cons rfl (ones_cons rfl (ones_cons rfl (ones_cons rfl (ones_cons rfl (ones_cons rfl (ones_cons rfl (ones_cons rfl (ones_cons rfl (ones_cons rfl (ones_cons rfl (ones_cons rfl (ones_cons rfl (ones_cons rfl (ones_cons rfl (ones_cons rfl (ones_cons rfl (ones_cons rfl (ones_cons rfl (ones_cons rfl (ones_cons rfl (ones_cons rfl (ones_cons rfl (ones_cons rfl (ones_cons rfl (ones_cons rfl ones_nil))))))))))))))))))))))))))))) (by kernel_rfl)
      refine wl_unit rfl rfl (x_unit hr1062) ?_
      refine wl_val (v := .int .i64 (5:Int)) rfl rfl rfl ?_
      refine wl_nil ?_
      refine then_n ?_
      refine wp_ret ?_
      refine then_r ?_
      replace hst := hst.own_nil tyF64
      replace hst := hst.own_nil tyF2
      replace hst := hst.own_nil tyF64
      replace hst := hst.own_nil (tyInt .u8)
      replace hst := hst.own_nil ty_api_Write
      replace hst := hst.own_nil ty_api_Got
      replace hst := hst.own_nil (tySl ty_api_Pair)
      replace hst := hst.own_nil ty_api_Part
      obtain rfl := some_inj hm
      refine post_ret (vs := [.agg #[.int .u8 (0:Int), .int .u64 (0:Int), .int .u64 (0:Int), .int .u64 (0:Int), .int .u64 (0:Int), .int .i64 (0:Int), .int .u64 (0:Int), .int .u64 (0:Int), .int .u64 (0:Int), (.slice none 0 0), (.slice none 0 0), (.slice none 0 0), (.slice none 0 0), (.slice none 0 0), .int .i64 (0:Int), .int .u64 (0:Int), .int .u64 (0:Int), (.slice none 0 0), (.slice none 0 0), .int .u64 (0:Int), (.slice none 0 0), .int .u64 (0:Int), .int .i64 (0:Int), .int .i64 (0:Int), .float .f64 (0:Nat), .float .f64 (0:Nat), .int .u64 (0:Int), .int .i64 (0:Int), .bool false], .int .i64 (5:Int)]) Try.results20 (rvs_cons (rv_cell (cs := [.int .u8 (0:Int), .int .u64 (0:Int), .int .u64 (0:Int), .int .u64 (0:Int), .int .u64 (0:Int), .int .i64 (0:Int), .int .u64 (0:Int), .int .u64 (0:Int), .int .u64 (0:Int), (.slice none 0 0), (.slice none 0 0), (.slice none 0 0), (.slice none 0 0), (.slice none 0 0), .int .i64 (0:Int), .int .u64 (0:Int), .int .u64 (0:Int), (.slice none 0 0), (.slice none 0 0), .int .u64 (0:Int), (.slice none 0 0), .int .u64 (0:Int), .int .i64 (0:Int), .int .i64 (0:Int), .float .f64 (0:Nat), .float .f64 (0:Nat), .int .u64 (0:Int), .int .i64 (0:Int), .bool false]) rfl Try.isAgg45 Try.sizeOf45 (hst.bcs8 0 rfl)) (rvs_cons (rv_tmp rfl) rvs_nil)) ?_
      replace hst := hst.pull1
      replace hst := hst.pull2
      replace hst := hst.pull3
      replace hst := hst.pull4
      replace hst := hst.pull5
      replace hst := hst.pull6
      replace hst := hst.pull7
      exact ⟨_, (.slice none 0 0), (.slice none 0 0), (.slice none 0 0), (.slice none 0 0), (.slice none 0 0), (.slice none 0 0), (.slice none 0 0), (.slice none 0 0), rfl, hI0, hst.keep8⟩
    · skip
      replace hm := bif_f hc1052 hm
      refine wl_val (v := .agg #[.int .u8 (IntKind.u8.wrap t598.1), .int .u64 z996, .int .u64 z997, .int .u64 z998, .int .u64 z999, .int .i64 z1000, .int .u64 z1001, .int .u64 z1002, .int .u64 z1003, v1005, v1008, v1011, v1014, v1017, .int .i64 z1019, .int .u64 z1020, .int .u64 z1021, v1023, v1026, .int .u64 z1028, v1030, .int .u64 z1032, .int .i64 z1033, .int .i64 z1034, .float .f64 z1035, .float .f64 z1036, .int .u64 z1037, .int .i64 z1038, .bool z1039]) ((wanted_eq rfl rfl rfl (congrArg Value.bool hc1052)).trans rfl) rfl (x_loadN (cs := [.int .u8 (IntKind.u8.wrap t598.1), .int .u64 z996, .int .u64 z997, .int .u64 z998, .int .u64 z999, .int .i64 z1000, .int .u64 z1001, .int .u64 z1002, .int .u64 z1003, v1005, v1008, v1011, v1014, v1017, .int .i64 z1019, .int .u64 z1020, .int .u64 z1021, v1023, v1026, .int .u64 z1028, v1030, .int .u64 z1032, .int .i64 z1033, .int .i64 z1034, .float .f64 z1035, .float .f64 z1036, .int .u64 z1037, .int .i64 z1038, .bool z1039]) rfl Try.isAgg45 Try.sizeOf45 (hst.bcs3 0 rfl)) ?_
      replace hst := hst.pull4
      obtain ⟨css1063, hq1064, hst⟩ := hst.own_open
      replace hst := hst.pull5
      obtain ⟨css1065, hq1066, hst⟩ := hst.own_open
      replace hst := hst.pull6
      obtain ⟨css1067, hq1068, hst⟩ := hst.own_open
      replace hst := hst.pull7
      obtain ⟨css1069, hq1070, hst⟩ := hst.own_open
      replace hst := hst.pull8
      obtain ⟨css1071, hq1072, hst⟩ := hst.own_open
      replace hst := hst.pull9
      obtain ⟨css1073, hq1074, hst⟩ := hst.own_open
      replace hst := hst.pull10
      obtain ⟨css1075, hq1076, hst⟩ := hst.own_open
      replace hst := hst.pull11
      obtain ⟨css1077, hq1078, hst⟩ := hst.own_open
      obtain ⟨t1079, ht1080, hm⟩ := bind_some hm
      refine wl_call ((wanted_eq rfl rfl rfl (congrArg Value.bool hc1052)).trans rfl) rfl (x_call Try.call10 rfl (vs := [.agg #[.int .u8 (IntKind.u8.wrap t598.1), .int .u64 z996, .int .u64 z997, .int .u64 z998, .int .u64 z999, .int .i64 z1000, .int .u64 z1001, .int .u64 z1002, .int .u64 z1003, v1005, v1008, v1011, v1014, v1017, .int .i64 z1019, .int .u64 z1020, .int .u64 z1021, v1023, v1026, .int .u64 z1028, v1030, .int .u64 z1032, .int .i64 z1033, .int .i64 z1034, .float .f64 z1035, .float .f64 z1036, .int .u64 z1037, .int .i64 z1038, .bool z1039]]) rfl) ?_
      refine (command_Encode_ref (hst.rdrow7 hq1064) (hst.rdrow6 hq1066) (hst.rdrow5 hq1068) (hst.rdrow4 hq1070) (hst.rdrow3 hq1072) (hst.rdrow2 hq1074) (hst.rdrow1 hq1076) (hst.rdrow0 hq1078) hst.to0 ht1080).mono ?_
      rintro _ w1081 ⟨v1084, rfl, hst⟩
      refine ⟨_, rfl, ?_⟩
      replace hst := hst.of1
      replace hst := hst.pull8
      replace hst := hst.own_close hq1064
      replace hst := hst.pull8
      replace hst := hst.own_close hq1066
      replace hst := hst.pull8
      replace hst := hst.own_close hq1068
      replace hst := hst.pull8
      replace hst := hst.own_close hq1070
      replace hst := hst.pull8
      replace hst := hst.own_close hq1072
      replace hst := hst.pull8
      replace hst := hst.own_close hq1074
      replace hst := hst.pull8
      replace hst := hst.own_close hq1076
      replace hst := hst.pull8
      replace hst := hst.own_close hq1078
      refine wl_val (v := r0_0) ((wanted_eq rfl rfl rfl (congrArg Value.bool hc1052)).trans rfl) rfl rfl ?_
      replace hst := hst.pull8
      obtain ⟨css1086, hq1087, hst⟩ := hst.own_open
      obtain ⟨t1088, ht1089, hm⟩ := bind_some hm
      refine wl_call ((wanted_eq rfl rfl rfl (congrArg Value.bool hc1052)).trans rfl) rfl (x_call Try.call56 rfl (vs := [v1084, r0_0]) rfl) ?_
      refine (slices_Equal_byte_byte_ref (hst.rdrow0 hq1087) (f0_0.mono ro_rd) hst.to0 ht1089).mono ?_
      rintro _ w1090 ⟨rfl, hst⟩
      refine ⟨_, rfl, ?_⟩
      replace hst := hst.of0
      replace hst := hst.own_close hq1087
      refine wl_val (v := .bool (!t1088)) ((wanted_eq rfl rfl rfl (congrArg Value.bool hc1052)).trans rfl) rfl rfl ?_
      refine wl_val (v := .bool (!t1088)) rfl rfl (x_pick_f hc1052 rfl rfl) ?_
      refine wl_nil ?_
      refine then_n ?_
      refine bsplit (!t1088) (fun hc1093 => ?_) (fun hc1093 => ?_)
      · skip
        replace hm := bif_t hc1093 hm
        refine wp_ift (congrArg Value.bool hc1093) ?_
        refine wp_seq ?_
        refine wp_region_lit ?_
        refine wl_val (v := .agg #[.int .u8 (0:Int), .int .u64 (0:Int), .int .u64 (0:Int), .int .u64 (0:Int), .int .u64 (0:Int), .int .i64 (0:Int), .int .u64 (0:Int), .int .u64 (0:Int), .int .u64 (0:Int), (.slice none 0 0), (.slice none 0 0), (.slice none 0 0), (.slice none 0 0), (.slice none 0 0), .int .i64 (0:Int), .int .u64 (0:Int), .int .u64 (0:Int), (.slice none 0 0), (.slice none 0 0), .int .u64 (0:Int), (.slice none 0 0), .int .u64 (0:Int), .int .i64 (0:Int), .int .i64 (0:Int), .float .f64 (0:Nat), .float .f64 (0:Nat), .int .u64 (0:Int), .int .i64 (0:Int), .bool false]) rfl rfl (by kernel_rfl) ?_
        replace hst := hst.pull10
        obtain ⟨w1102, hr1103, hst⟩ := hst.boxStore (P := Try.prog) (t := 45) (cs' := [.int .u8 (0:Int), .int .u64 (0:Int), .int .u64 (0:Int), .int .u64 (0:Int), .int .u64 (0:Int), .int .i64 (0:Int), .int .u64 (0:Int), .int .u64 (0:Int), .int .u64 (0:Int), (.slice none 0 0), (.slice none 0 0), (.slice none 0 0), (.slice none 0 0), (.slice none 0 0), .int .i64 (0:Int), .int .u64 (0:Int), .int .u64 (0:Int), (.slice none 0 0), (.slice none 0 0), .int .u64 (0:Int), (.slice none 0 0), .int .u64 (0:Int), .int .i64 (0:Int), .int .i64 (0:Int), .float .f64 (0:Nat), .float .f64 (0:Nat), .int .u64 (0:Int), .int .i64 (0:Int), .bool false]) 0 (.agg #[.int .u8 (0:Int), .int .u64 (0:Int), .int .u64 (0:Int), .int .u64 (0:Int), .int .u64 (0:Int), .int .i64 (0:Int), .int .u64 (0:Int), .int .u64 (0:Int), .int .u64 (0:Int), (.slice none 0 0), (.slice none 0 0), (.slice none 0 0), (.slice none 0 0), (.slice none 0 0), .int .i64 (0:Int), .int .u64 (0:Int), .int .u64 (0:Int), (.slice none 0 0), (.slice none 0 0), .int .u64 (0:Int), (.slice none 0 0), .int .u64 (0:Int), .int .i64 (0:Int), .int .i64 (0:Int), .float .f64 (0:Nat), .float .f64 (0:Nat), .int .u64 (0:Int), .int .i64 (0:Int), .bool false]) Try.sizeOf45 (Nat.le_of_ble_eq_true rfl) (ones_cons rfl (ones_cons rfl (ones_cons rfl (ones_cons rfl (ones_cons rfl (ones_cons rfl (ones_cons rfl (ones_cons rfl (ones_cons rfl (ones_cons rfl (ones_cons rfl (ones_cons rfl (ones_cons rfl (ones_cons rfl (ones_cons rfl (ones_cons rfl (ones_cons rfl (ones_cons rfl (ones_cons rfl (ones_cons rfl (ones_cons rfl (ones_cons rfl (ones_cons rfl (ones_cons rfl (ones_cons rfl (ones_cons rfl (ones_cons rfl (ones_cons rfl (ones_cons rfl ones_nil))))))))))))))))))))))))))))) (by kernel_rfl)
        refine wl_unit rfl rfl (x_unit hr1103) ?_
        refine wl_val (v := .int .i64 (5:Int)) rfl rfl rfl ?_
        refine wl_nil ?_
        refine then_n ?_
        refine wp_ret ?_
        refine then_r ?_
        replace hst := hst.own_nil tyF64
        replace hst := hst.own_nil tyF2
        replace hst := hst.own_nil tyF64
        replace hst := hst.own_nil (tyInt .u8)
        replace hst := hst.own_nil ty_api_Write
        replace hst := hst.own_nil ty_api_Got
        replace hst := hst.own_nil (tySl ty_api_Pair)
        replace hst := hst.own_nil ty_api_Part
        obtain rfl := some_inj hm
        refine post_ret (vs := [.agg #[.int .u8 (0:Int), .int .u64 (0:Int), .int .u64 (0:Int), .int .u64 (0:Int), .int .u64 (0:Int), .int .i64 (0:Int), .int .u64 (0:Int), .int .u64 (0:Int), .int .u64 (0:Int), (.slice none 0 0), (.slice none 0 0), (.slice none 0 0), (.slice none 0 0), (.slice none 0 0), .int .i64 (0:Int), .int .u64 (0:Int), .int .u64 (0:Int), (.slice none 0 0), (.slice none 0 0), .int .u64 (0:Int), (.slice none 0 0), .int .u64 (0:Int), .int .i64 (0:Int), .int .i64 (0:Int), .float .f64 (0:Nat), .float .f64 (0:Nat), .int .u64 (0:Int), .int .i64 (0:Int), .bool false], .int .i64 (5:Int)]) Try.results20 (rvs_cons (rv_cell (cs := [.int .u8 (0:Int), .int .u64 (0:Int), .int .u64 (0:Int), .int .u64 (0:Int), .int .u64 (0:Int), .int .i64 (0:Int), .int .u64 (0:Int), .int .u64 (0:Int), .int .u64 (0:Int), (.slice none 0 0), (.slice none 0 0), (.slice none 0 0), (.slice none 0 0), (.slice none 0 0), .int .i64 (0:Int), .int .u64 (0:Int), .int .u64 (0:Int), (.slice none 0 0), (.slice none 0 0), .int .u64 (0:Int), (.slice none 0 0), .int .u64 (0:Int), .int .i64 (0:Int), .int .i64 (0:Int), .float .f64 (0:Nat), .float .f64 (0:Nat), .int .u64 (0:Int), .int .i64 (0:Int), .bool false]) rfl Try.isAgg45 Try.sizeOf45 (hst.bcs8 0 rfl)) (rvs_cons (rv_tmp rfl) rvs_nil)) ?_
        replace hst := hst.pull1
        replace hst := hst.pull2
        replace hst := hst.pull3
        replace hst := hst.pull4
        replace hst := hst.pull5
        replace hst := hst.pull6
        replace hst := hst.pull7
        exact ⟨_, (.slice none 0 0), (.slice none 0 0), (.slice none 0 0), (.slice none 0 0), (.slice none 0 0), (.slice none 0 0), (.slice none 0 0), (.slice none 0 0), rfl, hI0, hst.keep8⟩
      · skip
        replace hm := bif_f hc1093 hm
        refine wp_iff (congrArg Value.bool hc1093) ?_
        refine wp_skip ?_
        refine then_n ?_
        refine wp_seq ?_
        refine wp_region_lit ?_
        refine wl_val (v := .agg #[.int .u8 (IntKind.u8.wrap t598.1), .int .u64 z996, .int .u64 z997, .int .u64 z998, .int .u64 z999, .int .i64 z1000, .int .u64 z1001, .int .u64 z1002, .int .u64 z1003, v1005, v1008, v1011, v1014, v1017, .int .i64 z1019, .int .u64 z1020, .int .u64 z1021, v1023, v1026, .int .u64 z1028, v1030, .int .u64 z1032, .int .i64 z1033, .int .i64 z1034, .float .f64 z1035, .float .f64 z1036, .int .u64 z1037, .int .i64 z1038, .bool z1039]) rfl rfl (x_loadN (cs := [.int .u8 (IntKind.u8.wrap t598.1), .int .u64 z996, .int .u64 z997, .int .u64 z998, .int .u64 z999, .int .i64 z1000, .int .u64 z1001, .int .u64 z1002, .int .u64 z1003, v1005, v1008, v1011, v1014, v1017, .int .i64 z1019, .int .u64 z1020, .int .u64 z1021, v1023, v1026, .int .u64 z1028, v1030, .int .u64 z1032, .int .i64 z1033, .int .i64 z1034, .float .f64 z1035, .float .f64 z1036, .int .u64 z1037, .int .i64 z1038, .bool z1039]) rfl Try.isAgg45 Try.sizeOf45 (hst.bcs12 0 rfl)) ?_
        replace hst := hst.pull10
        obtain ⟨w1104, hr1105, hst⟩ := hst.boxStore (P := Try.prog) (t := 45) (cs' := [.int .u8 (IntKind.u8.wrap t598.1), .int .u64 z996, .int .u64 z997, .int .u64 z998, .int .u64 z999, .int .i64 z1000, .int .u64 z1001, .int .u64 z1002, .int .u64 z1003, v1005, v1008, v1011, v1014, v1017, .int .i64 z1019, .int .u64 z1020, .int .u64 z1021, v1023, v1026, .int .u64 z1028, v1030, .int .u64 z1032, .int .i64 z1033, .int .i64 z1034, .float .f64 z1035, .float .f64 z1036, .int .u64 z1037, .int .i64 z1038, .bool z1039]) 0 (.agg #[.int .u8 (IntKind.u8.wrap t598.1), .int .u64 z996, .int .u64 z997, .int .u64 z998, .int .u64 z999, .int .i64 z1000, .int .u64 z1001, .int .u64 z1002, .int .u64 z1003, v1005, v1008, v1011, v1014, v1017, .int .i64 z1019, .int .u64 z1020, .int .u64 z1021, v1023, v1026, .int .u64 z1028, v1030, .int .u64 z1032, .int .i64 z1033, .int .i64 z1034, .float .f64 z1035, .float .f64 z1036, .int .u64 z1037, .int .i64 z1038, .bool z1039]) Try.sizeOf45 (Nat.le_of_ble_eq_true rfl) (ones_cons rfl (ones_cons rfl (ones_cons rfl (ones_cons rfl (ones_cons rfl (ones_cons rfl (ones_cons rfl (ones_cons rfl (ones_cons rfl (ones_cons (one_of_sliceV hst.sv9) (ones_cons (one_of_sliceV hst.sv8) (ones_cons (one_of_sliceV hst.sv7) (ones_cons (one_of_sliceV hst.sv6) (ones_cons (one_of_sliceV hst.sv5) (ones_cons rfl (ones_cons rfl (ones_cons rfl (ones_cons (one_of_sliceV hst.sv4) (ones_cons (one_of_sliceV hst.sv3) (ones_cons rfl (ones_cons (one_of_sliceV hst.sv2) (ones_cons rfl (ones_cons rfl (ones_cons rfl (ones_cons rfl (ones_cons rfl (ones_cons rfl (ones_cons rfl (ones_cons rfl ones_nil))))))))))))))))))))))))))))) (by kernel_rfl)
        refine wl_unit rfl rfl (x_unit hr1105) ?_
        refine wl_val (v := .int .i64 (0:Int)) rfl rfl rfl ?_
        refine wl_nil ?_
        refine then_n ?_
        refine wp_ret ?_
        obtain rfl := some_inj hm
        refine post_ret (vs := [.agg #[.int .u8 (IntKind.u8.wrap t598.1), .int .u64 z996, .int .u64 z997, .int .u64 z998, .int .u64 z999, .int .i64 z1000, .int .u64 z1001, .int .u64 z1002, .int .u64 z1003, v1005, v1008, v1011, v1014, v1017, .int .i64 z1019, .int .u64 z1020, .int .u64 z1021, v1023, v1026, .int .u64 z1028, v1030, .int .u64 z1032, .int .i64 z1033, .int .i64 z1034, .float .f64 z1035, .float .f64 z1036, .int .u64 z1037, .int .i64 z1038, .bool z1039], .int .i64 (0:Int)]) Try.results20 (rvs_cons (rv_cell (cs := [.int .u8 (IntKind.u8.wrap t598.1), .int .u64 z996, .int .u64 z997, .int .u64 z998, .int .u64 z999, .int .i64 z1000, .int .u64 z1001, .int .u64 z1002, .int .u64 z1003, v1005, v1008, v1011, v1014, v1017, .int .i64 z1019, .int .u64 z1020, .int .u64 z1021, v1023, v1026, .int .u64 z1028, v1030, .int .u64 z1032, .int .i64 z1033, .int .i64 z1034, .float .f64 z1035, .float .f64 z1036, .int .u64 z1037, .int .i64 z1038, .bool z1039]) rfl Try.isAgg45 Try.sizeOf45 (hst.bcs0 0 rfl)) (rvs_cons (rv_tmp rfl) rvs_nil)) ?_
        replace hst := hst.pull2
        replace hst := hst.pull3
        replace hst := hst.pull4
        replace hst := hst.pull5
        replace hst := hst.pull6
        replace hst := hst.pull7
        replace hst := hst.pull8
        replace hst := hst.pull9
        exact ⟨_, v1005, v1008, v1011, v1014, v1017, v1023, v1026, v1030, rfl, hI0, hst.keep8⟩

theorem ref12_Tape_Next_ref {w0 w : World} {I : HL} {R : SP} {a0 : ref12_Tape} {p0 : Value} {a1 : Int}  (hst : St w0 w I [at_ref12_Tape p0 a0] R) {r : (Int × ref12_Tape)} (hm : ref12_Tape_Next a0 a1 = some r) :
    Calls Try.prog 22 #[p0, .int .i64 a1] w fun e w' => e = .returned (.int .i64 r.1) ∧ St w0 w' I [at_ref12_Tape p0 r.2] R := by
  unfold ref12_Tape_Next at hm
  refine calls_start (args := [p0, .int .i64 a1]) Try.func22 rfl Try.ntmps22 (Nat.le_of_ble_eq_true rfl) ?_
  refine wp_seq ?_
  refine wp_region_lit ?_
  refine wl_val (v := .int .i64 (0:Int)) rfl rfl rfl ?_
  refine wl_nil ?_
  refine then_n ?_
  refine wp_seq ?_
  refine wp_seq ?_
  obtain ⟨b133, v134, ⟨rfl, f136⟩, hst'⟩ := at_ref12_Tape_open hst
  clear hst
  have hst := hst'
  clear hst'
  refine wq_regionS hst Try.mixed (by kernel_rfl) ?_
  refine wq_run (v := .pointer (some ⟨b133, 0, none⟩)) rfl rfl (fun w hst => rfl) ?_
  refine wq_run (v := .pointer (some ⟨b133, 0, none⟩)) rfl rfl (fun w hst => rfl) ?_
  refine wq_run (v := .pointer (some ⟨b133, 1, none⟩)) rfl rfl (fun w hst => x_field rfl Try.underlying26 rfl Try.sizeOf3 rfl) ?_
  refine wq_run (v := .int .i64 a0.I) rfl rfl (fun w hst => x_load rfl Try.isAgg3 (hst.bc0 rfl)) ?_
  refine wq_run (v := .pointer (some ⟨b133, 0, none⟩)) rfl rfl (fun w hst => rfl) ?_
  refine wq_run (v := .pointer (some ⟨b133, 0, none⟩)) rfl rfl (fun w hst => rfl) ?_
  refine wq_run (v := .pointer (some ⟨b133, 0, none⟩)) rfl rfl (fun w hst => x_field rfl Try.underlying26 rfl Try.sizeOf22 rfl) ?_
  refine wq_run (v := v134) rfl rfl (fun w hst => x_load rfl Try.isAgg22 (hst.bc0 rfl)) ?_
  refine wq_run (v := .int .i64 ((a0.L).length : Int)) rfl rfl (fun w hst => x_len rfl Try.underlying22 (ro_sliceV f136)) ?_
  refine wq_run (v := .bool (decide (a0.I ≥ ((a0.L).length : Int)))) rfl rfl (fun w hst => rfl) ?_
  refine wq_nil ?_
  intro w hst
  refine then_n ?_
  refine bsplit (decide (a0.I ≥ ((a0.L).length : Int))) (fun hc137 => ?_) (fun hc137 => ?_)
  · skip
    replace hm := bif_t hc137 hm
    refine wp_ift (congrArg Value.bool hc137) ?_
    refine wp_seq ?_
    refine wp_region_lit ?_
    refine wl_val (v := .int .i64 (0:Int)) rfl rfl rfl ?_
    refine wl_nil ?_
    refine then_n ?_
    refine wp_ret ?_
    refine then_r ?_
    replace hst := at_ref12_Tape_close (pv := .pointer (some ⟨b133, 0, none⟩)) (x := a0) hst ⟨rfl, f136⟩
    obtain rfl := some_inj hm
    refine post_ret (vs := [.int .i64 (0:Int)]) Try.results22 (rvs_cons (rv_tmp rfl) rvs_nil) ?_
    exact ⟨rfl, hst.keep1⟩
  · skip
    replace hm := bif_f hc137 hm
    refine wp_iff (congrArg Value.bool hc137) ?_
    refine wp_skip ?_
    refine then_n ?_
    refine wp_seq ?_
    refine wp_region_lit ?_
    refine wl_val (v := .pointer (some ⟨b133, 0, none⟩)) rfl rfl rfl ?_
    refine wl_val (v := .pointer (some ⟨b133, 0, none⟩)) rfl rfl rfl ?_
    refine wl_val (v := .pointer (some ⟨b133, 1, none⟩)) rfl rfl (x_field rfl Try.underlying26 rfl Try.sizeOf3 rfl) ?_
    refine wl_val (v := .int .i64 a0.I) rfl rfl (x_load rfl Try.isAgg3 (hst.bc0 rfl)) ?_
    refine wl_val (v := .int .i64 (IntKind.i64.wrap (a0.I + (1:Int)))) rfl rfl rfl ?_
    refine wl_val (v := .pointer (some ⟨b133, 0, none⟩)) rfl rfl rfl ?_
    refine wl_val (v := .pointer (some ⟨b133, 1, none⟩)) rfl rfl (x_field rfl Try.underlying26 rfl Try.sizeOf3 rfl) ?_
    obtain ⟨w138, hr139, hst⟩ := hst.boxStore (P := Try.prog) (t := 3) (cs' := [v134, .int .i64 (IntKind.i64.wrap (a0.I + (1:Int)))]) 1 (.int .i64 (IntKind.i64.wrap (a0.I + (1:Int)))) Try.sizeOf3 (Nat.le_of_ble_eq_true rfl) (ones_cons rfl ones_nil) (by kernel_rfl)
    refine wl_unit rfl rfl (x_unit hr139) ?_
    refine wl_nil ?_
    refine then_n ?_
    refine wp_seq ?_
    refine wq_regionS hst Try.mixed (by kernel_rfl) ?_
    refine wq_run (v := .pointer (some ⟨b133, 0, none⟩)) rfl rfl (fun w hst => rfl) ?_
    refine wq_run (v := .pointer (some ⟨b133, 0, none⟩)) rfl rfl (fun w hst => rfl) ?_
    refine wq_run (v := .pointer (some ⟨b133, 0, none⟩)) rfl rfl (fun w hst => x_field rfl Try.underlying26 rfl Try.sizeOf22 rfl) ?_
    refine wq_run (v := v134) rfl rfl (fun w hst => x_load rfl Try.isAgg22 (hst.bc0 rfl)) ?_
    refine wq_run (v := .pointer (some ⟨b133, 0, none⟩)) rfl rfl (fun w hst => rfl) ?_
    refine wq_run (v := .pointer (some ⟨b133, 0, none⟩)) rfl rfl (fun w hst => rfl) ?_
    refine wq_run (v := .pointer (some ⟨b133, 1, none⟩)) rfl rfl (fun w hst => x_field rfl Try.underlying26 rfl Try.sizeOf3 rfl) ?_
    refine wq_run (v := .int .i64 (IntKind.i64.wrap (a0.I + (1:Int)))) rfl rfl (fun w hst => x_load rfl Try.isAgg3 (hst.bc0 rfl)) ?_
    refine wq_run (v := .int .i64 (IntKind.i64.wrap ((IntKind.i64.wrap (a0.I + (1:Int))) - (1:Int)))) rfl rfl (fun w hst => rfl) ?_
    obtain ⟨x140, hx141, hm⟩ := bind_some hm
    obtain ⟨h142, h143, hi144⟩ := geto_some hx141
    refine wq_run (v := .pointer (some (eAddr v134 ((IntKind.i64.wrap ((IntKind.i64.wrap (a0.I + (1:Int))) - (1:Int))).toNat * 1 + 0)))) rfl rfl (fun w hst => x_index rfl rfl Try.underlying22 Try.sizeOf5 (ro_sliceV f136) h142 h143) ?_
    refine wq_run (v := .int .u8 x140) rfl rfl (fun w hst => x_load rfl Try.isAgg5 (ro_load f136 hst hi144 (by rintro _ rfl; rfl))) ?_
    refine wq_run (v := .int .i64 (IntKind.i64.wrap x140)) rfl rfl (fun w hst => by kernel_rfl) ?_
    refine wq_run (v := .int .i64 a1) rfl rfl (fun w hst => rfl) ?_
    obtain ⟨hg145, hm⟩ := gd_some hm
    refine wq_run (v := .int .i64 (Int.tmod (IntKind.i64.wrap x140) a1)) rfl rfl (fun w hst => x_rem (not_t hg145) rfl rfl) ?_
    refine wq_run (v := .int .i64 (Int.tmod (IntKind.i64.wrap x140) a1)) rfl rfl (fun w hst => rfl) ?_
    refine wq_nil ?_
    intro w hst
    refine then_n ?_
    refine wp_ret ?_
    replace hst := at_ref12_Tape_close (pv := .pointer (some ⟨b133, 0, none⟩)) (x := ({ L := a0.L, I := (IntKind.i64.wrap (a0.I + (1:Int))) } : ref12_Tape)) hst ⟨rfl, f136⟩
    obtain rfl := some_inj hm
    refine post_ret (vs := [.int .i64 (Int.tmod (IntKind.i64.wrap x140) a1)]) Try.results22 (rvs_cons (rv_tmp rfl) rvs_nil) ?_
    exact ⟨rfl, hst.keep1⟩

theorem ref12_Tape_Of_ref {w0 w : World} {I : HL} {R : SP} {a0 : ref12_Tape} {p0 : Value}  (hst : St w0 w I [at_ref12_Tape p0 a0] R) {r : (api_ID × ref12_Tape)} (hm : ref12_Tape_Of a0 = some r) :
    Calls Try.prog 24 #[p0] w fun e w' => e = .returned (.agg #[.int .u64 r.1.Session, .int .u64 r.1.Seq]) ∧ St w0 w' I [at_ref12_Tape p0 r.2] R := by
  unfold ref12_Tape_Of at hm
  refine calls_start (args := [p0]) Try.func24 rfl Try.ntmps24 (Nat.le_of_ble_eq_true rfl) ?_
  refine wp_seq ?_
  refine wp_region_lit ?_
  obtain ⟨b186, w187, ew188, eb189, hst⟩ := hst.box [.int .u64 (0:Int), .int .u64 (0:Int)] 29
  refine wl_run (v := .pointer (some ⟨b186, 0, none⟩)) (w' := w187) rfl rfl (x_al (by kernel_rfl) ew188 eb189) ?_
  refine wl_nil ?_
  refine then_n ?_
  refine wp_seq ?_
  refine wp_region_lit ?_
  refine wl_val (v := p0) rfl rfl rfl ?_
  replace hst := hst.pull1
  obtain ⟨t191, ht192, hm⟩ := bind_some hm
  refine wl_call rfl rfl (x_call Try.call22 rfl (vs := [p0, .int .i64 (4:Int)]) rfl) ?_
  refine (ref12_Tape_Next_ref hst.to1 ht192).mono ?_
  rintro _ w193 ⟨rfl, hst⟩
  refine ⟨_, rfl, ?_⟩
  replace hst := hst.of1
  refine wl_val (v := .int .u64 (IntKind.u64.wrap t191.1)) rfl rfl (by kernel_rfl) ?_
  refine wl_val (v := p0) rfl rfl rfl ?_
  obtain ⟨t196, ht197, hm⟩ := bind_some hm
  refine wl_call rfl rfl (x_call Try.call22 rfl (vs := [p0, .int .i64 (4:Int)]) rfl) ?_
  refine (ref12_Tape_Next_ref hst.to1 ht197).mono ?_
  rintro _ w198 ⟨rfl, hst⟩
  refine ⟨_, rfl, ?_⟩
  replace hst := hst.of1
  refine wl_val (v := .int .i64 (IntKind.i64.wrap ((1:Int) + t196.1))) rfl rfl rfl ?_
  refine wl_val (v := .int .u64 (IntKind.u64.wrap (IntKind.i64.wrap ((1:Int) + t196.1)))) rfl rfl (by kernel_rfl) ?_
  refine wl_val (v := .agg #[.int .u64 (IntKind.u64.wrap t191.1), .int .u64 (IntKind.u64.wrap (IntKind.i64.wrap ((1:Int) + t196.1)))]) rfl rfl (by kernel_rfl) ?_
  replace hst := hst.pull1
  obtain ⟨w201, hr202, hst⟩ := hst.boxStore (P := Try.prog) (t := 29) (cs' := [.int .u64 (IntKind.u64.wrap t191.1), .int .u64 (IntKind.u64.wrap (IntKind.i64.wrap ((1:Int) + t196.1)))]) 0 (.agg #[.int .u64 (IntKind.u64.wrap t191.1), .int .u64 (IntKind.u64.wrap (IntKind.i64.wrap ((1:Int) + t196.1)))]) Try.sizeOf29 (Nat.le_of_ble_eq_true rfl) (ones_cons rfl (ones_cons rfl ones_nil)) (by kernel_rfl)
  refine wl_unit rfl rfl (x_unit hr202) ?_
  refine wl_nil ?_
  refine then_n ?_
  refine wp_ret ?_
  obtain rfl := some_inj hm
  refine post_ret (vs := [.agg #[.int .u64 (IntKind.u64.wrap t191.1), .int .u64 (IntKind.u64.wrap (IntKind.i64.wrap ((1:Int) + t196.1)))]]) Try.results24 (rvs_cons (rv_cell (cs := [.int .u64 (IntKind.u64.wrap t191.1), .int .u64 (IntKind.u64.wrap (IntKind.i64.wrap ((1:Int) + t196.1)))]) rfl Try.isAgg29 Try.sizeOf29 (hst.bcs0 0 rfl)) rvs_nil) ?_
  replace hst := hst.pull1
  exact ⟨rfl, hst.keep1⟩

theorem ref12_small_ref {w0 w : World} {I : HL} {R : SP} {a0 : Int}  (hst : St w0 w I [] R) {r : (Nat)} (hm : ref12_small a0 = some r) :
    Calls Try.prog 63 #[.int .u8 a0] w fun e w' => e = .returned (.float .f64 r) ∧ St w0 w' I [] R := by
  unfold ref12_small at hm
  refine calls_start (args := [.int .u8 a0]) Try.func63 rfl Try.ntmps63 (Nat.le_of_ble_eq_true rfl) ?_
  refine wp_seq ?_
  refine wp_region_lit ?_
  refine wl_val (v := .float .f64 (0:Nat)) rfl rfl rfl ?_
  refine wl_nil ?_
  refine then_n ?_
  refine wp_seq ?_
  refine wp_region_lit ?_
  obtain ⟨b214, w215, ew216, eb217, hst⟩ := hst.lits (E := tyF64) (xs := [(0:Nat), (4607182418800017408:Nat), (13830554455654793216:Nat), (4612811918334230528:Nat), (9094988921128908188:Nat), (18318360957983683996:Nat), (4602678819172646912:Nat), (4613937818241073152:Nat)]) [[.float .f64 (0:Nat)], [.float .f64 (4607182418800017408:Nat)], [.float .f64 (13830554455654793216:Nat)], [.float .f64 (4612811918334230528:Nat)], [.float .f64 (9094988921128908188:Nat)], [.float .f64 (18318360957983683996:Nat)], [.float .f64 (4602678819172646912:Nat)], [.float .f64 (4613937818241073152:Nat)]] 41 8 rfl (Reps.cons rfl (Reps.cons rfl (Reps.cons rfl (Reps.cons rfl (Reps.cons rfl (Reps.cons rfl (Reps.cons rfl (Reps.cons rfl Reps.nil))))))))
  refine wl_run (v := (.slice (some ⟨b214, 0, none⟩) 8 8)) (w' := w215) rfl rfl (x_als (by kernel_rfl) ew216 eb217) ?_
  refine wl_val (v := (.slice (some ⟨b214, 0, none⟩) 8 8)) rfl rfl rfl ?_
  refine wl_nil ?_
  refine then_n ?_
  refine wp_seq ?_
  refine wp_region_lit ?_
  refine wl_val (v := (.slice (some ⟨b214, 0, none⟩) 8 8)) rfl rfl rfl ?_
  refine wl_val (v := .int .u8 a0) rfl rfl rfl ?_
  refine wl_val (v := .int .u8 (Int.tmod a0 (8:Int))) rfl rfl (x_rem (by decide) rfl rfl) ?_
  obtain ⟨x219, hx220, hm⟩ := bind_some hm
  obtain ⟨h221, h222, hi223⟩ := geto_some hx220
  refine wl_val (v := .pointer (some (eAddr (.slice (some ⟨b214, 0, none⟩) 8 8) ((Int.tmod a0 (8:Int)).toNat * 1 + 0)))) rfl rfl (x_index rfl rfl Try.underlying31 Try.sizeOf41 hst.sv0 h221 h222) ?_
  refine wl_val (v := .float .f64 x219) rfl rfl (x_load rfl Try.isAgg41 (hst.ol0 hi223 (by rintro _ rfl; rfl))) ?_
  refine wl_val (v := .float .f64 x219) rfl rfl rfl ?_
  refine wl_nil ?_
  refine then_n ?_
  refine wp_ret ?_
  obtain rfl := some_inj hm
  refine post_ret (vs := [.float .f64 x219]) Try.results63 (rvs_cons (rv_tmp rfl) rvs_nil) ?_
  exact ⟨rfl, hst.keep0⟩

theorem ref12_Tape_Float_ref {w0 w : World} {I : HL} {R : SP} {a0 : ref12_Tape} {p0 : Value}  (hst : St w0 w I [at_ref12_Tape p0 a0] R) {r : (Nat × ref12_Tape)} (hm : ref12_Tape_Float a0 = some r) :
    Calls Try.prog 37 #[p0] w fun e w' => e = .returned (.float .f64 r.1) ∧ St w0 w' I [at_ref12_Tape p0 r.2] R := by
  unfold ref12_Tape_Float at hm
  refine calls_start (args := [p0]) Try.func37 rfl Try.ntmps37 (Nat.le_of_ble_eq_true rfl) ?_
  refine wp_seq ?_
  refine wp_region_lit ?_
  refine wl_val (v := .float .f64 (0:Nat)) rfl rfl rfl ?_
  refine wl_nil ?_
  refine then_n ?_
  refine wp_seq ?_
  refine wp_region_lit ?_
  refine wl_val (v := p0) rfl rfl rfl ?_
  obtain ⟨t210, ht211, hm⟩ := bind_some hm
  refine wl_call rfl rfl (x_call Try.call22 rfl (vs := [p0, .int .i64 (8:Int)]) rfl) ?_
  refine (ref12_Tape_Next_ref hst.to1 ht211).mono ?_
  rintro _ w212 ⟨rfl, hst⟩
  refine ⟨_, rfl, ?_⟩
  replace hst := hst.of1
  refine wl_val (v := .int .u8 (IntKind.u8.wrap t210.1)) rfl rfl (by kernel_rfl) ?_
  obtain ⟨t215, ht216, hm⟩ := bind_some hm
  refine wl_call rfl rfl (x_call Try.call63 rfl (vs := [.int .u8 (IntKind.u8.wrap t210.1)]) rfl) ?_
  refine (ref12_small_ref hst.to0 ht216).mono ?_
  rintro _ w217 ⟨rfl, hst⟩
  refine ⟨_, rfl, ?_⟩
  replace hst := hst.of0
  refine wl_val (v := .float .f64 t215) rfl rfl rfl ?_
  refine wl_nil ?_
  refine then_n ?_
  refine wp_ret ?_
  obtain rfl := some_inj hm
  refine post_ret (vs := [.float .f64 t215]) Try.results37 (rvs_cons (rv_tmp rfl) rvs_nil) ?_
  exact ⟨rfl, hst.keep1⟩

theorem ref12_Tape_Val_ref {w0 w : World} {I : HL} {R : SP} {a0 : ref12_Tape} {p0 : Value}  (hst : St w0 w I [at_ref12_Tape p0 a0] R) {r : ((List Int) × ref12_Tape)} (hm : ref12_Tape_Val a0 = some r) :
    Calls Try.prog 36 #[p0] w fun e w' => ∃ (q0_0 : Value), e = .returned (q0_0) ∧ St w0 w' I [ownS (tyInt .u8) q0_0 r.1, at_ref12_Tape p0 r.2] R := by
  unfold ref12_Tape_Val at hm
  refine calls_start (args := [p0]) Try.func36 rfl Try.ntmps36 (Nat.le_of_ble_eq_true rfl) ?_
  refine wp_seq ?_
  refine wp_region_lit ?_
  refine wl_val (v := (.slice none 0 0)) rfl rfl rfl ?_
  refine wl_nil ?_
  refine then_n ?_
  refine wp_seq ?_
  refine wp_region_lit ?_
  refine wl_val (v := (.slice none 0 0)) rfl rfl rfl ?_
  refine wl_nil ?_
  refine then_n ?_
  refine wp_seq ?_
  refine wp_region_lit ?_
  refine wl_val (v := p0) rfl rfl rfl ?_
  obtain ⟨t607, ht608, hm⟩ := bind_some hm
  refine wl_call rfl rfl (x_call Try.call22 rfl (vs := [p0, .int .i64 (4:Int)]) rfl) ?_
  refine (ref12_Tape_Next_ref hst.to1 ht608).mono ?_
  rintro _ w609 ⟨rfl, hst⟩
  refine ⟨_, rfl, ?_⟩
  replace hst := hst.of1
  refine wl_val (v := .int .i64 t607.1) rfl rfl rfl ?_
  refine wl_nil ?_
  refine then_n ?_
  refine wp_seq ?_
  refine wp_seq ?_
  refine wp_region_lit ?_
  refine wl_val (v := .int .i64 (0:Int)) rfl rfl rfl ?_
  refine wl_nil ?_
  refine then_n ?_
  refine wp_block ?_
  replace hst := hst.own_nil (tyInt .u8)
  obtain ⟨n668, hm⟩ := loopO_some hm
  refine wp_loop_n (fun n a w => ∃ (z662 : ref12_Tape) (z663 : (List Int)) (z666 : Int) (v664 : Value) (σ667 : Nat → Value), loopN (ref12_Tape_Val_l0 t607) n (z662, z663, z666) = some r ∧ a = Fr 21 (upd (upd (upd (upd σ667 0 (p0)) 3 (v664)) 4 (.int .i64 t607.1)) 5 (.int .i64 z666)) ∧ St w0 w I [ownS (tyInt .u8) v664 z663, at_ref12_Tape p0 z662] R) n668 ⟨t607.2, [], (0:Int), (.slice none 0 0), _, hm, ((fr_upd (t := 0) (v := p0) rfl).trans ((fr_upd (t := 3) (v := (.slice none 0 0)) rfl).trans ((fr_upd (t := 4) (v := .int .i64 t607.1) rfl).trans ((fr_upd (t := 5) (v := .int .i64 (0:Int)) rfl).trans rfl)))), hst⟩ ?_
  rintro n674 _ w669 ⟨z662, z663, z666, v664, σ667, hm, rfl, hst⟩
  obtain ⟨n671, y672, rfl, hm, hx673⟩ := loopN_some hm
  dsimp only [ref12_Tape_Val_l0] at hm
  refine wp_seq ?_
  refine wp_seq ?_
  refine wp_region_lit ?_
  refine wl_val (v := .int .i64 z666) rfl rfl rfl ?_
  refine wl_val (v := .int .i64 t607.1) rfl rfl rfl ?_
  refine wl_val (v := .bool (decide (z666 < t607.1))) rfl rfl rfl ?_
  refine wl_nil ?_
  refine then_n ?_
  refine bsplit (decide (z666 < t607.1)) (fun hc675 => ?_) (fun hc675 => ?_)
  · skip
    replace hm := bif_t hc675 hm
    refine wp_ift (congrArg Value.bool hc675) ?_
    refine wp_skip ?_
    refine then_n ?_
    refine wp_seq ?_
    refine wp_block ?_
    refine wp_region_lit ?_
    refine wl_val (v := v664) rfl rfl rfl ?_
    refine wl_val (v := p0) rfl rfl rfl ?_
    replace hst := hst.pull1
    obtain ⟨t676, ht677, hm⟩ := bind_some hm
    refine wl_call rfl rfl (x_call Try.call22 rfl (vs := [p0, .int .i64 (26:Int)]) rfl) ?_
    refine (ref12_Tape_Next_ref hst.to1 ht677).mono ?_
    rintro _ w678 ⟨rfl, hst⟩
    refine ⟨_, rfl, ?_⟩
    replace hst := hst.of1
    refine wl_val (v := .int .i64 (IntKind.i64.wrap ((97:Int) + t676.1))) rfl rfl rfl ?_
    refine wl_val (v := .int .u8 (IntKind.u8.wrap (IntKind.i64.wrap ((97:Int) + t676.1)))) rfl rfl (by kernel_rfl) ?_
    obtain ⟨b681, w682, ew683, eb684, hst⟩ := hst.lits (E := (tyInt .u8)) (xs := [(IntKind.u8.wrap (IntKind.i64.wrap ((97:Int) + t676.1)))]) [[.int .u8 (IntKind.u8.wrap (IntKind.i64.wrap ((97:Int) + t676.1)))]] 5 1 rfl (Reps.cons rfl Reps.nil)
    refine wl_run (v := (.slice (some ⟨b681, 0, none⟩) 1 1)) (w' := w682) rfl rfl (x_als (by kernel_rfl) ew683 eb684) ?_
    obtain ⟨hg686, hm⟩ := gd_some hm
    replace hst := hst.pull2
    obtain ⟨v687, w688, hr689, hst⟩ := run_append elem_22 Try.underlying22 hst hst.src1 (room_of hg686 rfl) 22
    refine wl_run (v := v687) (w' := w688) rfl rfl (x_append rfl rfl hr689) ?_
    refine wl_val (v := v687) rfl rfl rfl ?_
    refine wl_nil ?_
    refine blk_n ?_
    refine then_n ?_
    refine wp_region_lit ?_
    refine wl_val (v := .int .i64 z666) rfl rfl rfl ?_
    refine wl_val (v := .int .i64 (IntKind.i64.wrap (z666 + (1:Int)))) rfl rfl rfl ?_
    refine wl_val (v := .int .i64 (IntKind.i64.wrap (z666 + (1:Int)))) rfl rfl rfl ?_
    refine wl_nil ?_
    refine then_n ?_
    replace hst := hst.pull2
    replace hst := hst.pull1
    replace hst := hst.keep2
    obtain rfl := some_inj hm
    exact ⟨_, Nat.lt_succ_self _, t676.2, (z663 ++ ([(IntKind.u8.wrap (IntKind.i64.wrap ((97:Int) + t676.1)))])), (IntKind.i64.wrap (z666 + (1:Int))), v687, _, hx673, ((fr_upd (t := 0) (v := p0) rfl).trans ((fr_upd (t := 3) (v := v687) rfl).trans ((fr_upd (t := 4) (v := .int .i64 t607.1) rfl).trans ((fr_upd (t := 5) (v := .int .i64 (IntKind.i64.wrap (z666 + (1:Int)))) rfl).trans rfl)))), hst⟩
  · skip
    replace hm := bif_f hc675 hm
    refine wp_iff (congrArg Value.bool hc675) ?_
    refine wp_exit ?_
    refine then_x ?_
    refine then_x ?_
    replace hm := inr_up hm hx673
    refine blk_x ?_
    refine then_n ?_
    refine wp_seq ?_
    refine wp_region_lit ?_
    refine wl_val (v := v664) rfl rfl rfl ?_
    refine wl_val (v := v664) rfl rfl rfl ?_
    refine wl_nil ?_
    refine then_n ?_
    refine wp_ret ?_
    obtain rfl := some_inj hm
    refine post_ret (vs := [v664]) Try.results36 (rvs_cons (rv_tmp rfl) rvs_nil) ?_
    replace hst := hst.pull1
    replace hst := hst.pull1
    exact ⟨v664, rfl, hst.keep2⟩

theorem ref12_Tape_Hold_ref {w0 w : World} {I : HL} {R : SP} {a0 : ref12_Tape} {p0 : Value}  (hst : St w0 w I [at_ref12_Tape p0 a0] R) {r : (api_Hold × ref12_Tape)} (hm : ref12_Tape_Hold a0 = some r) :
    Calls Try.prog 23 #[p0] w fun e w' => ∃ (q0_0 : Value) (q0_1 : Value) (q0_2 : Value) (q0_3 : Value), e = .returned (.agg #[.int .u64 r.1.ID.Session, .int .u64 r.1.ID.Seq, .int .u64 r.1.Epoch, q0_0, q0_1, q0_2, q0_3]) ∧ St w0 w' I [ownS tyF64 q0_0 r.1.Gets, ownS tyF2 q0_1 r.1.Scans, ownS tyF64 q0_2 r.1.Puts, ownS (tyInt .u8) q0_3 r.1.Data, at_ref12_Tape p0 r.2] R := by
  unfold ref12_Tape_Hold at hm
  refine calls_start (args := [p0]) Try.func23 rfl Try.ntmps23 (Nat.le_of_ble_eq_true rfl) ?_
  refine wp_seq ?_
  refine wp_region_lit ?_
  obtain ⟨b536, w537, ew538, eb539, hst⟩ := hst.box [.int .u64 (0:Int), .int .u64 (0:Int), .int .u64 (0:Int), (.slice none 0 0), (.slice none 0 0), (.slice none 0 0), (.slice none 0 0)] 34
  refine wl_run (v := .pointer (some ⟨b536, 0, none⟩)) (w' := w537) rfl rfl (x_al (by kernel_rfl) ew538 eb539) ?_
  refine wl_nil ?_
  refine then_n ?_
  refine wp_seq ?_
  refine wp_region_lit ?_
  refine wl_val (v := p0) rfl rfl rfl ?_
  replace hst := hst.pull1
  obtain ⟨t541, ht542, hm⟩ := bind_some hm
  refine wl_call rfl rfl (x_call Try.call24 rfl (vs := [p0]) rfl) ?_
  refine (ref12_Tape_Of_ref hst.to1 ht542).mono ?_
  rintro _ w543 ⟨rfl, hst⟩
  refine ⟨_, rfl, ?_⟩
  replace hst := hst.of1
  refine wl_val (v := p0) rfl rfl rfl ?_
  obtain ⟨t546, ht547, hm⟩ := bind_some hm
  refine wl_call rfl rfl (x_call Try.call22 rfl (vs := [p0, .int .i64 (4:Int)]) rfl) ?_
  refine (ref12_Tape_Next_ref hst.to1 ht547).mono ?_
  rintro _ w548 ⟨rfl, hst⟩
  refine ⟨_, rfl, ?_⟩
  replace hst := hst.of1
  refine wl_val (v := .int .i64 (IntKind.i64.wrap ((1:Int) + t546.1))) rfl rfl rfl ?_
  refine wl_val (v := .int .u64 (IntKind.u64.wrap (IntKind.i64.wrap ((1:Int) + t546.1)))) rfl rfl (by kernel_rfl) ?_
  refine wl_val (v := .agg #[.int .u64 t541.1.Session, .int .u64 t541.1.Seq, .int .u64 (IntKind.u64.wrap (IntKind.i64.wrap ((1:Int) + t546.1))), (.slice none 0 0), (.slice none 0 0), (.slice none 0 0), (.slice none 0 0)]) rfl rfl (by kernel_rfl) ?_
  obtain ⟨b559, w560, ew561, eb562, hst⟩ := hst.box [.int .u64 (0:Int), .int .u64 (0:Int), .int .u64 (0:Int), (.slice none 0 0), (.slice none 0 0), (.slice none 0 0), (.slice none 0 0)] 34
  refine wl_run (v := .pointer (some ⟨b559, 0, none⟩)) (w' := w560) rfl rfl (x_al (by kernel_rfl) ew561 eb562) ?_
  obtain ⟨w564, hr565, hst⟩ := hst.boxStore (P := Try.prog) (t := 34) (cs' := [.int .u64 t541.1.Session, .int .u64 t541.1.Seq, .int .u64 (IntKind.u64.wrap (IntKind.i64.wrap ((1:Int) + t546.1))), (.slice none 0 0), (.slice none 0 0), (.slice none 0 0), (.slice none 0 0)]) 0 (.agg #[.int .u64 t541.1.Session, .int .u64 t541.1.Seq, .int .u64 (IntKind.u64.wrap (IntKind.i64.wrap ((1:Int) + t546.1))), (.slice none 0 0), (.slice none 0 0), (.slice none 0 0), (.slice none 0 0)]) Try.sizeOf34 (Nat.le_of_ble_eq_true rfl) (ones_cons rfl (ones_cons rfl (ones_cons rfl (ones_cons rfl (ones_cons rfl (ones_cons rfl (ones_cons rfl ones_nil))))))) (by kernel_rfl)
  refine wl_unit rfl rfl (x_unit hr565) ?_
  refine wl_nil ?_
  refine then_n ?_
  refine wp_seq ?_
  refine wp_region_lit ?_
  refine wl_val (v := p0) rfl rfl rfl ?_
  replace hst := hst.pull1
  obtain ⟨t566, ht567, hm⟩ := bind_some hm
  refine wl_call rfl rfl (x_call Try.call22 rfl (vs := [p0, .int .i64 (3:Int)]) rfl) ?_
  refine (ref12_Tape_Next_ref hst.to1 ht567).mono ?_
  rintro _ w568 ⟨rfl, hst⟩
  refine ⟨_, rfl, ?_⟩
  replace hst := hst.of1
  refine wl_val (v := .int .i64 t566.1) rfl rfl rfl ?_
  refine wl_nil ?_
  refine then_n ?_
  obtain ⟨y663, hm, hx664⟩ := bind_some hm
  refine wp_cut (fun a w => ∃ (z657 : ref12_Tape) (z660 : (List Nat)) (v659 : Value) (σ661 : Nat → Value), (ref12_Tape_Hold_j0 t541 t546) (z657, z660) = some r ∧ a = Fr 68 (upd (upd (upd σ661 0 (p0)) 2 (.pointer (some ⟨b536, 0, none⟩))) 3 (.pointer (some ⟨b559, 0, none⟩))) ∧ St w0 w I [at_ref12_Tape p0 z657, cells b536 [.int .u64 (0:Int), .int .u64 (0:Int), .int .u64 (0:Int), (.slice none 0 0), (.slice none 0 0), (.slice none 0 0), (.slice none 0 0)], cells b559 [.int .u64 t541.1.Session, .int .u64 t541.1.Seq, .int .u64 (IntKind.u64.wrap (IntKind.i64.wrap ((1:Int) + t546.1))), v659, (.slice none 0 0), (.slice none 0 0), (.slice none 0 0)], ownS tyF64 v659 z660] R) ?_ ?_
  · skip
    refine wp_seq ?_
    refine wp_region_lit ?_
    refine wl_val (v := .int .i64 (0:Int)) rfl rfl rfl ?_
    refine wl_nil ?_
    refine then_n ?_
    refine wp_block ?_
    replace hst := hst.own_nil tyF64
    obtain ⟨n633, hm⟩ := loopO_some hm
    refine wp_loop_n (fun n a w => ∃ (z627 : (List Nat)) (z630 : ref12_Tape) (z631 : Int) (v628 : Value) (σ632 : Nat → Value), loopN (ref12_Tape_Hold_l1 t566) n (z627, z630, z631) = some y663 ∧ a = Fr 68 (upd (upd (upd (upd (upd σ632 0 (p0)) 2 (.pointer (some ⟨b536, 0, none⟩))) 3 (.pointer (some ⟨b559, 0, none⟩))) 4 (.int .i64 t566.1)) 5 (.int .i64 z631)) ∧ St w0 w I [ownS tyF64 v628 z627, at_ref12_Tape p0 z630, cells b559 [.int .u64 t541.1.Session, .int .u64 t541.1.Seq, .int .u64 (IntKind.u64.wrap (IntKind.i64.wrap ((1:Int) + t546.1))), v628, (.slice none 0 0), (.slice none 0 0), (.slice none 0 0)], cells b536 [.int .u64 (0:Int), .int .u64 (0:Int), .int .u64 (0:Int), (.slice none 0 0), (.slice none 0 0), (.slice none 0 0), (.slice none 0 0)]] R) n633 ⟨[], t566.2, (0:Int), (.slice none 0 0), _, hm, ((fr_upd (t := 0) (v := p0) rfl).trans ((fr_upd (t := 2) (v := .pointer (some ⟨b536, 0, none⟩)) rfl).trans ((fr_upd (t := 3) (v := .pointer (some ⟨b559, 0, none⟩)) rfl).trans ((fr_upd (t := 4) (v := .int .i64 t566.1) rfl).trans ((fr_upd (t := 5) (v := .int .i64 (0:Int)) rfl).trans rfl))))), hst⟩ ?_
    rintro n639 _ w634 ⟨z627, z630, z631, v628, σ632, hm, rfl, hst⟩
    obtain ⟨n636, y637, rfl, hm, hx638⟩ := loopN_some hm
    dsimp only [ref12_Tape_Hold_l1] at hm
    refine wp_seq ?_
    refine wp_seq ?_
    refine wp_region_lit ?_
    refine wl_val (v := .int .i64 z631) rfl rfl rfl ?_
    refine wl_val (v := .int .i64 t566.1) rfl rfl rfl ?_
    refine wl_val (v := .bool (decide (z631 < t566.1))) rfl rfl rfl ?_
    refine wl_nil ?_
    refine then_n ?_
    refine bsplit (decide (z631 < t566.1)) (fun hc640 => ?_) (fun hc640 => ?_)
    · skip
      replace hm := bif_t hc640 hm
      refine wp_ift (congrArg Value.bool hc640) ?_
      refine wp_skip ?_
      refine then_n ?_
      refine wp_seq ?_
      refine wp_block ?_
      refine wp_region_St hst 8 [0, 1, 2, 3, 4, 5, 6, 7] [0, 1, 0, 4, 12, 31, 63, 127] [] rfl (by kernel_rfl) (by kernel_rfl) Try.mixed (by kernel_rfl) ?_
      refine ws_q (v := .pointer (some ⟨b559, 3, none⟩)) 0 [1, 2, 3, 4, 5, 6, 7] (by kernel_rfl) rfl rfl (yi_run rfl (fun w hst => x_field rfl Try.underlying34 rfl Try.sizeOf31 rfl)) ?_
      refine ws_q (v := v628) 1 [2, 3, 4, 5, 6, 7] (by kernel_rfl) rfl rfl (yi_run rfl (fun w hst => x_load rfl Try.isAgg31 (hst.bc2 rfl))) ?_
      refine ws_q (v := p0) 2 [3, 4, 5, 6, 7] (by kernel_rfl) rfl rfl (yi_run rfl (fun w hst => rfl)) ?_
      refine ws_e1 3 (by kernel_rfl) ?_
      refine nxe [4, 5, 6, 7] (by kernel_rfl) rfl rfl ?_
      clear hst
      intro w hst
      replace hst := hst.pull1
      obtain ⟨t641, ht642, hm⟩ := bind_some hm
      refine we_call rfl (x_call Try.call37 rfl (vs := [p0]) rfl) ?_
      refine (ref12_Tape_Float_ref hst.to1 ht642).mono ?_
      rintro _ w643 ⟨rfl, hst⟩
      refine ⟨_, rfl, ?_⟩
      replace hst := hst.of1
      refine ws_next (pend' := [(1, v628), (0, .pointer (some ⟨b559, 3, none⟩))]) hst (by kernel_rfl) (pk_cons rfl (yi_run rfl (fun w hst => x_load rfl Try.isAgg31 (hst.bc2 rfl))) (pk_cons rfl (yi_run rfl (fun w hst => x_field rfl Try.underlying34 rfl Try.sizeOf31 rfl)) pk_nil)) ?_
      refine ws_e1 4 (by kernel_rfl) ?_
      refine nxe [5, 6, 7] (by kernel_rfl) rfl rfl ?_
      clear hst
      intro w hst
      obtain ⟨b646, w647, ew648, eb649, hst⟩ := hst.lits (E := tyF64) (xs := [t641.1]) [[.float .f64 t641.1]] 41 1 rfl (Reps.cons rfl Reps.nil)
      refine we_run (v := (.slice (some ⟨b646, 0, none⟩) 1 1)) (w' := w647) rfl (x_als (by kernel_rfl) ew648 eb649) ?_
      refine ws_next (pend' := [(1, v628), (0, .pointer (some ⟨b559, 3, none⟩))]) hst (by kernel_rfl) (pk_cons rfl (yi_run rfl (fun w hst => x_load rfl Try.isAgg31 (hst.bc3 rfl))) (pk_cons rfl (yi_run rfl (fun w hst => x_field rfl Try.underlying34 rfl Try.sizeOf31 rfl)) pk_nil)) ?_
      refine ws_e1 5 (by kernel_rfl) ?_
      refine nxe [6, 7] (by kernel_rfl) rfl rfl ?_
      clear hst
      intro w hst
      obtain ⟨hg651, hm⟩ := gd_some hm
      replace hst := hst.pull2
      obtain ⟨v652, w653, hr654, hst⟩ := run_append elem_31 Try.underlying31 hst hst.src1 (room_of hg651 rfl) 31
      refine we_run (v := v652) (w' := w653) rfl (x_append rfl rfl hr654) ?_
      refine ws_next (pend' := []) hst (by kernel_rfl) pk_nil ?_
      refine ws_q (v := .pointer (some ⟨b559, 3, none⟩)) 6 [7] (by kernel_rfl) rfl rfl (yi_run rfl (fun w hst => x_field rfl Try.underlying34 rfl Try.sizeOf31 rfl)) ?_
      refine ws_e1 7 (by kernel_rfl) ?_
      refine nxe [] (by kernel_rfl) rfl rfl ?_
      clear hst
      intro w hst
      replace hst := hst.pull3
      obtain ⟨w655, hr656, hst⟩ := hst.boxStore1 (P := Try.prog) (t := 31) (cs' := [.int .u64 t541.1.Session, .int .u64 t541.1.Seq, .int .u64 (IntKind.u64.wrap (IntKind.i64.wrap ((1:Int) + t546.1))), v652, (.slice none 0 0), (.slice none 0 0), (.slice none 0 0)]) 3 v652 (one_of_sliceV hst.sv1) Try.sizeOf31 rfl rfl
      refine we_unit rfl (x_unit hr656) ?_
      refine ws_next (pend' := []) hst (by kernel_rfl) pk_nil ?_
      refine ws_nil ?_
      intro w hst
      refine blk_n ?_
      refine then_n ?_
      refine wp_region_lit ?_
      refine wl_val (v := .int .i64 z631) rfl rfl rfl ?_
      refine wl_val (v := .int .i64 (IntKind.i64.wrap (z631 + (1:Int)))) rfl rfl rfl ?_
      refine wl_val (v := .int .i64 (IntKind.i64.wrap (z631 + (1:Int)))) rfl rfl rfl ?_
      refine wl_nil ?_
      refine then_n ?_
      replace hst := hst.pull4
      replace hst := hst.pull1
      replace hst := hst.pull4
      replace hst := hst.pull3
      replace hst := hst.keep4
      obtain rfl := some_inj hm
      exact ⟨_, Nat.lt_succ_self _, (z627 ++ ([t641.1])), t641.2, (IntKind.i64.wrap (z631 + (1:Int))), v652, _, hx638, ((fr_upd (t := 0) (v := p0) rfl).trans ((fr_upd (t := 2) (v := .pointer (some ⟨b536, 0, none⟩)) rfl).trans ((fr_upd (t := 3) (v := .pointer (some ⟨b559, 0, none⟩)) rfl).trans ((fr_upd (t := 4) (v := .int .i64 t566.1) rfl).trans ((fr_upd (t := 5) (v := .int .i64 (IntKind.i64.wrap (z631 + (1:Int)))) rfl).trans rfl))))), hst⟩
    · skip
      replace hm := bif_f hc640 hm
      refine wp_iff (congrArg Value.bool hc640) ?_
      refine wp_exit ?_
      refine then_x ?_
      refine then_x ?_
      replace hm := inr_up hm hx638
      refine blk_x ?_
      refine then_n ?_
      replace hst := hst.pull2
      replace hst := hst.pull3
      replace hst := hst.pull3
      replace hst := hst.keep4
      obtain rfl := some_inj hm
      exact ⟨z630, z627, v628, _, hx664, ((fr_upd (t := 0) (v := p0) rfl).trans ((fr_upd (t := 2) (v := .pointer (some ⟨b536, 0, none⟩)) rfl).trans ((fr_upd (t := 3) (v := .pointer (some ⟨b559, 0, none⟩)) rfl).trans rfl))), hst⟩
  · skip
    clear hst
    rintro _ w665 ⟨z657, z660, v659, σ661, hm, rfl, hst⟩
    dsimp only [ref12_Tape_Hold_j0] at hm
    refine wp_seq ?_
    refine wp_region_lit ?_
    refine wl_val (v := p0) rfl rfl rfl ?_
    obtain ⟨t666, ht667, hm⟩ := bind_some hm
    refine wl_call rfl rfl (x_call Try.call22 rfl (vs := [p0, .int .i64 (3:Int)]) rfl) ?_
    refine (ref12_Tape_Next_ref hst.to1 ht667).mono ?_
    rintro _ w668 ⟨rfl, hst⟩
    refine ⟨_, rfl, ?_⟩
    replace hst := hst.of1
    refine wl_val (v := .int .i64 (IntKind.i64.wrap (Int.tdiv t666.1 (2:Int)))) rfl rfl (x_quo (by decide) rfl rfl) ?_
    refine wl_val (v := .int .i64 (IntKind.i64.wrap (Int.tdiv t666.1 (2:Int)))) rfl rfl rfl ?_
    refine wl_nil ?_
    refine then_n ?_
    obtain ⟨y783, hm, hx784⟩ := bind_some hm
    refine wp_cut (fun a w => ∃ (z777 : ref12_Tape) (z780 : (List (Nat × Nat))) (v779 : Value) (σ781 : Nat → Value), (ref12_Tape_Hold_j2 t541 t546 z660) (z777, z780) = some r ∧ a = Fr 68 (upd (upd (upd σ781 0 (p0)) 2 (.pointer (some ⟨b536, 0, none⟩))) 3 (.pointer (some ⟨b559, 0, none⟩))) ∧ St w0 w I [at_ref12_Tape p0 z777, cells b536 [.int .u64 (0:Int), .int .u64 (0:Int), .int .u64 (0:Int), (.slice none 0 0), (.slice none 0 0), (.slice none 0 0), (.slice none 0 0)], cells b559 [.int .u64 t541.1.Session, .int .u64 t541.1.Seq, .int .u64 (IntKind.u64.wrap (IntKind.i64.wrap ((1:Int) + t546.1))), v659, v779, (.slice none 0 0), (.slice none 0 0)], ownS tyF64 v659 z660, ownS tyF2 v779 z780] R) ?_ ?_
    · skip
      refine wp_seq ?_
      refine wp_region_lit ?_
      refine wl_val (v := .int .i64 (0:Int)) rfl rfl rfl ?_
      refine wl_nil ?_
      refine then_n ?_
      refine wp_block ?_
      replace hst := hst.own_nil tyF2
      obtain ⟨n748, hm⟩ := loopO_some hm
      refine wp_loop_n (fun n a w => ∃ (z742 : (List (Nat × Nat))) (z745 : ref12_Tape) (z746 : Int) (v743 : Value) (σ747 : Nat → Value), loopN (ref12_Tape_Hold_l3 t666) n (z742, z745, z746) = some y783 ∧ a = Fr 68 (upd (upd (upd (upd (upd σ747 0 (p0)) 2 (.pointer (some ⟨b536, 0, none⟩))) 3 (.pointer (some ⟨b559, 0, none⟩))) 4 (.int .i64 (IntKind.i64.wrap (Int.tdiv t666.1 (2:Int))))) 6 (.int .i64 z746)) ∧ St w0 w I [ownS tyF2 v743 z742, at_ref12_Tape p0 z745, cells b536 [.int .u64 (0:Int), .int .u64 (0:Int), .int .u64 (0:Int), (.slice none 0 0), (.slice none 0 0), (.slice none 0 0), (.slice none 0 0)], cells b559 [.int .u64 t541.1.Session, .int .u64 t541.1.Seq, .int .u64 (IntKind.u64.wrap (IntKind.i64.wrap ((1:Int) + t546.1))), v659, v743, (.slice none 0 0), (.slice none 0 0)], ownS tyF64 v659 z660] R) n748 ⟨[], t666.2, (0:Int), (.slice none 0 0), _, hm, ((fr_upd (t := 0) (v := p0) rfl).trans ((fr_upd (t := 2) (v := .pointer (some ⟨b536, 0, none⟩)) rfl).trans ((fr_upd (t := 3) (v := .pointer (some ⟨b559, 0, none⟩)) rfl).trans ((fr_upd (t := 4) (v := .int .i64 (IntKind.i64.wrap (Int.tdiv t666.1 (2:Int)))) rfl).trans ((fr_upd (t := 6) (v := .int .i64 (0:Int)) rfl).trans rfl))))), hst⟩ ?_
      rintro n754 _ w749 ⟨z742, z745, z746, v743, σ747, hm, rfl, hst⟩
      obtain ⟨n751, y752, rfl, hm, hx753⟩ := loopN_some hm
      dsimp only [ref12_Tape_Hold_l3] at hm
      refine wp_seq ?_
      refine wp_seq ?_
      refine wp_region_lit ?_
      refine wl_val (v := .int .i64 z746) rfl rfl rfl ?_
      refine wl_val (v := .int .i64 (IntKind.i64.wrap (Int.tdiv t666.1 (2:Int)))) rfl rfl rfl ?_
      refine wl_val (v := .bool (decide (z746 < (IntKind.i64.wrap (Int.tdiv t666.1 (2:Int)))))) rfl rfl rfl ?_
      refine wl_nil ?_
      refine then_n ?_
      refine bsplit (decide (z746 < (IntKind.i64.wrap (Int.tdiv t666.1 (2:Int))))) (fun hc755 => ?_) (fun hc755 => ?_)
      · skip
        replace hm := bif_t hc755 hm
        refine wp_ift (congrArg Value.bool hc755) ?_
        refine wp_skip ?_
        refine then_n ?_
        refine wp_seq ?_
        refine wp_block ?_
        refine wp_region_St hst 11 [0, 1, 2, 3, 4, 5, 6, 7, 8, 9, 10] [0, 1, 0, 4, 0, 28, 60, 124, 255, 511, 1023] [] rfl (by kernel_rfl) (by kernel_rfl) Try.mixed (by kernel_rfl) ?_
        refine ws_q (v := .pointer (some ⟨b559, 4, none⟩)) 0 [1, 2, 3, 4, 5, 6, 7, 8, 9, 10] (by kernel_rfl) rfl rfl (yi_run rfl (fun w hst => x_field rfl Try.underlying34 rfl Try.sizeOf32 rfl)) ?_
        refine ws_q (v := v743) 1 [2, 3, 4, 5, 6, 7, 8, 9, 10] (by kernel_rfl) rfl rfl (yi_run rfl (fun w hst => x_load rfl Try.isAgg32 (hst.bc3 rfl))) ?_
        refine ws_q (v := p0) 2 [3, 4, 5, 6, 7, 8, 9, 10] (by kernel_rfl) rfl rfl (yi_run rfl (fun w hst => rfl)) ?_
        refine ws_q (v := p0) 4 [3, 5, 6, 7, 8, 9, 10] (by kernel_rfl) rfl rfl (yi_run rfl (fun w hst => rfl)) ?_
        refine ws_e1 3 (by kernel_rfl) ?_
        refine nxe [5, 6, 7, 8, 9, 10] (by kernel_rfl) rfl rfl ?_
        clear hst
        intro w hst
        replace hst := hst.pull1
        obtain ⟨t756, ht757, hm⟩ := bind_some hm
        refine we_call rfl (x_call Try.call37 rfl (vs := [p0]) rfl) ?_
        refine (ref12_Tape_Float_ref hst.to1 ht757).mono ?_
        rintro _ w758 ⟨rfl, hst⟩
        refine ⟨_, rfl, ?_⟩
        replace hst := hst.of1
        refine ws_next (pend' := [(4, p0), (1, v743), (0, .pointer (some ⟨b559, 4, none⟩))]) hst (by kernel_rfl) (pk_cons rfl (yi_run rfl (fun w hst => rfl)) (pk_cons rfl (yi_run rfl (fun w hst => x_load rfl Try.isAgg32 (hst.bc3 rfl))) (pk_cons rfl (yi_run rfl (fun w hst => x_field rfl Try.underlying34 rfl Try.sizeOf32 rfl)) pk_nil))) ?_
        refine ws_e1 5 (by kernel_rfl) ?_
        refine nxe [6, 7, 8, 9, 10] (by kernel_rfl) rfl rfl ?_
        clear hst
        intro w hst
        obtain ⟨t761, ht762, hm⟩ := bind_some hm
        refine we_call rfl (x_call Try.call37 rfl (vs := [p0]) rfl) ?_
        refine (ref12_Tape_Float_ref hst.to1 ht762).mono ?_
        rintro _ w763 ⟨rfl, hst⟩
        refine ⟨_, rfl, ?_⟩
        replace hst := hst.of1
        refine ws_next (pend' := [(1, v743), (0, .pointer (some ⟨b559, 4, none⟩))]) hst (by kernel_rfl) (pk_cons rfl (yi_run rfl (fun w hst => x_load rfl Try.isAgg32 (hst.bc3 rfl))) (pk_cons rfl (yi_run rfl (fun w hst => x_field rfl Try.underlying34 rfl Try.sizeOf32 rfl)) pk_nil)) ?_
        refine ws_q (v := .agg #[.float .f64 t756.1, .float .f64 t761.1]) 6 [7, 8, 9, 10] (by kernel_rfl) rfl rfl (yi_run rfl (fun w hst => by kernel_rfl)) ?_
        refine ws_e1 7 (by kernel_rfl) ?_
        refine nxe [8, 9, 10] (by kernel_rfl) rfl rfl ?_
        clear hst
        intro w hst
        obtain ⟨b766, w767, ew768, eb769, hst⟩ := hst.lits (E := tyF2) (xs := [(t756.1, t761.1)]) [[.float .f64 t756.1, .float .f64 t761.1]] 111 1 rfl (Reps.cons rfl Reps.nil)
        refine we_run (v := (.slice (some ⟨b766, 0, none⟩) 1 1)) (w' := w767) rfl (x_als (by kernel_rfl) ew768 eb769) ?_
        refine ws_next (pend' := [(1, v743), (0, .pointer (some ⟨b559, 4, none⟩))]) hst (by kernel_rfl) (pk_cons rfl (yi_run rfl (fun w hst => x_load rfl Try.isAgg32 (hst.bc4 rfl))) (pk_cons rfl (yi_run rfl (fun w hst => x_field rfl Try.underlying34 rfl Try.sizeOf32 rfl)) pk_nil)) ?_
        refine ws_e1 8 (by kernel_rfl) ?_
        refine nxe [9, 10] (by kernel_rfl) rfl rfl ?_
        clear hst
        intro w hst
        obtain ⟨hg771, hm⟩ := gd_some hm
        replace hst := hst.pull2
        obtain ⟨v772, w773, hr774, hst⟩ := run_append elem_32 Try.underlying32 hst hst.src1 (room_of hg771 rfl) 32
        refine we_run (v := v772) (w' := w773) rfl (x_append rfl rfl hr774) ?_
        refine ws_next (pend' := []) hst (by kernel_rfl) pk_nil ?_
        refine ws_q (v := .pointer (some ⟨b559, 4, none⟩)) 9 [10] (by kernel_rfl) rfl rfl (yi_run rfl (fun w hst => x_field rfl Try.underlying34 rfl Try.sizeOf32 rfl)) ?_
        refine ws_e1 10 (by kernel_rfl) ?_
        refine nxe [] (by kernel_rfl) rfl rfl ?_
        clear hst
        intro w hst
        replace hst := hst.pull4
        obtain ⟨w775, hr776, hst⟩ := hst.boxStore1 (P := Try.prog) (t := 32) (cs' := [.int .u64 t541.1.Session, .int .u64 t541.1.Seq, .int .u64 (IntKind.u64.wrap (IntKind.i64.wrap ((1:Int) + t546.1))), v659, v772, (.slice none 0 0), (.slice none 0 0)]) 4 v772 (one_of_sliceV hst.sv1) Try.sizeOf32 rfl rfl
        refine we_unit rfl (x_unit hr776) ?_
        refine ws_next (pend' := []) hst (by kernel_rfl) pk_nil ?_
        refine ws_nil ?_
        intro w hst
        refine blk_n ?_
        refine then_n ?_
        refine wp_region_lit ?_
        refine wl_val (v := .int .i64 z746) rfl rfl rfl ?_
        refine wl_val (v := .int .i64 (IntKind.i64.wrap (z746 + (1:Int)))) rfl rfl rfl ?_
        refine wl_val (v := .int .i64 (IntKind.i64.wrap (z746 + (1:Int)))) rfl rfl rfl ?_
        refine wl_nil ?_
        refine then_n ?_
        replace hst := hst.pull5
        replace hst := hst.pull1
        replace hst := hst.pull5
        replace hst := hst.pull5
        replace hst := hst.pull4
        replace hst := hst.keep5
        obtain rfl := some_inj hm
        exact ⟨_, Nat.lt_succ_self _, (z742 ++ ([(t756.1, t761.1)])), t761.2, (IntKind.i64.wrap (z746 + (1:Int))), v772, _, hx753, ((fr_upd (t := 0) (v := p0) rfl).trans ((fr_upd (t := 2) (v := .pointer (some ⟨b536, 0, none⟩)) rfl).trans ((fr_upd (t := 3) (v := .pointer (some ⟨b559, 0, none⟩)) rfl).trans ((fr_upd (t := 4) (v := .int .i64 (IntKind.i64.wrap (Int.tdiv t666.1 (2:Int)))) rfl).trans ((fr_upd (t := 6) (v := .int .i64 (IntKind.i64.wrap (z746 + (1:Int)))) rfl).trans rfl))))), hst⟩
      · skip
        replace hm := bif_f hc755 hm
        refine wp_iff (congrArg Value.bool hc755) ?_
        refine wp_exit ?_
        refine then_x ?_
        refine then_x ?_
        replace hm := inr_up hm hx753
        refine blk_x ?_
        refine then_n ?_
        replace hst := hst.pull4
        replace hst := hst.pull4
        replace hst := hst.pull4
        replace hst := hst.pull4
        replace hst := hst.keep5
        obtain rfl := some_inj hm
        exact ⟨z745, z742, v743, _, hx784, ((fr_upd (t := 0) (v := p0) rfl).trans ((fr_upd (t := 2) (v := .pointer (some ⟨b536, 0, none⟩)) rfl).trans ((fr_upd (t := 3) (v := .pointer (some ⟨b559, 0, none⟩)) rfl).trans rfl))), hst⟩
    · skip
      clear hst
      rintro _ w785 ⟨z777, z780, v779, σ781, hm, rfl, hst⟩
      dsimp only [ref12_Tape_Hold_j2] at hm
      refine wp_seq ?_
      refine wp_region_lit ?_
      refine wl_val (v := p0) rfl rfl rfl ?_
      obtain ⟨t786, ht787, hm⟩ := bind_some hm
      refine wl_call rfl rfl (x_call Try.call22 rfl (vs := [p0, .int .i64 (3:Int)]) rfl) ?_
      refine (ref12_Tape_Next_ref hst.to1 ht787).mono ?_
      rintro _ w788 ⟨rfl, hst⟩
      refine ⟨_, rfl, ?_⟩
      replace hst := hst.of1
      refine wl_val (v := .int .i64 t786.1) rfl rfl rfl ?_
      refine wl_nil ?_
      refine then_n ?_
      obtain ⟨y883, hm, hx884⟩ := bind_some hm
      refine wp_cut (fun a w => ∃ (z877 : ref12_Tape) (z880 : (List Nat)) (v879 : Value) (σ881 : Nat → Value), (ref12_Tape_Hold_j4 t541 t546 z660 z780) (z877, z880) = some r ∧ a = Fr 68 (upd (upd (upd σ881 0 (p0)) 2 (.pointer (some ⟨b536, 0, none⟩))) 3 (.pointer (some ⟨b559, 0, none⟩))) ∧ St w0 w I [at_ref12_Tape p0 z877, cells b536 [.int .u64 (0:Int), .int .u64 (0:Int), .int .u64 (0:Int), (.slice none 0 0), (.slice none 0 0), (.slice none 0 0), (.slice none 0 0)], cells b559 [.int .u64 t541.1.Session, .int .u64 t541.1.Seq, .int .u64 (IntKind.u64.wrap (IntKind.i64.wrap ((1:Int) + t546.1))), v659, v779, v879, (.slice none 0 0)], ownS tyF64 v659 z660, ownS tyF2 v779 z780, ownS tyF64 v879 z880] R) ?_ ?_
      · skip
        refine wp_seq ?_
        refine wp_region_lit ?_
        refine wl_val (v := .int .i64 (0:Int)) rfl rfl rfl ?_
        refine wl_nil ?_
        refine then_n ?_
        refine wp_block ?_
        replace hst := hst.own_nil tyF64
        obtain ⟨n853, hm⟩ := loopO_some hm
        refine wp_loop_n (fun n a w => ∃ (z847 : (List Nat)) (z850 : ref12_Tape) (z851 : Int) (v848 : Value) (σ852 : Nat → Value), loopN (ref12_Tape_Hold_l5 t786) n (z847, z850, z851) = some y883 ∧ a = Fr 68 (upd (upd (upd (upd (upd σ852 0 (p0)) 2 (.pointer (some ⟨b536, 0, none⟩))) 3 (.pointer (some ⟨b559, 0, none⟩))) 4 (.int .i64 t786.1)) 7 (.int .i64 z851)) ∧ St w0 w I [ownS tyF64 v848 z847, at_ref12_Tape p0 z850, cells b536 [.int .u64 (0:Int), .int .u64 (0:Int), .int .u64 (0:Int), (.slice none 0 0), (.slice none 0 0), (.slice none 0 0), (.slice none 0 0)], cells b559 [.int .u64 t541.1.Session, .int .u64 t541.1.Seq, .int .u64 (IntKind.u64.wrap (IntKind.i64.wrap ((1:Int) + t546.1))), v659, v779, v848, (.slice none 0 0)], ownS tyF64 v659 z660, ownS tyF2 v779 z780] R) n853 ⟨[], t786.2, (0:Int), (.slice none 0 0), _, hm, ((fr_upd (t := 0) (v := p0) rfl).trans ((fr_upd (t := 2) (v := .pointer (some ⟨b536, 0, none⟩)) rfl).trans ((fr_upd (t := 3) (v := .pointer (some ⟨b559, 0, none⟩)) rfl).trans ((fr_upd (t := 4) (v := .int .i64 t786.1) rfl).trans ((fr_upd (t := 7) (v := .int .i64 (0:Int)) rfl).trans rfl))))), hst⟩ ?_
        rintro n859 _ w854 ⟨z847, z850, z851, v848, σ852, hm, rfl, hst⟩
        obtain ⟨n856, y857, rfl, hm, hx858⟩ := loopN_some hm
        dsimp only [ref12_Tape_Hold_l5] at hm
        refine wp_seq ?_
        refine wp_seq ?_
        refine wp_region_lit ?_
        refine wl_val (v := .int .i64 z851) rfl rfl rfl ?_
        refine wl_val (v := .int .i64 t786.1) rfl rfl rfl ?_
        refine wl_val (v := .bool (decide (z851 < t786.1))) rfl rfl rfl ?_
        refine wl_nil ?_
        refine then_n ?_
        refine bsplit (decide (z851 < t786.1)) (fun hc860 => ?_) (fun hc860 => ?_)
        · skip
          replace hm := bif_t hc860 hm
          refine wp_ift (congrArg Value.bool hc860) ?_
          refine wp_skip ?_
          refine then_n ?_
          refine wp_seq ?_
          refine wp_block ?_
          refine wp_region_St hst 8 [0, 1, 2, 3, 4, 5, 6, 7] [0, 1, 0, 4, 12, 31, 63, 127] [] rfl (by kernel_rfl) (by kernel_rfl) Try.mixed (by kernel_rfl) ?_
          refine ws_q (v := .pointer (some ⟨b559, 5, none⟩)) 0 [1, 2, 3, 4, 5, 6, 7] (by kernel_rfl) rfl rfl (yi_run rfl (fun w hst => x_field rfl Try.underlying34 rfl Try.sizeOf31 rfl)) ?_
          refine ws_q (v := v848) 1 [2, 3, 4, 5, 6, 7] (by kernel_rfl) rfl rfl (yi_run rfl (fun w hst => x_load rfl Try.isAgg31 (hst.bc3 rfl))) ?_
          refine ws_q (v := p0) 2 [3, 4, 5, 6, 7] (by kernel_rfl) rfl rfl (yi_run rfl (fun w hst => rfl)) ?_
          refine ws_e1 3 (by kernel_rfl) ?_
          refine nxe [4, 5, 6, 7] (by kernel_rfl) rfl rfl ?_
          clear hst
          intro w hst
          replace hst := hst.pull1
          obtain ⟨t861, ht862, hm⟩ := bind_some hm
          refine we_call rfl (x_call Try.call37 rfl (vs := [p0]) rfl) ?_
          refine (ref12_Tape_Float_ref hst.to1 ht862).mono ?_
          rintro _ w863 ⟨rfl, hst⟩
          refine ⟨_, rfl, ?_⟩
          replace hst := hst.of1
          refine ws_next (pend' := [(1, v848), (0, .pointer (some ⟨b559, 5, none⟩))]) hst (by kernel_rfl) (pk_cons rfl (yi_run rfl (fun w hst => x_load rfl Try.isAgg31 (hst.bc3 rfl))) (pk_cons rfl (yi_run rfl (fun w hst => x_field rfl Try.underlying34 rfl Try.sizeOf31 rfl)) pk_nil)) ?_
          refine ws_e1 4 (by kernel_rfl) ?_
          refine nxe [5, 6, 7] (by kernel_rfl) rfl rfl ?_
          clear hst
          intro w hst
          obtain ⟨b866, w867, ew868, eb869, hst⟩ := hst.lits (E := tyF64) (xs := [t861.1]) [[.float .f64 t861.1]] 41 1 rfl (Reps.cons rfl Reps.nil)
          refine we_run (v := (.slice (some ⟨b866, 0, none⟩) 1 1)) (w' := w867) rfl (x_als (by kernel_rfl) ew868 eb869) ?_
          refine ws_next (pend' := [(1, v848), (0, .pointer (some ⟨b559, 5, none⟩))]) hst (by kernel_rfl) (pk_cons rfl (yi_run rfl (fun w hst => x_load rfl Try.isAgg31 (hst.bc4 rfl))) (pk_cons rfl (yi_run rfl (fun w hst => x_field rfl Try.underlying34 rfl Try.sizeOf31 rfl)) pk_nil)) ?_
          refine ws_e1 5 (by kernel_rfl) ?_
          refine nxe [6, 7] (by kernel_rfl) rfl rfl ?_
          clear hst
          intro w hst
          obtain ⟨hg871, hm⟩ := gd_some hm
          replace hst := hst.pull2
          obtain ⟨v872, w873, hr874, hst⟩ := run_append elem_31 Try.underlying31 hst hst.src1 (room_of hg871 rfl) 31
          refine we_run (v := v872) (w' := w873) rfl (x_append rfl rfl hr874) ?_
          refine ws_next (pend' := []) hst (by kernel_rfl) pk_nil ?_
          refine ws_q (v := .pointer (some ⟨b559, 5, none⟩)) 6 [7] (by kernel_rfl) rfl rfl (yi_run rfl (fun w hst => x_field rfl Try.underlying34 rfl Try.sizeOf31 rfl)) ?_
          refine ws_e1 7 (by kernel_rfl) ?_
          refine nxe [] (by kernel_rfl) rfl rfl ?_
          clear hst
          intro w hst
          replace hst := hst.pull4
          obtain ⟨w875, hr876, hst⟩ := hst.boxStore1 (P := Try.prog) (t := 31) (cs' := [.int .u64 t541.1.Session, .int .u64 t541.1.Seq, .int .u64 (IntKind.u64.wrap (IntKind.i64.wrap ((1:Int) + t546.1))), v659, v779, v872, (.slice none 0 0)]) 5 v872 (one_of_sliceV hst.sv1) Try.sizeOf31 rfl rfl
          refine we_unit rfl (x_unit hr876) ?_
          refine ws_next (pend' := []) hst (by kernel_rfl) pk_nil ?_
          refine ws_nil ?_
          intro w hst
          refine blk_n ?_
          refine then_n ?_
          refine wp_region_lit ?_
          refine wl_val (v := .int .i64 z851) rfl rfl rfl ?_
          refine wl_val (v := .int .i64 (IntKind.i64.wrap (z851 + (1:Int)))) rfl rfl rfl ?_
          refine wl_val (v := .int .i64 (IntKind.i64.wrap (z851 + (1:Int)))) rfl rfl rfl ?_
          refine wl_nil ?_
          refine then_n ?_
          replace hst := hst.pull6
          replace hst := hst.pull6
          replace hst := hst.pull2
          replace hst := hst.pull6
          replace hst := hst.pull6
          replace hst := hst.pull5
          replace hst := hst.keep6
          obtain rfl := some_inj hm
          exact ⟨_, Nat.lt_succ_self _, (z847 ++ ([t861.1])), t861.2, (IntKind.i64.wrap (z851 + (1:Int))), v872, _, hx858, ((fr_upd (t := 0) (v := p0) rfl).trans ((fr_upd (t := 2) (v := .pointer (some ⟨b536, 0, none⟩)) rfl).trans ((fr_upd (t := 3) (v := .pointer (some ⟨b559, 0, none⟩)) rfl).trans ((fr_upd (t := 4) (v := .int .i64 t786.1) rfl).trans ((fr_upd (t := 7) (v := .int .i64 (IntKind.i64.wrap (z851 + (1:Int)))) rfl).trans rfl))))), hst⟩
        · skip
          replace hm := bif_f hc860 hm
          refine wp_iff (congrArg Value.bool hc860) ?_
          refine wp_exit ?_
          refine then_x ?_
          refine then_x ?_
          replace hm := inr_up hm hx858
          refine blk_x ?_
          refine then_n ?_
          replace hst := hst.pull5
          replace hst := hst.pull5
          replace hst := hst.pull5
          replace hst := hst.pull5
          replace hst := hst.pull5
          replace hst := hst.keep6
          obtain rfl := some_inj hm
          exact ⟨z850, z847, v848, _, hx884, ((fr_upd (t := 0) (v := p0) rfl).trans ((fr_upd (t := 2) (v := .pointer (some ⟨b536, 0, none⟩)) rfl).trans ((fr_upd (t := 3) (v := .pointer (some ⟨b559, 0, none⟩)) rfl).trans rfl))), hst⟩
      · skip
        clear hst
        rintro _ w885 ⟨z877, z880, v879, σ881, hm, rfl, hst⟩
        dsimp only [ref12_Tape_Hold_j4] at hm
        refine wp_seq ?_
        refine wp_seq ?_
        refine wp_region_lit ?_
        refine wl_val (v := p0) rfl rfl rfl ?_
        obtain ⟨t886, ht887, hm⟩ := bind_some hm
        refine wl_call rfl rfl (x_call Try.call22 rfl (vs := [p0, .int .i64 (4:Int)]) rfl) ?_
        refine (ref12_Tape_Next_ref hst.to1 ht887).mono ?_
        rintro _ w888 ⟨rfl, hst⟩
        refine ⟨_, rfl, ?_⟩
        replace hst := hst.of1
        refine wl_val (v := .bool (t886.1 == (0:Int))) rfl rfl rfl ?_
        refine wl_nil ?_
        refine then_n ?_
        refine bsplit (t886.1 == (0:Int)) (fun hc891 => ?_) (fun hc891 => ?_)
        · skip
          replace hm := bif_t hc891 hm
          refine wp_ift (congrArg Value.bool hc891) ?_
          refine wp_region_lit ?_
          refine wl_val (v := p0) rfl rfl rfl ?_
          obtain ⟨t892, ht893, hm⟩ := bind_some hm
          refine wl_call rfl rfl (x_call Try.call36 rfl (vs := [p0]) rfl) ?_
          refine (ref12_Tape_Val_ref hst.to1 ht893).mono ?_
          rintro _ w894 ⟨v897, rfl, hst⟩
          refine ⟨_, rfl, ?_⟩
          replace hst := hst.of2
          refine wl_val (v := .pointer (some ⟨b559, 6, none⟩)) rfl rfl (x_field rfl Try.underlying34 rfl Try.sizeOf22 rfl) ?_
          replace hst := hst.pull3
          obtain ⟨w899, hr900, hst⟩ := hst.boxStore1 (P := Try.prog) (t := 22) (cs' := [.int .u64 t541.1.Session, .int .u64 t541.1.Seq, .int .u64 (IntKind.u64.wrap (IntKind.i64.wrap ((1:Int) + t546.1))), v659, v779, v879, v897]) 6 v897 (one_of_sliceV hst.sv1) Try.sizeOf22 rfl rfl
          refine wl_unit rfl rfl (x_unit hr900) ?_
          refine wl_nil ?_
          refine then_n ?_
          refine wp_seq ?_
          refine wp_region_lit ?_
          refine wl_val (v := .agg #[.int .u64 t541.1.Session, .int .u64 t541.1.Seq, .int .u64 (IntKind.u64.wrap (IntKind.i64.wrap ((1:Int) + t546.1))), v659, v779, v879, v897]) rfl rfl (x_loadN (cs := [.int .u64 t541.1.Session, .int .u64 t541.1.Seq, .int .u64 (IntKind.u64.wrap (IntKind.i64.wrap ((1:Int) + t546.1))), v659, v779, v879, v897]) rfl Try.isAgg34 Try.sizeOf34 (hst.bcs0 0 rfl)) ?_
          replace hst := hst.pull3
          obtain ⟨w901, hr902, hst⟩ := hst.boxStore (P := Try.prog) (t := 34) (cs' := [.int .u64 t541.1.Session, .int .u64 t541.1.Seq, .int .u64 (IntKind.u64.wrap (IntKind.i64.wrap ((1:Int) + t546.1))), v659, v779, v879, v897]) 0 (.agg #[.int .u64 t541.1.Session, .int .u64 t541.1.Seq, .int .u64 (IntKind.u64.wrap (IntKind.i64.wrap ((1:Int) + t546.1))), v659, v779, v879, v897]) Try.sizeOf34 (Nat.le_of_ble_eq_true rfl) (ones_cons rfl (ones_cons rfl (ones_cons rfl (ones_cons (one_of_sliceV hst.sv4) (ones_cons (one_of_sliceV hst.sv5) (ones_cons (one_of_sliceV hst.sv6) (ones_cons (one_of_sliceV hst.sv2) ones_nil))))))) (by kernel_rfl)
          refine wl_unit rfl rfl (x_unit hr902) ?_
          refine wl_nil ?_
          refine then_n ?_
          refine wp_ret ?_
          obtain rfl := some_inj hm
          refine post_ret (vs := [.agg #[.int .u64 t541.1.Session, .int .u64 t541.1.Seq, .int .u64 (IntKind.u64.wrap (IntKind.i64.wrap ((1:Int) + t546.1))), v659, v779, v879, v897]]) Try.results23 (rvs_cons (rv_cell (cs := [.int .u64 t541.1.Session, .int .u64 t541.1.Seq, .int .u64 (IntKind.u64.wrap (IntKind.i64.wrap ((1:Int) + t546.1))), v659, v779, v879, v897]) rfl Try.isAgg34 Try.sizeOf34 (hst.bcs0 0 rfl)) rvs_nil) ?_
          replace hst := hst.pull3
          replace hst := hst.pull3
          replace hst := hst.pull6
          replace hst := hst.pull6
          replace hst := hst.pull6
          exact ⟨v659, v779, v879, v897, rfl, hst.keep5⟩
        · skip
          replace hm := bif_f hc891 hm
          refine wp_iff (congrArg Value.bool hc891) ?_
          refine wp_skip ?_
          refine then_n ?_
          refine wp_seq ?_
          refine wp_region_lit ?_
          refine wl_val (v := .agg #[.int .u64 t541.1.Session, .int .u64 t541.1.Seq, .int .u64 (IntKind.u64.wrap (IntKind.i64.wrap ((1:Int) + t546.1))), v659, v779, v879, (.slice none 0 0)]) rfl rfl (x_loadN (cs := [.int .u64 t541.1.Session, .int .u64 t541.1.Seq, .int .u64 (IntKind.u64.wrap (IntKind.i64.wrap ((1:Int) + t546.1))), v659, v779, v879, (.slice none 0 0)]) rfl Try.isAgg34 Try.sizeOf34 (hst.bcs2 0 rfl)) ?_
          replace hst := hst.pull1
          obtain ⟨w903, hr904, hst⟩ := hst.boxStore (P := Try.prog) (t := 34) (cs' := [.int .u64 t541.1.Session, .int .u64 t541.1.Seq, .int .u64 (IntKind.u64.wrap (IntKind.i64.wrap ((1:Int) + t546.1))), v659, v779, v879, (.slice none 0 0)]) 0 (.agg #[.int .u64 t541.1.Session, .int .u64 t541.1.Seq, .int .u64 (IntKind.u64.wrap (IntKind.i64.wrap ((1:Int) + t546.1))), v659, v779, v879, (.slice none 0 0)]) Try.sizeOf34 (Nat.le_of_ble_eq_true rfl) (ones_cons rfl (ones_cons rfl (ones_cons rfl (ones_cons (one_of_sliceV hst.sv3) (ones_cons (one_of_sliceV hst.sv4) (ones_cons (one_of_sliceV hst.sv5) (ones_cons rfl ones_nil))))))) (by kernel_rfl)
          refine wl_unit rfl rfl (x_unit hr904) ?_
          refine wl_nil ?_
          refine then_n ?_
          refine wp_ret ?_
          replace hst := hst.own_nil (tyInt .u8)
          obtain rfl := some_inj hm
          refine post_ret (vs := [.agg #[.int .u64 t541.1.Session, .int .u64 t541.1.Seq, .int .u64 (IntKind.u64.wrap (IntKind.i64.wrap ((1:Int) + t546.1))), v659, v779, v879, (.slice none 0 0)]]) Try.results23 (rvs_cons (rv_cell (cs := [.int .u64 t541.1.Session, .int .u64 t541.1.Seq, .int .u64 (IntKind.u64.wrap (IntKind.i64.wrap ((1:Int) + t546.1))), v659, v779, v879, (.slice none 0 0)]) rfl Try.isAgg34 Try.sizeOf34 (hst.bcs1 0 rfl)) rvs_nil) ?_
          replace hst := hst.pull2
          replace hst := hst.pull1
          replace hst := hst.pull6
          replace hst := hst.pull6
          replace hst := hst.pull6
          exact ⟨v659, v779, v879, (.slice none 0 0), rfl, hst.keep5⟩

theorem ref13_OfWrites_ref {w0 w : World} {I : HL} {R : SP} {a0 : ref12_Tape} {p0 : Value}  (hst : St w0 w I [at_ref12_Tape p0 a0] R) {r : ((List api_Write) × ref12_Tape)} (hm : ref13_OfWrites a0 = some r) :
    Calls Try.prog 25 #[p0] w fun e w' => ∃ (I' : HL) (q0_0 : Value), e = .returned (q0_0) ∧ I.le I' ∧ St w0 w' I' [ownS ty_api_Write q0_0 r.1, at_ref12_Tape p0 r.2] R := by
  unfold ref13_OfWrites at hm
  refine calls_start (args := [p0]) Try.func25 rfl Try.ntmps25 (Nat.le_of_ble_eq_true rfl) ?_
  have hI0 := HL.le.refl I
  refine wp_seq ?_
  refine wp_region_lit ?_
  refine wl_val (v := (.slice none 0 0)) rfl rfl rfl ?_
  refine wl_nil ?_
  refine then_n ?_
  refine wp_seq ?_
  refine wp_region_lit ?_
  refine wl_val (v := (.slice none 0 0)) rfl rfl rfl ?_
  refine wl_nil ?_
  refine then_n ?_
  refine wp_seq ?_
  refine wp_region_lit ?_
  refine wl_val (v := p0) rfl rfl rfl ?_
  obtain ⟨t451, ht452, hm⟩ := bind_some hm
  refine wl_call rfl rfl (x_call Try.call22 rfl (vs := [p0, .int .i64 (3:Int)]) rfl) ?_
  refine (ref12_Tape_Next_ref hst.to1 ht452).mono ?_
  rintro _ w453 ⟨rfl, hst⟩
  refine ⟨_, rfl, ?_⟩
  replace hst := hst.of1
  refine wl_val (v := .int .i64 t451.1) rfl rfl rfl ?_
  refine wl_nil ?_
  refine then_n ?_
  refine wp_seq ?_
  refine wp_seq ?_
  refine wp_region_lit ?_
  refine wl_val (v := .int .i64 (0:Int)) rfl rfl rfl ?_
  refine wl_nil ?_
  refine then_n ?_
  refine wp_block ?_
  replace hst := hst.own_nil ty_api_Write
  obtain ⟨n624, hm⟩ := loopO_some hm
  refine wp_loop_n (fun n a w => ∃ (I622 : HL) (z617 : ref12_Tape) (z618 : (List api_Write)) (z621 : Int) (v619 : Value) (σ623 : Nat → Value), loopN (ref13_OfWrites_l0 t451) n (z617, z618, z621) = some r ∧ a = Fr 31 (upd (upd (upd (upd σ623 0 (p0)) 3 (v619)) 4 (.int .i64 t451.1)) 5 (.int .i64 z621)) ∧ I.le I622 ∧ St w0 w I622 [ownS ty_api_Write v619 z618, at_ref12_Tape p0 z617] R) n624 ⟨_, t451.2, [], (0:Int), (.slice none 0 0), _, hm, ((fr_upd (t := 0) (v := p0) rfl).trans ((fr_upd (t := 3) (v := (.slice none 0 0)) rfl).trans ((fr_upd (t := 4) (v := .int .i64 t451.1) rfl).trans ((fr_upd (t := 5) (v := .int .i64 (0:Int)) rfl).trans rfl)))), (HL.le.refl _), hst⟩ ?_
  rintro n630 _ w625 ⟨I622, z617, z618, z621, v619, σ623, hm, rfl, hL626, hst⟩
  obtain ⟨n627, y628, rfl, hm, hx629⟩ := loopN_some hm
  dsimp only [ref13_OfWrites_l0] at hm
  replace hI0 := hI0.trans hL626
  refine wp_seq ?_
  refine wp_seq ?_
  refine wp_region_lit ?_
  refine wl_val (v := .int .i64 z621) rfl rfl rfl ?_
  refine wl_val (v := .int .i64 t451.1) rfl rfl rfl ?_
  refine wl_val (v := .bool (decide (z621 < t451.1))) rfl rfl rfl ?_
  refine wl_nil ?_
  refine then_n ?_
  refine bsplit (decide (z621 < t451.1)) (fun hc631 => ?_) (fun hc631 => ?_)
  · skip
    replace hm := bif_t hc631 hm
    refine wp_ift (congrArg Value.bool hc631) ?_
    refine wp_skip ?_
    refine then_n ?_
    refine wp_seq ?_
    refine wp_block ?_
    refine wp_seq ?_
    refine wp_region_lit ?_
    refine wl_val (v := p0) rfl rfl rfl ?_
    replace hst := hst.pull1
    obtain ⟨t632, ht633, hm⟩ := bind_some hm
    refine wl_call rfl rfl (x_call Try.call37 rfl (vs := [p0]) rfl) ?_
    refine (ref12_Tape_Float_ref hst.to1 ht633).mono ?_
    rintro _ w634 ⟨rfl, hst⟩
    refine ⟨_, rfl, ?_⟩
    replace hst := hst.of1
    refine wl_val (v := p0) rfl rfl rfl ?_
    obtain ⟨t637, ht638, hm⟩ := bind_some hm
    refine wl_call rfl rfl (x_call Try.call22 rfl (vs := [p0, .int .i64 (4:Int)]) rfl) ?_
    refine (ref12_Tape_Next_ref hst.to1 ht638).mono ?_
    rintro _ w639 ⟨rfl, hst⟩
    refine ⟨_, rfl, ?_⟩
    replace hst := hst.of1
    refine wl_val (v := .bool (t637.1 == (0:Int))) rfl rfl rfl ?_
    refine wl_val (v := .agg #[.float .f64 t632.1, .bool (t637.1 == (0:Int)), (.slice none 0 0)]) rfl rfl (by kernel_rfl) ?_
    obtain ⟨b644, w645, ew646, eb647, hst⟩ := hst.box [.float .f64 (0:Nat), .bool false, (.slice none 0 0)] 73
    refine wl_run (v := .pointer (some ⟨b644, 0, none⟩)) (w' := w645) rfl rfl (x_al (by kernel_rfl) ew646 eb647) ?_
    obtain ⟨w649, hr650, hst⟩ := hst.boxStore (P := Try.prog) (t := 73) (cs' := [.float .f64 t632.1, .bool (t637.1 == (0:Int)), (.slice none 0 0)]) 0 (.agg #[.float .f64 t632.1, .bool (t637.1 == (0:Int)), (.slice none 0 0)]) Try.sizeOf73 (Nat.le_of_ble_eq_true rfl) (ones_cons rfl (ones_cons rfl (ones_cons rfl ones_nil))) (by kernel_rfl)
    refine wl_unit rfl rfl (x_unit hr650) ?_
    refine wl_nil ?_
    refine then_n ?_
    obtain ⟨y667, hm, hx668⟩ := bind_some hm
    refine wp_cut (fun a w => ∃ (z661 : ref12_Tape) (z664 : (List Int)) (v663 : Value) (σ665 : Nat → Value), (ref13_OfWrites_j1 z618 t632 t637 z621) (z661, z664) = some y628 ∧ a = Fr 31 (upd (upd (upd (upd (upd σ665 0 (p0)) 3 (v619)) 4 (.int .i64 t451.1)) 5 (.int .i64 z621)) 6 (.pointer (some ⟨b644, 0, none⟩))) ∧ St w0 w I622 [at_ref12_Tape p0 z661, ownS ty_api_Write v619 z618, cells b644 [.float .f64 t632.1, .bool (t637.1 == (0:Int)), v663], ownS (tyInt .u8) v663 z664] R) ?_ ?_
    · skip
      refine wp_seq ?_
      refine wp_region_lit ?_
      refine wl_val (v := .pointer (some ⟨b644, 1, none⟩)) rfl rfl (x_field rfl Try.underlying73 rfl Try.sizeOf4 rfl) ?_
      refine wl_val (v := .bool (t637.1 == (0:Int))) rfl rfl (x_load rfl Try.isAgg4 (hst.bc0 rfl)) ?_
      refine wl_val (v := .bool (!(t637.1 == (0:Int)))) rfl rfl rfl ?_
      refine wl_nil ?_
      refine then_n ?_
      refine bsplit (!(t637.1 == (0:Int))) (fun hc651 => ?_) (fun hc651 => ?_)
      · skip
        replace hm := bif_t hc651 hm
        refine wp_ift (congrArg Value.bool hc651) ?_
        refine wp_region_lit ?_
        refine wl_val (v := p0) rfl rfl rfl ?_
        replace hst := hst.pull1
        obtain ⟨t652, ht653, hm⟩ := bind_some hm
        refine wl_call rfl rfl (x_call Try.call36 rfl (vs := [p0]) rfl) ?_
        refine (ref12_Tape_Val_ref hst.to1 ht653).mono ?_
        rintro _ w654 ⟨v657, rfl, hst⟩
        refine ⟨_, rfl, ?_⟩
        replace hst := hst.of2
        refine wl_val (v := .pointer (some ⟨b644, 2, none⟩)) rfl rfl (x_field rfl Try.underlying73 rfl Try.sizeOf22 rfl) ?_
        replace hst := hst.pull2
        obtain ⟨w659, hr660, hst⟩ := hst.boxStore1 (P := Try.prog) (t := 22) (cs' := [.float .f64 t632.1, .bool (t637.1 == (0:Int)), v657]) 2 v657 (one_of_sliceV hst.sv1) Try.sizeOf22 rfl rfl
        refine wl_unit rfl rfl (x_unit hr660) ?_
        refine wl_nil ?_
        refine then_n ?_
        replace hst := hst.pull1
        replace hst := hst.pull1
        replace hst := hst.pull3
        replace hst := hst.pull3
        replace hst := hst.keep4
        obtain rfl := some_inj hm
        exact ⟨t652.2, t652.1, v657, _, hx668, ((fr_upd (t := 0) (v := p0) rfl).trans ((fr_upd (t := 3) (v := v619) rfl).trans ((fr_upd (t := 4) (v := .int .i64 t451.1) rfl).trans ((fr_upd (t := 5) (v := .int .i64 z621) rfl).trans ((fr_upd (t := 6) (v := .pointer (some ⟨b644, 0, none⟩)) rfl).trans rfl))))), hst⟩
      · skip
        replace hm := bif_f hc651 hm
        refine wp_iff (congrArg Value.bool hc651) ?_
        refine wp_skip ?_
        refine then_n ?_
        replace hst := hst.own_nil (tyInt .u8)
        replace hst := hst.pull1
        replace hst := hst.pull3
        replace hst := hst.pull3
        replace hst := hst.keep4
        obtain rfl := some_inj hm
        exact ⟨t637.2, ([]), (.slice none 0 0), _, hx668, ((fr_upd (t := 0) (v := p0) rfl).trans ((fr_upd (t := 3) (v := v619) rfl).trans ((fr_upd (t := 4) (v := .int .i64 t451.1) rfl).trans ((fr_upd (t := 5) (v := .int .i64 z621) rfl).trans ((fr_upd (t := 6) (v := .pointer (some ⟨b644, 0, none⟩)) rfl).trans rfl))))), hst⟩
    · skip
      clear hst
      rintro _ w669 ⟨z661, z664, v663, σ665, hm, rfl, hst⟩
      dsimp only [ref13_OfWrites_j1] at hm
      refine wp_region_lit ?_
      refine wl_val (v := v619) rfl rfl rfl ?_
      refine wl_val (v := .agg #[.float .f64 t632.1, .bool (t637.1 == (0:Int)), v663]) rfl rfl (x_loadN (cs := [.float .f64 t632.1, .bool (t637.1 == (0:Int)), v663]) rfl Try.isAgg73 Try.sizeOf73 (hst.bcs2 0 rfl)) ?_
      replace hst := hst.pull3
      obtain ⟨I671, hI672, f673, hst⟩ := hst.own_fix
      replace hI0 := hI0.trans hI672
      replace hL626 := hL626.trans hI672
      obtain ⟨b674, w675, ew676, eb677, hst⟩ := hst.lits (E := ty_api_Write) (xs := [({ At := t632.1, Del := (t637.1 == (0:Int)), Val := z664 } : api_Write)]) [[.float .f64 t632.1, .bool (t637.1 == (0:Int)), v663]] 73 1 rfl (Reps.cons ⟨_, rfl, f673, one_of_sliceV (ro_sliceV f673)⟩ Reps.nil)
      refine wl_run (v := (.slice (some ⟨b674, 0, none⟩) 1 1)) (w' := w675) rfl rfl (x_als (by kernel_rfl) ew676 eb677) ?_
      obtain ⟨hg679, hm⟩ := gd_some hm
      replace hst := hst.pull2
      obtain ⟨v680, w681, hr682, hst⟩ := run_append elem_35 Try.underlying35 hst hst.src1 (room_of hg679 rfl) 35
      refine wl_run (v := v680) (w' := w681) rfl rfl (x_append rfl rfl hr682) ?_
      refine wl_val (v := v680) rfl rfl rfl ?_
      refine wl_nil ?_
      refine blk_n ?_
      refine then_n ?_
      refine wp_region_lit ?_
      refine wl_val (v := .int .i64 z621) rfl rfl rfl ?_
      refine wl_val (v := .int .i64 (IntKind.i64.wrap (z621 + (1:Int)))) rfl rfl rfl ?_
      refine wl_val (v := .int .i64 (IntKind.i64.wrap (z621 + (1:Int)))) rfl rfl rfl ?_
      refine wl_nil ?_
      refine then_n ?_
      replace hst := hst.pull2
      replace hst := hst.pull1
      replace hst := hst.keep2
      obtain rfl := some_inj hm
      exact ⟨_, Nat.lt_succ_self _, _, z661, (z618 ++ ([({ At := t632.1, Del := (t637.1 == (0:Int)), Val := z664 } : api_Write)])), (IntKind.i64.wrap (z621 + (1:Int))), v680, _, hx629, ((fr_upd (t := 0) (v := p0) rfl).trans ((fr_upd (t := 3) (v := v680) rfl).trans ((fr_upd (t := 4) (v := .int .i64 t451.1) rfl).trans ((fr_upd (t := 5) (v := .int .i64 (IntKind.i64.wrap (z621 + (1:Int)))) rfl).trans rfl)))), hL626, hst⟩
  · skip
    replace hm := bif_f hc631 hm
    refine wp_iff (congrArg Value.bool hc631) ?_
    refine wp_exit ?_
    refine then_x ?_
    refine then_x ?_
    replace hm := inr_up hm hx629
    refine blk_x ?_
    refine then_n ?_
    refine wp_seq ?_
    refine wp_region_lit ?_
    refine wl_val (v := v619) rfl rfl rfl ?_
    refine wl_val (v := v619) rfl rfl rfl ?_
    refine wl_nil ?_
    refine then_n ?_
    refine wp_ret ?_
    obtain rfl := some_inj hm
    refine post_ret (vs := [v619]) Try.results25 (rvs_cons (rv_tmp rfl) rvs_nil) ?_
    replace hst := hst.pull1
    replace hst := hst.pull1
    exact ⟨_, v619, rfl, hI0, hst.keep2⟩

end Go.Proofs.Ytijcfglomdfglaa
