/- The Go functions refine their models, part 3. -/
import Derived.Test.YtijcfglomdfglaaCommandBytesR2
set_option linter.unusedVariables false
set_option linter.unusedSimpArgs false
set_option maxRecDepth 100000
set_option maxHeartbeats 4000000
namespace Go.Proofs.Ytijcfglomdfglaa
open Go Go.V
attribute [local irreducible] wpList Code.wp wpQuiet Calls bodyPost Oper.wp wpS Nx PendOK YieldsIn
theorem ref13_Reply_ref {w0 w : World} {I : HL} {R : SP} {a0 : (List Int)} {r0_0 : Value} {a1 : api_Reply} {r1_0 : Value} {r1_1 : Value} (f0_0 : Rd (tyInt .u8) R I r0_0 a0) (f1_0 : Rd ty_api_Got R I r1_0 a1.Gots) (f1_1 : Rd (tySl ty_api_Pair) R I r1_1 a1.Scans) (hst : St w0 w I [] R) {r : ((List Int))} (hm : ref13_Reply a0 a1 = some r) :
  Calls Try.prog 17 #[r0_0, .agg #[.int .i64 a1.E, .int .u64 a1.Epoch, .int .u64 a1.Index, r1_0, r1_1]] w fun e w' => ∃ (q0_0 : Value), e = .returned (q0_0) ∧ St w0 w' I [ownS (tyInt .u8) q0_0 r] R := by
 unfold ref13_Reply at hm
 refine calls_start (args := [r0_0, .agg #[.int .i64 a1.E, .int .u64 a1.Epoch, .int .u64 a1.Index, r1_0, r1_1]]) Try.func17 rfl Try.ntmps17 (Nat.le_of_ble_eq_true rfl) ?_
 refine wp_seq (wp_region_lit ?_)
 obtain ⟨b1029, w1030, ew1031, eb1032, hst⟩ := hst.box [.int .i64 a1.E, .int .u64 a1.Epoch, .int .u64 a1.Index, r1_0, r1_1] 39
 refine wl_run (v := .pointer (some ⟨b1029, 0, none⟩)) (w' := w1030) rfl rfl (x_al (by kernel_rfl) ew1031 eb1032) ?_
 refine wv ((.slice none 0 0)) rfl rfl rfl ?_
 refine wl_nil (then_n (wp_seq (wp_region_lit ?_)))
 refine wv (r0_0) rfl rfl rfl ?_
 refine wv (.pointer (some ⟨b1029, 0, none⟩)) rfl rfl (x_field rfl Try.underlying39 rfl Try.sizeOf30 rfl) ?_
 refine wv (.int .i64 a1.E) rfl rfl (x_load rfl Try.isAgg30 (hst.bc0 rfl)) ?_
 refine wv (.int .u64 (IntKind.u64.wrap a1.E)) rfl rfl (by kernel_rfl) ?_
 obtain ⟨t1035, ht1036, hm⟩ := bind_some hm
 refine wl_call rfl rfl (x_call Try.call45 rfl (vs := [r0_0, .int .u64 (IntKind.u64.wrap a1.E), .int .i64 (1:Int)]) rfl) ?_
 refine (ref02_Num_ref (f0_0.mono (rd_weak _)) hst.to0 ht1036).mono ?_
 rintro _ w1037 ⟨v1040, rfl, hst⟩
 refine ⟨_, rfl, ?_⟩
 replace hst := hst.of1
 refine wv (v1040) rfl rfl rfl ?_
 refine wl_nil (then_n (wp_seq ?_))
 refine wp_region_St hst 8 [0, 1, 2, 3, 4, 5, 6, 7] [0, 0, 2, 7, 0, 16, 63, 127] [7] rfl (by kernel_rfl) (by kernel_rfl) Try.mixed (by kernel_rfl) ?_
 refine wsr (v1040) 0 rfl rfl rfl (by kernel_rfl) (fun w hst => rfl) ?_
 refine wsr (.pointer (some ⟨b1029, 1, none⟩)) 1 rfl rfl rfl (by kernel_rfl) (fun w hst => x_field rfl Try.underlying39 rfl Try.sizeOf27 rfl) ?_
 refine wsr (.int .u64 a1.Epoch) 2 rfl rfl rfl (by kernel_rfl) (fun w hst => x_load rfl Try.isAgg27 (hst.bc1 rfl)) ?_
 refine wsr (.pointer (some ⟨b1029, 2, none⟩)) 4 rfl rfl rfl (by kernel_rfl) (fun w hst => x_field rfl Try.underlying39 rfl Try.sizeOf27 rfl) ?_
 refine wsr (.int .u64 a1.Index) 5 rfl rfl rfl (by kernel_rfl) (fun w hst => x_load rfl Try.isAgg27 (hst.bc1 rfl)) ?_
 refine ws_e1 3 (by kernel_rfl) ?_
 refine nxe [6, 7] (by kernel_rfl) rfl rfl ?_
 clear hst
 intro w hst
 obtain ⟨css1042, hq1043, hst⟩ := hst.own_open
 obtain ⟨t1044, ht1045, hm⟩ := bind_some hm
 refine we_call rfl (x_call Try.call45 rfl (vs := [v1040, .int .u64 a1.Epoch, .int .i64 (8:Int)]) rfl) ?_
 refine (ref02_Num_ref (hst.rdrow0 hq1043) hst.to0 ht1045).mono ?_
 rintro _ w1046 ⟨v1049, rfl, hst⟩
 refine ⟨_, rfl, ?_⟩
 replace hst := hst.of1
 replace hst := hst.pull1
 replace hst := hst.own_close hq1043
 refine ws_next (pend' := [(5, .int .u64 a1.Index), (4, .pointer (some ⟨b1029, 2, none⟩))]) hst (by kernel_rfl) (pkr rfl rfl (fun w hst => x_load rfl Try.isAgg27 (hst.bc2 rfl)) (pkr rfl rfl (fun w hst => x_field rfl Try.underlying39 rfl Try.sizeOf27 rfl) pk_nil)) ?_
 refine ws_e1 6 (by kernel_rfl) ?_
 refine nxe [7] (by kernel_rfl) rfl rfl ?_
 clear hst
 intro w hst
 replace hst := hst.pull1
 obtain ⟨css1051, hq1052, hst⟩ := hst.own_open
 obtain ⟨t1053, ht1054, hm⟩ := bind_some hm
 refine we_call rfl (x_call Try.call45 rfl (vs := [v1049, .int .u64 a1.Index, .int .i64 (8:Int)]) rfl) ?_
 refine (ref02_Num_ref (hst.rdrow0 hq1052) hst.to0 ht1054).mono ?_
 rintro _ w1055 ⟨v1058, rfl, hst⟩
 refine ⟨_, rfl, ?_⟩
 replace hst := hst.of1
 replace hst := hst.pull1
 replace hst := hst.own_close hq1052
 refine ws_next (pend' := []) hst (by kernel_rfl) pk_nil ?_
 refine ws_e1 7 (by kernel_rfl) ?_
 refine nxe [] (by kernel_rfl) rfl rfl ?_
 clear hst
 intro w hst
 refine we_run (v := v1058) (w' := w) rfl rfl ?_
 refine ws_next (pend' := []) hst (by kernel_rfl) pk_nil ?_
 refine ws_nil ?_
 intro w hst
 refine then_n (wp_seq (wp_region_lit ?_))
 refine wv (v1058) rfl rfl rfl ?_
 refine wv (.pointer (some ⟨b1029, 3, none⟩)) rfl rfl (x_field rfl Try.underlying39 rfl Try.sizeOf36 rfl) ?_
 refine wv (r1_0) rfl rfl (x_load rfl Try.isAgg36 (hst.bc3 rfl)) ?_
 refine wv (.int .i64 ((a1.Gots).length : Int)) rfl rfl (x_len rfl Try.underlying36 (rd_sliceV f1_0)) ?_
 refine wv (.int .u64 (IntKind.u64.wrap ((a1.Gots).length : Int))) rfl rfl (by kernel_rfl) ?_
 replace hst := hst.pull1
 obtain ⟨css1060, hq1061, hst⟩ := hst.own_open
 obtain ⟨t1062, ht1063, hm⟩ := bind_some hm
 refine wl_call rfl rfl (x_call Try.call45 rfl (vs := [v1058, .int .u64 (IntKind.u64.wrap ((a1.Gots).length : Int)), .int .i64 (4:Int)]) rfl) ?_
 refine (ref02_Num_ref (hst.rdrow0 hq1061) hst.to0 ht1063).mono ?_
 rintro _ w1064 ⟨v1067, rfl, hst⟩
 refine ⟨_, rfl, ?_⟩
 replace hst := hst.of1
 replace hst := hst.pull1
 replace hst := hst.own_close hq1061
 refine wv (v1067) rfl rfl rfl ?_
 refine wl_nil (then_n ?_)
 obtain ⟨y1180, hm, hx1181⟩ := bind_some hm
 refine wp_cut (fun a w => ∃ (z1177 : (List Int)) (v1176 : Value) (σ1178 : Nat → Value), (ref13_Reply_j0 a1) z1177 = some r ∧ a = Fr 103 (upd (upd σ1178 0 (v1176)) 3 (.pointer (some ⟨b1029, 0, none⟩))) ∧ St w0 w I [ownS (tyInt .u8) v1176 z1177, cells b1029 [.int .i64 a1.E, .int .u64 a1.Epoch, .int .u64 a1.Index, r1_0, r1_1]] R) ?_ ?_
 ·skip
  refine wp_seq (wp_region_lit ?_)
  refine wv (.int .i64 (0:Int)) rfl rfl rfl ?_
  refine wl_nil (then_n (wp_block ?_))
  replace hst := hst.sub
  replace hst := hst.pull1
  replace hst := hst.sub
  replace hst := hst.pull1
  replace hst := hst.sub
  obtain ⟨n1138, hm⟩ := loopO_some hm
  refine wp_loop_n (fun n a w => ∃ (z1133 : (List Int)) (z1136 : Int) (v1134 : Value) (σ1137 : Nat → Value), loopN (ref13_Reply_l1 a1) n (z1133, z1136) = some y1180 ∧ a = Fr 103 (upd (upd (upd σ1137 0 (v1134)) 3 (.pointer (some ⟨b1029, 0, none⟩))) 5 (.int .i64 z1136)) ∧ St w0 w I [ownS (tyInt .u8) v1134 z1133, cells b1029 [.int .i64 a1.E, .int .u64 a1.Epoch, .int .u64 a1.Index, r1_0, r1_1]] R) n1138 ⟨t1062, (0:Int), v1067, _, hm, ((fr_upd (t := 0) (v := v1067) rfl).trans ((fr_upd (t := 3) (v := .pointer (some ⟨b1029, 0, none⟩)) rfl).trans ((fr_upd (t := 5) (v := .int .i64 (0:Int)) rfl).trans rfl))), hst⟩ ?_
  rintro n1144 _ w1139 ⟨z1133, z1136, v1134, σ1137, hm, rfl, hst⟩
  obtain ⟨n1141, y1142, rfl, hm, hx1143⟩ := loopN_some hm
  dsimp only [ref13_Reply_l1] at hm
  refine wp_seq (wp_seq (wp_region_lit ?_))
  refine wv (.int .i64 z1136) rfl rfl rfl ?_
  refine wv (.pointer (some ⟨b1029, 3, none⟩)) rfl rfl (x_field rfl Try.underlying39 rfl Try.sizeOf36 rfl) ?_
  refine wv (r1_0) rfl rfl (x_load rfl Try.isAgg36 (hst.bc1 rfl)) ?_
  refine wv (.int .i64 ((a1.Gots).length : Int)) rfl rfl (x_len rfl Try.underlying36 (rd_sliceV f1_0)) ?_
  refine wv (.bool (decide (z1136 < ((a1.Gots).length : Int)))) rfl rfl rfl ?_
  refine wl_nil (then_n ?_)
  refine bsplit (decide (z1136 < ((a1.Gots).length : Int))) (fun hc1145 => ?_) (fun hc1145 => ?_)
  ·skip
   replace hm := bif_t hc1145 hm
   refine wp_ift (congrArg Value.bool hc1145) ?_
   refine wp_skip (then_n (wp_seq (wp_block ?_)))
   refine wp_region_St hst 16 [0, 1, 2, 3, 4, 5, 6, 7, 8, 9, 10, 11, 12, 13, 14, 15] [0, 0, 2, 0, 14, 30, 62, 127, 0, 256, 0, 1792, 3840, 7936, 16383, 32767] [15] rfl (by kernel_rfl) (by kernel_rfl) Try.mixed (by kernel_rfl) ?_
   refine wsr (v1134) 0 rfl rfl rfl (by kernel_rfl) (fun w hst => rfl) ?_
   refine wsr (.pointer (some ⟨b1029, 3, none⟩)) 1 rfl rfl rfl (by kernel_rfl) (fun w hst => x_field rfl Try.underlying39 rfl Try.sizeOf36 rfl) ?_
   refine wsr (r1_0) 2 rfl rfl rfl (by kernel_rfl) (fun w hst => x_load rfl Try.isAgg36 (hst.bc1 rfl)) ?_
   refine wsr (.int .i64 z1136) 3 rfl rfl rfl (by kernel_rfl) (fun w hst => rfl) ?_
   obtain ⟨x1146, hx1147, hm⟩ := bind_some hm
   obtain ⟨h1148, h1149, hi1150⟩ := geto_some hx1147
   refine wsr (.pointer (some (eAddr r1_0 (z1136.toNat * 2 + 0)))) 4 rfl rfl rfl (by kernel_rfl) (fun w hst => x_index rfl rfl Try.underlying36 Try.sizeOf51 (rd_sliceV f1_0) h1148 h1149) ?_
   refine wsr (.pointer (some (eAddr r1_0 (z1136.toNat * 2 + 0)))) 5 rfl rfl rfl (by kernel_rfl) (fun w hst => x_field_e rfl Try.underlying51 rfl Try.sizeOf4 rfl) ?_
   obtain ⟨cs1151, hr1152, hc1153⟩ := Rd.getF f1_0 hi1150
   obtain ⟨v1154, rfl, f1155, -⟩ := hr1152
   refine wsr (.bool x1146.Has) 6 rfl rfl rfl (by kernel_rfl) (fun w hst => x_load rfl Try.isAgg4 ((hc1153 (HL.le.refl _) hst) 0 _ rfl)) ?_
   refine wsr (.pointer (some ⟨b1029, 3, none⟩)) 8 rfl rfl rfl (by kernel_rfl) (fun w hst => x_field rfl Try.underlying39 rfl Try.sizeOf36 rfl) ?_
   refine wsr (r1_0) 9 rfl rfl rfl (by kernel_rfl) (fun w hst => x_load rfl Try.isAgg36 (hst.bc1 rfl)) ?_
   refine wsr (.int .i64 z1136) 10 rfl rfl rfl (by kernel_rfl) (fun w hst => rfl) ?_
   refine wsr (.pointer (some (eAddr r1_0 (z1136.toNat * 2 + 0)))) 11 rfl rfl rfl (by kernel_rfl) (fun w hst => x_index rfl rfl Try.underlying36 Try.sizeOf51 (rd_sliceV f1_0) h1148 h1149) ?_
   refine wsr (.pointer (some (eAddr r1_0 (z1136.toNat * 2 + 1)))) 12 rfl rfl rfl (by kernel_rfl) (fun w hst => x_field_e rfl Try.underlying51 rfl Try.sizeOf22 rfl) ?_
   refine wsr (v1154) 13 rfl rfl rfl (by kernel_rfl) (fun w hst => x_load rfl Try.isAgg22 ((hc1153 (HL.le.refl _) hst) 1 _ rfl)) ?_
   refine ws_e1 7 (by kernel_rfl) ?_
   refine nxe [14, 15] (by kernel_rfl) rfl rfl ?_
   clear hst
   intro w hst
   obtain ⟨css1157, hq1158, hst⟩ := hst.own_open
   obtain ⟨t1159, ht1160, hm⟩ := bind_some hm
   refine we_call rfl (x_call Try.call47 rfl (vs := [v1134, .bool x1146.Has]) rfl) ?_
   refine (ref02_Flag_ref (hst.rdrow0 hq1158) hst.to0 ht1160).mono ?_
   rintro _ w1161 ⟨v1164, rfl, hst⟩
   refine ⟨_, rfl, ?_⟩
   replace hst := hst.of1
   replace hst := hst.pull1
   replace hst := hst.own_close hq1158
   refine ws_next (pend' := [(13, v1154), (12, .pointer (some (eAddr r1_0 (z1136.toNat * 2 + 1)))), (11, .pointer (some (eAddr r1_0 (z1136.toNat * 2 + 0)))), (10, .int .i64 z1136), (9, r1_0), (8, .pointer (some ⟨b1029, 3, none⟩))]) hst (by kernel_rfl) (pkr rfl rfl (fun w hst => x_load rfl Try.isAgg22 ((hc1153 (HL.le.refl _) hst) 1 _ rfl)) (pkr rfl rfl (fun w hst => x_field_e rfl Try.underlying51 rfl Try.sizeOf22 rfl) (pkr rfl rfl (fun w hst => x_index rfl rfl Try.underlying36 Try.sizeOf51 (rd_sliceV f1_0) h1148 h1149) (pkr rfl rfl (fun w hst => rfl) (pkr rfl rfl (fun w hst => x_load rfl Try.isAgg36 (hst.bc2 rfl)) (pkr rfl rfl (fun w hst => x_field rfl Try.underlying39 rfl Try.sizeOf36 rfl) pk_nil)))))) ?_
   refine ws_e1 14 (by kernel_rfl) ?_
   refine nxe [15] (by kernel_rfl) rfl rfl ?_
   clear hst
   intro w hst
   replace hst := hst.pull1
   obtain ⟨css1166, hq1167, hst⟩ := hst.own_open
   obtain ⟨t1168, ht1169, hm⟩ := bind_some hm
   refine we_call rfl (x_call Try.call46 rfl (vs := [v1164, v1154]) rfl) ?_
   refine (ref02_Bytes_ref (hst.rdrow0 hq1167) (f1155.mono (rd_weak _)) hst.to0 ht1169).mono ?_
   rintro _ w1170 ⟨v1173, rfl, hst⟩
   refine ⟨_, rfl, ?_⟩
   replace hst := hst.of1
   replace hst := hst.pull1
   replace hst := hst.own_close hq1167
   refine ws_next (pend' := []) hst (by kernel_rfl) pk_nil ?_
   refine ws_e1 15 (by kernel_rfl) ?_
   refine nxe [] (by kernel_rfl) rfl rfl ?_
   clear hst
   intro w hst
   refine we_run (v := v1173) (w' := w) rfl rfl ?_
   refine ws_next (pend' := []) hst (by kernel_rfl) pk_nil ?_
   refine ws_nil ?_
   intro w hst
   refine blk_n (then_n (wp_region_lit ?_))
   refine wv (.int .i64 z1136) rfl rfl rfl ?_
   refine wv (.int .i64 (IntKind.i64.wrap (z1136 + (1:Int)))) rfl rfl rfl ?_
   refine wv (.int .i64 (IntKind.i64.wrap (z1136 + (1:Int)))) rfl rfl rfl ?_
   refine wl_nil (then_n ?_)
   replace hst := hst.pull3
   replace hst := hst.pull2
   replace hst := hst.keep2
   obtain rfl := some_inj hm
   exact ⟨_, Nat.lt_succ_self _, t1168, (IntKind.i64.wrap (z1136 + (1:Int))), v1173, _, hx1143, ((fr_upd (t := 0) (v := v1173) rfl).trans ((fr_upd (t := 3) (v := .pointer (some ⟨b1029, 0, none⟩)) rfl).trans ((fr_upd (t := 5) (v := .int .i64 (IntKind.i64.wrap (z1136 + (1:Int)))) rfl).trans rfl))), hst⟩
  ·skip
   replace hm := bif_f hc1145 hm
   refine wp_iff (congrArg Value.bool hc1145) ?_
   refine wp_exit (then_x (then_x ?_))
   replace hm := inr_up hm hx1143
   refine blk_x (then_n ?_)
   replace hst := hst.pull1
   replace hst := hst.pull1
   replace hst := hst.keep2
   obtain rfl := some_inj hm
   exact ⟨z1133, v1134, _, hx1181, ((fr_upd (t := 0) (v := v1134) rfl).trans ((fr_upd (t := 3) (v := .pointer (some ⟨b1029, 0, none⟩)) rfl).trans rfl)), hst⟩
 ·skip
  clear hst
  rintro _ w1182 ⟨z1177, v1176, σ1178, hm, rfl, hst⟩
  dsimp only [ref13_Reply_j0] at hm
  refine wp_seq (wp_region_lit ?_)
  refine wv (v1176) rfl rfl rfl ?_
  refine wv (.pointer (some ⟨b1029, 4, none⟩)) rfl rfl (x_field rfl Try.underlying39 rfl Try.sizeOf37 rfl) ?_
  refine wv (r1_1) rfl rfl (x_load rfl Try.isAgg37 (hst.bc1 rfl)) ?_
  refine wv (.int .i64 ((a1.Scans).length : Int)) rfl rfl (x_len rfl Try.underlying37 (rd_sliceV f1_1)) ?_
  refine wv (.int .u64 (IntKind.u64.wrap ((a1.Scans).length : Int))) rfl rfl (by kernel_rfl) ?_
  obtain ⟨css1183, hq1184, hst⟩ := hst.own_open
  obtain ⟨t1185, ht1186, hm⟩ := bind_some hm
  refine wl_call rfl rfl (x_call Try.call45 rfl (vs := [v1176, .int .u64 (IntKind.u64.wrap ((a1.Scans).length : Int)), .int .i64 (4:Int)]) rfl) ?_
  refine (ref02_Num_ref (hst.rdrow0 hq1184) hst.to0 ht1186).mono ?_
  rintro _ w1187 ⟨v1190, rfl, hst⟩
  refine ⟨_, rfl, ?_⟩
  replace hst := hst.of1
  replace hst := hst.pull1
  replace hst := hst.own_close hq1184
  refine wv (v1190) rfl rfl rfl ?_
  refine wl_nil (then_n (wp_seq (wp_seq (wp_region_lit ?_))))
  refine wv (.int .i64 (0:Int)) rfl rfl rfl ?_
  refine wl_nil (then_n (wp_block ?_))
  replace hst := hst.sub
  obtain ⟨n1521, hm⟩ := loopO_some hm
  refine wp_loop_n (fun n a w => ∃ (z1516 : (List Int)) (z1519 : Int) (v1517 : Value) (σ1520 : Nat → Value), loopN (ref13_Reply_l2 a1) n (z1516, z1519) = some r ∧ a = Fr 103 (upd (upd (upd σ1520 0 (v1517)) 3 (.pointer (some ⟨b1029, 0, none⟩))) 6 (.int .i64 z1519)) ∧ St w0 w I [ownS (tyInt .u8) v1517 z1516, cells b1029 [.int .i64 a1.E, .int .u64 a1.Epoch, .int .u64 a1.Index, r1_0, r1_1]] R) n1521 ⟨t1185, (0:Int), v1190, _, hm, ((fr_upd (t := 0) (v := v1190) rfl).trans ((fr_upd (t := 3) (v := .pointer (some ⟨b1029, 0, none⟩)) rfl).trans ((fr_upd (t := 6) (v := .int .i64 (0:Int)) rfl).trans rfl))), hst⟩ ?_
  rintro n1527 _ w1522 ⟨z1516, z1519, v1517, σ1520, hm, rfl, hst⟩
  obtain ⟨n1524, y1525, rfl, hm, hx1526⟩ := loopN_some hm
  dsimp only [ref13_Reply_l2] at hm
  refine wp_seq (wp_seq (wp_region_lit ?_))
  refine wv (.int .i64 z1519) rfl rfl rfl ?_
  refine wv (.pointer (some ⟨b1029, 4, none⟩)) rfl rfl (x_field rfl Try.underlying39 rfl Try.sizeOf37 rfl) ?_
  refine wv (r1_1) rfl rfl (x_load rfl Try.isAgg37 (hst.bc1 rfl)) ?_
  refine wv (.int .i64 ((a1.Scans).length : Int)) rfl rfl (x_len rfl Try.underlying37 (rd_sliceV f1_1)) ?_
  refine wv (.bool (decide (z1519 < ((a1.Scans).length : Int)))) rfl rfl rfl ?_
  refine wl_nil (then_n ?_)
  refine bsplit (decide (z1519 < ((a1.Scans).length : Int))) (fun hc1528 => ?_) (fun hc1528 => ?_)
  ·skip
   replace hm := bif_t hc1528 hm
   refine wp_ift (congrArg Value.bool hc1528) ?_
   refine wp_skip (then_n (wp_seq (wp_block (wp_seq (wp_region_lit ?_)))))
   refine wv (v1517) rfl rfl rfl ?_
   refine wv (.pointer (some ⟨b1029, 4, none⟩)) rfl rfl (x_field rfl Try.underlying39 rfl Try.sizeOf37 rfl) ?_
   refine wv (r1_1) rfl rfl (x_load rfl Try.isAgg37 (hst.bc1 rfl)) ?_
   refine wv (.int .i64 z1519) rfl rfl rfl ?_
   obtain ⟨x1529, hx1530, hm⟩ := bind_some hm
   obtain ⟨h1531, h1532, hi1533⟩ := geto_some hx1530
   refine wv (.pointer (some (eAddr r1_1 (z1519.toNat * 1 + 0)))) rfl rfl (x_index rfl rfl Try.underlying37 Try.sizeOf52 (rd_sliceV f1_1) h1531 h1532) ?_
   obtain ⟨cs1534, hr1535, hc1536⟩ := Rd.getF f1_1 hi1533
   obtain ⟨v1537, rfl, f1538, -⟩ := hr1535
   refine wv (v1537) rfl rfl (x_load rfl Try.isAgg52 ((hc1536 (HL.le.refl _) hst) 0 _ rfl)) ?_
   refine wv (.int .i64 ((x1529).length : Int)) rfl rfl (x_len rfl Try.underlying52 (rd_sliceV f1538)) ?_
   refine wv (.int .u64 (IntKind.u64.wrap ((x1529).length : Int))) rfl rfl (by kernel_rfl) ?_
   obtain ⟨css1540, hq1541, hst⟩ := hst.own_open
   obtain ⟨t1542, ht1543, hm⟩ := bind_some hm
   refine wl_call rfl rfl (x_call Try.call45 rfl (vs := [v1517, .int .u64 (IntKind.u64.wrap ((x1529).length : Int)), .int .i64 (4:Int)]) rfl) ?_
   refine (ref02_Num_ref (hst.rdrow0 hq1541) hst.to0 ht1543).mono ?_
   rintro _ w1544 ⟨v1547, rfl, hst⟩
   refine ⟨_, rfl, ?_⟩
   replace hst := hst.of1
   replace hst := hst.pull1
   replace hst := hst.own_close hq1541
   refine wv (v1547) rfl rfl rfl ?_
   refine wl_nil (then_n (wp_seq (wp_region_lit ?_)))
   refine wv (.int .i64 (0:Int)) rfl rfl rfl ?_
   refine wl_nil (then_n (wp_block ?_))
   replace hst := hst.sub
   obtain ⟨n1640, hm⟩ := loopO_some hm
   refine wp_loop_n (fun n a w => ∃ (z1635 : (List Int)) (z1638 : Int) (v1636 : Value) (σ1639 : Nat → Value), loopN (ref13_Reply_l3 x1529 z1519) n (z1635, z1638) = some y1525 ∧ a = Fr 103 (upd (upd (upd (upd σ1639 0 (v1636)) 3 (.pointer (some ⟨b1029, 0, none⟩))) 6 (.int .i64 z1519)) 7 (.int .i64 z1638)) ∧ St w0 w I [ownS (tyInt .u8) v1636 z1635, cells b1029 [.int .i64 a1.E, .int .u64 a1.Epoch, .int .u64 a1.Index, r1_0, r1_1]] R) n1640 ⟨t1542, (0:Int), v1547, _, hm, ((fr_upd (t := 0) (v := v1547) rfl).trans ((fr_upd (t := 3) (v := .pointer (some ⟨b1029, 0, none⟩)) rfl).trans ((fr_upd (t := 6) (v := .int .i64 z1519) rfl).trans ((fr_upd (t := 7) (v := .int .i64 (0:Int)) rfl).trans rfl)))), hst⟩ ?_
   rintro n1646 _ w1641 ⟨z1635, z1638, v1636, σ1639, hm, rfl, hst⟩
   obtain ⟨n1643, y1644, rfl, hm, hx1645⟩ := loopN_some hm
   dsimp only [ref13_Reply_l3] at hm
   refine wp_seq (wp_seq (wp_region_lit ?_))
   refine wv (.int .i64 z1638) rfl rfl rfl ?_
   refine wv (.pointer (some ⟨b1029, 4, none⟩)) rfl rfl (x_field rfl Try.underlying39 rfl Try.sizeOf37 rfl) ?_
   refine wv (r1_1) rfl rfl (x_load rfl Try.isAgg37 (hst.bc1 rfl)) ?_
   refine wv (.int .i64 z1519) rfl rfl rfl ?_
   refine wv (.pointer (some (eAddr r1_1 (z1519.toNat * 1 + 0)))) rfl rfl (x_index rfl rfl Try.underlying37 Try.sizeOf52 (rd_sliceV f1_1) h1531 h1532) ?_
   obtain ⟨cs1647, hr1648, hc1649⟩ := Rd.getF f1_1 hi1533
   obtain ⟨v1650, rfl, f1651, -⟩ := hr1648
   refine wv (v1650) rfl rfl (x_load rfl Try.isAgg52 ((hc1649 (HL.le.refl _) hst) 0 _ rfl)) ?_
   refine wv (.int .i64 ((x1529).length : Int)) rfl rfl (x_len rfl Try.underlying52 (rd_sliceV f1651)) ?_
   refine wv (.bool (decide (z1638 < ((x1529).length : Int)))) rfl rfl rfl ?_
   refine wl_nil (then_n ?_)
   refine bsplit (decide (z1638 < ((x1529).length : Int))) (fun hc1653 => ?_) (fun hc1653 => ?_)
   ·skip
    replace hm := bif_t hc1653 hm
    refine wp_ift (congrArg Value.bool hc1653) ?_
    refine wp_skip (then_n (wp_seq (wp_block ?_)))
    refine wp_region_St hst 23 [0, 1, 2, 3, 4, 5, 6, 7, 8, 9, 10, 11, 12, 13, 14, 15, 16, 17, 18, 19, 20, 21, 22] [0, 0, 2, 0, 14, 30, 0, 126, 254, 510, 1022, 2047, 0, 4096, 0, 28672, 61440, 0, 258048, 520192, 1044480, 2097151, 4194303] [22] rfl (by kernel_rfl) (by kernel_rfl) Try.mixed (by kernel_rfl) ?_
    refine wsr (v1636) 0 rfl rfl rfl (by kernel_rfl) (fun w hst => rfl) ?_
    refine wsr (.pointer (some ⟨b1029, 4, none⟩)) 1 rfl rfl rfl (by kernel_rfl) (fun w hst => x_field rfl Try.underlying39 rfl Try.sizeOf37 rfl) ?_
    refine wsr (r1_1) 2 rfl rfl rfl (by kernel_rfl) (fun w hst => x_load rfl Try.isAgg37 (hst.bc1 rfl)) ?_
    refine wsr (.int .i64 z1519) 3 rfl rfl rfl (by kernel_rfl) (fun w hst => rfl) ?_
    refine wsr (.pointer (some (eAddr r1_1 (z1519.toNat * 1 + 0)))) 4 rfl rfl rfl (by kernel_rfl) (fun w hst => x_index rfl rfl Try.underlying37 Try.sizeOf52 (rd_sliceV f1_1) h1531 h1532) ?_
    refine wsr (v1650) 5 rfl rfl rfl (by kernel_rfl) (fun w hst => x_load rfl Try.isAgg52 ((hc1649 (HL.le.refl _) hst) 0 _ rfl)) ?_
    refine wsr (.int .i64 z1638) 6 rfl rfl rfl (by kernel_rfl) (fun w hst => rfl) ?_
    obtain ⟨x1654, hx1655, hm⟩ := bind_some hm
    obtain ⟨h1656, h1657, hi1658⟩ := geto_some hx1655
    refine wsr (.pointer (some (eAddr v1650 (z1638.toNat * 2 + 0)))) 7 rfl rfl rfl (by kernel_rfl) (fun w hst => x_index rfl rfl Try.underlying52 Try.sizeOf54 (rd_sliceV f1651) h1656 h1657) ?_
    refine wsr (.pointer (some (eAddr v1650 (z1638.toNat * 2 + 0)))) 8 rfl rfl rfl (by kernel_rfl) (fun w hst => x_field_e rfl Try.underlying54 rfl Try.sizeOf41 rfl) ?_
    obtain ⟨cs1659, hr1660, hc1661⟩ := Rd.getF f1651 hi1658
    obtain ⟨v1662, rfl, f1663, -⟩ := hr1660
    refine wsr (.float .f64 x1654.At) 9 rfl rfl rfl (by kernel_rfl) (fun w hst => x_load rfl Try.isAgg41 ((hc1661 (HL.le.refl _) hst) 0 _ rfl)) ?_
    refine wsr (.pointer (some ⟨b1029, 4, none⟩)) 12 rfl rfl rfl (by kernel_rfl) (fun w hst => x_field rfl Try.underlying39 rfl Try.sizeOf37 rfl) ?_
    refine wsr (r1_1) 13 rfl rfl rfl (by kernel_rfl) (fun w hst => x_load rfl Try.isAgg37 (hst.bc1 rfl)) ?_
    refine wsr (.int .i64 z1519) 14 rfl rfl rfl (by kernel_rfl) (fun w hst => rfl) ?_
    refine wsr (.pointer (some (eAddr r1_1 (z1519.toNat * 1 + 0)))) 15 rfl rfl rfl (by kernel_rfl) (fun w hst => x_index rfl rfl Try.underlying37 Try.sizeOf52 (rd_sliceV f1_1) h1531 h1532) ?_
    refine wsr (v1650) 16 rfl rfl rfl (by kernel_rfl) (fun w hst => x_load rfl Try.isAgg52 ((hc1649 (HL.le.refl _) hst) 0 _ rfl)) ?_
    refine wsr (.int .i64 z1638) 17 rfl rfl rfl (by kernel_rfl) (fun w hst => rfl) ?_
    refine wsr (.pointer (some (eAddr v1650 (z1638.toNat * 2 + 0)))) 18 rfl rfl rfl (by kernel_rfl) (fun w hst => x_index rfl rfl Try.underlying52 Try.sizeOf54 (rd_sliceV f1651) h1656 h1657) ?_
    refine wsr (.pointer (some (eAddr v1650 (z1638.toNat * 2 + 1)))) 19 rfl rfl rfl (by kernel_rfl) (fun w hst => x_field_e rfl Try.underlying54 rfl Try.sizeOf22 rfl) ?_
    refine wsr (v1662) 20 rfl rfl rfl (by kernel_rfl) (fun w hst => x_load rfl Try.isAgg22 ((hc1661 (HL.le.refl _) hst) 1 _ rfl)) ?_
    refine ws_e1 10 (by kernel_rfl) ?_
    refine nxe [11, 21, 22] (by kernel_rfl) rfl rfl ?_
    clear hst
    intro w hst
    obtain ⟨t1665, ht1666, hm⟩ := bind_some hm
    refine we_call rfl (x_call Try.call48 rfl (vs := [.float .f64 x1654.At]) rfl) ?_
    refine (ref01_Rank_ref hst.to0 ht1666).mono ?_
    rintro _ w1667 ⟨rfl, hst⟩
    refine ⟨_, rfl, ?_⟩
    replace hst := hst.of0
    refine ws_next (pend' := [(20, v1662), (19, .pointer (some (eAddr v1650 (z1638.toNat * 2 + 1)))), (18, .pointer (some (eAddr v1650 (z1638.toNat * 2 + 0)))), (17, .int .i64 z1638), (16, v1650), (15, .pointer (some (eAddr r1_1 (z1519.toNat * 1 + 0)))), (14, .int .i64 z1519), (13, r1_1), (12, .pointer (some ⟨b1029, 4, none⟩)), (0, v1636)]) hst (by kernel_rfl) (pkr rfl rfl (fun w hst => x_load rfl Try.isAgg22 ((hc1661 (HL.le.refl _) hst) 1 _ rfl)) (pkr rfl rfl (fun w hst => x_field_e rfl Try.underlying54 rfl Try.sizeOf22 rfl) (pkr rfl rfl (fun w hst => x_index rfl rfl Try.underlying52 Try.sizeOf54 (rd_sliceV f1651) h1656 h1657) (pkr rfl rfl (fun w hst => rfl) (pkr rfl rfl (fun w hst => x_load rfl Try.isAgg52 ((hc1649 (HL.le.refl _) hst) 0 _ rfl)) (pkr rfl rfl (fun w hst => x_index rfl rfl Try.underlying37 Try.sizeOf52 (rd_sliceV f1_1) h1531 h1532) (pkr rfl rfl (fun w hst => rfl) (pkr rfl rfl (fun w hst => x_load rfl Try.isAgg37 (hst.bc1 rfl)) (pkr rfl rfl (fun w hst => x_field rfl Try.underlying39 rfl Try.sizeOf37 rfl) (pkr rfl rfl (fun w hst => rfl) pk_nil)))))))))) ?_
    refine ws_e1 11 (by kernel_rfl) ?_
    refine nxe [21, 22] (by kernel_rfl) rfl rfl ?_
    clear hst
    intro w hst
    obtain ⟨css1670, hq1671, hst⟩ := hst.own_open
    obtain ⟨t1672, ht1673, hm⟩ := bind_some hm
    refine we_call rfl (x_call Try.call45 rfl (vs := [v1636, .int .u64 t1665, .int .i64 (8:Int)]) rfl) ?_
    refine (ref02_Num_ref (hst.rdrow0 hq1671) hst.to0 ht1673).mono ?_
    rintro _ w1674 ⟨v1677, rfl, hst⟩
    refine ⟨_, rfl, ?_⟩
    replace hst := hst.of1
    replace hst := hst.pull1
    replace hst := hst.own_close hq1671
    refine ws_next (pend' := [(20, v1662), (19, .pointer (some (eAddr v1650 (z1638.toNat * 2 + 1)))), (18, .pointer (some (eAddr v1650 (z1638.toNat * 2 + 0)))), (17, .int .i64 z1638), (16, v1650), (15, .pointer (some (eAddr r1_1 (z1519.toNat * 1 + 0)))), (14, .int .i64 z1519), (13, r1_1), (12, .pointer (some ⟨b1029, 4, none⟩))]) hst (by kernel_rfl) (pkr rfl rfl (fun w hst => x_load rfl Try.isAgg22 ((hc1661 (HL.le.refl _) hst) 1 _ rfl)) (pkr rfl rfl (fun w hst => x_field_e rfl Try.underlying54 rfl Try.sizeOf22 rfl) (pkr rfl rfl (fun w hst => x_index rfl rfl Try.underlying52 Try.sizeOf54 (rd_sliceV f1651) h1656 h1657) (pkr rfl rfl (fun w hst => rfl) (pkr rfl rfl (fun w hst => x_load rfl Try.isAgg52 ((hc1649 (HL.le.refl _) hst) 0 _ rfl)) (pkr rfl rfl (fun w hst => x_index rfl rfl Try.underlying37 Try.sizeOf52 (rd_sliceV f1_1) h1531 h1532) (pkr rfl rfl (fun w hst => rfl) (pkr rfl rfl (fun w hst => x_load rfl Try.isAgg37 (hst.bc2 rfl)) (pkr rfl rfl (fun w hst => x_field rfl Try.underlying39 rfl Try.sizeOf37 rfl) pk_nil))))))))) ?_
    refine ws_e1 21 (by kernel_rfl) ?_
    refine nxe [22] (by kernel_rfl) rfl rfl ?_
    clear hst
    intro w hst
    replace hst := hst.pull1
    obtain ⟨css1679, hq1680, hst⟩ := hst.own_open
    obtain ⟨t1681, ht1682, hm⟩ := bind_some hm
    refine we_call rfl (x_call Try.call46 rfl (vs := [v1677, v1662]) rfl) ?_
    refine (ref02_Bytes_ref (hst.rdrow0 hq1680) (f1663.mono (rd_weak _)) hst.to0 ht1682).mono ?_
    rintro _ w1683 ⟨v1686, rfl, hst⟩
    refine ⟨_, rfl, ?_⟩
    replace hst := hst.of1
    replace hst := hst.pull1
    replace hst := hst.own_close hq1680
    refine ws_next (pend' := []) hst (by kernel_rfl) pk_nil ?_
    refine ws_e1 22 (by kernel_rfl) ?_
    refine nxe [] (by kernel_rfl) rfl rfl ?_
    clear hst
    intro w hst
    refine we_run (v := v1686) (w' := w) rfl rfl ?_
    refine ws_next (pend' := []) hst (by kernel_rfl) pk_nil ?_
    refine ws_nil ?_
    intro w hst
    refine blk_n (then_n (wp_region_lit ?_))
    refine wv (.int .i64 z1638) rfl rfl rfl ?_
    refine wv (.int .i64 (IntKind.i64.wrap (z1638 + (1:Int)))) rfl rfl rfl ?_
    refine wv (.int .i64 (IntKind.i64.wrap (z1638 + (1:Int)))) rfl rfl rfl ?_
    refine wl_nil (then_n ?_)
    replace hst := hst.pull3
    replace hst := hst.pull2
    replace hst := hst.keep2
    obtain rfl := some_inj hm
    exact ⟨_, Nat.lt_succ_self _, t1681, (IntKind.i64.wrap (z1638 + (1:Int))), v1686, _, hx1645, ((fr_upd (t := 0) (v := v1686) rfl).trans ((fr_upd (t := 3) (v := .pointer (some ⟨b1029, 0, none⟩)) rfl).trans ((fr_upd (t := 6) (v := .int .i64 z1519) rfl).trans ((fr_upd (t := 7) (v := .int .i64 (IntKind.i64.wrap (z1638 + (1:Int)))) rfl).trans rfl)))), hst⟩
   ·skip
    replace hm := bif_f hc1653 hm
    refine wp_iff (congrArg Value.bool hc1653) ?_
    refine wp_exit (then_x (then_x ?_))
    replace hm := inr_up hm hx1645
    refine blk_x (blk_n (then_n (wp_region_lit ?_)))
    refine wv (.int .i64 z1519) rfl rfl rfl ?_
    refine wv (.int .i64 (IntKind.i64.wrap (z1519 + (1:Int)))) rfl rfl rfl ?_
    refine wv (.int .i64 (IntKind.i64.wrap (z1519 + (1:Int)))) rfl rfl rfl ?_
    refine wl_nil (then_n ?_)
    replace hst := hst.pull1
    replace hst := hst.pull1
    replace hst := hst.keep2
    obtain rfl := some_inj hm
    exact ⟨_, Nat.lt_succ_self _, z1635, (IntKind.i64.wrap (z1519 + (1:Int))), v1636, _, hx1526, ((fr_upd (t := 0) (v := v1636) rfl).trans ((fr_upd (t := 3) (v := .pointer (some ⟨b1029, 0, none⟩)) rfl).trans ((fr_upd (t := 6) (v := .int .i64 (IntKind.i64.wrap (z1519 + (1:Int)))) rfl).trans rfl))), hst⟩
  ·skip
   replace hm := bif_f hc1528 hm
   refine wp_iff (congrArg Value.bool hc1528) ?_
   refine wp_exit (then_x (then_x ?_))
   replace hm := inr_up hm hx1526
   refine blk_x (then_n (wp_seq (wp_region_lit ?_)))
   refine wv (v1517) rfl rfl rfl ?_
   refine wv (v1517) rfl rfl rfl ?_
   refine wl_nil (then_n (wp_ret ?_))
   obtain rfl := some_inj hm
   refine post_ret (vs := [v1517]) Try.results17 (rvs_cons (rv_tmp rfl) rvs_nil) ?_
   exact ⟨v1517, rfl, hst.keep1⟩

theorem ref13_Rule_ref {w0 w : World} {I : HL} {R : SP} {a0 : (List Int)} {r0_0 : Value} {a1 : api_Rule} (f0_0 : Rd (tyInt .u8) R I r0_0 a0) (hst : St w0 w I [] R) {r : ((List Int))} (hm : ref13_Rule a0 a1 = some r) :
  Calls Try.prog 60 #[r0_0, .agg #[.int .u64 a1.ID, .int .i64 a1.From, .int .i64 a1.To, .float .f64 a1.Lo, .float .f64 a1.Hi, .int .u64 a1.Authority, .int .i64 a1.Quota]] w fun e w' => ∃ (q0_0 : Value), e = .returned (q0_0) ∧ St w0 w' I [ownS (tyInt .u8) q0_0 r] R := by
 unfold ref13_Rule at hm
 refine calls_start (args := [r0_0, .agg #[.int .u64 a1.ID, .int .i64 a1.From, .int .i64 a1.To, .float .f64 a1.Lo, .float .f64 a1.Hi, .int .u64 a1.Authority, .int .i64 a1.Quota]]) Try.func60 rfl Try.ntmps60 (Nat.le_of_ble_eq_true rfl) ?_
 refine wp_seq (wp_region_lit ?_)
 obtain ⟨b463, w464, ew465, eb466, hst⟩ := hst.box [.int .u64 a1.ID, .int .i64 a1.From, .int .i64 a1.To, .float .f64 a1.Lo, .float .f64 a1.Hi, .int .u64 a1.Authority, .int .i64 a1.Quota] 43
 refine wl_run (v := .pointer (some ⟨b463, 0, none⟩)) (w' := w464) rfl rfl (x_al (by kernel_rfl) ew465 eb466) ?_
 refine wv ((.slice none 0 0)) rfl rfl rfl ?_
 refine wl_nil (then_n (wp_seq (wp_region_lit ?_)))
 refine wv (r0_0) rfl rfl rfl ?_
 refine wv (.pointer (some ⟨b463, 0, none⟩)) rfl rfl (x_field rfl Try.underlying43 rfl Try.sizeOf27 rfl) ?_
 refine wv (.int .u64 a1.ID) rfl rfl (x_load rfl Try.isAgg27 (hst.bc0 rfl)) ?_
 obtain ⟨t469, ht470, hm⟩ := bind_some hm
 refine wl_call rfl rfl (x_call Try.call45 rfl (vs := [r0_0, .int .u64 a1.ID, .int .i64 (8:Int)]) rfl) ?_
 refine (ref02_Num_ref (f0_0.mono (rd_weak _)) hst.to0 ht470).mono ?_
 rintro _ w471 ⟨v474, rfl, hst⟩
 refine ⟨_, rfl, ?_⟩
 replace hst := hst.of1
 refine wv (v474) rfl rfl rfl ?_
 refine wl_nil (then_n (wp_seq ?_))
 refine wp_region_St hst 10 [0, 1, 2, 3, 4, 5, 6, 7, 8, 9] [0, 0, 2, 6, 15, 0, 32, 96, 255, 511] [9] rfl (by kernel_rfl) (by kernel_rfl) Try.mixed (by kernel_rfl) ?_
 refine wsr (v474) 0 rfl rfl rfl (by kernel_rfl) (fun w hst => rfl) ?_
 refine wsr (.pointer (some ⟨b463, 1, none⟩)) 1 rfl rfl rfl (by kernel_rfl) (fun w hst => x_field rfl Try.underlying43 rfl Try.sizeOf3 rfl) ?_
 refine wsr (.int .i64 a1.From) 2 rfl rfl rfl (by kernel_rfl) (fun w hst => x_load rfl Try.isAgg3 (hst.bc1 rfl)) ?_
 refine wsr (.int .u64 (IntKind.u64.wrap a1.From)) 3 rfl rfl rfl (by kernel_rfl) (fun w hst => by kernel_rfl) ?_
 refine wsr (.pointer (some ⟨b463, 2, none⟩)) 5 rfl rfl rfl (by kernel_rfl) (fun w hst => x_field rfl Try.underlying43 rfl Try.sizeOf3 rfl) ?_
 refine wsr (.int .i64 a1.To) 6 rfl rfl rfl (by kernel_rfl) (fun w hst => x_load rfl Try.isAgg3 (hst.bc1 rfl)) ?_
 refine wsr (.int .u64 (IntKind.u64.wrap a1.To)) 7 rfl rfl rfl (by kernel_rfl) (fun w hst => by kernel_rfl) ?_
 refine ws_e1 4 (by kernel_rfl) ?_
 refine nxe [8, 9] (by kernel_rfl) rfl rfl ?_
 clear hst
 intro w hst
 obtain ⟨css476, hq477, hst⟩ := hst.own_open
 obtain ⟨t478, ht479, hm⟩ := bind_some hm
 refine we_call rfl (x_call Try.call45 rfl (vs := [v474, .int .u64 (IntKind.u64.wrap a1.From), .int .i64 (1:Int)]) rfl) ?_
 refine (ref02_Num_ref (hst.rdrow0 hq477) hst.to0 ht479).mono ?_
 rintro _ w480 ⟨v483, rfl, hst⟩
 refine ⟨_, rfl, ?_⟩
 replace hst := hst.of1
 replace hst := hst.pull1
 replace hst := hst.own_close hq477
 refine ws_next (pend' := [(7, .int .u64 (IntKind.u64.wrap a1.To)), (6, .int .i64 a1.To), (5, .pointer (some ⟨b463, 2, none⟩))]) hst (by kernel_rfl) (pkr rfl rfl (fun w hst => by kernel_rfl) (pkr rfl rfl (fun w hst => x_load rfl Try.isAgg3 (hst.bc2 rfl)) (pkr rfl rfl (fun w hst => x_field rfl Try.underlying43 rfl Try.sizeOf3 rfl) pk_nil))) ?_
 refine ws_e1 8 (by kernel_rfl) ?_
 refine nxe [9] (by kernel_rfl) rfl rfl ?_
 clear hst
 intro w hst
 replace hst := hst.pull1
 obtain ⟨css485, hq486, hst⟩ := hst.own_open
 obtain ⟨t487, ht488, hm⟩ := bind_some hm
 refine we_call rfl (x_call Try.call45 rfl (vs := [v483, .int .u64 (IntKind.u64.wrap a1.To), .int .i64 (1:Int)]) rfl) ?_
 refine (ref02_Num_ref (hst.rdrow0 hq486) hst.to0 ht488).mono ?_
 rintro _ w489 ⟨v492, rfl, hst⟩
 refine ⟨_, rfl, ?_⟩
 replace hst := hst.of1
 replace hst := hst.pull1
 replace hst := hst.own_close hq486
 refine ws_next (pend' := []) hst (by kernel_rfl) pk_nil ?_
 refine ws_e1 9 (by kernel_rfl) ?_
 refine nxe [] (by kernel_rfl) rfl rfl ?_
 clear hst
 intro w hst
 refine we_run (v := v492) (w' := w) rfl rfl ?_
 refine ws_next (pend' := []) hst (by kernel_rfl) pk_nil ?_
 refine ws_nil ?_
 intro w hst
 refine then_n (wp_seq ?_)
 refine wp_region_St hst 10 [0, 1, 2, 3, 4, 5, 6, 7, 8, 9] [0, 0, 2, 6, 15, 0, 32, 127, 255, 511] [9] rfl (by kernel_rfl) (by kernel_rfl) Try.mixed (by kernel_rfl) ?_
 refine wsr (v492) 0 rfl rfl rfl (by kernel_rfl) (fun w hst => rfl) ?_
 refine wsr (.pointer (some ⟨b463, 3, none⟩)) 1 rfl rfl rfl (by kernel_rfl) (fun w hst => x_field rfl Try.underlying43 rfl Try.sizeOf41 rfl) ?_
 refine wsr (.float .f64 a1.Lo) 2 rfl rfl rfl (by kernel_rfl) (fun w hst => x_load rfl Try.isAgg41 (hst.bc3 rfl)) ?_
 refine wsr (.pointer (some ⟨b463, 4, none⟩)) 5 rfl rfl rfl (by kernel_rfl) (fun w hst => x_field rfl Try.underlying43 rfl Try.sizeOf41 rfl) ?_
 refine wsr (.float .f64 a1.Hi) 6 rfl rfl rfl (by kernel_rfl) (fun w hst => x_load rfl Try.isAgg41 (hst.bc3 rfl)) ?_
 refine ws_e1 3 (by kernel_rfl) ?_
 refine nxe [4, 7, 8, 9] (by kernel_rfl) rfl rfl ?_
 clear hst
 intro w hst
 obtain ⟨t494, ht495, hm⟩ := bind_some hm
 refine we_call rfl (x_call Try.call48 rfl (vs := [.float .f64 a1.Lo]) rfl) ?_
 refine (ref01_Rank_ref hst.to0 ht495).mono ?_
 rintro _ w496 ⟨rfl, hst⟩
 refine ⟨_, rfl, ?_⟩
 replace hst := hst.of0
 refine ws_next (pend' := [(6, .float .f64 a1.Hi), (5, .pointer (some ⟨b463, 4, none⟩)), (0, v492)]) hst (by kernel_rfl) (pkr rfl rfl (fun w hst => x_load rfl Try.isAgg41 (hst.bc3 rfl)) (pkr rfl rfl (fun w hst => x_field rfl Try.underlying43 rfl Try.sizeOf41 rfl) (pkr rfl rfl (fun w hst => rfl) pk_nil))) ?_
 refine ws_e1 4 (by kernel_rfl) ?_
 refine nxe [7, 8, 9] (by kernel_rfl) rfl rfl ?_
 clear hst
 intro w hst
 replace hst := hst.pull1
 obtain ⟨css499, hq500, hst⟩ := hst.own_open
 obtain ⟨t501, ht502, hm⟩ := bind_some hm
 refine we_call rfl (x_call Try.call45 rfl (vs := [v492, .int .u64 t494, .int .i64 (8:Int)]) rfl) ?_
 refine (ref02_Num_ref (hst.rdrow0 hq500) hst.to0 ht502).mono ?_
 rintro _ w503 ⟨v506, rfl, hst⟩
 refine ⟨_, rfl, ?_⟩
 replace hst := hst.of1
 replace hst := hst.pull1
 replace hst := hst.own_close hq500
 refine ws_next (pend' := [(6, .float .f64 a1.Hi), (5, .pointer (some ⟨b463, 4, none⟩))]) hst (by kernel_rfl) (pkr rfl rfl (fun w hst => x_load rfl Try.isAgg41 (hst.bc4 rfl)) (pkr rfl rfl (fun w hst => x_field rfl Try.underlying43 rfl Try.sizeOf41 rfl) pk_nil)) ?_
 refine ws_e1 7 (by kernel_rfl) ?_
 refine nxe [8, 9] (by kernel_rfl) rfl rfl ?_
 clear hst
 intro w hst
 obtain ⟨t508, ht509, hm⟩ := bind_some hm
 refine we_call rfl (x_call Try.call48 rfl (vs := [.float .f64 a1.Hi]) rfl) ?_
 refine (ref01_Rank_ref hst.to0 ht509).mono ?_
 rintro _ w510 ⟨rfl, hst⟩
 refine ⟨_, rfl, ?_⟩
 replace hst := hst.of0
 refine ws_next (pend' := []) hst (by kernel_rfl) pk_nil ?_
 refine ws_e1 8 (by kernel_rfl) ?_
 refine nxe [9] (by kernel_rfl) rfl rfl ?_
 clear hst
 intro w hst
 replace hst := hst.pull1
 obtain ⟨css513, hq514, hst⟩ := hst.own_open
 obtain ⟨t515, ht516, hm⟩ := bind_some hm
 refine we_call rfl (x_call Try.call45 rfl (vs := [v506, .int .u64 t508, .int .i64 (8:Int)]) rfl) ?_
 refine (ref02_Num_ref (hst.rdrow0 hq514) hst.to0 ht516).mono ?_
 rintro _ w517 ⟨v520, rfl, hst⟩
 refine ⟨_, rfl, ?_⟩
 replace hst := hst.of1
 replace hst := hst.pull1
 replace hst := hst.own_close hq514
 refine ws_next (pend' := []) hst (by kernel_rfl) pk_nil ?_
 refine ws_e1 9 (by kernel_rfl) ?_
 refine nxe [] (by kernel_rfl) rfl rfl ?_
 clear hst
 intro w hst
 refine we_run (v := v520) (w' := w) rfl rfl ?_
 refine ws_next (pend' := []) hst (by kernel_rfl) pk_nil ?_
 refine ws_nil ?_
 intro w hst
 refine then_n (wp_seq ?_)
 refine wp_region_St hst 9 [0, 1, 2, 3, 4, 5, 6, 7, 8] [0, 0, 2, 7, 0, 16, 48, 127, 255] [] rfl (by kernel_rfl) (by kernel_rfl) Try.mixed (by kernel_rfl) ?_
 refine wsr (v520) 0 rfl rfl rfl (by kernel_rfl) (fun w hst => rfl) ?_
 refine wsr (.pointer (some ⟨b463, 5, none⟩)) 1 rfl rfl rfl (by kernel_rfl) (fun w hst => x_field rfl Try.underlying43 rfl Try.sizeOf27 rfl) ?_
 refine wsr (.int .u64 a1.Authority) 2 rfl rfl rfl (by kernel_rfl) (fun w hst => x_load rfl Try.isAgg27 (hst.bc5 rfl)) ?_
 refine wsr (.pointer (some ⟨b463, 6, none⟩)) 4 rfl rfl rfl (by kernel_rfl) (fun w hst => x_field rfl Try.underlying43 rfl Try.sizeOf3 rfl) ?_
 refine wsr (.int .i64 a1.Quota) 5 rfl rfl rfl (by kernel_rfl) (fun w hst => x_load rfl Try.isAgg3 (hst.bc5 rfl)) ?_
 refine wsr (.int .u64 (IntKind.u64.wrap a1.Quota)) 6 rfl rfl rfl (by kernel_rfl) (fun w hst => by kernel_rfl) ?_
 refine ws_e1 3 (by kernel_rfl) ?_
 refine nxe [7, 8] (by kernel_rfl) rfl rfl ?_
 clear hst
 intro w hst
 replace hst := hst.pull1
 obtain ⟨css522, hq523, hst⟩ := hst.own_open
 obtain ⟨t524, ht525, hm⟩ := bind_some hm
 refine we_call rfl (x_call Try.call45 rfl (vs := [v520, .int .u64 a1.Authority, .int .i64 (8:Int)]) rfl) ?_
 refine (ref02_Num_ref (hst.rdrow0 hq523) hst.to0 ht525).mono ?_
 rintro _ w526 ⟨v529, rfl, hst⟩
 refine ⟨_, rfl, ?_⟩
 replace hst := hst.of1
 replace hst := hst.pull1
 replace hst := hst.own_close hq523
 refine ws_next (pend' := [(6, .int .u64 (IntKind.u64.wrap a1.Quota)), (5, .int .i64 a1.Quota), (4, .pointer (some ⟨b463, 6, none⟩))]) hst (by kernel_rfl) (pkr rfl rfl (fun w hst => by kernel_rfl) (pkr rfl rfl (fun w hst => x_load rfl Try.isAgg3 (hst.bc6 rfl)) (pkr rfl rfl (fun w hst => x_field rfl Try.underlying43 rfl Try.sizeOf3 rfl) pk_nil))) ?_
 refine ws_e1 7 (by kernel_rfl) ?_
 refine nxe [8] (by kernel_rfl) rfl rfl ?_
 clear hst
 intro w hst
 replace hst := hst.pull1
 obtain ⟨css531, hq532, hst⟩ := hst.own_open
 obtain ⟨t533, ht534, hm⟩ := bind_some hm
 refine we_call rfl (x_call Try.call45 rfl (vs := [v529, .int .u64 (IntKind.u64.wrap a1.Quota), .int .i64 (4:Int)]) rfl) ?_
 refine (ref02_Num_ref (hst.rdrow0 hq532) hst.to0 ht534).mono ?_
 rintro _ w535 ⟨v538, rfl, hst⟩
 refine ⟨_, rfl, ?_⟩
 replace hst := hst.of1
 replace hst := hst.pull1
 replace hst := hst.own_close hq532
 refine ws_next (pend' := []) hst (by kernel_rfl) pk_nil ?_
 refine wsr (v538) 8 rfl rfl rfl (by kernel_rfl) (fun w hst => rfl) ?_
 refine ws_nil ?_
 intro w hst
 refine then_n (wp_ret ?_)
 obtain rfl := some_inj hm
 refine post_ret (vs := [v538]) Try.results60 (rvs_cons (rv_tmp rfl) rvs_nil) ?_
 replace hst := hst.pull1
 exact ⟨v538, rfl, hst.keep1⟩

theorem ref13_Command_ref {w0 w : World} {I : HL} {R : SP} {a0 : api_Command} {r0_0 : Value} {r0_1 : Value} {r0_2 : Value} {r0_3 : Value} {r0_4 : Value} {r0_5 : Value} {r0_6 : Value} {r0_7 : Value} (f0_0 : Rd tyF64 R I r0_0 a0.Hold.Gets) (f0_1 : Rd tyF2 R I r0_1 a0.Hold.Scans) (f0_2 : Rd tyF64 R I r0_2 a0.Hold.Puts) (f0_3 : Rd (tyInt .u8) R I r0_3 a0.Hold.Data) (f0_4 : Rd ty_api_Write R I r0_4 a0.Writes) (f0_5 : Rd ty_api_Got R I r0_5 a0.R.Gots) (f0_6 : Rd (tySl ty_api_Pair) R I r0_6 a0.R.Scans) (f0_7 : Rd ty_api_Part R I r0_7 a0.Parts) (hst : St w0 w I [] R) {r : ((List Int))} (hm : ref13_Command a0 = some r) :
  Calls Try.prog 21 #[.agg #[.int .u8 a0.Kind, .int .u64 a0.ID.Session, .int .u64 a0.ID.Seq, .int .u64 a0.Epoch, .int .u64 a0.Index, .int .i64 a0.E, .int .u64 a0.Hold.ID.Session, .int .u64 a0.Hold.ID.Seq, .int .u64 a0.Hold.Epoch, r0_0, r0_1, r0_2, r0_3, r0_4, .int .i64 a0.R.E, .int .u64 a0.R.Epoch, .int .u64 a0.R.Index, r0_5, r0_6, .int .u64 a0.Shards, r0_7, .int .u64 a0.Rule.ID, .int .i64 a0.Rule.From, .int .i64 a0.Rule.To, .float .f64 a0.Rule.Lo, .float .f64 a0.Rule.Hi, .int .u64 a0.Rule.Authority, .int .i64 a0.Rule.Quota, .bool a0.On]] w fun e w' => ∃ (q0_0 : Value), e = .returned (q0_0) ∧ St w0 w' I [ownS (tyInt .u8) q0_0 r] R := by
 unfold ref13_Command at hm
 refine calls_start (args := [.agg #[.int .u8 a0.Kind, .int .u64 a0.ID.Session, .int .u64 a0.ID.Seq, .int .u64 a0.Epoch, .int .u64 a0.Index, .int .i64 a0.E, .int .u64 a0.Hold.ID.Session, .int .u64 a0.Hold.ID.Seq, .int .u64 a0.Hold.Epoch, r0_0, r0_1, r0_2, r0_3, r0_4, .int .i64 a0.R.E, .int .u64 a0.R.Epoch, .int .u64 a0.R.Index, r0_5, r0_6, .int .u64 a0.Shards, r0_7, .int .u64 a0.Rule.ID, .int .i64 a0.Rule.From, .int .i64 a0.Rule.To, .float .f64 a0.Rule.Lo, .float .f64 a0.Rule.Hi, .int .u64 a0.Rule.Authority, .int .i64 a0.Rule.Quota, .bool a0.On]]) Try.func21 rfl Try.ntmps21 (Nat.le_of_ble_eq_true rfl) ?_
 refine wp_seq (wp_region_lit ?_)
 obtain ⟨b456, w457, ew458, eb459, hst⟩ := hst.box [.int .u8 a0.Kind, .int .u64 a0.ID.Session, .int .u64 a0.ID.Seq, .int .u64 a0.Epoch, .int .u64 a0.Index, .int .i64 a0.E, .int .u64 a0.Hold.ID.Session, .int .u64 a0.Hold.ID.Seq, .int .u64 a0.Hold.Epoch, r0_0, r0_1, r0_2, r0_3, r0_4, .int .i64 a0.R.E, .int .u64 a0.R.Epoch, .int .u64 a0.R.Index, r0_5, r0_6, .int .u64 a0.Shards, r0_7, .int .u64 a0.Rule.ID, .int .i64 a0.Rule.From, .int .i64 a0.Rule.To, .float .f64 a0.Rule.Lo, .float .f64 a0.Rule.Hi, .int .u64 a0.Rule.Authority, .int .i64 a0.Rule.Quota, .bool a0.On] 45
 refine wl_run (v := .pointer (some ⟨b456, 0, none⟩)) (w' := w457) rfl rfl (x_al (by kernel_rfl) ew458 eb459) ?_
 refine wv ((.slice none 0 0)) rfl rfl rfl ?_
 refine wl_nil (then_n (wp_seq (wp_region_lit ?_)))
 refine wv (.pointer (some ⟨b456, 0, none⟩)) rfl rfl (x_field rfl Try.underlying45 rfl Try.sizeOf5 rfl) ?_
 refine wv (.int .u8 a0.Kind) rfl rfl (x_load rfl Try.isAgg5 (hst.bc0 rfl)) ?_
 refine wv (.int .u64 (IntKind.u64.wrap a0.Kind)) rfl rfl (by kernel_rfl) ?_
 have f463 : Ro (tyInt .u8) I (.slice none 0 0) [] := ro_nil
 obtain ⟨t464, ht465, hm⟩ := bind_some hm
 refine wl_call rfl rfl (x_call Try.call45 rfl (vs := [(.slice none 0 0), .int .u64 (IntKind.u64.wrap a0.Kind), .int .i64 (1:Int)]) rfl) ?_
 refine (ref02_Num_ref (f463.mono ro_rd) hst.to0 ht465).mono ?_
 rintro _ w466 ⟨v469, rfl, hst⟩
 refine ⟨_, rfl, ?_⟩
 replace hst := hst.of1
 refine wv (v469) rfl rfl rfl ?_
 refine wl_nil (then_n (wp_seq (wp_seq (wp_region_lit ?_))))
 refine wv (.pointer (some ⟨b456, 0, none⟩)) rfl rfl (x_field rfl Try.underlying45 rfl Try.sizeOf5 rfl) ?_
 refine wv (.int .u8 a0.Kind) rfl rfl (x_load rfl Try.isAgg5 (hst.bc1 rfl)) ?_
 refine wl_nil (then_n (wp_block (wp_seq (wp_region_lit ?_))))
 refine wv (.bool (a0.Kind == (1:Int))) rfl rfl rfl ?_
 refine wv (.bool (a0.Kind == (1:Int))) rfl rfl rfl ?_
 refine wl_nil (then_n ?_)
 refine bsplit (a0.Kind == (1:Int)) (fun hc471 => ?_) (fun hc471 => ?_)
 ·skip
  replace hm := bif_t hc471 hm
  refine wp_ift (congrArg Value.bool hc471) ?_
  refine wp_seq (wp_region_lit ?_)
  refine wv (v469) rfl rfl rfl ?_
  refine wv (.pointer (some ⟨b456, 3, none⟩)) rfl rfl (x_field rfl Try.underlying45 rfl Try.sizeOf27 rfl) ?_
  refine wv (.int .u64 a0.Epoch) rfl rfl (x_load rfl Try.isAgg27 (hst.bc1 rfl)) ?_
  obtain ⟨css472, hq473, hst⟩ := hst.own_open
  obtain ⟨t474, ht475, hm⟩ := bind_some hm
  refine wl_call rfl rfl (x_call Try.call45 rfl (vs := [v469, .int .u64 a0.Epoch, .int .i64 (8:Int)]) rfl) ?_
  refine (ref02_Num_ref (hst.rdrow0 hq473) hst.to0 ht475).mono ?_
  rintro _ w476 ⟨v479, rfl, hst⟩
  refine ⟨_, rfl, ?_⟩
  replace hst := hst.of1
  replace hst := hst.pull1
  replace hst := hst.own_close hq473
  refine wv (v479) rfl rfl rfl ?_
  refine wl_nil (then_n (wp_ret (blk_r (then_r ?_))))
  obtain rfl := some_inj hm
  refine post_ret (vs := [v479]) Try.results21 (rvs_cons (rv_tmp rfl) rvs_nil) ?_
  replace hst := hst.pull1
  exact ⟨v479, rfl, hst.keep1⟩
 ·skip
  replace hm := bif_f hc471 hm
  refine wp_iff (congrArg Value.bool hc471) ?_
  refine wp_seq (wp_region_lit ?_)
  refine wv (.bool (a0.Kind == (2:Int))) rfl rfl rfl ?_
  refine wv (.bool (a0.Kind == (2:Int))) rfl rfl rfl ?_
  refine wl_nil (then_n ?_)
  refine bsplit (a0.Kind == (2:Int)) (fun hc481 => ?_) (fun hc481 => ?_)
  ·skip
   replace hm := bif_t hc481 hm
   refine wp_ift (congrArg Value.bool hc481) ?_
   refine wp_seq (wp_region_lit ?_)
   refine wv (v469) rfl rfl rfl ?_
   refine wv (.pointer (some ⟨b456, 6, none⟩)) rfl rfl (x_field rfl Try.underlying45 rfl Try.sizeOf34 rfl) ?_
   refine wv (.agg #[.int .u64 a0.Hold.ID.Session, .int .u64 a0.Hold.ID.Seq, .int .u64 a0.Hold.Epoch, r0_0, r0_1, r0_2, r0_3]) rfl rfl (x_loadN (cs := [.int .u64 a0.Hold.ID.Session, .int .u64 a0.Hold.ID.Seq, .int .u64 a0.Hold.Epoch, r0_0, r0_1, r0_2, r0_3]) rfl Try.isAgg34 Try.sizeOf34 (hst.bcs1 6 rfl)) ?_
   obtain ⟨css482, hq483, hst⟩ := hst.own_open
   obtain ⟨t484, ht485, hm⟩ := bind_some hm
   refine wl_call rfl rfl (x_call Try.call57 rfl (vs := [v469, .agg #[.int .u64 a0.Hold.ID.Session, .int .u64 a0.Hold.ID.Seq, .int .u64 a0.Hold.Epoch, r0_0, r0_1, r0_2, r0_3]]) rfl) ?_
   refine (ref12_Hold_ref (hst.rdrow0 hq483) (f0_0.mono (rd_weak _)) (f0_1.mono (rd_weak _)) (f0_2.mono (rd_weak _)) (f0_3.mono (rd_weak _)) hst.to0 ht485).mono ?_
   rintro _ w486 ⟨v489, rfl, hst⟩
   refine ⟨_, rfl, ?_⟩
   replace hst := hst.of1
   replace hst := hst.pull1
   replace hst := hst.own_close hq483
   refine wv (v489) rfl rfl rfl ?_
   refine wl_nil (then_n (wp_ret (blk_r (then_r ?_))))
   obtain rfl := some_inj hm
   refine post_ret (vs := [v489]) Try.results21 (rvs_cons (rv_tmp rfl) rvs_nil) ?_
   replace hst := hst.pull1
   exact ⟨v489, rfl, hst.keep1⟩
  ·skip
   replace hm := bif_f hc481 hm
   refine wp_iff (congrArg Value.bool hc481) ?_
   refine wp_seq (wp_region_lit ?_)
   refine wv (.bool (a0.Kind == (3:Int))) rfl rfl rfl ?_
   refine wv (.bool (a0.Kind == (3:Int))) rfl rfl rfl ?_
   refine wl_nil (then_n ?_)
   refine bsplit (a0.Kind == (3:Int)) (fun hc491 => ?_) (fun hc491 => ?_)
   ·skip
    replace hm := bif_t hc491 hm
    refine wp_ift (congrArg Value.bool hc491) ?_
    refine wp_seq ?_
    refine wp_region_St hst 9 [0, 1, 2, 3, 4, 5, 6, 7, 8] [0, 0, 2, 7, 0, 16, 48, 127, 255] [8] rfl (by kernel_rfl) (by kernel_rfl) Try.mixed (by kernel_rfl) ?_
    refine wsr (v469) 0 rfl rfl rfl (by kernel_rfl) (fun w hst => rfl) ?_
    refine wsr (.pointer (some ⟨b456, 1, none⟩)) 1 rfl rfl rfl (by kernel_rfl) (fun w hst => x_field rfl Try.underlying45 rfl Try.sizeOf29 rfl) ?_
    refine wsr (.agg #[.int .u64 a0.ID.Session, .int .u64 a0.ID.Seq]) 2 rfl rfl rfl (by kernel_rfl) (fun w hst => x_loadN (cs := [.int .u64 a0.ID.Session, .int .u64 a0.ID.Seq]) rfl Try.isAgg29 Try.sizeOf29 (hst.bcs1 1 rfl)) ?_
    refine wsr (.pointer (some ⟨b456, 5, none⟩)) 4 rfl rfl rfl (by kernel_rfl) (fun w hst => x_field rfl Try.underlying45 rfl Try.sizeOf30 rfl) ?_
    refine wsr (.int .i64 a0.E) 5 rfl rfl rfl (by kernel_rfl) (fun w hst => x_load rfl Try.isAgg30 (hst.bc1 rfl)) ?_
    refine wsr (.int .u64 (IntKind.u64.wrap a0.E)) 6 rfl rfl rfl (by kernel_rfl) (fun w hst => by kernel_rfl) ?_
    refine ws_e1 3 (by kernel_rfl) ?_
    refine nxe [7, 8] (by kernel_rfl) rfl rfl ?_
    clear hst
    intro w hst
    obtain ⟨css492, hq493, hst⟩ := hst.own_open
    obtain ⟨t494, ht495, hm⟩ := bind_some hm
    refine we_call rfl (x_call Try.call58 rfl (vs := [v469, .agg #[.int .u64 a0.ID.Session, .int .u64 a0.ID.Seq]]) rfl) ?_
    refine (ref12_ID_ref (hst.rdrow0 hq493) hst.to0 ht495).mono ?_
    rintro _ w496 ⟨v499, rfl, hst⟩
    refine ⟨_, rfl, ?_⟩
    replace hst := hst.of1
    replace hst := hst.pull1
    replace hst := hst.own_close hq493
    refine ws_next (pend' := [(6, .int .u64 (IntKind.u64.wrap a0.E)), (5, .int .i64 a0.E), (4, .pointer (some ⟨b456, 5, none⟩))]) hst (by kernel_rfl) (pkr rfl rfl (fun w hst => by kernel_rfl) (pkr rfl rfl (fun w hst => x_load rfl Try.isAgg30 (hst.bc2 rfl)) (pkr rfl rfl (fun w hst => x_field rfl Try.underlying45 rfl Try.sizeOf30 rfl) pk_nil))) ?_
    refine ws_e1 7 (by kernel_rfl) ?_
    refine nxe [8] (by kernel_rfl) rfl rfl ?_
    clear hst
    intro w hst
    replace hst := hst.pull1
    obtain ⟨css501, hq502, hst⟩ := hst.own_open
    obtain ⟨t503, ht504, hm⟩ := bind_some hm
    refine we_call rfl (x_call Try.call45 rfl (vs := [v499, .int .u64 (IntKind.u64.wrap a0.E), .int .i64 (1:Int)]) rfl) ?_
    refine (ref02_Num_ref (hst.rdrow0 hq502) hst.to0 ht504).mono ?_
    rintro _ w505 ⟨v508, rfl, hst⟩
    refine ⟨_, rfl, ?_⟩
    replace hst := hst.of1
    replace hst := hst.pull1
    replace hst := hst.own_close hq502
    refine ws_next (pend' := []) hst (by kernel_rfl) pk_nil ?_
    refine ws_e1 8 (by kernel_rfl) ?_
    refine nxe [] (by kernel_rfl) rfl rfl ?_
    clear hst
    intro w hst
    refine we_run (v := v508) (w' := w) rfl rfl ?_
    refine ws_next (pend' := []) hst (by kernel_rfl) pk_nil ?_
    refine ws_nil ?_
    intro w hst
    refine then_n (wp_seq ?_)
    refine wp_region_St hst 11 [0, 1, 2, 3, 4, 5, 6, 7, 8, 9, 10] [0, 0, 2, 7, 0, 16, 63, 0, 128, 511, 1023] [] rfl (by kernel_rfl) (by kernel_rfl) Try.mixed (by kernel_rfl) ?_
    refine wsr (v508) 0 rfl rfl rfl (by kernel_rfl) (fun w hst => rfl) ?_
    refine wsr (.pointer (some ⟨b456, 3, none⟩)) 1 rfl rfl rfl (by kernel_rfl) (fun w hst => x_field rfl Try.underlying45 rfl Try.sizeOf27 rfl) ?_
    refine wsr (.int .u64 a0.Epoch) 2 rfl rfl rfl (by kernel_rfl) (fun w hst => x_load rfl Try.isAgg27 (hst.bc3 rfl)) ?_
    refine wsr (.pointer (some ⟨b456, 4, none⟩)) 4 rfl rfl rfl (by kernel_rfl) (fun w hst => x_field rfl Try.underlying45 rfl Try.sizeOf27 rfl) ?_
    refine wsr (.int .u64 a0.Index) 5 rfl rfl rfl (by kernel_rfl) (fun w hst => x_load rfl Try.isAgg27 (hst.bc3 rfl)) ?_
    refine wsr (.pointer (some ⟨b456, 13, none⟩)) 7 rfl rfl rfl (by kernel_rfl) (fun w hst => x_field rfl Try.underlying45 rfl Try.sizeOf35 rfl) ?_
    refine wsr (r0_4) 8 rfl rfl rfl (by kernel_rfl) (fun w hst => x_load rfl Try.isAgg35 (hst.bc3 rfl)) ?_
    refine ws_e1 3 (by kernel_rfl) ?_
    refine nxe [6, 9, 10] (by kernel_rfl) rfl rfl ?_
    clear hst
    intro w hst
    replace hst := hst.pull1
    obtain ⟨css510, hq511, hst⟩ := hst.own_open
    obtain ⟨t512, ht513, hm⟩ := bind_some hm
    refine we_call rfl (x_call Try.call45 rfl (vs := [v508, .int .u64 a0.Epoch, .int .i64 (8:Int)]) rfl) ?_
    refine (ref02_Num_ref (hst.rdrow0 hq511) hst.to0 ht513).mono ?_
    rintro _ w514 ⟨v517, rfl, hst⟩
    refine ⟨_, rfl, ?_⟩
    replace hst := hst.of1
    replace hst := hst.pull1
    replace hst := hst.own_close hq511
    refine ws_next (pend' := [(8, r0_4), (7, .pointer (some ⟨b456, 13, none⟩)), (5, .int .u64 a0.Index), (4, .pointer (some ⟨b456, 4, none⟩))]) hst (by kernel_rfl) (pkr rfl rfl (fun w hst => x_load rfl Try.isAgg35 (hst.bc4 rfl)) (pkr rfl rfl (fun w hst => x_field rfl Try.underlying45 rfl Try.sizeOf35 rfl) (pkr rfl rfl (fun w hst => x_load rfl Try.isAgg27 (hst.bc4 rfl)) (pkr rfl rfl (fun w hst => x_field rfl Try.underlying45 rfl Try.sizeOf27 rfl) pk_nil)))) ?_
    refine ws_e1 6 (by kernel_rfl) ?_
    refine nxe [9, 10] (by kernel_rfl) rfl rfl ?_
    clear hst
    intro w hst
    replace hst := hst.pull1
    obtain ⟨css519, hq520, hst⟩ := hst.own_open
    obtain ⟨t521, ht522, hm⟩ := bind_some hm
    refine we_call rfl (x_call Try.call45 rfl (vs := [v517, .int .u64 a0.Index, .int .i64 (8:Int)]) rfl) ?_
    refine (ref02_Num_ref (hst.rdrow0 hq520) hst.to0 ht522).mono ?_
    rintro _ w523 ⟨v526, rfl, hst⟩
    refine ⟨_, rfl, ?_⟩
    replace hst := hst.of1
    replace hst := hst.pull1
    replace hst := hst.own_close hq520
    refine ws_next (pend' := [(8, r0_4), (7, .pointer (some ⟨b456, 13, none⟩))]) hst (by kernel_rfl) (pkr rfl rfl (fun w hst => x_load rfl Try.isAgg35 (hst.bc5 rfl)) (pkr rfl rfl (fun w hst => x_field rfl Try.underlying45 rfl Try.sizeOf35 rfl) pk_nil)) ?_
    refine ws_e1 9 (by kernel_rfl) ?_
    refine nxe [10] (by kernel_rfl) rfl rfl ?_
    clear hst
    intro w hst
    replace hst := hst.pull1
    obtain ⟨css528, hq529, hst⟩ := hst.own_open
    obtain ⟨t530, ht531, hm⟩ := bind_some hm
    refine we_call rfl (x_call Try.call59 rfl (vs := [v526, r0_4]) rfl) ?_
    refine (ref13_Writes_ref (hst.rdrow0 hq529) (f0_4.mono (rd_weak _)) hst.to0 ht531).mono ?_
    rintro _ w532 ⟨v535, rfl, hst⟩
    refine ⟨_, rfl, ?_⟩
    replace hst := hst.of1
    replace hst := hst.pull1
    replace hst := hst.own_close hq529
    refine ws_next (pend' := []) hst (by kernel_rfl) pk_nil ?_
    refine wsr (v535) 10 rfl rfl rfl (by kernel_rfl) (fun w hst => rfl) ?_
    refine ws_nil ?_
    intro w hst
    refine then_n (wp_ret (blk_r (then_r ?_)))
    obtain rfl := some_inj hm
    refine post_ret (vs := [v535]) Try.results21 (rvs_cons (rv_tmp rfl) rvs_nil) ?_
    replace hst := hst.pull1
    exact ⟨v535, rfl, hst.keep1⟩
   ·skip
    replace hm := bif_f hc491 hm
    refine wp_iff (congrArg Value.bool hc491) ?_
    refine wp_seq (wp_region_lit ?_)
    refine wv (.bool (a0.Kind == (4:Int))) rfl rfl rfl ?_
    refine wv (.bool (a0.Kind == (4:Int))) rfl rfl rfl ?_
    refine wl_nil (then_n ?_)
    refine bsplit (a0.Kind == (4:Int)) (fun hc537 => ?_) (fun hc537 => ?_)
    ·skip
     replace hm := bif_t hc537 hm
     refine wp_ift (congrArg Value.bool hc537) ?_
     refine wp_seq ?_
     refine wp_region_St hst 8 [0, 1, 2, 3, 4, 5, 6, 7] [0, 0, 2, 7, 0, 16, 63, 127] [7] rfl (by kernel_rfl) (by kernel_rfl) Try.mixed (by kernel_rfl) ?_
     refine wsr (v469) 0 rfl rfl rfl (by kernel_rfl) (fun w hst => rfl) ?_
     refine wsr (.pointer (some ⟨b456, 1, none⟩)) 1 rfl rfl rfl (by kernel_rfl) (fun w hst => x_field rfl Try.underlying45 rfl Try.sizeOf29 rfl) ?_
     refine wsr (.agg #[.int .u64 a0.ID.Session, .int .u64 a0.ID.Seq]) 2 rfl rfl rfl (by kernel_rfl) (fun w hst => x_loadN (cs := [.int .u64 a0.ID.Session, .int .u64 a0.ID.Seq]) rfl Try.isAgg29 Try.sizeOf29 (hst.bcs1 1 rfl)) ?_
     refine wsr (.pointer (some ⟨b456, 3, none⟩)) 4 rfl rfl rfl (by kernel_rfl) (fun w hst => x_field rfl Try.underlying45 rfl Try.sizeOf27 rfl) ?_
     refine wsr (.int .u64 a0.Epoch) 5 rfl rfl rfl (by kernel_rfl) (fun w hst => x_load rfl Try.isAgg27 (hst.bc1 rfl)) ?_
     refine ws_e1 3 (by kernel_rfl) ?_
     refine nxe [6, 7] (by kernel_rfl) rfl rfl ?_
     clear hst
     intro w hst
     obtain ⟨css538, hq539, hst⟩ := hst.own_open
     obtain ⟨t540, ht541, hm⟩ := bind_some hm
     refine we_call rfl (x_call Try.call58 rfl (vs := [v469, .agg #[.int .u64 a0.ID.Session, .int .u64 a0.ID.Seq]]) rfl) ?_
     refine (ref12_ID_ref (hst.rdrow0 hq539) hst.to0 ht541).mono ?_
     rintro _ w542 ⟨v545, rfl, hst⟩
     refine ⟨_, rfl, ?_⟩
     replace hst := hst.of1
     replace hst := hst.pull1
     replace hst := hst.own_close hq539
     refine ws_next (pend' := [(5, .int .u64 a0.Epoch), (4, .pointer (some ⟨b456, 3, none⟩))]) hst (by kernel_rfl) (pkr rfl rfl (fun w hst => x_load rfl Try.isAgg27 (hst.bc2 rfl)) (pkr rfl rfl (fun w hst => x_field rfl Try.underlying45 rfl Try.sizeOf27 rfl) pk_nil)) ?_
     refine ws_e1 6 (by kernel_rfl) ?_
     refine nxe [7] (by kernel_rfl) rfl rfl ?_
     clear hst
     intro w hst
     replace hst := hst.pull1
     obtain ⟨css547, hq548, hst⟩ := hst.own_open
     obtain ⟨t549, ht550, hm⟩ := bind_some hm
     refine we_call rfl (x_call Try.call45 rfl (vs := [v545, .int .u64 a0.Epoch, .int .i64 (8:Int)]) rfl) ?_
     refine (ref02_Num_ref (hst.rdrow0 hq548) hst.to0 ht550).mono ?_
     rintro _ w551 ⟨v554, rfl, hst⟩
     refine ⟨_, rfl, ?_⟩
     replace hst := hst.of1
     replace hst := hst.pull1
     replace hst := hst.own_close hq548
     refine ws_next (pend' := []) hst (by kernel_rfl) pk_nil ?_
     refine ws_e1 7 (by kernel_rfl) ?_
     refine nxe [] (by kernel_rfl) rfl rfl ?_
     clear hst
     intro w hst
     refine we_run (v := v554) (w' := w) rfl rfl ?_
     refine ws_next (pend' := []) hst (by kernel_rfl) pk_nil ?_
     refine ws_nil ?_
     intro w hst
     refine then_n (wp_seq ?_)
     refine wp_region_St hst 10 [0, 1, 2, 3, 4, 5, 6, 7, 8, 9] [0, 0, 2, 7, 0, 16, 48, 112, 255, 511] [9] rfl (by kernel_rfl) (by kernel_rfl) Try.mixed (by kernel_rfl) ?_
     refine wsr (v554) 0 rfl rfl rfl (by kernel_rfl) (fun w hst => rfl) ?_
     refine wsr (.pointer (some ⟨b456, 19, none⟩)) 1 rfl rfl rfl (by kernel_rfl) (fun w hst => x_field rfl Try.underlying45 rfl Try.sizeOf27 rfl) ?_
     refine wsr (.int .u64 a0.Shards) 2 rfl rfl rfl (by kernel_rfl) (fun w hst => x_load rfl Try.isAgg27 (hst.bc3 rfl)) ?_
     refine wsr (.pointer (some ⟨b456, 20, none⟩)) 4 rfl rfl rfl (by kernel_rfl) (fun w hst => x_field rfl Try.underlying45 rfl Try.sizeOf40 rfl) ?_
     refine wsr (r0_7) 5 rfl rfl rfl (by kernel_rfl) (fun w hst => x_load rfl Try.isAgg40 (hst.bc3 rfl)) ?_
     refine wsr (.int .i64 ((a0.Parts).length : Int)) 6 rfl rfl rfl (by kernel_rfl) (fun w hst => x_len rfl Try.underlying40 (rd_sliceV f0_7)) ?_
     refine wsr (.int .u64 (IntKind.u64.wrap ((a0.Parts).length : Int))) 7 rfl rfl rfl (by kernel_rfl) (fun w hst => by kernel_rfl) ?_
     refine ws_e1 3 (by kernel_rfl) ?_
     refine nxe [8, 9] (by kernel_rfl) rfl rfl ?_
     clear hst
     intro w hst
     replace hst := hst.pull1
     obtain ⟨css556, hq557, hst⟩ := hst.own_open
     obtain ⟨t558, ht559, hm⟩ := bind_some hm
     refine we_call rfl (x_call Try.call45 rfl (vs := [v554, .int .u64 a0.Shards, .int .i64 (2:Int)]) rfl) ?_
     refine (ref02_Num_ref (hst.rdrow0 hq557) hst.to0 ht559).mono ?_
     rintro _ w560 ⟨v563, rfl, hst⟩
     refine ⟨_, rfl, ?_⟩
     replace hst := hst.of1
     replace hst := hst.pull1
     replace hst := hst.own_close hq557
     refine ws_next (pend' := [(7, .int .u64 (IntKind.u64.wrap ((a0.Parts).length : Int))), (6, .int .i64 ((a0.Parts).length : Int)), (5, r0_7), (4, .pointer (some ⟨b456, 20, none⟩))]) hst (by kernel_rfl) (pkr rfl rfl (fun w hst => by kernel_rfl) (pkr rfl rfl (fun w hst => x_len rfl Try.underlying40 (rd_sliceV f0_7)) (pkr rfl rfl (fun w hst => x_load rfl Try.isAgg40 (hst.bc4 rfl)) (pkr rfl rfl (fun w hst => x_field rfl Try.underlying45 rfl Try.sizeOf40 rfl) pk_nil)))) ?_
     refine ws_e1 8 (by kernel_rfl) ?_
     refine nxe [9] (by kernel_rfl) rfl rfl ?_
     clear hst
     intro w hst
     replace hst := hst.pull1
     obtain ⟨css565, hq566, hst⟩ := hst.own_open
     obtain ⟨t567, ht568, hm⟩ := bind_some hm
     refine we_call rfl (x_call Try.call45 rfl (vs := [v563, .int .u64 (IntKind.u64.wrap ((a0.Parts).length : Int)), .int .i64 (4:Int)]) rfl) ?_
     refine (ref02_Num_ref (hst.rdrow0 hq566) hst.to0 ht568).mono ?_
     rintro _ w569 ⟨v572, rfl, hst⟩
     refine ⟨_, rfl, ?_⟩
     replace hst := hst.of1
     replace hst := hst.pull1
     replace hst := hst.own_close hq566
     refine ws_next (pend' := []) hst (by kernel_rfl) pk_nil ?_
     refine ws_e1 9 (by kernel_rfl) ?_
     refine nxe [] (by kernel_rfl) rfl rfl ?_
     clear hst
     intro w hst
     refine we_run (v := v572) (w' := w) rfl rfl ?_
     refine ws_next (pend' := []) hst (by kernel_rfl) pk_nil ?_
     refine ws_nil ?_
     intro w hst
     refine then_n ?_
     obtain ⟨y685, hm, hx686⟩ := bind_some hm
     refine wp_cut (fun a w => ∃ (z682 : (List Int)) (v681 : Value) (σ683 : Nat → Value), (ref13_Command_j0 a0) z682 = some r ∧ a = Fr 123 (upd (upd σ683 1 (.pointer (some ⟨b456, 0, none⟩))) 3 (v681)) ∧ St w0 w I [cells b456 [.int .u8 a0.Kind, .int .u64 a0.ID.Session, .int .u64 a0.ID.Seq, .int .u64 a0.Epoch, .int .u64 a0.Index, .int .i64 a0.E, .int .u64 a0.Hold.ID.Session, .int .u64 a0.Hold.ID.Seq, .int .u64 a0.Hold.Epoch, r0_0, r0_1, r0_2, r0_3, r0_4, .int .i64 a0.R.E, .int .u64 a0.R.Epoch, .int .u64 a0.R.Index, r0_5, r0_6, .int .u64 a0.Shards, r0_7, .int .u64 a0.Rule.ID, .int .i64 a0.Rule.From, .int .i64 a0.Rule.To, .float .f64 a0.Rule.Lo, .float .f64 a0.Rule.Hi, .int .u64 a0.Rule.Authority, .int .i64 a0.Rule.Quota, .bool a0.On], ownS (tyInt .u8) v681 z682] R) ?_ ?_
     ·skip
      refine wp_seq (wp_region_lit ?_)
      refine wv (.int .i64 (0:Int)) rfl rfl rfl ?_
      refine wl_nil (then_n (wp_block ?_))
      replace hst := hst.sub
      replace hst := hst.pull1
      replace hst := hst.sub
      replace hst := hst.pull1
      replace hst := hst.sub
      replace hst := hst.pull1
      replace hst := hst.sub
      obtain ⟨n643, hm⟩ := loopO_some hm
      refine wp_loop_n (fun n a w => ∃ (z638 : (List Int)) (z641 : Int) (v639 : Value) (σ642 : Nat → Value), loopN (ref13_Command_l1 a0) n (z638, z641) = some y685 ∧ a = Fr 123 (upd (upd (upd σ642 1 (.pointer (some ⟨b456, 0, none⟩))) 3 (v639)) 4 (.int .i64 z641)) ∧ St w0 w I [ownS (tyInt .u8) v639 z638, cells b456 [.int .u8 a0.Kind, .int .u64 a0.ID.Session, .int .u64 a0.ID.Seq, .int .u64 a0.Epoch, .int .u64 a0.Index, .int .i64 a0.E, .int .u64 a0.Hold.ID.Session, .int .u64 a0.Hold.ID.Seq, .int .u64 a0.Hold.Epoch, r0_0, r0_1, r0_2, r0_3, r0_4, .int .i64 a0.R.E, .int .u64 a0.R.Epoch, .int .u64 a0.R.Index, r0_5, r0_6, .int .u64 a0.Shards, r0_7, .int .u64 a0.Rule.ID, .int .i64 a0.Rule.From, .int .i64 a0.Rule.To, .float .f64 a0.Rule.Lo, .float .f64 a0.Rule.Hi, .int .u64 a0.Rule.Authority, .int .i64 a0.Rule.Quota, .bool a0.On]] R) n643 ⟨t567, (0:Int), v572, _, hm, ((fr_upd (t := 1) (v := .pointer (some ⟨b456, 0, none⟩)) rfl).trans ((fr_upd (t := 3) (v := v572) rfl).trans ((fr_upd (t := 4) (v := .int .i64 (0:Int)) rfl).trans rfl))), hst⟩ ?_
      rintro n649 _ w644 ⟨z638, z641, v639, σ642, hm, rfl, hst⟩
      obtain ⟨n646, y647, rfl, hm, hx648⟩ := loopN_some hm
      dsimp only [ref13_Command_l1] at hm
      refine wp_seq (wp_seq (wp_region_lit ?_))
      refine wv (.int .i64 z641) rfl rfl rfl ?_
      refine wv (.pointer (some ⟨b456, 20, none⟩)) rfl rfl (x_field rfl Try.underlying45 rfl Try.sizeOf40 rfl) ?_
      refine wv (r0_7) rfl rfl (x_load rfl Try.isAgg40 (hst.bc1 rfl)) ?_
      refine wv (.int .i64 ((a0.Parts).length : Int)) rfl rfl (x_len rfl Try.underlying40 (rd_sliceV f0_7)) ?_
      refine wv (.bool (decide (z641 < ((a0.Parts).length : Int)))) rfl rfl rfl ?_
      refine wl_nil (then_n ?_)
      refine bsplit (decide (z641 < ((a0.Parts).length : Int))) (fun hc650 => ?_) (fun hc650 => ?_)
      ·skip
       replace hm := bif_t hc650 hm
       refine wp_ift (congrArg Value.bool hc650) ?_
       refine wp_skip (then_n (wp_seq (wp_block ?_)))
       refine wp_region_St hst 17 [0, 1, 2, 3, 4, 5, 6, 7, 8, 9, 10, 11, 12, 13, 14, 15, 16] [0, 0, 2, 0, 14, 30, 62, 126, 255, 0, 512, 0, 3584, 7680, 15872, 32767, 65535] [16] rfl (by kernel_rfl) (by kernel_rfl) Try.mixed (by kernel_rfl) ?_
       refine wsr (v639) 0 rfl rfl rfl (by kernel_rfl) (fun w hst => rfl) ?_
       refine wsr (.pointer (some ⟨b456, 20, none⟩)) 1 rfl rfl rfl (by kernel_rfl) (fun w hst => x_field rfl Try.underlying45 rfl Try.sizeOf40 rfl) ?_
       refine wsr (r0_7) 2 rfl rfl rfl (by kernel_rfl) (fun w hst => x_load rfl Try.isAgg40 (hst.bc1 rfl)) ?_
       refine wsr (.int .i64 z641) 3 rfl rfl rfl (by kernel_rfl) (fun w hst => rfl) ?_
       obtain ⟨x651, hx652, hm⟩ := bind_some hm
       obtain ⟨h653, h654, hi655⟩ := geto_some hx652
       refine wsr (.pointer (some (eAddr r0_7 (z641.toNat * 2 + 0)))) 4 rfl rfl rfl (by kernel_rfl) (fun w hst => x_index rfl rfl Try.underlying40 Try.sizeOf81 (rd_sliceV f0_7) h653 h654) ?_
       refine wsr (.pointer (some (eAddr r0_7 (z641.toNat * 2 + 0)))) 5 rfl rfl rfl (by kernel_rfl) (fun w hst => x_field_e rfl Try.underlying81 rfl Try.sizeOf3 rfl) ?_
       obtain ⟨cs656, hr657, hc658⟩ := Rd.getF f0_7 hi655
       obtain ⟨v659, rfl, f660, -⟩ := hr657
       refine wsr (.int .i64 x651.Shard) 6 rfl rfl rfl (by kernel_rfl) (fun w hst => x_load rfl Try.isAgg3 ((hc658 (HL.le.refl _) hst) 0 _ rfl)) ?_
       refine wsr (.int .u64 (IntKind.u64.wrap x651.Shard)) 7 rfl rfl rfl (by kernel_rfl) (fun w hst => by kernel_rfl) ?_
       refine wsr (.pointer (some ⟨b456, 20, none⟩)) 9 rfl rfl rfl (by kernel_rfl) (fun w hst => x_field rfl Try.underlying45 rfl Try.sizeOf40 rfl) ?_
       refine wsr (r0_7) 10 rfl rfl rfl (by kernel_rfl) (fun w hst => x_load rfl Try.isAgg40 (hst.bc1 rfl)) ?_
       refine wsr (.int .i64 z641) 11 rfl rfl rfl (by kernel_rfl) (fun w hst => rfl) ?_
       refine wsr (.pointer (some (eAddr r0_7 (z641.toNat * 2 + 0)))) 12 rfl rfl rfl (by kernel_rfl) (fun w hst => x_index rfl rfl Try.underlying40 Try.sizeOf81 (rd_sliceV f0_7) h653 h654) ?_
       refine wsr (.pointer (some (eAddr r0_7 (z641.toNat * 2 + 1)))) 13 rfl rfl rfl (by kernel_rfl) (fun w hst => x_field_e rfl Try.underlying81 rfl Try.sizeOf35 rfl) ?_
       refine wsr (v659) 14 rfl rfl rfl (by kernel_rfl) (fun w hst => x_load rfl Try.isAgg35 ((hc658 (HL.le.refl _) hst) 1 _ rfl)) ?_
       refine ws_e1 8 (by kernel_rfl) ?_
       refine nxe [15, 16] (by kernel_rfl) rfl rfl ?_
       clear hst
       intro w hst
       obtain ⟨css662, hq663, hst⟩ := hst.own_open
       obtain ⟨t664, ht665, hm⟩ := bind_some hm
       refine we_call rfl (x_call Try.call45 rfl (vs := [v639, .int .u64 (IntKind.u64.wrap x651.Shard), .int .i64 (1:Int)]) rfl) ?_
       refine (ref02_Num_ref (hst.rdrow0 hq663) hst.to0 ht665).mono ?_
       rintro _ w666 ⟨v669, rfl, hst⟩
       refine ⟨_, rfl, ?_⟩
       replace hst := hst.of1
       replace hst := hst.pull1
       replace hst := hst.own_close hq663
       refine ws_next (pend' := [(14, v659), (13, .pointer (some (eAddr r0_7 (z641.toNat * 2 + 1)))), (12, .pointer (some (eAddr r0_7 (z641.toNat * 2 + 0)))), (11, .int .i64 z641), (10, r0_7), (9, .pointer (some ⟨b456, 20, none⟩))]) hst (by kernel_rfl) (pkr rfl rfl (fun w hst => x_load rfl Try.isAgg35 ((hc658 (HL.le.refl _) hst) 1 _ rfl)) (pkr rfl rfl (fun w hst => x_field_e rfl Try.underlying81 rfl Try.sizeOf35 rfl) (pkr rfl rfl (fun w hst => x_index rfl rfl Try.underlying40 Try.sizeOf81 (rd_sliceV f0_7) h653 h654) (pkr rfl rfl (fun w hst => rfl) (pkr rfl rfl (fun w hst => x_load rfl Try.isAgg40 (hst.bc2 rfl)) (pkr rfl rfl (fun w hst => x_field rfl Try.underlying45 rfl Try.sizeOf40 rfl) pk_nil)))))) ?_
       refine ws_e1 15 (by kernel_rfl) ?_
       refine nxe [16] (by kernel_rfl) rfl rfl ?_
       clear hst
       intro w hst
       replace hst := hst.pull1
       obtain ⟨css671, hq672, hst⟩ := hst.own_open
       obtain ⟨t673, ht674, hm⟩ := bind_some hm
       refine we_call rfl (x_call Try.call59 rfl (vs := [v669, v659]) rfl) ?_
       refine (ref13_Writes_ref (hst.rdrow0 hq672) (f660.mono (rd_weak _)) hst.to0 ht674).mono ?_
       rintro _ w675 ⟨v678, rfl, hst⟩
       refine ⟨_, rfl, ?_⟩
       replace hst := hst.of1
       replace hst := hst.pull1
       replace hst := hst.own_close hq672
       refine ws_next (pend' := []) hst (by kernel_rfl) pk_nil ?_
       refine ws_e1 16 (by kernel_rfl) ?_
       refine nxe [] (by kernel_rfl) rfl rfl ?_
       clear hst
       intro w hst
       refine we_run (v := v678) (w' := w) rfl rfl ?_
       refine ws_next (pend' := []) hst (by kernel_rfl) pk_nil ?_
       refine ws_nil ?_
       intro w hst
       refine blk_n (then_n (wp_region_lit ?_))
       refine wv (.int .i64 z641) rfl rfl rfl ?_
       refine wv (.int .i64 (IntKind.i64.wrap (z641 + (1:Int)))) rfl rfl rfl ?_
       refine wv (.int .i64 (IntKind.i64.wrap (z641 + (1:Int)))) rfl rfl rfl ?_
       refine wl_nil (then_n ?_)
       replace hst := hst.pull3
       replace hst := hst.pull2
       replace hst := hst.keep2
       obtain rfl := some_inj hm
       exact ⟨_, Nat.lt_succ_self _, t673, (IntKind.i64.wrap (z641 + (1:Int))), v678, _, hx648, ((fr_upd (t := 1) (v := .pointer (some ⟨b456, 0, none⟩)) rfl).trans ((fr_upd (t := 3) (v := v678) rfl).trans ((fr_upd (t := 4) (v := .int .i64 (IntKind.i64.wrap (z641 + (1:Int)))) rfl).trans rfl))), hst⟩
      ·skip
       replace hm := bif_f hc650 hm
       refine wp_iff (congrArg Value.bool hc650) ?_
       refine wp_exit (then_x (then_x ?_))
       replace hm := inr_up hm hx648
       refine blk_x (then_n ?_)
       replace hst := hst.pull1
       replace hst := hst.keep2
       obtain rfl := some_inj hm
       exact ⟨z638, v639, _, hx686, ((fr_upd (t := 1) (v := .pointer (some ⟨b456, 0, none⟩)) rfl).trans ((fr_upd (t := 3) (v := v639) rfl).trans rfl)), hst⟩
     ·skip
      clear hst
      rintro _ w687 ⟨z682, v681, σ683, hm, rfl, hst⟩
      dsimp only [ref13_Command_j0] at hm
      refine wp_seq (wp_region_lit ?_)
      refine wv (v681) rfl rfl rfl ?_
      refine wv (.pointer (some ⟨b456, 14, none⟩)) rfl rfl (x_field rfl Try.underlying45 rfl Try.sizeOf39 rfl) ?_
      refine wv (.agg #[.int .i64 a0.R.E, .int .u64 a0.R.Epoch, .int .u64 a0.R.Index, r0_5, r0_6]) rfl rfl (x_loadN (cs := [.int .i64 a0.R.E, .int .u64 a0.R.Epoch, .int .u64 a0.R.Index, r0_5, r0_6]) rfl Try.isAgg39 Try.sizeOf39 (hst.bcs0 14 rfl)) ?_
      replace hst := hst.pull1
      obtain ⟨css688, hq689, hst⟩ := hst.own_open
      obtain ⟨t690, ht691, hm⟩ := bind_some hm
      refine wl_call rfl rfl (x_call Try.call17 rfl (vs := [v681, .agg #[.int .i64 a0.R.E, .int .u64 a0.R.Epoch, .int .u64 a0.R.Index, r0_5, r0_6]]) rfl) ?_
      refine (ref13_Reply_ref (hst.rdrow0 hq689) (f0_5.mono (rd_weak _)) (f0_6.mono (rd_weak _)) hst.to0 ht691).mono ?_
      rintro _ w692 ⟨v695, rfl, hst⟩
      refine ⟨_, rfl, ?_⟩
      replace hst := hst.of1
      replace hst := hst.pull1
      replace hst := hst.own_close hq689
      refine wv (v695) rfl rfl rfl ?_
      refine wl_nil (then_n (wp_ret (blk_r (then_r ?_))))
      obtain rfl := some_inj hm
      refine post_ret (vs := [v695]) Try.results21 (rvs_cons (rv_tmp rfl) rvs_nil) ?_
      replace hst := hst.pull1
      exact ⟨v695, rfl, hst.keep1⟩
    ·skip
     replace hm := bif_f hc537 hm
     refine wp_iff (congrArg Value.bool hc537) ?_
     refine wp_seq (wp_region_lit ?_)
     refine wv (.bool (a0.Kind == (5:Int))) rfl rfl rfl ?_
     refine wv (.bool (a0.Kind == (5:Int))) rfl rfl rfl ?_
     refine wl_nil (then_n ?_)
     refine bsplit (a0.Kind == (5:Int)) (fun hc697 => ?_) (fun hc697 => ?_)
     ·skip
      replace hm := bif_t hc697 hm
      refine wp_ift (congrArg Value.bool hc697) ?_
      refine wp_seq (wp_region_lit ?_)
      refine wv (v469) rfl rfl rfl ?_
      refine wv (.pointer (some ⟨b456, 1, none⟩)) rfl rfl (x_field rfl Try.underlying45 rfl Try.sizeOf29 rfl) ?_
      refine wv (.agg #[.int .u64 a0.ID.Session, .int .u64 a0.ID.Seq]) rfl rfl (x_loadN (cs := [.int .u64 a0.ID.Session, .int .u64 a0.ID.Seq]) rfl Try.isAgg29 Try.sizeOf29 (hst.bcs1 1 rfl)) ?_
      obtain ⟨css698, hq699, hst⟩ := hst.own_open
      obtain ⟨t700, ht701, hm⟩ := bind_some hm
      refine wl_call rfl rfl (x_call Try.call58 rfl (vs := [v469, .agg #[.int .u64 a0.ID.Session, .int .u64 a0.ID.Seq]]) rfl) ?_
      refine (ref12_ID_ref (hst.rdrow0 hq699) hst.to0 ht701).mono ?_
      rintro _ w702 ⟨v705, rfl, hst⟩
      refine ⟨_, rfl, ?_⟩
      replace hst := hst.of1
      replace hst := hst.pull1
      replace hst := hst.own_close hq699
      refine wv (v705) rfl rfl rfl ?_
      refine wl_nil (then_n (wp_ret (blk_r (then_r ?_))))
      obtain rfl := some_inj hm
      refine post_ret (vs := [v705]) Try.results21 (rvs_cons (rv_tmp rfl) rvs_nil) ?_
      replace hst := hst.pull1
      exact ⟨v705, rfl, hst.keep1⟩
     ·skip
      replace hm := bif_f hc697 hm
      refine wp_iff (congrArg Value.bool hc697) ?_
      refine wp_seq (wp_region_lit ?_)
      refine wv (.bool (a0.Kind == (6:Int))) rfl rfl rfl ?_
      refine wv (.bool (a0.Kind == (6:Int))) rfl rfl rfl ?_
      refine wl_nil (then_n ?_)
      refine bsplit (a0.Kind == (6:Int)) (fun hc707 => ?_) (fun hc707 => ?_)
      ·skip
       replace hm := bif_t hc707 hm
       refine wp_ift (congrArg Value.bool hc707) ?_
       refine wp_seq ?_
       refine wp_region_St hst 8 [0, 1, 2, 3, 4, 5, 6, 7] [0, 0, 2, 7, 0, 16, 63, 127] [] rfl (by kernel_rfl) (by kernel_rfl) Try.mixed (by kernel_rfl) ?_
       refine wsr (v469) 0 rfl rfl rfl (by kernel_rfl) (fun w hst => rfl) ?_
       refine wsr (.pointer (some ⟨b456, 21, none⟩)) 1 rfl rfl rfl (by kernel_rfl) (fun w hst => x_field rfl Try.underlying45 rfl Try.sizeOf43 rfl) ?_
       refine wsr (.agg #[.int .u64 a0.Rule.ID, .int .i64 a0.Rule.From, .int .i64 a0.Rule.To, .float .f64 a0.Rule.Lo, .float .f64 a0.Rule.Hi, .int .u64 a0.Rule.Authority, .int .i64 a0.Rule.Quota]) 2 rfl rfl rfl (by kernel_rfl) (fun w hst => x_loadN (cs := [.int .u64 a0.Rule.ID, .int .i64 a0.Rule.From, .int .i64 a0.Rule.To, .float .f64 a0.Rule.Lo, .float .f64 a0.Rule.Hi, .int .u64 a0.Rule.Authority, .int .i64 a0.Rule.Quota]) rfl Try.isAgg43 Try.sizeOf43 (hst.bcs1 21 rfl)) ?_
       refine wsr (.pointer (some ⟨b456, 28, none⟩)) 4 rfl rfl rfl (by kernel_rfl) (fun w hst => x_field rfl Try.underlying45 rfl Try.sizeOf4 rfl) ?_
       refine wsr (.bool a0.On) 5 rfl rfl rfl (by kernel_rfl) (fun w hst => x_load rfl Try.isAgg4 (hst.bc1 rfl)) ?_
       refine ws_e1 3 (by kernel_rfl) ?_
       refine nxe [6, 7] (by kernel_rfl) rfl rfl ?_
       clear hst
       intro w hst
       obtain ⟨css708, hq709, hst⟩ := hst.own_open
       obtain ⟨t710, ht711, hm⟩ := bind_some hm
       refine we_call rfl (x_call Try.call60 rfl (vs := [v469, .agg #[.int .u64 a0.Rule.ID, .int .i64 a0.Rule.From, .int .i64 a0.Rule.To, .float .f64 a0.Rule.Lo, .float .f64 a0.Rule.Hi, .int .u64 a0.Rule.Authority, .int .i64 a0.Rule.Quota]]) rfl) ?_
       refine (ref13_Rule_ref (hst.rdrow0 hq709) hst.to0 ht711).mono ?_
       rintro _ w712 ⟨v715, rfl, hst⟩
       refine ⟨_, rfl, ?_⟩
       replace hst := hst.of1
       replace hst := hst.pull1
       replace hst := hst.own_close hq709
       refine ws_next (pend' := [(5, .bool a0.On), (4, .pointer (some ⟨b456, 28, none⟩))]) hst (by kernel_rfl) (pkr rfl rfl (fun w hst => x_load rfl Try.isAgg4 (hst.bc2 rfl)) (pkr rfl rfl (fun w hst => x_field rfl Try.underlying45 rfl Try.sizeOf4 rfl) pk_nil)) ?_
       refine ws_e1 6 (by kernel_rfl) ?_
       refine nxe [7] (by kernel_rfl) rfl rfl ?_
       clear hst
       intro w hst
       replace hst := hst.pull1
       obtain ⟨css717, hq718, hst⟩ := hst.own_open
       obtain ⟨t719, ht720, hm⟩ := bind_some hm
       refine we_call rfl (x_call Try.call47 rfl (vs := [v715, .bool a0.On]) rfl) ?_
       refine (ref02_Flag_ref (hst.rdrow0 hq718) hst.to0 ht720).mono ?_
       rintro _ w721 ⟨v724, rfl, hst⟩
       refine ⟨_, rfl, ?_⟩
       replace hst := hst.of1
       replace hst := hst.pull1
       replace hst := hst.own_close hq718
       refine ws_next (pend' := []) hst (by kernel_rfl) pk_nil ?_
       refine wsr (v724) 7 rfl rfl rfl (by kernel_rfl) (fun w hst => rfl) ?_
       refine ws_nil ?_
       intro w hst
       refine then_n (wp_ret (blk_r (then_r ?_)))
       obtain rfl := some_inj hm
       refine post_ret (vs := [v724]) Try.results21 (rvs_cons (rv_tmp rfl) rvs_nil) ?_
       replace hst := hst.pull1
       exact ⟨v724, rfl, hst.keep1⟩
      ·skip
       replace hm := bif_f hc707 hm
       refine wp_iff (congrArg Value.bool hc707) ?_
       refine wp_seq (wp_region_lit ?_)
       refine wv (.bool (a0.Kind == (7:Int))) rfl rfl rfl ?_
       refine wv (.bool (a0.Kind == (7:Int))) rfl rfl rfl ?_
       refine wl_nil (then_n ?_)
       refine bsplit (a0.Kind == (7:Int)) (fun hc726 => ?_) (fun hc726 => ?_)
       ·skip
        replace hm := bif_t hc726 hm
        refine wp_ift (congrArg Value.bool hc726) ?_
        refine wp_seq ?_
        refine wp_region_St hst 8 [0, 1, 2, 3, 4, 5, 6, 7] [0, 0, 2, 7, 0, 16, 63, 127] [7] rfl (by kernel_rfl) (by kernel_rfl) Try.mixed (by kernel_rfl) ?_
        refine wsr (v469) 0 rfl rfl rfl (by kernel_rfl) (fun w hst => rfl) ?_
        refine wsr (.pointer (some ⟨b456, 1, none⟩)) 1 rfl rfl rfl (by kernel_rfl) (fun w hst => x_field rfl Try.underlying45 rfl Try.sizeOf29 rfl) ?_
        refine wsr (.agg #[.int .u64 a0.ID.Session, .int .u64 a0.ID.Seq]) 2 rfl rfl rfl (by kernel_rfl) (fun w hst => x_loadN (cs := [.int .u64 a0.ID.Session, .int .u64 a0.ID.Seq]) rfl Try.isAgg29 Try.sizeOf29 (hst.bcs1 1 rfl)) ?_
        refine wsr (.pointer (some ⟨b456, 3, none⟩)) 4 rfl rfl rfl (by kernel_rfl) (fun w hst => x_field rfl Try.underlying45 rfl Try.sizeOf27 rfl) ?_
        refine wsr (.int .u64 a0.Epoch) 5 rfl rfl rfl (by kernel_rfl) (fun w hst => x_load rfl Try.isAgg27 (hst.bc1 rfl)) ?_
        refine ws_e1 3 (by kernel_rfl) ?_
        refine nxe [6, 7] (by kernel_rfl) rfl rfl ?_
        clear hst
        intro w hst
        obtain ⟨css727, hq728, hst⟩ := hst.own_open
        obtain ⟨t729, ht730, hm⟩ := bind_some hm
        refine we_call rfl (x_call Try.call58 rfl (vs := [v469, .agg #[.int .u64 a0.ID.Session, .int .u64 a0.ID.Seq]]) rfl) ?_
        refine (ref12_ID_ref (hst.rdrow0 hq728) hst.to0 ht730).mono ?_
        rintro _ w731 ⟨v734, rfl, hst⟩
        refine ⟨_, rfl, ?_⟩
        replace hst := hst.of1
        replace hst := hst.pull1
        replace hst := hst.own_close hq728
        refine ws_next (pend' := [(5, .int .u64 a0.Epoch), (4, .pointer (some ⟨b456, 3, none⟩))]) hst (by kernel_rfl) (pkr rfl rfl (fun w hst => x_load rfl Try.isAgg27 (hst.bc2 rfl)) (pkr rfl rfl (fun w hst => x_field rfl Try.underlying45 rfl Try.sizeOf27 rfl) pk_nil)) ?_
        refine ws_e1 6 (by kernel_rfl) ?_
        refine nxe [7] (by kernel_rfl) rfl rfl ?_
        clear hst
        intro w hst
        replace hst := hst.pull1
        obtain ⟨css736, hq737, hst⟩ := hst.own_open
        obtain ⟨t738, ht739, hm⟩ := bind_some hm
        refine we_call rfl (x_call Try.call45 rfl (vs := [v734, .int .u64 a0.Epoch, .int .i64 (8:Int)]) rfl) ?_
        refine (ref02_Num_ref (hst.rdrow0 hq737) hst.to0 ht739).mono ?_
        rintro _ w740 ⟨v743, rfl, hst⟩
        refine ⟨_, rfl, ?_⟩
        replace hst := hst.of1
        replace hst := hst.pull1
        replace hst := hst.own_close hq737
        refine ws_next (pend' := []) hst (by kernel_rfl) pk_nil ?_
        refine ws_e1 7 (by kernel_rfl) ?_
        refine nxe [] (by kernel_rfl) rfl rfl ?_
        clear hst
        intro w hst
        refine we_run (v := v743) (w' := w) rfl rfl ?_
        refine ws_next (pend' := []) hst (by kernel_rfl) pk_nil ?_
        refine ws_nil ?_
        intro w hst
        refine then_n (wp_seq ?_)
        refine wp_region_St hst 11 [0, 1, 2, 3, 4, 5, 6, 7, 8, 9, 10] [0, 0, 2, 7, 0, 16, 63, 0, 128, 511, 1023] [] rfl (by kernel_rfl) (by kernel_rfl) Try.mixed (by kernel_rfl) ?_
        refine wsr (v743) 0 rfl rfl rfl (by kernel_rfl) (fun w hst => rfl) ?_
        refine wsr (.pointer (some ⟨b456, 21, none⟩)) 1 rfl rfl rfl (by kernel_rfl) (fun w hst => x_field rfl Try.underlying45 rfl Try.sizeOf43 rfl) ?_
        refine wsr (.agg #[.int .u64 a0.Rule.ID, .int .i64 a0.Rule.From, .int .i64 a0.Rule.To, .float .f64 a0.Rule.Lo, .float .f64 a0.Rule.Hi, .int .u64 a0.Rule.Authority, .int .i64 a0.Rule.Quota]) 2 rfl rfl rfl (by kernel_rfl) (fun w hst => x_loadN (cs := [.int .u64 a0.Rule.ID, .int .i64 a0.Rule.From, .int .i64 a0.Rule.To, .float .f64 a0.Rule.Lo, .float .f64 a0.Rule.Hi, .int .u64 a0.Rule.Authority, .int .i64 a0.Rule.Quota]) rfl Try.isAgg43 Try.sizeOf43 (hst.bcs3 21 rfl)) ?_
        refine wsr (.pointer (some ⟨b456, 13, none⟩)) 4 rfl rfl rfl (by kernel_rfl) (fun w hst => x_field rfl Try.underlying45 rfl Try.sizeOf35 rfl) ?_
        refine wsr (r0_4) 5 rfl rfl rfl (by kernel_rfl) (fun w hst => x_load rfl Try.isAgg35 (hst.bc3 rfl)) ?_
        refine wsr (.pointer (some ⟨b456, 14, none⟩)) 7 rfl rfl rfl (by kernel_rfl) (fun w hst => x_field rfl Try.underlying45 rfl Try.sizeOf39 rfl) ?_
        refine wsr (.agg #[.int .i64 a0.R.E, .int .u64 a0.R.Epoch, .int .u64 a0.R.Index, r0_5, r0_6]) 8 rfl rfl rfl (by kernel_rfl) (fun w hst => x_loadN (cs := [.int .i64 a0.R.E, .int .u64 a0.R.Epoch, .int .u64 a0.R.Index, r0_5, r0_6]) rfl Try.isAgg39 Try.sizeOf39 (hst.bcs3 14 rfl)) ?_
        refine ws_e1 3 (by kernel_rfl) ?_
        refine nxe [6, 9, 10] (by kernel_rfl) rfl rfl ?_
        clear hst
        intro w hst
        replace hst := hst.pull1
        obtain ⟨css745, hq746, hst⟩ := hst.own_open
        obtain ⟨t747, ht748, hm⟩ := bind_some hm
        refine we_call rfl (x_call Try.call60 rfl (vs := [v743, .agg #[.int .u64 a0.Rule.ID, .int .i64 a0.Rule.From, .int .i64 a0.Rule.To, .float .f64 a0.Rule.Lo, .float .f64 a0.Rule.Hi, .int .u64 a0.Rule.Authority, .int .i64 a0.Rule.Quota]]) rfl) ?_
        refine (ref13_Rule_ref (hst.rdrow0 hq746) hst.to0 ht748).mono ?_
        rintro _ w749 ⟨v752, rfl, hst⟩
        refine ⟨_, rfl, ?_⟩
        replace hst := hst.of1
        replace hst := hst.pull1
        replace hst := hst.own_close hq746
        refine ws_next (pend' := [(8, .agg #[.int .i64 a0.R.E, .int .u64 a0.R.Epoch, .int .u64 a0.R.Index, r0_5, r0_6]), (7, .pointer (some ⟨b456, 14, none⟩)), (5, r0_4), (4, .pointer (some ⟨b456, 13, none⟩))]) hst (by kernel_rfl) (pkr rfl rfl (fun w hst => x_loadN (cs := [.int .i64 a0.R.E, .int .u64 a0.R.Epoch, .int .u64 a0.R.Index, r0_5, r0_6]) rfl Try.isAgg39 Try.sizeOf39 (hst.bcs4 14 rfl)) (pkr rfl rfl (fun w hst => x_field rfl Try.underlying45 rfl Try.sizeOf39 rfl) (pkr rfl rfl (fun w hst => x_load rfl Try.isAgg35 (hst.bc4 rfl)) (pkr rfl rfl (fun w hst => x_field rfl Try.underlying45 rfl Try.sizeOf35 rfl) pk_nil)))) ?_
        refine ws_e1 6 (by kernel_rfl) ?_
        refine nxe [9, 10] (by kernel_rfl) rfl rfl ?_
        clear hst
        intro w hst
        replace hst := hst.pull1
        obtain ⟨css754, hq755, hst⟩ := hst.own_open
        obtain ⟨t756, ht757, hm⟩ := bind_some hm
        refine we_call rfl (x_call Try.call59 rfl (vs := [v752, r0_4]) rfl) ?_
        refine (ref13_Writes_ref (hst.rdrow0 hq755) (f0_4.mono (rd_weak _)) hst.to0 ht757).mono ?_
        rintro _ w758 ⟨v761, rfl, hst⟩
        refine ⟨_, rfl, ?_⟩
        replace hst := hst.of1
        replace hst := hst.pull1
        replace hst := hst.own_close hq755
        refine ws_next (pend' := [(8, .agg #[.int .i64 a0.R.E, .int .u64 a0.R.Epoch, .int .u64 a0.R.Index, r0_5, r0_6]), (7, .pointer (some ⟨b456, 14, none⟩))]) hst (by kernel_rfl) (pkr rfl rfl (fun w hst => x_loadN (cs := [.int .i64 a0.R.E, .int .u64 a0.R.Epoch, .int .u64 a0.R.Index, r0_5, r0_6]) rfl Try.isAgg39 Try.sizeOf39 (hst.bcs5 14 rfl)) (pkr rfl rfl (fun w hst => x_field rfl Try.underlying45 rfl Try.sizeOf39 rfl) pk_nil)) ?_
        refine ws_e1 9 (by kernel_rfl) ?_
        refine nxe [10] (by kernel_rfl) rfl rfl ?_
        clear hst
        intro w hst
        replace hst := hst.pull1
        obtain ⟨css763, hq764, hst⟩ := hst.own_open
        obtain ⟨t765, ht766, hm⟩ := bind_some hm
        refine we_call rfl (x_call Try.call17 rfl (vs := [v761, .agg #[.int .i64 a0.R.E, .int .u64 a0.R.Epoch, .int .u64 a0.R.Index, r0_5, r0_6]]) rfl) ?_
        refine (ref13_Reply_ref (hst.rdrow0 hq764) (f0_5.mono (rd_weak _)) (f0_6.mono (rd_weak _)) hst.to0 ht766).mono ?_
        rintro _ w767 ⟨v770, rfl, hst⟩
        refine ⟨_, rfl, ?_⟩
        replace hst := hst.of1
        replace hst := hst.pull1
        replace hst := hst.own_close hq764
        refine ws_next (pend' := []) hst (by kernel_rfl) pk_nil ?_
        refine wsr (v770) 10 rfl rfl rfl (by kernel_rfl) (fun w hst => rfl) ?_
        refine ws_nil ?_
        intro w hst
        refine then_n (wp_ret (blk_r (then_r ?_)))
        obtain rfl := some_inj hm
        refine post_ret (vs := [v770]) Try.results21 (rvs_cons (rv_tmp rfl) rvs_nil) ?_
        replace hst := hst.pull1
        exact ⟨v770, rfl, hst.keep1⟩
       ·skip
        replace hm := bif_f hc726 hm
        refine wp_iff (congrArg Value.bool hc726) ?_
        refine wp_skip (blk_n (then_n (wp_seq (wp_region_lit ?_))))
        refine wv (v469) rfl rfl rfl ?_
        refine wv (v469) rfl rfl rfl ?_
        refine wl_nil (then_n (wp_ret ?_))
        obtain rfl := some_inj hm
        refine post_ret (vs := [v469]) Try.results21 (rvs_cons (rv_tmp rfl) rvs_nil) ?_
        exact ⟨v469, rfl, hst.keep1⟩

theorem math_Signbit_ref {w0 w : World} {I : HL} {R : SP} {a0 : Nat}  (hst : St w0 w I [] R) {r : (Bool)} (hm : math_Signbit a0 = some r) :
  Calls Try.prog 69 #[.float .f64 a0] w fun e w' => e = .returned (.bool r) ∧ St w0 w' I [] R := by
 unfold math_Signbit at hm
 refine calls_start (args := [.float .f64 a0]) Try.func69 rfl Try.ntmps69 (Nat.le_of_ble_eq_true rfl) ?_
 refine wp_seq (wp_region_lit ?_)
 refine wv (.bool false) rfl rfl rfl ?_
 refine wl_nil (then_n (wp_seq (wp_region_lit ?_)))
 refine wv (.float .f64 a0) rfl rfl rfl ?_
 refine wv (.int .u64 (Int.ofNat a0)) rfl rfl (by kernel_rfl) ?_
 refine wv (.int .i64 (IntKind.i64.wrap (Int.ofNat a0))) rfl rfl (by kernel_rfl) ?_
 refine wv (.bool (decide ((IntKind.i64.wrap (Int.ofNat a0)) < (0:Int)))) rfl rfl rfl ?_
 refine wv (.bool (decide ((IntKind.i64.wrap (Int.ofNat a0)) < (0:Int)))) rfl rfl rfl ?_
 refine wl_nil (then_n (wp_ret ?_))
 obtain rfl := some_inj hm
 refine post_ret (vs := [.bool (decide ((IntKind.i64.wrap (Int.ofNat a0)) < (0:Int)))]) Try.results69 (rvs_cons (rv_tmp rfl) rvs_nil) ?_
 exact ⟨rfl, hst.keep0⟩

theorem ref01_Ahead_ref {w0 w : World} {I : HL} {R : SP} {a0 : Nat} {a1 : Nat}  (hst : St w0 w I [] R) {r : (Bool)} (hm : ref01_Ahead a0 a1 = some r) :
  Calls Try.prog 68 #[.float .f64 a0, .float .f64 a1] w fun e w' => e = .returned (.bool r) ∧ St w0 w' I [] R := by
 unfold ref01_Ahead at hm
 refine calls_start (args := [.float .f64 a0, .float .f64 a1]) Try.func68 rfl Try.ntmps68 (Nat.le_of_ble_eq_true rfl) ?_
 refine wp_seq (wp_region_lit ?_)
 refine wv (.bool false) rfl rfl rfl ?_
 refine wl_nil (then_n (wp_seq (wp_seq (wp_region_lit ?_))))
 refine wv (.float .f64 a0) rfl rfl rfl ?_
 refine wv (.float .f64 a0) rfl rfl rfl ?_
 refine wv (.bool (fNe a0 a0)) rfl rfl rfl ?_
 refine wl_nil (then_n ?_)
 refine bsplit (fNe a0 a0) (fun hc200 => ?_) (fun hc200 => ?_)
 ·skip
  replace hm := bif_t hc200 hm
  refine wp_ift (congrArg Value.bool hc200) ?_
  refine wp_seq (wp_region_lit ?_)
  refine wv (.bool false) rfl rfl rfl ?_
  refine wl_nil (then_n (wp_ret (then_r ?_)))
  obtain rfl := some_inj hm
  refine post_ret (vs := [.bool false]) Try.results68 (rvs_cons (rv_tmp rfl) rvs_nil) ?_
  exact ⟨rfl, hst.keep0⟩
 ·skip
  replace hm := bif_f hc200 hm
  refine wp_iff (congrArg Value.bool hc200) ?_
  refine wp_skip (then_n (wp_seq (wp_seq (wp_region_lit ?_))))
  refine wv (.float .f64 a1) rfl rfl rfl ?_
  refine wv (.float .f64 a1) rfl rfl rfl ?_
  refine wv (.bool (fNe a1 a1)) rfl rfl rfl ?_
  refine wl_nil (then_n ?_)
  refine bsplit (fNe a1 a1) (fun hc201 => ?_) (fun hc201 => ?_)
  ·skip
   replace hm := bif_t hc201 hm
   refine wp_ift (congrArg Value.bool hc201) ?_
   refine wp_seq (wp_region_lit ?_)
   refine wv (.bool true) rfl rfl rfl ?_
   refine wl_nil (then_n (wp_ret (then_r ?_)))
   obtain rfl := some_inj hm
   refine post_ret (vs := [.bool true]) Try.results68 (rvs_cons (rv_tmp rfl) rvs_nil) ?_
   exact ⟨rfl, hst.keep0⟩
  ·skip
   replace hm := bif_f hc201 hm
   refine wp_iff (congrArg Value.bool hc201) ?_
   refine wp_skip (then_n ?_)
   obtain ⟨y217, hm, hx218⟩ := joinO_some hm
   refine wp_cut (fun a w => ∃ (σ215 : Nat → Value), (ref01_Ahead_j0 a0 a1) () = some r ∧ a = Fr 27 (upd (upd σ215 0 (.float .f64 a0)) 1 (.float .f64 a1)) ∧ St w0 w I [] R) ?_ ?_
   ·skip
    refine wp_seq (wp_region_lit ?_)
    refine wv (.float .f64 a0) rfl rfl rfl ?_
    refine wv (.bool (fEq a0 (0:Nat))) rfl rfl rfl ?_
    refine wv (.bool (fEq a0 (0:Nat))) rfl rfl rfl ?_
    refine bsplit (fEq a0 (0:Nat)) (fun hc202 => ?_) (fun hc202 => ?_)
    ·skip
     replace hm := bif_t hc202 hm
     refine wv (.float .f64 a1) ((wanted_eq rfl rfl rfl (congrArg Value.bool hc202)).trans rfl) rfl rfl ?_
     refine wv (.bool (fEq a1 (0:Nat))) ((wanted_eq rfl rfl rfl (congrArg Value.bool hc202)).trans rfl) rfl rfl ?_
     refine wv (.bool (fEq a1 (0:Nat))) rfl rfl (x_pick_t hc202 rfl rfl) ?_
     refine wl_nil (then_n ?_)
     refine bsplit (fEq a1 (0:Nat)) (fun hc203 => ?_) (fun hc203 => ?_)
     ·skip
      replace hm := bif_t hc203 hm
      refine wp_ift (congrArg Value.bool hc203) ?_
      refine wp_seq (wp_region_lit ?_)
      refine wv (.float .f64 a0) rfl rfl rfl ?_
      obtain ⟨t204, ht205, hm⟩ := bind_some hm
      refine wl_call rfl rfl (x_call Try.call69 rfl (vs := [.float .f64 a0]) rfl) ?_
      refine (math_Signbit_ref hst.to0 ht205).mono ?_
      rintro _ w206 ⟨rfl, hst⟩
      refine ⟨_, rfl, ?_⟩
      replace hst := hst.of0
      refine wv (.bool t204) rfl rfl rfl ?_
      refine bsplit t204 (fun hc209 => ?_) (fun hc209 => ?_)
      ·skip
       replace hm := bif_t hc209 hm
       refine wv (.float .f64 a1) ((wanted_eq rfl rfl rfl (congrArg Value.bool hc209)).trans rfl) rfl rfl ?_
       obtain ⟨t210, ht211, hm⟩ := bind_some hm
       refine wl_call ((wanted_eq rfl rfl rfl (congrArg Value.bool hc209)).trans rfl) rfl (x_call Try.call69 rfl (vs := [.float .f64 a1]) rfl) ?_
       refine (math_Signbit_ref hst.to0 ht211).mono ?_
       rintro _ w212 ⟨rfl, hst⟩
       refine ⟨_, rfl, ?_⟩
       replace hst := hst.of0
       refine wv (.bool (!t210)) ((wanted_eq rfl rfl rfl (congrArg Value.bool hc209)).trans rfl) rfl rfl ?_
       refine wv (.bool (!t210)) rfl rfl (x_pick_t hc209 rfl rfl) ?_
       refine wv (.bool (!t210)) rfl rfl rfl ?_
       refine wl_nil (then_n (wp_ret (then_r ?_)))
       replace hm := inr_up hm hx218
       obtain rfl := some_inj hm
       refine post_ret (vs := [.bool (!t210)]) Try.results68 (rvs_cons (rv_tmp rfl) rvs_nil) ?_
       exact ⟨rfl, hst.keep0⟩
      ·skip
       replace hm := bif_f hc209 hm
       refine wo hc209 rfl rfl rfl rfl rfl rfl ?_
       refine wo hc209 rfl rfl rfl rfl rfl rfl ?_
       refine wo hc209 rfl rfl rfl rfl rfl rfl ?_
       refine wv (.bool false) rfl rfl (x_pick_f hc209 rfl rfl) ?_
       refine wv (.bool false) rfl rfl rfl ?_
       refine wl_nil (then_n (wp_ret (then_r ?_)))
       replace hm := inr_up hm hx218
       obtain rfl := some_inj hm
       refine post_ret (vs := [.bool false]) Try.results68 (rvs_cons (rv_tmp rfl) rvs_nil) ?_
       exact ⟨rfl, hst.keep0⟩
     ·skip
      replace hm := bif_f hc203 hm
      refine wp_iff (congrArg Value.bool hc203) ?_
      refine wp_skip (then_n ?_)
      replace hst := hst.keep0
      obtain rfl := some_inj hm
      exact ⟨_, hx218, ((fr_upd (t := 0) (v := .float .f64 a0) rfl).trans ((fr_upd (t := 1) (v := .float .f64 a1) rfl).trans rfl)), hst⟩
    ·skip
     replace hm := bif_f hc202 hm
     refine wo hc202 rfl rfl rfl rfl rfl rfl ?_
     refine wo hc202 rfl rfl rfl rfl rfl rfl ?_
     refine wv (.bool false) rfl rfl (x_pick_f hc202 rfl rfl) ?_
     refine wl_nil (then_n ?_)
     refine wp_iff rfl ?_
     refine wp_skip (then_n ?_)
     replace hst := hst.keep0
     obtain rfl := some_inj hm
     exact ⟨_, hx218, ((fr_upd (t := 0) (v := .float .f64 a0) rfl).trans ((fr_upd (t := 1) (v := .float .f64 a1) rfl).trans rfl)), hst⟩
   ·skip
    clear hst
    rintro _ w219 ⟨σ215, hm, rfl, hst⟩
    dsimp only [ref01_Ahead_j0] at hm
    refine wp_seq (wp_region_lit ?_)
    refine wv (.float .f64 a0) rfl rfl rfl ?_
    refine wv (.float .f64 a1) rfl rfl rfl ?_
    refine wv (.bool (fLt a0 a1)) rfl rfl rfl ?_
    refine wv (.bool (fLt a0 a1)) rfl rfl rfl ?_
    refine wl_nil (then_n (wp_ret ?_))
    obtain rfl := some_inj hm
    refine post_ret (vs := [.bool (fLt a0 a1)]) Try.results68 (rvs_cons (rv_tmp rfl) rvs_nil) ?_
    exact ⟨rfl, hst.keep0⟩

theorem ref01_Same_ref {w0 w : World} {I : HL} {R : SP} {a0 : Nat} {a1 : Nat}  (hst : St w0 w I [] R) {r : (Bool)} (hm : ref01_Same a0 a1 = some r) :
  Calls Try.prog 62 #[.float .f64 a0, .float .f64 a1] w fun e w' => e = .returned (.bool r) ∧ St w0 w' I [] R := by
 unfold ref01_Same at hm
 refine calls_start (args := [.float .f64 a0, .float .f64 a1]) Try.func62 rfl Try.ntmps62 (Nat.le_of_ble_eq_true rfl) ?_
 refine wp_seq (wp_region_lit ?_)
 refine wv (.bool false) rfl rfl rfl ?_
 refine wl_nil (then_n (wp_seq (wp_region_lit ?_)))
 refine wv (.float .f64 a0) rfl rfl rfl ?_
 refine wv (.float .f64 a1) rfl rfl rfl ?_
 obtain ⟨t191, ht192, hm⟩ := bind_some hm
 refine wl_call rfl rfl (x_call Try.call68 rfl (vs := [.float .f64 a0, .float .f64 a1]) rfl) ?_
 refine (ref01_Ahead_ref hst.to0 ht192).mono ?_
 rintro _ w193 ⟨rfl, hst⟩
 refine ⟨_, rfl, ?_⟩
 replace hst := hst.of0
 refine wv (.bool (!t191)) rfl rfl rfl ?_
 refine wv (.bool (!t191)) rfl rfl rfl ?_
 refine bsplit (!t191) (fun hc196 => ?_) (fun hc196 => ?_)
 ·skip
  replace hm := bif_t hc196 hm
  refine wv (.float .f64 a1) ((wanted_eq rfl rfl rfl (congrArg Value.bool hc196)).trans rfl) rfl rfl ?_
  refine wv (.float .f64 a0) ((wanted_eq rfl rfl rfl (congrArg Value.bool hc196)).trans rfl) rfl rfl ?_
  obtain ⟨t197, ht198, hm⟩ := bind_some hm
  refine wl_call ((wanted_eq rfl rfl rfl (congrArg Value.bool hc196)).trans rfl) rfl (x_call Try.call68 rfl (vs := [.float .f64 a1, .float .f64 a0]) rfl) ?_
  refine (ref01_Ahead_ref hst.to0 ht198).mono ?_
  rintro _ w199 ⟨rfl, hst⟩
  refine ⟨_, rfl, ?_⟩
  replace hst := hst.of0
  refine wv (.bool (!t197)) ((wanted_eq rfl rfl rfl (congrArg Value.bool hc196)).trans rfl) rfl rfl ?_
  refine wv (.bool (!t197)) rfl rfl (x_pick_t hc196 rfl rfl) ?_
  refine wv (.bool (!t197)) rfl rfl rfl ?_
  refine wl_nil (then_n (wp_ret ?_))
  obtain rfl := some_inj hm
  refine post_ret (vs := [.bool (!t197)]) Try.results62 (rvs_cons (rv_tmp rfl) rvs_nil) ?_
  exact ⟨rfl, hst.keep0⟩
 ·skip
  replace hm := bif_f hc196 hm
  refine wo hc196 rfl rfl rfl rfl rfl rfl ?_
  refine wo hc196 rfl rfl rfl rfl rfl rfl ?_
  refine wo hc196 rfl rfl rfl rfl rfl rfl ?_
  refine wo hc196 rfl rfl rfl rfl rfl rfl ?_
  refine wv (.bool false) rfl rfl (x_pick_f hc196 rfl rfl) ?_
  refine wv (.bool false) rfl rfl rfl ?_
  refine wl_nil (then_n (wp_ret ?_))
  obtain rfl := some_inj hm
  refine post_ret (vs := [.bool false]) Try.results62 (rvs_cons (rv_tmp rfl) rvs_nil) ?_
  exact ⟨rfl, hst.keep0⟩

theorem ref11_SameHold_ref {w0 w : World} {I : HL} {R : SP} {a0 : api_Hold} {r0_0 : Value} {r0_1 : Value} {r0_2 : Value} {r0_3 : Value} {a1 : api_Hold} {r1_0 : Value} {r1_1 : Value} {r1_2 : Value} {r1_3 : Value} (f0_0 : Rd tyF64 R I r0_0 a0.Gets) (f0_1 : Rd tyF2 R I r0_1 a0.Scans) (f0_2 : Rd tyF64 R I r0_2 a0.Puts) (f0_3 : Rd (tyInt .u8) R I r0_3 a0.Data) (f1_0 : Rd tyF64 R I r1_0 a1.Gets) (f1_1 : Rd tyF2 R I r1_1 a1.Scans) (f1_2 : Rd tyF64 R I r1_2 a1.Puts) (f1_3 : Rd (tyInt .u8) R I r1_3 a1.Data) (hst : St w0 w I [] R) {r : (Bool)} (hm : ref11_SameHold a0 a1 = some r) :
  Calls Try.prog 33 #[.agg #[.int .u64 a0.ID.Session, .int .u64 a0.ID.Seq, .int .u64 a0.Epoch, r0_0, r0_1, r0_2, r0_3], .agg #[.int .u64 a1.ID.Session, .int .u64 a1.ID.Seq, .int .u64 a1.Epoch, r1_0, r1_1, r1_2, r1_3]] w fun e w' => e = .returned (.bool r) ∧ St w0 w' I [] R := by
 unfold ref11_SameHold at hm
 refine calls_start (args := [.agg #[.int .u64 a0.ID.Session, .int .u64 a0.ID.Seq, .int .u64 a0.Epoch, r0_0, r0_1, r0_2, r0_3], .agg #[.int .u64 a1.ID.Session, .int .u64 a1.ID.Seq, .int .u64 a1.Epoch, r1_0, r1_1, r1_2, r1_3]]) Try.func33 rfl Try.ntmps33 (Nat.le_of_ble_eq_true rfl) ?_
 refine wp_seq (wp_region_lit ?_)
 obtain ⟨b398, w399, ew400, eb401, hst⟩ := hst.box [.int .u64 a0.ID.Session, .int .u64 a0.ID.Seq, .int .u64 a0.Epoch, r0_0, r0_1, r0_2, r0_3] 34
 refine wl_run (v := .pointer (some ⟨b398, 0, none⟩)) (w' := w399) rfl rfl (x_al (by kernel_rfl) ew400 eb401) ?_
 obtain ⟨b403, w404, ew405, eb406, hst⟩ := hst.box [.int .u64 a1.ID.Session, .int .u64 a1.ID.Seq, .int .u64 a1.Epoch, r1_0, r1_1, r1_2, r1_3] 34
 refine wl_run (v := .pointer (some ⟨b403, 0, none⟩)) (w' := w404) rfl rfl (x_al (by kernel_rfl) ew405 eb406) ?_
 refine wv (.bool false) rfl rfl rfl ?_
 refine wl_nil (then_n (wp_seq (wp_seq (wp_region_lit ?_))))
 refine wv (.pointer (some ⟨b398, 0, none⟩)) rfl rfl (x_field rfl Try.underlying34 rfl Try.sizeOf29 rfl) ?_
 refine wv (.agg #[.int .u64 a0.ID.Session, .int .u64 a0.ID.Seq]) rfl rfl (x_loadN (cs := [.int .u64 a0.ID.Session, .int .u64 a0.ID.Seq]) rfl Try.isAgg29 Try.sizeOf29 (hst.bcs1 0 rfl)) ?_
 refine wv (.pointer (some ⟨b403, 0, none⟩)) rfl rfl (x_field rfl Try.underlying34 rfl Try.sizeOf29 rfl) ?_
 refine wv (.agg #[.int .u64 a1.ID.Session, .int .u64 a1.ID.Seq]) rfl rfl (x_loadN (cs := [.int .u64 a1.ID.Session, .int .u64 a1.ID.Seq]) rfl Try.isAgg29 Try.sizeOf29 (hst.bcs0 0 rfl)) ?_
 refine wv (.bool (!((a0.ID.Session == a1.ID.Session) && (a0.ID.Seq == a1.ID.Seq)))) rfl rfl (x_aggne2 rfl rfl (by kernel_rfl) Try.underlying29 (by kernel_rfl) (by kernel_rfl) (by kernel_rfl) Try.underlying27 Try.underlying27 (fun _ _ _ => by kernel_rfl) (fun _ _ _ => by kernel_rfl)) ?_
 refine wv (.bool (!((a0.ID.Session == a1.ID.Session) && (a0.ID.Seq == a1.ID.Seq)))) rfl rfl rfl ?_
 refine bsplit (!((a0.ID.Session == a1.ID.Session) && (a0.ID.Seq == a1.ID.Seq))) (fun hc408 => ?_) (fun hc408 => ?_)
 ·skip
  replace hm := bif_t hc408 hm
  refine wo hc408 rfl rfl rfl rfl rfl rfl ?_
  refine wo hc408 rfl rfl rfl rfl rfl rfl ?_
  refine wo hc408 rfl rfl rfl rfl rfl rfl ?_
  refine wo hc408 rfl rfl rfl rfl rfl rfl ?_
  refine wo hc408 rfl rfl rfl rfl rfl rfl ?_
  refine wv (.bool true) rfl rfl (x_pick_t hc408 rfl rfl) ?_
  refine wv (.bool true) rfl rfl rfl ?_
  refine wl_off ((wanted_eq rfl rfl rfl rfl).trans rfl) rfl ?_
  refine wl_off ((wanted_eq rfl rfl rfl rfl).trans rfl) rfl ?_
  refine wl_off ((wanted_eq rfl rfl rfl rfl).trans rfl) rfl ?_
  refine wl_off ((wanted_eq rfl rfl rfl rfl).trans rfl) rfl ?_
  refine wl_off ((wanted_eq rfl rfl rfl rfl).trans rfl) rfl ?_
  refine wl_off ((wanted_eq rfl rfl rfl rfl).trans rfl) rfl ?_
  refine wl_off ((wanted_eq rfl rfl rfl rfl).trans rfl) rfl ?_
  refine wv (.bool true) rfl rfl (x_pick_t rfl rfl rfl) ?_
  refine wv (.bool true) rfl rfl rfl ?_
  refine wl_off ((wanted_eq rfl rfl rfl rfl).trans rfl) rfl ?_
  refine wl_off ((wanted_eq rfl rfl rfl rfl).trans rfl) rfl ?_
  refine wl_off ((wanted_eq rfl rfl rfl rfl).trans rfl) rfl ?_
  refine wl_off ((wanted_eq rfl rfl rfl rfl).trans rfl) rfl ?_
  refine wl_off ((wanted_eq rfl rfl rfl rfl).trans rfl) rfl ?_
  refine wl_off ((wanted_eq rfl rfl rfl rfl).trans rfl) rfl ?_
  refine wl_off ((wanted_eq rfl rfl rfl rfl).trans rfl) rfl ?_
  refine wv (.bool true) rfl rfl (x_pick_t rfl rfl rfl) ?_
  refine wv (.bool true) rfl rfl rfl ?_
  refine wl_off ((wanted_eq rfl rfl rfl rfl).trans rfl) rfl ?_
  refine wl_off ((wanted_eq rfl rfl rfl rfl).trans rfl) rfl ?_
  refine wl_off ((wanted_eq rfl rfl rfl rfl).trans rfl) rfl ?_
  refine wl_off ((wanted_eq rfl rfl rfl rfl).trans rfl) rfl ?_
  refine wl_off ((wanted_eq rfl rfl rfl rfl).trans rfl) rfl ?_
  refine wl_off ((wanted_eq rfl rfl rfl rfl).trans rfl) rfl ?_
  refine wl_off ((wanted_eq rfl rfl rfl rfl).trans rfl) rfl ?_
  refine wv (.bool true) rfl rfl (x_pick_t rfl rfl rfl) ?_
  refine wv (.bool true) rfl rfl rfl ?_
  refine wl_off ((wanted_eq rfl rfl rfl rfl).trans rfl) rfl ?_
  refine wl_off ((wanted_eq rfl rfl rfl rfl).trans rfl) rfl ?_
  refine wl_off ((wanted_eq rfl rfl rfl rfl).trans rfl) rfl ?_
  refine wl_off ((wanted_eq rfl rfl rfl rfl).trans rfl) rfl ?_
  refine wl_off ((wanted_eq rfl rfl rfl rfl).trans rfl) rfl ?_
  refine wl_off ((wanted_eq rfl rfl rfl rfl).trans rfl) rfl ?_
  refine wl_off ((wanted_eq rfl rfl rfl rfl).trans rfl) rfl ?_
  refine wv (.bool true) rfl rfl (x_pick_t rfl rfl rfl) ?_
  refine wl_nil (then_n ?_)
  refine wp_ift rfl ?_
  refine wp_seq (wp_region_lit ?_)
  refine wv (.bool false) rfl rfl rfl ?_
  refine wl_nil (then_n (wp_ret (then_r ?_)))
  obtain rfl := some_inj hm
  refine post_ret (vs := [.bool false]) Try.results33 (rvs_cons (rv_tmp rfl) rvs_nil) ?_
  exact ⟨rfl, hst.keep0⟩
 ·skip
  replace hm := bif_f hc408 hm
  refine wv (.pointer (some ⟨b398, 2, none⟩)) ((wanted_eq rfl rfl rfl (congrArg Value.bool hc408)).trans rfl) rfl (x_field rfl Try.underlying34 rfl Try.sizeOf27 rfl) ?_
  refine wv (.int .u64 a0.Epoch) ((wanted_eq rfl rfl rfl (congrArg Value.bool hc408)).trans rfl) rfl (x_load rfl Try.isAgg27 (hst.bc1 rfl)) ?_
  refine wv (.pointer (some ⟨b403, 2, none⟩)) ((wanted_eq rfl rfl rfl (congrArg Value.bool hc408)).trans rfl) rfl (x_field rfl Try.underlying34 rfl Try.sizeOf27 rfl) ?_
  refine wv (.int .u64 a1.Epoch) ((wanted_eq rfl rfl rfl (congrArg Value.bool hc408)).trans rfl) rfl (x_load rfl Try.isAgg27 (hst.bc0 rfl)) ?_
  refine wv (.bool (a0.Epoch != a1.Epoch)) ((wanted_eq rfl rfl rfl (congrArg Value.bool hc408)).trans rfl) rfl rfl ?_
  refine wv (.bool (a0.Epoch != a1.Epoch)) rfl rfl (x_pick_f hc408 rfl rfl) ?_
  refine wv (.bool (a0.Epoch != a1.Epoch)) rfl rfl rfl ?_
  refine bsplit (a0.Epoch != a1.Epoch) (fun hc409 => ?_) (fun hc409 => ?_)
  ·skip
   replace hm := bif_t hc409 hm
   refine wo hc409 rfl rfl rfl rfl rfl rfl ?_
   refine wo hc409 rfl rfl rfl rfl rfl rfl ?_
   refine wo hc409 rfl rfl rfl rfl rfl rfl ?_
   refine wo hc409 rfl rfl rfl rfl rfl rfl ?_
   refine wo hc409 rfl rfl rfl rfl rfl rfl ?_
   refine wo hc409 rfl rfl rfl rfl rfl rfl ?_
   refine wo hc409 rfl rfl rfl rfl rfl rfl ?_
   refine wv (.bool true) rfl rfl (x_pick_t hc409 rfl rfl) ?_
   refine wv (.bool true) rfl rfl rfl ?_
   refine wl_off ((wanted_eq rfl rfl rfl rfl).trans rfl) rfl ?_
   refine wl_off ((wanted_eq rfl rfl rfl rfl).trans rfl) rfl ?_
   refine wl_off ((wanted_eq rfl rfl rfl rfl).trans rfl) rfl ?_
   refine wl_off ((wanted_eq rfl rfl rfl rfl).trans rfl) rfl ?_
   refine wl_off ((wanted_eq rfl rfl rfl rfl).trans rfl) rfl ?_
   refine wl_off ((wanted_eq rfl rfl rfl rfl).trans rfl) rfl ?_
   refine wl_off ((wanted_eq rfl rfl rfl rfl).trans rfl) rfl ?_
   refine wv (.bool true) rfl rfl (x_pick_t rfl rfl rfl) ?_
   refine wv (.bool true) rfl rfl rfl ?_
   refine wl_off ((wanted_eq rfl rfl rfl rfl).trans rfl) rfl ?_
   refine wl_off ((wanted_eq rfl rfl rfl rfl).trans rfl) rfl ?_
   refine wl_off ((wanted_eq rfl rfl rfl rfl).trans rfl) rfl ?_
   refine wl_off ((wanted_eq rfl rfl rfl rfl).trans rfl) rfl ?_
   refine wl_off ((wanted_eq rfl rfl rfl rfl).trans rfl) rfl ?_
   refine wl_off ((wanted_eq rfl rfl rfl rfl).trans rfl) rfl ?_
   refine wl_off ((wanted_eq rfl rfl rfl rfl).trans rfl) rfl ?_
   refine wv (.bool true) rfl rfl (x_pick_t rfl rfl rfl) ?_
   refine wv (.bool true) rfl rfl rfl ?_
   refine wl_off ((wanted_eq rfl rfl rfl rfl).trans rfl) rfl ?_
   refine wl_off ((wanted_eq rfl rfl rfl rfl).trans rfl) rfl ?_
   refine wl_off ((wanted_eq rfl rfl rfl rfl).trans rfl) rfl ?_
   refine wl_off ((wanted_eq rfl rfl rfl rfl).trans rfl) rfl ?_
   refine wl_off ((wanted_eq rfl rfl rfl rfl).trans rfl) rfl ?_
   refine wl_off ((wanted_eq rfl rfl rfl rfl).trans rfl) rfl ?_
   refine wl_off ((wanted_eq rfl rfl rfl rfl).trans rfl) rfl ?_
   refine wv (.bool true) rfl rfl (x_pick_t rfl rfl rfl) ?_
   refine wl_nil (then_n ?_)
   refine wp_ift rfl ?_
   refine wp_seq (wp_region_lit ?_)
   refine wv (.bool false) rfl rfl rfl ?_
   refine wl_nil (then_n (wp_ret (then_r ?_)))
   obtain rfl := some_inj hm
   refine post_ret (vs := [.bool false]) Try.results33 (rvs_cons (rv_tmp rfl) rvs_nil) ?_
   exact ⟨rfl, hst.keep0⟩
  ·skip
   replace hm := bif_f hc409 hm
   refine wv (.pointer (some ⟨b398, 3, none⟩)) ((wanted_eq rfl rfl rfl (congrArg Value.bool hc409)).trans rfl) rfl (x_field rfl Try.underlying34 rfl Try.sizeOf31 rfl) ?_
   refine wv (r0_0) ((wanted_eq rfl rfl rfl (congrArg Value.bool hc409)).trans rfl) rfl (x_load rfl Try.isAgg31 (hst.bc1 rfl)) ?_
   refine wv (.int .i64 ((a0.Gets).length : Int)) ((wanted_eq rfl rfl rfl (congrArg Value.bool hc409)).trans rfl) rfl (x_len rfl Try.underlying31 (rd_sliceV f0_0)) ?_
   refine wv (.pointer (some ⟨b403, 3, none⟩)) ((wanted_eq rfl rfl rfl (congrArg Value.bool hc409)).trans rfl) rfl (x_field rfl Try.underlying34 rfl Try.sizeOf31 rfl) ?_
   refine wv (r1_0) ((wanted_eq rfl rfl rfl (congrArg Value.bool hc409)).trans rfl) rfl (x_load rfl Try.isAgg31 (hst.bc0 rfl)) ?_
   refine wv (.int .i64 ((a1.Gets).length : Int)) ((wanted_eq rfl rfl rfl (congrArg Value.bool hc409)).trans rfl) rfl (x_len rfl Try.underlying31 (rd_sliceV f1_0)) ?_
   refine wv (.bool (((a0.Gets).length : Int) != ((a1.Gets).length : Int))) ((wanted_eq rfl rfl rfl (congrArg Value.bool hc409)).trans rfl) rfl rfl ?_
   refine wv (.bool (((a0.Gets).length : Int) != ((a1.Gets).length : Int))) rfl rfl (x_pick_f hc409 rfl rfl) ?_
   refine wv (.bool (((a0.Gets).length : Int) != ((a1.Gets).length : Int))) rfl rfl rfl ?_
   refine bsplit (((a0.Gets).length : Int) != ((a1.Gets).length : Int)) (fun hc410 => ?_) (fun hc410 => ?_)
   ·skip
    replace hm := bif_t hc410 hm
    refine wo hc410 rfl rfl rfl rfl rfl rfl ?_
    refine wo hc410 rfl rfl rfl rfl rfl rfl ?_
    refine wo hc410 rfl rfl rfl rfl rfl rfl ?_
    refine wo hc410 rfl rfl rfl rfl rfl rfl ?_
    refine wo hc410 rfl rfl rfl rfl rfl rfl ?_
    refine wo hc410 rfl rfl rfl rfl rfl rfl ?_
    refine wo hc410 rfl rfl rfl rfl rfl rfl ?_
    refine wv (.bool true) rfl rfl (x_pick_t hc410 rfl rfl) ?_
    refine wv (.bool true) rfl rfl rfl ?_
    refine wl_off ((wanted_eq rfl rfl rfl rfl).trans rfl) rfl ?_
    refine wl_off ((wanted_eq rfl rfl rfl rfl).trans rfl) rfl ?_
    refine wl_off ((wanted_eq rfl rfl rfl rfl).trans rfl) rfl ?_
    refine wl_off ((wanted_eq rfl rfl rfl rfl).trans rfl) rfl ?_
    refine wl_off ((wanted_eq rfl rfl rfl rfl).trans rfl) rfl ?_
    refine wl_off ((wanted_eq rfl rfl rfl rfl).trans rfl) rfl ?_
    refine wl_off ((wanted_eq rfl rfl rfl rfl).trans rfl) rfl ?_
    refine wv (.bool true) rfl rfl (x_pick_t rfl rfl rfl) ?_
    refine wv (.bool true) rfl rfl rfl ?_
    refine wl_off ((wanted_eq rfl rfl rfl rfl).trans rfl) rfl ?_
    refine wl_off ((wanted_eq rfl rfl rfl rfl).trans rfl) rfl ?_
    refine wl_off ((wanted_eq rfl rfl rfl rfl).trans rfl) rfl ?_
    refine wl_off ((wanted_eq rfl rfl rfl rfl).trans rfl) rfl ?_
    refine wl_off ((wanted_eq rfl rfl rfl rfl).trans rfl) rfl ?_
    refine wl_off ((wanted_eq rfl rfl rfl rfl).trans rfl) rfl ?_
    refine wl_off ((wanted_eq rfl rfl rfl rfl).trans rfl) rfl ?_
    refine wv (.bool true) rfl rfl (x_pick_t rfl rfl rfl) ?_
    refine wl_nil (then_n ?_)
    refine wp_ift rfl ?_
    refine wp_seq (wp_region_lit ?_)
    refine wv (.bool false) rfl rfl rfl ?_
    refine wl_nil (then_n (wp_ret (then_r ?_)))
    obtain rfl := some_inj hm
    refine post_ret (vs := [.bool false]) Try.results33 (rvs_cons (rv_tmp rfl) rvs_nil) ?_
    exact ⟨rfl, hst.keep0⟩
   ·skip
    replace hm := bif_f hc410 hm
    refine wv (.pointer (some ⟨b398, 4, none⟩)) ((wanted_eq rfl rfl rfl (congrArg Value.bool hc410)).trans rfl) rfl (x_field rfl Try.underlying34 rfl Try.sizeOf32 rfl) ?_
    refine wv (r0_1) ((wanted_eq rfl rfl rfl (congrArg Value.bool hc410)).trans rfl) rfl (x_load rfl Try.isAgg32 (hst.bc1 rfl)) ?_
    refine wv (.int .i64 ((a0.Scans).length : Int)) ((wanted_eq rfl rfl rfl (congrArg Value.bool hc410)).trans rfl) rfl (x_len rfl Try.underlying32 (rd_sliceV f0_1)) ?_
    refine wv (.pointer (some ⟨b403, 4, none⟩)) ((wanted_eq rfl rfl rfl (congrArg Value.bool hc410)).trans rfl) rfl (x_field rfl Try.underlying34 rfl Try.sizeOf32 rfl) ?_
    refine wv (r1_1) ((wanted_eq rfl rfl rfl (congrArg Value.bool hc410)).trans rfl) rfl (x_load rfl Try.isAgg32 (hst.bc0 rfl)) ?_
    refine wv (.int .i64 ((a1.Scans).length : Int)) ((wanted_eq rfl rfl rfl (congrArg Value.bool hc410)).trans rfl) rfl (x_len rfl Try.underlying32 (rd_sliceV f1_1)) ?_
    refine wv (.bool (((a0.Scans).length : Int) != ((a1.Scans).length : Int))) ((wanted_eq rfl rfl rfl (congrArg Value.bool hc410)).trans rfl) rfl rfl ?_
    refine wv (.bool (((a0.Scans).length : Int) != ((a1.Scans).length : Int))) rfl rfl (x_pick_f hc410 rfl rfl) ?_
    refine wv (.bool (((a0.Scans).length : Int) != ((a1.Scans).length : Int))) rfl rfl rfl ?_
    refine bsplit (((a0.Scans).length : Int) != ((a1.Scans).length : Int)) (fun hc411 => ?_) (fun hc411 => ?_)
    ·skip
     replace hm := bif_t hc411 hm
     refine wo hc411 rfl rfl rfl rfl rfl rfl ?_
     refine wo hc411 rfl rfl rfl rfl rfl rfl ?_
     refine wo hc411 rfl rfl rfl rfl rfl rfl ?_
     refine wo hc411 rfl rfl rfl rfl rfl rfl ?_
     refine wo hc411 rfl rfl rfl rfl rfl rfl ?_
     refine wo hc411 rfl rfl rfl rfl rfl rfl ?_
     refine wo hc411 rfl rfl rfl rfl rfl rfl ?_
     refine wv (.bool true) rfl rfl (x_pick_t hc411 rfl rfl) ?_
     refine wv (.bool true) rfl rfl rfl ?_
     refine wl_off ((wanted_eq rfl rfl rfl rfl).trans rfl) rfl ?_
     refine wl_off ((wanted_eq rfl rfl rfl rfl).trans rfl) rfl ?_
     refine wl_off ((wanted_eq rfl rfl rfl rfl).trans rfl) rfl ?_
     refine wl_off ((wanted_eq rfl rfl rfl rfl).trans rfl) rfl ?_
     refine wl_off ((wanted_eq rfl rfl rfl rfl).trans rfl) rfl ?_
     refine wl_off ((wanted_eq rfl rfl rfl rfl).trans rfl) rfl ?_
     refine wl_off ((wanted_eq rfl rfl rfl rfl).trans rfl) rfl ?_
     refine wv (.bool true) rfl rfl (x_pick_t rfl rfl rfl) ?_
     refine wl_nil (then_n ?_)
     refine wp_ift rfl ?_
     refine wp_seq (wp_region_lit ?_)
     refine wv (.bool false) rfl rfl rfl ?_
     refine wl_nil (then_n (wp_ret (then_r ?_)))
     obtain rfl := some_inj hm
     refine post_ret (vs := [.bool false]) Try.results33 (rvs_cons (rv_tmp rfl) rvs_nil) ?_
     exact ⟨rfl, hst.keep0⟩
    ·skip
     replace hm := bif_f hc411 hm
     refine wv (.pointer (some ⟨b398, 5, none⟩)) ((wanted_eq rfl rfl rfl (congrArg Value.bool hc411)).trans rfl) rfl (x_field rfl Try.underlying34 rfl Try.sizeOf31 rfl) ?_
     refine wv (r0_2) ((wanted_eq rfl rfl rfl (congrArg Value.bool hc411)).trans rfl) rfl (x_load rfl Try.isAgg31 (hst.bc1 rfl)) ?_
     refine wv (.int .i64 ((a0.Puts).length : Int)) ((wanted_eq rfl rfl rfl (congrArg Value.bool hc411)).trans rfl) rfl (x_len rfl Try.underlying31 (rd_sliceV f0_2)) ?_
     refine wv (.pointer (some ⟨b403, 5, none⟩)) ((wanted_eq rfl rfl rfl (congrArg Value.bool hc411)).trans rfl) rfl (x_field rfl Try.underlying34 rfl Try.sizeOf31 rfl) ?_
     refine wv (r1_2) ((wanted_eq rfl rfl rfl (congrArg Value.bool hc411)).trans rfl) rfl (x_load rfl Try.isAgg31 (hst.bc0 rfl)) ?_
     refine wv (.int .i64 ((a1.Puts).length : Int)) ((wanted_eq rfl rfl rfl (congrArg Value.bool hc411)).trans rfl) rfl (x_len rfl Try.underlying31 (rd_sliceV f1_2)) ?_
     refine wv (.bool (((a0.Puts).length : Int) != ((a1.Puts).length : Int))) ((wanted_eq rfl rfl rfl (congrArg Value.bool hc411)).trans rfl) rfl rfl ?_
     refine wv (.bool (((a0.Puts).length : Int) != ((a1.Puts).length : Int))) rfl rfl (x_pick_f hc411 rfl rfl) ?_
     refine wv (.bool (((a0.Puts).length : Int) != ((a1.Puts).length : Int))) rfl rfl rfl ?_
     refine bsplit (((a0.Puts).length : Int) != ((a1.Puts).length : Int)) (fun hc412 => ?_) (fun hc412 => ?_)
     ·skip
      replace hm := bif_t hc412 hm
      refine wo hc412 rfl rfl rfl rfl rfl rfl ?_
      refine wo hc412 rfl rfl rfl rfl rfl rfl ?_
      refine wo hc412 rfl rfl rfl rfl rfl rfl ?_
      refine wo hc412 rfl rfl rfl rfl rfl rfl ?_
      refine wo hc412 rfl rfl rfl rfl rfl rfl ?_
      refine wo hc412 rfl rfl rfl rfl rfl rfl ?_
      refine wo hc412 rfl rfl rfl rfl rfl rfl ?_
      refine wv (.bool true) rfl rfl (x_pick_t hc412 rfl rfl) ?_
      refine wl_nil (then_n ?_)
      refine wp_ift rfl ?_
      refine wp_seq (wp_region_lit ?_)
      refine wv (.bool false) rfl rfl rfl ?_
      refine wl_nil (then_n (wp_ret (then_r ?_)))
      obtain rfl := some_inj hm
      refine post_ret (vs := [.bool false]) Try.results33 (rvs_cons (rv_tmp rfl) rvs_nil) ?_
      exact ⟨rfl, hst.keep0⟩
     ·skip
      replace hm := bif_f hc412 hm
      refine wv (.pointer (some ⟨b398, 6, none⟩)) ((wanted_eq rfl rfl rfl (congrArg Value.bool hc412)).trans rfl) rfl (x_field rfl Try.underlying34 rfl Try.sizeOf22 rfl) ?_
      refine wv (r0_3) ((wanted_eq rfl rfl rfl (congrArg Value.bool hc412)).trans rfl) rfl (x_load rfl Try.isAgg22 (hst.bc1 rfl)) ?_
      refine wv (.string (toStr a0.Data)) ((wanted_eq rfl rfl rfl (congrArg Value.bool hc412)).trans rfl) rfl (x_tostr Try.underlying22 Try.underlying9 Try.underlying5 rfl (Src.of_rd hst f0_3 flat_int)) ?_
      refine wv (.pointer (some ⟨b403, 6, none⟩)) ((wanted_eq rfl rfl rfl (congrArg Value.bool hc412)).trans rfl) rfl (x_field rfl Try.underlying34 rfl Try.sizeOf22 rfl) ?_
      refine wv (r1_3) ((wanted_eq rfl rfl rfl (congrArg Value.bool hc412)).trans rfl) rfl (x_load rfl Try.isAgg22 (hst.bc0 rfl)) ?_
      refine wv (.string (toStr a1.Data)) ((wanted_eq rfl rfl rfl (congrArg Value.bool hc412)).trans rfl) rfl (x_tostr Try.underlying22 Try.underlying9 Try.underlying5 rfl (Src.of_rd hst f1_3 flat_int)) ?_
      refine wv (.bool (!(sEq (toStr a0.Data) (toStr a1.Data)))) ((wanted_eq rfl rfl rfl (congrArg Value.bool hc412)).trans rfl) rfl (by kernel_rfl) ?_
      refine wv (.bool (!(sEq (toStr a0.Data) (toStr a1.Data)))) rfl rfl (x_pick_f hc412 rfl rfl) ?_
      refine wl_nil (then_n ?_)
      refine bsplit (!(sEq (toStr a0.Data) (toStr a1.Data))) (fun hc413 => ?_) (fun hc413 => ?_)
      ·skip
       replace hm := bif_t hc413 hm
       refine wp_ift (congrArg Value.bool hc413) ?_
       refine wp_seq (wp_region_lit ?_)
       refine wv (.bool false) rfl rfl rfl ?_
       refine wl_nil (then_n (wp_ret (then_r ?_)))
       obtain rfl := some_inj hm
       refine post_ret (vs := [.bool false]) Try.results33 (rvs_cons (rv_tmp rfl) rvs_nil) ?_
       exact ⟨rfl, hst.keep0⟩
      ·skip
       replace hm := bif_f hc413 hm
       refine wp_iff (congrArg Value.bool hc413) ?_
       refine wp_skip (then_n ?_)
       obtain ⟨y477, hm, hx478⟩ := joinO_some hm
       refine wp_cut (fun a w => ∃ (σ475 : Nat → Value), (ref11_SameHold_j0 a0 a1) () = some r ∧ a = Fr 131 (upd (upd σ475 2 (.pointer (some ⟨b398, 0, none⟩))) 3 (.pointer (some ⟨b403, 0, none⟩))) ∧ St w0 w I [cells b398 [.int .u64 a0.ID.Session, .int .u64 a0.ID.Seq, .int .u64 a0.Epoch, r0_0, r0_1, r0_2, r0_3], cells b403 [.int .u64 a1.ID.Session, .int .u64 a1.ID.Seq, .int .u64 a1.Epoch, r1_0, r1_1, r1_2, r1_3]] R) ?_ ?_
       ·skip
        refine wp_seq (wp_region_lit ?_)
        refine wv (.int .i64 (0:Int)) rfl rfl rfl ?_
        refine wl_nil (then_n (wp_block ?_))
        obtain ⟨n451, hm⟩ := loopO_some hm
        refine wp_loop_n (fun n a w => ∃ (z449 : Int) (σ450 : Nat → Value), loopN (ref11_SameHold_l1 a0 a1) n z449 = some y477 ∧ a = Fr 131 (upd (upd (upd σ450 2 (.pointer (some ⟨b398, 0, none⟩))) 3 (.pointer (some ⟨b403, 0, none⟩))) 5 (.int .i64 z449)) ∧ St w0 w I [cells b403 [.int .u64 a1.ID.Session, .int .u64 a1.ID.Seq, .int .u64 a1.Epoch, r1_0, r1_1, r1_2, r1_3], cells b398 [.int .u64 a0.ID.Session, .int .u64 a0.ID.Seq, .int .u64 a0.Epoch, r0_0, r0_1, r0_2, r0_3]] R) n451 ⟨(0:Int), _, hm, ((fr_upd (t := 2) (v := .pointer (some ⟨b398, 0, none⟩)) rfl).trans ((fr_upd (t := 3) (v := .pointer (some ⟨b403, 0, none⟩)) rfl).trans ((fr_upd (t := 5) (v := .int .i64 (0:Int)) rfl).trans rfl))), hst⟩ ?_
        rintro n457 _ w452 ⟨z449, σ450, hm, rfl, hst⟩
        obtain ⟨n454, y455, rfl, hm, hx456⟩ := loopN_some hm
        dsimp only [ref11_SameHold_l1] at hm
        refine wp_seq (wp_seq (wp_region_lit ?_))
        refine wv (.int .i64 z449) rfl rfl rfl ?_
        refine wv (.pointer (some ⟨b398, 3, none⟩)) rfl rfl (x_field rfl Try.underlying34 rfl Try.sizeOf31 rfl) ?_
        refine wv (r0_0) rfl rfl (x_load rfl Try.isAgg31 (hst.bc1 rfl)) ?_
        refine wv (.int .i64 ((a0.Gets).length : Int)) rfl rfl (x_len rfl Try.underlying31 (rd_sliceV f0_0)) ?_
        refine wv (.bool (decide (z449 < ((a0.Gets).length : Int)))) rfl rfl rfl ?_
        refine wl_nil (then_n ?_)
        refine bsplit (decide (z449 < ((a0.Gets).length : Int))) (fun hc458 => ?_) (fun hc458 => ?_)
        ·skip
         replace hm := bif_t hc458 hm
         refine wp_ift (congrArg Value.bool hc458) ?_
         refine wp_skip (then_n (wp_seq (wp_block (wp_seq ?_))))
         refine wp_region_St hst 12 [0, 1, 2, 3, 4, 5, 6, 7, 8, 9, 10, 11] [0, 1, 0, 7, 15, 0, 32, 0, 224, 480, 1023, 2047] [] rfl (by kernel_rfl) (by kernel_rfl) Try.mixed (by kernel_rfl) ?_
         refine wsr (.pointer (some ⟨b398, 3, none⟩)) 0 rfl rfl rfl (by kernel_rfl) (fun w hst => x_field rfl Try.underlying34 rfl Try.sizeOf31 rfl) ?_
         refine wsr (r0_0) 1 rfl rfl rfl (by kernel_rfl) (fun w hst => x_load rfl Try.isAgg31 (hst.bc1 rfl)) ?_
         refine wsr (.int .i64 z449) 2 rfl rfl rfl (by kernel_rfl) (fun w hst => rfl) ?_
         obtain ⟨x459, hx460, hm⟩ := bind_some hm
         obtain ⟨h461, h462, hi463⟩ := geto_some hx460
         refine wsr (.pointer (some (eAddr r0_0 (z449.toNat * 1 + 0)))) 3 rfl rfl rfl (by kernel_rfl) (fun w hst => x_index rfl rfl Try.underlying31 Try.sizeOf41 (rd_sliceV f0_0) h461 h462) ?_
         refine wsr (.float .f64 x459) 4 rfl rfl rfl (by kernel_rfl) (fun w hst => x_load rfl Try.isAgg41 (rd_load f0_0 (HL.le.refl _) hst hi463 (by rintro _ rfl; rfl))) ?_
         refine wsr (.pointer (some ⟨b403, 3, none⟩)) 5 rfl rfl rfl (by kernel_rfl) (fun w hst => x_field rfl Try.underlying34 rfl Try.sizeOf31 rfl) ?_
         refine wsr (r1_0) 6 rfl rfl rfl (by kernel_rfl) (fun w hst => x_load rfl Try.isAgg31 (hst.bc0 rfl)) ?_
         refine wsr (.int .i64 z449) 7 rfl rfl rfl (by kernel_rfl) (fun w hst => rfl) ?_
         obtain ⟨x464, hx465, hm⟩ := bind_some hm
         obtain ⟨h466, h467, hi468⟩ := geto_some hx465
         refine wsr (.pointer (some (eAddr r1_0 (z449.toNat * 1 + 0)))) 8 rfl rfl rfl (by kernel_rfl) (fun w hst => x_index rfl rfl Try.underlying31 Try.sizeOf41 (rd_sliceV f1_0) h466 h467) ?_
         refine wsr (.float .f64 x464) 9 rfl rfl rfl (by kernel_rfl) (fun w hst => x_load rfl Try.isAgg41 (rd_load f1_0 (HL.le.refl _) hst hi468 (by rintro _ rfl; rfl))) ?_
         refine ws_e1 10 (by kernel_rfl) ?_
         refine nxe [11] (by kernel_rfl) rfl rfl ?_
         clear hst
         intro w hst
         obtain ⟨t469, ht470, hm⟩ := bind_some hm
         refine we_call rfl (x_call Try.call62 rfl (vs := [.float .f64 x459, .float .f64 x464]) rfl) ?_
         refine (ref01_Same_ref hst.to0 ht470).mono ?_
         rintro _ w471 ⟨rfl, hst⟩
         refine ⟨_, rfl, ?_⟩
         replace hst := hst.of0
         refine ws_next (pend' := []) hst (by kernel_rfl) pk_nil ?_
         refine wsr (.bool (!t469)) 11 rfl rfl rfl (by kernel_rfl) (fun w hst => rfl) ?_
         refine ws_nil ?_
         intro w hst
         refine then_n ?_
         refine bsplit (!t469) (fun hc474 => ?_) (fun hc474 => ?_)
         ·skip
          replace hm := bif_t hc474 hm
          refine wp_ift (congrArg Value.bool hc474) ?_
          refine wp_seq (wp_region_lit ?_)
          refine wv (.bool false) rfl rfl rfl ?_
          refine wl_nil (then_n (wp_ret (blk_r (then_r (then_r ?_)))))
          replace hm := inr_up hm hx456
          refine blk_r (then_r ?_)
          replace hm := inr_up hm hx478
          obtain rfl := some_inj hm
          refine post_ret (vs := [.bool false]) Try.results33 (rvs_cons (rv_tmp rfl) rvs_nil) ?_
          exact ⟨rfl, hst.keep0⟩
         ·skip
          replace hm := bif_f hc474 hm
          refine wp_iff (congrArg Value.bool hc474) ?_
          refine wp_skip (blk_n (then_n (wp_region_lit ?_)))
          refine wv (.int .i64 z449) rfl rfl rfl ?_
          refine wv (.int .i64 (IntKind.i64.wrap (z449 + (1:Int)))) rfl rfl rfl ?_
          refine wv (.int .i64 (IntKind.i64.wrap (z449 + (1:Int)))) rfl rfl rfl ?_
          refine wl_nil (then_n ?_)
          replace hst := hst.pull1
          replace hst := hst.pull1
          replace hst := hst.keep2
          obtain rfl := some_inj hm
          exact ⟨_, Nat.lt_succ_self _, (IntKind.i64.wrap (z449 + (1:Int))), _, hx456, ((fr_upd (t := 2) (v := .pointer (some ⟨b398, 0, none⟩)) rfl).trans ((fr_upd (t := 3) (v := .pointer (some ⟨b403, 0, none⟩)) rfl).trans ((fr_upd (t := 5) (v := .int .i64 (IntKind.i64.wrap (z449 + (1:Int)))) rfl).trans rfl))), hst⟩
        ·skip
         replace hm := bif_f hc458 hm
         refine wp_iff (congrArg Value.bool hc458) ?_
         refine wp_exit (then_x (then_x ?_))
         replace hm := inr_up hm hx456
         refine blk_x (then_n ?_)
         replace hst := hst.pull1
         replace hst := hst.keep2
         obtain rfl := some_inj hm
         exact ⟨_, hx478, ((fr_upd (t := 2) (v := .pointer (some ⟨b398, 0, none⟩)) rfl).trans ((fr_upd (t := 3) (v := .pointer (some ⟨b403, 0, none⟩)) rfl).trans rfl)), hst⟩
       ·skip
        clear hst
        rintro _ w479 ⟨σ475, hm, rfl, hst⟩
        dsimp only [ref11_SameHold_j0] at hm
        obtain ⟨y561, hm, hx562⟩ := joinO_some hm
        refine wp_cut (fun a w => ∃ (σ559 : Nat → Value), (ref11_SameHold_j2 a0 a1) () = some r ∧ a = Fr 131 (upd (upd σ559 2 (.pointer (some ⟨b398, 0, none⟩))) 3 (.pointer (some ⟨b403, 0, none⟩))) ∧ St w0 w I [cells b398 [.int .u64 a0.ID.Session, .int .u64 a0.ID.Seq, .int .u64 a0.Epoch, r0_0, r0_1, r0_2, r0_3], cells b403 [.int .u64 a1.ID.Session, .int .u64 a1.ID.Seq, .int .u64 a1.Epoch, r1_0, r1_1, r1_2, r1_3]] R) ?_ ?_
        ·skip
         refine wp_seq (wp_region_lit ?_)
         refine wv (.int .i64 (0:Int)) rfl rfl rfl ?_
         refine wl_nil (then_n (wp_block ?_))
         obtain ⟨n529, hm⟩ := loopO_some hm
         refine wp_loop_n (fun n a w => ∃ (z527 : Int) (σ528 : Nat → Value), loopN (ref11_SameHold_l3 a0 a1) n z527 = some y561 ∧ a = Fr 131 (upd (upd (upd σ528 2 (.pointer (some ⟨b398, 0, none⟩))) 3 (.pointer (some ⟨b403, 0, none⟩))) 6 (.int .i64 z527)) ∧ St w0 w I [cells b398 [.int .u64 a0.ID.Session, .int .u64 a0.ID.Seq, .int .u64 a0.Epoch, r0_0, r0_1, r0_2, r0_3], cells b403 [.int .u64 a1.ID.Session, .int .u64 a1.ID.Seq, .int .u64 a1.Epoch, r1_0, r1_1, r1_2, r1_3]] R) n529 ⟨(0:Int), _, hm, ((fr_upd (t := 2) (v := .pointer (some ⟨b398, 0, none⟩)) rfl).trans ((fr_upd (t := 3) (v := .pointer (some ⟨b403, 0, none⟩)) rfl).trans ((fr_upd (t := 6) (v := .int .i64 (0:Int)) rfl).trans rfl))), hst⟩ ?_
         rintro n535 _ w530 ⟨z527, σ528, hm, rfl, hst⟩
         obtain ⟨n532, y533, rfl, hm, hx534⟩ := loopN_some hm
         dsimp only [ref11_SameHold_l3] at hm
         refine wp_seq (wp_seq (wp_region_lit ?_))
         refine wv (.int .i64 z527) rfl rfl rfl ?_
         refine wv (.pointer (some ⟨b398, 4, none⟩)) rfl rfl (x_field rfl Try.underlying34 rfl Try.sizeOf32 rfl) ?_
         refine wv (r0_1) rfl rfl (x_load rfl Try.isAgg32 (hst.bc0 rfl)) ?_
         refine wv (.int .i64 ((a0.Scans).length : Int)) rfl rfl (x_len rfl Try.underlying32 (rd_sliceV f0_1)) ?_
         refine wv (.bool (decide (z527 < ((a0.Scans).length : Int)))) rfl rfl rfl ?_
         refine wl_nil (then_n ?_)
         refine bsplit (decide (z527 < ((a0.Scans).length : Int))) (fun hc536 => ?_) (fun hc536 => ?_)
         ·skip
          replace hm := bif_t hc536 hm
          refine wp_ift (congrArg Value.bool hc536) ?_
          refine wp_skip (then_n (wp_seq (wp_block (wp_seq ?_))))
          refine wp_region_St hst 30 [0, 1, 2, 3, 4, 5, 6, 7, 8, 9, 10, 11, 12, 13, 14, 15, 16, 17, 18, 19, 20, 21, 22, 23, 24, 25, 26, 27, 28, 29] [0, 1, 0, 7, 15, 31, 0, 64, 0, 448, 960, 1984, 4095, 8191, 16383, 32767, 65535, 32767, 262143, 524287, 1048575, 32767, 2129919, 32767, 14712831, 31490047, 65044479, 134217727, 268435455, 536870911] [] rfl (by kernel_rfl) (by kernel_rfl) Try.mixed (by kernel_rfl) ?_
          refine wsr (.pointer (some ⟨b398, 4, none⟩)) 0 rfl rfl rfl (by kernel_rfl) (fun w hst => x_field rfl Try.underlying34 rfl Try.sizeOf32 rfl) ?_
          refine wsr (r0_1) 1 rfl rfl rfl (by kernel_rfl) (fun w hst => x_load rfl Try.isAgg32 (hst.bc0 rfl)) ?_
          refine wsr (.int .i64 z527) 2 rfl rfl rfl (by kernel_rfl) (fun w hst => rfl) ?_
          obtain ⟨x537, hx538, hm⟩ := bind_some hm
          obtain ⟨h539, h540, hi541⟩ := geto_some hx538
          refine wsr (.pointer (some (eAddr r0_1 (z527.toNat * 2 + 0)))) 3 rfl rfl rfl (by kernel_rfl) (fun w hst => x_index rfl rfl Try.underlying32 Try.sizeOf111 (rd_sliceV f0_1) h539 h540) ?_
          refine wsr (.pointer (some (eAddr r0_1 (z527.toNat * 2 + 0)))) 4 rfl rfl rfl (by kernel_rfl) (fun w hst => x_index_arr_e (i := (0:Int)) rfl rfl Try.underlying111 Try.sizeOf41 (by decide) (by decide) rfl) ?_
          refine wsr (.float .f64 x537.1) 5 rfl rfl rfl (by kernel_rfl) (fun w hst => x_load rfl Try.isAgg41 (rd_load f0_1 (HL.le.refl _) hst hi541 (by rintro _ rfl; rfl))) ?_
          refine wsr (.pointer (some ⟨b403, 4, none⟩)) 6 rfl rfl rfl (by kernel_rfl) (fun w hst => x_field rfl Try.underlying34 rfl Try.sizeOf32 rfl) ?_
          refine wsr (r1_1) 7 rfl rfl rfl (by kernel_rfl) (fun w hst => x_load rfl Try.isAgg32 (hst.bc1 rfl)) ?_
          refine wsr (.int .i64 z527) 8 rfl rfl rfl (by kernel_rfl) (fun w hst => rfl) ?_
          obtain ⟨x542, hx543, hm⟩ := bind_some hm
          obtain ⟨h544, h545, hi546⟩ := geto_some hx543
          refine wsr (.pointer (some (eAddr r1_1 (z527.toNat * 2 + 0)))) 9 rfl rfl rfl (by kernel_rfl) (fun w hst => x_index rfl rfl Try.underlying32 Try.sizeOf111 (rd_sliceV f1_1) h544 h545) ?_
          refine wsr (.pointer (some (eAddr r1_1 (z527.toNat * 2 + 0)))) 10 rfl rfl rfl (by kernel_rfl) (fun w hst => x_index_arr_e (i := (0:Int)) rfl rfl Try.underlying111 Try.sizeOf41 (by decide) (by decide) rfl) ?_
          refine wsr (.float .f64 x542.1) 11 rfl rfl rfl (by kernel_rfl) (fun w hst => x_load rfl Try.isAgg41 (rd_load f1_1 (HL.le.refl _) hst hi546 (by rintro _ rfl; rfl))) ?_
          refine ws_e1 12 (by kernel_rfl) ?_
          refine nxe [13, 14, 15, 16, 17, 18, 19, 20, 21, 22, 23, 24, 25, 26, 27, 28, 29] (by kernel_rfl) rfl rfl ?_
          clear hst
          intro w hst
          obtain ⟨t547, ht548, hm⟩ := bind_some hm
          refine we_call rfl (x_call Try.call62 rfl (vs := [.float .f64 x537.1, .float .f64 x542.1]) rfl) ?_
          refine (ref01_Same_ref hst.to0 ht548).mono ?_
          rintro _ w549 ⟨rfl, hst⟩
          refine ⟨_, rfl, ?_⟩
          replace hst := hst.of0
          refine ws_next (pend' := []) hst (by kernel_rfl) pk_nil ?_
          refine wsr (.bool (!t547)) 13 rfl rfl rfl (by kernel_rfl) (fun w hst => rfl) ?_
          refine wsr (.bool (!t547)) 14 rfl rfl rfl (by kernel_rfl) (fun w hst => rfl) ?_
          refine bsplit (!t547) (fun hc552 => ?_) (fun hc552 => ?_)
          ·skip
           replace hm := bif_t hc552 hm
           refine ws_q (v := undef) 15 [16, 17, 18, 19, 20, 21, 22, 23, 24, 25, 26, 27, 28, 29] (by kernel_rfl) rfl rfl (yi_off ((wanted_eq rfl rfl rfl (congrArg Value.bool hc552)).trans rfl)) ?_
           refine ws_q (v := undef) 16 [17, 18, 19, 20, 21, 22, 23, 24, 25, 26, 27, 28, 29] (by kernel_rfl) rfl rfl (yi_off ((wanted_eq rfl rfl rfl (congrArg Value.bool hc552)).trans rfl)) ?_
           refine ws_q (v := undef) 17 [18, 19, 20, 21, 22, 23, 24, 25, 26, 27, 28, 29] (by kernel_rfl) rfl rfl (yi_off ((wanted_eq rfl rfl rfl (congrArg Value.bool hc552)).trans rfl)) ?_
           refine ws_q (v := undef) 18 [19, 20, 21, 22, 23, 24, 25, 26, 27, 28, 29] (by kernel_rfl) rfl rfl (yi_off ((wanted_eq rfl rfl rfl (congrArg Value.bool hc552)).trans rfl)) ?_
           refine ws_q (v := undef) 19 [20, 21, 22, 23, 24, 25, 26, 27, 28, 29] (by kernel_rfl) rfl rfl (yi_off ((wanted_eq rfl rfl rfl (congrArg Value.bool hc552)).trans rfl)) ?_
           refine ws_q (v := undef) 20 [21, 22, 23, 24, 25, 26, 27, 28, 29] (by kernel_rfl) rfl rfl (yi_off ((wanted_eq rfl rfl rfl (congrArg Value.bool hc552)).trans rfl)) ?_
           refine ws_q (v := undef) 21 [22, 23, 24, 25, 26, 27, 28, 29] (by kernel_rfl) rfl rfl (yi_off ((wanted_eq rfl rfl rfl (congrArg Value.bool hc552)).trans rfl)) ?_
           refine ws_q (v := undef) 22 [23, 24, 25, 26, 27, 28, 29] (by kernel_rfl) rfl rfl (yi_off ((wanted_eq rfl rfl rfl (congrArg Value.bool hc552)).trans rfl)) ?_
           refine ws_q (v := undef) 23 [24, 25, 26, 27, 28, 29] (by kernel_rfl) rfl rfl (yi_off ((wanted_eq rfl rfl rfl (congrArg Value.bool hc552)).trans rfl)) ?_
           refine ws_q (v := undef) 24 [25, 26, 27, 28, 29] (by kernel_rfl) rfl rfl (yi_off ((wanted_eq rfl rfl rfl (congrArg Value.bool hc552)).trans rfl)) ?_
           refine ws_q (v := undef) 25 [26, 27, 28, 29] (by kernel_rfl) rfl rfl (yi_off ((wanted_eq rfl rfl rfl (congrArg Value.bool hc552)).trans rfl)) ?_
           refine ws_q (v := undef) 26 [27, 28, 29] (by kernel_rfl) rfl rfl (yi_off ((wanted_eq rfl rfl rfl (congrArg Value.bool hc552)).trans rfl)) ?_
           refine ws_q (v := undef) 27 [28, 29] (by kernel_rfl) rfl rfl (yi_off ((wanted_eq rfl rfl rfl (congrArg Value.bool hc552)).trans rfl)) ?_
           refine ws_q (v := undef) 28 [29] (by kernel_rfl) rfl rfl (yi_off ((wanted_eq rfl rfl rfl (congrArg Value.bool hc552)).trans rfl)) ?_
           refine wsr (.bool true) 29 rfl rfl rfl (by kernel_rfl) (fun w hst => x_pick_t hc552 rfl rfl) ?_
           refine ws_nil ?_
           intro w hst
           refine then_n ?_
           refine wp_ift rfl ?_
           refine wp_seq (wp_region_lit ?_)
           refine wv (.bool false) rfl rfl rfl ?_
           refine wl_nil (then_n (wp_ret (blk_r (then_r (then_r ?_)))))
           replace hm := inr_up hm hx534
           refine blk_r (then_r ?_)
           replace hm := inr_up hm hx562
           obtain rfl := some_inj hm
           refine post_ret (vs := [.bool false]) Try.results33 (rvs_cons (rv_tmp rfl) rvs_nil) ?_
           exact ⟨rfl, hst.keep0⟩
          ·skip
           replace hm := bif_f hc552 hm
           refine ws_q (v := .pointer (some ⟨b398, 4, none⟩)) 15 [16, 17, 18, 19, 20, 21, 22, 23, 24, 25, 26, 27, 28, 29] (by kernel_rfl) rfl rfl (yi_run ((wanted_eq rfl rfl rfl (congrArg Value.bool hc552)).trans rfl) (fun w hst => x_field rfl Try.underlying34 rfl Try.sizeOf32 rfl)) ?_
           refine ws_q (v := r0_1) 16 [17, 18, 19, 20, 21, 22, 23, 24, 25, 26, 27, 28, 29] (by kernel_rfl) rfl rfl (yi_run ((wanted_eq rfl rfl rfl (congrArg Value.bool hc552)).trans rfl) (fun w hst => x_load rfl Try.isAgg32 (hst.bc0 rfl))) ?_
           refine ws_q (v := .int .i64 z527) 17 [18, 19, 20, 21, 22, 23, 24, 25, 26, 27, 28, 29] (by kernel_rfl) rfl rfl (yi_run ((wanted_eq rfl rfl rfl (congrArg Value.bool hc552)).trans rfl) (fun w hst => rfl)) ?_
           refine ws_q (v := .pointer (some (eAddr r0_1 (z527.toNat * 2 + 0)))) 18 [19, 20, 21, 22, 23, 24, 25, 26, 27, 28, 29] (by kernel_rfl) rfl rfl (yi_run ((wanted_eq rfl rfl rfl (congrArg Value.bool hc552)).trans rfl) (fun w hst => x_index rfl rfl Try.underlying32 Try.sizeOf111 (rd_sliceV f0_1) h539 h540)) ?_
           refine ws_q (v := .pointer (some (eAddr r0_1 (z527.toNat * 2 + 1)))) 19 [20, 21, 22, 23, 24, 25, 26, 27, 28, 29] (by kernel_rfl) rfl rfl (yi_run ((wanted_eq rfl rfl rfl (congrArg Value.bool hc552)).trans rfl) (fun w hst => x_index_arr_e (i := (1:Int)) rfl rfl Try.underlying111 Try.sizeOf41 (by decide) (by decide) rfl)) ?_
           refine ws_q (v := .float .f64 x537.2) 20 [21, 22, 23, 24, 25, 26, 27, 28, 29] (by kernel_rfl) rfl rfl (yi_run ((wanted_eq rfl rfl rfl (congrArg Value.bool hc552)).trans rfl) (fun w hst => x_load rfl Try.isAgg41 (rd_load f0_1 (HL.le.refl _) hst hi541 (by rintro _ rfl; rfl)))) ?_
           refine ws_q (v := .pointer (some ⟨b403, 4, none⟩)) 21 [22, 23, 24, 25, 26, 27, 28, 29] (by kernel_rfl) rfl rfl (yi_run ((wanted_eq rfl rfl rfl (congrArg Value.bool hc552)).trans rfl) (fun w hst => x_field rfl Try.underlying34 rfl Try.sizeOf32 rfl)) ?_
           refine ws_q (v := r1_1) 22 [23, 24, 25, 26, 27, 28, 29] (by kernel_rfl) rfl rfl (yi_run ((wanted_eq rfl rfl rfl (congrArg Value.bool hc552)).trans rfl) (fun w hst => x_load rfl Try.isAgg32 (hst.bc1 rfl))) ?_
           refine ws_q (v := .int .i64 z527) 23 [24, 25, 26, 27, 28, 29] (by kernel_rfl) rfl rfl (yi_run ((wanted_eq rfl rfl rfl (congrArg Value.bool hc552)).trans rfl) (fun w hst => rfl)) ?_
           refine ws_q (v := .pointer (some (eAddr r1_1 (z527.toNat * 2 + 0)))) 24 [25, 26, 27, 28, 29] (by kernel_rfl) rfl rfl (yi_run ((wanted_eq rfl rfl rfl (congrArg Value.bool hc552)).trans rfl) (fun w hst => x_index rfl rfl Try.underlying32 Try.sizeOf111 (rd_sliceV f1_1) h544 h545)) ?_
           refine ws_q (v := .pointer (some (eAddr r1_1 (z527.toNat * 2 + 1)))) 25 [26, 27, 28, 29] (by kernel_rfl) rfl rfl (yi_run ((wanted_eq rfl rfl rfl (congrArg Value.bool hc552)).trans rfl) (fun w hst => x_index_arr_e (i := (1:Int)) rfl rfl Try.underlying111 Try.sizeOf41 (by decide) (by decide) rfl)) ?_
           refine ws_q (v := .float .f64 x542.2) 26 [27, 28, 29] (by kernel_rfl) rfl rfl (yi_run ((wanted_eq rfl rfl rfl (congrArg Value.bool hc552)).trans rfl) (fun w hst => x_load rfl Try.isAgg41 (rd_load f1_1 (HL.le.refl _) hst hi546 (by rintro _ rfl; rfl)))) ?_
           refine ws_e1 27 (by kernel_rfl) ?_
           refine nxe [28, 29] (by kernel_rfl) rfl ((wanted_eq rfl rfl rfl (congrArg Value.bool hc552)).trans rfl) ?_
           clear hst
           intro w hst
           obtain ⟨t553, ht554, hm⟩ := bind_some hm
           refine we_call rfl (x_call Try.call62 rfl (vs := [.float .f64 x537.2, .float .f64 x542.2]) rfl) ?_
           refine (ref01_Same_ref hst.to0 ht554).mono ?_
           rintro _ w555 ⟨rfl, hst⟩
           refine ⟨_, rfl, ?_⟩
           replace hst := hst.of0
           refine ws_next (pend' := []) hst (by kernel_rfl) pk_nil ?_
           refine ws_q (v := .bool (!t553)) 28 [29] (by kernel_rfl) rfl rfl (yi_run ((wanted_eq rfl rfl rfl (congrArg Value.bool hc552)).trans rfl) (fun w hst => rfl)) ?_
           refine wsr (.bool (!t553)) 29 rfl rfl rfl (by kernel_rfl) (fun w hst => x_pick_f hc552 rfl rfl) ?_
           refine ws_nil ?_
           intro w hst
           refine then_n ?_
           refine bsplit (!t553) (fun hc558 => ?_) (fun hc558 => ?_)
           ·skip
            replace hm := bif_t hc558 hm
            refine wp_ift (congrArg Value.bool hc558) ?_
            refine wp_seq (wp_region_lit ?_)
            refine wv (.bool false) rfl rfl rfl ?_
            refine wl_nil (then_n (wp_ret (blk_r (then_r (then_r ?_)))))
            replace hm := inr_up hm hx534
            refine blk_r (then_r ?_)
            replace hm := inr_up hm hx562
            obtain rfl := some_inj hm
            refine post_ret (vs := [.bool false]) Try.results33 (rvs_cons (rv_tmp rfl) rvs_nil) ?_
            exact ⟨rfl, hst.keep0⟩
           ·skip
            replace hm := bif_f hc558 hm
            refine wp_iff (congrArg Value.bool hc558) ?_
            refine wp_skip (blk_n (then_n (wp_region_lit ?_)))
            refine wv (.int .i64 z527) rfl rfl rfl ?_
            refine wv (.int .i64 (IntKind.i64.wrap (z527 + (1:Int)))) rfl rfl rfl ?_
            refine wv (.int .i64 (IntKind.i64.wrap (z527 + (1:Int)))) rfl rfl rfl ?_
            refine wl_nil (then_n ?_)
            replace hst := hst.pull1
            replace hst := hst.pull1
            replace hst := hst.keep2
            obtain rfl := some_inj hm
            exact ⟨_, Nat.lt_succ_self _, (IntKind.i64.wrap (z527 + (1:Int))), _, hx534, ((fr_upd (t := 2) (v := .pointer (some ⟨b398, 0, none⟩)) rfl).trans ((fr_upd (t := 3) (v := .pointer (some ⟨b403, 0, none⟩)) rfl).trans ((fr_upd (t := 6) (v := .int .i64 (IntKind.i64.wrap (z527 + (1:Int)))) rfl).trans rfl))), hst⟩
         ·skip
          replace hm := bif_f hc536 hm
          refine wp_iff (congrArg Value.bool hc536) ?_
          refine wp_exit (then_x (then_x ?_))
          replace hm := inr_up hm hx534
          refine blk_x (then_n ?_)
          replace hst := hst.pull1
          replace hst := hst.pull1
          replace hst := hst.keep2
          obtain rfl := some_inj hm
          exact ⟨_, hx562, ((fr_upd (t := 2) (v := .pointer (some ⟨b398, 0, none⟩)) rfl).trans ((fr_upd (t := 3) (v := .pointer (some ⟨b403, 0, none⟩)) rfl).trans rfl)), hst⟩
        ·skip
         clear hst
         rintro _ w563 ⟨σ559, hm, rfl, hst⟩
         dsimp only [ref11_SameHold_j2] at hm
         refine wp_seq (wp_seq (wp_region_lit ?_))
         refine wv (.int .i64 (0:Int)) rfl rfl rfl ?_
         refine wl_nil (then_n (wp_block ?_))
         obtain ⟨n601, hm⟩ := loopO_some hm
         refine wp_loop_n (fun n a w => ∃ (z599 : Int) (σ600 : Nat → Value), loopN (ref11_SameHold_l4 a0 a1) n z599 = some r ∧ a = Fr 131 (upd (upd (upd σ600 2 (.pointer (some ⟨b398, 0, none⟩))) 3 (.pointer (some ⟨b403, 0, none⟩))) 7 (.int .i64 z599)) ∧ St w0 w I [cells b398 [.int .u64 a0.ID.Session, .int .u64 a0.ID.Seq, .int .u64 a0.Epoch, r0_0, r0_1, r0_2, r0_3], cells b403 [.int .u64 a1.ID.Session, .int .u64 a1.ID.Seq, .int .u64 a1.Epoch, r1_0, r1_1, r1_2, r1_3]] R) n601 ⟨(0:Int), _, hm, ((fr_upd (t := 2) (v := .pointer (some ⟨b398, 0, none⟩)) rfl).trans ((fr_upd (t := 3) (v := .pointer (some ⟨b403, 0, none⟩)) rfl).trans ((fr_upd (t := 7) (v := .int .i64 (0:Int)) rfl).trans rfl))), hst⟩ ?_
         rintro n607 _ w602 ⟨z599, σ600, hm, rfl, hst⟩
         obtain ⟨n604, y605, rfl, hm, hx606⟩ := loopN_some hm
         dsimp only [ref11_SameHold_l4] at hm
         refine wp_seq (wp_seq (wp_region_lit ?_))
         refine wv (.int .i64 z599) rfl rfl rfl ?_
         refine wv (.pointer (some ⟨b398, 5, none⟩)) rfl rfl (x_field rfl Try.underlying34 rfl Try.sizeOf31 rfl) ?_
         refine wv (r0_2) rfl rfl (x_load rfl Try.isAgg31 (hst.bc0 rfl)) ?_
         refine wv (.int .i64 ((a0.Puts).length : Int)) rfl rfl (x_len rfl Try.underlying31 (rd_sliceV f0_2)) ?_
         refine wv (.bool (decide (z599 < ((a0.Puts).length : Int)))) rfl rfl rfl ?_
         refine wl_nil (then_n ?_)
         refine bsplit (decide (z599 < ((a0.Puts).length : Int))) (fun hc608 => ?_) (fun hc608 => ?_)
         ·skip
          replace hm := bif_t hc608 hm
          refine wp_ift (congrArg Value.bool hc608) ?_
          refine wp_skip (then_n (wp_seq (wp_block (wp_seq ?_))))
          refine wp_region_St hst 12 [0, 1, 2, 3, 4, 5, 6, 7, 8, 9, 10, 11] [0, 1, 0, 7, 15, 0, 32, 0, 224, 480, 1023, 2047] [] rfl (by kernel_rfl) (by kernel_rfl) Try.mixed (by kernel_rfl) ?_
          refine wsr (.pointer (some ⟨b398, 5, none⟩)) 0 rfl rfl rfl (by kernel_rfl) (fun w hst => x_field rfl Try.underlying34 rfl Try.sizeOf31 rfl) ?_
          refine wsr (r0_2) 1 rfl rfl rfl (by kernel_rfl) (fun w hst => x_load rfl Try.isAgg31 (hst.bc0 rfl)) ?_
          refine wsr (.int .i64 z599) 2 rfl rfl rfl (by kernel_rfl) (fun w hst => rfl) ?_
          obtain ⟨x609, hx610, hm⟩ := bind_some hm
          obtain ⟨h611, h612, hi613⟩ := geto_some hx610
          refine wsr (.pointer (some (eAddr r0_2 (z599.toNat * 1 + 0)))) 3 rfl rfl rfl (by kernel_rfl) (fun w hst => x_index rfl rfl Try.underlying31 Try.sizeOf41 (rd_sliceV f0_2) h611 h612) ?_
          refine wsr (.float .f64 x609) 4 rfl rfl rfl (by kernel_rfl) (fun w hst => x_load rfl Try.isAgg41 (rd_load f0_2 (HL.le.refl _) hst hi613 (by rintro _ rfl; rfl))) ?_
          refine wsr (.pointer (some ⟨b403, 5, none⟩)) 5 rfl rfl rfl (by kernel_rfl) (fun w hst => x_field rfl Try.underlying34 rfl Try.sizeOf31 rfl) ?_
          refine wsr (r1_2) 6 rfl rfl rfl (by kernel_rfl) (fun w hst => x_load rfl Try.isAgg31 (hst.bc1 rfl)) ?_
          refine wsr (.int .i64 z599) 7 rfl rfl rfl (by kernel_rfl) (fun w hst => rfl) ?_
          obtain ⟨x614, hx615, hm⟩ := bind_some hm
          obtain ⟨h616, h617, hi618⟩ := geto_some hx615
          refine wsr (.pointer (some (eAddr r1_2 (z599.toNat * 1 + 0)))) 8 rfl rfl rfl (by kernel_rfl) (fun w hst => x_index rfl rfl Try.underlying31 Try.sizeOf41 (rd_sliceV f1_2) h616 h617) ?_
          refine wsr (.float .f64 x614) 9 rfl rfl rfl (by kernel_rfl) (fun w hst => x_load rfl Try.isAgg41 (rd_load f1_2 (HL.le.refl _) hst hi618 (by rintro _ rfl; rfl))) ?_
          refine ws_e1 10 (by kernel_rfl) ?_
          refine nxe [11] (by kernel_rfl) rfl rfl ?_
          clear hst
          intro w hst
          obtain ⟨t619, ht620, hm⟩ := bind_some hm
          refine we_call rfl (x_call Try.call62 rfl (vs := [.float .f64 x609, .float .f64 x614]) rfl) ?_
          refine (ref01_Same_ref hst.to0 ht620).mono ?_
          rintro _ w621 ⟨rfl, hst⟩
          refine ⟨_, rfl, ?_⟩
          replace hst := hst.of0
          refine ws_next (pend' := []) hst (by kernel_rfl) pk_nil ?_
          refine wsr (.bool (!t619)) 11 rfl rfl rfl (by kernel_rfl) (fun w hst => rfl) ?_
          refine ws_nil ?_
          intro w hst
          refine then_n ?_
          refine bsplit (!t619) (fun hc624 => ?_) (fun hc624 => ?_)
          ·skip
           replace hm := bif_t hc624 hm
           refine wp_ift (congrArg Value.bool hc624) ?_
           refine wp_seq (wp_region_lit ?_)
           refine wv (.bool false) rfl rfl rfl ?_
           refine wl_nil (then_n (wp_ret (blk_r (then_r (then_r ?_)))))
           replace hm := inr_up hm hx606
           refine blk_r (then_r ?_)
           obtain rfl := some_inj hm
           refine post_ret (vs := [.bool false]) Try.results33 (rvs_cons (rv_tmp rfl) rvs_nil) ?_
           exact ⟨rfl, hst.keep0⟩
          ·skip
           replace hm := bif_f hc624 hm
           refine wp_iff (congrArg Value.bool hc624) ?_
           refine wp_skip (blk_n (then_n (wp_region_lit ?_)))
           refine wv (.int .i64 z599) rfl rfl rfl ?_
           refine wv (.int .i64 (IntKind.i64.wrap (z599 + (1:Int)))) rfl rfl rfl ?_
           refine wv (.int .i64 (IntKind.i64.wrap (z599 + (1:Int)))) rfl rfl rfl ?_
           refine wl_nil (then_n ?_)
           replace hst := hst.pull1
           replace hst := hst.pull1
           replace hst := hst.keep2
           obtain rfl := some_inj hm
           exact ⟨_, Nat.lt_succ_self _, (IntKind.i64.wrap (z599 + (1:Int))), _, hx606, ((fr_upd (t := 2) (v := .pointer (some ⟨b398, 0, none⟩)) rfl).trans ((fr_upd (t := 3) (v := .pointer (some ⟨b403, 0, none⟩)) rfl).trans ((fr_upd (t := 7) (v := .int .i64 (IntKind.i64.wrap (z599 + (1:Int)))) rfl).trans rfl))), hst⟩
         ·skip
          replace hm := bif_f hc608 hm
          refine wp_iff (congrArg Value.bool hc608) ?_
          refine wp_exit (then_x (then_x ?_))
          replace hm := inr_up hm hx606
          refine blk_x (then_n (wp_seq (wp_region_lit ?_)))
          refine wv (.bool true) rfl rfl rfl ?_
          refine wl_nil (then_n (wp_ret ?_))
          obtain rfl := some_inj hm
          refine post_ret (vs := [.bool true]) Try.results33 (rvs_cons (rv_tmp rfl) rvs_nil) ?_
          exact ⟨rfl, hst.keep0⟩

theorem ref13_SameWrites_ref {w0 w : World} {I : HL} {R : SP} {a0 : (List api_Write)} {r0_0 : Value} {a1 : (List api_Write)} {r1_0 : Value} (f0_0 : Rd ty_api_Write R I r0_0 a0) (f1_0 : Rd ty_api_Write R I r1_0 a1) (hst : St w0 w I [] R) {r : (Bool)} (hm : ref13_SameWrites a0 a1 = some r) :
  Calls Try.prog 34 #[r0_0, r1_0] w fun e w' => e = .returned (.bool r) ∧ St w0 w' I [] R := by
 unfold ref13_SameWrites at hm
 refine calls_start (args := [r0_0, r1_0]) Try.func34 rfl Try.ntmps34 (Nat.le_of_ble_eq_true rfl) ?_
 refine wp_seq (wp_region_lit ?_)
 refine wv (.bool false) rfl rfl rfl ?_
 refine wl_nil (then_n (wp_seq (wp_seq (wp_region_lit ?_))))
 refine wv (r0_0) rfl rfl rfl ?_
 refine wv (.int .i64 ((a0).length : Int)) rfl rfl (x_len rfl Try.underlying35 (rd_sliceV f0_0)) ?_
 refine wv (r1_0) rfl rfl rfl ?_
 refine wv (.int .i64 ((a1).length : Int)) rfl rfl (x_len rfl Try.underlying35 (rd_sliceV f1_0)) ?_
 refine wv (.bool (((a0).length : Int) != ((a1).length : Int))) rfl rfl rfl ?_
 refine wl_nil (then_n ?_)
 refine bsplit (((a0).length : Int) != ((a1).length : Int)) (fun hc305 => ?_) (fun hc305 => ?_)
 ·skip
  replace hm := bif_t hc305 hm
  refine wp_ift (congrArg Value.bool hc305) ?_
  refine wp_seq (wp_region_lit ?_)
  refine wv (.bool false) rfl rfl rfl ?_
  refine wl_nil (then_n (wp_ret (then_r ?_)))
  obtain rfl := some_inj hm
  refine post_ret (vs := [.bool false]) Try.results34 (rvs_cons (rv_tmp rfl) rvs_nil) ?_
  exact ⟨rfl, hst.keep0⟩
 ·skip
  replace hm := bif_f hc305 hm
  refine wp_iff (congrArg Value.bool hc305) ?_
  refine wp_skip (then_n (wp_seq (wp_seq (wp_region_lit ?_))))
  refine wv (.int .i64 (0:Int)) rfl rfl rfl ?_
  refine wl_nil (then_n (wp_block ?_))
  obtain ⟨n395, hm⟩ := loopO_some hm
  refine wp_loop_n (fun n a w => ∃ (z393 : Int) (σ394 : Nat → Value), loopN (ref13_SameWrites_l0 a0 a1) n z393 = some r ∧ a = Fr 57 (upd (upd (upd σ394 0 (r0_0)) 1 (r1_0)) 5 (.int .i64 z393)) ∧ St w0 w I [] R) n395 ⟨(0:Int), _, hm, ((fr_upd (t := 0) (v := r0_0) rfl).trans ((fr_upd (t := 1) (v := r1_0) rfl).trans ((fr_upd (t := 5) (v := .int .i64 (0:Int)) rfl).trans rfl))), hst⟩ ?_
  rintro n401 _ w396 ⟨z393, σ394, hm, rfl, hst⟩
  obtain ⟨n398, y399, rfl, hm, hx400⟩ := loopN_some hm
  dsimp only [ref13_SameWrites_l0] at hm
  refine wp_seq (wp_seq (wp_region_lit ?_))
  refine wv (.int .i64 z393) rfl rfl rfl ?_
  refine wv (r0_0) rfl rfl rfl ?_
  refine wv (.int .i64 ((a0).length : Int)) rfl rfl (x_len rfl Try.underlying35 (rd_sliceV f0_0)) ?_
  refine wv (.bool (decide (z393 < ((a0).length : Int)))) rfl rfl rfl ?_
  refine wl_nil (then_n ?_)
  refine bsplit (decide (z393 < ((a0).length : Int))) (fun hc402 => ?_) (fun hc402 => ?_)
  ·skip
   replace hm := bif_t hc402 hm
   refine wp_ift (congrArg Value.bool hc402) ?_
   refine wp_skip (then_n (wp_seq (wp_block (wp_seq ?_))))
   refine wp_region_St hst 40 [0, 1, 2, 3, 4, 5, 6, 7, 8, 9, 10, 11, 12, 13, 14, 15, 16, 17, 18, 19, 20, 21, 22, 23, 24, 25, 26, 27, 28, 29, 30, 31, 32, 33, 34, 35, 36, 37, 38, 39] [0, 0, 3, 7, 15, 0, 0, 96, 224, 480, 1023, 2047, 4095, 8191, 8191, 32767, 65535, 131071, 8191, 8191, 794623, 1843199, 3940351, 8388607, 16777215, 33554431, 67108863, 67108863, 268435455, 536870911, 1073741823, 2147483647, 67108863, 67108863, 12952010751, 30131879935, 64491618303, 133211095039, 274877906943, 549755813887] [] rfl (by kernel_rfl) (by kernel_rfl) Try.mixed (by kernel_rfl) ?_
   refine wsr (r0_0) 0 rfl rfl rfl (by kernel_rfl) (fun w hst => rfl) ?_
   refine wsr (.int .i64 z393) 1 rfl rfl rfl (by kernel_rfl) (fun w hst => rfl) ?_
   obtain ⟨x403, hx404, hm⟩ := bind_some hm
   obtain ⟨h405, h406, hi407⟩ := geto_some hx404
   refine wsr (.pointer (some (eAddr r0_0 (z393.toNat * 3 + 0)))) 2 rfl rfl rfl (by kernel_rfl) (fun w hst => x_index rfl rfl Try.underlying35 Try.sizeOf73 (rd_sliceV f0_0) h405 h406) ?_
   refine wsr (.pointer (some (eAddr r0_0 (z393.toNat * 3 + 0)))) 3 rfl rfl rfl (by kernel_rfl) (fun w hst => x_field_e rfl Try.underlying73 rfl Try.sizeOf41 rfl) ?_
   obtain ⟨cs408, hr409, hc410⟩ := Rd.getF f0_0 hi407
   obtain ⟨v411, rfl, f412, -⟩ := hr409
   refine wsr (.float .f64 x403.At) 4 rfl rfl rfl (by kernel_rfl) (fun w hst => x_load rfl Try.isAgg41 ((hc410 (HL.le.refl _) hst) 0 _ rfl)) ?_
   refine wsr (r1_0) 5 rfl rfl rfl (by kernel_rfl) (fun w hst => rfl) ?_
   refine wsr (.int .i64 z393) 6 rfl rfl rfl (by kernel_rfl) (fun w hst => rfl) ?_
   obtain ⟨x414, hx415, hm⟩ := bind_some hm
   obtain ⟨h416, h417, hi418⟩ := geto_some hx415
   refine wsr (.pointer (some (eAddr r1_0 (z393.toNat * 3 + 0)))) 7 rfl rfl rfl (by kernel_rfl) (fun w hst => x_index rfl rfl Try.underlying35 Try.sizeOf73 (rd_sliceV f1_0) h416 h417) ?_
   refine wsr (.pointer (some (eAddr r1_0 (z393.toNat * 3 + 0)))) 8 rfl rfl rfl (by kernel_rfl) (fun w hst => x_field_e rfl Try.underlying73 rfl Try.sizeOf41 rfl) ?_
   obtain ⟨cs419, hr420, hc421⟩ := Rd.getF f1_0 hi418
   obtain ⟨v422, rfl, f423, -⟩ := hr420
   refine wsr (.float .f64 x414.At) 9 rfl rfl rfl (by kernel_rfl) (fun w hst => x_load rfl Try.isAgg41 ((hc421 (HL.le.refl _) hst) 0 _ rfl)) ?_
   refine ws_e1 10 (by kernel_rfl) ?_
   refine nxe [11, 12, 13, 14, 15, 16, 17, 18, 19, 20, 21, 22, 23, 24, 25, 26, 27, 28, 29, 30, 31, 32, 33, 34, 35, 36, 37, 38, 39] (by kernel_rfl) rfl rfl ?_
   clear hst
   intro w hst
   obtain ⟨t425, ht426, hm⟩ := bind_some hm
   refine we_call rfl (x_call Try.call62 rfl (vs := [.float .f64 x403.At, .float .f64 x414.At]) rfl) ?_
   refine (ref01_Same_ref hst.to0 ht426).mono ?_
   rintro _ w427 ⟨rfl, hst⟩
   refine ⟨_, rfl, ?_⟩
   replace hst := hst.of0
   refine ws_next (pend' := []) hst (by kernel_rfl) pk_nil ?_
   refine wsr (.bool (!t425)) 11 rfl rfl rfl (by kernel_rfl) (fun w hst => rfl) ?_
   refine wsr (.bool (!t425)) 12 rfl rfl rfl (by kernel_rfl) (fun w hst => rfl) ?_
   refine bsplit (!t425) (fun hc430 => ?_) (fun hc430 => ?_)
   ·skip
    replace hm := bif_t hc430 hm
    refine ws_q (v := undef) 13 [14, 15, 16, 17, 18, 19, 20, 21, 22, 23, 24, 25, 26, 27, 28, 29, 30, 31, 32, 33, 34, 35, 36, 37, 38, 39] (by kernel_rfl) rfl rfl (yi_off ((wanted_eq rfl rfl rfl (congrArg Value.bool hc430)).trans rfl)) ?_
    refine ws_q (v := undef) 14 [15, 16, 17, 18, 19, 20, 21, 22, 23, 24, 25, 26, 27, 28, 29, 30, 31, 32, 33, 34, 35, 36, 37, 38, 39] (by kernel_rfl) rfl rfl (yi_off ((wanted_eq rfl rfl rfl (congrArg Value.bool hc430)).trans rfl)) ?_
    refine ws_q (v := undef) 15 [16, 17, 18, 19, 20, 21, 22, 23, 24, 25, 26, 27, 28, 29, 30, 31, 32, 33, 34, 35, 36, 37, 38, 39] (by kernel_rfl) rfl rfl (yi_off ((wanted_eq rfl rfl rfl (congrArg Value.bool hc430)).trans rfl)) ?_
    refine ws_q (v := undef) 16 [17, 18, 19, 20, 21, 22, 23, 24, 25, 26, 27, 28, 29, 30, 31, 32, 33, 34, 35, 36, 37, 38, 39] (by kernel_rfl) rfl rfl (yi_off ((wanted_eq rfl rfl rfl (congrArg Value.bool hc430)).trans rfl)) ?_
    refine ws_q (v := undef) 17 [18, 19, 20, 21, 22, 23, 24, 25, 26, 27, 28, 29, 30, 31, 32, 33, 34, 35, 36, 37, 38, 39] (by kernel_rfl) rfl rfl (yi_off ((wanted_eq rfl rfl rfl (congrArg Value.bool hc430)).trans rfl)) ?_
    refine ws_q (v := undef) 18 [19, 20, 21, 22, 23, 24, 25, 26, 27, 28, 29, 30, 31, 32, 33, 34, 35, 36, 37, 38, 39] (by kernel_rfl) rfl rfl (yi_off ((wanted_eq rfl rfl rfl (congrArg Value.bool hc430)).trans rfl)) ?_
    refine ws_q (v := undef) 19 [20, 21, 22, 23, 24, 25, 26, 27, 28, 29, 30, 31, 32, 33, 34, 35, 36, 37, 38, 39] (by kernel_rfl) rfl rfl (yi_off ((wanted_eq rfl rfl rfl (congrArg Value.bool hc430)).trans rfl)) ?_
    refine ws_q (v := undef) 20 [21, 22, 23, 24, 25, 26, 27, 28, 29, 30, 31, 32, 33, 34, 35, 36, 37, 38, 39] (by kernel_rfl) rfl rfl (yi_off ((wanted_eq rfl rfl rfl (congrArg Value.bool hc430)).trans rfl)) ?_
    refine ws_q (v := undef) 21 [22, 23, 24, 25, 26, 27, 28, 29, 30, 31, 32, 33, 34, 35, 36, 37, 38, 39] (by kernel_rfl) rfl rfl (yi_off ((wanted_eq rfl rfl rfl (congrArg Value.bool hc430)).trans rfl)) ?_
    refine ws_q (v := undef) 22 [23, 24, 25, 26, 27, 28, 29, 30, 31, 32, 33, 34, 35, 36, 37, 38, 39] (by kernel_rfl) rfl rfl (yi_off ((wanted_eq rfl rfl rfl (congrArg Value.bool hc430)).trans rfl)) ?_
    refine ws_q (v := undef) 23 [24, 25, 26, 27, 28, 29, 30, 31, 32, 33, 34, 35, 36, 37, 38, 39] (by kernel_rfl) rfl rfl (yi_off ((wanted_eq rfl rfl rfl (congrArg Value.bool hc430)).trans rfl)) ?_
    refine wsr (.bool true) 24 rfl rfl rfl (by kernel_rfl) (fun w hst => x_pick_t hc430 rfl rfl) ?_
    refine wsr (.bool true) 25 rfl rfl rfl (by kernel_rfl) (fun w hst => rfl) ?_
    refine ws_q (v := undef) 26 [27, 28, 29, 30, 31, 32, 33, 34, 35, 36, 37, 38, 39] (by kernel_rfl) rfl rfl (yi_off ((wanted_eq rfl rfl rfl rfl).trans rfl)) ?_
    refine ws_q (v := undef) 27 [28, 29, 30, 31, 32, 33, 34, 35, 36, 37, 38, 39] (by kernel_rfl) rfl rfl (yi_off ((wanted_eq rfl rfl rfl rfl).trans rfl)) ?_
    refine ws_q (v := undef) 28 [29, 30, 31, 32, 33, 34, 35, 36, 37, 38, 39] (by kernel_rfl) rfl rfl (yi_off ((wanted_eq rfl rfl rfl rfl).trans rfl)) ?_
    refine ws_q (v := undef) 29 [30, 31, 32, 33, 34, 35, 36, 37, 38, 39] (by kernel_rfl) rfl rfl (yi_off ((wanted_eq rfl rfl rfl rfl).trans rfl)) ?_
    refine ws_q (v := undef) 30 [31, 32, 33, 34, 35, 36, 37, 38, 39] (by kernel_rfl) rfl rfl (yi_off ((wanted_eq rfl rfl rfl rfl).trans rfl)) ?_
    refine ws_q (v := undef) 31 [32, 33, 34, 35, 36, 37, 38, 39] (by kernel_rfl) rfl rfl (yi_off ((wanted_eq rfl rfl rfl rfl).trans rfl)) ?_
    refine ws_q (v := undef) 32 [33, 34, 35, 36, 37, 38, 39] (by kernel_rfl) rfl rfl (yi_off ((wanted_eq rfl rfl rfl rfl).trans rfl)) ?_
    refine ws_q (v := undef) 33 [34, 35, 36, 37, 38, 39] (by kernel_rfl) rfl rfl (yi_off ((wanted_eq rfl rfl rfl rfl).trans rfl)) ?_
    refine ws_q (v := undef) 34 [35, 36, 37, 38, 39] (by kernel_rfl) rfl rfl (yi_off ((wanted_eq rfl rfl rfl rfl).trans rfl)) ?_
    refine ws_q (v := undef) 35 [36, 37, 38, 39] (by kernel_rfl) rfl rfl (yi_off ((wanted_eq rfl rfl rfl rfl).trans rfl)) ?_
    refine ws_q (v := undef) 36 [37, 38, 39] (by kernel_rfl) rfl rfl (yi_off ((wanted_eq rfl rfl rfl rfl).trans rfl)) ?_
    refine ws_q (v := undef) 37 [38, 39] (by kernel_rfl) rfl rfl (yi_off ((wanted_eq rfl rfl rfl rfl).trans rfl)) ?_
    refine ws_q (v := undef) 38 [39] (by kernel_rfl) rfl rfl (yi_off ((wanted_eq rfl rfl rfl rfl).trans rfl)) ?_
    refine wsr (.bool true) 39 rfl rfl rfl (by kernel_rfl) (fun w hst => x_pick_t rfl rfl rfl) ?_
    refine ws_nil ?_
    intro w hst
    refine then_n ?_
    refine wp_ift rfl ?_
    refine wp_seq (wp_region_lit ?_)
    refine wv (.bool false) rfl rfl rfl ?_
    refine wl_nil (then_n (wp_ret (blk_r (then_r (then_r ?_)))))
    replace hm := inr_up hm hx400
    refine blk_r (then_r ?_)
    obtain rfl := some_inj hm
    refine post_ret (vs := [.bool false]) Try.results34 (rvs_cons (rv_tmp rfl) rvs_nil) ?_
    exact ⟨rfl, hst.keep0⟩
   ·skip
    replace hm := bif_f hc430 hm
    refine ws_q (v := r0_0) 13 [14, 15, 16, 17, 18, 19, 20, 21, 22, 23, 24, 25, 26, 27, 28, 29, 30, 31, 32, 33, 34, 35, 36, 37, 38, 39] (by kernel_rfl) rfl rfl (yi_run ((wanted_eq rfl rfl rfl (congrArg Value.bool hc430)).trans rfl) (fun w hst => rfl)) ?_
    refine ws_q (v := .int .i64 z393) 14 [15, 16, 17, 18, 19, 20, 21, 22, 23, 24, 25, 26, 27, 28, 29, 30, 31, 32, 33, 34, 35, 36, 37, 38, 39] (by kernel_rfl) rfl rfl (yi_run ((wanted_eq rfl rfl rfl (congrArg Value.bool hc430)).trans rfl) (fun w hst => rfl)) ?_
    refine ws_q (v := .pointer (some (eAddr r0_0 (z393.toNat * 3 + 0)))) 15 [16, 17, 18, 19, 20, 21, 22, 23, 24, 25, 26, 27, 28, 29, 30, 31, 32, 33, 34, 35, 36, 37, 38, 39] (by kernel_rfl) rfl rfl (yi_run ((wanted_eq rfl rfl rfl (congrArg Value.bool hc430)).trans rfl) (fun w hst => x_index rfl rfl Try.underlying35 Try.sizeOf73 (rd_sliceV f0_0) h405 h406)) ?_
    refine ws_q (v := .pointer (some (eAddr r0_0 (z393.toNat * 3 + 1)))) 16 [17, 18, 19, 20, 21, 22, 23, 24, 25, 26, 27, 28, 29, 30, 31, 32, 33, 34, 35, 36, 37, 38, 39] (by kernel_rfl) rfl rfl (yi_run ((wanted_eq rfl rfl rfl (congrArg Value.bool hc430)).trans rfl) (fun w hst => x_field_e rfl Try.underlying73 rfl Try.sizeOf4 rfl)) ?_
    obtain ⟨cs431, hr432, hc433⟩ := Rd.getF f0_0 hi407
    obtain ⟨v434, rfl, f435, -⟩ := hr432
    refine ws_q (v := .bool x403.Del) 17 [18, 19, 20, 21, 22, 23, 24, 25, 26, 27, 28, 29, 30, 31, 32, 33, 34, 35, 36, 37, 38, 39] (by kernel_rfl) rfl rfl (yi_run ((wanted_eq rfl rfl rfl (congrArg Value.bool hc430)).trans rfl) (fun w hst => x_load rfl Try.isAgg4 ((hc433 (HL.le.refl _) hst) 1 _ rfl))) ?_
    refine ws_q (v := r1_0) 18 [19, 20, 21, 22, 23, 24, 25, 26, 27, 28, 29, 30, 31, 32, 33, 34, 35, 36, 37, 38, 39] (by kernel_rfl) rfl rfl (yi_run ((wanted_eq rfl rfl rfl (congrArg Value.bool hc430)).trans rfl) (fun w hst => rfl)) ?_
    refine ws_q (v := .int .i64 z393) 19 [20, 21, 22, 23, 24, 25, 26, 27, 28, 29, 30, 31, 32, 33, 34, 35, 36, 37, 38, 39] (by kernel_rfl) rfl rfl (yi_run ((wanted_eq rfl rfl rfl (congrArg Value.bool hc430)).trans rfl) (fun w hst => rfl)) ?_
    refine ws_q (v := .pointer (some (eAddr r1_0 (z393.toNat * 3 + 0)))) 20 [21, 22, 23, 24, 25, 26, 27, 28, 29, 30, 31, 32, 33, 34, 35, 36, 37, 38, 39] (by kernel_rfl) rfl rfl (yi_run ((wanted_eq rfl rfl rfl (congrArg Value.bool hc430)).trans rfl) (fun w hst => x_index rfl rfl Try.underlying35 Try.sizeOf73 (rd_sliceV f1_0) h416 h417)) ?_
    refine ws_q (v := .pointer (some (eAddr r1_0 (z393.toNat * 3 + 1)))) 21 [22, 23, 24, 25, 26, 27, 28, 29, 30, 31, 32, 33, 34, 35, 36, 37, 38, 39] (by kernel_rfl) rfl rfl (yi_run ((wanted_eq rfl rfl rfl (congrArg Value.bool hc430)).trans rfl) (fun w hst => x_field_e rfl Try.underlying73 rfl Try.sizeOf4 rfl)) ?_
    obtain ⟨cs437, hr438, hc439⟩ := Rd.getF f1_0 hi418
    obtain ⟨v440, rfl, f441, -⟩ := hr438
    refine ws_q (v := .bool x414.Del) 22 [23, 24, 25, 26, 27, 28, 29, 30, 31, 32, 33, 34, 35, 36, 37, 38, 39] (by kernel_rfl) rfl rfl (yi_run ((wanted_eq rfl rfl rfl (congrArg Value.bool hc430)).trans rfl) (fun w hst => x_load rfl Try.isAgg4 ((hc439 (HL.le.refl _) hst) 1 _ rfl))) ?_
    refine ws_q (v := .bool (!(x403.Del == x414.Del))) 23 [24, 25, 26, 27, 28, 29, 30, 31, 32, 33, 34, 35, 36, 37, 38, 39] (by kernel_rfl) rfl rfl (yi_run ((wanted_eq rfl rfl rfl (congrArg Value.bool hc430)).trans rfl) (fun w hst => by kernel_rfl)) ?_
    refine wsr (.bool (!(x403.Del == x414.Del))) 24 rfl rfl rfl (by kernel_rfl) (fun w hst => x_pick_f hc430 rfl rfl) ?_
    refine wsr (.bool (!(x403.Del == x414.Del))) 25 rfl rfl rfl (by kernel_rfl) (fun w hst => rfl) ?_
    refine bsplit (!(x403.Del == x414.Del)) (fun hc443 => ?_) (fun hc443 => ?_)
    ·skip
     replace hm := bif_t hc443 hm
     refine ws_q (v := undef) 26 [27, 28, 29, 30, 31, 32, 33, 34, 35, 36, 37, 38, 39] (by kernel_rfl) rfl rfl (yi_off ((wanted_eq rfl rfl rfl (congrArg Value.bool hc443)).trans rfl)) ?_
     refine ws_q (v := undef) 27 [28, 29, 30, 31, 32, 33, 34, 35, 36, 37, 38, 39] (by kernel_rfl) rfl rfl (yi_off ((wanted_eq rfl rfl rfl (congrArg Value.bool hc443)).trans rfl)) ?_
     refine ws_q (v := undef) 28 [29, 30, 31, 32, 33, 34, 35, 36, 37, 38, 39] (by kernel_rfl) rfl rfl (yi_off ((wanted_eq rfl rfl rfl (congrArg Value.bool hc443)).trans rfl)) ?_
     refine ws_q (v := undef) 29 [30, 31, 32, 33, 34, 35, 36, 37, 38, 39] (by kernel_rfl) rfl rfl (yi_off ((wanted_eq rfl rfl rfl (congrArg Value.bool hc443)).trans rfl)) ?_
     refine ws_q (v := undef) 30 [31, 32, 33, 34, 35, 36, 37, 38, 39] (by kernel_rfl) rfl rfl (yi_off ((wanted_eq rfl rfl rfl (congrArg Value.bool hc443)).trans rfl)) ?_
     refine ws_q (v := undef) 31 [32, 33, 34, 35, 36, 37, 38, 39] (by kernel_rfl) rfl rfl (yi_off ((wanted_eq rfl rfl rfl (congrArg Value.bool hc443)).trans rfl)) ?_
     refine ws_q (v := undef) 32 [33, 34, 35, 36, 37, 38, 39] (by kernel_rfl) rfl rfl (yi_off ((wanted_eq rfl rfl rfl (congrArg Value.bool hc443)).trans rfl)) ?_
     refine ws_q (v := undef) 33 [34, 35, 36, 37, 38, 39] (by kernel_rfl) rfl rfl (yi_off ((wanted_eq rfl rfl rfl (congrArg Value.bool hc443)).trans rfl)) ?_
     refine ws_q (v := undef) 34 [35, 36, 37, 38, 39] (by kernel_rfl) rfl rfl (yi_off ((wanted_eq rfl rfl rfl (congrArg Value.bool hc443)).trans rfl)) ?_
     refine ws_q (v := undef) 35 [36, 37, 38, 39] (by kernel_rfl) rfl rfl (yi_off ((wanted_eq rfl rfl rfl (congrArg Value.bool hc443)).trans rfl)) ?_
     refine ws_q (v := undef) 36 [37, 38, 39] (by kernel_rfl) rfl rfl (yi_off ((wanted_eq rfl rfl rfl (congrArg Value.bool hc443)).trans rfl)) ?_
     refine ws_q (v := undef) 37 [38, 39] (by kernel_rfl) rfl rfl (yi_off ((wanted_eq rfl rfl rfl (congrArg Value.bool hc443)).trans rfl)) ?_
     refine ws_q (v := undef) 38 [39] (by kernel_rfl) rfl rfl (yi_off ((wanted_eq rfl rfl rfl (congrArg Value.bool hc443)).trans rfl)) ?_
     refine wsr (.bool true) 39 rfl rfl rfl (by kernel_rfl) (fun w hst => x_pick_t hc443 rfl rfl) ?_
     refine ws_nil ?_
     intro w hst
     refine then_n ?_
     refine wp_ift rfl ?_
     refine wp_seq (wp_region_lit ?_)
     refine wv (.bool false) rfl rfl rfl ?_
     refine wl_nil (then_n (wp_ret (blk_r (then_r (then_r ?_)))))
     replace hm := inr_up hm hx400
     refine blk_r (then_r ?_)
     obtain rfl := some_inj hm
     refine post_ret (vs := [.bool false]) Try.results34 (rvs_cons (rv_tmp rfl) rvs_nil) ?_
     exact ⟨rfl, hst.keep0⟩
    ·skip
     replace hm := bif_f hc443 hm
     refine ws_q (v := r0_0) 26 [27, 28, 29, 30, 31, 32, 33, 34, 35, 36, 37, 38, 39] (by kernel_rfl) rfl rfl (yi_run ((wanted_eq rfl rfl rfl (congrArg Value.bool hc443)).trans rfl) (fun w hst => rfl)) ?_
     refine ws_q (v := .int .i64 z393) 27 [28, 29, 30, 31, 32, 33, 34, 35, 36, 37, 38, 39] (by kernel_rfl) rfl rfl (yi_run ((wanted_eq rfl rfl rfl (congrArg Value.bool hc443)).trans rfl) (fun w hst => rfl)) ?_
     refine ws_q (v := .pointer (some (eAddr r0_0 (z393.toNat * 3 + 0)))) 28 [29, 30, 31, 32, 33, 34, 35, 36, 37, 38, 39] (by kernel_rfl) rfl rfl (yi_run ((wanted_eq rfl rfl rfl (congrArg Value.bool hc443)).trans rfl) (fun w hst => x_index rfl rfl Try.underlying35 Try.sizeOf73 (rd_sliceV f0_0) h405 h406)) ?_
     refine ws_q (v := .pointer (some (eAddr r0_0 (z393.toNat * 3 + 2)))) 29 [30, 31, 32, 33, 34, 35, 36, 37, 38, 39] (by kernel_rfl) rfl rfl (yi_run ((wanted_eq rfl rfl rfl (congrArg Value.bool hc443)).trans rfl) (fun w hst => x_field_e rfl Try.underlying73 rfl Try.sizeOf22 rfl)) ?_
     refine ws_q (v := v434) 30 [31, 32, 33, 34, 35, 36, 37, 38, 39] (by kernel_rfl) rfl rfl (yi_run ((wanted_eq rfl rfl rfl (congrArg Value.bool hc443)).trans rfl) (fun w hst => x_load rfl Try.isAgg22 ((hc433 (HL.le.refl _) hst) 2 _ rfl))) ?_
     refine ws_q (v := .string (toStr x403.Val)) 31 [32, 33, 34, 35, 36, 37, 38, 39] (by kernel_rfl) rfl rfl (yi_run ((wanted_eq rfl rfl rfl (congrArg Value.bool hc443)).trans rfl) (fun w hst => x_tostr Try.underlying22 Try.underlying9 Try.underlying5 rfl (Src.of_rd hst f435 flat_int))) ?_
     refine ws_q (v := r1_0) 32 [33, 34, 35, 36, 37, 38, 39] (by kernel_rfl) rfl rfl (yi_run ((wanted_eq rfl rfl rfl (congrArg Value.bool hc443)).trans rfl) (fun w hst => rfl)) ?_
     refine ws_q (v := .int .i64 z393) 33 [34, 35, 36, 37, 38, 39] (by kernel_rfl) rfl rfl (yi_run ((wanted_eq rfl rfl rfl (congrArg Value.bool hc443)).trans rfl) (fun w hst => rfl)) ?_
     refine ws_q (v := .pointer (some (eAddr r1_0 (z393.toNat * 3 + 0)))) 34 [35, 36, 37, 38, 39] (by kernel_rfl) rfl rfl (yi_run ((wanted_eq rfl rfl rfl (congrArg Value.bool hc443)).trans rfl) (fun w hst => x_index rfl rfl Try.underlying35 Try.sizeOf73 (rd_sliceV f1_0) h416 h417)) ?_
     refine ws_q (v := .pointer (some (eAddr r1_0 (z393.toNat * 3 + 2)))) 35 [36, 37, 38, 39] (by kernel_rfl) rfl rfl (yi_run ((wanted_eq rfl rfl rfl (congrArg Value.bool hc443)).trans rfl) (fun w hst => x_field_e rfl Try.underlying73 rfl Try.sizeOf22 rfl)) ?_
     refine ws_q (v := v440) 36 [37, 38, 39] (by kernel_rfl) rfl rfl (yi_run ((wanted_eq rfl rfl rfl (congrArg Value.bool hc443)).trans rfl) (fun w hst => x_load rfl Try.isAgg22 ((hc439 (HL.le.refl _) hst) 2 _ rfl))) ?_
     refine ws_q (v := .string (toStr x414.Val)) 37 [38, 39] (by kernel_rfl) rfl rfl (yi_run ((wanted_eq rfl rfl rfl (congrArg Value.bool hc443)).trans rfl) (fun w hst => x_tostr Try.underlying22 Try.underlying9 Try.underlying5 rfl (Src.of_rd hst f441 flat_int))) ?_
     refine ws_q (v := .bool (!(sEq (toStr x403.Val) (toStr x414.Val)))) 38 [39] (by kernel_rfl) rfl rfl (yi_run ((wanted_eq rfl rfl rfl (congrArg Value.bool hc443)).trans rfl) (fun w hst => by kernel_rfl)) ?_
     refine wsr (.bool (!(sEq (toStr x403.Val) (toStr x414.Val)))) 39 rfl rfl rfl (by kernel_rfl) (fun w hst => x_pick_f hc443 rfl rfl) ?_
     refine ws_nil ?_
     intro w hst
     refine then_n ?_
     refine bsplit (!(sEq (toStr x403.Val) (toStr x414.Val))) (fun hc444 => ?_) (fun hc444 => ?_)
     ·skip
      replace hm := bif_t hc444 hm
      refine wp_ift (congrArg Value.bool hc444) ?_
      refine wp_seq (wp_region_lit ?_)
      refine wv (.bool false) rfl rfl rfl ?_
      refine wl_nil (then_n (wp_ret (blk_r (then_r (then_r ?_)))))
      replace hm := inr_up hm hx400
      refine blk_r (then_r ?_)
      obtain rfl := some_inj hm
      refine post_ret (vs := [.bool false]) Try.results34 (rvs_cons (rv_tmp rfl) rvs_nil) ?_
      exact ⟨rfl, hst.keep0⟩
     ·skip
      replace hm := bif_f hc444 hm
      refine wp_iff (congrArg Value.bool hc444) ?_
      refine wp_skip (blk_n (then_n (wp_region_lit ?_)))
      refine wv (.int .i64 z393) rfl rfl rfl ?_
      refine wv (.int .i64 (IntKind.i64.wrap (z393 + (1:Int)))) rfl rfl rfl ?_
      refine wv (.int .i64 (IntKind.i64.wrap (z393 + (1:Int)))) rfl rfl rfl ?_
      refine wl_nil (then_n ?_)
      replace hst := hst.keep0
      obtain rfl := some_inj hm
      exact ⟨_, Nat.lt_succ_self _, (IntKind.i64.wrap (z393 + (1:Int))), _, hx400, ((fr_upd (t := 0) (v := r0_0) rfl).trans ((fr_upd (t := 1) (v := r1_0) rfl).trans ((fr_upd (t := 5) (v := .int .i64 (IntKind.i64.wrap (z393 + (1:Int)))) rfl).trans rfl))), hst⟩
  ·skip
   replace hm := bif_f hc402 hm
   refine wp_iff (congrArg Value.bool hc402) ?_
   refine wp_exit (then_x (then_x ?_))
   replace hm := inr_up hm hx400
   refine blk_x (then_n (wp_seq (wp_region_lit ?_)))
   refine wv (.bool true) rfl rfl rfl ?_
   refine wl_nil (then_n (wp_ret ?_))
   obtain rfl := some_inj hm
   refine post_ret (vs := [.bool true]) Try.results34 (rvs_cons (rv_tmp rfl) rvs_nil) ?_
   exact ⟨rfl, hst.keep0⟩

theorem ref11_SameGots_ref {w0 w : World} {I : HL} {R : SP} {a0 : (List api_Got)} {r0_0 : Value} {a1 : (List api_Got)} {r1_0 : Value} (f0_0 : Rd ty_api_Got R I r0_0 a0) (f1_0 : Rd ty_api_Got R I r1_0 a1) (hst : St w0 w I [] R) {r : (Bool)} (hm : ref11_SameGots a0 a1 = some r) :
  Calls Try.prog 50 #[r0_0, r1_0] w fun e w' => e = .returned (.bool r) ∧ St w0 w' I [] R := by
 unfold ref11_SameGots at hm
 refine calls_start (args := [r0_0, r1_0]) Try.func50 rfl Try.ntmps50 (Nat.le_of_ble_eq_true rfl) ?_
 refine wp_seq (wp_region_lit ?_)
 refine wv (.bool false) rfl rfl rfl ?_
 refine wl_nil (then_n (wp_seq (wp_seq (wp_region_lit ?_))))
 refine wv (r0_0) rfl rfl rfl ?_
 refine wv (.int .i64 ((a0).length : Int)) rfl rfl (x_len rfl Try.underlying36 (rd_sliceV f0_0)) ?_
 refine wv (r1_0) rfl rfl rfl ?_
 refine wv (.int .i64 ((a1).length : Int)) rfl rfl (x_len rfl Try.underlying36 (rd_sliceV f1_0)) ?_
 refine wv (.bool (((a0).length : Int) != ((a1).length : Int))) rfl rfl rfl ?_
 refine wl_nil (then_n ?_)
 refine bsplit (((a0).length : Int) != ((a1).length : Int)) (fun hc274 => ?_) (fun hc274 => ?_)
 ·skip
  replace hm := bif_t hc274 hm
  refine wp_ift (congrArg Value.bool hc274) ?_
  refine wp_seq (wp_region_lit ?_)
  refine wv (.bool false) rfl rfl rfl ?_
  refine wl_nil (then_n (wp_ret (then_r ?_)))
  obtain rfl := some_inj hm
  refine post_ret (vs := [.bool false]) Try.results50 (rvs_cons (rv_tmp rfl) rvs_nil) ?_
  exact ⟨rfl, hst.keep0⟩
 ·skip
  replace hm := bif_f hc274 hm
  refine wp_iff (congrArg Value.bool hc274) ?_
  refine wp_skip (then_n (wp_seq (wp_seq (wp_region_lit ?_))))
  refine wv (.int .i64 (0:Int)) rfl rfl rfl ?_
  refine wl_nil (then_n (wp_block ?_))
  obtain ⟨n328, hm⟩ := loopO_some hm
  refine wp_loop_n (fun n a w => ∃ (z326 : Int) (σ327 : Nat → Value), loopN (ref11_SameGots_l0 a0 a1) n z326 = some r ∧ a = Fr 43 (upd (upd (upd σ327 0 (r0_0)) 1 (r1_0)) 5 (.int .i64 z326)) ∧ St w0 w I [] R) n328 ⟨(0:Int), _, hm, ((fr_upd (t := 0) (v := r0_0) rfl).trans ((fr_upd (t := 1) (v := r1_0) rfl).trans ((fr_upd (t := 5) (v := .int .i64 (0:Int)) rfl).trans rfl))), hst⟩ ?_
  rintro n334 _ w329 ⟨z326, σ327, hm, rfl, hst⟩
  obtain ⟨n331, y332, rfl, hm, hx333⟩ := loopN_some hm
  dsimp only [ref11_SameGots_l0] at hm
  refine wp_seq (wp_seq (wp_region_lit ?_))
  refine wv (.int .i64 z326) rfl rfl rfl ?_
  refine wv (r0_0) rfl rfl rfl ?_
  refine wv (.int .i64 ((a0).length : Int)) rfl rfl (x_len rfl Try.underlying36 (rd_sliceV f0_0)) ?_
  refine wv (.bool (decide (z326 < ((a0).length : Int)))) rfl rfl rfl ?_
  refine wl_nil (then_n ?_)
  refine bsplit (decide (z326 < ((a0).length : Int))) (fun hc335 => ?_) (fun hc335 => ?_)
  ·skip
   replace hm := bif_t hc335 hm
   refine wp_ift (congrArg Value.bool hc335) ?_
   refine wp_skip (then_n (wp_seq (wp_block (wp_seq ?_))))
   refine wq_regionS hst Try.mixed (by kernel_rfl) ?_
   refine wq_run (v := r0_0) rfl rfl (fun w hst => rfl) ?_
   refine wq_run (v := .int .i64 z326) rfl rfl (fun w hst => rfl) ?_
   obtain ⟨x336, hx337, hm⟩ := bind_some hm
   obtain ⟨h338, h339, hi340⟩ := geto_some hx337
   refine wq_run (v := .pointer (some (eAddr r0_0 (z326.toNat * 2 + 0)))) rfl rfl (fun w hst => x_index rfl rfl Try.underlying36 Try.sizeOf51 (rd_sliceV f0_0) h338 h339) ?_
   refine wq_run (v := .pointer (some (eAddr r0_0 (z326.toNat * 2 + 0)))) rfl rfl (fun w hst => x_field_e rfl Try.underlying51 rfl Try.sizeOf4 rfl) ?_
   obtain ⟨cs341, hr342, hc343⟩ := Rd.getF f0_0 hi340
   obtain ⟨v344, rfl, f345, -⟩ := hr342
   refine wq_run (v := .bool x336.Has) rfl rfl (fun w hst => x_load rfl Try.isAgg4 ((hc343 (HL.le.refl _) hst) 0 _ rfl)) ?_
   refine wq_run (v := r1_0) rfl rfl (fun w hst => rfl) ?_
   refine wq_run (v := .int .i64 z326) rfl rfl (fun w hst => rfl) ?_
   obtain ⟨x347, hx348, hm⟩ := bind_some hm
   obtain ⟨h349, h350, hi351⟩ := geto_some hx348
   refine wq_run (v := .pointer (some (eAddr r1_0 (z326.toNat * 2 + 0)))) rfl rfl (fun w hst => x_index rfl rfl Try.underlying36 Try.sizeOf51 (rd_sliceV f1_0) h349 h350) ?_
   refine wq_run (v := .pointer (some (eAddr r1_0 (z326.toNat * 2 + 0)))) rfl rfl (fun w hst => x_field_e rfl Try.underlying51 rfl Try.sizeOf4 rfl) ?_
   obtain ⟨cs352, hr353, hc354⟩ := Rd.getF f1_0 hi351
   obtain ⟨v355, rfl, f356, -⟩ := hr353
   refine wq_run (v := .bool x347.Has) rfl rfl (fun w hst => x_load rfl Try.isAgg4 ((hc354 (HL.le.refl _) hst) 0 _ rfl)) ?_
   refine wq_run (v := .bool (!(x336.Has == x347.Has))) rfl rfl (fun w hst => by kernel_rfl) ?_
   refine wq_run (v := .bool (!(x336.Has == x347.Has))) rfl rfl (fun w hst => rfl) ?_
   refine bsplit (!(x336.Has == x347.Has)) (fun hc358 => ?_) (fun hc358 => ?_)
   ·skip
    replace hm := bif_t hc358 hm
    refine wq_off ((wanted_eq rfl rfl rfl (congrArg Value.bool hc358)).trans rfl) rfl ?_
    refine wq_off ((wanted_eq rfl rfl rfl (congrArg Value.bool hc358)).trans rfl) rfl ?_
    refine wq_off ((wanted_eq rfl rfl rfl (congrArg Value.bool hc358)).trans rfl) rfl ?_
    refine wq_off ((wanted_eq rfl rfl rfl (congrArg Value.bool hc358)).trans rfl) rfl ?_
    refine wq_off ((wanted_eq rfl rfl rfl (congrArg Value.bool hc358)).trans rfl) rfl ?_
    refine wq_off ((wanted_eq rfl rfl rfl (congrArg Value.bool hc358)).trans rfl) rfl ?_
    refine wq_off ((wanted_eq rfl rfl rfl (congrArg Value.bool hc358)).trans rfl) rfl ?_
    refine wq_off ((wanted_eq rfl rfl rfl (congrArg Value.bool hc358)).trans rfl) rfl ?_
    refine wq_off ((wanted_eq rfl rfl rfl (congrArg Value.bool hc358)).trans rfl) rfl ?_
    refine wq_off ((wanted_eq rfl rfl rfl (congrArg Value.bool hc358)).trans rfl) rfl ?_
    refine wq_off ((wanted_eq rfl rfl rfl (congrArg Value.bool hc358)).trans rfl) rfl ?_
    refine wq_off ((wanted_eq rfl rfl rfl (congrArg Value.bool hc358)).trans rfl) rfl ?_
    refine wq_off ((wanted_eq rfl rfl rfl (congrArg Value.bool hc358)).trans rfl) rfl ?_
    refine wq_run (v := .bool true) rfl rfl (fun w hst => x_pick_t hc358 rfl rfl) ?_
    refine wq_nil ?_
    intro w hst
    refine then_n ?_
    refine wp_ift rfl ?_
    refine wp_seq (wp_region_lit ?_)
    refine wv (.bool false) rfl rfl rfl ?_
    refine wl_nil (then_n (wp_ret (blk_r (then_r (then_r ?_)))))
    replace hm := inr_up hm hx333
    refine blk_r (then_r ?_)
    obtain rfl := some_inj hm
    refine post_ret (vs := [.bool false]) Try.results50 (rvs_cons (rv_tmp rfl) rvs_nil) ?_
    exact ⟨rfl, hst.keep0⟩
   ·skip
    replace hm := bif_f hc358 hm
    refine wq_run (v := r0_0) ((wanted_eq rfl rfl rfl (congrArg Value.bool hc358)).trans rfl) rfl (fun w hst => rfl) ?_
    refine wq_run (v := .int .i64 z326) ((wanted_eq rfl rfl rfl (congrArg Value.bool hc358)).trans rfl) rfl (fun w hst => rfl) ?_
    refine wq_run (v := .pointer (some (eAddr r0_0 (z326.toNat * 2 + 0)))) ((wanted_eq rfl rfl rfl (congrArg Value.bool hc358)).trans rfl) rfl (fun w hst => x_index rfl rfl Try.underlying36 Try.sizeOf51 (rd_sliceV f0_0) h338 h339) ?_
    refine wq_run (v := .pointer (some (eAddr r0_0 (z326.toNat * 2 + 1)))) ((wanted_eq rfl rfl rfl (congrArg Value.bool hc358)).trans rfl) rfl (fun w hst => x_field_e rfl Try.underlying51 rfl Try.sizeOf22 rfl) ?_
    refine wq_run (v := v344) ((wanted_eq rfl rfl rfl (congrArg Value.bool hc358)).trans rfl) rfl (fun w hst => x_load rfl Try.isAgg22 ((hc343 (HL.le.refl _) hst) 1 _ rfl)) ?_
    refine wq_run (v := .string (toStr x336.Val)) ((wanted_eq rfl rfl rfl (congrArg Value.bool hc358)).trans rfl) rfl (fun w hst => x_tostr Try.underlying22 Try.underlying9 Try.underlying5 rfl (Src.of_rd hst f345 flat_int)) ?_
    refine wq_run (v := r1_0) ((wanted_eq rfl rfl rfl (congrArg Value.bool hc358)).trans rfl) rfl (fun w hst => rfl) ?_
    refine wq_run (v := .int .i64 z326) ((wanted_eq rfl rfl rfl (congrArg Value.bool hc358)).trans rfl) rfl (fun w hst => rfl) ?_
    refine wq_run (v := .pointer (some (eAddr r1_0 (z326.toNat * 2 + 0)))) ((wanted_eq rfl rfl rfl (congrArg Value.bool hc358)).trans rfl) rfl (fun w hst => x_index rfl rfl Try.underlying36 Try.sizeOf51 (rd_sliceV f1_0) h349 h350) ?_
    refine wq_run (v := .pointer (some (eAddr r1_0 (z326.toNat * 2 + 1)))) ((wanted_eq rfl rfl rfl (congrArg Value.bool hc358)).trans rfl) rfl (fun w hst => x_field_e rfl Try.underlying51 rfl Try.sizeOf22 rfl) ?_
    refine wq_run (v := v355) ((wanted_eq rfl rfl rfl (congrArg Value.bool hc358)).trans rfl) rfl (fun w hst => x_load rfl Try.isAgg22 ((hc354 (HL.le.refl _) hst) 1 _ rfl)) ?_
    refine wq_run (v := .string (toStr x347.Val)) ((wanted_eq rfl rfl rfl (congrArg Value.bool hc358)).trans rfl) rfl (fun w hst => x_tostr Try.underlying22 Try.underlying9 Try.underlying5 rfl (Src.of_rd hst f356 flat_int)) ?_
    refine wq_run (v := .bool (!(sEq (toStr x336.Val) (toStr x347.Val)))) ((wanted_eq rfl rfl rfl (congrArg Value.bool hc358)).trans rfl) rfl (fun w hst => by kernel_rfl) ?_
    refine wq_run (v := .bool (!(sEq (toStr x336.Val) (toStr x347.Val)))) rfl rfl (fun w hst => x_pick_f hc358 rfl rfl) ?_
    refine wq_nil ?_
    intro w hst
    refine then_n ?_
    refine bsplit (!(sEq (toStr x336.Val) (toStr x347.Val))) (fun hc359 => ?_) (fun hc359 => ?_)
    ·skip
     replace hm := bif_t hc359 hm
     refine wp_ift (congrArg Value.bool hc359) ?_
     refine wp_seq (wp_region_lit ?_)
     refine wv (.bool false) rfl rfl rfl ?_
     refine wl_nil (then_n (wp_ret (blk_r (then_r (then_r ?_)))))
     replace hm := inr_up hm hx333
     refine blk_r (then_r ?_)
     obtain rfl := some_inj hm
     refine post_ret (vs := [.bool false]) Try.results50 (rvs_cons (rv_tmp rfl) rvs_nil) ?_
     exact ⟨rfl, hst.keep0⟩
    ·skip
     replace hm := bif_f hc359 hm
     refine wp_iff (congrArg Value.bool hc359) ?_
     refine wp_skip (blk_n (then_n (wp_region_lit ?_)))
     refine wv (.int .i64 z326) rfl rfl rfl ?_
     refine wv (.int .i64 (IntKind.i64.wrap (z326 + (1:Int)))) rfl rfl rfl ?_
     refine wv (.int .i64 (IntKind.i64.wrap (z326 + (1:Int)))) rfl rfl rfl ?_
     refine wl_nil (then_n ?_)
     replace hst := hst.keep0
     obtain rfl := some_inj hm
     exact ⟨_, Nat.lt_succ_self _, (IntKind.i64.wrap (z326 + (1:Int))), _, hx333, ((fr_upd (t := 0) (v := r0_0) rfl).trans ((fr_upd (t := 1) (v := r1_0) rfl).trans ((fr_upd (t := 5) (v := .int .i64 (IntKind.i64.wrap (z326 + (1:Int)))) rfl).trans rfl))), hst⟩
  ·skip
   replace hm := bif_f hc335 hm
   refine wp_iff (congrArg Value.bool hc335) ?_
   refine wp_exit (then_x (then_x ?_))
   replace hm := inr_up hm hx333
   refine blk_x (then_n (wp_seq (wp_region_lit ?_)))
   refine wv (.bool true) rfl rfl rfl ?_
   refine wl_nil (then_n (wp_ret ?_))
   obtain rfl := some_inj hm
   refine post_ret (vs := [.bool true]) Try.results50 (rvs_cons (rv_tmp rfl) rvs_nil) ?_
   exact ⟨rfl, hst.keep0⟩

theorem ref11_SamePairs_ref {w0 w : World} {I : HL} {R : SP} {a0 : (List api_Pair)} {r0_0 : Value} {a1 : (List api_Pair)} {r1_0 : Value} (f0_0 : Rd ty_api_Pair R I r0_0 a0) (f1_0 : Rd ty_api_Pair R I r1_0 a1) (hst : St w0 w I [] R) {r : (Bool)} (hm : ref11_SamePairs a0 a1 = some r) :
  Calls Try.prog 51 #[r0_0, r1_0] w fun e w' => e = .returned (.bool r) ∧ St w0 w' I [] R := by
 unfold ref11_SamePairs at hm
 refine calls_start (args := [r0_0, r1_0]) Try.func51 rfl Try.ntmps51 (Nat.le_of_ble_eq_true rfl) ?_
 refine wp_seq (wp_region_lit ?_)
 refine wv (.bool false) rfl rfl rfl ?_
 refine wl_nil (then_n (wp_seq (wp_seq (wp_region_lit ?_))))
 refine wv (r0_0) rfl rfl rfl ?_
 refine wv (.int .i64 ((a0).length : Int)) rfl rfl (x_len rfl Try.underlying52 (rd_sliceV f0_0)) ?_
 refine wv (r1_0) rfl rfl rfl ?_
 refine wv (.int .i64 ((a1).length : Int)) rfl rfl (x_len rfl Try.underlying52 (rd_sliceV f1_0)) ?_
 refine wv (.bool (((a0).length : Int) != ((a1).length : Int))) rfl rfl rfl ?_
 refine wl_nil (then_n ?_)
 refine bsplit (((a0).length : Int) != ((a1).length : Int)) (fun hc333 => ?_) (fun hc333 => ?_)
 ·skip
  replace hm := bif_t hc333 hm
  refine wp_ift (congrArg Value.bool hc333) ?_
  refine wp_seq (wp_region_lit ?_)
  refine wv (.bool false) rfl rfl rfl ?_
  refine wl_nil (then_n (wp_ret (then_r ?_)))
  obtain rfl := some_inj hm
  refine post_ret (vs := [.bool false]) Try.results51 (rvs_cons (rv_tmp rfl) rvs_nil) ?_
  exact ⟨rfl, hst.keep0⟩
 ·skip
  replace hm := bif_f hc333 hm
  refine wp_iff (congrArg Value.bool hc333) ?_
  refine wp_skip (then_n (wp_seq (wp_seq (wp_region_lit ?_))))
  refine wv (.int .i64 (0:Int)) rfl rfl rfl ?_
  refine wl_nil (then_n (wp_block ?_))
  obtain ⟨n421, hm⟩ := loopO_some hm
  refine wp_loop_n (fun n a w => ∃ (z419 : Int) (σ420 : Nat → Value), loopN (ref11_SamePairs_l0 a0 a1) n z419 = some r ∧ a = Fr 44 (upd (upd (upd σ420 0 (r0_0)) 1 (r1_0)) 5 (.int .i64 z419)) ∧ St w0 w I [] R) n421 ⟨(0:Int), _, hm, ((fr_upd (t := 0) (v := r0_0) rfl).trans ((fr_upd (t := 1) (v := r1_0) rfl).trans ((fr_upd (t := 5) (v := .int .i64 (0:Int)) rfl).trans rfl))), hst⟩ ?_
  rintro n427 _ w422 ⟨z419, σ420, hm, rfl, hst⟩
  obtain ⟨n424, y425, rfl, hm, hx426⟩ := loopN_some hm
  dsimp only [ref11_SamePairs_l0] at hm
  refine wp_seq (wp_seq (wp_region_lit ?_))
  refine wv (.int .i64 z419) rfl rfl rfl ?_
  refine wv (r0_0) rfl rfl rfl ?_
  refine wv (.int .i64 ((a0).length : Int)) rfl rfl (x_len rfl Try.underlying52 (rd_sliceV f0_0)) ?_
  refine wv (.bool (decide (z419 < ((a0).length : Int)))) rfl rfl rfl ?_
  refine wl_nil (then_n ?_)
  refine bsplit (decide (z419 < ((a0).length : Int))) (fun hc428 => ?_) (fun hc428 => ?_)
  ·skip
   replace hm := bif_t hc428 hm
   refine wp_ift (congrArg Value.bool hc428) ?_
   refine wp_skip (then_n (wp_seq (wp_block (wp_seq ?_))))
   refine wp_region_St hst 27 [0, 1, 2, 3, 4, 5, 6, 7, 8, 9, 10, 11, 12, 13, 14, 15, 16, 17, 18, 19, 20, 21, 22, 23, 24, 25, 26] [0, 0, 3, 7, 15, 0, 0, 96, 224, 480, 1023, 2047, 4095, 8191, 8191, 32767, 65535, 131071, 262143, 8191, 8191, 1581055, 3678207, 7872511, 16261119, 33554431, 67108863] [] rfl (by kernel_rfl) (by kernel_rfl) Try.mixed (by kernel_rfl) ?_
   refine wsr (r0_0) 0 rfl rfl rfl (by kernel_rfl) (fun w hst => rfl) ?_
   refine wsr (.int .i64 z419) 1 rfl rfl rfl (by kernel_rfl) (fun w hst => rfl) ?_
   obtain ⟨x429, hx430, hm⟩ := bind_some hm
   obtain ⟨h431, h432, hi433⟩ := geto_some hx430
   refine wsr (.pointer (some (eAddr r0_0 (z419.toNat * 2 + 0)))) 2 rfl rfl rfl (by kernel_rfl) (fun w hst => x_index rfl rfl Try.underlying52 Try.sizeOf54 (rd_sliceV f0_0) h431 h432) ?_
   refine wsr (.pointer (some (eAddr r0_0 (z419.toNat * 2 + 0)))) 3 rfl rfl rfl (by kernel_rfl) (fun w hst => x_field_e rfl Try.underlying54 rfl Try.sizeOf41 rfl) ?_
   obtain ⟨cs434, hr435, hc436⟩ := Rd.getF f0_0 hi433
   obtain ⟨v437, rfl, f438, -⟩ := hr435
   refine wsr (.float .f64 x429.At) 4 rfl rfl rfl (by kernel_rfl) (fun w hst => x_load rfl Try.isAgg41 ((hc436 (HL.le.refl _) hst) 0 _ rfl)) ?_
   refine wsr (r1_0) 5 rfl rfl rfl (by kernel_rfl) (fun w hst => rfl) ?_
   refine wsr (.int .i64 z419) 6 rfl rfl rfl (by kernel_rfl) (fun w hst => rfl) ?_
   obtain ⟨x440, hx441, hm⟩ := bind_some hm
   obtain ⟨h442, h443, hi444⟩ := geto_some hx441
   refine wsr (.pointer (some (eAddr r1_0 (z419.toNat * 2 + 0)))) 7 rfl rfl rfl (by kernel_rfl) (fun w hst => x_index rfl rfl Try.underlying52 Try.sizeOf54 (rd_sliceV f1_0) h442 h443) ?_
   refine wsr (.pointer (some (eAddr r1_0 (z419.toNat * 2 + 0)))) 8 rfl rfl rfl (by kernel_rfl) (fun w hst => x_field_e rfl Try.underlying54 rfl Try.sizeOf41 rfl) ?_
   obtain ⟨cs445, hr446, hc447⟩ := Rd.getF f1_0 hi444
   obtain ⟨v448, rfl, f449, -⟩ := hr446
   refine wsr (.float .f64 x440.At) 9 rfl rfl rfl (by kernel_rfl) (fun w hst => x_load rfl Try.isAgg41 ((hc447 (HL.le.refl _) hst) 0 _ rfl)) ?_
   refine ws_e1 10 (by kernel_rfl) ?_
   refine nxe [11, 12, 13, 14, 15, 16, 17, 18, 19, 20, 21, 22, 23, 24, 25, 26] (by kernel_rfl) rfl rfl ?_
   clear hst
   intro w hst
   obtain ⟨t451, ht452, hm⟩ := bind_some hm
   refine we_call rfl (x_call Try.call62 rfl (vs := [.float .f64 x429.At, .float .f64 x440.At]) rfl) ?_
   refine (ref01_Same_ref hst.to0 ht452).mono ?_
   rintro _ w453 ⟨rfl, hst⟩
   refine ⟨_, rfl, ?_⟩
   replace hst := hst.of0
   refine ws_next (pend' := []) hst (by kernel_rfl) pk_nil ?_
   refine wsr (.bool (!t451)) 11 rfl rfl rfl (by kernel_rfl) (fun w hst => rfl) ?_
   refine wsr (.bool (!t451)) 12 rfl rfl rfl (by kernel_rfl) (fun w hst => rfl) ?_
   refine bsplit (!t451) (fun hc456 => ?_) (fun hc456 => ?_)
   ·skip
    replace hm := bif_t hc456 hm
    refine ws_q (v := undef) 13 [14, 15, 16, 17, 18, 19, 20, 21, 22, 23, 24, 25, 26] (by kernel_rfl) rfl rfl (yi_off ((wanted_eq rfl rfl rfl (congrArg Value.bool hc456)).trans rfl)) ?_
    refine ws_q (v := undef) 14 [15, 16, 17, 18, 19, 20, 21, 22, 23, 24, 25, 26] (by kernel_rfl) rfl rfl (yi_off ((wanted_eq rfl rfl rfl (congrArg Value.bool hc456)).trans rfl)) ?_
    refine ws_q (v := undef) 15 [16, 17, 18, 19, 20, 21, 22, 23, 24, 25, 26] (by kernel_rfl) rfl rfl (yi_off ((wanted_eq rfl rfl rfl (congrArg Value.bool hc456)).trans rfl)) ?_
    refine ws_q (v := undef) 16 [17, 18, 19, 20, 21, 22, 23, 24, 25, 26] (by kernel_rfl) rfl rfl (yi_off ((wanted_eq rfl rfl rfl (congrArg Value.bool hc456)).trans rfl)) ?_
    refine ws_q (v := undef) 17 [18, 19, 20, 21, 22, 23, 24, 25, 26] (by kernel_rfl) rfl rfl (yi_off ((wanted_eq rfl rfl rfl (congrArg Value.bool hc456)).trans rfl)) ?_
    refine ws_q (v := undef) 18 [19, 20, 21, 22, 23, 24, 25, 26] (by kernel_rfl) rfl rfl (yi_off ((wanted_eq rfl rfl rfl (congrArg Value.bool hc456)).trans rfl)) ?_
    refine ws_q (v := undef) 19 [20, 21, 22, 23, 24, 25, 26] (by kernel_rfl) rfl rfl (yi_off ((wanted_eq rfl rfl rfl (congrArg Value.bool hc456)).trans rfl)) ?_
    refine ws_q (v := undef) 20 [21, 22, 23, 24, 25, 26] (by kernel_rfl) rfl rfl (yi_off ((wanted_eq rfl rfl rfl (congrArg Value.bool hc456)).trans rfl)) ?_
    refine ws_q (v := undef) 21 [22, 23, 24, 25, 26] (by kernel_rfl) rfl rfl (yi_off ((wanted_eq rfl rfl rfl (congrArg Value.bool hc456)).trans rfl)) ?_
    refine ws_q (v := undef) 22 [23, 24, 25, 26] (by kernel_rfl) rfl rfl (yi_off ((wanted_eq rfl rfl rfl (congrArg Value.bool hc456)).trans rfl)) ?_
    refine ws_q (v := undef) 23 [24, 25, 26] (by kernel_rfl) rfl rfl (yi_off ((wanted_eq rfl rfl rfl (congrArg Value.bool hc456)).trans rfl)) ?_
    refine ws_q (v := undef) 24 [25, 26] (by kernel_rfl) rfl rfl (yi_off ((wanted_eq rfl rfl rfl (congrArg Value.bool hc456)).trans rfl)) ?_
    refine ws_q (v := undef) 25 [26] (by kernel_rfl) rfl rfl (yi_off ((wanted_eq rfl rfl rfl (congrArg Value.bool hc456)).trans rfl)) ?_
    refine wsr (.bool true) 26 rfl rfl rfl (by kernel_rfl) (fun w hst => x_pick_t hc456 rfl rfl) ?_
    refine ws_nil ?_
    intro w hst
    refine then_n ?_
    refine wp_ift rfl ?_
    refine wp_seq (wp_region_lit ?_)
    refine wv (.bool false) rfl rfl rfl ?_
    refine wl_nil (then_n (wp_ret (blk_r (then_r (then_r ?_)))))
    replace hm := inr_up hm hx426
    refine blk_r (then_r ?_)
    obtain rfl := some_inj hm
    refine post_ret (vs := [.bool false]) Try.results51 (rvs_cons (rv_tmp rfl) rvs_nil) ?_
    exact ⟨rfl, hst.keep0⟩
   ·skip
    replace hm := bif_f hc456 hm
    refine ws_q (v := r0_0) 13 [14, 15, 16, 17, 18, 19, 20, 21, 22, 23, 24, 25, 26] (by kernel_rfl) rfl rfl (yi_run ((wanted_eq rfl rfl rfl (congrArg Value.bool hc456)).trans rfl) (fun w hst => rfl)) ?_
    refine ws_q (v := .int .i64 z419) 14 [15, 16, 17, 18, 19, 20, 21, 22, 23, 24, 25, 26] (by kernel_rfl) rfl rfl (yi_run ((wanted_eq rfl rfl rfl (congrArg Value.bool hc456)).trans rfl) (fun w hst => rfl)) ?_
    refine ws_q (v := .pointer (some (eAddr r0_0 (z419.toNat * 2 + 0)))) 15 [16, 17, 18, 19, 20, 21, 22, 23, 24, 25, 26] (by kernel_rfl) rfl rfl (yi_run ((wanted_eq rfl rfl rfl (congrArg Value.bool hc456)).trans rfl) (fun w hst => x_index rfl rfl Try.underlying52 Try.sizeOf54 (rd_sliceV f0_0) h431 h432)) ?_
    refine ws_q (v := .pointer (some (eAddr r0_0 (z419.toNat * 2 + 1)))) 16 [17, 18, 19, 20, 21, 22, 23, 24, 25, 26] (by kernel_rfl) rfl rfl (yi_run ((wanted_eq rfl rfl rfl (congrArg Value.bool hc456)).trans rfl) (fun w hst => x_field_e rfl Try.underlying54 rfl Try.sizeOf22 rfl)) ?_
    obtain ⟨cs457, hr458, hc459⟩ := Rd.getF f0_0 hi433
    obtain ⟨v460, rfl, f461, -⟩ := hr458
    refine ws_q (v := v460) 17 [18, 19, 20, 21, 22, 23, 24, 25, 26] (by kernel_rfl) rfl rfl (yi_run ((wanted_eq rfl rfl rfl (congrArg Value.bool hc456)).trans rfl) (fun w hst => x_load rfl Try.isAgg22 ((hc459 (HL.le.refl _) hst) 1 _ rfl))) ?_
    refine ws_q (v := .string (toStr x429.Val)) 18 [19, 20, 21, 22, 23, 24, 25, 26] (by kernel_rfl) rfl rfl (yi_run ((wanted_eq rfl rfl rfl (congrArg Value.bool hc456)).trans rfl) (fun w hst => x_tostr Try.underlying22 Try.underlying9 Try.underlying5 rfl (Src.of_rd hst f461 flat_int))) ?_
    refine ws_q (v := r1_0) 19 [20, 21, 22, 23, 24, 25, 26] (by kernel_rfl) rfl rfl (yi_run ((wanted_eq rfl rfl rfl (congrArg Value.bool hc456)).trans rfl) (fun w hst => rfl)) ?_
    refine ws_q (v := .int .i64 z419) 20 [21, 22, 23, 24, 25, 26] (by kernel_rfl) rfl rfl (yi_run ((wanted_eq rfl rfl rfl (congrArg Value.bool hc456)).trans rfl) (fun w hst => rfl)) ?_
    refine ws_q (v := .pointer (some (eAddr r1_0 (z419.toNat * 2 + 0)))) 21 [22, 23, 24, 25, 26] (by kernel_rfl) rfl rfl (yi_run ((wanted_eq rfl rfl rfl (congrArg Value.bool hc456)).trans rfl) (fun w hst => x_index rfl rfl Try.underlying52 Try.sizeOf54 (rd_sliceV f1_0) h442 h443)) ?_
    refine ws_q (v := .pointer (some (eAddr r1_0 (z419.toNat * 2 + 1)))) 22 [23, 24, 25, 26] (by kernel_rfl) rfl rfl (yi_run ((wanted_eq rfl rfl rfl (congrArg Value.bool hc456)).trans rfl) (fun w hst => x_field_e rfl Try.underlying54 rfl Try.sizeOf22 rfl)) ?_
    obtain ⟨cs463, hr464, hc465⟩ := Rd.getF f1_0 hi444
    obtain ⟨v466, rfl, f467, -⟩ := hr464
    refine ws_q (v := v466) 23 [24, 25, 26] (by kernel_rfl) rfl rfl (yi_run ((wanted_eq rfl rfl rfl (congrArg Value.bool hc456)).trans rfl) (fun w hst => x_load rfl Try.isAgg22 ((hc465 (HL.le.refl _) hst) 1 _ rfl))) ?_
    refine ws_q (v := .string (toStr x440.Val)) 24 [25, 26] (by kernel_rfl) rfl rfl (yi_run ((wanted_eq rfl rfl rfl (congrArg Value.bool hc456)).trans rfl) (fun w hst => x_tostr Try.underlying22 Try.underlying9 Try.underlying5 rfl (Src.of_rd hst f467 flat_int))) ?_
    refine ws_q (v := .bool (!(sEq (toStr x429.Val) (toStr x440.Val)))) 25 [26] (by kernel_rfl) rfl rfl (yi_run ((wanted_eq rfl rfl rfl (congrArg Value.bool hc456)).trans rfl) (fun w hst => by kernel_rfl)) ?_
    refine wsr (.bool (!(sEq (toStr x429.Val) (toStr x440.Val)))) 26 rfl rfl rfl (by kernel_rfl) (fun w hst => x_pick_f hc456 rfl rfl) ?_
    refine ws_nil ?_
    intro w hst
    refine then_n ?_
    refine bsplit (!(sEq (toStr x429.Val) (toStr x440.Val))) (fun hc469 => ?_) (fun hc469 => ?_)
    ·skip
     replace hm := bif_t hc469 hm
     refine wp_ift (congrArg Value.bool hc469) ?_
     refine wp_seq (wp_region_lit ?_)
     refine wv (.bool false) rfl rfl rfl ?_
     refine wl_nil (then_n (wp_ret (blk_r (then_r (then_r ?_)))))
     replace hm := inr_up hm hx426
     refine blk_r (then_r ?_)
     obtain rfl := some_inj hm
     refine post_ret (vs := [.bool false]) Try.results51 (rvs_cons (rv_tmp rfl) rvs_nil) ?_
     exact ⟨rfl, hst.keep0⟩
    ·skip
     replace hm := bif_f hc469 hm
     refine wp_iff (congrArg Value.bool hc469) ?_
     refine wp_skip (blk_n (then_n (wp_region_lit ?_)))
     refine wv (.int .i64 z419) rfl rfl rfl ?_
     refine wv (.int .i64 (IntKind.i64.wrap (z419 + (1:Int)))) rfl rfl rfl ?_
     refine wv (.int .i64 (IntKind.i64.wrap (z419 + (1:Int)))) rfl rfl rfl ?_
     refine wl_nil (then_n ?_)
     replace hst := hst.keep0
     obtain rfl := some_inj hm
     exact ⟨_, Nat.lt_succ_self _, (IntKind.i64.wrap (z419 + (1:Int))), _, hx426, ((fr_upd (t := 0) (v := r0_0) rfl).trans ((fr_upd (t := 1) (v := r1_0) rfl).trans ((fr_upd (t := 5) (v := .int .i64 (IntKind.i64.wrap (z419 + (1:Int)))) rfl).trans rfl))), hst⟩
  ·skip
   replace hm := bif_f hc428 hm
   refine wp_iff (congrArg Value.bool hc428) ?_
   refine wp_exit (then_x (then_x ?_))
   replace hm := inr_up hm hx426
   refine blk_x (then_n (wp_seq (wp_region_lit ?_)))
   refine wv (.bool true) rfl rfl rfl ?_
   refine wl_nil (then_n (wp_ret ?_))
   obtain rfl := some_inj hm
   refine post_ret (vs := [.bool true]) Try.results51 (rvs_cons (rv_tmp rfl) rvs_nil) ?_
   exact ⟨rfl, hst.keep0⟩

theorem ref11_SameReply_ref {w0 w : World} {I : HL} {R : SP} {a0 : api_Reply} {r0_0 : Value} {r0_1 : Value} {a1 : api_Reply} {r1_0 : Value} {r1_1 : Value} (f0_0 : Rd ty_api_Got R I r0_0 a0.Gots) (f0_1 : Rd (tySl ty_api_Pair) R I r0_1 a0.Scans) (f1_0 : Rd ty_api_Got R I r1_0 a1.Gots) (f1_1 : Rd (tySl ty_api_Pair) R I r1_1 a1.Scans) (hst : St w0 w I [] R) {r : (Bool)} (hm : ref11_SameReply a0 a1 = some r) :
  Calls Try.prog 19 #[.agg #[.int .i64 a0.E, .int .u64 a0.Epoch, .int .u64 a0.Index, r0_0, r0_1], .agg #[.int .i64 a1.E, .int .u64 a1.Epoch, .int .u64 a1.Index, r1_0, r1_1]] w fun e w' => e = .returned (.bool r) ∧ St w0 w' I [] R := by
 unfold ref11_SameReply at hm
 refine calls_start (args := [.agg #[.int .i64 a0.E, .int .u64 a0.Epoch, .int .u64 a0.Index, r0_0, r0_1], .agg #[.int .i64 a1.E, .int .u64 a1.Epoch, .int .u64 a1.Index, r1_0, r1_1]]) Try.func19 rfl Try.ntmps19 (Nat.le_of_ble_eq_true rfl) ?_
 refine wp_seq (wp_region_lit ?_)
 obtain ⟨b292, w293, ew294, eb295, hst⟩ := hst.box [.int .i64 a0.E, .int .u64 a0.Epoch, .int .u64 a0.Index, r0_0, r0_1] 39
 refine wl_run (v := .pointer (some ⟨b292, 0, none⟩)) (w' := w293) rfl rfl (x_al (by kernel_rfl) ew294 eb295) ?_
 obtain ⟨b297, w298, ew299, eb300, hst⟩ := hst.box [.int .i64 a1.E, .int .u64 a1.Epoch, .int .u64 a1.Index, r1_0, r1_1] 39
 refine wl_run (v := .pointer (some ⟨b297, 0, none⟩)) (w' := w298) rfl rfl (x_al (by kernel_rfl) ew299 eb300) ?_
 refine wv (.bool false) rfl rfl rfl ?_
 refine wl_nil (then_n (wp_seq (wp_seq (wp_region_lit ?_))))
 refine wv (.pointer (some ⟨b292, 0, none⟩)) rfl rfl (x_field rfl Try.underlying39 rfl Try.sizeOf30 rfl) ?_
 refine wv (.int .i64 a0.E) rfl rfl (x_load rfl Try.isAgg30 (hst.bc1 rfl)) ?_
 refine wv (.pointer (some ⟨b297, 0, none⟩)) rfl rfl (x_field rfl Try.underlying39 rfl Try.sizeOf30 rfl) ?_
 refine wv (.int .i64 a1.E) rfl rfl (x_load rfl Try.isAgg30 (hst.bc0 rfl)) ?_
 refine wv (.bool (a0.E != a1.E)) rfl rfl rfl ?_
 refine wv (.bool (a0.E != a1.E)) rfl rfl rfl ?_
 refine bsplit (a0.E != a1.E) (fun hc302 => ?_) (fun hc302 => ?_)
 ·skip
  replace hm := bif_t hc302 hm
  refine wo hc302 rfl rfl rfl rfl rfl rfl ?_
  refine wo hc302 rfl rfl rfl rfl rfl rfl ?_
  refine wo hc302 rfl rfl rfl rfl rfl rfl ?_
  refine wo hc302 rfl rfl rfl rfl rfl rfl ?_
  refine wo hc302 rfl rfl rfl rfl rfl rfl ?_
  refine wv (.bool true) rfl rfl (x_pick_t hc302 rfl rfl) ?_
  refine wv (.bool true) rfl rfl rfl ?_
  refine wl_off ((wanted_eq rfl rfl rfl rfl).trans rfl) rfl ?_
  refine wl_off ((wanted_eq rfl rfl rfl rfl).trans rfl) rfl ?_
  refine wl_off ((wanted_eq rfl rfl rfl rfl).trans rfl) rfl ?_
  refine wl_off ((wanted_eq rfl rfl rfl rfl).trans rfl) rfl ?_
  refine wl_off ((wanted_eq rfl rfl rfl rfl).trans rfl) rfl ?_
  refine wv (.bool true) rfl rfl (x_pick_t rfl rfl rfl) ?_
  refine wv (.bool true) rfl rfl rfl ?_
  refine wl_off ((wanted_eq rfl rfl rfl rfl).trans rfl) rfl ?_
  refine wl_off ((wanted_eq rfl rfl rfl rfl).trans rfl) rfl ?_
  refine wl_off ((wanted_eq rfl rfl rfl rfl).trans rfl) rfl ?_
  refine wl_off ((wanted_eq rfl rfl rfl rfl).trans rfl) rfl ?_
  refine wl_off ((wanted_eq rfl rfl rfl rfl).trans rfl) rfl ?_
  refine wl_off ((wanted_eq rfl rfl rfl rfl).trans rfl) rfl ?_
  refine wv (.bool true) rfl rfl (x_pick_t rfl rfl rfl) ?_
  refine wv (.bool true) rfl rfl rfl ?_
  refine wl_off ((wanted_eq rfl rfl rfl rfl).trans rfl) rfl ?_
  refine wl_off ((wanted_eq rfl rfl rfl rfl).trans rfl) rfl ?_
  refine wl_off ((wanted_eq rfl rfl rfl rfl).trans rfl) rfl ?_
  refine wl_off ((wanted_eq rfl rfl rfl rfl).trans rfl) rfl ?_
  refine wl_off ((wanted_eq rfl rfl rfl rfl).trans rfl) rfl ?_
  refine wl_off ((wanted_eq rfl rfl rfl rfl).trans rfl) rfl ?_
  refine wl_off ((wanted_eq rfl rfl rfl rfl).trans rfl) rfl ?_
  refine wv (.bool true) rfl rfl (x_pick_t rfl rfl rfl) ?_
  refine wl_nil (then_n ?_)
  refine wp_ift rfl ?_
  refine wp_seq (wp_region_lit ?_)
  refine wv (.bool false) rfl rfl rfl ?_
  refine wl_nil (then_n (wp_ret (then_r ?_)))
  obtain rfl := some_inj hm
  refine post_ret (vs := [.bool false]) Try.results19 (rvs_cons (rv_tmp rfl) rvs_nil) ?_
  exact ⟨rfl, hst.keep0⟩
 ·skip
  replace hm := bif_f hc302 hm
  refine wv (.pointer (some ⟨b292, 1, none⟩)) ((wanted_eq rfl rfl rfl (congrArg Value.bool hc302)).trans rfl) rfl (x_field rfl Try.underlying39 rfl Try.sizeOf27 rfl) ?_
  refine wv (.int .u64 a0.Epoch) ((wanted_eq rfl rfl rfl (congrArg Value.bool hc302)).trans rfl) rfl (x_load rfl Try.isAgg27 (hst.bc1 rfl)) ?_
  refine wv (.pointer (some ⟨b297, 1, none⟩)) ((wanted_eq rfl rfl rfl (congrArg Value.bool hc302)).trans rfl) rfl (x_field rfl Try.underlying39 rfl Try.sizeOf27 rfl) ?_
  refine wv (.int .u64 a1.Epoch) ((wanted_eq rfl rfl rfl (congrArg Value.bool hc302)).trans rfl) rfl (x_load rfl Try.isAgg27 (hst.bc0 rfl)) ?_
  refine wv (.bool (a0.Epoch != a1.Epoch)) ((wanted_eq rfl rfl rfl (congrArg Value.bool hc302)).trans rfl) rfl rfl ?_
  refine wv (.bool (a0.Epoch != a1.Epoch)) rfl rfl (x_pick_f hc302 rfl rfl) ?_
  refine wv (.bool (a0.Epoch != a1.Epoch)) rfl rfl rfl ?_
  refine bsplit (a0.Epoch != a1.Epoch) (fun hc303 => ?_) (fun hc303 => ?_)
  ·skip
   replace hm := bif_t hc303 hm
   refine wo hc303 rfl rfl rfl rfl rfl rfl ?_
   refine wo hc303 rfl rfl rfl rfl rfl rfl ?_
   refine wo hc303 rfl rfl rfl rfl rfl rfl ?_
   refine wo hc303 rfl rfl rfl rfl rfl rfl ?_
   refine wo hc303 rfl rfl rfl rfl rfl rfl ?_
   refine wv (.bool true) rfl rfl (x_pick_t hc303 rfl rfl) ?_
   refine wv (.bool true) rfl rfl rfl ?_
   refine wl_off ((wanted_eq rfl rfl rfl rfl).trans rfl) rfl ?_
   refine wl_off ((wanted_eq rfl rfl rfl rfl).trans rfl) rfl ?_
   refine wl_off ((wanted_eq rfl rfl rfl rfl).trans rfl) rfl ?_
   refine wl_off ((wanted_eq rfl rfl rfl rfl).trans rfl) rfl ?_
   refine wl_off ((wanted_eq rfl rfl rfl rfl).trans rfl) rfl ?_
   refine wl_off ((wanted_eq rfl rfl rfl rfl).trans rfl) rfl ?_
   refine wv (.bool true) rfl rfl (x_pick_t rfl rfl rfl) ?_
   refine wv (.bool true) rfl rfl rfl ?_
   refine wl_off ((wanted_eq rfl rfl rfl rfl).trans rfl) rfl ?_
   refine wl_off ((wanted_eq rfl rfl rfl rfl).trans rfl) rfl ?_
   refine wl_off ((wanted_eq rfl rfl rfl rfl).trans rfl) rfl ?_
   refine wl_off ((wanted_eq rfl rfl rfl rfl).trans rfl) rfl ?_
   refine wl_off ((wanted_eq rfl rfl rfl rfl).trans rfl) rfl ?_
   refine wl_off ((wanted_eq rfl rfl rfl rfl).trans rfl) rfl ?_
   refine wl_off ((wanted_eq rfl rfl rfl rfl).trans rfl) rfl ?_
   refine wv (.bool true) rfl rfl (x_pick_t rfl rfl rfl) ?_
   refine wl_nil (then_n ?_)
   refine wp_ift rfl ?_
   refine wp_seq (wp_region_lit ?_)
   refine wv (.bool false) rfl rfl rfl ?_
   refine wl_nil (then_n (wp_ret (then_r ?_)))
   obtain rfl := some_inj hm
   refine post_ret (vs := [.bool false]) Try.results19 (rvs_cons (rv_tmp rfl) rvs_nil) ?_
   exact ⟨rfl, hst.keep0⟩
  ·skip
   replace hm := bif_f hc303 hm
   refine wv (.pointer (some ⟨b292, 2, none⟩)) ((wanted_eq rfl rfl rfl (congrArg Value.bool hc303)).trans rfl) rfl (x_field rfl Try.underlying39 rfl Try.sizeOf27 rfl) ?_
   refine wv (.int .u64 a0.Index) ((wanted_eq rfl rfl rfl (congrArg Value.bool hc303)).trans rfl) rfl (x_load rfl Try.isAgg27 (hst.bc1 rfl)) ?_
   refine wv (.pointer (some ⟨b297, 2, none⟩)) ((wanted_eq rfl rfl rfl (congrArg Value.bool hc303)).trans rfl) rfl (x_field rfl Try.underlying39 rfl Try.sizeOf27 rfl) ?_
   refine wv (.int .u64 a1.Index) ((wanted_eq rfl rfl rfl (congrArg Value.bool hc303)).trans rfl) rfl (x_load rfl Try.isAgg27 (hst.bc0 rfl)) ?_
   refine wv (.bool (a0.Index != a1.Index)) ((wanted_eq rfl rfl rfl (congrArg Value.bool hc303)).trans rfl) rfl rfl ?_
   refine wv (.bool (a0.Index != a1.Index)) rfl rfl (x_pick_f hc303 rfl rfl) ?_
   refine wv (.bool (a0.Index != a1.Index)) rfl rfl rfl ?_
   refine bsplit (a0.Index != a1.Index) (fun hc304 => ?_) (fun hc304 => ?_)
   ·skip
    replace hm := bif_t hc304 hm
    refine wo hc304 rfl rfl rfl rfl rfl rfl ?_
    refine wo hc304 rfl rfl rfl rfl rfl rfl ?_
    refine wo hc304 rfl rfl rfl rfl rfl rfl ?_
    refine wo hc304 rfl rfl rfl rfl rfl rfl ?_
    refine wo hc304 rfl rfl rfl rfl rfl rfl ?_
    refine wo hc304 rfl rfl rfl rfl rfl rfl ?_
    refine wv (.bool true) rfl rfl (x_pick_t hc304 rfl rfl) ?_
    refine wv (.bool true) rfl rfl rfl ?_
    refine wl_off ((wanted_eq rfl rfl rfl rfl).trans rfl) rfl ?_
    refine wl_off ((wanted_eq rfl rfl rfl rfl).trans rfl) rfl ?_
    refine wl_off ((wanted_eq rfl rfl rfl rfl).trans rfl) rfl ?_
    refine wl_off ((wanted_eq rfl rfl rfl rfl).trans rfl) rfl ?_
    refine wl_off ((wanted_eq rfl rfl rfl rfl).trans rfl) rfl ?_
    refine wl_off ((wanted_eq rfl rfl rfl rfl).trans rfl) rfl ?_
    refine wl_off ((wanted_eq rfl rfl rfl rfl).trans rfl) rfl ?_
    refine wv (.bool true) rfl rfl (x_pick_t rfl rfl rfl) ?_
    refine wl_nil (then_n ?_)
    refine wp_ift rfl ?_
    refine wp_seq (wp_region_lit ?_)
    refine wv (.bool false) rfl rfl rfl ?_
    refine wl_nil (then_n (wp_ret (then_r ?_)))
    obtain rfl := some_inj hm
    refine post_ret (vs := [.bool false]) Try.results19 (rvs_cons (rv_tmp rfl) rvs_nil) ?_
    exact ⟨rfl, hst.keep0⟩
   ·skip
    replace hm := bif_f hc304 hm
    refine wv (.pointer (some ⟨b292, 3, none⟩)) ((wanted_eq rfl rfl rfl (congrArg Value.bool hc304)).trans rfl) rfl (x_field rfl Try.underlying39 rfl Try.sizeOf36 rfl) ?_
    refine wv (r0_0) ((wanted_eq rfl rfl rfl (congrArg Value.bool hc304)).trans rfl) rfl (x_load rfl Try.isAgg36 (hst.bc1 rfl)) ?_
    refine wv (.pointer (some ⟨b297, 3, none⟩)) ((wanted_eq rfl rfl rfl (congrArg Value.bool hc304)).trans rfl) rfl (x_field rfl Try.underlying39 rfl Try.sizeOf36 rfl) ?_
    refine wv (r1_0) ((wanted_eq rfl rfl rfl (congrArg Value.bool hc304)).trans rfl) rfl (x_load rfl Try.isAgg36 (hst.bc0 rfl)) ?_
    obtain ⟨t305, ht306, hm⟩ := bind_some hm
    refine wl_call ((wanted_eq rfl rfl rfl (congrArg Value.bool hc304)).trans rfl) rfl (x_call Try.call50 rfl (vs := [r0_0, r1_0]) rfl) ?_
    refine (ref11_SameGots_ref (f0_0.mono (rd_weak _)) (f1_0.mono (rd_weak _)) hst.to0 ht306).mono ?_
    rintro _ w307 ⟨rfl, hst⟩
    refine ⟨_, rfl, ?_⟩
    replace hst := hst.of0
    refine wv (.bool (!t305)) ((wanted_eq rfl rfl rfl (congrArg Value.bool hc304)).trans rfl) rfl rfl ?_
    refine wv (.bool (!t305)) rfl rfl (x_pick_f hc304 rfl rfl) ?_
    refine wv (.bool (!t305)) rfl rfl rfl ?_
    refine bsplit (!t305) (fun hc310 => ?_) (fun hc310 => ?_)
    ·skip
     replace hm := bif_t hc310 hm
     refine wo hc310 rfl rfl rfl rfl rfl rfl ?_
     refine wo hc310 rfl rfl rfl rfl rfl rfl ?_
     refine wo hc310 rfl rfl rfl rfl rfl rfl ?_
     refine wo hc310 rfl rfl rfl rfl rfl rfl ?_
     refine wo hc310 rfl rfl rfl rfl rfl rfl ?_
     refine wo hc310 rfl rfl rfl rfl rfl rfl ?_
     refine wo hc310 rfl rfl rfl rfl rfl rfl ?_
     refine wv (.bool true) rfl rfl (x_pick_t hc310 rfl rfl) ?_
     refine wl_nil (then_n ?_)
     refine wp_ift rfl ?_
     refine wp_seq (wp_region_lit ?_)
     refine wv (.bool false) rfl rfl rfl ?_
     refine wl_nil (then_n (wp_ret (then_r ?_)))
     obtain rfl := some_inj hm
     refine post_ret (vs := [.bool false]) Try.results19 (rvs_cons (rv_tmp rfl) rvs_nil) ?_
     exact ⟨rfl, hst.keep0⟩
    ·skip
     replace hm := bif_f hc310 hm
     refine wv (.pointer (some ⟨b292, 4, none⟩)) ((wanted_eq rfl rfl rfl (congrArg Value.bool hc310)).trans rfl) rfl (x_field rfl Try.underlying39 rfl Try.sizeOf37 rfl) ?_
     refine wv (r0_1) ((wanted_eq rfl rfl rfl (congrArg Value.bool hc310)).trans rfl) rfl (x_load rfl Try.isAgg37 (hst.bc1 rfl)) ?_
     refine wv (.int .i64 ((a0.Scans).length : Int)) ((wanted_eq rfl rfl rfl (congrArg Value.bool hc310)).trans rfl) rfl (x_len rfl Try.underlying37 (rd_sliceV f0_1)) ?_
     refine wv (.pointer (some ⟨b297, 4, none⟩)) ((wanted_eq rfl rfl rfl (congrArg Value.bool hc310)).trans rfl) rfl (x_field rfl Try.underlying39 rfl Try.sizeOf37 rfl) ?_
     refine wv (r1_1) ((wanted_eq rfl rfl rfl (congrArg Value.bool hc310)).trans rfl) rfl (x_load rfl Try.isAgg37 (hst.bc0 rfl)) ?_
     refine wv (.int .i64 ((a1.Scans).length : Int)) ((wanted_eq rfl rfl rfl (congrArg Value.bool hc310)).trans rfl) rfl (x_len rfl Try.underlying37 (rd_sliceV f1_1)) ?_
     refine wv (.bool (((a0.Scans).length : Int) != ((a1.Scans).length : Int))) ((wanted_eq rfl rfl rfl (congrArg Value.bool hc310)).trans rfl) rfl rfl ?_
     refine wv (.bool (((a0.Scans).length : Int) != ((a1.Scans).length : Int))) rfl rfl (x_pick_f hc310 rfl rfl) ?_
     refine wl_nil (then_n ?_)
     refine bsplit (((a0.Scans).length : Int) != ((a1.Scans).length : Int)) (fun hc311 => ?_) (fun hc311 => ?_)
     ·skip
      replace hm := bif_t hc311 hm
      refine wp_ift (congrArg Value.bool hc311) ?_
      refine wp_seq (wp_region_lit ?_)
      refine wv (.bool false) rfl rfl rfl ?_
      refine wl_nil (then_n (wp_ret (then_r ?_)))
      obtain rfl := some_inj hm
      refine post_ret (vs := [.bool false]) Try.results19 (rvs_cons (rv_tmp rfl) rvs_nil) ?_
      exact ⟨rfl, hst.keep0⟩
     ·skip
      replace hm := bif_f hc311 hm
      refine wp_iff (congrArg Value.bool hc311) ?_
      refine wp_skip (then_n (wp_seq (wp_seq (wp_region_lit ?_))))
      refine wv (.int .i64 (0:Int)) rfl rfl rfl ?_
      refine wl_nil (then_n (wp_block ?_))
      obtain ⟨n373, hm⟩ := loopO_some hm
      refine wp_loop_n (fun n a w => ∃ (z371 : Int) (σ372 : Nat → Value), loopN (ref11_SameReply_l0 a0 a1) n z371 = some r ∧ a = Fr 61 (upd (upd (upd σ372 2 (.pointer (some ⟨b292, 0, none⟩))) 3 (.pointer (some ⟨b297, 0, none⟩))) 5 (.int .i64 z371)) ∧ St w0 w I [cells b297 [.int .i64 a1.E, .int .u64 a1.Epoch, .int .u64 a1.Index, r1_0, r1_1], cells b292 [.int .i64 a0.E, .int .u64 a0.Epoch, .int .u64 a0.Index, r0_0, r0_1]] R) n373 ⟨(0:Int), _, hm, ((fr_upd (t := 2) (v := .pointer (some ⟨b292, 0, none⟩)) rfl).trans ((fr_upd (t := 3) (v := .pointer (some ⟨b297, 0, none⟩)) rfl).trans ((fr_upd (t := 5) (v := .int .i64 (0:Int)) rfl).trans rfl))), hst⟩ ?_
      rintro n379 _ w374 ⟨z371, σ372, hm, rfl, hst⟩
      obtain ⟨n376, y377, rfl, hm, hx378⟩ := loopN_some hm
      dsimp only [ref11_SameReply_l0] at hm
      refine wp_seq (wp_seq (wp_region_lit ?_))
      refine wv (.int .i64 z371) rfl rfl rfl ?_
      refine wv (.pointer (some ⟨b292, 4, none⟩)) rfl rfl (x_field rfl Try.underlying39 rfl Try.sizeOf37 rfl) ?_
      refine wv (r0_1) rfl rfl (x_load rfl Try.isAgg37 (hst.bc1 rfl)) ?_
      refine wv (.int .i64 ((a0.Scans).length : Int)) rfl rfl (x_len rfl Try.underlying37 (rd_sliceV f0_1)) ?_
      refine wv (.bool (decide (z371 < ((a0.Scans).length : Int)))) rfl rfl rfl ?_
      refine wl_nil (then_n ?_)
      refine bsplit (decide (z371 < ((a0.Scans).length : Int))) (fun hc380 => ?_) (fun hc380 => ?_)
      ·skip
       replace hm := bif_t hc380 hm
       refine wp_ift (congrArg Value.bool hc380) ?_
       refine wp_skip (then_n (wp_seq (wp_block (wp_seq ?_))))
       refine wp_region_St hst 12 [0, 1, 2, 3, 4, 5, 6, 7, 8, 9, 10, 11] [0, 1, 0, 7, 15, 0, 32, 0, 224, 480, 1023, 2047] [] rfl (by kernel_rfl) (by kernel_rfl) Try.mixed (by kernel_rfl) ?_
       refine wsr (.pointer (some ⟨b292, 4, none⟩)) 0 rfl rfl rfl (by kernel_rfl) (fun w hst => x_field rfl Try.underlying39 rfl Try.sizeOf37 rfl) ?_
       refine wsr (r0_1) 1 rfl rfl rfl (by kernel_rfl) (fun w hst => x_load rfl Try.isAgg37 (hst.bc1 rfl)) ?_
       refine wsr (.int .i64 z371) 2 rfl rfl rfl (by kernel_rfl) (fun w hst => rfl) ?_
       obtain ⟨x381, hx382, hm⟩ := bind_some hm
       obtain ⟨h383, h384, hi385⟩ := geto_some hx382
       refine wsr (.pointer (some (eAddr r0_1 (z371.toNat * 1 + 0)))) 3 rfl rfl rfl (by kernel_rfl) (fun w hst => x_index rfl rfl Try.underlying37 Try.sizeOf52 (rd_sliceV f0_1) h383 h384) ?_
       obtain ⟨cs386, hr387, hc388⟩ := Rd.getF f0_1 hi385
       obtain ⟨v389, rfl, f390, -⟩ := hr387
       refine wsr (v389) 4 rfl rfl rfl (by kernel_rfl) (fun w hst => x_load rfl Try.isAgg52 ((hc388 (HL.le.refl _) hst) 0 _ rfl)) ?_
       refine wsr (.pointer (some ⟨b297, 4, none⟩)) 5 rfl rfl rfl (by kernel_rfl) (fun w hst => x_field rfl Try.underlying39 rfl Try.sizeOf37 rfl) ?_
       refine wsr (r1_1) 6 rfl rfl rfl (by kernel_rfl) (fun w hst => x_load rfl Try.isAgg37 (hst.bc0 rfl)) ?_
       refine wsr (.int .i64 z371) 7 rfl rfl rfl (by kernel_rfl) (fun w hst => rfl) ?_
       obtain ⟨x392, hx393, hm⟩ := bind_some hm
       obtain ⟨h394, h395, hi396⟩ := geto_some hx393
       refine wsr (.pointer (some (eAddr r1_1 (z371.toNat * 1 + 0)))) 8 rfl rfl rfl (by kernel_rfl) (fun w hst => x_index rfl rfl Try.underlying37 Try.sizeOf52 (rd_sliceV f1_1) h394 h395) ?_
       obtain ⟨cs397, hr398, hc399⟩ := Rd.getF f1_1 hi396
       obtain ⟨v400, rfl, f401, -⟩ := hr398
       refine wsr (v400) 9 rfl rfl rfl (by kernel_rfl) (fun w hst => x_load rfl Try.isAgg52 ((hc399 (HL.le.refl _) hst) 0 _ rfl)) ?_
       refine ws_e1 10 (by kernel_rfl) ?_
       refine nxe [11] (by kernel_rfl) rfl rfl ?_
       clear hst
       intro w hst
       obtain ⟨t403, ht404, hm⟩ := bind_some hm
       refine we_call rfl (x_call Try.call51 rfl (vs := [v389, v400]) rfl) ?_
       refine (ref11_SamePairs_ref (f390.mono (rd_weak _)) (f401.mono (rd_weak _)) hst.to0 ht404).mono ?_
       rintro _ w405 ⟨rfl, hst⟩
       refine ⟨_, rfl, ?_⟩
       replace hst := hst.of0
       refine ws_next (pend' := []) hst (by kernel_rfl) pk_nil ?_
       refine wsr (.bool (!t403)) 11 rfl rfl rfl (by kernel_rfl) (fun w hst => rfl) ?_
       refine ws_nil ?_
       intro w hst
       refine then_n ?_
       refine bsplit (!t403) (fun hc408 => ?_) (fun hc408 => ?_)
       ·skip
        replace hm := bif_t hc408 hm
        refine wp_ift (congrArg Value.bool hc408) ?_
        refine wp_seq (wp_region_lit ?_)
        refine wv (.bool false) rfl rfl rfl ?_
        refine wl_nil (then_n (wp_ret (blk_r (then_r (then_r ?_)))))
        replace hm := inr_up hm hx378
        refine blk_r (then_r ?_)
        obtain rfl := some_inj hm
        refine post_ret (vs := [.bool false]) Try.results19 (rvs_cons (rv_tmp rfl) rvs_nil) ?_
        exact ⟨rfl, hst.keep0⟩
       ·skip
        replace hm := bif_f hc408 hm
        refine wp_iff (congrArg Value.bool hc408) ?_
        refine wp_skip (blk_n (then_n (wp_region_lit ?_)))
        refine wv (.int .i64 z371) rfl rfl rfl ?_
        refine wv (.int .i64 (IntKind.i64.wrap (z371 + (1:Int)))) rfl rfl rfl ?_
        refine wv (.int .i64 (IntKind.i64.wrap (z371 + (1:Int)))) rfl rfl rfl ?_
        refine wl_nil (then_n ?_)
        replace hst := hst.pull1
        replace hst := hst.pull1
        replace hst := hst.keep2
        obtain rfl := some_inj hm
        exact ⟨_, Nat.lt_succ_self _, (IntKind.i64.wrap (z371 + (1:Int))), _, hx378, ((fr_upd (t := 2) (v := .pointer (some ⟨b292, 0, none⟩)) rfl).trans ((fr_upd (t := 3) (v := .pointer (some ⟨b297, 0, none⟩)) rfl).trans ((fr_upd (t := 5) (v := .int .i64 (IntKind.i64.wrap (z371 + (1:Int)))) rfl).trans rfl))), hst⟩
      ·skip
       replace hm := bif_f hc380 hm
       refine wp_iff (congrArg Value.bool hc380) ?_
       refine wp_exit (then_x (then_x ?_))
       replace hm := inr_up hm hx378
       refine blk_x (then_n (wp_seq (wp_region_lit ?_)))
       refine wv (.bool true) rfl rfl rfl ?_
       refine wl_nil (then_n (wp_ret ?_))
       obtain rfl := some_inj hm
       refine post_ret (vs := [.bool true]) Try.results19 (rvs_cons (rv_tmp rfl) rvs_nil) ?_
       exact ⟨rfl, hst.keep0⟩

end Go.Proofs.Ytijcfglomdfglaa
