/- The Go functions refine their models, part 1. -/
import Derived.Test.YtijcfglomdfglaaCommandLongR0
set_option linter.unusedVariables false
set_option linter.unusedSimpArgs false
set_option maxRecDepth 100000
set_option maxHeartbeats 4000000
namespace Go.Proofs.Ytijcfglomdfglaa
open Go Go.V
attribute [local irreducible] wpList Code.wp wpQuiet Calls bodyPost Oper.wp wpS Nx PendOK YieldsIn
theorem ref13_Reply_ref {w0 w : World} {I : HL} {R : SP} {a0 : (List Int)} {r0_0 : Value} {a1 : api_Reply} {r1_0 : Value} {r1_1 : Value} (f0_0 : Rd (tyInt .u8) R I r0_0 a0) (f1_0 : Rd ty_api_Got R I r1_0 a1.Gots) (f1_1 : Rd (tySl ty_api_Pair) R I r1_1 a1.Scans) (hst : St w0 w I [] R) {r : ((List Int))} (hm : ref13_Reply a0 a1 = some r) :
  Calls Try.prog 17 #[r0_0, .agg #[.int .i64 a1.E, .int .u64 a1.Epoch, .int .u64 a1.Index, r1_0, r1_1]] w fun e w' => ∃ (q0_0 : Value), e = .returned (q0_0) ∧ St w0 w' I [ownS (tyInt .u8) q0_0 r] R := by
 unfold ref13_Reply at hm
 refine calls_start (args := [r0_0, .agg #[.int .i64 a1.E, .int .u64 a1.Epoch, .int .u64 a1.Index, r1_0, r1_1]]) Try.func17 rfl Try.ntmps17 (Nat.le_of_ble_eq_true rfl) ?_
 refine wp_seq (wp_region_lit ?_)
 obtain ⟨b1048, w1049, ew1050, eb1051, hst⟩ := hst.box [.int .i64 a1.E, .int .u64 a1.Epoch, .int .u64 a1.Index, r1_0, r1_1] 39
 refine wl_run (v := .pointer (some ⟨b1048, 0, none⟩)) (w' := w1049) rfl rfl (x_al (by kernel_rfl) ew1050 eb1051) ?_
 refine wv ((.slice none 0 0)) rfl rfl rfl ?_
 refine wl_nil (then_n (wp_seq (wp_region_lit ?_)))
 refine wv (r0_0) rfl rfl rfl ?_
 refine wv (.pointer (some ⟨b1048, 0, none⟩)) rfl rfl (x_field rfl Try.underlying39 rfl Try.sizeOf30 rfl) ?_
 refine wv (.int .i64 a1.E) rfl rfl (x_load rfl Try.isAgg30 (hst.bc0 rfl)) ?_
 refine wv (.int .u64 (IntKind.u64.wrap a1.E)) rfl rfl (by kernel_rfl) ?_
 obtain ⟨t1054, ht1055, hm⟩ := bind_some hm
 refine wl_call rfl rfl (x_call Try.call45 rfl (vs := [r0_0, .int .u64 (IntKind.u64.wrap a1.E), .int .i64 (1:Int)]) rfl) ?_
 refine (ref02_Num_ref (f0_0.mono (rd_weak _)) hst.to0 ht1055).mono ?_
 rintro _ w1056 ⟨v1059, rfl, hst⟩
 refine ⟨_, rfl, ?_⟩
 replace hst := hst.of1
 refine wv (v1059) rfl rfl rfl ?_
 refine wl_nil (then_n (wp_seq ?_))
 refine wp_region_St hst 8 [0, 1, 2, 3, 4, 5, 6, 7] [0, 0, 2, 7, 0, 16, 63, 127] [7] rfl (by kernel_rfl) (by kernel_rfl) Try.mixed (by kernel_rfl) ?_
 refine wsr (v1059) 0 rfl rfl rfl (by kernel_rfl) (fun w hst => rfl) ?_
 refine wsr (.pointer (some ⟨b1048, 1, none⟩)) 1 rfl rfl rfl (by kernel_rfl) (fun w hst => x_field rfl Try.underlying39 rfl Try.sizeOf27 rfl) ?_
 refine wsr (.int .u64 a1.Epoch) 2 rfl rfl rfl (by kernel_rfl) (fun w hst => x_load rfl Try.isAgg27 (hst.bc1 rfl)) ?_
 refine wsr (.pointer (some ⟨b1048, 2, none⟩)) 4 rfl rfl rfl (by kernel_rfl) (fun w hst => x_field rfl Try.underlying39 rfl Try.sizeOf27 rfl) ?_
 refine wsr (.int .u64 a1.Index) 5 rfl rfl rfl (by kernel_rfl) (fun w hst => x_load rfl Try.isAgg27 (hst.bc1 rfl)) ?_
 refine ws_e1 3 (by kernel_rfl) ?_
 refine nxe [6, 7] (by kernel_rfl) rfl rfl ?_
 clear hst
 intro w hst
 obtain ⟨css1061, hq1062, hst⟩ := hst.own_open
 obtain ⟨t1063, ht1064, hm⟩ := bind_some hm
 refine we_call rfl (x_call Try.call45 rfl (vs := [v1059, .int .u64 a1.Epoch, .int .i64 (8:Int)]) rfl) ?_
 refine (ref02_Num_ref (hst.rdrow0 hq1062) hst.to0 ht1064).mono ?_
 rintro _ w1065 ⟨v1068, rfl, hst⟩
 refine ⟨_, rfl, ?_⟩
 replace hst := hst.of1
 replace hst := hst.pull1
 replace hst := hst.own_close hq1062
 refine ws_next (pend' := [(5, .int .u64 a1.Index), (4, .pointer (some ⟨b1048, 2, none⟩))]) hst (by kernel_rfl) (pkr rfl rfl (fun w hst => x_load rfl Try.isAgg27 (hst.bc2 rfl)) (pkr rfl rfl (fun w hst => x_field rfl Try.underlying39 rfl Try.sizeOf27 rfl) pk_nil)) ?_
 refine ws_e1 6 (by kernel_rfl) ?_
 refine nxe [7] (by kernel_rfl) rfl rfl ?_
 clear hst
 intro w hst
 replace hst := hst.pull1
 obtain ⟨css1070, hq1071, hst⟩ := hst.own_open
 obtain ⟨t1072, ht1073, hm⟩ := bind_some hm
 refine we_call rfl (x_call Try.call45 rfl (vs := [v1068, .int .u64 a1.Index, .int .i64 (8:Int)]) rfl) ?_
 refine (ref02_Num_ref (hst.rdrow0 hq1071) hst.to0 ht1073).mono ?_
 rintro _ w1074 ⟨v1077, rfl, hst⟩
 refine ⟨_, rfl, ?_⟩
 replace hst := hst.of1
 replace hst := hst.pull1
 replace hst := hst.own_close hq1071
 refine ws_next (pend' := []) hst (by kernel_rfl) pk_nil ?_
 refine ws_e1 7 (by kernel_rfl) ?_
 refine nxe [] (by kernel_rfl) rfl rfl ?_
 clear hst
 intro w hst
 refine we_run (v := v1077) (w' := w) rfl rfl ?_
 refine ws_next (pend' := []) hst (by kernel_rfl) pk_nil ?_
 refine ws_nil ?_
 intro w hst
 refine then_n (wp_seq (wp_region_lit ?_))
 refine wv (v1077) rfl rfl rfl ?_
 refine wv (.pointer (some ⟨b1048, 3, none⟩)) rfl rfl (x_field rfl Try.underlying39 rfl Try.sizeOf36 rfl) ?_
 refine wv (r1_0) rfl rfl (x_load rfl Try.isAgg36 (hst.bc3 rfl)) ?_
 refine wv (.int .i64 ((a1.Gots).length : Int)) rfl rfl (x_len rfl Try.underlying36 (rd_sliceV f1_0)) ?_
 refine wv (.int .u64 (IntKind.u64.wrap ((a1.Gots).length : Int))) rfl rfl (by kernel_rfl) ?_
 replace hst := hst.pull1
 obtain ⟨css1079, hq1080, hst⟩ := hst.own_open
 obtain ⟨t1081, ht1082, hm⟩ := bind_some hm
 refine wl_call rfl rfl (x_call Try.call45 rfl (vs := [v1077, .int .u64 (IntKind.u64.wrap ((a1.Gots).length : Int)), .int .i64 (4:Int)]) rfl) ?_
 refine (ref02_Num_ref (hst.rdrow0 hq1080) hst.to0 ht1082).mono ?_
 rintro _ w1083 ⟨v1086, rfl, hst⟩
 refine ⟨_, rfl, ?_⟩
 replace hst := hst.of1
 replace hst := hst.pull1
 replace hst := hst.own_close hq1080
 refine wv (v1086) rfl rfl rfl ?_
 refine wl_nil (then_n ?_)
 obtain ⟨y1199, hm, hx1200⟩ := bind_some hm
 refine wp_cut (fun a w => ∃ (z1196 : (List Int)) (v1195 : Value) (σ1197 : Nat → Value), (ref13_Reply_j0 a1) z1196 = some r ∧ a = Fr 103 (upd (upd σ1197 0 (v1195)) 3 (.pointer (some ⟨b1048, 0, none⟩))) ∧ St w0 w I [ownS (tyInt .u8) v1195 z1196, cells b1048 [.int .i64 a1.E, .int .u64 a1.Epoch, .int .u64 a1.Index, r1_0, r1_1]] R) ?_ ?_
 ·skip
  refine wp_seq (wp_region_lit ?_)
  refine wv (.int .i64 (0:Int)) rfl rfl rfl ?_
  refine wl_nil (then_n (wp_block ?_))
  replace hst := hst.sub
  replace hst := hst.pull1
  replace hst := hst.sub
  replace hst := hst.pull1
  replace hst := hst.sub
  obtain ⟨n1157, hm⟩ := loopO_some hm
  refine wp_loop_n (fun n a w => ∃ (z1152 : (List Int)) (z1155 : Int) (v1153 : Value) (σ1156 : Nat → Value), loopN (ref13_Reply_l1 a1) n (z1152, z1155) = some y1199 ∧ a = Fr 103 (upd (upd (upd σ1156 0 (v1153)) 3 (.pointer (some ⟨b1048, 0, none⟩))) 5 (.int .i64 z1155)) ∧ St w0 w I [ownS (tyInt .u8) v1153 z1152, cells b1048 [.int .i64 a1.E, .int .u64 a1.Epoch, .int .u64 a1.Index, r1_0, r1_1]] R) n1157 ⟨t1081, (0:Int), v1086, _, hm, ((fr_upd (t := 0) (v := v1086) rfl).trans ((fr_upd (t := 3) (v := .pointer (some ⟨b1048, 0, none⟩)) rfl).trans ((fr_upd (t := 5) (v := .int .i64 (0:Int)) rfl).trans rfl))), hst⟩ ?_
  rintro n1163 _ w1158 ⟨z1152, z1155, v1153, σ1156, hm, rfl, hst⟩
  obtain ⟨n1160, y1161, rfl, hm, hx1162⟩ := loopN_some hm
  dsimp only [ref13_Reply_l1] at hm
  refine wp_seq (wp_seq (wp_region_lit ?_))
  refine wv (.int .i64 z1155) rfl rfl rfl ?_
  refine wv (.pointer (some ⟨b1048, 3, none⟩)) rfl rfl (x_field rfl Try.underlying39 rfl Try.sizeOf36 rfl) ?_
  refine wv (r1_0) rfl rfl (x_load rfl Try.isAgg36 (hst.bc1 rfl)) ?_
  refine wv (.int .i64 ((a1.Gots).length : Int)) rfl rfl (x_len rfl Try.underlying36 (rd_sliceV f1_0)) ?_
  refine wv (.bool (decide (z1155 < ((a1.Gots).length : Int)))) rfl rfl rfl ?_
  refine wl_nil (then_n ?_)
  refine bsplit (decide (z1155 < ((a1.Gots).length : Int))) (fun hc1164 => ?_) (fun hc1164 => ?_)
  ·skip
   replace hm := bif_t hc1164 hm
   refine wp_ift (congrArg Value.bool hc1164) ?_
   refine wp_skip (then_n (wp_seq (wp_block ?_)))
   refine wp_region_St hst 16 [0, 1, 2, 3, 4, 5, 6, 7, 8, 9, 10, 11, 12, 13, 14, 15] [0, 0, 2, 0, 14, 30, 62, 127, 0, 256, 0, 1792, 3840, 7936, 16383, 32767] [15] rfl (by kernel_rfl) (by kernel_rfl) Try.mixed (by kernel_rfl) ?_
   refine wsr (v1153) 0 rfl rfl rfl (by kernel_rfl) (fun w hst => rfl) ?_
   refine wsr (.pointer (some ⟨b1048, 3, none⟩)) 1 rfl rfl rfl (by kernel_rfl) (fun w hst => x_field rfl Try.underlying39 rfl Try.sizeOf36 rfl) ?_
   refine wsr (r1_0) 2 rfl rfl rfl (by kernel_rfl) (fun w hst => x_load rfl Try.isAgg36 (hst.bc1 rfl)) ?_
   refine wsr (.int .i64 z1155) 3 rfl rfl rfl (by kernel_rfl) (fun w hst => rfl) ?_
   obtain ⟨x1165, hx1166, hm⟩ := bind_some hm
   obtain ⟨h1167, h1168, hi1169⟩ := geto_some hx1166
   refine wsr (.pointer (some (eAddr r1_0 (z1155.toNat * 2 + 0)))) 4 rfl rfl rfl (by kernel_rfl) (fun w hst => x_index rfl rfl Try.underlying36 Try.sizeOf51 (rd_sliceV f1_0) h1167 h1168) ?_
   refine wsr (.pointer (some (eAddr r1_0 (z1155.toNat * 2 + 0)))) 5 rfl rfl rfl (by kernel_rfl) (fun w hst => x_field_e rfl Try.underlying51 rfl Try.sizeOf4 rfl) ?_
   obtain ⟨cs1170, hr1171, hc1172⟩ := Rd.getF f1_0 hi1169
   obtain ⟨v1173, rfl, f1174, -⟩ := hr1171
   refine wsr (.bool x1165.Has) 6 rfl rfl rfl (by kernel_rfl) (fun w hst => x_load rfl Try.isAgg4 ((hc1172 (HL.le.refl _) hst) 0 _ rfl)) ?_
   refine wsr (.pointer (some ⟨b1048, 3, none⟩)) 8 rfl rfl rfl (by kernel_rfl) (fun w hst => x_field rfl Try.underlying39 rfl Try.sizeOf36 rfl) ?_
   refine wsr (r1_0) 9 rfl rfl rfl (by kernel_rfl) (fun w hst => x_load rfl Try.isAgg36 (hst.bc1 rfl)) ?_
   refine wsr (.int .i64 z1155) 10 rfl rfl rfl (by kernel_rfl) (fun w hst => rfl) ?_
   refine wsr (.pointer (some (eAddr r1_0 (z1155.toNat * 2 + 0)))) 11 rfl rfl rfl (by kernel_rfl) (fun w hst => x_index rfl rfl Try.underlying36 Try.sizeOf51 (rd_sliceV f1_0) h1167 h1168) ?_
   refine wsr (.pointer (some (eAddr r1_0 (z1155.toNat * 2 + 1)))) 12 rfl rfl rfl (by kernel_rfl) (fun w hst => x_field_e rfl Try.underlying51 rfl Try.sizeOf22 rfl) ?_
   refine wsr (v1173) 13 rfl rfl rfl (by kernel_rfl) (fun w hst => x_load rfl Try.isAgg22 ((hc1172 (HL.le.refl _) hst) 1 _ rfl)) ?_
   refine ws_e1 7 (by kernel_rfl) ?_
   refine nxe [14, 15] (by kernel_rfl) rfl rfl ?_
   clear hst
   intro w hst
   obtain ⟨css1176, hq1177, hst⟩ := hst.own_open
   obtain ⟨t1178, ht1179, hm⟩ := bind_some hm
   refine we_call rfl (x_call Try.call47 rfl (vs := [v1153, .bool x1165.Has]) rfl) ?_
   refine (ref02_Flag_ref (hst.rdrow0 hq1177) hst.to0 ht1179).mono ?_
   rintro _ w1180 ⟨v1183, rfl, hst⟩
   refine ⟨_, rfl, ?_⟩
   replace hst := hst.of1
   replace hst := hst.pull1
   replace hst := hst.own_close hq1177
   refine ws_next (pend' := [(13, v1173), (12, .pointer (some (eAddr r1_0 (z1155.toNat * 2 + 1)))), (11, .pointer (some (eAddr r1_0 (z1155.toNat * 2 + 0)))), (10, .int .i64 z1155), (9, r1_0), (8, .pointer (some ⟨b1048, 3, none⟩))]) hst (by kernel_rfl) (pkr rfl rfl (fun w hst => x_load rfl Try.isAgg22 ((hc1172 (HL.le.refl _) hst) 1 _ rfl)) (pkr rfl rfl (fun w hst => x_field_e rfl Try.underlying51 rfl Try.sizeOf22 rfl) (pkr rfl rfl (fun w hst => x_index rfl rfl Try.underlying36 Try.sizeOf51 (rd_sliceV f1_0) h1167 h1168) (pkr rfl rfl (fun w hst => rfl) (pkr rfl rfl (fun w hst => x_load rfl Try.isAgg36 (hst.bc2 rfl)) (pkr rfl rfl (fun w hst => x_field rfl Try.underlying39 rfl Try.sizeOf36 rfl) pk_nil)))))) ?_
   refine ws_e1 14 (by kernel_rfl) ?_
   refine nxe [15] (by kernel_rfl) rfl rfl ?_
   clear hst
   intro w hst
   replace hst := hst.pull1
   obtain ⟨css1185, hq1186, hst⟩ := hst.own_open
   obtain ⟨t1187, ht1188, hm⟩ := bind_some hm
   refine we_call rfl (x_call Try.call46 rfl (vs := [v1183, v1173]) rfl) ?_
   refine (ref02_Bytes_ref (hst.rdrow0 hq1186) (f1174.mono (rd_weak _)) hst.to0 ht1188).mono ?_
   rintro _ w1189 ⟨v1192, rfl, hst⟩
   refine ⟨_, rfl, ?_⟩
   replace hst := hst.of1
   replace hst := hst.pull1
   replace hst := hst.own_close hq1186
   refine ws_next (pend' := []) hst (by kernel_rfl) pk_nil ?_
   refine ws_e1 15 (by kernel_rfl) ?_
   refine nxe [] (by kernel_rfl) rfl rfl ?_
   clear hst
   intro w hst
   refine we_run (v := v1192) (w' := w) rfl rfl ?_
   refine ws_next (pend' := []) hst (by kernel_rfl) pk_nil ?_
   refine ws_nil ?_
   intro w hst
   refine blk_n (then_n (wp_region_lit ?_))
   refine wv (.int .i64 z1155) rfl rfl rfl ?_
   refine wv (.int .i64 (IntKind.i64.wrap (z1155 + (1:Int)))) rfl rfl rfl ?_
   refine wv (.int .i64 (IntKind.i64.wrap (z1155 + (1:Int)))) rfl rfl rfl ?_
   refine wl_nil (then_n ?_)
   replace hst := hst.pull3
   replace hst := hst.pull2
   replace hst := hst.keep2
   obtain rfl := some_inj hm
   exact ⟨_, Nat.lt_succ_self _, t1187, (IntKind.i64.wrap (z1155 + (1:Int))), v1192, _, hx1162, ((fr_upd (t := 0) (v := v1192) rfl).trans ((fr_upd (t := 3) (v := .pointer (some ⟨b1048, 0, none⟩)) rfl).trans ((fr_upd (t := 5) (v := .int .i64 (IntKind.i64.wrap (z1155 + (1:Int)))) rfl).trans rfl))), hst⟩
  ·skip
   replace hm := bif_f hc1164 hm
   refine wp_iff (congrArg Value.bool hc1164) ?_
   refine wp_exit (then_x (then_x ?_))
   replace hm := inr_up hm hx1162
   refine blk_x (then_n ?_)
   replace hst := hst.pull1
   replace hst := hst.pull1
   replace hst := hst.keep2
   obtain rfl := some_inj hm
   exact ⟨z1152, v1153, _, hx1200, ((fr_upd (t := 0) (v := v1153) rfl).trans ((fr_upd (t := 3) (v := .pointer (some ⟨b1048, 0, none⟩)) rfl).trans rfl)), hst⟩
 ·skip
  clear hst
  rintro _ w1201 ⟨z1196, v1195, σ1197, hm, rfl, hst⟩
  dsimp only [ref13_Reply_j0] at hm
  refine wp_seq (wp_region_lit ?_)
  refine wv (v1195) rfl rfl rfl ?_
  refine wv (.pointer (some ⟨b1048, 4, none⟩)) rfl rfl (x_field rfl Try.underlying39 rfl Try.sizeOf37 rfl) ?_
  refine wv (r1_1) rfl rfl (x_load rfl Try.isAgg37 (hst.bc1 rfl)) ?_
  refine wv (.int .i64 ((a1.Scans).length : Int)) rfl rfl (x_len rfl Try.underlying37 (rd_sliceV f1_1)) ?_
  refine wv (.int .u64 (IntKind.u64.wrap ((a1.Scans).length : Int))) rfl rfl (by kernel_rfl) ?_
  obtain ⟨css1202, hq1203, hst⟩ := hst.own_open
  obtain ⟨t1204, ht1205, hm⟩ := bind_some hm
  refine wl_call rfl rfl (x_call Try.call45 rfl (vs := [v1195, .int .u64 (IntKind.u64.wrap ((a1.Scans).length : Int)), .int .i64 (4:Int)]) rfl) ?_
  refine (ref02_Num_ref (hst.rdrow0 hq1203) hst.to0 ht1205).mono ?_
  rintro _ w1206 ⟨v1209, rfl, hst⟩
  refine ⟨_, rfl, ?_⟩
  replace hst := hst.of1
  replace hst := hst.pull1
  replace hst := hst.own_close hq1203
  refine wv (v1209) rfl rfl rfl ?_
  refine wl_nil (then_n (wp_seq (wp_seq (wp_region_lit ?_))))
  refine wv (.int .i64 (0:Int)) rfl rfl rfl ?_
  refine wl_nil (then_n (wp_block ?_))
  replace hst := hst.sub
  obtain ⟨n1540, hm⟩ := loopO_some hm
  refine wp_loop_n (fun n a w => ∃ (z1535 : (List Int)) (z1538 : Int) (v1536 : Value) (σ1539 : Nat → Value), loopN (ref13_Reply_l2 a1) n (z1535, z1538) = some r ∧ a = Fr 103 (upd (upd (upd σ1539 0 (v1536)) 3 (.pointer (some ⟨b1048, 0, none⟩))) 6 (.int .i64 z1538)) ∧ St w0 w I [ownS (tyInt .u8) v1536 z1535, cells b1048 [.int .i64 a1.E, .int .u64 a1.Epoch, .int .u64 a1.Index, r1_0, r1_1]] R) n1540 ⟨t1204, (0:Int), v1209, _, hm, ((fr_upd (t := 0) (v := v1209) rfl).trans ((fr_upd (t := 3) (v := .pointer (some ⟨b1048, 0, none⟩)) rfl).trans ((fr_upd (t := 6) (v := .int .i64 (0:Int)) rfl).trans rfl))), hst⟩ ?_
  rintro n1546 _ w1541 ⟨z1535, z1538, v1536, σ1539, hm, rfl, hst⟩
  obtain ⟨n1543, y1544, rfl, hm, hx1545⟩ := loopN_some hm
  dsimp only [ref13_Reply_l2] at hm
  refine wp_seq (wp_seq (wp_region_lit ?_))
  refine wv (.int .i64 z1538) rfl rfl rfl ?_
  refine wv (.pointer (some ⟨b1048, 4, none⟩)) rfl rfl (x_field rfl Try.underlying39 rfl Try.sizeOf37 rfl) ?_
  refine wv (r1_1) rfl rfl (x_load rfl Try.isAgg37 (hst.bc1 rfl)) ?_
  refine wv (.int .i64 ((a1.Scans).length : Int)) rfl rfl (x_len rfl Try.underlying37 (rd_sliceV f1_1)) ?_
  refine wv (.bool (decide (z1538 < ((a1.Scans).length : Int)))) rfl rfl rfl ?_
  refine wl_nil (then_n ?_)
  refine bsplit (decide (z1538 < ((a1.Scans).length : Int))) (fun hc1547 => ?_) (fun hc1547 => ?_)
  ·skip
   replace hm := bif_t hc1547 hm
   refine wp_ift (congrArg Value.bool hc1547) ?_
   refine wp_skip (then_n (wp_seq (wp_block (wp_seq (wp_region_lit ?_)))))
   refine wv (v1536) rfl rfl rfl ?_
   refine wv (.pointer (some ⟨b1048, 4, none⟩)) rfl rfl (x_field rfl Try.underlying39 rfl Try.sizeOf37 rfl) ?_
   refine wv (r1_1) rfl rfl (x_load rfl Try.isAgg37 (hst.bc1 rfl)) ?_
   refine wv (.int .i64 z1538) rfl rfl rfl ?_
   obtain ⟨x1548, hx1549, hm⟩ := bind_some hm
   obtain ⟨h1550, h1551, hi1552⟩ := geto_some hx1549
   refine wv (.pointer (some (eAddr r1_1 (z1538.toNat * 1 + 0)))) rfl rfl (x_index rfl rfl Try.underlying37 Try.sizeOf52 (rd_sliceV f1_1) h1550 h1551) ?_
   obtain ⟨cs1553, hr1554, hc1555⟩ := Rd.getF f1_1 hi1552
   obtain ⟨v1556, rfl, f1557, -⟩ := hr1554
   refine wv (v1556) rfl rfl (x_load rfl Try.isAgg52 ((hc1555 (HL.le.refl _) hst) 0 _ rfl)) ?_
   refine wv (.int .i64 ((x1548).length : Int)) rfl rfl (x_len rfl Try.underlying52 (rd_sliceV f1557)) ?_
   refine wv (.int .u64 (IntKind.u64.wrap ((x1548).length : Int))) rfl rfl (by kernel_rfl) ?_
   obtain ⟨css1559, hq1560, hst⟩ := hst.own_open
   obtain ⟨t1561, ht1562, hm⟩ := bind_some hm
   refine wl_call rfl rfl (x_call Try.call45 rfl (vs := [v1536, .int .u64 (IntKind.u64.wrap ((x1548).length : Int)), .int .i64 (4:Int)]) rfl) ?_
   refine (ref02_Num_ref (hst.rdrow0 hq1560) hst.to0 ht1562).mono ?_
   rintro _ w1563 ⟨v1566, rfl, hst⟩
   refine ⟨_, rfl, ?_⟩
   replace hst := hst.of1
   replace hst := hst.pull1
   replace hst := hst.own_close hq1560
   refine wv (v1566) rfl rfl rfl ?_
   refine wl_nil (then_n (wp_seq (wp_region_lit ?_)))
   refine wv (.int .i64 (0:Int)) rfl rfl rfl ?_
   refine wl_nil (then_n (wp_block ?_))
   replace hst := hst.sub
   obtain ⟨n1659, hm⟩ := loopO_some hm
   refine wp_loop_n (fun n a w => ∃ (z1654 : (List Int)) (z1657 : Int) (v1655 : Value) (σ1658 : Nat → Value), loopN (ref13_Reply_l3 x1548 z1538) n (z1654, z1657) = some y1544 ∧ a = Fr 103 (upd (upd (upd (upd σ1658 0 (v1655)) 3 (.pointer (some ⟨b1048, 0, none⟩))) 6 (.int .i64 z1538)) 7 (.int .i64 z1657)) ∧ St w0 w I [ownS (tyInt .u8) v1655 z1654, cells b1048 [.int .i64 a1.E, .int .u64 a1.Epoch, .int .u64 a1.Index, r1_0, r1_1]] R) n1659 ⟨t1561, (0:Int), v1566, _, hm, ((fr_upd (t := 0) (v := v1566) rfl).trans ((fr_upd (t := 3) (v := .pointer (some ⟨b1048, 0, none⟩)) rfl).trans ((fr_upd (t := 6) (v := .int .i64 z1538) rfl).trans ((fr_upd (t := 7) (v := .int .i64 (0:Int)) rfl).trans rfl)))), hst⟩ ?_
   rintro n1665 _ w1660 ⟨z1654, z1657, v1655, σ1658, hm, rfl, hst⟩
   obtain ⟨n1662, y1663, rfl, hm, hx1664⟩ := loopN_some hm
   dsimp only [ref13_Reply_l3] at hm
   refine wp_seq (wp_seq (wp_region_lit ?_))
   refine wv (.int .i64 z1657) rfl rfl rfl ?_
   refine wv (.pointer (some ⟨b1048, 4, none⟩)) rfl rfl (x_field rfl Try.underlying39 rfl Try.sizeOf37 rfl) ?_
   refine wv (r1_1) rfl rfl (x_load rfl Try.isAgg37 (hst.bc1 rfl)) ?_
   refine wv (.int .i64 z1538) rfl rfl rfl ?_
   refine wv (.pointer (some (eAddr r1_1 (z1538.toNat * 1 + 0)))) rfl rfl (x_index rfl rfl Try.underlying37 Try.sizeOf52 (rd_sliceV f1_1) h1550 h1551) ?_
   obtain ⟨cs1666, hr1667, hc1668⟩ := Rd.getF f1_1 hi1552
   obtain ⟨v1669, rfl, f1670, -⟩ := hr1667
   refine wv (v1669) rfl rfl (x_load rfl Try.isAgg52 ((hc1668 (HL.le.refl _) hst) 0 _ rfl)) ?_
   refine wv (.int .i64 ((x1548).length : Int)) rfl rfl (x_len rfl Try.underlying52 (rd_sliceV f1670)) ?_
   refine wv (.bool (decide (z1657 < ((x1548).length : Int)))) rfl rfl rfl ?_
   refine wl_nil (then_n ?_)
   refine bsplit (decide (z1657 < ((x1548).length : Int))) (fun hc1672 => ?_) (fun hc1672 => ?_)
   ·skip
    replace hm := bif_t hc1672 hm
    refine wp_ift (congrArg Value.bool hc1672) ?_
    refine wp_skip (then_n (wp_seq (wp_block ?_)))
    refine wp_region_St hst 23 [0, 1, 2, 3, 4, 5, 6, 7, 8, 9, 10, 11, 12, 13, 14, 15, 16, 17, 18, 19, 20, 21, 22] [0, 0, 2, 0, 14, 30, 0, 126, 254, 510, 1022, 2047, 0, 4096, 0, 28672, 61440, 0, 258048, 520192, 1044480, 2097151, 4194303] [22] rfl (by kernel_rfl) (by kernel_rfl) Try.mixed (by kernel_rfl) ?_
    refine wsr (v1655) 0 rfl rfl rfl (by kernel_rfl) (fun w hst => rfl) ?_
    refine wsr (.pointer (some ⟨b1048, 4, none⟩)) 1 rfl rfl rfl (by kernel_rfl) (fun w hst => x_field rfl Try.underlying39 rfl Try.sizeOf37 rfl) ?_
    refine wsr (r1_1) 2 rfl rfl rfl (by kernel_rfl) (fun w hst => x_load rfl Try.isAgg37 (hst.bc1 rfl)) ?_
    refine wsr (.int .i64 z1538) 3 rfl rfl rfl (by kernel_rfl) (fun w hst => rfl) ?_
    refine wsr (.pointer (some (eAddr r1_1 (z1538.toNat * 1 + 0)))) 4 rfl rfl rfl (by kernel_rfl) (fun w hst => x_index rfl rfl Try.underlying37 Try.sizeOf52 (rd_sliceV f1_1) h1550 h1551) ?_
    refine wsr (v1669) 5 rfl rfl rfl (by kernel_rfl) (fun w hst => x_load rfl Try.isAgg52 ((hc1668 (HL.le.refl _) hst) 0 _ rfl)) ?_
    refine wsr (.int .i64 z1657) 6 rfl rfl rfl (by kernel_rfl) (fun w hst => rfl) ?_
    obtain ⟨x1673, hx1674, hm⟩ := bind_some hm
    obtain ⟨h1675, h1676, hi1677⟩ := geto_some hx1674
    refine wsr (.pointer (some (eAddr v1669 (z1657.toNat * 2 + 0)))) 7 rfl rfl rfl (by kernel_rfl) (fun w hst => x_index rfl rfl Try.underlying52 Try.sizeOf54 (rd_sliceV f1670) h1675 h1676) ?_
    refine wsr (.pointer (some (eAddr v1669 (z1657.toNat * 2 + 0)))) 8 rfl rfl rfl (by kernel_rfl) (fun w hst => x_field_e rfl Try.underlying54 rfl Try.sizeOf41 rfl) ?_
    obtain ⟨cs1678, hr1679, hc1680⟩ := Rd.getF f1670 hi1677
    obtain ⟨v1681, rfl, f1682, -⟩ := hr1679
    refine wsr (.float .f64 x1673.At) 9 rfl rfl rfl (by kernel_rfl) (fun w hst => x_load rfl Try.isAgg41 ((hc1680 (HL.le.refl _) hst) 0 _ rfl)) ?_
    refine wsr (.pointer (some ⟨b1048, 4, none⟩)) 12 rfl rfl rfl (by kernel_rfl) (fun w hst => x_field rfl Try.underlying39 rfl Try.sizeOf37 rfl) ?_
    refine wsr (r1_1) 13 rfl rfl rfl (by kernel_rfl) (fun w hst => x_load rfl Try.isAgg37 (hst.bc1 rfl)) ?_
    refine wsr (.int .i64 z1538) 14 rfl rfl rfl (by kernel_rfl) (fun w hst => rfl) ?_
    refine wsr (.pointer (some (eAddr r1_1 (z1538.toNat * 1 + 0)))) 15 rfl rfl rfl (by kernel_rfl) (fun w hst => x_index rfl rfl Try.underlying37 Try.sizeOf52 (rd_sliceV f1_1) h1550 h1551) ?_
    refine wsr (v1669) 16 rfl rfl rfl (by kernel_rfl) (fun w hst => x_load rfl Try.isAgg52 ((hc1668 (HL.le.refl _) hst) 0 _ rfl)) ?_
    refine wsr (.int .i64 z1657) 17 rfl rfl rfl (by kernel_rfl) (fun w hst => rfl) ?_
    refine wsr (.pointer (some (eAddr v1669 (z1657.toNat * 2 + 0)))) 18 rfl rfl rfl (by kernel_rfl) (fun w hst => x_index rfl rfl Try.underlying52 Try.sizeOf54 (rd_sliceV f1670) h1675 h1676) ?_
    refine wsr (.pointer (some (eAddr v1669 (z1657.toNat * 2 + 1)))) 19 rfl rfl rfl (by kernel_rfl) (fun w hst => x_field_e rfl Try.underlying54 rfl Try.sizeOf22 rfl) ?_
    refine wsr (v1681) 20 rfl rfl rfl (by kernel_rfl) (fun w hst => x_load rfl Try.isAgg22 ((hc1680 (HL.le.refl _) hst) 1 _ rfl)) ?_
    refine ws_e1 10 (by kernel_rfl) ?_
    refine nxe [11, 21, 22] (by kernel_rfl) rfl rfl ?_
    clear hst
    intro w hst
    obtain ⟨t1684, ht1685, hm⟩ := bind_some hm
    refine we_call rfl (x_call Try.call48 rfl (vs := [.float .f64 x1673.At]) rfl) ?_
    refine (ref01_Rank_ref hst.to0 ht1685).mono ?_
    rintro _ w1686 ⟨rfl, hst⟩
    refine ⟨_, rfl, ?_⟩
    replace hst := hst.of0
    refine ws_next (pend' := [(20, v1681), (19, .pointer (some (eAddr v1669 (z1657.toNat * 2 + 1)))), (18, .pointer (some (eAddr v1669 (z1657.toNat * 2 + 0)))), (17, .int .i64 z1657), (16, v1669), (15, .pointer (some (eAddr r1_1 (z1538.toNat * 1 + 0)))), (14, .int .i64 z1538), (13, r1_1), (12, .pointer (some ⟨b1048, 4, none⟩)), (0, v1655)]) hst (by kernel_rfl) (pkr rfl rfl (fun w hst => x_load rfl Try.isAgg22 ((hc1680 (HL.le.refl _) hst) 1 _ rfl)) (pkr rfl rfl (fun w hst => x_field_e rfl Try.underlying54 rfl Try.sizeOf22 rfl) (pkr rfl rfl (fun w hst => x_index rfl rfl Try.underlying52 Try.sizeOf54 (rd_sliceV f1670) h1675 h1676) (pkr rfl rfl (fun w hst => rfl) (pkr rfl rfl (fun w hst => x_load rfl Try.isAgg52 ((hc1668 (HL.le.refl _) hst) 0 _ rfl)) (pkr rfl rfl (fun w hst => x_index rfl rfl Try.underlying37 Try.sizeOf52 (rd_sliceV f1_1) h1550 h1551) (pkr rfl rfl (fun w hst => rfl) (pkr rfl rfl (fun w hst => x_load rfl Try.isAgg37 (hst.bc1 rfl)) (pkr rfl rfl (fun w hst => x_field rfl Try.underlying39 rfl Try.sizeOf37 rfl) (pkr rfl rfl (fun w hst => rfl) pk_nil)))))))))) ?_
    refine ws_e1 11 (by kernel_rfl) ?_
    refine nxe [21, 22] (by kernel_rfl) rfl rfl ?_
    clear hst
    intro w hst
    obtain ⟨css1689, hq1690, hst⟩ := hst.own_open
    obtain ⟨t1691, ht1692, hm⟩ := bind_some hm
    refine we_call rfl (x_call Try.call45 rfl (vs := [v1655, .int .u64 t1684, .int .i64 (8:Int)]) rfl) ?_
    refine (ref02_Num_ref (hst.rdrow0 hq1690) hst.to0 ht1692).mono ?_
    rintro _ w1693 ⟨v1696, rfl, hst⟩
    refine ⟨_, rfl, ?_⟩
    replace hst := hst.of1
    replace hst := hst.pull1
    replace hst := hst.own_close hq1690
    refine ws_next (pend' := [(20, v1681), (19, .pointer (some (eAddr v1669 (z1657.toNat * 2 + 1)))), (18, .pointer (some (eAddr v1669 (z1657.toNat * 2 + 0)))), (17, .int .i64 z1657), (16, v1669), (15, .pointer (some (eAddr r1_1 (z1538.toNat * 1 + 0)))), (14, .int .i64 z1538), (13, r1_1), (12, .pointer (some ⟨b1048, 4, none⟩))]) hst (by kernel_rfl) (pkr rfl rfl (fun w hst => x_load rfl Try.isAgg22 ((hc1680 (HL.le.refl _) hst) 1 _ rfl)) (pkr rfl rfl (fun w hst => x_field_e rfl Try.underlying54 rfl Try.sizeOf22 rfl) (pkr rfl rfl (fun w hst => x_index rfl rfl Try.underlying52 Try.sizeOf54 (rd_sliceV f1670) h1675 h1676) (pkr rfl rfl (fun w hst => rfl) (pkr rfl rfl (fun w hst => x_load rfl Try.isAgg52 ((hc1668 (HL.le.refl _) hst) 0 _ rfl)) (pkr rfl rfl (fun w hst => x_index rfl rfl Try.underlying37 Try.sizeOf52 (rd_sliceV f1_1) h1550 h1551) (pkr rfl rfl (fun w hst => rfl) (pkr rfl rfl (fun w hst => x_load rfl Try.isAgg37 (hst.bc2 rfl)) (pkr rfl rfl (fun w hst => x_field rfl Try.underlying39 rfl Try.sizeOf37 rfl) pk_nil))))))))) ?_
    refine ws_e1 21 (by kernel_rfl) ?_
    refine nxe [22] (by kernel_rfl) rfl rfl ?_
    clear hst
    intro w hst
    replace hst := hst.pull1
    obtain ⟨css1698, hq1699, hst⟩ := hst.own_open
    obtain ⟨t1700, ht1701, hm⟩ := bind_some hm
    refine we_call rfl (x_call Try.call46 rfl (vs := [v1696, v1681]) rfl) ?_
    refine (ref02_Bytes_ref (hst.rdrow0 hq1699) (f1682.mono (rd_weak _)) hst.to0 ht1701).mono ?_
    rintro _ w1702 ⟨v1705, rfl, hst⟩
    refine ⟨_, rfl, ?_⟩
    replace hst := hst.of1
    replace hst := hst.pull1
    replace hst := hst.own_close hq1699
    refine ws_next (pend' := []) hst (by kernel_rfl) pk_nil ?_
    refine ws_e1 22 (by kernel_rfl) ?_
    refine nxe [] (by kernel_rfl) rfl rfl ?_
    clear hst
    intro w hst
    refine we_run (v := v1705) (w' := w) rfl rfl ?_
    refine ws_next (pend' := []) hst (by kernel_rfl) pk_nil ?_
    refine ws_nil ?_
    intro w hst
    refine blk_n (then_n (wp_region_lit ?_))
    refine wv (.int .i64 z1657) rfl rfl rfl ?_
    refine wv (.int .i64 (IntKind.i64.wrap (z1657 + (1:Int)))) rfl rfl rfl ?_
    refine wv (.int .i64 (IntKind.i64.wrap (z1657 + (1:Int)))) rfl rfl rfl ?_
    refine wl_nil (then_n ?_)
    replace hst := hst.pull3
    replace hst := hst.pull2
    replace hst := hst.keep2
    obtain rfl := some_inj hm
    exact ⟨_, Nat.lt_succ_self _, t1700, (IntKind.i64.wrap (z1657 + (1:Int))), v1705, _, hx1664, ((fr_upd (t := 0) (v := v1705) rfl).trans ((fr_upd (t := 3) (v := .pointer (some ⟨b1048, 0, none⟩)) rfl).trans ((fr_upd (t := 6) (v := .int .i64 z1538) rfl).trans ((fr_upd (t := 7) (v := .int .i64 (IntKind.i64.wrap (z1657 + (1:Int)))) rfl).trans rfl)))), hst⟩
   ·skip
    replace hm := bif_f hc1672 hm
    refine wp_iff (congrArg Value.bool hc1672) ?_
    refine wp_exit (then_x (then_x ?_))
    replace hm := inr_up hm hx1664
    refine blk_x (blk_n (then_n (wp_region_lit ?_)))
    refine wv (.int .i64 z1538) rfl rfl rfl ?_
    refine wv (.int .i64 (IntKind.i64.wrap (z1538 + (1:Int)))) rfl rfl rfl ?_
    refine wv (.int .i64 (IntKind.i64.wrap (z1538 + (1:Int)))) rfl rfl rfl ?_
    refine wl_nil (then_n ?_)
    replace hst := hst.pull1
    replace hst := hst.pull1
    replace hst := hst.keep2
    obtain rfl := some_inj hm
    exact ⟨_, Nat.lt_succ_self _, z1654, (IntKind.i64.wrap (z1538 + (1:Int))), v1655, _, hx1545, ((fr_upd (t := 0) (v := v1655) rfl).trans ((fr_upd (t := 3) (v := .pointer (some ⟨b1048, 0, none⟩)) rfl).trans ((fr_upd (t := 6) (v := .int .i64 (IntKind.i64.wrap (z1538 + (1:Int)))) rfl).trans rfl))), hst⟩
  ·skip
   replace hm := bif_f hc1547 hm
   refine wp_iff (congrArg Value.bool hc1547) ?_
   refine wp_exit (then_x (then_x ?_))
   replace hm := inr_up hm hx1545
   refine blk_x (then_n (wp_seq (wp_region_lit ?_)))
   refine wv (v1536) rfl rfl rfl ?_
   refine wv (v1536) rfl rfl rfl ?_
   refine wl_nil (then_n (wp_ret ?_))
   obtain rfl := some_inj hm
   refine post_ret (vs := [v1536]) Try.results17 (rvs_cons (rv_tmp rfl) rvs_nil) ?_
   exact ⟨v1536, rfl, hst.keep1⟩

theorem ref13_Rule_ref {w0 w : World} {I : HL} {R : SP} {a0 : (List Int)} {r0_0 : Value} {a1 : api_Rule} (f0_0 : Rd (tyInt .u8) R I r0_0 a0) (hst : St w0 w I [] R) {r : ((List Int))} (hm : ref13_Rule a0 a1 = some r) :
  Calls Try.prog 60 #[r0_0, .agg #[.int .u64 a1.ID, .int .i64 a1.From, .int .i64 a1.To, .float .f64 a1.Lo, .float .f64 a1.Hi, .int .u64 a1.Authority, .int .i64 a1.Quota]] w fun e w' => ∃ (q0_0 : Value), e = .returned (q0_0) ∧ St w0 w' I [ownS (tyInt .u8) q0_0 r] R := by
 unfold ref13_Rule at hm
 refine calls_start (args := [r0_0, .agg #[.int .u64 a1.ID, .int .i64 a1.From, .int .i64 a1.To, .float .f64 a1.Lo, .float .f64 a1.Hi, .int .u64 a1.Authority, .int .i64 a1.Quota]]) Try.func60 rfl Try.ntmps60 (Nat.le_of_ble_eq_true rfl) ?_
 refine wp_seq (wp_region_lit ?_)
 obtain ⟨b482, w483, ew484, eb485, hst⟩ := hst.box [.int .u64 a1.ID, .int .i64 a1.From, .int .i64 a1.To, .float .f64 a1.Lo, .float .f64 a1.Hi, .int .u64 a1.Authority, .int .i64 a1.Quota] 43
 refine wl_run (v := .pointer (some ⟨b482, 0, none⟩)) (w' := w483) rfl rfl (x_al (by kernel_rfl) ew484 eb485) ?_
 refine wv ((.slice none 0 0)) rfl rfl rfl ?_
 refine wl_nil (then_n (wp_seq (wp_region_lit ?_)))
 refine wv (r0_0) rfl rfl rfl ?_
 refine wv (.pointer (some ⟨b482, 0, none⟩)) rfl rfl (x_field rfl Try.underlying43 rfl Try.sizeOf27 rfl) ?_
 refine wv (.int .u64 a1.ID) rfl rfl (x_load rfl Try.isAgg27 (hst.bc0 rfl)) ?_
 obtain ⟨t488, ht489, hm⟩ := bind_some hm
 refine wl_call rfl rfl (x_call Try.call45 rfl (vs := [r0_0, .int .u64 a1.ID, .int .i64 (8:Int)]) rfl) ?_
 refine (ref02_Num_ref (f0_0.mono (rd_weak _)) hst.to0 ht489).mono ?_
 rintro _ w490 ⟨v493, rfl, hst⟩
 refine ⟨_, rfl, ?_⟩
 replace hst := hst.of1
 refine wv (v493) rfl rfl rfl ?_
 refine wl_nil (then_n (wp_seq ?_))
 refine wp_region_St hst 10 [0, 1, 2, 3, 4, 5, 6, 7, 8, 9] [0, 0, 2, 6, 15, 0, 32, 96, 255, 511] [9] rfl (by kernel_rfl) (by kernel_rfl) Try.mixed (by kernel_rfl) ?_
 refine wsr (v493) 0 rfl rfl rfl (by kernel_rfl) (fun w hst => rfl) ?_
 refine wsr (.pointer (some ⟨b482, 1, none⟩)) 1 rfl rfl rfl (by kernel_rfl) (fun w hst => x_field rfl Try.underlying43 rfl Try.sizeOf3 rfl) ?_
 refine wsr (.int .i64 a1.From) 2 rfl rfl rfl (by kernel_rfl) (fun w hst => x_load rfl Try.isAgg3 (hst.bc1 rfl)) ?_
 refine wsr (.int .u64 (IntKind.u64.wrap a1.From)) 3 rfl rfl rfl (by kernel_rfl) (fun w hst => by kernel_rfl) ?_
 refine wsr (.pointer (some ⟨b482, 2, none⟩)) 5 rfl rfl rfl (by kernel_rfl) (fun w hst => x_field rfl Try.underlying43 rfl Try.sizeOf3 rfl) ?_
 refine wsr (.int .i64 a1.To) 6 rfl rfl rfl (by kernel_rfl) (fun w hst => x_load rfl Try.isAgg3 (hst.bc1 rfl)) ?_
 refine wsr (.int .u64 (IntKind.u64.wrap a1.To)) 7 rfl rfl rfl (by kernel_rfl) (fun w hst => by kernel_rfl) ?_
 refine ws_e1 4 (by kernel_rfl) ?_
 refine nxe [8, 9] (by kernel_rfl) rfl rfl ?_
 clear hst
 intro w hst
 obtain ⟨css495, hq496, hst⟩ := hst.own_open
 obtain ⟨t497, ht498, hm⟩ := bind_some hm
 refine we_call rfl (x_call Try.call45 rfl (vs := [v493, .int .u64 (IntKind.u64.wrap a1.From), .int .i64 (1:Int)]) rfl) ?_
 refine (ref02_Num_ref (hst.rdrow0 hq496) hst.to0 ht498).mono ?_
 rintro _ w499 ⟨v502, rfl, hst⟩
 refine ⟨_, rfl, ?_⟩
 replace hst := hst.of1
 replace hst := hst.pull1
 replace hst := hst.own_close hq496
 refine ws_next (pend' := [(7, .int .u64 (IntKind.u64.wrap a1.To)), (6, .int .i64 a1.To), (5, .pointer (some ⟨b482, 2, none⟩))]) hst (by kernel_rfl) (pkr rfl rfl (fun w hst => by kernel_rfl) (pkr rfl rfl (fun w hst => x_load rfl Try.isAgg3 (hst.bc2 rfl)) (pkr rfl rfl (fun w hst => x_field rfl Try.underlying43 rfl Try.sizeOf3 rfl) pk_nil))) ?_
 refine ws_e1 8 (by kernel_rfl) ?_
 refine nxe [9] (by kernel_rfl) rfl rfl ?_
 clear hst
 intro w hst
 replace hst := hst.pull1
 obtain ⟨css504, hq505, hst⟩ := hst.own_open
 obtain ⟨t506, ht507, hm⟩ := bind_some hm
 refine we_call rfl (x_call Try.call45 rfl (vs := [v502, .int .u64 (IntKind.u64.wrap a1.To), .int .i64 (1:Int)]) rfl) ?_
 refine (ref02_Num_ref (hst.rdrow0 hq505) hst.to0 ht507).mono ?_
 rintro _ w508 ⟨v511, rfl, hst⟩
 refine ⟨_, rfl, ?_⟩
 replace hst := hst.of1
 replace hst := hst.pull1
 replace hst := hst.own_close hq505
 refine ws_next (pend' := []) hst (by kernel_rfl) pk_nil ?_
 refine ws_e1 9 (by kernel_rfl) ?_
 refine nxe [] (by kernel_rfl) rfl rfl ?_
 clear hst
 intro w hst
 refine we_run (v := v511) (w' := w) rfl rfl ?_
 refine ws_next (pend' := []) hst (by kernel_rfl) pk_nil ?_
 refine ws_nil ?_
 intro w hst
 refine then_n (wp_seq ?_)
 refine wp_region_St hst 10 [0, 1, 2, 3, 4, 5, 6, 7, 8, 9] [0, 0, 2, 6, 15, 0, 32, 127, 255, 511] [9] rfl (by kernel_rfl) (by kernel_rfl) Try.mixed (by kernel_rfl) ?_
 refine wsr (v511) 0 rfl rfl rfl (by kernel_rfl) (fun w hst => rfl) ?_
 refine wsr (.pointer (some ⟨b482, 3, none⟩)) 1 rfl rfl rfl (by kernel_rfl) (fun w hst => x_field rfl Try.underlying43 rfl Try.sizeOf41 rfl) ?_
 refine wsr (.float .f64 a1.Lo) 2 rfl rfl rfl (by kernel_rfl) (fun w hst => x_load rfl Try.isAgg41 (hst.bc3 rfl)) ?_
 refine wsr (.pointer (some ⟨b482, 4, none⟩)) 5 rfl rfl rfl (by kernel_rfl) (fun w hst => x_field rfl Try.underlying43 rfl Try.sizeOf41 rfl) ?_
 refine wsr (.float .f64 a1.Hi) 6 rfl rfl rfl (by kernel_rfl) (fun w hst => x_load rfl Try.isAgg41 (hst.bc3 rfl)) ?_
 refine ws_e1 3 (by kernel_rfl) ?_
 refine nxe [4, 7, 8, 9] (by kernel_rfl) rfl rfl ?_
 clear hst
 intro w hst
 obtain ⟨t513, ht514, hm⟩ := bind_some hm
 refine we_call rfl (x_call Try.call48 rfl (vs := [.float .f64 a1.Lo]) rfl) ?_
 refine (ref01_Rank_ref hst.to0 ht514).mono ?_
 rintro _ w515 ⟨rfl, hst⟩
 refine ⟨_, rfl, ?_⟩
 replace hst := hst.of0
 refine ws_next (pend' := [(6, .float .f64 a1.Hi), (5, .pointer (some ⟨b482, 4, none⟩)), (0, v511)]) hst (by kernel_rfl) (pkr rfl rfl (fun w hst => x_load rfl Try.isAgg41 (hst.bc3 rfl)) (pkr rfl rfl (fun w hst => x_field rfl Try.underlying43 rfl Try.sizeOf41 rfl) (pkr rfl rfl (fun w hst => rfl) pk_nil))) ?_
 refine ws_e1 4 (by kernel_rfl) ?_
 refine nxe [7, 8, 9] (by kernel_rfl) rfl rfl ?_
 clear hst
 intro w hst
 replace hst := hst.pull1
 obtain ⟨css518, hq519, hst⟩ := hst.own_open
 obtain ⟨t520, ht521, hm⟩ := bind_some hm
 refine we_call rfl (x_call Try.call45 rfl (vs := [v511, .int .u64 t513, .int .i64 (8:Int)]) rfl) ?_
 refine (ref02_Num_ref (hst.rdrow0 hq519) hst.to0 ht521).mono ?_
 rintro _ w522 ⟨v525, rfl, hst⟩
 refine ⟨_, rfl, ?_⟩
 replace hst := hst.of1
 replace hst := hst.pull1
 replace hst := hst.own_close hq519
 refine ws_next (pend' := [(6, .float .f64 a1.Hi), (5, .pointer (some ⟨b482, 4, none⟩))]) hst (by kernel_rfl) (pkr rfl rfl (fun w hst => x_load rfl Try.isAgg41 (hst.bc4 rfl)) (pkr rfl rfl (fun w hst => x_field rfl Try.underlying43 rfl Try.sizeOf41 rfl) pk_nil)) ?_
 refine ws_e1 7 (by kernel_rfl) ?_
 refine nxe [8, 9] (by kernel_rfl) rfl rfl ?_
 clear hst
 intro w hst
 obtain ⟨t527, ht528, hm⟩ := bind_some hm
 refine we_call rfl (x_call Try.call48 rfl (vs := [.float .f64 a1.Hi]) rfl) ?_
 refine (ref01_Rank_ref hst.to0 ht528).mono ?_
 rintro _ w529 ⟨rfl, hst⟩
 refine ⟨_, rfl, ?_⟩
 replace hst := hst.of0
 refine ws_next (pend' := []) hst (by kernel_rfl) pk_nil ?_
 refine ws_e1 8 (by kernel_rfl) ?_
 refine nxe [9] (by kernel_rfl) rfl rfl ?_
 clear hst
 intro w hst
 replace hst := hst.pull1
 obtain ⟨css532, hq533, hst⟩ := hst.own_open
 obtain ⟨t534, ht535, hm⟩ := bind_some hm
 refine we_call rfl (x_call Try.call45 rfl (vs := [v525, .int .u64 t527, .int .i64 (8:Int)]) rfl) ?_
 refine (ref02_Num_ref (hst.rdrow0 hq533) hst.to0 ht535).mono ?_
 rintro _ w536 ⟨v539, rfl, hst⟩
 refine ⟨_, rfl, ?_⟩
 replace hst := hst.of1
 replace hst := hst.pull1
 replace hst := hst.own_close hq533
 refine ws_next (pend' := []) hst (by kernel_rfl) pk_nil ?_
 refine ws_e1 9 (by kernel_rfl) ?_
 refine nxe [] (by kernel_rfl) rfl rfl ?_
 clear hst
 intro w hst
 refine we_run (v := v539) (w' := w) rfl rfl ?_
 refine ws_next (pend' := []) hst (by kernel_rfl) pk_nil ?_
 refine ws_nil ?_
 intro w hst
 refine then_n (wp_seq ?_)
 refine wp_region_St hst 9 [0, 1, 2, 3, 4, 5, 6, 7, 8] [0, 0, 2, 7, 0, 16, 48, 127, 255] [] rfl (by kernel_rfl) (by kernel_rfl) Try.mixed (by kernel_rfl) ?_
 refine wsr (v539) 0 rfl rfl rfl (by kernel_rfl) (fun w hst => rfl) ?_
 refine wsr (.pointer (some ⟨b482, 5, none⟩)) 1 rfl rfl rfl (by kernel_rfl) (fun w hst => x_field rfl Try.underlying43 rfl Try.sizeOf27 rfl) ?_
 refine wsr (.int .u64 a1.Authority) 2 rfl rfl rfl (by kernel_rfl) (fun w hst => x_load rfl Try.isAgg27 (hst.bc5 rfl)) ?_
 refine wsr (.pointer (some ⟨b482, 6, none⟩)) 4 rfl rfl rfl (by kernel_rfl) (fun w hst => x_field rfl Try.underlying43 rfl Try.sizeOf3 rfl) ?_
 refine wsr (.int .i64 a1.Quota) 5 rfl rfl rfl (by kernel_rfl) (fun w hst => x_load rfl Try.isAgg3 (hst.bc5 rfl)) ?_
 refine wsr (.int .u64 (IntKind.u64.wrap a1.Quota)) 6 rfl rfl rfl (by kernel_rfl) (fun w hst => by kernel_rfl) ?_
 refine ws_e1 3 (by kernel_rfl) ?_
 refine nxe [7, 8] (by kernel_rfl) rfl rfl ?_
 clear hst
 intro w hst
 replace hst := hst.pull1
 obtain ⟨css541, hq542, hst⟩ := hst.own_open
 obtain ⟨t543, ht544, hm⟩ := bind_some hm
 refine we_call rfl (x_call Try.call45 rfl (vs := [v539, .int .u64 a1.Authority, .int .i64 (8:Int)]) rfl) ?_
 refine (ref02_Num_ref (hst.rdrow0 hq542) hst.to0 ht544).mono ?_
 rintro _ w545 ⟨v548, rfl, hst⟩
 refine ⟨_, rfl, ?_⟩
 replace hst := hst.of1
 replace hst := hst.pull1
 replace hst := hst.own_close hq542
 refine ws_next (pend' := [(6, .int .u64 (IntKind.u64.wrap a1.Quota)), (5, .int .i64 a1.Quota), (4, .pointer (some ⟨b482, 6, none⟩))]) hst (by kernel_rfl) (pkr rfl rfl (fun w hst => by kernel_rfl) (pkr rfl rfl (fun w hst => x_load rfl Try.isAgg3 (hst.bc6 rfl)) (pkr rfl rfl (fun w hst => x_field rfl Try.underlying43 rfl Try.sizeOf3 rfl) pk_nil))) ?_
 refine ws_e1 7 (by kernel_rfl) ?_
 refine nxe [8] (by kernel_rfl) rfl rfl ?_
 clear hst
 intro w hst
 replace hst := hst.pull1
 obtain ⟨css550, hq551, hst⟩ := hst.own_open
 obtain ⟨t552, ht553, hm⟩ := bind_some hm
 refine we_call rfl (x_call Try.call45 rfl (vs := [v548, .int .u64 (IntKind.u64.wrap a1.Quota), .int .i64 (4:Int)]) rfl) ?_
 refine (ref02_Num_ref (hst.rdrow0 hq551) hst.to0 ht553).mono ?_
 rintro _ w554 ⟨v557, rfl, hst⟩
 refine ⟨_, rfl, ?_⟩
 replace hst := hst.of1
 replace hst := hst.pull1
 replace hst := hst.own_close hq551
 refine ws_next (pend' := []) hst (by kernel_rfl) pk_nil ?_
 refine wsr (v557) 8 rfl rfl rfl (by kernel_rfl) (fun w hst => rfl) ?_
 refine ws_nil ?_
 intro w hst
 refine then_n (wp_ret ?_)
 obtain rfl := some_inj hm
 refine post_ret (vs := [v557]) Try.results60 (rvs_cons (rv_tmp rfl) rvs_nil) ?_
 replace hst := hst.pull1
 exact ⟨v557, rfl, hst.keep1⟩

theorem ref13_Command_ref {w0 w : World} {I : HL} {R : SP} {a0 : api_Command} {r0_0 : Value} {r0_1 : Value} {r0_2 : Value} {r0_3 : Value} {r0_4 : Value} {r0_5 : Value} {r0_6 : Value} {r0_7 : Value} (f0_0 : Rd tyF64 R I r0_0 a0.Hold.Gets) (f0_1 : Rd tyF2 R I r0_1 a0.Hold.Scans) (f0_2 : Rd tyF64 R I r0_2 a0.Hold.Puts) (f0_3 : Rd (tyInt .u8) R I r0_3 a0.Hold.Data) (f0_4 : Rd ty_api_Write R I r0_4 a0.Writes) (f0_5 : Rd ty_api_Got R I r0_5 a0.R.Gots) (f0_6 : Rd (tySl ty_api_Pair) R I r0_6 a0.R.Scans) (f0_7 : Rd ty_api_Part R I r0_7 a0.Parts) (hst : St w0 w I [] R) {r : ((List Int))} (hm : ref13_Command a0 = some r) :
  Calls Try.prog 21 #[.agg #[.int .u8 a0.Kind, .int .u64 a0.ID.Session, .int .u64 a0.ID.Seq, .int .u64 a0.Epoch, .int .u64 a0.Index, .int .i64 a0.E, .int .u64 a0.Hold.ID.Session, .int .u64 a0.Hold.ID.Seq, .int .u64 a0.Hold.Epoch, r0_0, r0_1, r0_2, r0_3, r0_4, .int .i64 a0.R.E, .int .u64 a0.R.Epoch, .int .u64 a0.R.Index, r0_5, r0_6, .int .u64 a0.Shards, r0_7, .int .u64 a0.Rule.ID, .int .i64 a0.Rule.From, .int .i64 a0.Rule.To, .float .f64 a0.Rule.Lo, .float .f64 a0.Rule.Hi, .int .u64 a0.Rule.Authority, .int .i64 a0.Rule.Quota, .bool a0.On]] w fun e w' => ∃ (q0_0 : Value), e = .returned (q0_0) ∧ St w0 w' I [ownS (tyInt .u8) q0_0 r] R := by
 unfold ref13_Command at hm
 refine calls_start (args := [.agg #[.int .u8 a0.Kind, .int .u64 a0.ID.Session, .int .u64 a0.ID.Seq, .int .u64 a0.Epoch, .int .u64 a0.Index, .int .i64 a0.E, .int .u64 a0.Hold.ID.Session, .int .u64 a0.Hold.ID.Seq, .int .u64 a0.Hold.Epoch, r0_0, r0_1, r0_2, r0_3, r0_4, .int .i64 a0.R.E, .int .u64 a0.R.Epoch, .int .u64 a0.R.Index, r0_5, r0_6, .int .u64 a0.Shards, r0_7, .int .u64 a0.Rule.ID, .int .i64 a0.Rule.From, .int .i64 a0.Rule.To, .float .f64 a0.Rule.Lo, .float .f64 a0.Rule.Hi, .int .u64 a0.Rule.Authority, .int .i64 a0.Rule.Quota, .bool a0.On]]) Try.func21 rfl Try.ntmps21 (Nat.le_of_ble_eq_true rfl) ?_
 refine wp_seq (wp_region_lit ?_)
 obtain ⟨b475, w476, ew477, eb478, hst⟩ := hst.box [.int .u8 a0.Kind, .int .u64 a0.ID.Session, .int .u64 a0.ID.Seq, .int .u64 a0.Epoch, .int .u64 a0.Index, .int .i64 a0.E, .int .u64 a0.Hold.ID.Session, .int .u64 a0.Hold.ID.Seq, .int .u64 a0.Hold.Epoch, r0_0, r0_1, r0_2, r0_3, r0_4, .int .i64 a0.R.E, .int .u64 a0.R.Epoch, .int .u64 a0.R.Index, r0_5, r0_6, .int .u64 a0.Shards, r0_7, .int .u64 a0.Rule.ID, .int .i64 a0.Rule.From, .int .i64 a0.Rule.To, .float .f64 a0.Rule.Lo, .float .f64 a0.Rule.Hi, .int .u64 a0.Rule.Authority, .int .i64 a0.Rule.Quota, .bool a0.On] 45
 refine wl_run (v := .pointer (some ⟨b475, 0, none⟩)) (w' := w476) rfl rfl (x_al (by kernel_rfl) ew477 eb478) ?_
 refine wv ((.slice none 0 0)) rfl rfl rfl ?_
 refine wl_nil (then_n (wp_seq (wp_region_lit ?_)))
 refine wv (.pointer (some ⟨b475, 0, none⟩)) rfl rfl (x_field rfl Try.underlying45 rfl Try.sizeOf5 rfl) ?_
 refine wv (.int .u8 a0.Kind) rfl rfl (x_load rfl Try.isAgg5 (hst.bc0 rfl)) ?_
 refine wv (.int .u64 (IntKind.u64.wrap a0.Kind)) rfl rfl (by kernel_rfl) ?_
 have f482 : Ro (tyInt .u8) I (.slice none 0 0) [] := ro_nil
 obtain ⟨t483, ht484, hm⟩ := bind_some hm
 refine wl_call rfl rfl (x_call Try.call45 rfl (vs := [(.slice none 0 0), .int .u64 (IntKind.u64.wrap a0.Kind), .int .i64 (1:Int)]) rfl) ?_
 refine (ref02_Num_ref (f482.mono ro_rd) hst.to0 ht484).mono ?_
 rintro _ w485 ⟨v488, rfl, hst⟩
 refine ⟨_, rfl, ?_⟩
 replace hst := hst.of1
 refine wv (v488) rfl rfl rfl ?_
 refine wl_nil (then_n (wp_seq (wp_seq (wp_region_lit ?_))))
 refine wv (.pointer (some ⟨b475, 0, none⟩)) rfl rfl (x_field rfl Try.underlying45 rfl Try.sizeOf5 rfl) ?_
 refine wv (.int .u8 a0.Kind) rfl rfl (x_load rfl Try.isAgg5 (hst.bc1 rfl)) ?_
 refine wl_nil (then_n (wp_block (wp_seq (wp_region_lit ?_))))
 refine wv (.bool (a0.Kind == (1:Int))) rfl rfl rfl ?_
 refine wv (.bool (a0.Kind == (1:Int))) rfl rfl rfl ?_
 refine wl_nil (then_n ?_)
 refine bsplit (a0.Kind == (1:Int)) (fun hc490 => ?_) (fun hc490 => ?_)
 ·skip
  replace hm := bif_t hc490 hm
  refine wp_ift (congrArg Value.bool hc490) ?_
  refine wp_seq (wp_region_lit ?_)
  refine wv (v488) rfl rfl rfl ?_
  refine wv (.pointer (some ⟨b475, 3, none⟩)) rfl rfl (x_field rfl Try.underlying45 rfl Try.sizeOf27 rfl) ?_
  refine wv (.int .u64 a0.Epoch) rfl rfl (x_load rfl Try.isAgg27 (hst.bc1 rfl)) ?_
  obtain ⟨css491, hq492, hst⟩ := hst.own_open
  obtain ⟨t493, ht494, hm⟩ := bind_some hm
  refine wl_call rfl rfl (x_call Try.call45 rfl (vs := [v488, .int .u64 a0.Epoch, .int .i64 (8:Int)]) rfl) ?_
  refine (ref02_Num_ref (hst.rdrow0 hq492) hst.to0 ht494).mono ?_
  rintro _ w495 ⟨v498, rfl, hst⟩
  refine ⟨_, rfl, ?_⟩
  replace hst := hst.of1
  replace hst := hst.pull1
  replace hst := hst.own_close hq492
  refine wv (v498) rfl rfl rfl ?_
  refine wl_nil (then_n (wp_ret (blk_r (then_r ?_))))
  obtain rfl := some_inj hm
  refine post_ret (vs := [v498]) Try.results21 (rvs_cons (rv_tmp rfl) rvs_nil) ?_
  replace hst := hst.pull1
  exact ⟨v498, rfl, hst.keep1⟩
 ·skip
  replace hm := bif_f hc490 hm
  refine wp_iff (congrArg Value.bool hc490) ?_
  refine wp_seq (wp_region_lit ?_)
  refine wv (.bool (a0.Kind == (2:Int))) rfl rfl rfl ?_
  refine wv (.bool (a0.Kind == (2:Int))) rfl rfl rfl ?_
  refine wl_nil (then_n ?_)
  refine bsplit (a0.Kind == (2:Int)) (fun hc500 => ?_) (fun hc500 => ?_)
  ·skip
   replace hm := bif_t hc500 hm
   refine wp_ift (congrArg Value.bool hc500) ?_
   refine wp_seq (wp_region_lit ?_)
   refine wv (v488) rfl rfl rfl ?_
   refine wv (.pointer (some ⟨b475, 6, none⟩)) rfl rfl (x_field rfl Try.underlying45 rfl Try.sizeOf34 rfl) ?_
   refine wv (.agg #[.int .u64 a0.Hold.ID.Session, .int .u64 a0.Hold.ID.Seq, .int .u64 a0.Hold.Epoch, r0_0, r0_1, r0_2, r0_3]) rfl rfl (x_loadN (cs := [.int .u64 a0.Hold.ID.Session, .int .u64 a0.Hold.ID.Seq, .int .u64 a0.Hold.Epoch, r0_0, r0_1, r0_2, r0_3]) rfl Try.isAgg34 Try.sizeOf34 (hst.bcs1 6 rfl)) ?_
   obtain ⟨css501, hq502, hst⟩ := hst.own_open
   obtain ⟨t503, ht504, hm⟩ := bind_some hm
   refine wl_call rfl rfl (x_call Try.call57 rfl (vs := [v488, .agg #[.int .u64 a0.Hold.ID.Session, .int .u64 a0.Hold.ID.Seq, .int .u64 a0.Hold.Epoch, r0_0, r0_1, r0_2, r0_3]]) rfl) ?_
   refine (ref12_Hold_ref (hst.rdrow0 hq502) (f0_0.mono (rd_weak _)) (f0_1.mono (rd_weak _)) (f0_2.mono (rd_weak _)) (f0_3.mono (rd_weak _)) hst.to0 ht504).mono ?_
   rintro _ w505 ⟨v508, rfl, hst⟩
   refine ⟨_, rfl, ?_⟩
   replace hst := hst.of1
   replace hst := hst.pull1
   replace hst := hst.own_close hq502
   refine wv (v508) rfl rfl rfl ?_
   refine wl_nil (then_n (wp_ret (blk_r (then_r ?_))))
   obtain rfl := some_inj hm
   refine post_ret (vs := [v508]) Try.results21 (rvs_cons (rv_tmp rfl) rvs_nil) ?_
   replace hst := hst.pull1
   exact ⟨v508, rfl, hst.keep1⟩
  ·skip
   replace hm := bif_f hc500 hm
   refine wp_iff (congrArg Value.bool hc500) ?_
   refine wp_seq (wp_region_lit ?_)
   refine wv (.bool (a0.Kind == (3:Int))) rfl rfl rfl ?_
   refine wv (.bool (a0.Kind == (3:Int))) rfl rfl rfl ?_
   refine wl_nil (then_n ?_)
   refine bsplit (a0.Kind == (3:Int)) (fun hc510 => ?_) (fun hc510 => ?_)
   ·skip
    replace hm := bif_t hc510 hm
    refine wp_ift (congrArg Value.bool hc510) ?_
    refine wp_seq ?_
    refine wp_region_St hst 9 [0, 1, 2, 3, 4, 5, 6, 7, 8] [0, 0, 2, 7, 0, 16, 48, 127, 255] [8] rfl (by kernel_rfl) (by kernel_rfl) Try.mixed (by kernel_rfl) ?_
    refine wsr (v488) 0 rfl rfl rfl (by kernel_rfl) (fun w hst => rfl) ?_
    refine wsr (.pointer (some ⟨b475, 1, none⟩)) 1 rfl rfl rfl (by kernel_rfl) (fun w hst => x_field rfl Try.underlying45 rfl Try.sizeOf29 rfl) ?_
    refine wsr (.agg #[.int .u64 a0.ID.Session, .int .u64 a0.ID.Seq]) 2 rfl rfl rfl (by kernel_rfl) (fun w hst => x_loadN (cs := [.int .u64 a0.ID.Session, .int .u64 a0.ID.Seq]) rfl Try.isAgg29 Try.sizeOf29 (hst.bcs1 1 rfl)) ?_
    refine wsr (.pointer (some ⟨b475, 5, none⟩)) 4 rfl rfl rfl (by kernel_rfl) (fun w hst => x_field rfl Try.underlying45 rfl Try.sizeOf30 rfl) ?_
    refine wsr (.int .i64 a0.E) 5 rfl rfl rfl (by kernel_rfl) (fun w hst => x_load rfl Try.isAgg30 (hst.bc1 rfl)) ?_
    refine wsr (.int .u64 (IntKind.u64.wrap a0.E)) 6 rfl rfl rfl (by kernel_rfl) (fun w hst => by kernel_rfl) ?_
    refine ws_e1 3 (by kernel_rfl) ?_
    refine nxe [7, 8] (by kernel_rfl) rfl rfl ?_
    clear hst
    intro w hst
    obtain ⟨css511, hq512, hst⟩ := hst.own_open
    obtain ⟨t513, ht514, hm⟩ := bind_some hm
    refine we_call rfl (x_call Try.call58 rfl (vs := [v488, .agg #[.int .u64 a0.ID.Session, .int .u64 a0.ID.Seq]]) rfl) ?_
    refine (ref12_ID_ref (hst.rdrow0 hq512) hst.to0 ht514).mono ?_
    rintro _ w515 ⟨v518, rfl, hst⟩
    refine ⟨_, rfl, ?_⟩
    replace hst := hst.of1
    replace hst := hst.pull1
    replace hst := hst.own_close hq512
    refine ws_next (pend' := [(6, .int .u64 (IntKind.u64.wrap a0.E)), (5, .int .i64 a0.E), (4, .pointer (some ⟨b475, 5, none⟩))]) hst (by kernel_rfl) (pkr rfl rfl (fun w hst => by kernel_rfl) (pkr rfl rfl (fun w hst => x_load rfl Try.isAgg30 (hst.bc2 rfl)) (pkr rfl rfl (fun w hst => x_field rfl Try.underlying45 rfl Try.sizeOf30 rfl) pk_nil))) ?_
    refine ws_e1 7 (by kernel_rfl) ?_
    refine nxe [8] (by kernel_rfl) rfl rfl ?_
    clear hst
    intro w hst
    replace hst := hst.pull1
    obtain ⟨css520, hq521, hst⟩ := hst.own_open
    obtain ⟨t522, ht523, hm⟩ := bind_some hm
    refine we_call rfl (x_call Try.call45 rfl (vs := [v518, .int .u64 (IntKind.u64.wrap a0.E), .int .i64 (1:Int)]) rfl) ?_
    refine (ref02_Num_ref (hst.rdrow0 hq521) hst.to0 ht523).mono ?_
    rintro _ w524 ⟨v527, rfl, hst⟩
    refine ⟨_, rfl, ?_⟩
    replace hst := hst.of1
    replace hst := hst.pull1
    replace hst := hst.own_close hq521
    refine ws_next (pend' := []) hst (by kernel_rfl) pk_nil ?_
    refine ws_e1 8 (by kernel_rfl) ?_
    refine nxe [] (by kernel_rfl) rfl rfl ?_
    clear hst
    intro w hst
    refine we_run (v := v527) (w' := w) rfl rfl ?_
    refine ws_next (pend' := []) hst (by kernel_rfl) pk_nil ?_
    refine ws_nil ?_
    intro w hst
    refine then_n (wp_seq ?_)
    refine wp_region_St hst 11 [0, 1, 2, 3, 4, 5, 6, 7, 8, 9, 10] [0, 0, 2, 7, 0, 16, 63, 0, 128, 511, 1023] [] rfl (by kernel_rfl) (by kernel_rfl) Try.mixed (by kernel_rfl) ?_
    refine wsr (v527) 0 rfl rfl rfl (by kernel_rfl) (fun w hst => rfl) ?_
    refine wsr (.pointer (some ⟨b475, 3, none⟩)) 1 rfl rfl rfl (by kernel_rfl) (fun w hst => x_field rfl Try.underlying45 rfl Try.sizeOf27 rfl) ?_
    refine wsr (.int .u64 a0.Epoch) 2 rfl rfl rfl (by kernel_rfl) (fun w hst => x_load rfl Try.isAgg27 (hst.bc3 rfl)) ?_
    refine wsr (.pointer (some ⟨b475, 4, none⟩)) 4 rfl rfl rfl (by kernel_rfl) (fun w hst => x_field rfl Try.underlying45 rfl Try.sizeOf27 rfl) ?_
    refine wsr (.int .u64 a0.Index) 5 rfl rfl rfl (by kernel_rfl) (fun w hst => x_load rfl Try.isAgg27 (hst.bc3 rfl)) ?_
    refine wsr (.pointer (some ⟨b475, 13, none⟩)) 7 rfl rfl rfl (by kernel_rfl) (fun w hst => x_field rfl Try.underlying45 rfl Try.sizeOf35 rfl) ?_
    refine wsr (r0_4) 8 rfl rfl rfl (by kernel_rfl) (fun w hst => x_load rfl Try.isAgg35 (hst.bc3 rfl)) ?_
    refine ws_e1 3 (by kernel_rfl) ?_
    refine nxe [6, 9, 10] (by kernel_rfl) rfl rfl ?_
    clear hst
    intro w hst
    replace hst := hst.pull1
    obtain ⟨css529, hq530, hst⟩ := hst.own_open
    obtain ⟨t531, ht532, hm⟩ := bind_some hm
    refine we_call rfl (x_call Try.call45 rfl (vs := [v527, .int .u64 a0.Epoch, .int .i64 (8:Int)]) rfl) ?_
    refine (ref02_Num_ref (hst.rdrow0 hq530) hst.to0 ht532).mono ?_
    rintro _ w533 ⟨v536, rfl, hst⟩
    refine ⟨_, rfl, ?_⟩
    replace hst := hst.of1
    replace hst := hst.pull1
    replace hst := hst.own_close hq530
    refine ws_next (pend' := [(8, r0_4), (7, .pointer (some ⟨b475, 13, none⟩)), (5, .int .u64 a0.Index), (4, .pointer (some ⟨b475, 4, none⟩))]) hst (by kernel_rfl) (pkr rfl rfl (fun w hst => x_load rfl Try.isAgg35 (hst.bc4 rfl)) (pkr rfl rfl (fun w hst => x_field rfl Try.underlying45 rfl Try.sizeOf35 rfl) (pkr rfl rfl (fun w hst => x_load rfl Try.isAgg27 (hst.bc4 rfl)) (pkr rfl rfl (fun w hst => x_field rfl Try.underlying45 rfl Try.sizeOf27 rfl) pk_nil)))) ?_
    refine ws_e1 6 (by kernel_rfl) ?_
    refine nxe [9, 10] (by kernel_rfl) rfl rfl ?_
    clear hst
    intro w hst
    replace hst := hst.pull1
    obtain ⟨css538, hq539, hst⟩ := hst.own_open
    obtain ⟨t540, ht541, hm⟩ := bind_some hm
    refine we_call rfl (x_call Try.call45 rfl (vs := [v536, .int .u64 a0.Index, .int .i64 (8:Int)]) rfl) ?_
    refine (ref02_Num_ref (hst.rdrow0 hq539) hst.to0 ht541).mono ?_
    rintro _ w542 ⟨v545, rfl, hst⟩
    refine ⟨_, rfl, ?_⟩
    replace hst := hst.of1
    replace hst := hst.pull1
    replace hst := hst.own_close hq539
    refine ws_next (pend' := [(8, r0_4), (7, .pointer (some ⟨b475, 13, none⟩))]) hst (by kernel_rfl) (pkr rfl rfl (fun w hst => x_load rfl Try.isAgg35 (hst.bc5 rfl)) (pkr rfl rfl (fun w hst => x_field rfl Try.underlying45 rfl Try.sizeOf35 rfl) pk_nil)) ?_
    refine ws_e1 9 (by kernel_rfl) ?_
    refine nxe [10] (by kernel_rfl) rfl rfl ?_
    clear hst
    intro w hst
    replace hst := hst.pull1
    obtain ⟨css547, hq548, hst⟩ := hst.own_open
    obtain ⟨t549, ht550, hm⟩ := bind_some hm
    refine we_call rfl (x_call Try.call59 rfl (vs := [v545, r0_4]) rfl) ?_
    refine (ref13_Writes_ref (hst.rdrow0 hq548) (f0_4.mono (rd_weak _)) hst.to0 ht550).mono ?_
    rintro _ w551 ⟨v554, rfl, hst⟩
    refine ⟨_, rfl, ?_⟩
    replace hst := hst.of1
    replace hst := hst.pull1
    replace hst := hst.own_close hq548
    refine ws_next (pend' := []) hst (by kernel_rfl) pk_nil ?_
    refine wsr (v554) 10 rfl rfl rfl (by kernel_rfl) (fun w hst => rfl) ?_
    refine ws_nil ?_
    intro w hst
    refine then_n (wp_ret (blk_r (then_r ?_)))
    obtain rfl := some_inj hm
    refine post_ret (vs := [v554]) Try.results21 (rvs_cons (rv_tmp rfl) rvs_nil) ?_
    replace hst := hst.pull1
    exact ⟨v554, rfl, hst.keep1⟩
   ·skip
    replace hm := bif_f hc510 hm
    refine wp_iff (congrArg Value.bool hc510) ?_
    refine wp_seq (wp_region_lit ?_)
    refine wv (.bool (a0.Kind == (4:Int))) rfl rfl rfl ?_
    refine wv (.bool (a0.Kind == (4:Int))) rfl rfl rfl ?_
    refine wl_nil (then_n ?_)
    refine bsplit (a0.Kind == (4:Int)) (fun hc556 => ?_) (fun hc556 => ?_)
    ·skip
     replace hm := bif_t hc556 hm
     refine wp_ift (congrArg Value.bool hc556) ?_
     refine wp_seq ?_
     refine wp_region_St hst 8 [0, 1, 2, 3, 4, 5, 6, 7] [0, 0, 2, 7, 0, 16, 63, 127] [7] rfl (by kernel_rfl) (by kernel_rfl) Try.mixed (by kernel_rfl) ?_
     refine wsr (v488) 0 rfl rfl rfl (by kernel_rfl) (fun w hst => rfl) ?_
     refine wsr (.pointer (some ⟨b475, 1, none⟩)) 1 rfl rfl rfl (by kernel_rfl) (fun w hst => x_field rfl Try.underlying45 rfl Try.sizeOf29 rfl) ?_
     refine wsr (.agg #[.int .u64 a0.ID.Session, .int .u64 a0.ID.Seq]) 2 rfl rfl rfl (by kernel_rfl) (fun w hst => x_loadN (cs := [.int .u64 a0.ID.Session, .int .u64 a0.ID.Seq]) rfl Try.isAgg29 Try.sizeOf29 (hst.bcs1 1 rfl)) ?_
     refine wsr (.pointer (some ⟨b475, 3, none⟩)) 4 rfl rfl rfl (by kernel_rfl) (fun w hst => x_field rfl Try.underlying45 rfl Try.sizeOf27 rfl) ?_
     refine wsr (.int .u64 a0.Epoch) 5 rfl rfl rfl (by kernel_rfl) (fun w hst => x_load rfl Try.isAgg27 (hst.bc1 rfl)) ?_
     refine ws_e1 3 (by kernel_rfl) ?_
     refine nxe [6, 7] (by kernel_rfl) rfl rfl ?_
     clear hst
     intro w hst
     obtain ⟨css557, hq558, hst⟩ := hst.own_open
     obtain ⟨t559, ht560, hm⟩ := bind_some hm
     refine we_call rfl (x_call Try.call58 rfl (vs := [v488, .agg #[.int .u64 a0.ID.Session, .int .u64 a0.ID.Seq]]) rfl) ?_
     refine (ref12_ID_ref (hst.rdrow0 hq558) hst.to0 ht560).mono ?_
     rintro _ w561 ⟨v564, rfl, hst⟩
     refine ⟨_, rfl, ?_⟩
     replace hst := hst.of1
     replace hst := hst.pull1
     replace hst := hst.own_close hq558
     refine ws_next (pend' := [(5, .int .u64 a0.Epoch), (4, .pointer (some ⟨b475, 3, none⟩))]) hst (by kernel_rfl) (pkr rfl rfl (fun w hst => x_load rfl Try.isAgg27 (hst.bc2 rfl)) (pkr rfl rfl (fun w hst => x_field rfl Try.underlying45 rfl Try.sizeOf27 rfl) pk_nil)) ?_
     refine ws_e1 6 (by kernel_rfl) ?_
     refine nxe [7] (by kernel_rfl) rfl rfl ?_
     clear hst
     intro w hst
     replace hst := hst.pull1
     obtain ⟨css566, hq567, hst⟩ := hst.own_open
     obtain ⟨t568, ht569, hm⟩ := bind_some hm
     refine we_call rfl (x_call Try.call45 rfl (vs := [v564, .int .u64 a0.Epoch, .int .i64 (8:Int)]) rfl) ?_
     refine (ref02_Num_ref (hst.rdrow0 hq567) hst.to0 ht569).mono ?_
     rintro _ w570 ⟨v573, rfl, hst⟩
     refine ⟨_, rfl, ?_⟩
     replace hst := hst.of1
     replace hst := hst.pull1
     replace hst := hst.own_close hq567
     refine ws_next (pend' := []) hst (by kernel_rfl) pk_nil ?_
     refine ws_e1 7 (by kernel_rfl) ?_
     refine nxe [] (by kernel_rfl) rfl rfl ?_
     clear hst
     intro w hst
     refine we_run (v := v573) (w' := w) rfl rfl ?_
     refine ws_next (pend' := []) hst (by kernel_rfl) pk_nil ?_
     refine ws_nil ?_
     intro w hst
     refine then_n (wp_seq ?_)
     refine wp_region_St hst 10 [0, 1, 2, 3, 4, 5, 6, 7, 8, 9] [0, 0, 2, 7, 0, 16, 48, 112, 255, 511] [9] rfl (by kernel_rfl) (by kernel_rfl) Try.mixed (by kernel_rfl) ?_
     refine wsr (v573) 0 rfl rfl rfl (by kernel_rfl) (fun w hst => rfl) ?_
     refine wsr (.pointer (some ⟨b475, 19, none⟩)) 1 rfl rfl rfl (by kernel_rfl) (fun w hst => x_field rfl Try.underlying45 rfl Try.sizeOf27 rfl) ?_
     refine wsr (.int .u64 a0.Shards) 2 rfl rfl rfl (by kernel_rfl) (fun w hst => x_load rfl Try.isAgg27 (hst.bc3 rfl)) ?_
     refine wsr (.pointer (some ⟨b475, 20, none⟩)) 4 rfl rfl rfl (by kernel_rfl) (fun w hst => x_field rfl Try.underlying45 rfl Try.sizeOf40 rfl) ?_
     refine wsr (r0_7) 5 rfl rfl rfl (by kernel_rfl) (fun w hst => x_load rfl Try.isAgg40 (hst.bc3 rfl)) ?_
     refine wsr (.int .i64 ((a0.Parts).length : Int)) 6 rfl rfl rfl (by kernel_rfl) (fun w hst => x_len rfl Try.underlying40 (rd_sliceV f0_7)) ?_
     refine wsr (.int .u64 (IntKind.u64.wrap ((a0.Parts).length : Int))) 7 rfl rfl rfl (by kernel_rfl) (fun w hst => by kernel_rfl) ?_
     refine ws_e1 3 (by kernel_rfl) ?_
     refine nxe [8, 9] (by kernel_rfl) rfl rfl ?_
     clear hst
     intro w hst
     replace hst := hst.pull1
     obtain ⟨css575, hq576, hst⟩ := hst.own_open
     obtain ⟨t577, ht578, hm⟩ := bind_some hm
     refine we_call rfl (x_call Try.call45 rfl (vs := [v573, .int .u64 a0.Shards, .int .i64 (2:Int)]) rfl) ?_
     refine (ref02_Num_ref (hst.rdrow0 hq576) hst.to0 ht578).mono ?_
     rintro _ w579 ⟨v582, rfl, hst⟩
     refine ⟨_, rfl, ?_⟩
     replace hst := hst.of1
     replace hst := hst.pull1
     replace hst := hst.own_close hq576
     refine ws_next (pend' := [(7, .int .u64 (IntKind.u64.wrap ((a0.Parts).length : Int))), (6, .int .i64 ((a0.Parts).length : Int)), (5, r0_7), (4, .pointer (some ⟨b475, 20, none⟩))]) hst (by kernel_rfl) (pkr rfl rfl (fun w hst => by kernel_rfl) (pkr rfl rfl (fun w hst => x_len rfl Try.underlying40 (rd_sliceV f0_7)) (pkr rfl rfl (fun w hst => x_load rfl Try.isAgg40 (hst.bc4 rfl)) (pkr rfl rfl (fun w hst => x_field rfl Try.underlying45 rfl Try.sizeOf40 rfl) pk_nil)))) ?_
     refine ws_e1 8 (by kernel_rfl) ?_
     refine nxe [9] (by kernel_rfl) rfl rfl ?_
     clear hst
     intro w hst
     replace hst := hst.pull1
     obtain ⟨css584, hq585, hst⟩ := hst.own_open
     obtain ⟨t586, ht587, hm⟩ := bind_some hm
     refine we_call rfl (x_call Try.call45 rfl (vs := [v582, .int .u64 (IntKind.u64.wrap ((a0.Parts).length : Int)), .int .i64 (4:Int)]) rfl) ?_
     refine (ref02_Num_ref (hst.rdrow0 hq585) hst.to0 ht587).mono ?_
     rintro _ w588 ⟨v591, rfl, hst⟩
     refine ⟨_, rfl, ?_⟩
     replace hst := hst.of1
     replace hst := hst.pull1
     replace hst := hst.own_close hq585
     refine ws_next (pend' := []) hst (by kernel_rfl) pk_nil ?_
     refine ws_e1 9 (by kernel_rfl) ?_
     refine nxe [] (by kernel_rfl) rfl rfl ?_
     clear hst
     intro w hst
     refine we_run (v := v591) (w' := w) rfl rfl ?_
     refine ws_next (pend' := []) hst (by kernel_rfl) pk_nil ?_
     refine ws_nil ?_
     intro w hst
     refine then_n ?_
     obtain ⟨y704, hm, hx705⟩ := bind_some hm
     refine wp_cut (fun a w => ∃ (z701 : (List Int)) (v700 : Value) (σ702 : Nat → Value), (ref13_Command_j0 a0) z701 = some r ∧ a = Fr 123 (upd (upd σ702 1 (.pointer (some ⟨b475, 0, none⟩))) 3 (v700)) ∧ St w0 w I [cells b475 [.int .u8 a0.Kind, .int .u64 a0.ID.Session, .int .u64 a0.ID.Seq, .int .u64 a0.Epoch, .int .u64 a0.Index, .int .i64 a0.E, .int .u64 a0.Hold.ID.Session, .int .u64 a0.Hold.ID.Seq, .int .u64 a0.Hold.Epoch, r0_0, r0_1, r0_2, r0_3, r0_4, .int .i64 a0.R.E, .int .u64 a0.R.Epoch, .int .u64 a0.R.Index, r0_5, r0_6, .int .u64 a0.Shards, r0_7, .int .u64 a0.Rule.ID, .int .i64 a0.Rule.From, .int .i64 a0.Rule.To, .float .f64 a0.Rule.Lo, .float .f64 a0.Rule.Hi, .int .u64 a0.Rule.Authority, .int .i64 a0.Rule.Quota, .bool a0.On], ownS (tyInt .u8) v700 z701] R) ?_ ?_
     ·skip
      refine wp_seq (wp_region_lit ?_)
      refine wv (.int .i64 (0:Int)) rfl rfl rfl ?_
      refine wl_nil (then_n (wp_block ?_))
      replace hst := hst.sub
      replace hst := hst.pull1
      replace hst := hst.sub
      replace hst := hst.pull1
      replace hst := hst.sub
      replace hst := hst.pull1
      replace hst := hst.sub
      obtain ⟨n662, hm⟩ := loopO_some hm
      refine wp_loop_n (fun n a w => ∃ (z657 : (List Int)) (z660 : Int) (v658 : Value) (σ661 : Nat → Value), loopN (ref13_Command_l1 a0) n (z657, z660) = some y704 ∧ a = Fr 123 (upd (upd (upd σ661 1 (.pointer (some ⟨b475, 0, none⟩))) 3 (v658)) 4 (.int .i64 z660)) ∧ St w0 w I [ownS (tyInt .u8) v658 z657, cells b475 [.int .u8 a0.Kind, .int .u64 a0.ID.Session, .int .u64 a0.ID.Seq, .int .u64 a0.Epoch, .int .u64 a0.Index, .int .i64 a0.E, .int .u64 a0.Hold.ID.Session, .int .u64 a0.Hold.ID.Seq, .int .u64 a0.Hold.Epoch, r0_0, r0_1, r0_2, r0_3, r0_4, .int .i64 a0.R.E, .int .u64 a0.R.Epoch, .int .u64 a0.R.Index, r0_5, r0_6, .int .u64 a0.Shards, r0_7, .int .u64 a0.Rule.ID, .int .i64 a0.Rule.From, .int .i64 a0.Rule.To, .float .f64 a0.Rule.Lo, .float .f64 a0.Rule.Hi, .int .u64 a0.Rule.Authority, .int .i64 a0.Rule.Quota, .bool a0.On]] R) n662 ⟨t586, (0:Int), v591, _, hm, ((fr_upd (t := 1) (v := .pointer (some ⟨b475, 0, none⟩)) rfl).trans ((fr_upd (t := 3) (v := v591) rfl).trans ((fr_upd (t := 4) (v := .int .i64 (0:Int)) rfl).trans rfl))), hst⟩ ?_
      rintro n668 _ w663 ⟨z657, z660, v658, σ661, hm, rfl, hst⟩
      obtain ⟨n665, y666, rfl, hm, hx667⟩ := loopN_some hm
      dsimp only [ref13_Command_l1] at hm
      refine wp_seq (wp_seq (wp_region_lit ?_))
      refine wv (.int .i64 z660) rfl rfl rfl ?_
      refine wv (.pointer (some ⟨b475, 20, none⟩)) rfl rfl (x_field rfl Try.underlying45 rfl Try.sizeOf40 rfl) ?_
      refine wv (r0_7) rfl rfl (x_load rfl Try.isAgg40 (hst.bc1 rfl)) ?_
      refine wv (.int .i64 ((a0.Parts).length : Int)) rfl rfl (x_len rfl Try.underlying40 (rd_sliceV f0_7)) ?_
      refine wv (.bool (decide (z660 < ((a0.Parts).length : Int)))) rfl rfl rfl ?_
      refine wl_nil (then_n ?_)
      refine bsplit (decide (z660 < ((a0.Parts).length : Int))) (fun hc669 => ?_) (fun hc669 => ?_)
      ·skip
       replace hm := bif_t hc669 hm
       refine wp_ift (congrArg Value.bool hc669) ?_
       refine wp_skip (then_n (wp_seq (wp_block ?_)))
       refine wp_region_St hst 17 [0, 1, 2, 3, 4, 5, 6, 7, 8, 9, 10, 11, 12, 13, 14, 15, 16] [0, 0, 2, 0, 14, 30, 62, 126, 255, 0, 512, 0, 3584, 7680, 15872, 32767, 65535] [16] rfl (by kernel_rfl) (by kernel_rfl) Try.mixed (by kernel_rfl) ?_
       refine wsr (v658) 0 rfl rfl rfl (by kernel_rfl) (fun w hst => rfl) ?_
       refine wsr (.pointer (some ⟨b475, 20, none⟩)) 1 rfl rfl rfl (by kernel_rfl) (fun w hst => x_field rfl Try.underlying45 rfl Try.sizeOf40 rfl) ?_
       refine wsr (r0_7) 2 rfl rfl rfl (by kernel_rfl) (fun w hst => x_load rfl Try.isAgg40 (hst.bc1 rfl)) ?_
       refine wsr (.int .i64 z660) 3 rfl rfl rfl (by kernel_rfl) (fun w hst => rfl) ?_
       obtain ⟨x670, hx671, hm⟩ := bind_some hm
       obtain ⟨h672, h673, hi674⟩ := geto_some hx671
       refine wsr (.pointer (some (eAddr r0_7 (z660.toNat * 2 + 0)))) 4 rfl rfl rfl (by kernel_rfl) (fun w hst => x_index rfl rfl Try.underlying40 Try.sizeOf81 (rd_sliceV f0_7) h672 h673) ?_
       refine wsr (.pointer (some (eAddr r0_7 (z660.toNat * 2 + 0)))) 5 rfl rfl rfl (by kernel_rfl) (fun w hst => x_field_e rfl Try.underlying81 rfl Try.sizeOf3 rfl) ?_
       obtain ⟨cs675, hr676, hc677⟩ := Rd.getF f0_7 hi674
       obtain ⟨v678, rfl, f679, -⟩ := hr676
       refine wsr (.int .i64 x670.Shard) 6 rfl rfl rfl (by kernel_rfl) (fun w hst => x_load rfl Try.isAgg3 ((hc677 (HL.le.refl _) hst) 0 _ rfl)) ?_
       refine wsr (.int .u64 (IntKind.u64.wrap x670.Shard)) 7 rfl rfl rfl (by kernel_rfl) (fun w hst => by kernel_rfl) ?_
       refine wsr (.pointer (some ⟨b475, 20, none⟩)) 9 rfl rfl rfl (by kernel_rfl) (fun w hst => x_field rfl Try.underlying45 rfl Try.sizeOf40 rfl) ?_
       refine wsr (r0_7) 10 rfl rfl rfl (by kernel_rfl) (fun w hst => x_load rfl Try.isAgg40 (hst.bc1 rfl)) ?_
       refine wsr (.int .i64 z660) 11 rfl rfl rfl (by kernel_rfl) (fun w hst => rfl) ?_
       refine wsr (.pointer (some (eAddr r0_7 (z660.toNat * 2 + 0)))) 12 rfl rfl rfl (by kernel_rfl) (fun w hst => x_index rfl rfl Try.underlying40 Try.sizeOf81 (rd_sliceV f0_7) h672 h673) ?_
       refine wsr (.pointer (some (eAddr r0_7 (z660.toNat * 2 + 1)))) 13 rfl rfl rfl (by kernel_rfl) (fun w hst => x_field_e rfl Try.underlying81 rfl Try.sizeOf35 rfl) ?_
       refine wsr (v678) 14 rfl rfl rfl (by kernel_rfl) (fun w hst => x_load rfl Try.isAgg35 ((hc677 (HL.le.refl _) hst) 1 _ rfl)) ?_
       refine ws_e1 8 (by kernel_rfl) ?_
       refine nxe [15, 16] (by kernel_rfl) rfl rfl ?_
       clear hst
       intro w hst
       obtain ⟨css681, hq682, hst⟩ := hst.own_open
       obtain ⟨t683, ht684, hm⟩ := bind_some hm
       refine we_call rfl (x_call Try.call45 rfl (vs := [v658, .int .u64 (IntKind.u64.wrap x670.Shard), .int .i64 (1:Int)]) rfl) ?_
       refine (ref02_Num_ref (hst.rdrow0 hq682) hst.to0 ht684).mono ?_
       rintro _ w685 ⟨v688, rfl, hst⟩
       refine ⟨_, rfl, ?_⟩
       replace hst := hst.of1
       replace hst := hst.pull1
       replace hst := hst.own_close hq682
       refine ws_next (pend' := [(14, v678), (13, .pointer (some (eAddr r0_7 (z660.toNat * 2 + 1)))), (12, .pointer (some (eAddr r0_7 (z660.toNat * 2 + 0)))), (11, .int .i64 z660), (10, r0_7), (9, .pointer (some ⟨b475, 20, none⟩))]) hst (by kernel_rfl) (pkr rfl rfl (fun w hst => x_load rfl Try.isAgg35 ((hc677 (HL.le.refl _) hst) 1 _ rfl)) (pkr rfl rfl (fun w hst => x_field_e rfl Try.underlying81 rfl Try.sizeOf35 rfl) (pkr rfl rfl (fun w hst => x_index rfl rfl Try.underlying40 Try.sizeOf81 (rd_sliceV f0_7) h672 h673) (pkr rfl rfl (fun w hst => rfl) (pkr rfl rfl (fun w hst => x_load rfl Try.isAgg40 (hst.bc2 rfl)) (pkr rfl rfl (fun w hst => x_field rfl Try.underlying45 rfl Try.sizeOf40 rfl) pk_nil)))))) ?_
       refine ws_e1 15 (by kernel_rfl) ?_
       refine nxe [16] (by kernel_rfl) rfl rfl ?_
       clear hst
       intro w hst
       replace hst := hst.pull1
       obtain ⟨css690, hq691, hst⟩ := hst.own_open
       obtain ⟨t692, ht693, hm⟩ := bind_some hm
       refine we_call rfl (x_call Try.call59 rfl (vs := [v688, v678]) rfl) ?_
       refine (ref13_Writes_ref (hst.rdrow0 hq691) (f679.mono (rd_weak _)) hst.to0 ht693).mono ?_
       rintro _ w694 ⟨v697, rfl, hst⟩
       refine ⟨_, rfl, ?_⟩
       replace hst := hst.of1
       replace hst := hst.pull1
       replace hst := hst.own_close hq691
       refine ws_next (pend' := []) hst (by kernel_rfl) pk_nil ?_
       refine ws_e1 16 (by kernel_rfl) ?_
       refine nxe [] (by kernel_rfl) rfl rfl ?_
       clear hst
       intro w hst
       refine we_run (v := v697) (w' := w) rfl rfl ?_
       refine ws_next (pend' := []) hst (by kernel_rfl) pk_nil ?_
       refine ws_nil ?_
       intro w hst
       refine blk_n (then_n (wp_region_lit ?_))
       refine wv (.int .i64 z660) rfl rfl rfl ?_
       refine wv (.int .i64 (IntKind.i64.wrap (z660 + (1:Int)))) rfl rfl rfl ?_
       refine wv (.int .i64 (IntKind.i64.wrap (z660 + (1:Int)))) rfl rfl rfl ?_
       refine wl_nil (then_n ?_)
       replace hst := hst.pull3
       replace hst := hst.pull2
       replace hst := hst.keep2
       obtain rfl := some_inj hm
       exact ⟨_, Nat.lt_succ_self _, t692, (IntKind.i64.wrap (z660 + (1:Int))), v697, _, hx667, ((fr_upd (t := 1) (v := .pointer (some ⟨b475, 0, none⟩)) rfl).trans ((fr_upd (t := 3) (v := v697) rfl).trans ((fr_upd (t := 4) (v := .int .i64 (IntKind.i64.wrap (z660 + (1:Int)))) rfl).trans rfl))), hst⟩
      ·skip
       replace hm := bif_f hc669 hm
       refine wp_iff (congrArg Value.bool hc669) ?_
       refine wp_exit (then_x (then_x ?_))
       replace hm := inr_up hm hx667
       refine blk_x (then_n ?_)
       replace hst := hst.pull1
       replace hst := hst.keep2
       obtain rfl := some_inj hm
       exact ⟨z657, v658, _, hx705, ((fr_upd (t := 1) (v := .pointer (some ⟨b475, 0, none⟩)) rfl).trans ((fr_upd (t := 3) (v := v658) rfl).trans rfl)), hst⟩
     ·skip
      clear hst
      rintro _ w706 ⟨z701, v700, σ702, hm, rfl, hst⟩
      dsimp only [ref13_Command_j0] at hm
      refine wp_seq (wp_region_lit ?_)
      refine wv (v700) rfl rfl rfl ?_
      refine wv (.pointer (some ⟨b475, 14, none⟩)) rfl rfl (x_field rfl Try.underlying45 rfl Try.sizeOf39 rfl) ?_
      refine wv (.agg #[.int .i64 a0.R.E, .int .u64 a0.R.Epoch, .int .u64 a0.R.Index, r0_5, r0_6]) rfl rfl (x_loadN (cs := [.int .i64 a0.R.E, .int .u64 a0.R.Epoch, .int .u64 a0.R.Index, r0_5, r0_6]) rfl Try.isAgg39 Try.sizeOf39 (hst.bcs0 14 rfl)) ?_
      replace hst := hst.pull1
      obtain ⟨css707, hq708, hst⟩ := hst.own_open
      obtain ⟨t709, ht710, hm⟩ := bind_some hm
      refine wl_call rfl rfl (x_call Try.call17 rfl (vs := [v700, .agg #[.int .i64 a0.R.E, .int .u64 a0.R.Epoch, .int .u64 a0.R.Index, r0_5, r0_6]]) rfl) ?_
      refine (ref13_Reply_ref (hst.rdrow0 hq708) (f0_5.mono (rd_weak _)) (f0_6.mono (rd_weak _)) hst.to0 ht710).mono ?_
      rintro _ w711 ⟨v714, rfl, hst⟩
      refine ⟨_, rfl, ?_⟩
      replace hst := hst.of1
      replace hst := hst.pull1
      replace hst := hst.own_close hq708
      refine wv (v714) rfl rfl rfl ?_
      refine wl_nil (then_n (wp_ret (blk_r (then_r ?_))))
      obtain rfl := some_inj hm
      refine post_ret (vs := [v714]) Try.results21 (rvs_cons (rv_tmp rfl) rvs_nil) ?_
      replace hst := hst.pull1
      exact ⟨v714, rfl, hst.keep1⟩
    ·skip
     replace hm := bif_f hc556 hm
     refine wp_iff (congrArg Value.bool hc556) ?_
     refine wp_seq (wp_region_lit ?_)
     refine wv (.bool (a0.Kind == (5:Int))) rfl rfl rfl ?_
     refine wv (.bool (a0.Kind == (5:Int))) rfl rfl rfl ?_
     refine wl_nil (then_n ?_)
     refine bsplit (a0.Kind == (5:Int)) (fun hc716 => ?_) (fun hc716 => ?_)
     ·skip
      replace hm := bif_t hc716 hm
      refine wp_ift (congrArg Value.bool hc716) ?_
      refine wp_seq (wp_region_lit ?_)
      refine wv (v488) rfl rfl rfl ?_
      refine wv (.pointer (some ⟨b475, 1, none⟩)) rfl rfl (x_field rfl Try.underlying45 rfl Try.sizeOf29 rfl) ?_
      refine wv (.agg #[.int .u64 a0.ID.Session, .int .u64 a0.ID.Seq]) rfl rfl (x_loadN (cs := [.int .u64 a0.ID.Session, .int .u64 a0.ID.Seq]) rfl Try.isAgg29 Try.sizeOf29 (hst.bcs1 1 rfl)) ?_
      obtain ⟨css717, hq718, hst⟩ := hst.own_open
      obtain ⟨t719, ht720, hm⟩ := bind_some hm
      refine wl_call rfl rfl (x_call Try.call58 rfl (vs := [v488, .agg #[.int .u64 a0.ID.Session, .int .u64 a0.ID.Seq]]) rfl) ?_
      refine (ref12_ID_ref (hst.rdrow0 hq718) hst.to0 ht720).mono ?_
      rintro _ w721 ⟨v724, rfl, hst⟩
      refine ⟨_, rfl, ?_⟩
      replace hst := hst.of1
      replace hst := hst.pull1
      replace hst := hst.own_close hq718
      refine wv (v724) rfl rfl rfl ?_
      refine wl_nil (then_n (wp_ret (blk_r (then_r ?_))))
      obtain rfl := some_inj hm
      refine post_ret (vs := [v724]) Try.results21 (rvs_cons (rv_tmp rfl) rvs_nil) ?_
      replace hst := hst.pull1
      exact ⟨v724, rfl, hst.keep1⟩
     ·skip
      replace hm := bif_f hc716 hm
      refine wp_iff (congrArg Value.bool hc716) ?_
      refine wp_seq (wp_region_lit ?_)
      refine wv (.bool (a0.Kind == (6:Int))) rfl rfl rfl ?_
      refine wv (.bool (a0.Kind == (6:Int))) rfl rfl rfl ?_
      refine wl_nil (then_n ?_)
      refine bsplit (a0.Kind == (6:Int)) (fun hc726 => ?_) (fun hc726 => ?_)
      ·skip
       replace hm := bif_t hc726 hm
       refine wp_ift (congrArg Value.bool hc726) ?_
       refine wp_seq ?_
       refine wp_region_St hst 8 [0, 1, 2, 3, 4, 5, 6, 7] [0, 0, 2, 7, 0, 16, 63, 127] [] rfl (by kernel_rfl) (by kernel_rfl) Try.mixed (by kernel_rfl) ?_
       refine wsr (v488) 0 rfl rfl rfl (by kernel_rfl) (fun w hst => rfl) ?_
       refine wsr (.pointer (some ⟨b475, 21, none⟩)) 1 rfl rfl rfl (by kernel_rfl) (fun w hst => x_field rfl Try.underlying45 rfl Try.sizeOf43 rfl) ?_
       refine wsr (.agg #[.int .u64 a0.Rule.ID, .int .i64 a0.Rule.From, .int .i64 a0.Rule.To, .float .f64 a0.Rule.Lo, .float .f64 a0.Rule.Hi, .int .u64 a0.Rule.Authority, .int .i64 a0.Rule.Quota]) 2 rfl rfl rfl (by kernel_rfl) (fun w hst => x_loadN (cs := [.int .u64 a0.Rule.ID, .int .i64 a0.Rule.From, .int .i64 a0.Rule.To, .float .f64 a0.Rule.Lo, .float .f64 a0.Rule.Hi, .int .u64 a0.Rule.Authority, .int .i64 a0.Rule.Quota]) rfl Try.isAgg43 Try.sizeOf43 (hst.bcs1 21 rfl)) ?_
       refine wsr (.pointer (some ⟨b475, 28, none⟩)) 4 rfl rfl rfl (by kernel_rfl) (fun w hst => x_field rfl Try.underlying45 rfl Try.sizeOf4 rfl) ?_
       refine wsr (.bool a0.On) 5 rfl rfl rfl (by kernel_rfl) (fun w hst => x_load rfl Try.isAgg4 (hst.bc1 rfl)) ?_
       refine ws_e1 3 (by kernel_rfl) ?_
       refine nxe [6, 7] (by kernel_rfl) rfl rfl ?_
       clear hst
       intro w hst
       obtain ⟨css727, hq728, hst⟩ := hst.own_open
       obtain ⟨t729, ht730, hm⟩ := bind_some hm
       refine we_call rfl (x_call Try.call60 rfl (vs := [v488, .agg #[.int .u64 a0.Rule.ID, .int .i64 a0.Rule.From, .int .i64 a0.Rule.To, .float .f64 a0.Rule.Lo, .float .f64 a0.Rule.Hi, .int .u64 a0.Rule.Authority, .int .i64 a0.Rule.Quota]]) rfl) ?_
       refine (ref13_Rule_ref (hst.rdrow0 hq728) hst.to0 ht730).mono ?_
       rintro _ w731 ⟨v734, rfl, hst⟩
       refine ⟨_, rfl, ?_⟩
       replace hst := hst.of1
       replace hst := hst.pull1
       replace hst := hst.own_close hq728
       refine ws_next (pend' := [(5, .bool a0.On), (4, .pointer (some ⟨b475, 28, none⟩))]) hst (by kernel_rfl) (pkr rfl rfl (fun w hst => x_load rfl Try.isAgg4 (hst.bc2 rfl)) (pkr rfl rfl (fun w hst => x_field rfl Try.underlying45 rfl Try.sizeOf4 rfl) pk_nil)) ?_
       refine ws_e1 6 (by kernel_rfl) ?_
       refine nxe [7] (by kernel_rfl) rfl rfl ?_
       clear hst
       intro w hst
       replace hst := hst.pull1
       obtain ⟨css736, hq737, hst⟩ := hst.own_open
       obtain ⟨t738, ht739, hm⟩ := bind_some hm
       refine we_call rfl (x_call Try.call47 rfl (vs := [v734, .bool a0.On]) rfl) ?_
       refine (ref02_Flag_ref (hst.rdrow0 hq737) hst.to0 ht739).mono ?_
       rintro _ w740 ⟨v743, rfl, hst⟩
       refine ⟨_, rfl, ?_⟩
       replace hst := hst.of1
       replace hst := hst.pull1
       replace hst := hst.own_close hq737
       refine ws_next (pend' := []) hst (by kernel_rfl) pk_nil ?_
       refine wsr (v743) 7 rfl rfl rfl (by kernel_rfl) (fun w hst => rfl) ?_
       refine ws_nil ?_
       intro w hst
       refine then_n (wp_ret (blk_r (then_r ?_)))
       obtain rfl := some_inj hm
       refine post_ret (vs := [v743]) Try.results21 (rvs_cons (rv_tmp rfl) rvs_nil) ?_
       replace hst := hst.pull1
       exact ⟨v743, rfl, hst.keep1⟩
      ·skip
       replace hm := bif_f hc726 hm
       refine wp_iff (congrArg Value.bool hc726) ?_
       refine wp_seq (wp_region_lit ?_)
       refine wv (.bool (a0.Kind == (7:Int))) rfl rfl rfl ?_
       refine wv (.bool (a0.Kind == (7:Int))) rfl rfl rfl ?_
       refine wl_nil (then_n ?_)
       refine bsplit (a0.Kind == (7:Int)) (fun hc745 => ?_) (fun hc745 => ?_)
       ·skip
        replace hm := bif_t hc745 hm
        refine wp_ift (congrArg Value.bool hc745) ?_
        refine wp_seq ?_
        refine wp_region_St hst 8 [0, 1, 2, 3, 4, 5, 6, 7] [0, 0, 2, 7, 0, 16, 63, 127] [7] rfl (by kernel_rfl) (by kernel_rfl) Try.mixed (by kernel_rfl) ?_
        refine wsr (v488) 0 rfl rfl rfl (by kernel_rfl) (fun w hst => rfl) ?_
        refine wsr (.pointer (some ⟨b475, 1, none⟩)) 1 rfl rfl rfl (by kernel_rfl) (fun w hst => x_field rfl Try.underlying45 rfl Try.sizeOf29 rfl) ?_
        refine wsr (.agg #[.int .u64 a0.ID.Session, .int .u64 a0.ID.Seq]) 2 rfl rfl rfl (by kernel_rfl) (fun w hst => x_loadN (cs := [.int .u64 a0.ID.Session, .int .u64 a0.ID.Seq]) rfl Try.isAgg29 Try.sizeOf29 (hst.bcs1 1 rfl)) ?_
        refine wsr (.pointer (some ⟨b475, 3, none⟩)) 4 rfl rfl rfl (by kernel_rfl) (fun w hst => x_field rfl Try.underlying45 rfl Try.sizeOf27 rfl) ?_
        refine wsr (.int .u64 a0.Epoch) 5 rfl rfl rfl (by kernel_rfl) (fun w hst => x_load rfl Try.isAgg27 (hst.bc1 rfl)) ?_
        refine ws_e1 3 (by kernel_rfl) ?_
        refine nxe [6, 7] (by kernel_rfl) rfl rfl ?_
        clear hst
        intro w hst
        obtain ⟨css746, hq747, hst⟩ := hst.own_open
        obtain ⟨t748, ht749, hm⟩ := bind_some hm
        refine we_call rfl (x_call Try.call58 rfl (vs := [v488, .agg #[.int .u64 a0.ID.Session, .int .u64 a0.ID.Seq]]) rfl) ?_
        refine (ref12_ID_ref (hst.rdrow0 hq747) hst.to0 ht749).mono ?_
        rintro _ w750 ⟨v753, rfl, hst⟩
        refine ⟨_, rfl, ?_⟩
        replace hst := hst.of1
        replace hst := hst.pull1
        replace hst := hst.own_close hq747
        refine ws_next (pend' := [(5, .int .u64 a0.Epoch), (4, .pointer (some ⟨b475, 3, none⟩))]) hst (by kernel_rfl) (pkr rfl rfl (fun w hst => x_load rfl Try.isAgg27 (hst.bc2 rfl)) (pkr rfl rfl (fun w hst => x_field rfl Try.underlying45 rfl Try.sizeOf27 rfl) pk_nil)) ?_
        refine ws_e1 6 (by kernel_rfl) ?_
        refine nxe [7] (by kernel_rfl) rfl rfl ?_
        clear hst
        intro w hst
        replace hst := hst.pull1
        obtain ⟨css755, hq756, hst⟩ := hst.own_open
        obtain ⟨t757, ht758, hm⟩ := bind_some hm
        refine we_call rfl (x_call Try.call45 rfl (vs := [v753, .int .u64 a0.Epoch, .int .i64 (8:Int)]) rfl) ?_
        refine (ref02_Num_ref (hst.rdrow0 hq756) hst.to0 ht758).mono ?_
        rintro _ w759 ⟨v762, rfl, hst⟩
        refine ⟨_, rfl, ?_⟩
        replace hst := hst.of1
        replace hst := hst.pull1
        replace hst := hst.own_close hq756
        refine ws_next (pend' := []) hst (by kernel_rfl) pk_nil ?_
        refine ws_e1 7 (by kernel_rfl) ?_
        refine nxe [] (by kernel_rfl) rfl rfl ?_
        clear hst
        intro w hst
        refine we_run (v := v762) (w' := w) rfl rfl ?_
        refine ws_next (pend' := []) hst (by kernel_rfl) pk_nil ?_
        refine ws_nil ?_
        intro w hst
        refine then_n (wp_seq ?_)
        refine wp_region_St hst 11 [0, 1, 2, 3, 4, 5, 6, 7, 8, 9, 10] [0, 0, 2, 7, 0, 16, 63, 0, 128, 511, 1023] [] rfl (by kernel_rfl) (by kernel_rfl) Try.mixed (by kernel_rfl) ?_
        refine wsr (v762) 0 rfl rfl rfl (by kernel_rfl) (fun w hst => rfl) ?_
        refine wsr (.pointer (some ⟨b475, 21, none⟩)) 1 rfl rfl rfl (by kernel_rfl) (fun w hst => x_field rfl Try.underlying45 rfl Try.sizeOf43 rfl) ?_
        refine wsr (.agg #[.int .u64 a0.Rule.ID, .int .i64 a0.Rule.From, .int .i64 a0.Rule.To, .float .f64 a0.Rule.Lo, .float .f64 a0.Rule.Hi, .int .u64 a0.Rule.Authority, .int .i64 a0.Rule.Quota]) 2 rfl rfl rfl (by kernel_rfl) (fun w hst => x_loadN (cs := [.int .u64 a0.Rule.ID, .int .i64 a0.Rule.From, .int .i64 a0.Rule.To, .float .f64 a0.Rule.Lo, .float .f64 a0.Rule.Hi, .int .u64 a0.Rule.Authority, .int .i64 a0.Rule.Quota]) rfl Try.isAgg43 Try.sizeOf43 (hst.bcs3 21 rfl)) ?_
        refine wsr (.pointer (some ⟨b475, 13, none⟩)) 4 rfl rfl rfl (by kernel_rfl) (fun w hst => x_field rfl Try.underlying45 rfl Try.sizeOf35 rfl) ?_
        refine wsr (r0_4) 5 rfl rfl rfl (by kernel_rfl) (fun w hst => x_load rfl Try.isAgg35 (hst.bc3 rfl)) ?_
        refine wsr (.pointer (some ⟨b475, 14, none⟩)) 7 rfl rfl rfl (by kernel_rfl) (fun w hst => x_field rfl Try.underlying45 rfl Try.sizeOf39 rfl) ?_
        refine wsr (.agg #[.int .i64 a0.R.E, .int .u64 a0.R.Epoch, .int .u64 a0.R.Index, r0_5, r0_6]) 8 rfl rfl rfl (by kernel_rfl) (fun w hst => x_loadN (cs := [.int .i64 a0.R.E, .int .u64 a0.R.Epoch, .int .u64 a0.R.Index, r0_5, r0_6]) rfl Try.isAgg39 Try.sizeOf39 (hst.bcs3 14 rfl)) ?_
        refine ws_e1 3 (by kernel_rfl) ?_
        refine nxe [6, 9, 10] (by kernel_rfl) rfl rfl ?_
        clear hst
        intro w hst
        replace hst := hst.pull1
        obtain ⟨css764, hq765, hst⟩ := hst.own_open
        obtain ⟨t766, ht767, hm⟩ := bind_some hm
        refine we_call rfl (x_call Try.call60 rfl (vs := [v762, .agg #[.int .u64 a0.Rule.ID, .int .i64 a0.Rule.From, .int .i64 a0.Rule.To, .float .f64 a0.Rule.Lo, .float .f64 a0.Rule.Hi, .int .u64 a0.Rule.Authority, .int .i64 a0.Rule.Quota]]) rfl) ?_
        refine (ref13_Rule_ref (hst.rdrow0 hq765) hst.to0 ht767).mono ?_
        rintro _ w768 ⟨v771, rfl, hst⟩
        refine ⟨_, rfl, ?_⟩
        replace hst := hst.of1
        replace hst := hst.pull1
        replace hst := hst.own_close hq765
        refine ws_next (pend' := [(8, .agg #[.int .i64 a0.R.E, .int .u64 a0.R.Epoch, .int .u64 a0.R.Index, r0_5, r0_6]), (7, .pointer (some ⟨b475, 14, none⟩)), (5, r0_4), (4, .pointer (some ⟨b475, 13, none⟩))]) hst (by kernel_rfl) (pkr rfl rfl (fun w hst => x_loadN (cs := [.int .i64 a0.R.E, .int .u64 a0.R.Epoch, .int .u64 a0.R.Index, r0_5, r0_6]) rfl Try.isAgg39 Try.sizeOf39 (hst.bcs4 14 rfl)) (pkr rfl rfl (fun w hst => x_field rfl Try.underlying45 rfl Try.sizeOf39 rfl) (pkr rfl rfl (fun w hst => x_load rfl Try.isAgg35 (hst.bc4 rfl)) (pkr rfl rfl (fun w hst => x_field rfl Try.underlying45 rfl Try.sizeOf35 rfl) pk_nil)))) ?_
        refine ws_e1 6 (by kernel_rfl) ?_
        refine nxe [9, 10] (by kernel_rfl) rfl rfl ?_
        clear hst
        intro w hst
        replace hst := hst.pull1
        obtain ⟨css773, hq774, hst⟩ := hst.own_open
        obtain ⟨t775, ht776, hm⟩ := bind_some hm
        refine we_call rfl (x_call Try.call59 rfl (vs := [v771, r0_4]) rfl) ?_
        refine (ref13_Writes_ref (hst.rdrow0 hq774) (f0_4.mono (rd_weak _)) hst.to0 ht776).mono ?_
        rintro _ w777 ⟨v780, rfl, hst⟩
        refine ⟨_, rfl, ?_⟩
        replace hst := hst.of1
        replace hst := hst.pull1
        replace hst := hst.own_close hq774
        refine ws_next (pend' := [(8, .agg #[.int .i64 a0.R.E, .int .u64 a0.R.Epoch, .int .u64 a0.R.Index, r0_5, r0_6]), (7, .pointer (some ⟨b475, 14, none⟩))]) hst (by kernel_rfl) (pkr rfl rfl (fun w hst => x_loadN (cs := [.int .i64 a0.R.E, .int .u64 a0.R.Epoch, .int .u64 a0.R.Index, r0_5, r0_6]) rfl Try.isAgg39 Try.sizeOf39 (hst.bcs5 14 rfl)) (pkr rfl rfl (fun w hst => x_field rfl Try.underlying45 rfl Try.sizeOf39 rfl) pk_nil)) ?_
        refine ws_e1 9 (by kernel_rfl) ?_
        refine nxe [10] (by kernel_rfl) rfl rfl ?_
        clear hst
        intro w hst
        replace hst := hst.pull1
        obtain ⟨css782, hq783, hst⟩ := hst.own_open
        obtain ⟨t784, ht785, hm⟩ := bind_some hm
        refine we_call rfl (x_call Try.call17 rfl (vs := [v780, .agg #[.int .i64 a0.R.E, .int .u64 a0.R.Epoch, .int .u64 a0.R.Index, r0_5, r0_6]]) rfl) ?_
        refine (ref13_Reply_ref (hst.rdrow0 hq783) (f0_5.mono (rd_weak _)) (f0_6.mono (rd_weak _)) hst.to0 ht785).mono ?_
        rintro _ w786 ⟨v789, rfl, hst⟩
        refine ⟨_, rfl, ?_⟩
        replace hst := hst.of1
        replace hst := hst.pull1
        replace hst := hst.own_close hq783
        refine ws_next (pend' := []) hst (by kernel_rfl) pk_nil ?_
        refine wsr (v789) 10 rfl rfl rfl (by kernel_rfl) (fun w hst => rfl) ?_
        refine ws_nil ?_
        intro w hst
        refine then_n (wp_ret (blk_r (then_r ?_)))
        obtain rfl := some_inj hm
        refine post_ret (vs := [v789]) Try.results21 (rvs_cons (rv_tmp rfl) rvs_nil) ?_
        replace hst := hst.pull1
        exact ⟨v789, rfl, hst.keep1⟩
       ·skip
        replace hm := bif_f hc745 hm
        refine wp_iff (congrArg Value.bool hc745) ?_
        refine wp_skip (blk_n (then_n (wp_seq (wp_region_lit ?_))))
        refine wv (v488) rfl rfl rfl ?_
        refine wv (v488) rfl rfl rfl ?_
        refine wl_nil (then_n (wp_ret ?_))
        obtain rfl := some_inj hm
        refine post_ret (vs := [v488]) Try.results21 (rvs_cons (rv_tmp rfl) rvs_nil) ?_
        exact ⟨v488, rfl, hst.keep1⟩

theorem octet_Read_ref {w0 w : World} {I : HL} {R : SP} {a0 : (List Int)} {r0_0 : Value} (f0_0 : Ro (tyInt .u8) I r0_0 a0) (hst : St w0 w I [] R) {r : (octet_Reader)} (hm : octet_Read a0 = some r) :
  Calls Try.prog 15 #[r0_0] w fun e w' => ∃ (q0 : Value), e = .returned (q0) ∧ St w0 w' I [at_octet_Reader q0 r] R := by
 unfold octet_Read at hm
 refine calls_start (args := [r0_0]) Try.func15 rfl Try.ntmps15 (Nat.le_of_ble_eq_true rfl) ?_
 refine wp_seq (wp_region_lit ?_)
 refine wv (.pointer none) rfl rfl rfl ?_
 refine wl_nil (then_n (wp_seq (wp_region_lit ?_)))
 refine wv (r0_0) rfl rfl rfl ?_
 refine wv (.agg #[r0_0, .bool false]) rfl rfl (by obtain ⟨_, _, hv_, _⟩ := (ro_sliceV f0_0); rw [hv_]; kernel_rfl) ?_
 obtain ⟨b182, w183, ew184, eb185, hst⟩ := hst.box [r0_0, .bool false] 95
 refine wl_run (v := .pointer (some ⟨b182, 0, none⟩)) (w' := w183) rfl rfl (x_al (by kernel_rfl) ew184 eb185) ?_
 refine wv (.pointer (some ⟨b182, 0, none⟩)) rfl rfl rfl ?_
 refine wl_nil (then_n (wp_ret ?_))
 replace hst := at_octet_Reader_close (pv := .pointer (some ⟨b182, 0, none⟩)) (x := ({ p := a0, bad := false } : octet_Reader)) hst ⟨rfl, f0_0⟩
 obtain rfl := some_inj hm
 refine post_ret (vs := [.pointer (some ⟨b182, 0, none⟩)]) Try.results15 (rvs_cons (rv_tmp rfl) rvs_nil) ?_
 exact ⟨.pointer (some ⟨b182, 0, none⟩), rfl, hst.keep1⟩

theorem octet_Reader_spoil_ref {w0 w : World} {I : HL} {R : SP} {a0 : octet_Reader} {p0 : Value}  (hst : St w0 w I [at_octet_Reader p0 a0] R) {r : (octet_Reader)} (hm : octet_Reader_spoil a0 = some r) :
  Calls Try.prog 66 #[p0] w fun e w' => e = .returned (.tuple #[]) ∧ St w0 w' I [at_octet_Reader p0 r] R := by
 unfold octet_Reader_spoil at hm
 refine calls_start (args := [p0]) Try.func66 rfl Try.ntmps66 (Nat.le_of_ble_eq_true rfl) ?_
 refine wp_seq (wp_region_lit ?_)
 refine wv (p0) rfl rfl rfl ?_
 obtain ⟨b205, v206, ⟨rfl, f208⟩, hst'⟩ := at_octet_Reader_open hst
 clear hst
 have hst := hst'
 clear hst'
 refine wv (.bool true) rfl rfl (by kernel_rfl) ?_
 refine wl_nil (then_n ?_)
 refine wp_ift rfl ?_
 refine wp_region_lit ?_
 refine wv (.pointer (some ⟨b205, 0, none⟩)) rfl rfl rfl ?_
 refine wv (.pointer (some ⟨b205, 0, none⟩)) rfl rfl rfl ?_
 refine wv (.pointer (some ⟨b205, 1, none⟩)) rfl rfl (x_field rfl Try.underlying95 rfl Try.sizeOf4 rfl) ?_
 obtain ⟨w209, hr210, hst⟩ := hst.boxStore (P := Try.prog) (t := 4) (cs' := [v206, .bool true]) 1 (.bool true) Try.sizeOf4 (Nat.le_of_ble_eq_true rfl) (ones_cons rfl ones_nil) (by kernel_rfl)
 refine wl_unit rfl rfl (x_unit hr210) ?_
 refine wl_nil ?_
 replace hst := at_octet_Reader_close (pv := .pointer (some ⟨b205, 0, none⟩)) (x := ({ p := a0.p, bad := true } : octet_Reader)) hst ⟨rfl, f208⟩
 obtain rfl := some_inj hm
 refine post_end (vs := []) Try.results66 rvs_nil ?_
 exact ⟨rfl, hst.keep1⟩

theorem octet_Reader_Num_ref {w0 w : World} {I : HL} {R : SP} {a0 : octet_Reader} {p0 : Value} {a1 : Int}  (hst : St w0 w I [at_octet_Reader p0 a0] R) {r : (Int × octet_Reader)} (hm : octet_Reader_Num a0 a1 = some r) :
  Calls Try.prog 40 #[p0, .int .i64 a1] w fun e w' => e = .returned (.int .u64 r.1) ∧ St w0 w' I [at_octet_Reader p0 r.2] R := by
 unfold octet_Reader_Num at hm
 refine calls_start (args := [p0, .int .i64 a1]) Try.func40 rfl Try.ntmps40 (Nat.le_of_ble_eq_true rfl) ?_
 refine wp_seq (wp_region_lit ?_)
 refine wv (.int .u64 (0:Int)) rfl rfl rfl ?_
 refine wl_nil (then_n (wp_seq (wp_seq (wp_region_lit ?_))))
 refine wv (p0) rfl rfl rfl ?_
 obtain ⟨b282, v283, ⟨rfl, f285⟩, hst'⟩ := at_octet_Reader_open hst
 clear hst
 have hst := hst'
 clear hst'
 refine wv (.bool false) rfl rfl (by kernel_rfl) ?_
 refine wv (.bool false) rfl rfl rfl ?_
 refine wv (.pointer (some ⟨b282, 0, none⟩)) ((wanted_eq rfl rfl rfl rfl).trans rfl) rfl rfl ?_
 refine wv (.pointer (some ⟨b282, 0, none⟩)) ((wanted_eq rfl rfl rfl rfl).trans rfl) rfl rfl ?_
 refine wv (.pointer (some ⟨b282, 1, none⟩)) ((wanted_eq rfl rfl rfl rfl).trans rfl) rfl (x_field rfl Try.underlying95 rfl Try.sizeOf4 rfl) ?_
 refine wv (.bool a0.bad) ((wanted_eq rfl rfl rfl rfl).trans rfl) rfl (x_load rfl Try.isAgg4 (hst.bc0 rfl)) ?_
 refine wv (.bool a0.bad) rfl rfl (x_pick_f rfl rfl rfl) ?_
 refine wv (.bool a0.bad) rfl rfl rfl ?_
 refine bsplit a0.bad (fun hc286 => ?_) (fun hc286 => ?_)
 ·skip
  replace hm := bif_t hc286 hm
  refine wo hc286 rfl rfl rfl rfl rfl rfl ?_
  refine wo hc286 rfl rfl rfl rfl rfl rfl ?_
  refine wv (.bool true) rfl rfl (x_pick_t hc286 rfl rfl) ?_
  refine wv (.bool true) rfl rfl rfl ?_
  refine wl_off ((wanted_eq rfl rfl rfl rfl).trans rfl) rfl ?_
  refine wl_off ((wanted_eq rfl rfl rfl rfl).trans rfl) rfl ?_
  refine wl_off ((wanted_eq rfl rfl rfl rfl).trans rfl) rfl ?_
  refine wl_off ((wanted_eq rfl rfl rfl rfl).trans rfl) rfl ?_
  refine wl_off ((wanted_eq rfl rfl rfl rfl).trans rfl) rfl ?_
  refine wl_off ((wanted_eq rfl rfl rfl rfl).trans rfl) rfl ?_
  refine wl_off ((wanted_eq rfl rfl rfl rfl).trans rfl) rfl ?_
  refine wv (.bool true) rfl rfl (x_pick_t rfl rfl rfl) ?_
  refine wl_nil (then_n ?_)
  refine wp_ift rfl ?_
  refine wp_seq (wp_region_lit ?_)
  refine wv (.pointer (some ⟨b282, 0, none⟩)) rfl rfl rfl ?_
  replace hst := at_octet_Reader_close (pv := .pointer (some ⟨b282, 0, none⟩)) (x := a0) hst ⟨rfl, f285⟩
  obtain ⟨t287, ht288, hm⟩ := bind_some hm
  refine wl_call rfl rfl (x_call Try.call66 rfl (vs := [.pointer (some ⟨b282, 0, none⟩)]) rfl) ?_
  refine (octet_Reader_spoil_ref hst.to1 ht288).mono ?_
  rintro _ w289 ⟨rfl, hst⟩
  refine ⟨_, rfl, ?_⟩
  replace hst := hst.of1
  refine wl_nil (then_n (wp_seq (wp_region_lit ?_)))
  refine wv (.int .u64 (0:Int)) rfl rfl rfl ?_
  refine wl_nil (then_n (wp_ret (then_r ?_)))
  obtain rfl := some_inj hm
  refine post_ret (vs := [.int .u64 (0:Int)]) Try.results40 (rvs_cons (rv_tmp rfl) rvs_nil) ?_
  exact ⟨rfl, hst.keep1⟩
 ·skip
  replace hm := bif_f hc286 hm
  refine wv (.int .i64 a1) ((wanted_eq rfl rfl rfl (congrArg Value.bool hc286)).trans rfl) rfl rfl ?_
  refine wv (.bool (decide (a1 < (0:Int)))) ((wanted_eq rfl rfl rfl (congrArg Value.bool hc286)).trans rfl) rfl rfl ?_
  refine wv (.bool (decide (a1 < (0:Int)))) rfl rfl (x_pick_f hc286 rfl rfl) ?_
  refine wv (.bool (decide (a1 < (0:Int)))) rfl rfl rfl ?_
  refine bsplit (decide (a1 < (0:Int))) (fun hc292 => ?_) (fun hc292 => ?_)
  ·skip
   replace hm := bif_t hc292 hm
   refine wo hc292 rfl rfl rfl rfl rfl rfl ?_
   refine wo hc292 rfl rfl rfl rfl rfl rfl ?_
   refine wo hc292 rfl rfl rfl rfl rfl rfl ?_
   refine wo hc292 rfl rfl rfl rfl rfl rfl ?_
   refine wo hc292 rfl rfl rfl rfl rfl rfl ?_
   refine wo hc292 rfl rfl rfl rfl rfl rfl ?_
   refine wo hc292 rfl rfl rfl rfl rfl rfl ?_
   refine wv (.bool true) rfl rfl (x_pick_t hc292 rfl rfl) ?_
   refine wl_nil (then_n ?_)
   refine wp_ift rfl ?_
   refine wp_seq (wp_region_lit ?_)
   refine wv (.pointer (some ⟨b282, 0, none⟩)) rfl rfl rfl ?_
   replace hst := at_octet_Reader_close (pv := .pointer (some ⟨b282, 0, none⟩)) (x := a0) hst ⟨rfl, f285⟩
   obtain ⟨t293, ht294, hm⟩ := bind_some hm
   refine wl_call rfl rfl (x_call Try.call66 rfl (vs := [.pointer (some ⟨b282, 0, none⟩)]) rfl) ?_
   refine (octet_Reader_spoil_ref hst.to1 ht294).mono ?_
   rintro _ w295 ⟨rfl, hst⟩
   refine ⟨_, rfl, ?_⟩
   replace hst := hst.of1
   refine wl_nil (then_n (wp_seq (wp_region_lit ?_)))
   refine wv (.int .u64 (0:Int)) rfl rfl rfl ?_
   refine wl_nil (then_n (wp_ret (then_r ?_)))
   obtain rfl := some_inj hm
   refine post_ret (vs := [.int .u64 (0:Int)]) Try.results40 (rvs_cons (rv_tmp rfl) rvs_nil) ?_
   exact ⟨rfl, hst.keep1⟩
  ·skip
   replace hm := bif_f hc292 hm
   refine wv (.pointer (some ⟨b282, 0, none⟩)) ((wanted_eq rfl rfl rfl (congrArg Value.bool hc292)).trans rfl) rfl rfl ?_
   refine wv (.pointer (some ⟨b282, 0, none⟩)) ((wanted_eq rfl rfl rfl (congrArg Value.bool hc292)).trans rfl) rfl rfl ?_
   refine wv (.pointer (some ⟨b282, 0, none⟩)) ((wanted_eq rfl rfl rfl (congrArg Value.bool hc292)).trans rfl) rfl (x_field rfl Try.underlying95 rfl Try.sizeOf22 rfl) ?_
   refine wv (v283) ((wanted_eq rfl rfl rfl (congrArg Value.bool hc292)).trans rfl) rfl (x_load rfl Try.isAgg22 (hst.bc0 rfl)) ?_
   refine wv (.int .i64 ((a0.p).length : Int)) ((wanted_eq rfl rfl rfl (congrArg Value.bool hc292)).trans rfl) rfl (x_len rfl Try.underlying22 (ro_sliceV f285)) ?_
   refine wv (.int .i64 a1) ((wanted_eq rfl rfl rfl (congrArg Value.bool hc292)).trans rfl) rfl rfl ?_
   refine wv (.bool (decide (((a0.p).length : Int) < a1))) ((wanted_eq rfl rfl rfl (congrArg Value.bool hc292)).trans rfl) rfl rfl ?_
   refine wv (.bool (decide (((a0.p).length : Int) < a1))) rfl rfl (x_pick_f hc292 rfl rfl) ?_
   refine wl_nil (then_n ?_)
   refine bsplit (decide (((a0.p).length : Int) < a1)) (fun hc298 => ?_) (fun hc298 => ?_)
   ·skip
    replace hm := bif_t hc298 hm
    refine wp_ift (congrArg Value.bool hc298) ?_
    refine wp_seq (wp_region_lit ?_)
    refine wv (.pointer (some ⟨b282, 0, none⟩)) rfl rfl rfl ?_
    replace hst := at_octet_Reader_close (pv := .pointer (some ⟨b282, 0, none⟩)) (x := a0) hst ⟨rfl, f285⟩
    obtain ⟨t299, ht300, hm⟩ := bind_some hm
    refine wl_call rfl rfl (x_call Try.call66 rfl (vs := [.pointer (some ⟨b282, 0, none⟩)]) rfl) ?_
    refine (octet_Reader_spoil_ref hst.to1 ht300).mono ?_
    rintro _ w301 ⟨rfl, hst⟩
    refine ⟨_, rfl, ?_⟩
    replace hst := hst.of1
    refine wl_nil (then_n (wp_seq (wp_region_lit ?_)))
    refine wv (.int .u64 (0:Int)) rfl rfl rfl ?_
    refine wl_nil (then_n (wp_ret (then_r ?_)))
    obtain rfl := some_inj hm
    refine post_ret (vs := [.int .u64 (0:Int)]) Try.results40 (rvs_cons (rv_tmp rfl) rvs_nil) ?_
    exact ⟨rfl, hst.keep1⟩
   ·skip
    replace hm := bif_f hc298 hm
    refine wp_iff (congrArg Value.bool hc298) ?_
    refine wp_skip (then_n (wp_seq (wp_region_lit ?_)))
    refine wv (.int .u64 (0:Int)) rfl rfl rfl ?_
    refine wl_nil (then_n ?_)
    obtain ⟨y355, hm, hx356⟩ := bind_some hm
    refine wp_cut (fun a w => ∃ (z352 : Int) (σ353 : Nat → Value), (octet_Reader_Num_j0 a0 a1) z352 = some r ∧ a = Fr 59 (upd (upd (upd σ353 0 (.pointer (some ⟨b282, 0, none⟩))) 1 (.int .i64 a1)) 5 (.int .u64 z352)) ∧ St w0 w I [at_octet_Reader (.pointer (some ⟨b282, 0, none⟩)) a0] R) ?_ ?_
    ·skip
     refine wp_seq (wp_region_lit ?_)
     refine wv (.int .i64 a1) rfl rfl rfl ?_
     refine wv (.int .i64 (if (8:Int) < a1 then (8:Int) else a1)) rfl rfl (by kernel_rfl) ?_
     refine wv (.int .i64 (0:Int)) rfl rfl rfl ?_
     refine wl_nil (then_n (wp_block ?_))
     replace hst := at_octet_Reader_close (pv := .pointer (some ⟨b282, 0, none⟩)) (x := a0) hst ⟨rfl, f285⟩
     obtain ⟨n333, hm⟩ := loopO_some hm
     refine wp_loop_n (fun n a w => ∃ (z330 : Int) (z331 : Int) (σ332 : Nat → Value), loopN (octet_Reader_Num_l1 a1 a0) n (z330, z331) = some y355 ∧ a = Fr 59 (upd (upd (upd (upd (upd σ332 0 (.pointer (some ⟨b282, 0, none⟩))) 1 (.int .i64 a1)) 5 (.int .u64 z331)) 31 (.int .i64 (if (8:Int) < a1 then (8:Int) else a1))) 32 (.int .i64 z330)) ∧ St w0 w I [at_octet_Reader (.pointer (some ⟨b282, 0, none⟩)) a0] R) n333 ⟨(0:Int), (0:Int), _, hm, ((fr_upd (t := 0) (v := .pointer (some ⟨b282, 0, none⟩)) rfl).trans ((fr_upd (t := 1) (v := .int .i64 a1) rfl).trans ((fr_upd (t := 5) (v := .int .u64 (0:Int)) rfl).trans ((fr_upd (t := 31) (v := .int .i64 (if (8:Int) < a1 then (8:Int) else a1)) rfl).trans ((fr_upd (t := 32) (v := .int .i64 (0:Int)) rfl).trans rfl))))), hst⟩ ?_
     rintro n339 _ w334 ⟨z330, z331, σ332, hm, rfl, hst⟩
     obtain ⟨n336, y337, rfl, hm, hx338⟩ := loopN_some hm
     dsimp only [octet_Reader_Num_l1] at hm
     refine wp_seq (wp_region_lit ?_)
     refine wv (.bool (decide (z330 < (if (8:Int) < a1 then (8:Int) else a1)))) rfl rfl rfl ?_
     refine wl_nil (then_n (wp_seq ?_))
     refine bsplit (decide (z330 < (if (8:Int) < a1 then (8:Int) else a1))) (fun hc340 => ?_) (fun hc340 => ?_)
     ·skip
      replace hm := bif_t hc340 hm
      refine wp_ift (congrArg Value.bool hc340) ?_
      refine wp_skip (then_n (wp_seq (wp_block (wp_seq (wp_region_lit ?_)))))
      refine wv (.int .i64 z330) rfl rfl rfl ?_
      refine wv (.int .i64 z330) rfl rfl rfl ?_
      refine wl_nil (then_n (wp_region_lit ?_))
      refine wv (.int .u64 z331) rfl rfl rfl ?_
      refine wv (.pointer (some ⟨b282, 0, none⟩)) rfl rfl rfl ?_
      obtain ⟨b341, v342, ⟨e345, f344⟩, hst'⟩ := at_octet_Reader_open hst
      clear hst
      have e345 := ptr_inj e345
      subst e345
      have hst := hst'
      clear hst'
      refine wv (.pointer (some ⟨b282, 0, none⟩)) rfl rfl rfl ?_
      refine wv (.pointer (some ⟨b282, 0, none⟩)) rfl rfl (x_field rfl Try.underlying95 rfl Try.sizeOf22 rfl) ?_
      refine wv (v342) rfl rfl (x_load rfl Try.isAgg22 (hst.bc0 rfl)) ?_
      refine wv (.int .i64 z330) rfl rfl rfl ?_
      obtain ⟨x346, hx347, hm⟩ := bind_some hm
      obtain ⟨h348, h349, hi350⟩ := geto_some hx347
      refine wv (.pointer (some (eAddr v342 (z330.toNat * 1 + 0)))) rfl rfl (x_index rfl rfl Try.underlying22 Try.sizeOf5 (ro_sliceV f344) h348 h349) ?_
      refine wv (.int .u8 x346) rfl rfl (x_load rfl Try.isAgg5 (ro_load f344 hst hi350 (by rintro _ rfl; rfl))) ?_
      refine wv (.int .u64 (IntKind.u64.wrap x346)) rfl rfl (by kernel_rfl) ?_
      refine wv (.int .i64 z330) rfl rfl rfl ?_
      refine wv (.int .i64 (IntKind.i64.wrap ((8:Int) * z330))) rfl rfl rfl ?_
      obtain ⟨hg351, hm⟩ := gd_some hm
      refine wv (.int .u64 (iShl .u64 (IntKind.u64.wrap x346) (IntKind.i64.wrap ((8:Int) * z330)))) rfl rfl (x_shl (of_decide_eq_true hg351) rfl rfl) ?_
      refine wv (.int .u64 (bOr .u64 z331 (iShl .u64 (IntKind.u64.wrap x346) (IntKind.i64.wrap ((8:Int) * z330))))) rfl rfl rfl ?_
      refine wv (.int .u64 (bOr .u64 z331 (iShl .u64 (IntKind.u64.wrap x346) (IntKind.i64.wrap ((8:Int) * z330))))) rfl rfl rfl ?_
      refine wl_nil (blk_n (then_n (wp_region_lit ?_)))
      refine wv (.int .i64 (IntKind.i64.wrap (z330 + (1:Int)))) rfl rfl rfl ?_
      refine wv (.int .i64 (IntKind.i64.wrap (z330 + (1:Int)))) rfl rfl rfl ?_
      refine wl_nil (then_n ?_)
      replace hst := at_octet_Reader_close (pv := .pointer (some ⟨b282, 0, none⟩)) (x := a0) hst ⟨rfl, f344⟩
      replace hst := hst.keep1
      obtain rfl := some_inj hm
      exact ⟨_, Nat.lt_succ_self _, (IntKind.i64.wrap (z330 + (1:Int))), (bOr .u64 z331 (iShl .u64 (IntKind.u64.wrap x346) (IntKind.i64.wrap ((8:Int) * z330)))), _, hx338, ((fr_upd (t := 0) (v := .pointer (some ⟨b282, 0, none⟩)) rfl).trans ((fr_upd (t := 1) (v := .int .i64 a1) rfl).trans ((fr_upd (t := 5) (v := .int .u64 (bOr .u64 z331 (iShl .u64 (IntKind.u64.wrap x346) (IntKind.i64.wrap ((8:Int) * z330))))) rfl).trans ((fr_upd (t := 31) (v := .int .i64 (if (8:Int) < a1 then (8:Int) else a1)) rfl).trans ((fr_upd (t := 32) (v := .int .i64 (IntKind.i64.wrap (z330 + (1:Int)))) rfl).trans rfl))))), hst⟩
     ·skip
      replace hm := bif_f hc340 hm
      refine wp_iff (congrArg Value.bool hc340) ?_
      refine wp_exit (then_x (then_x ?_))
      replace hm := inr_up hm hx338
      refine blk_x (then_n ?_)
      replace hst := hst.keep1
      obtain rfl := some_inj hm
      exact ⟨z331, _, hx356, ((fr_upd (t := 0) (v := .pointer (some ⟨b282, 0, none⟩)) rfl).trans ((fr_upd (t := 1) (v := .int .i64 a1) rfl).trans ((fr_upd (t := 5) (v := .int .u64 z331) rfl).trans rfl))), hst⟩
    ·skip
     clear hst
     rintro _ w357 ⟨z352, σ353, hm, rfl, hst⟩
     dsimp only [octet_Reader_Num_j0] at hm
     refine wp_seq (wp_region_lit ?_)
     refine wv (.pointer (some ⟨b282, 0, none⟩)) rfl rfl rfl ?_
     refine wv (.pointer (some ⟨b282, 0, none⟩)) rfl rfl rfl ?_
     obtain ⟨b358, v359, ⟨e362, f361⟩, hst'⟩ := at_octet_Reader_open hst
     clear hst
     have e362 := ptr_inj e362
     subst e362
     have hst := hst'
     clear hst'
     refine wv (.pointer (some ⟨b282, 0, none⟩)) rfl rfl rfl ?_
     refine wv (.pointer (some ⟨b282, 0, none⟩)) rfl rfl (x_field rfl Try.underlying95 rfl Try.sizeOf22 rfl) ?_
     refine wv (v359) rfl rfl (x_load rfl Try.isAgg22 (hst.bc0 rfl)) ?_
     refine wv (.int .i64 a1) rfl rfl rfl ?_
     obtain ⟨hg363, hm⟩ := gd_some hm
     obtain ⟨h364, h365, h366⟩ := fits_of hg363
     have f368 : Ro (tyInt .u8) I (slcV 1 v359 a1.toNat (((a0.p).length : Nat) : Int).toNat) (subs a0.p a1 (((a0.p).length : Nat) : Int)) := Ro.part f361 h365 h366 h364
     refine wv ((slcV 1 v359 a1.toNat (((a0.p).length : Nat) : Int).toNat)) rfl rfl (x_slice Try.underlying22 Try.sizeOf5 rfl (ro_sliceV f361) h364 h365 h366 .i64 .i64 (.inl rfl) (.inr ⟨rfl, rfl⟩)) ?_
     refine wv (.pointer (some ⟨b282, 0, none⟩)) rfl rfl rfl ?_
     refine wv (.pointer (some ⟨b282, 0, none⟩)) rfl rfl (x_field rfl Try.underlying95 rfl Try.sizeOf22 rfl) ?_
     obtain ⟨w369, hr370, hst⟩ := hst.boxStore1 (P := Try.prog) (t := 22) (cs' := [(slcV 1 v359 a1.toNat (((a0.p).length : Nat) : Int).toNat), .bool a0.bad]) 0 (slcV 1 v359 a1.toNat (((a0.p).length : Nat) : Int).toNat) (one_of_sliceV (ro_sliceV f368)) Try.sizeOf22 rfl rfl
     refine wl_unit rfl rfl (x_unit hr370) ?_
     refine wl_nil (then_n (wp_seq (wp_region_lit ?_)))
     refine wv (.int .u64 z352) rfl rfl rfl ?_
     refine wv (.int .u64 z352) rfl rfl rfl ?_
     refine wl_nil (then_n (wp_ret ?_))
     replace hst := at_octet_Reader_close (pv := .pointer (some ⟨b282, 0, none⟩)) (x := ({ p := (subs a0.p a1 (((a0.p).length : Nat) : Int)), bad := a0.bad } : octet_Reader)) hst ⟨rfl, f368⟩
     obtain rfl := some_inj hm
     refine post_ret (vs := [.int .u64 z352]) Try.results40 (rvs_cons (rv_tmp rfl) rvs_nil) ?_
     exact ⟨rfl, hst.keep1⟩

theorem octet_Reader_Count_ref {w0 w : World} {I : HL} {R : SP} {a0 : octet_Reader} {p0 : Value} {a1 : Int}  (hst : St w0 w I [at_octet_Reader p0 a0] R) {r : (Int × octet_Reader)} (hm : octet_Reader_Count a0 a1 = some r) :
  Calls Try.prog 41 #[p0, .int .i64 a1] w fun e w' => e = .returned (.int .i64 r.1) ∧ St w0 w' I [at_octet_Reader p0 r.2] R := by
 unfold octet_Reader_Count at hm
 refine calls_start (args := [p0, .int .i64 a1]) Try.func41 rfl Try.ntmps41 (Nat.le_of_ble_eq_true rfl) ?_
 refine wp_seq (wp_region_lit ?_)
 refine wv (.int .i64 (0:Int)) rfl rfl rfl ?_
 refine wl_nil (then_n (wp_seq (wp_region_lit ?_)))
 refine wv (p0) rfl rfl rfl ?_
 obtain ⟨t287, ht288, hm⟩ := bind_some hm
 refine wl_call rfl rfl (x_call Try.call40 rfl (vs := [p0, .int .i64 (4:Int)]) rfl) ?_
 refine (octet_Reader_Num_ref hst.to1 ht288).mono ?_
 rintro _ w289 ⟨rfl, hst⟩
 refine ⟨_, rfl, ?_⟩
 replace hst := hst.of1
 refine wv (.int .u64 t287.1) rfl rfl rfl ?_
 refine wl_nil (then_n (wp_seq (wp_seq (wp_region_lit ?_))))
 refine wv (.int .i64 a1) rfl rfl rfl ?_
 refine wv (.bool (decide (a1 < (0:Int)))) rfl rfl rfl ?_
 refine wv (.bool (decide (a1 < (0:Int)))) rfl rfl rfl ?_
 refine bsplit (decide (a1 < (0:Int))) (fun hc292 => ?_) (fun hc292 => ?_)
 ·skip
  replace hm := bif_t hc292 hm
  refine wo hc292 rfl rfl rfl rfl rfl rfl ?_
  refine wo hc292 rfl rfl rfl rfl rfl rfl ?_
  refine wo hc292 rfl rfl rfl rfl rfl rfl ?_
  refine wo hc292 rfl rfl rfl rfl rfl rfl ?_
  refine wv (.bool true) rfl rfl (x_pick_t hc292 rfl rfl) ?_
  refine wl_nil (then_n ?_)
  refine wp_ift rfl ?_
  refine wp_seq (wp_region_lit ?_)
  refine wv (p0) rfl rfl rfl ?_
  obtain ⟨t293, ht294, hm⟩ := bind_some hm
  refine wl_call rfl rfl (x_call Try.call66 rfl (vs := [p0]) rfl) ?_
  refine (octet_Reader_spoil_ref hst.to1 ht294).mono ?_
  rintro _ w295 ⟨rfl, hst⟩
  refine ⟨_, rfl, ?_⟩
  replace hst := hst.of1
  refine wl_nil (then_n (wp_seq (wp_region_lit ?_)))
  refine wv (.int .i64 (0:Int)) rfl rfl rfl ?_
  refine wl_nil (then_n (wp_ret (then_r ?_)))
  obtain rfl := some_inj hm
  refine post_ret (vs := [.int .i64 (0:Int)]) Try.results41 (rvs_cons (rv_tmp rfl) rvs_nil) ?_
  exact ⟨rfl, hst.keep1⟩
 ·skip
  replace hm := bif_f hc292 hm
  refine wv (.int .u64 t287.1) ((wanted_eq rfl rfl rfl (congrArg Value.bool hc292)).trans rfl) rfl rfl ?_
  refine wv (.int .i64 a1) ((wanted_eq rfl rfl rfl (congrArg Value.bool hc292)).trans rfl) rfl rfl ?_
  refine wv (.int .u64 (IntKind.u64.wrap a1)) ((wanted_eq rfl rfl rfl (congrArg Value.bool hc292)).trans rfl) rfl (by kernel_rfl) ?_
  refine wv (.bool (decide (t287.1 > (IntKind.u64.wrap a1)))) ((wanted_eq rfl rfl rfl (congrArg Value.bool hc292)).trans rfl) rfl rfl ?_
  refine wv (.bool (decide (t287.1 > (IntKind.u64.wrap a1)))) rfl rfl (x_pick_f hc292 rfl rfl) ?_
  refine wl_nil (then_n ?_)
  refine bsplit (decide (t287.1 > (IntKind.u64.wrap a1))) (fun hc298 => ?_) (fun hc298 => ?_)
  ·skip
   replace hm := bif_t hc298 hm
   refine wp_ift (congrArg Value.bool hc298) ?_
   refine wp_seq (wp_region_lit ?_)
   refine wv (p0) rfl rfl rfl ?_
   obtain ⟨t299, ht300, hm⟩ := bind_some hm
   refine wl_call rfl rfl (x_call Try.call66 rfl (vs := [p0]) rfl) ?_
   refine (octet_Reader_spoil_ref hst.to1 ht300).mono ?_
   rintro _ w301 ⟨rfl, hst⟩
   refine ⟨_, rfl, ?_⟩
   replace hst := hst.of1
   refine wl_nil (then_n (wp_seq (wp_region_lit ?_)))
   refine wv (.int .i64 (0:Int)) rfl rfl rfl ?_
   refine wl_nil (then_n (wp_ret (then_r ?_)))
   obtain rfl := some_inj hm
   refine post_ret (vs := [.int .i64 (0:Int)]) Try.results41 (rvs_cons (rv_tmp rfl) rvs_nil) ?_
   exact ⟨rfl, hst.keep1⟩
  ·skip
   replace hm := bif_f hc298 hm
   refine wp_iff (congrArg Value.bool hc298) ?_
   refine wp_skip (then_n (wp_seq (wp_region_lit ?_)))
   refine wv (.int .u64 t287.1) rfl rfl rfl ?_
   refine wv (.int .i64 (IntKind.i64.wrap t287.1)) rfl rfl (by kernel_rfl) ?_
   refine wv (.int .i64 (IntKind.i64.wrap t287.1)) rfl rfl rfl ?_
   refine wl_nil (then_n (wp_ret ?_))
   obtain rfl := some_inj hm
   refine post_ret (vs := [.int .i64 (IntKind.i64.wrap t287.1)]) Try.results41 (rvs_cons (rv_tmp rfl) rvs_nil) ?_
   exact ⟨rfl, hst.keep1⟩

theorem number_Back_ref {w0 w : World} {I : HL} {R : SP} {a0 : Int}  (hst : St w0 w I [] R) {r : (Nat)} (hm : number_Back a0 = some r) :
  Calls Try.prog 44 #[.int .u64 a0] w fun e w' => e = .returned (.float .f64 r) ∧ St w0 w' I [] R := by
 unfold number_Back at hm
 refine calls_start (args := [.int .u64 a0]) Try.func44 rfl Try.ntmps44 (Nat.le_of_ble_eq_true rfl) ?_
 refine wp_seq (wp_region_lit ?_)
 refine wv (.float .f64 (0:Nat)) rfl rfl rfl ?_
 refine wl_nil (then_n (wp_seq (wp_seq (wp_region_lit ?_))))
 refine wv (.int .u64 a0) rfl rfl rfl ?_
 refine wv (.int .u64 (iShr .u64 a0 (63:Int))) rfl rfl (x_shr (by decide) rfl rfl) ?_
 refine wv (.bool ((iShr .u64 a0 (63:Int)) == (1:Int))) rfl rfl rfl ?_
 refine wl_nil (then_n ?_)
 refine bsplit ((iShr .u64 a0 (63:Int)) == (1:Int)) (fun hc275 => ?_) (fun hc275 => ?_)
 ·skip
  replace hm := bif_t hc275 hm
  refine wp_ift (congrArg Value.bool hc275) ?_
  refine wp_seq (wp_region_lit ?_)
  refine wv (.int .u64 a0) rfl rfl rfl ?_
  refine wv (.int .u64 (bAndNot .u64 a0 (9223372036854775808:Int))) rfl rfl rfl ?_
  refine wv (.float .f64 (Int.toNat (bAndNot .u64 a0 (9223372036854775808:Int)))) rfl rfl (by kernel_rfl) ?_
  refine wv (.float .f64 (Int.toNat (bAndNot .u64 a0 (9223372036854775808:Int)))) rfl rfl rfl ?_
  refine wl_nil (then_n (wp_ret (then_r ?_)))
  obtain rfl := some_inj hm
  refine post_ret (vs := [.float .f64 (Int.toNat (bAndNot .u64 a0 (9223372036854775808:Int)))]) Try.results44 (rvs_cons (rv_tmp rfl) rvs_nil) ?_
  exact ⟨rfl, hst.keep0⟩
 ·skip
  replace hm := bif_f hc275 hm
  refine wp_iff (congrArg Value.bool hc275) ?_
  refine wp_skip (then_n (wp_seq (wp_region_lit ?_)))
  refine wv (.int .u64 a0) rfl rfl rfl ?_
  refine wv (.int .u64 (bXor .u64 ((18446744073709551615):Int) a0)) rfl rfl (by kernel_rfl) ?_
  refine wv (.float .f64 (Int.toNat (bXor .u64 ((18446744073709551615):Int) a0))) rfl rfl (by kernel_rfl) ?_
  refine wv (.float .f64 (Int.toNat (bXor .u64 ((18446744073709551615):Int) a0))) rfl rfl rfl ?_
  refine wl_nil (then_n (wp_ret ?_))
  obtain rfl := some_inj hm
  refine post_ret (vs := [.float .f64 (Int.toNat (bXor .u64 ((18446744073709551615):Int) a0))]) Try.results44 (rvs_cons (rv_tmp rfl) rvs_nil) ?_
  exact ⟨rfl, hst.keep0⟩

theorem octet_Reader_Bytes_ref {w0 w : World} {I : HL} {R : SP} {a0 : octet_Reader} {p0 : Value} {a1 : Int}  (hst : St w0 w I [at_octet_Reader p0 a0] R) {r : ((List Int) × octet_Reader)} (hm : octet_Reader_Bytes a0 a1 = some r) :
  Calls Try.prog 43 #[p0, .int .i64 a1] w fun e w' => ∃ (q0_0 : Value), e = .returned (q0_0) ∧ St w0 w' I [ownS (tyInt .u8) q0_0 r.1, at_octet_Reader p0 r.2] R := by
 unfold octet_Reader_Bytes at hm
 refine calls_start (args := [p0, .int .i64 a1]) Try.func43 rfl Try.ntmps43 (Nat.le_of_ble_eq_true rfl) ?_
 refine wp_seq (wp_region_lit ?_)
 refine wv ((.slice none 0 0)) rfl rfl rfl ?_
 refine wl_nil (then_n (wp_seq (wp_region_lit ?_)))
 refine wv (p0) rfl rfl rfl ?_
 obtain ⟨t728, ht729, hm⟩ := bind_some hm
 refine wl_call rfl rfl (x_call Try.call40 rfl (vs := [p0, .int .i64 (4:Int)]) rfl) ?_
 refine (octet_Reader_Num_ref hst.to1 ht729).mono ?_
 rintro _ w730 ⟨rfl, hst⟩
 refine ⟨_, rfl, ?_⟩
 replace hst := hst.of1
 refine wv (.int .u64 t728.1) rfl rfl rfl ?_
 refine wl_nil (then_n (wp_seq (wp_seq (wp_region_lit ?_))))
 refine wv (p0) rfl rfl rfl ?_
 obtain ⟨b733, v734, ⟨rfl, f736⟩, hst'⟩ := at_octet_Reader_open hst
 clear hst
 have hst := hst'
 clear hst'
 refine wv (.bool false) rfl rfl (by kernel_rfl) ?_
 refine wv (.bool false) rfl rfl rfl ?_
 refine wv (.pointer (some ⟨b733, 0, none⟩)) ((wanted_eq rfl rfl rfl rfl).trans rfl) rfl rfl ?_
 refine wv (.pointer (some ⟨b733, 0, none⟩)) ((wanted_eq rfl rfl rfl rfl).trans rfl) rfl rfl ?_
 refine wv (.pointer (some ⟨b733, 1, none⟩)) ((wanted_eq rfl rfl rfl rfl).trans rfl) rfl (x_field rfl Try.underlying95 rfl Try.sizeOf4 rfl) ?_
 refine wv (.bool t728.2.bad) ((wanted_eq rfl rfl rfl rfl).trans rfl) rfl (x_load rfl Try.isAgg4 (hst.bc0 rfl)) ?_
 refine wv (.bool t728.2.bad) rfl rfl (x_pick_f rfl rfl rfl) ?_
 refine wv (.bool t728.2.bad) rfl rfl rfl ?_
 refine bsplit t728.2.bad (fun hc737 => ?_) (fun hc737 => ?_)
 ·skip
  replace hm := bif_t hc737 hm
  refine wo hc737 rfl rfl rfl rfl rfl rfl ?_
  refine wo hc737 rfl rfl rfl rfl rfl rfl ?_
  refine wv (.bool true) rfl rfl (x_pick_t hc737 rfl rfl) ?_
  refine wv (.bool true) rfl rfl rfl ?_
  refine wl_off ((wanted_eq rfl rfl rfl rfl).trans rfl) rfl ?_
  refine wl_off ((wanted_eq rfl rfl rfl rfl).trans rfl) rfl ?_
  refine wl_off ((wanted_eq rfl rfl rfl rfl).trans rfl) rfl ?_
  refine wl_off ((wanted_eq rfl rfl rfl rfl).trans rfl) rfl ?_
  refine wv (.bool true) rfl rfl (x_pick_t rfl rfl rfl) ?_
  refine wv (.bool true) rfl rfl rfl ?_
  refine wl_off ((wanted_eq rfl rfl rfl rfl).trans rfl) rfl ?_
  refine wl_off ((wanted_eq rfl rfl rfl rfl).trans rfl) rfl ?_
  refine wl_off ((wanted_eq rfl rfl rfl rfl).trans rfl) rfl ?_
  refine wl_off ((wanted_eq rfl rfl rfl rfl).trans rfl) rfl ?_
  refine wl_off ((wanted_eq rfl rfl rfl rfl).trans rfl) rfl ?_
  refine wl_off ((wanted_eq rfl rfl rfl rfl).trans rfl) rfl ?_
  refine wl_off ((wanted_eq rfl rfl rfl rfl).trans rfl) rfl ?_
  refine wl_off ((wanted_eq rfl rfl rfl rfl).trans rfl) rfl ?_
  refine wv (.bool true) rfl rfl (x_pick_t rfl rfl rfl) ?_
  refine wl_nil (then_n ?_)
  refine wp_ift rfl ?_
  refine wp_seq (wp_region_lit ?_)
  refine wv (.pointer (some ⟨b733, 0, none⟩)) rfl rfl rfl ?_
  replace hst := at_octet_Reader_close (pv := .pointer (some ⟨b733, 0, none⟩)) (x := t728.2) hst ⟨rfl, f736⟩
  obtain ⟨t738, ht739, hm⟩ := bind_some hm
  refine wl_call rfl rfl (x_call Try.call66 rfl (vs := [.pointer (some ⟨b733, 0, none⟩)]) rfl) ?_
  refine (octet_Reader_spoil_ref hst.to1 ht739).mono ?_
  rintro _ w740 ⟨rfl, hst⟩
  refine ⟨_, rfl, ?_⟩
  replace hst := hst.of1
  refine wl_nil (then_n (wp_seq (wp_region_lit ?_)))
  refine wv ((.slice none 0 0)) rfl rfl rfl ?_
  refine wl_nil (then_n (wp_ret (then_r ?_)))
  replace hst := hst.own_nil (tyInt .u8)
  obtain rfl := some_inj hm
  refine post_ret (vs := [(.slice none 0 0)]) Try.results43 (rvs_cons (rv_tmp rfl) rvs_nil) ?_
  replace hst := hst.pull1
  replace hst := hst.pull1
  exact ⟨(.slice none 0 0), rfl, hst.keep2⟩
 ·skip
  replace hm := bif_f hc737 hm
  refine wv (.int .i64 a1) ((wanted_eq rfl rfl rfl (congrArg Value.bool hc737)).trans rfl) rfl rfl ?_
  refine wv (.bool (decide (a1 < (0:Int)))) ((wanted_eq rfl rfl rfl (congrArg Value.bool hc737)).trans rfl) rfl rfl ?_
  refine wv (.bool (decide (a1 < (0:Int)))) rfl rfl (x_pick_f hc737 rfl rfl) ?_
  refine wv (.bool (decide (a1 < (0:Int)))) rfl rfl rfl ?_
  refine bsplit (decide (a1 < (0:Int))) (fun hc744 => ?_) (fun hc744 => ?_)
  ·skip
   replace hm := bif_t hc744 hm
   refine wo hc744 rfl rfl rfl rfl rfl rfl ?_
   refine wo hc744 rfl rfl rfl rfl rfl rfl ?_
   refine wo hc744 rfl rfl rfl rfl rfl rfl ?_
   refine wo hc744 rfl rfl rfl rfl rfl rfl ?_
   refine wv (.bool true) rfl rfl (x_pick_t hc744 rfl rfl) ?_
   refine wv (.bool true) rfl rfl rfl ?_
   refine wl_off ((wanted_eq rfl rfl rfl rfl).trans rfl) rfl ?_
   refine wl_off ((wanted_eq rfl rfl rfl rfl).trans rfl) rfl ?_
   refine wl_off ((wanted_eq rfl rfl rfl rfl).trans rfl) rfl ?_
   refine wl_off ((wanted_eq rfl rfl rfl rfl).trans rfl) rfl ?_
   refine wl_off ((wanted_eq rfl rfl rfl rfl).trans rfl) rfl ?_
   refine wl_off ((wanted_eq rfl rfl rfl rfl).trans rfl) rfl ?_
   refine wl_off ((wanted_eq rfl rfl rfl rfl).trans rfl) rfl ?_
   refine wl_off ((wanted_eq rfl rfl rfl rfl).trans rfl) rfl ?_
   refine wv (.bool true) rfl rfl (x_pick_t rfl rfl rfl) ?_
   refine wl_nil (then_n ?_)
   refine wp_ift rfl ?_
   refine wp_seq (wp_region_lit ?_)
   refine wv (.pointer (some ⟨b733, 0, none⟩)) rfl rfl rfl ?_
   replace hst := at_octet_Reader_close (pv := .pointer (some ⟨b733, 0, none⟩)) (x := t728.2) hst ⟨rfl, f736⟩
   obtain ⟨t745, ht746, hm⟩ := bind_some hm
   refine wl_call rfl rfl (x_call Try.call66 rfl (vs := [.pointer (some ⟨b733, 0, none⟩)]) rfl) ?_
   refine (octet_Reader_spoil_ref hst.to1 ht746).mono ?_
   rintro _ w747 ⟨rfl, hst⟩
   refine ⟨_, rfl, ?_⟩
   replace hst := hst.of1
   refine wl_nil (then_n (wp_seq (wp_region_lit ?_)))
   refine wv ((.slice none 0 0)) rfl rfl rfl ?_
   refine wl_nil (then_n (wp_ret (then_r ?_)))
   replace hst := hst.own_nil (tyInt .u8)
   obtain rfl := some_inj hm
   refine post_ret (vs := [(.slice none 0 0)]) Try.results43 (rvs_cons (rv_tmp rfl) rvs_nil) ?_
   replace hst := hst.pull1
   replace hst := hst.pull1
   exact ⟨(.slice none 0 0), rfl, hst.keep2⟩
  ·skip
   replace hm := bif_f hc744 hm
   refine wv (.int .u64 t728.1) ((wanted_eq rfl rfl rfl (congrArg Value.bool hc744)).trans rfl) rfl rfl ?_
   refine wv (.int .i64 a1) ((wanted_eq rfl rfl rfl (congrArg Value.bool hc744)).trans rfl) rfl rfl ?_
   refine wv (.int .u64 (IntKind.u64.wrap a1)) ((wanted_eq rfl rfl rfl (congrArg Value.bool hc744)).trans rfl) rfl (by kernel_rfl) ?_
   refine wv (.bool (decide (t728.1 > (IntKind.u64.wrap a1)))) ((wanted_eq rfl rfl rfl (congrArg Value.bool hc744)).trans rfl) rfl rfl ?_
   refine wv (.bool (decide (t728.1 > (IntKind.u64.wrap a1)))) rfl rfl (x_pick_f hc744 rfl rfl) ?_
   refine wv (.bool (decide (t728.1 > (IntKind.u64.wrap a1)))) rfl rfl rfl ?_
   refine bsplit (decide (t728.1 > (IntKind.u64.wrap a1))) (fun hc751 => ?_) (fun hc751 => ?_)
   ·skip
    replace hm := bif_t hc751 hm
    refine wo hc751 rfl rfl rfl rfl rfl rfl ?_
    refine wo hc751 rfl rfl rfl rfl rfl rfl ?_
    refine wo hc751 rfl rfl rfl rfl rfl rfl ?_
    refine wo hc751 rfl rfl rfl rfl rfl rfl ?_
    refine wo hc751 rfl rfl rfl rfl rfl rfl ?_
    refine wo hc751 rfl rfl rfl rfl rfl rfl ?_
    refine wo hc751 rfl rfl rfl rfl rfl rfl ?_
    refine wo hc751 rfl rfl rfl rfl rfl rfl ?_
    refine wv (.bool true) rfl rfl (x_pick_t hc751 rfl rfl) ?_
    refine wl_nil (then_n ?_)
    refine wp_ift rfl ?_
    refine wp_seq (wp_region_lit ?_)
    refine wv (.pointer (some ⟨b733, 0, none⟩)) rfl rfl rfl ?_
    replace hst := at_octet_Reader_close (pv := .pointer (some ⟨b733, 0, none⟩)) (x := t728.2) hst ⟨rfl, f736⟩
    obtain ⟨t752, ht753, hm⟩ := bind_some hm
    refine wl_call rfl rfl (x_call Try.call66 rfl (vs := [.pointer (some ⟨b733, 0, none⟩)]) rfl) ?_
    refine (octet_Reader_spoil_ref hst.to1 ht753).mono ?_
    rintro _ w754 ⟨rfl, hst⟩
    refine ⟨_, rfl, ?_⟩
    replace hst := hst.of1
    refine wl_nil (then_n (wp_seq (wp_region_lit ?_)))
    refine wv ((.slice none 0 0)) rfl rfl rfl ?_
    refine wl_nil (then_n (wp_ret (then_r ?_)))
    replace hst := hst.own_nil (tyInt .u8)
    obtain rfl := some_inj hm
    refine post_ret (vs := [(.slice none 0 0)]) Try.results43 (rvs_cons (rv_tmp rfl) rvs_nil) ?_
    replace hst := hst.pull1
    replace hst := hst.pull1
    exact ⟨(.slice none 0 0), rfl, hst.keep2⟩
   ·skip
    replace hm := bif_f hc751 hm
    refine wv (.int .u64 t728.1) ((wanted_eq rfl rfl rfl (congrArg Value.bool hc751)).trans rfl) rfl rfl ?_
    refine wv (.pointer (some ⟨b733, 0, none⟩)) ((wanted_eq rfl rfl rfl (congrArg Value.bool hc751)).trans rfl) rfl rfl ?_
    refine wv (.pointer (some ⟨b733, 0, none⟩)) ((wanted_eq rfl rfl rfl (congrArg Value.bool hc751)).trans rfl) rfl rfl ?_
    refine wv (.pointer (some ⟨b733, 0, none⟩)) ((wanted_eq rfl rfl rfl (congrArg Value.bool hc751)).trans rfl) rfl (x_field rfl Try.underlying95 rfl Try.sizeOf22 rfl) ?_
    refine wv (v734) ((wanted_eq rfl rfl rfl (congrArg Value.bool hc751)).trans rfl) rfl (x_load rfl Try.isAgg22 (hst.bc0 rfl)) ?_
    refine wv (.int .i64 ((t728.2.p).length : Int)) ((wanted_eq rfl rfl rfl (congrArg Value.bool hc751)).trans rfl) rfl (x_len rfl Try.underlying22 (ro_sliceV f736)) ?_
    refine wv (.int .u64 (IntKind.u64.wrap ((t728.2.p).length : Int))) ((wanted_eq rfl rfl rfl (congrArg Value.bool hc751)).trans rfl) rfl (by kernel_rfl) ?_
    refine wv (.bool (decide (t728.1 > (IntKind.u64.wrap ((t728.2.p).length : Int))))) ((wanted_eq rfl rfl rfl (congrArg Value.bool hc751)).trans rfl) rfl rfl ?_
    refine wv (.bool (decide (t728.1 > (IntKind.u64.wrap ((t728.2.p).length : Int))))) rfl rfl (x_pick_f hc751 rfl rfl) ?_
    refine wl_nil (then_n ?_)
    refine bsplit (decide (t728.1 > (IntKind.u64.wrap ((t728.2.p).length : Int)))) (fun hc758 => ?_) (fun hc758 => ?_)
    ·skip
     replace hm := bif_t hc758 hm
     refine wp_ift (congrArg Value.bool hc758) ?_
     refine wp_seq (wp_region_lit ?_)
     refine wv (.pointer (some ⟨b733, 0, none⟩)) rfl rfl rfl ?_
     replace hst := at_octet_Reader_close (pv := .pointer (some ⟨b733, 0, none⟩)) (x := t728.2) hst ⟨rfl, f736⟩
     obtain ⟨t759, ht760, hm⟩ := bind_some hm
     refine wl_call rfl rfl (x_call Try.call66 rfl (vs := [.pointer (some ⟨b733, 0, none⟩)]) rfl) ?_
     refine (octet_Reader_spoil_ref hst.to1 ht760).mono ?_
     rintro _ w761 ⟨rfl, hst⟩
     refine ⟨_, rfl, ?_⟩
     replace hst := hst.of1
     refine wl_nil (then_n (wp_seq (wp_region_lit ?_)))
     refine wv ((.slice none 0 0)) rfl rfl rfl ?_
     refine wl_nil (then_n (wp_ret (then_r ?_)))
     replace hst := hst.own_nil (tyInt .u8)
     obtain rfl := some_inj hm
     refine post_ret (vs := [(.slice none 0 0)]) Try.results43 (rvs_cons (rv_tmp rfl) rvs_nil) ?_
     replace hst := hst.pull1
     replace hst := hst.pull1
     exact ⟨(.slice none 0 0), rfl, hst.keep2⟩
    ·skip
     replace hm := bif_f hc758 hm
     refine wp_iff (congrArg Value.bool hc758) ?_
     refine wp_skip (then_n (wp_seq (wp_region_lit ?_)))
     refine wv (.pointer (some ⟨b733, 0, none⟩)) rfl rfl rfl ?_
     refine wv (.pointer (some ⟨b733, 0, none⟩)) rfl rfl rfl ?_
     refine wv (.pointer (some ⟨b733, 0, none⟩)) rfl rfl (x_field rfl Try.underlying95 rfl Try.sizeOf22 rfl) ?_
     refine wv (v734) rfl rfl (x_load rfl Try.isAgg22 (hst.bc0 rfl)) ?_
     refine wv (.int .u64 t728.1) rfl rfl rfl ?_
     obtain ⟨hg765, hm⟩ := gd_some hm
     obtain ⟨h766, h767, h768⟩ := fits_of hg765
     have f770 : Ro (tyInt .u8) I (slcV 1 v734 (0:Int).toNat t728.1.toNat) (subs t728.2.p (0:Int) t728.1) := Ro.part f736 h767 h768 h766
     refine wv ((slcV 1 v734 (0:Int).toNat t728.1.toNat)) rfl rfl (x_slice Try.underlying22 Try.sizeOf5 rfl (ro_sliceV f736) h766 h767 h768 .i64 .u64 (.inr ⟨rfl, rfl⟩) (.inl rfl)) ?_
     replace hst := hst.own_nil (tyInt .u8)
     obtain ⟨hg772, hm⟩ := gd_some hm
     obtain ⟨v773, w774, hr775, hst⟩ := run_append elem_22 Try.underlying22 hst (Src.of_ro hst f770) (room_of hg772 rfl) 22
     replace hst := St.nil_app hst
     refine wl_run (v := v773) (w' := w774) rfl rfl (x_append rfl rfl hr775) ?_
     refine wv (v773) rfl rfl rfl ?_
     refine wl_nil (then_n (wp_seq (wp_region_lit ?_)))
     refine wv (.pointer (some ⟨b733, 0, none⟩)) rfl rfl rfl ?_
     refine wv (.pointer (some ⟨b733, 0, none⟩)) rfl rfl rfl ?_
     refine wv (.pointer (some ⟨b733, 0, none⟩)) rfl rfl rfl ?_
     refine wv (.pointer (some ⟨b733, 0, none⟩)) rfl rfl (x_field rfl Try.underlying95 rfl Try.sizeOf22 rfl) ?_
     refine wv (v734) rfl rfl (x_load rfl Try.isAgg22 (hst.bc1 rfl)) ?_
     refine wv (.int .u64 t728.1) rfl rfl rfl ?_
     obtain ⟨hg776, hm⟩ := gd_some hm
     obtain ⟨h777, h778, h779⟩ := fits_of hg776
     have f781 : Ro (tyInt .u8) I (slcV 1 v734 t728.1.toNat (((t728.2.p).length : Nat) : Int).toNat) (subs t728.2.p t728.1 (((t728.2.p).length : Nat) : Int)) := Ro.part f736 h778 h779 h777
     refine wv ((slcV 1 v734 t728.1.toNat (((t728.2.p).length : Nat) : Int).toNat)) rfl rfl (x_slice Try.underlying22 Try.sizeOf5 rfl (ro_sliceV f736) h777 h778 h779 .u64 .i64 (.inl rfl) (.inr ⟨rfl, rfl⟩)) ?_
     refine wv (.pointer (some ⟨b733, 0, none⟩)) rfl rfl rfl ?_
     refine wv (.pointer (some ⟨b733, 0, none⟩)) rfl rfl (x_field rfl Try.underlying95 rfl Try.sizeOf22 rfl) ?_
     replace hst := hst.pull1
     obtain ⟨w782, hr783, hst⟩ := hst.boxStore1 (P := Try.prog) (t := 22) (cs' := [(slcV 1 v734 t728.1.toNat (((t728.2.p).length : Nat) : Int).toNat), .bool t728.2.bad]) 0 (slcV 1 v734 t728.1.toNat (((t728.2.p).length : Nat) : Int).toNat) (one_of_sliceV (ro_sliceV f781)) Try.sizeOf22 rfl rfl
     refine wl_unit rfl rfl (x_unit hr783) ?_
     refine wl_nil (then_n (wp_seq (wp_region_lit ?_)))
     refine wv (v773) rfl rfl rfl ?_
     refine wv (v773) rfl rfl rfl ?_
     refine wl_nil (then_n (wp_ret ?_))
     replace hst := at_octet_Reader_close (pv := .pointer (some ⟨b733, 0, none⟩)) (x := ({ p := (subs t728.2.p t728.1 (((t728.2.p).length : Nat) : Int)), bad := t728.2.bad } : octet_Reader)) hst ⟨rfl, f781⟩
     obtain rfl := some_inj hm
     refine post_ret (vs := [v773]) Try.results43 (rvs_cons (rv_tmp rfl) rvs_nil) ?_
     replace hst := hst.pull1
     exact ⟨v773, rfl, hst.keep2⟩

theorem locks_Read_ref {w0 w : World} {I : HL} {R : SP} {a0 : octet_Reader} {p0 : Value}  (hst : St w0 w I [at_octet_Reader p0 a0] R) {r : (api_Hold × octet_Reader)} (hm : locks_Read a0 = some r) :
  Calls Try.prog 53 #[p0] w fun e w' => ∃ (q0_0 : Value) (q0_1 : Value) (q0_2 : Value) (q0_3 : Value), e = .returned (.agg #[.int .u64 r.1.ID.Session, .int .u64 r.1.ID.Seq, .int .u64 r.1.Epoch, q0_0, q0_1, q0_2, q0_3]) ∧ St w0 w' I [ownS tyF64 q0_0 r.1.Gets, ownS tyF2 q0_1 r.1.Scans, ownS tyF64 q0_2 r.1.Puts, ownS (tyInt .u8) q0_3 r.1.Data, at_octet_Reader p0 r.2] R := by
 unfold locks_Read at hm
 refine calls_start (args := [p0]) Try.func53 rfl Try.ntmps53 (Nat.le_of_ble_eq_true rfl) ?_
 refine wp_seq (wp_region_lit ?_)
 obtain ⟨b684, w685, ew686, eb687, hst⟩ := hst.box [.int .u64 (0:Int), .int .u64 (0:Int), .int .u64 (0:Int), (.slice none 0 0), (.slice none 0 0), (.slice none 0 0), (.slice none 0 0)] 34
 refine wl_run (v := .pointer (some ⟨b684, 0, none⟩)) (w' := w685) rfl rfl (x_al (by kernel_rfl) ew686 eb687) ?_
 refine wl_nil (then_n (wp_seq (wp_region_lit ?_)))
 refine wv (p0) rfl rfl rfl ?_
 replace hst := hst.pull1
 obtain ⟨t689, ht690, hm⟩ := bind_some hm
 refine wl_call rfl rfl (x_call Try.call40 rfl (vs := [p0, .int .i64 (8:Int)]) rfl) ?_
 refine (octet_Reader_Num_ref hst.to1 ht690).mono ?_
 rintro _ w691 ⟨rfl, hst⟩
 refine ⟨_, rfl, ?_⟩
 replace hst := hst.of1
 refine wv (p0) rfl rfl rfl ?_
 obtain ⟨t694, ht695, hm⟩ := bind_some hm
 refine wl_call rfl rfl (x_call Try.call40 rfl (vs := [p0, .int .i64 (8:Int)]) rfl) ?_
 refine (octet_Reader_Num_ref hst.to1 ht695).mono ?_
 rintro _ w696 ⟨rfl, hst⟩
 refine ⟨_, rfl, ?_⟩
 replace hst := hst.of1
 refine wv (.agg #[.int .u64 t689.1, .int .u64 t694.1]) rfl rfl (by kernel_rfl) ?_
 refine wv (p0) rfl rfl rfl ?_
 obtain ⟨t699, ht700, hm⟩ := bind_some hm
 refine wl_call rfl rfl (x_call Try.call40 rfl (vs := [p0, .int .i64 (8:Int)]) rfl) ?_
 refine (octet_Reader_Num_ref hst.to1 ht700).mono ?_
 rintro _ w701 ⟨rfl, hst⟩
 refine ⟨_, rfl, ?_⟩
 replace hst := hst.of1
 refine wv (.agg #[.int .u64 t689.1, .int .u64 t694.1, .int .u64 t699.1, (.slice none 0 0), (.slice none 0 0), (.slice none 0 0), (.slice none 0 0)]) rfl rfl (by kernel_rfl) ?_
 obtain ⟨b712, w713, ew714, eb715, hst⟩ := hst.box [.int .u64 (0:Int), .int .u64 (0:Int), .int .u64 (0:Int), (.slice none 0 0), (.slice none 0 0), (.slice none 0 0), (.slice none 0 0)] 34
 refine wl_run (v := .pointer (some ⟨b712, 0, none⟩)) (w' := w713) rfl rfl (x_al (by kernel_rfl) ew714 eb715) ?_
 obtain ⟨w717, hr718, hst⟩ := hst.boxStore (P := Try.prog) (t := 34) (cs' := [.int .u64 t689.1, .int .u64 t694.1, .int .u64 t699.1, (.slice none 0 0), (.slice none 0 0), (.slice none 0 0), (.slice none 0 0)]) 0 (.agg #[.int .u64 t689.1, .int .u64 t694.1, .int .u64 t699.1, (.slice none 0 0), (.slice none 0 0), (.slice none 0 0), (.slice none 0 0)]) Try.sizeOf34 (Nat.le_of_ble_eq_true rfl) (ones_cons rfl (ones_cons rfl (ones_cons rfl (ones_cons rfl (ones_cons rfl (ones_cons rfl (ones_cons rfl ones_nil))))))) (by kernel_rfl)
 refine wl_unit rfl rfl (x_unit hr718) ?_
 refine wl_nil (then_n ?_)
 obtain ⟨y836, hm, hx837⟩ := bind_some hm
 refine wp_cut (fun a w => ∃ (z830 : octet_Reader) (z833 : (List Nat)) (v832 : Value) (σ834 : Nat → Value), (locks_Read_j0 t689 t694 t699) (z830, z833) = some r ∧ a = Fr 59 (upd (upd (upd σ834 0 (p0)) 2 (.pointer (some ⟨b684, 0, none⟩))) 3 (.pointer (some ⟨b712, 0, none⟩))) ∧ St w0 w I [at_octet_Reader p0 z830, cells b684 [.int .u64 (0:Int), .int .u64 (0:Int), .int .u64 (0:Int), (.slice none 0 0), (.slice none 0 0), (.slice none 0 0), (.slice none 0 0)], cells b712 [.int .u64 t689.1, .int .u64 t694.1, .int .u64 t699.1, v832, (.slice none 0 0), (.slice none 0 0), (.slice none 0 0)], ownS tyF64 v832 z833] R) ?_ ?_
 ·skip
  refine wp_seq (wp_region_lit ?_)
  refine wv (p0) rfl rfl rfl ?_
  replace hst := hst.pull1
  obtain ⟨t719, ht720, hm⟩ := bind_some hm
  refine wl_call rfl rfl (x_call Try.call41 rfl (vs := [p0, .int .i64 (32:Int)]) rfl) ?_
  refine (octet_Reader_Count_ref hst.to1 ht720).mono ?_
  rintro _ w721 ⟨rfl, hst⟩
  refine ⟨_, rfl, ?_⟩
  replace hst := hst.of1
  refine wv (.int .i64 (0:Int)) rfl rfl rfl ?_
  refine wl_nil (then_n (wp_block ?_))
  replace hst := hst.own_nil tyF64
  obtain ⟨n801, hm⟩ := loopO_some hm
  refine wp_loop_n (fun n a w => ∃ (z795 : (List Nat)) (z798 : octet_Reader) (z799 : Int) (v796 : Value) (σ800 : Nat → Value), loopN (locks_Read_l1 t719) n (z795, z798, z799) = some y836 ∧ a = Fr 59 (upd (upd (upd (upd (upd σ800 0 (p0)) 2 (.pointer (some ⟨b684, 0, none⟩))) 3 (.pointer (some ⟨b712, 0, none⟩))) 13 (.int .i64 t719.1)) 14 (.int .i64 z799)) ∧ St w0 w I [ownS tyF64 v796 z795, at_octet_Reader p0 z798, cells b712 [.int .u64 t689.1, .int .u64 t694.1, .int .u64 t699.1, v796, (.slice none 0 0), (.slice none 0 0), (.slice none 0 0)], cells b684 [.int .u64 (0:Int), .int .u64 (0:Int), .int .u64 (0:Int), (.slice none 0 0), (.slice none 0 0), (.slice none 0 0), (.slice none 0 0)]] R) n801 ⟨[], t719.2, (0:Int), (.slice none 0 0), _, hm, ((fr_upd (t := 0) (v := p0) rfl).trans ((fr_upd (t := 2) (v := .pointer (some ⟨b684, 0, none⟩)) rfl).trans ((fr_upd (t := 3) (v := .pointer (some ⟨b712, 0, none⟩)) rfl).trans ((fr_upd (t := 13) (v := .int .i64 t719.1) rfl).trans ((fr_upd (t := 14) (v := .int .i64 (0:Int)) rfl).trans rfl))))), hst⟩ ?_
  rintro n807 _ w802 ⟨z795, z798, z799, v796, σ800, hm, rfl, hst⟩
  obtain ⟨n804, y805, rfl, hm, hx806⟩ := loopN_some hm
  dsimp only [locks_Read_l1] at hm
  refine wp_seq (wp_region_lit ?_)
  refine wv (.bool (decide (z799 < t719.1))) rfl rfl rfl ?_
  refine wl_nil (then_n (wp_seq ?_))
  refine bsplit (decide (z799 < t719.1)) (fun hc808 => ?_) (fun hc808 => ?_)
  ·skip
   replace hm := bif_t hc808 hm
   refine wp_ift (congrArg Value.bool hc808) ?_
   refine wp_skip (then_n (wp_seq (wp_block ?_)))
   refine wp_region_St hst 9 [0, 1, 2, 3, 4, 5, 6, 7, 8] [0, 1, 0, 4, 12, 28, 63, 127, 255] [] rfl (by kernel_rfl) (by kernel_rfl) Try.mixed (by kernel_rfl) ?_
   refine wsr (.pointer (some ⟨b712, 3, none⟩)) 0 rfl rfl rfl (by kernel_rfl) (fun w hst => x_field rfl Try.underlying34 rfl Try.sizeOf31 rfl) ?_
   refine wsr (v796) 1 rfl rfl rfl (by kernel_rfl) (fun w hst => x_load rfl Try.isAgg31 (hst.bc2 rfl)) ?_
   refine wsr (p0) 2 rfl rfl rfl (by kernel_rfl) (fun w hst => rfl) ?_
   refine ws_e1 3 (by kernel_rfl) ?_
   refine nxe [4, 5, 6, 7, 8] (by kernel_rfl) rfl rfl ?_
   clear hst
   intro w hst
   replace hst := hst.pull1
   obtain ⟨t809, ht810, hm⟩ := bind_some hm
   refine we_call rfl (x_call Try.call40 rfl (vs := [p0, .int .i64 (8:Int)]) rfl) ?_
   refine (octet_Reader_Num_ref hst.to1 ht810).mono ?_
   rintro _ w811 ⟨rfl, hst⟩
   refine ⟨_, rfl, ?_⟩
   replace hst := hst.of1
   refine ws_next (pend' := [(1, v796), (0, .pointer (some ⟨b712, 3, none⟩))]) hst (by kernel_rfl) (pkr rfl rfl (fun w hst => x_load rfl Try.isAgg31 (hst.bc2 rfl)) (pkr rfl rfl (fun w hst => x_field rfl Try.underlying34 rfl Try.sizeOf31 rfl) pk_nil)) ?_
   refine ws_e1 4 (by kernel_rfl) ?_
   refine nxe [5, 6, 7, 8] (by kernel_rfl) rfl rfl ?_
   clear hst
   intro w hst
   obtain ⟨t814, ht815, hm⟩ := bind_some hm
   refine we_call rfl (x_call Try.call44 rfl (vs := [.int .u64 t809.1]) rfl) ?_
   refine (number_Back_ref hst.to0 ht815).mono ?_
   rintro _ w816 ⟨rfl, hst⟩
   refine ⟨_, rfl, ?_⟩
   replace hst := hst.of0
   refine ws_next (pend' := [(1, v796), (0, .pointer (some ⟨b712, 3, none⟩))]) hst (by kernel_rfl) (pkr rfl rfl (fun w hst => x_load rfl Try.isAgg31 (hst.bc2 rfl)) (pkr rfl rfl (fun w hst => x_field rfl Try.underlying34 rfl Try.sizeOf31 rfl) pk_nil)) ?_
   refine ws_e1 5 (by kernel_rfl) ?_
   refine nxe [6, 7, 8] (by kernel_rfl) rfl rfl ?_
   clear hst
   intro w hst
   obtain ⟨b819, w820, ew821, eb822, hst⟩ := hst.lits (E := tyF64) (xs := [t814]) [[.float .f64 t814]] 41 1 rfl (Reps.cons rfl Reps.nil)
   refine we_run (v := (.slice (some ⟨b819, 0, none⟩) 1 1)) (w' := w820) rfl (x_als (by kernel_rfl) ew821 eb822) ?_
   refine ws_next (pend' := [(1, v796), (0, .pointer (some ⟨b712, 3, none⟩))]) hst (by kernel_rfl) (pkr rfl rfl (fun w hst => x_load rfl Try.isAgg31 (hst.bc3 rfl)) (pkr rfl rfl (fun w hst => x_field rfl Try.underlying34 rfl Try.sizeOf31 rfl) pk_nil)) ?_
   refine ws_e1 6 (by kernel_rfl) ?_
   refine nxe [7, 8] (by kernel_rfl) rfl rfl ?_
   clear hst
   intro w hst
   obtain ⟨hg824, hm⟩ := gd_some hm
   replace hst := hst.pull2
   obtain ⟨v825, w826, hr827, hst⟩ := run_append elem_31 Try.underlying31 hst hst.src1 (room_of hg824 rfl) 31
   refine we_run (v := v825) (w' := w826) rfl (x_append rfl rfl hr827) ?_
   refine ws_next (pend' := []) hst (by kernel_rfl) pk_nil ?_
   refine wsr (.pointer (some ⟨b712, 3, none⟩)) 7 rfl rfl rfl (by kernel_rfl) (fun w hst => x_field rfl Try.underlying34 rfl Try.sizeOf31 rfl) ?_
   refine ws_e1 8 (by kernel_rfl) ?_
   refine nxe [] (by kernel_rfl) rfl rfl ?_
   clear hst
   intro w hst
   replace hst := hst.pull3
   obtain ⟨w828, hr829, hst⟩ := hst.boxStore1 (P := Try.prog) (t := 31) (cs' := [.int .u64 t689.1, .int .u64 t694.1, .int .u64 t699.1, v825, (.slice none 0 0), (.slice none 0 0), (.slice none 0 0)]) 3 v825 (one_of_sliceV hst.sv1) Try.sizeOf31 rfl rfl
   refine we_unit rfl (x_unit hr829) ?_
   refine ws_next (pend' := []) hst (by kernel_rfl) pk_nil ?_
   refine ws_nil ?_
   intro w hst
   refine blk_n (then_n (wp_region_lit ?_))
   refine wv (.int .i64 (IntKind.i64.wrap (z799 + (1:Int)))) rfl rfl rfl ?_
   refine wv (.int .i64 (IntKind.i64.wrap (z799 + (1:Int)))) rfl rfl rfl ?_
   refine wl_nil (then_n ?_)
   replace hst := hst.pull4
   replace hst := hst.pull1
   replace hst := hst.pull4
   replace hst := hst.pull3
   replace hst := hst.keep4
   obtain rfl := some_inj hm
   exact ⟨_, Nat.lt_succ_self _, (z795 ++ ([t814])), t809.2, (IntKind.i64.wrap (z799 + (1:Int))), v825, _, hx806, ((fr_upd (t := 0) (v := p0) rfl).trans ((fr_upd (t := 2) (v := .pointer (some ⟨b684, 0, none⟩)) rfl).trans ((fr_upd (t := 3) (v := .pointer (some ⟨b712, 0, none⟩)) rfl).trans ((fr_upd (t := 13) (v := .int .i64 t719.1) rfl).trans ((fr_upd (t := 14) (v := .int .i64 (IntKind.i64.wrap (z799 + (1:Int)))) rfl).trans rfl))))), hst⟩
  ·skip
   replace hm := bif_f hc808 hm
   refine wp_iff (congrArg Value.bool hc808) ?_
   refine wp_exit (then_x (then_x ?_))
   replace hm := inr_up hm hx806
   refine blk_x (then_n ?_)
   replace hst := hst.pull2
   replace hst := hst.pull3
   replace hst := hst.pull3
   replace hst := hst.keep4
   obtain rfl := some_inj hm
   exact ⟨z798, z795, v796, _, hx837, ((fr_upd (t := 0) (v := p0) rfl).trans ((fr_upd (t := 2) (v := .pointer (some ⟨b684, 0, none⟩)) rfl).trans ((fr_upd (t := 3) (v := .pointer (some ⟨b712, 0, none⟩)) rfl).trans rfl))), hst⟩
 ·skip
  clear hst
  rintro _ w838 ⟨z830, z833, v832, σ834, hm, rfl, hst⟩
  dsimp only [locks_Read_j0] at hm
  obtain ⟨y996, hm, hx997⟩ := bind_some hm
  refine wp_cut (fun a w => ∃ (z990 : octet_Reader) (z993 : (List (Nat × Nat))) (v992 : Value) (σ994 : Nat → Value), (locks_Read_j2 t689 t694 t699 z833) (z990, z993) = some r ∧ a = Fr 59 (upd (upd (upd σ994 0 (p0)) 2 (.pointer (some ⟨b684, 0, none⟩))) 3 (.pointer (some ⟨b712, 0, none⟩))) ∧ St w0 w I [at_octet_Reader p0 z990, cells b684 [.int .u64 (0:Int), .int .u64 (0:Int), .int .u64 (0:Int), (.slice none 0 0), (.slice none 0 0), (.slice none 0 0), (.slice none 0 0)], cells b712 [.int .u64 t689.1, .int .u64 t694.1, .int .u64 t699.1, v832, v992, (.slice none 0 0), (.slice none 0 0)], ownS tyF64 v832 z833, ownS tyF2 v992 z993] R) ?_ ?_
  ·skip
   refine wp_seq (wp_region_lit ?_)
   refine wv (p0) rfl rfl rfl ?_
   obtain ⟨t839, ht840, hm⟩ := bind_some hm
   refine wl_call rfl rfl (x_call Try.call41 rfl (vs := [p0, .int .i64 (32:Int)]) rfl) ?_
   refine (octet_Reader_Count_ref hst.to1 ht840).mono ?_
   rintro _ w841 ⟨rfl, hst⟩
   refine ⟨_, rfl, ?_⟩
   replace hst := hst.of1
   refine wv (.int .i64 (0:Int)) rfl rfl rfl ?_
   refine wl_nil (then_n (wp_block ?_))
   replace hst := hst.own_nil tyF2
   obtain ⟨n951, hm⟩ := loopO_some hm
   refine wp_loop_n (fun n a w => ∃ (z945 : (List (Nat × Nat))) (z948 : octet_Reader) (z949 : Int) (v946 : Value) (σ950 : Nat → Value), loopN (locks_Read_l3 t839) n (z945, z948, z949) = some y996 ∧ a = Fr 59 (upd (upd (upd (upd (upd σ950 0 (p0)) 2 (.pointer (some ⟨b684, 0, none⟩))) 3 (.pointer (some ⟨b712, 0, none⟩))) 26 (.int .i64 t839.1)) 27 (.int .i64 z949)) ∧ St w0 w I [ownS tyF2 v946 z945, at_octet_Reader p0 z948, cells b684 [.int .u64 (0:Int), .int .u64 (0:Int), .int .u64 (0:Int), (.slice none 0 0), (.slice none 0 0), (.slice none 0 0), (.slice none 0 0)], cells b712 [.int .u64 t689.1, .int .u64 t694.1, .int .u64 t699.1, v832, v946, (.slice none 0 0), (.slice none 0 0)], ownS tyF64 v832 z833] R) n951 ⟨[], t839.2, (0:Int), (.slice none 0 0), _, hm, ((fr_upd (t := 0) (v := p0) rfl).trans ((fr_upd (t := 2) (v := .pointer (some ⟨b684, 0, none⟩)) rfl).trans ((fr_upd (t := 3) (v := .pointer (some ⟨b712, 0, none⟩)) rfl).trans ((fr_upd (t := 26) (v := .int .i64 t839.1) rfl).trans ((fr_upd (t := 27) (v := .int .i64 (0:Int)) rfl).trans rfl))))), hst⟩ ?_
   rintro n957 _ w952 ⟨z945, z948, z949, v946, σ950, hm, rfl, hst⟩
   obtain ⟨n954, y955, rfl, hm, hx956⟩ := loopN_some hm
   dsimp only [locks_Read_l3] at hm
   refine wp_seq (wp_region_lit ?_)
   refine wv (.bool (decide (z949 < t839.1))) rfl rfl rfl ?_
   refine wl_nil (then_n (wp_seq ?_))
   refine bsplit (decide (z949 < t839.1)) (fun hc958 => ?_) (fun hc958 => ?_)
   ·skip
    replace hm := bif_t hc958 hm
    refine wp_ift (congrArg Value.bool hc958) ?_
    refine wp_skip (then_n (wp_seq (wp_block ?_)))
    refine wp_region_St hst 13 [0, 1, 2, 3, 4, 5, 6, 7, 8, 9, 10, 11, 12] [0, 1, 0, 4, 12, 0, 60, 124, 252, 508, 1023, 2047, 4095] [] rfl (by kernel_rfl) (by kernel_rfl) Try.mixed (by kernel_rfl) ?_
    refine wsr (.pointer (some ⟨b712, 4, none⟩)) 0 rfl rfl rfl (by kernel_rfl) (fun w hst => x_field rfl Try.underlying34 rfl Try.sizeOf32 rfl) ?_
    refine wsr (v946) 1 rfl rfl rfl (by kernel_rfl) (fun w hst => x_load rfl Try.isAgg32 (hst.bc3 rfl)) ?_
    refine wsr (p0) 2 rfl rfl rfl (by kernel_rfl) (fun w hst => rfl) ?_
    refine wsr (p0) 5 rfl rfl rfl (by kernel_rfl) (fun w hst => rfl) ?_
    refine ws_e1 3 (by kernel_rfl) ?_
    refine nxe [4, 6, 7, 8, 9, 10, 11, 12] (by kernel_rfl) rfl rfl ?_
    clear hst
    intro w hst
    replace hst := hst.pull1
    obtain ⟨t959, ht960, hm⟩ := bind_some hm
    refine we_call rfl (x_call Try.call40 rfl (vs := [p0, .int .i64 (8:Int)]) rfl) ?_
    refine (octet_Reader_Num_ref hst.to1 ht960).mono ?_
    rintro _ w961 ⟨rfl, hst⟩
    refine ⟨_, rfl, ?_⟩
    replace hst := hst.of1
    refine ws_next (pend' := [(5, p0), (1, v946), (0, .pointer (some ⟨b712, 4, none⟩))]) hst (by kernel_rfl) (pkr rfl rfl (fun w hst => rfl) (pkr rfl rfl (fun w hst => x_load rfl Try.isAgg32 (hst.bc3 rfl)) (pkr rfl rfl (fun w hst => x_field rfl Try.underlying34 rfl Try.sizeOf32 rfl) pk_nil))) ?_
    refine ws_e1 4 (by kernel_rfl) ?_
    refine nxe [6, 7, 8, 9, 10, 11, 12] (by kernel_rfl) rfl rfl ?_
    clear hst
    intro w hst
    obtain ⟨t964, ht965, hm⟩ := bind_some hm
    refine we_call rfl (x_call Try.call44 rfl (vs := [.int .u64 t959.1]) rfl) ?_
    refine (number_Back_ref hst.to0 ht965).mono ?_
    rintro _ w966 ⟨rfl, hst⟩
    refine ⟨_, rfl, ?_⟩
    replace hst := hst.of0
    refine ws_next (pend' := [(5, p0), (1, v946), (0, .pointer (some ⟨b712, 4, none⟩))]) hst (by kernel_rfl) (pkr rfl rfl (fun w hst => rfl) (pkr rfl rfl (fun w hst => x_load rfl Try.isAgg32 (hst.bc3 rfl)) (pkr rfl rfl (fun w hst => x_field rfl Try.underlying34 rfl Try.sizeOf32 rfl) pk_nil))) ?_
    refine ws_e1 6 (by kernel_rfl) ?_
    refine nxe [7, 8, 9, 10, 11, 12] (by kernel_rfl) rfl rfl ?_
    clear hst
    intro w hst
    obtain ⟨t969, ht970, hm⟩ := bind_some hm
    refine we_call rfl (x_call Try.call40 rfl (vs := [p0, .int .i64 (8:Int)]) rfl) ?_
    refine (octet_Reader_Num_ref hst.to1 ht970).mono ?_
    rintro _ w971 ⟨rfl, hst⟩
    refine ⟨_, rfl, ?_⟩
    replace hst := hst.of1
    refine ws_next (pend' := [(1, v946), (0, .pointer (some ⟨b712, 4, none⟩))]) hst (by kernel_rfl) (pkr rfl rfl (fun w hst => x_load rfl Try.isAgg32 (hst.bc3 rfl)) (pkr rfl rfl (fun w hst => x_field rfl Try.underlying34 rfl Try.sizeOf32 rfl) pk_nil)) ?_
    refine ws_e1 7 (by kernel_rfl) ?_
    refine nxe [8, 9, 10, 11, 12] (by kernel_rfl) rfl rfl ?_
    clear hst
    intro w hst
    obtain ⟨t974, ht975, hm⟩ := bind_some hm
    refine we_call rfl (x_call Try.call44 rfl (vs := [.int .u64 t969.1]) rfl) ?_
    refine (number_Back_ref hst.to0 ht975).mono ?_
    rintro _ w976 ⟨rfl, hst⟩
    refine ⟨_, rfl, ?_⟩
    replace hst := hst.of0
    refine ws_next (pend' := [(1, v946), (0, .pointer (some ⟨b712, 4, none⟩))]) hst (by kernel_rfl) (pkr rfl rfl (fun w hst => x_load rfl Try.isAgg32 (hst.bc3 rfl)) (pkr rfl rfl (fun w hst => x_field rfl Try.underlying34 rfl Try.sizeOf32 rfl) pk_nil)) ?_
    refine wsr (.agg #[.float .f64 t964, .float .f64 t974]) 8 rfl rfl rfl (by kernel_rfl) (fun w hst => by kernel_rfl) ?_
    refine ws_e1 9 (by kernel_rfl) ?_
    refine nxe [10, 11, 12] (by kernel_rfl) rfl rfl ?_
    clear hst
    intro w hst
    obtain ⟨b979, w980, ew981, eb982, hst⟩ := hst.lits (E := tyF2) (xs := [(t964, t974)]) [[.float .f64 t964, .float .f64 t974]] 111 1 rfl (Reps.cons rfl Reps.nil)
    refine we_run (v := (.slice (some ⟨b979, 0, none⟩) 1 1)) (w' := w980) rfl (x_als (by kernel_rfl) ew981 eb982) ?_
    refine ws_next (pend' := [(1, v946), (0, .pointer (some ⟨b712, 4, none⟩))]) hst (by kernel_rfl) (pkr rfl rfl (fun w hst => x_load rfl Try.isAgg32 (hst.bc4 rfl)) (pkr rfl rfl (fun w hst => x_field rfl Try.underlying34 rfl Try.sizeOf32 rfl) pk_nil)) ?_
    refine ws_e1 10 (by kernel_rfl) ?_
    refine nxe [11, 12] (by kernel_rfl) rfl rfl ?_
    clear hst
    intro w hst
    obtain ⟨hg984, hm⟩ := gd_some hm
    replace hst := hst.pull2
    obtain ⟨v985, w986, hr987, hst⟩ := run_append elem_32 Try.underlying32 hst hst.src1 (room_of hg984 rfl) 32
    refine we_run (v := v985) (w' := w986) rfl (x_append rfl rfl hr987) ?_
    refine ws_next (pend' := []) hst (by kernel_rfl) pk_nil ?_
    refine wsr (.pointer (some ⟨b712, 4, none⟩)) 11 rfl rfl rfl (by kernel_rfl) (fun w hst => x_field rfl Try.underlying34 rfl Try.sizeOf32 rfl) ?_
    refine ws_e1 12 (by kernel_rfl) ?_
    refine nxe [] (by kernel_rfl) rfl rfl ?_
    clear hst
    intro w hst
    replace hst := hst.pull4
    obtain ⟨w988, hr989, hst⟩ := hst.boxStore1 (P := Try.prog) (t := 32) (cs' := [.int .u64 t689.1, .int .u64 t694.1, .int .u64 t699.1, v832, v985, (.slice none 0 0), (.slice none 0 0)]) 4 v985 (one_of_sliceV hst.sv1) Try.sizeOf32 rfl rfl
    refine we_unit rfl (x_unit hr989) ?_
    refine ws_next (pend' := []) hst (by kernel_rfl) pk_nil ?_
    refine ws_nil ?_
    intro w hst
    refine blk_n (then_n (wp_region_lit ?_))
    refine wv (.int .i64 (IntKind.i64.wrap (z949 + (1:Int)))) rfl rfl rfl ?_
    refine wv (.int .i64 (IntKind.i64.wrap (z949 + (1:Int)))) rfl rfl rfl ?_
    refine wl_nil (then_n ?_)
    replace hst := hst.pull5
    replace hst := hst.pull1
    replace hst := hst.pull5
    replace hst := hst.pull5
    replace hst := hst.pull4
    replace hst := hst.keep5
    obtain rfl := some_inj hm
    exact ⟨_, Nat.lt_succ_self _, (z945 ++ ([(t964, t974)])), t969.2, (IntKind.i64.wrap (z949 + (1:Int))), v985, _, hx956, ((fr_upd (t := 0) (v := p0) rfl).trans ((fr_upd (t := 2) (v := .pointer (some ⟨b684, 0, none⟩)) rfl).trans ((fr_upd (t := 3) (v := .pointer (some ⟨b712, 0, none⟩)) rfl).trans ((fr_upd (t := 26) (v := .int .i64 t839.1) rfl).trans ((fr_upd (t := 27) (v := .int .i64 (IntKind.i64.wrap (z949 + (1:Int)))) rfl).trans rfl))))), hst⟩
   ·skip
    replace hm := bif_f hc958 hm
    refine wp_iff (congrArg Value.bool hc958) ?_
    refine wp_exit (then_x (then_x ?_))
    replace hm := inr_up hm hx956
    refine blk_x (then_n ?_)
    replace hst := hst.pull4
    replace hst := hst.pull4
    replace hst := hst.pull4
    replace hst := hst.pull4
    replace hst := hst.keep5
    obtain rfl := some_inj hm
    exact ⟨z948, z945, v946, _, hx997, ((fr_upd (t := 0) (v := p0) rfl).trans ((fr_upd (t := 2) (v := .pointer (some ⟨b684, 0, none⟩)) rfl).trans ((fr_upd (t := 3) (v := .pointer (some ⟨b712, 0, none⟩)) rfl).trans rfl))), hst⟩
  ·skip
   clear hst
   rintro _ w998 ⟨z990, z993, v992, σ994, hm, rfl, hst⟩
   dsimp only [locks_Read_j2] at hm
   obtain ⟨y1116, hm, hx1117⟩ := bind_some hm
   refine wp_cut (fun a w => ∃ (z1110 : octet_Reader) (z1113 : (List Nat)) (v1112 : Value) (σ1114 : Nat → Value), (locks_Read_j4 t689 t694 t699 z833 z993) (z1110, z1113) = some r ∧ a = Fr 59 (upd (upd (upd σ1114 0 (p0)) 2 (.pointer (some ⟨b684, 0, none⟩))) 3 (.pointer (some ⟨b712, 0, none⟩))) ∧ St w0 w I [at_octet_Reader p0 z1110, cells b684 [.int .u64 (0:Int), .int .u64 (0:Int), .int .u64 (0:Int), (.slice none 0 0), (.slice none 0 0), (.slice none 0 0), (.slice none 0 0)], cells b712 [.int .u64 t689.1, .int .u64 t694.1, .int .u64 t699.1, v832, v992, v1112, (.slice none 0 0)], ownS tyF64 v832 z833, ownS tyF2 v992 z993, ownS tyF64 v1112 z1113] R) ?_ ?_
   ·skip
    refine wp_seq (wp_region_lit ?_)
    refine wv (p0) rfl rfl rfl ?_
    obtain ⟨t999, ht1000, hm⟩ := bind_some hm
    refine wl_call rfl rfl (x_call Try.call41 rfl (vs := [p0, .int .i64 (32:Int)]) rfl) ?_
    refine (octet_Reader_Count_ref hst.to1 ht1000).mono ?_
    rintro _ w1001 ⟨rfl, hst⟩
    refine ⟨_, rfl, ?_⟩
    replace hst := hst.of1
    refine wv (.int .i64 (0:Int)) rfl rfl rfl ?_
    refine wl_nil (then_n (wp_block ?_))
    replace hst := hst.own_nil tyF64
    obtain ⟨n1081, hm⟩ := loopO_some hm
    refine wp_loop_n (fun n a w => ∃ (z1075 : (List Nat)) (z1078 : octet_Reader) (z1079 : Int) (v1076 : Value) (σ1080 : Nat → Value), loopN (locks_Read_l5 t999) n (z1075, z1078, z1079) = some y1116 ∧ a = Fr 59 (upd (upd (upd (upd (upd σ1080 0 (p0)) 2 (.pointer (some ⟨b684, 0, none⟩))) 3 (.pointer (some ⟨b712, 0, none⟩))) 43 (.int .i64 t999.1)) 44 (.int .i64 z1079)) ∧ St w0 w I [ownS tyF64 v1076 z1075, at_octet_Reader p0 z1078, cells b684 [.int .u64 (0:Int), .int .u64 (0:Int), .int .u64 (0:Int), (.slice none 0 0), (.slice none 0 0), (.slice none 0 0), (.slice none 0 0)], cells b712 [.int .u64 t689.1, .int .u64 t694.1, .int .u64 t699.1, v832, v992, v1076, (.slice none 0 0)], ownS tyF64 v832 z833, ownS tyF2 v992 z993] R) n1081 ⟨[], t999.2, (0:Int), (.slice none 0 0), _, hm, ((fr_upd (t := 0) (v := p0) rfl).trans ((fr_upd (t := 2) (v := .pointer (some ⟨b684, 0, none⟩)) rfl).trans ((fr_upd (t := 3) (v := .pointer (some ⟨b712, 0, none⟩)) rfl).trans ((fr_upd (t := 43) (v := .int .i64 t999.1) rfl).trans ((fr_upd (t := 44) (v := .int .i64 (0:Int)) rfl).trans rfl))))), hst⟩ ?_
    rintro n1087 _ w1082 ⟨z1075, z1078, z1079, v1076, σ1080, hm, rfl, hst⟩
    obtain ⟨n1084, y1085, rfl, hm, hx1086⟩ := loopN_some hm
    dsimp only [locks_Read_l5] at hm
    refine wp_seq (wp_region_lit ?_)
    refine wv (.bool (decide (z1079 < t999.1))) rfl rfl rfl ?_
    refine wl_nil (then_n (wp_seq ?_))
    refine bsplit (decide (z1079 < t999.1)) (fun hc1088 => ?_) (fun hc1088 => ?_)
    ·skip
     replace hm := bif_t hc1088 hm
     refine wp_ift (congrArg Value.bool hc1088) ?_
     refine wp_skip (then_n (wp_seq (wp_block ?_)))
     refine wp_region_St hst 9 [0, 1, 2, 3, 4, 5, 6, 7, 8] [0, 1, 0, 4, 12, 28, 63, 127, 255] [] rfl (by kernel_rfl) (by kernel_rfl) Try.mixed (by kernel_rfl) ?_
     refine wsr (.pointer (some ⟨b712, 5, none⟩)) 0 rfl rfl rfl (by kernel_rfl) (fun w hst => x_field rfl Try.underlying34 rfl Try.sizeOf31 rfl) ?_
     refine wsr (v1076) 1 rfl rfl rfl (by kernel_rfl) (fun w hst => x_load rfl Try.isAgg31 (hst.bc3 rfl)) ?_
     refine wsr (p0) 2 rfl rfl rfl (by kernel_rfl) (fun w hst => rfl) ?_
     refine ws_e1 3 (by kernel_rfl) ?_
     refine nxe [4, 5, 6, 7, 8] (by kernel_rfl) rfl rfl ?_
     clear hst
     intro w hst
     replace hst := hst.pull1
     obtain ⟨t1089, ht1090, hm⟩ := bind_some hm
     refine we_call rfl (x_call Try.call40 rfl (vs := [p0, .int .i64 (8:Int)]) rfl) ?_
     refine (octet_Reader_Num_ref hst.to1 ht1090).mono ?_
     rintro _ w1091 ⟨rfl, hst⟩
     refine ⟨_, rfl, ?_⟩
     replace hst := hst.of1
     refine ws_next (pend' := [(1, v1076), (0, .pointer (some ⟨b712, 5, none⟩))]) hst (by kernel_rfl) (pkr rfl rfl (fun w hst => x_load rfl Try.isAgg31 (hst.bc3 rfl)) (pkr rfl rfl (fun w hst => x_field rfl Try.underlying34 rfl Try.sizeOf31 rfl) pk_nil)) ?_
     refine ws_e1 4 (by kernel_rfl) ?_
     refine nxe [5, 6, 7, 8] (by kernel_rfl) rfl rfl ?_
     clear hst
     intro w hst
     obtain ⟨t1094, ht1095, hm⟩ := bind_some hm
     refine we_call rfl (x_call Try.call44 rfl (vs := [.int .u64 t1089.1]) rfl) ?_
     refine (number_Back_ref hst.to0 ht1095).mono ?_
     rintro _ w1096 ⟨rfl, hst⟩
     refine ⟨_, rfl, ?_⟩
     replace hst := hst.of0
     refine ws_next (pend' := [(1, v1076), (0, .pointer (some ⟨b712, 5, none⟩))]) hst (by kernel_rfl) (pkr rfl rfl (fun w hst => x_load rfl Try.isAgg31 (hst.bc3 rfl)) (pkr rfl rfl (fun w hst => x_field rfl Try.underlying34 rfl Try.sizeOf31 rfl) pk_nil)) ?_
     refine ws_e1 5 (by kernel_rfl) ?_
     refine nxe [6, 7, 8] (by kernel_rfl) rfl rfl ?_
     clear hst
     intro w hst
     obtain ⟨b1099, w1100, ew1101, eb1102, hst⟩ := hst.lits (E := tyF64) (xs := [t1094]) [[.float .f64 t1094]] 41 1 rfl (Reps.cons rfl Reps.nil)
     refine we_run (v := (.slice (some ⟨b1099, 0, none⟩) 1 1)) (w' := w1100) rfl (x_als (by kernel_rfl) ew1101 eb1102) ?_
     refine ws_next (pend' := [(1, v1076), (0, .pointer (some ⟨b712, 5, none⟩))]) hst (by kernel_rfl) (pkr rfl rfl (fun w hst => x_load rfl Try.isAgg31 (hst.bc4 rfl)) (pkr rfl rfl (fun w hst => x_field rfl Try.underlying34 rfl Try.sizeOf31 rfl) pk_nil)) ?_
     refine ws_e1 6 (by kernel_rfl) ?_
     refine nxe [7, 8] (by kernel_rfl) rfl rfl ?_
     clear hst
     intro w hst
     obtain ⟨hg1104, hm⟩ := gd_some hm
     replace hst := hst.pull2
     obtain ⟨v1105, w1106, hr1107, hst⟩ := run_append elem_31 Try.underlying31 hst hst.src1 (room_of hg1104 rfl) 31
     refine we_run (v := v1105) (w' := w1106) rfl (x_append rfl rfl hr1107) ?_
     refine ws_next (pend' := []) hst (by kernel_rfl) pk_nil ?_
     refine wsr (.pointer (some ⟨b712, 5, none⟩)) 7 rfl rfl rfl (by kernel_rfl) (fun w hst => x_field rfl Try.underlying34 rfl Try.sizeOf31 rfl) ?_
     refine ws_e1 8 (by kernel_rfl) ?_
     refine nxe [] (by kernel_rfl) rfl rfl ?_
     clear hst
     intro w hst
     replace hst := hst.pull4
     obtain ⟨w1108, hr1109, hst⟩ := hst.boxStore1 (P := Try.prog) (t := 31) (cs' := [.int .u64 t689.1, .int .u64 t694.1, .int .u64 t699.1, v832, v992, v1105, (.slice none 0 0)]) 5 v1105 (one_of_sliceV hst.sv1) Try.sizeOf31 rfl rfl
     refine we_unit rfl (x_unit hr1109) ?_
     refine ws_next (pend' := []) hst (by kernel_rfl) pk_nil ?_
     refine ws_nil ?_
     intro w hst
     refine blk_n (then_n (wp_region_lit ?_))
     refine wv (.int .i64 (IntKind.i64.wrap (z1079 + (1:Int)))) rfl rfl rfl ?_
     refine wv (.int .i64 (IntKind.i64.wrap (z1079 + (1:Int)))) rfl rfl rfl ?_
     refine wl_nil (then_n ?_)
     replace hst := hst.pull6
     replace hst := hst.pull6
     replace hst := hst.pull2
     replace hst := hst.pull6
     replace hst := hst.pull6
     replace hst := hst.pull5
     replace hst := hst.keep6
     obtain rfl := some_inj hm
     exact ⟨_, Nat.lt_succ_self _, (z1075 ++ ([t1094])), t1089.2, (IntKind.i64.wrap (z1079 + (1:Int))), v1105, _, hx1086, ((fr_upd (t := 0) (v := p0) rfl).trans ((fr_upd (t := 2) (v := .pointer (some ⟨b684, 0, none⟩)) rfl).trans ((fr_upd (t := 3) (v := .pointer (some ⟨b712, 0, none⟩)) rfl).trans ((fr_upd (t := 43) (v := .int .i64 t999.1) rfl).trans ((fr_upd (t := 44) (v := .int .i64 (IntKind.i64.wrap (z1079 + (1:Int)))) rfl).trans rfl))))), hst⟩
    ·skip
     replace hm := bif_f hc1088 hm
     refine wp_iff (congrArg Value.bool hc1088) ?_
     refine wp_exit (then_x (then_x ?_))
     replace hm := inr_up hm hx1086
     refine blk_x (then_n ?_)
     replace hst := hst.pull5
     replace hst := hst.pull5
     replace hst := hst.pull5
     replace hst := hst.pull5
     replace hst := hst.pull5
     replace hst := hst.keep6
     obtain rfl := some_inj hm
     exact ⟨z1078, z1075, v1076, _, hx1117, ((fr_upd (t := 0) (v := p0) rfl).trans ((fr_upd (t := 2) (v := .pointer (some ⟨b684, 0, none⟩)) rfl).trans ((fr_upd (t := 3) (v := .pointer (some ⟨b712, 0, none⟩)) rfl).trans rfl))), hst⟩
   ·skip
    clear hst
    rintro _ w1118 ⟨z1110, z1113, v1112, σ1114, hm, rfl, hst⟩
    dsimp only [locks_Read_j4] at hm
    refine wp_seq (wp_region_lit ?_)
    refine wv (p0) rfl rfl rfl ?_
    obtain ⟨t1119, ht1120, hm⟩ := bind_some hm
    refine wl_call rfl rfl (x_call Try.call43 rfl (vs := [p0, .int .i64 (257:Int)]) rfl) ?_
    refine (octet_Reader_Bytes_ref hst.to1 ht1120).mono ?_
    rintro _ w1121 ⟨v1124, rfl, hst⟩
    refine ⟨_, rfl, ?_⟩
    replace hst := hst.of2
    refine wv (.pointer (some ⟨b712, 6, none⟩)) rfl rfl (x_field rfl Try.underlying34 rfl Try.sizeOf22 rfl) ?_
    replace hst := hst.pull3
    obtain ⟨w1126, hr1127, hst⟩ := hst.boxStore1 (P := Try.prog) (t := 22) (cs' := [.int .u64 t689.1, .int .u64 t694.1, .int .u64 t699.1, v832, v992, v1112, v1124]) 6 v1124 (one_of_sliceV hst.sv1) Try.sizeOf22 rfl rfl
    refine wl_unit rfl rfl (x_unit hr1127) ?_
    refine wl_nil (then_n (wp_seq (wp_region_lit ?_)))
    refine wv (.agg #[.int .u64 t689.1, .int .u64 t694.1, .int .u64 t699.1, v832, v992, v1112, v1124]) rfl rfl (x_loadN (cs := [.int .u64 t689.1, .int .u64 t694.1, .int .u64 t699.1, v832, v992, v1112, v1124]) rfl Try.isAgg34 Try.sizeOf34 (hst.bcs0 0 rfl)) ?_
    replace hst := hst.pull3
    obtain ⟨w1128, hr1129, hst⟩ := hst.boxStore (P := Try.prog) (t := 34) (cs' := [.int .u64 t689.1, .int .u64 t694.1, .int .u64 t699.1, v832, v992, v1112, v1124]) 0 (.agg #[.int .u64 t689.1, .int .u64 t694.1, .int .u64 t699.1, v832, v992, v1112, v1124]) Try.sizeOf34 (Nat.le_of_ble_eq_true rfl) (ones_cons rfl (ones_cons rfl (ones_cons rfl (ones_cons (one_of_sliceV hst.sv4) (ones_cons (one_of_sliceV hst.sv5) (ones_cons (one_of_sliceV hst.sv6) (ones_cons (one_of_sliceV hst.sv2) ones_nil))))))) (by kernel_rfl)
    refine wl_unit rfl rfl (x_unit hr1129) ?_
    refine wl_nil (then_n (wp_ret ?_))
    obtain rfl := some_inj hm
    refine post_ret (vs := [.agg #[.int .u64 t689.1, .int .u64 t694.1, .int .u64 t699.1, v832, v992, v1112, v1124]]) Try.results53 (rvs_cons (rv_cell (cs := [.int .u64 t689.1, .int .u64 t694.1, .int .u64 t699.1, v832, v992, v1112, v1124]) rfl Try.isAgg34 Try.sizeOf34 (hst.bcs0 0 rfl)) rvs_nil) ?_
    replace hst := hst.pull3
    replace hst := hst.pull3
    replace hst := hst.pull6
    replace hst := hst.pull6
    replace hst := hst.pull6
    exact ⟨v832, v992, v1112, v1124, rfl, hst.keep5⟩

theorem octet_Reader_Flag_ref {w0 w : World} {I : HL} {R : SP} {a0 : octet_Reader} {p0 : Value}  (hst : St w0 w I [at_octet_Reader p0 a0] R) {r : (Bool × octet_Reader)} (hm : octet_Reader_Flag a0 = some r) :
  Calls Try.prog 42 #[p0] w fun e w' => e = .returned (.bool r.1) ∧ St w0 w' I [at_octet_Reader p0 r.2] R := by
 unfold octet_Reader_Flag at hm
 refine calls_start (args := [p0]) Try.func42 rfl Try.ntmps42 (Nat.le_of_ble_eq_true rfl) ?_
 refine wp_seq (wp_region_lit ?_)
 refine wv (.bool false) rfl rfl rfl ?_
 refine wl_nil (then_n (wp_seq (wp_region_lit ?_)))
 refine wv (p0) rfl rfl rfl ?_
 obtain ⟨t316, ht317, hm⟩ := bind_some hm
 refine wl_call rfl rfl (x_call Try.call40 rfl (vs := [p0, .int .i64 (1:Int)]) rfl) ?_
 refine (octet_Reader_Num_ref hst.to1 ht317).mono ?_
 rintro _ w318 ⟨rfl, hst⟩
 refine ⟨_, rfl, ?_⟩
 replace hst := hst.of1
 refine wv (.int .u64 t316.1) rfl rfl rfl ?_
 refine wl_nil (then_n (wp_seq (wp_seq (wp_region_lit ?_))))
 refine wv (.int .u64 t316.1) rfl rfl rfl ?_
 refine wv (.bool (decide (t316.1 > (1:Int)))) rfl rfl rfl ?_
 refine wl_nil (then_n ?_)
 refine bsplit (decide (t316.1 > (1:Int))) (fun hc321 => ?_) (fun hc321 => ?_)
 ·skip
  replace hm := bif_t hc321 hm
  refine wp_ift (congrArg Value.bool hc321) ?_
  refine wp_seq (wp_region_lit ?_)
  refine wv (p0) rfl rfl rfl ?_
  obtain ⟨t322, ht323, hm⟩ := bind_some hm
  refine wl_call rfl rfl (x_call Try.call66 rfl (vs := [p0]) rfl) ?_
  refine (octet_Reader_spoil_ref hst.to1 ht323).mono ?_
  rintro _ w324 ⟨rfl, hst⟩
  refine ⟨_, rfl, ?_⟩
  replace hst := hst.of1
  refine wl_nil (then_n (wp_seq (wp_region_lit ?_)))
  refine wv (.bool false) rfl rfl rfl ?_
  refine wl_nil (then_n (wp_ret (then_r ?_)))
  obtain rfl := some_inj hm
  refine post_ret (vs := [.bool false]) Try.results42 (rvs_cons (rv_tmp rfl) rvs_nil) ?_
  exact ⟨rfl, hst.keep1⟩
 ·skip
  replace hm := bif_f hc321 hm
  refine wp_iff (congrArg Value.bool hc321) ?_
  refine wp_skip (then_n (wp_seq (wp_region_lit ?_)))
  refine wv (.int .u64 t316.1) rfl rfl rfl ?_
  refine wv (.bool (t316.1 == (1:Int))) rfl rfl rfl ?_
  refine wv (.bool (t316.1 == (1:Int))) rfl rfl rfl ?_
  refine wl_nil (then_n (wp_ret ?_))
  obtain rfl := some_inj hm
  refine post_ret (vs := [.bool (t316.1 == (1:Int))]) Try.results42 (rvs_cons (rv_tmp rfl) rvs_nil) ?_
  exact ⟨rfl, hst.keep1⟩

theorem command_readWrites_ref {w0 w : World} {I : HL} {R : SP} {a0 : octet_Reader} {p0 : Value}  (hst : St w0 w I [at_octet_Reader p0 a0] R) {r : ((List api_Write) × octet_Reader)} (hm : command_readWrites a0 = some r) :
  Calls Try.prog 54 #[p0] w fun e w' => ∃ (I' : HL) (q0_0 : Value), e = .returned (q0_0) ∧ I.le I' ∧ St w0 w' I' [ownS ty_api_Write q0_0 r.1, at_octet_Reader p0 r.2] R := by
 unfold command_readWrites at hm
 refine calls_start (args := [p0]) Try.func54 rfl Try.ntmps54 (Nat.le_of_ble_eq_true rfl) ?_
 have hI0 := HL.le.refl I
 refine wp_seq (wp_region_lit ?_)
 refine wv ((.slice none 0 0)) rfl rfl rfl ?_
 refine wl_nil (then_n (wp_seq (wp_region_lit ?_)))
 refine wv ((.slice none 0 0)) rfl rfl rfl ?_
 refine wl_nil (then_n (wp_seq (wp_seq (wp_region_lit ?_))))
 refine wv (p0) rfl rfl rfl ?_
 obtain ⟨t462, ht463, hm⟩ := bind_some hm
 refine wl_call rfl rfl (x_call Try.call41 rfl (vs := [p0, .int .i64 (32:Int)]) rfl) ?_
 refine (octet_Reader_Count_ref hst.to1 ht463).mono ?_
 rintro _ w464 ⟨rfl, hst⟩
 refine ⟨_, rfl, ?_⟩
 replace hst := hst.of1
 refine wv (.int .i64 (0:Int)) rfl rfl rfl ?_
 refine wl_nil (then_n (wp_block ?_))
 replace hst := hst.own_nil ty_api_Write
 obtain ⟨n590, hm⟩ := loopO_some hm
 refine wp_loop_n (fun n a w => ∃ (I588 : HL) (z583 : octet_Reader) (z584 : (List api_Write)) (z587 : Int) (v585 : Value) (σ589 : Nat → Value), loopN (command_readWrites_l0 t462) n (z583, z584, z587) = some r ∧ a = Fr 21 (upd (upd (upd (upd σ589 0 (p0)) 3 (v585)) 5 (.int .i64 t462.1)) 6 (.int .i64 z587)) ∧ I.le I588 ∧ St w0 w I588 [ownS ty_api_Write v585 z584, at_octet_Reader p0 z583] R) n590 ⟨_, t462.2, [], (0:Int), (.slice none 0 0), _, hm, ((fr_upd (t := 0) (v := p0) rfl).trans ((fr_upd (t := 3) (v := (.slice none 0 0)) rfl).trans ((fr_upd (t := 5) (v := .int .i64 t462.1) rfl).trans ((fr_upd (t := 6) (v := .int .i64 (0:Int)) rfl).trans rfl)))), (HL.le.refl _), hst⟩ ?_
 rintro n596 _ w591 ⟨I588, z583, z584, z587, v585, σ589, hm, rfl, hL592, hst⟩
 obtain ⟨n593, y594, rfl, hm, hx595⟩ := loopN_some hm
 dsimp only [command_readWrites_l0] at hm
 replace hI0 := hI0.trans hL592
 refine wp_seq (wp_region_lit ?_)
 refine wv (.bool (decide (z587 < t462.1))) rfl rfl rfl ?_
 refine wl_nil (then_n (wp_seq ?_))
 refine bsplit (decide (z587 < t462.1)) (fun hc597 => ?_) (fun hc597 => ?_)
 ·skip
  replace hm := bif_t hc597 hm
  refine wp_ift (congrArg Value.bool hc597) ?_
  refine wp_skip (then_n (wp_seq (wp_block (wp_region_lit ?_))))
  refine wv (v585) rfl rfl rfl ?_
  refine wv (p0) rfl rfl rfl ?_
  replace hst := hst.pull1
  obtain ⟨t598, ht599, hm⟩ := bind_some hm
  refine wl_call rfl rfl (x_call Try.call40 rfl (vs := [p0, .int .i64 (8:Int)]) rfl) ?_
  refine (octet_Reader_Num_ref hst.to1 ht599).mono ?_
  rintro _ w600 ⟨rfl, hst⟩
  refine ⟨_, rfl, ?_⟩
  replace hst := hst.of1
  obtain ⟨t603, ht604, hm⟩ := bind_some hm
  refine wl_call rfl rfl (x_call Try.call44 rfl (vs := [.int .u64 t598.1]) rfl) ?_
  refine (number_Back_ref hst.to0 ht604).mono ?_
  rintro _ w605 ⟨rfl, hst⟩
  refine ⟨_, rfl, ?_⟩
  replace hst := hst.of0
  refine wv (p0) rfl rfl rfl ?_
  obtain ⟨t608, ht609, hm⟩ := bind_some hm
  refine wl_call rfl rfl (x_call Try.call42 rfl (vs := [p0]) rfl) ?_
  refine (octet_Reader_Flag_ref hst.to1 ht609).mono ?_
  rintro _ w610 ⟨rfl, hst⟩
  refine ⟨_, rfl, ?_⟩
  replace hst := hst.of1
  refine wv (p0) rfl rfl rfl ?_
  obtain ⟨t613, ht614, hm⟩ := bind_some hm
  refine wl_call rfl rfl (x_call Try.call43 rfl (vs := [p0, .int .i64 (256:Int)]) rfl) ?_
  refine (octet_Reader_Bytes_ref hst.to1 ht614).mono ?_
  rintro _ w615 ⟨v618, rfl, hst⟩
  refine ⟨_, rfl, ?_⟩
  replace hst := hst.of2
  refine wv (.agg #[.float .f64 t603, .bool t608.1, v618]) rfl rfl (by obtain ⟨_, _, hv_, _⟩ := hst.sv0; rw [hv_]; kernel_rfl) ?_
  obtain ⟨I622, hI623, f624, hst⟩ := hst.own_fix
  replace hI0 := hI0.trans hI623
  replace hL592 := hL592.trans hI623
  obtain ⟨b625, w626, ew627, eb628, hst⟩ := hst.lits (E := ty_api_Write) (xs := [({ At := t603, Del := t608.1, Val := t613.1 } : api_Write)]) [[.float .f64 t603, .bool t608.1, v618]] 73 1 rfl (Reps.cons ⟨_, rfl, f624, one_of_sliceV (ro_sliceV f624)⟩ Reps.nil)
  refine wl_run (v := (.slice (some ⟨b625, 0, none⟩) 1 1)) (w' := w626) rfl rfl (x_als (by kernel_rfl) ew627 eb628) ?_
  obtain ⟨hg630, hm⟩ := gd_some hm
  replace hst := hst.pull2
  obtain ⟨v631, w632, hr633, hst⟩ := run_append elem_35 Try.underlying35 hst hst.src1 (room_of hg630 rfl) 35
  refine wl_run (v := v631) (w' := w632) rfl rfl (x_append rfl rfl hr633) ?_
  refine wv (v631) rfl rfl rfl ?_
  refine wl_nil (blk_n (then_n (wp_region_lit ?_)))
  refine wv (.int .i64 (IntKind.i64.wrap (z587 + (1:Int)))) rfl rfl rfl ?_
  refine wv (.int .i64 (IntKind.i64.wrap (z587 + (1:Int)))) rfl rfl rfl ?_
  refine wl_nil (then_n ?_)
  replace hst := hst.pull2
  replace hst := hst.pull1
  replace hst := hst.keep2
  obtain rfl := some_inj hm
  exact ⟨_, Nat.lt_succ_self _, _, t613.2, (z584 ++ ([({ At := t603, Del := t608.1, Val := t613.1 } : api_Write)])), (IntKind.i64.wrap (z587 + (1:Int))), v631, _, hx595, ((fr_upd (t := 0) (v := p0) rfl).trans ((fr_upd (t := 3) (v := v631) rfl).trans ((fr_upd (t := 5) (v := .int .i64 t462.1) rfl).trans ((fr_upd (t := 6) (v := .int .i64 (IntKind.i64.wrap (z587 + (1:Int)))) rfl).trans rfl)))), hL592, hst⟩
 ·skip
  replace hm := bif_f hc597 hm
  refine wp_iff (congrArg Value.bool hc597) ?_
  refine wp_exit (then_x (then_x ?_))
  replace hm := inr_up hm hx595
  refine blk_x (then_n (wp_seq (wp_region_lit ?_)))
  refine wv (v585) rfl rfl rfl ?_
  refine wv (v585) rfl rfl rfl ?_
  refine wl_nil (then_n (wp_ret ?_))
  obtain rfl := some_inj hm
  refine post_ret (vs := [v585]) Try.results54 (rvs_cons (rv_tmp rfl) rvs_nil) ?_
  replace hst := hst.pull1
  replace hst := hst.pull1
  exact ⟨_, v585, rfl, hI0, hst.keep2⟩

theorem command_ReadReply_ref {w0 w : World} {I : HL} {R : SP} {a0 : octet_Reader} {p0 : Value}  (hst : St w0 w I [at_octet_Reader p0 a0] R) {r : (api_Reply × octet_Reader)} (hm : command_ReadReply a0 = some r) :
  Calls Try.prog 16 #[p0] w fun e w' => ∃ (I' : HL) (q0_0 : Value) (q0_1 : Value), e = .returned (.agg #[.int .i64 r.1.E, .int .u64 r.1.Epoch, .int .u64 r.1.Index, q0_0, q0_1]) ∧ I.le I' ∧ St w0 w' I' [ownS ty_api_Got q0_0 r.1.Gots, ownS (tySl ty_api_Pair) q0_1 r.1.Scans, at_octet_Reader p0 r.2] R := by
 unfold command_ReadReply at hm
 refine calls_start (args := [p0]) Try.func16 rfl Try.ntmps16 (Nat.le_of_ble_eq_true rfl) ?_
 have hI0 := HL.le.refl I
 refine wp_seq (wp_region_lit ?_)
 obtain ⟨b1412, w1413, ew1414, eb1415, hst⟩ := hst.box [.int .i64 (0:Int), .int .u64 (0:Int), .int .u64 (0:Int), (.slice none 0 0), (.slice none 0 0)] 39
 refine wl_run (v := .pointer (some ⟨b1412, 0, none⟩)) (w' := w1413) rfl rfl (x_al (by kernel_rfl) ew1414 eb1415) ?_
 refine wl_nil (then_n (wp_seq (wp_region_lit ?_)))
 refine wv (p0) rfl rfl rfl ?_
 replace hst := hst.pull1
 obtain ⟨t1417, ht1418, hm⟩ := bind_some hm
 refine wl_call rfl rfl (x_call Try.call40 rfl (vs := [p0, .int .i64 (1:Int)]) rfl) ?_
 refine (octet_Reader_Num_ref hst.to1 ht1418).mono ?_
 rintro _ w1419 ⟨rfl, hst⟩
 refine ⟨_, rfl, ?_⟩
 replace hst := hst.of1
 refine wv (.int .i64 (IntKind.i64.wrap t1417.1)) rfl rfl (by kernel_rfl) ?_
 refine wv (p0) rfl rfl rfl ?_
 obtain ⟨t1422, ht1423, hm⟩ := bind_some hm
 refine wl_call rfl rfl (x_call Try.call40 rfl (vs := [p0, .int .i64 (8:Int)]) rfl) ?_
 refine (octet_Reader_Num_ref hst.to1 ht1423).mono ?_
 rintro _ w1424 ⟨rfl, hst⟩
 refine ⟨_, rfl, ?_⟩
 replace hst := hst.of1
 refine wv (p0) rfl rfl rfl ?_
 obtain ⟨t1427, ht1428, hm⟩ := bind_some hm
 refine wl_call rfl rfl (x_call Try.call40 rfl (vs := [p0, .int .i64 (8:Int)]) rfl) ?_
 refine (octet_Reader_Num_ref hst.to1 ht1428).mono ?_
 rintro _ w1429 ⟨rfl, hst⟩
 refine ⟨_, rfl, ?_⟩
 replace hst := hst.of1
 refine wv (.agg #[.int .i64 (IntKind.i64.wrap t1417.1), .int .u64 t1422.1, .int .u64 t1427.1, (.slice none 0 0), (.slice none 0 0)]) rfl rfl (by kernel_rfl) ?_
 obtain ⟨b1436, w1437, ew1438, eb1439, hst⟩ := hst.box [.int .i64 (0:Int), .int .u64 (0:Int), .int .u64 (0:Int), (.slice none 0 0), (.slice none 0 0)] 39
 refine wl_run (v := .pointer (some ⟨b1436, 0, none⟩)) (w' := w1437) rfl rfl (x_al (by kernel_rfl) ew1438 eb1439) ?_
 obtain ⟨w1441, hr1442, hst⟩ := hst.boxStore (P := Try.prog) (t := 39) (cs' := [.int .i64 (IntKind.i64.wrap t1417.1), .int .u64 t1422.1, .int .u64 t1427.1, (.slice none 0 0), (.slice none 0 0)]) 0 (.agg #[.int .i64 (IntKind.i64.wrap t1417.1), .int .u64 t1422.1, .int .u64 t1427.1, (.slice none 0 0), (.slice none 0 0)]) Try.sizeOf39 (Nat.le_of_ble_eq_true rfl) (ones_cons rfl (ones_cons rfl (ones_cons rfl (ones_cons rfl (ones_cons rfl ones_nil))))) (by kernel_rfl)
 refine wl_unit rfl rfl (x_unit hr1442) ?_
 refine wl_nil (then_n ?_)
 obtain ⟨y1590, hm, hx1591⟩ := bind_some hm
 refine wp_cut (fun a w => ∃ (I1587 : HL) (z1583 : octet_Reader) (z1586 : (List api_Got)) (v1585 : Value) (σ1588 : Nat → Value), (command_ReadReply_j0 t1417 t1422 t1427) (z1583, z1586) = some r ∧ a = Fr 54 (upd (upd (upd σ1588 0 (p0)) 2 (.pointer (some ⟨b1412, 0, none⟩))) 3 (.pointer (some ⟨b1436, 0, none⟩))) ∧ I.le I1587 ∧ St w0 w I1587 [at_octet_Reader p0 z1583, cells b1412 [.int .i64 (0:Int), .int .u64 (0:Int), .int .u64 (0:Int), (.slice none 0 0), (.slice none 0 0)], cells b1436 [.int .i64 (IntKind.i64.wrap t1417.1), .int .u64 t1422.1, .int .u64 t1427.1, v1585, (.slice none 0 0)], ownS ty_api_Got v1585 z1586] R) ?_ ?_
 ·skip
  have hL1592 := HL.le.refl I
  refine wp_seq (wp_region_lit ?_)
  refine wv (p0) rfl rfl rfl ?_
  replace hst := hst.pull1
  obtain ⟨t1443, ht1444, hm⟩ := bind_some hm
  refine wl_call rfl rfl (x_call Try.call41 rfl (vs := [p0, .int .i64 (32:Int)]) rfl) ?_
  refine (octet_Reader_Count_ref hst.to1 ht1444).mono ?_
  rintro _ w1445 ⟨rfl, hst⟩
  refine ⟨_, rfl, ?_⟩
  replace hst := hst.of1
  refine wv (.int .i64 (0:Int)) rfl rfl rfl ?_
  refine wl_nil (then_n (wp_block ?_))
  replace hst := hst.own_nil ty_api_Got
  obtain ⟨n1547, hm⟩ := loopO_some hm
  refine wp_loop_n (fun n a w => ∃ (I1545 : HL) (z1540 : (List api_Got)) (z1543 : octet_Reader) (z1544 : Int) (v1541 : Value) (σ1546 : Nat → Value), loopN (command_ReadReply_l1 t1443) n (z1540, z1543, z1544) = some y1590 ∧ a = Fr 54 (upd (upd (upd (upd (upd σ1546 0 (p0)) 2 (.pointer (some ⟨b1412, 0, none⟩))) 3 (.pointer (some ⟨b1436, 0, none⟩))) 14 (.int .i64 t1443.1)) 15 (.int .i64 z1544)) ∧ I.le I1545 ∧ St w0 w I1545 [ownS ty_api_Got v1541 z1540, at_octet_Reader p0 z1543, cells b1436 [.int .i64 (IntKind.i64.wrap t1417.1), .int .u64 t1422.1, .int .u64 t1427.1, v1541, (.slice none 0 0)], cells b1412 [.int .i64 (0:Int), .int .u64 (0:Int), .int .u64 (0:Int), (.slice none 0 0), (.slice none 0 0)]] R) n1547 ⟨_, [], t1443.2, (0:Int), (.slice none 0 0), _, hm, ((fr_upd (t := 0) (v := p0) rfl).trans ((fr_upd (t := 2) (v := .pointer (some ⟨b1412, 0, none⟩)) rfl).trans ((fr_upd (t := 3) (v := .pointer (some ⟨b1436, 0, none⟩)) rfl).trans ((fr_upd (t := 14) (v := .int .i64 t1443.1) rfl).trans ((fr_upd (t := 15) (v := .int .i64 (0:Int)) rfl).trans rfl))))), (HL.le.refl _), hst⟩ ?_
  rintro n1553 _ w1548 ⟨I1545, z1540, z1543, z1544, v1541, σ1546, hm, rfl, hL1549, hst⟩
  obtain ⟨n1550, y1551, rfl, hm, hx1552⟩ := loopN_some hm
  dsimp only [command_ReadReply_l1] at hm
  replace hI0 := hI0.trans hL1549
  replace hL1592 := hL1592.trans hL1549
  refine wp_seq (wp_region_lit ?_)
  refine wv (.bool (decide (z1544 < t1443.1))) rfl rfl rfl ?_
  refine wl_nil (then_n (wp_seq ?_))
  refine bsplit (decide (z1544 < t1443.1)) (fun hc1554 => ?_) (fun hc1554 => ?_)
  ·skip
   replace hm := bif_t hc1554 hm
   refine wp_ift (congrArg Value.bool hc1554) ?_
   refine wp_skip (then_n (wp_seq (wp_block ?_)))
   refine wp_region_St hst 11 [0, 1, 2, 3, 4, 5, 6, 7, 8, 9, 10] [0, 1, 0, 4, 0, 28, 60, 124, 255, 511, 1023] [] rfl (by kernel_rfl) (by kernel_rfl) Try.mixed (by kernel_rfl) ?_
   refine wsr (.pointer (some ⟨b1436, 3, none⟩)) 0 rfl rfl rfl (by kernel_rfl) (fun w hst => x_field rfl Try.underlying39 rfl Try.sizeOf36 rfl) ?_
   refine wsr (v1541) 1 rfl rfl rfl (by kernel_rfl) (fun w hst => x_load rfl Try.isAgg36 (hst.bc2 rfl)) ?_
   refine wsr (p0) 2 rfl rfl rfl (by kernel_rfl) (fun w hst => rfl) ?_
   refine wsr (p0) 4 rfl rfl rfl (by kernel_rfl) (fun w hst => rfl) ?_
   refine ws_e1 3 (by kernel_rfl) ?_
   refine nxe [5, 6, 7, 8, 9, 10] (by kernel_rfl) rfl rfl ?_
   clear hst
   intro w hst
   replace hst := hst.pull1
   obtain ⟨t1555, ht1556, hm⟩ := bind_some hm
   refine we_call rfl (x_call Try.call42 rfl (vs := [p0]) rfl) ?_
   refine (octet_Reader_Flag_ref hst.to1 ht1556).mono ?_
   rintro _ w1557 ⟨rfl, hst⟩
   refine ⟨_, rfl, ?_⟩
   replace hst := hst.of1
   refine ws_next (pend' := [(4, p0), (1, v1541), (0, .pointer (some ⟨b1436, 3, none⟩))]) hst (by kernel_rfl) (pkr rfl rfl (fun w hst => rfl) (pkr rfl rfl (fun w hst => x_load rfl Try.isAgg36 (hst.bc2 rfl)) (pkr rfl rfl (fun w hst => x_field rfl Try.underlying39 rfl Try.sizeOf36 rfl) pk_nil))) ?_
   refine ws_e1 5 (by kernel_rfl) ?_
   refine nxe [6, 7, 8, 9, 10] (by kernel_rfl) rfl rfl ?_
   clear hst
   intro w hst
   obtain ⟨t1560, ht1561, hm⟩ := bind_some hm
   refine we_call rfl (x_call Try.call43 rfl (vs := [p0, .int .i64 (256:Int)]) rfl) ?_
   refine (octet_Reader_Bytes_ref hst.to1 ht1561).mono ?_
   rintro _ w1562 ⟨v1565, rfl, hst⟩
   refine ⟨_, rfl, ?_⟩
   replace hst := hst.of2
   refine ws_next (pend' := [(1, v1541), (0, .pointer (some ⟨b1436, 3, none⟩))]) hst (by kernel_rfl) (pkr rfl rfl (fun w hst => x_load rfl Try.isAgg36 (hst.bc3 rfl)) (pkr rfl rfl (fun w hst => x_field rfl Try.underlying39 rfl Try.sizeOf36 rfl) pk_nil)) ?_
   refine wsr (.agg #[.bool t1555.1, v1565]) 6 rfl rfl rfl (by kernel_rfl) (fun w hst => by obtain ⟨_, _, hv_, _⟩ := hst.sv0; rw [hv_]; kernel_rfl) ?_
   refine ws_e1 7 (by kernel_rfl) ?_
   refine nxe [8, 9, 10] (by kernel_rfl) rfl rfl ?_
   clear hst
   intro w hst
   obtain ⟨I1569, hI1570, f1571, hst⟩ := hst.own_fix
   replace hI0 := hI0.trans hI1570
   replace hL1592 := hL1592.trans hI1570
   replace hL1549 := hL1549.trans hI1570
   obtain ⟨b1572, w1573, ew1574, eb1575, hst⟩ := hst.lits (E := ty_api_Got) (xs := [({ Has := t1555.1, Val := t1560.1 } : api_Got)]) [[.bool t1555.1, v1565]] 51 1 rfl (Reps.cons ⟨_, rfl, f1571, one_of_sliceV (ro_sliceV f1571)⟩ Reps.nil)
   refine we_run (v := (.slice (some ⟨b1572, 0, none⟩) 1 1)) (w' := w1573) rfl (x_als (by kernel_rfl) ew1574 eb1575) ?_
   refine ws_next (pend' := [(1, v1541), (0, .pointer (some ⟨b1436, 3, none⟩))]) hst (by kernel_rfl) (pkr rfl rfl (fun w hst => x_load rfl Try.isAgg36 (hst.bc3 rfl)) (pkr rfl rfl (fun w hst => x_field rfl Try.underlying39 rfl Try.sizeOf36 rfl) pk_nil)) ?_
   refine ws_e1 8 (by kernel_rfl) ?_
   refine nxe [9, 10] (by kernel_rfl) rfl rfl ?_
   clear hst
   intro w hst
   obtain ⟨hg1577, hm⟩ := gd_some hm
   replace hst := hst.pull2
   obtain ⟨v1578, w1579, hr1580, hst⟩ := run_append elem_36 Try.underlying36 hst hst.src1 (room_of hg1577 rfl) 36
   refine we_run (v := v1578) (w' := w1579) rfl (x_append rfl rfl hr1580) ?_
   refine ws_next (pend' := []) hst (by kernel_rfl) pk_nil ?_
   refine wsr (.pointer (some ⟨b1436, 3, none⟩)) 9 rfl rfl rfl (by kernel_rfl) (fun w hst => x_field rfl Try.underlying39 rfl Try.sizeOf36 rfl) ?_
   refine ws_e1 10 (by kernel_rfl) ?_
   refine nxe [] (by kernel_rfl) rfl rfl ?_
   clear hst
   intro w hst
   replace hst := hst.pull3
   obtain ⟨w1581, hr1582, hst⟩ := hst.boxStore1 (P := Try.prog) (t := 36) (cs' := [.int .i64 (IntKind.i64.wrap t1417.1), .int .u64 t1422.1, .int .u64 t1427.1, v1578, (.slice none 0 0)]) 3 v1578 (one_of_sliceV hst.sv1) Try.sizeOf36 rfl rfl
   refine we_unit rfl (x_unit hr1582) ?_
   refine ws_next (pend' := []) hst (by kernel_rfl) pk_nil ?_
   refine ws_nil ?_
   intro w hst
   refine blk_n (then_n (wp_region_lit ?_))
   refine wv (.int .i64 (IntKind.i64.wrap (z1544 + (1:Int)))) rfl rfl rfl ?_
   refine wv (.int .i64 (IntKind.i64.wrap (z1544 + (1:Int)))) rfl rfl rfl ?_
   refine wl_nil (then_n ?_)
   replace hst := hst.pull4
   replace hst := hst.pull1
   replace hst := hst.pull4
   replace hst := hst.pull3
   replace hst := hst.keep4
   obtain rfl := some_inj hm
   exact ⟨_, Nat.lt_succ_self _, _, (z1540 ++ ([({ Has := t1555.1, Val := t1560.1 } : api_Got)])), t1560.2, (IntKind.i64.wrap (z1544 + (1:Int))), v1578, _, hx1552, ((fr_upd (t := 0) (v := p0) rfl).trans ((fr_upd (t := 2) (v := .pointer (some ⟨b1412, 0, none⟩)) rfl).trans ((fr_upd (t := 3) (v := .pointer (some ⟨b1436, 0, none⟩)) rfl).trans ((fr_upd (t := 14) (v := .int .i64 t1443.1) rfl).trans ((fr_upd (t := 15) (v := .int .i64 (IntKind.i64.wrap (z1544 + (1:Int)))) rfl).trans rfl))))), hL1549, hst⟩
  ·skip
   replace hm := bif_f hc1554 hm
   refine wp_iff (congrArg Value.bool hc1554) ?_
   refine wp_exit (then_x (then_x ?_))
   replace hm := inr_up hm hx1552
   refine blk_x (then_n ?_)
   replace hst := hst.pull2
   replace hst := hst.pull3
   replace hst := hst.pull3
   replace hst := hst.keep4
   obtain rfl := some_inj hm
   exact ⟨_, z1543, z1540, v1541, _, hx1591, ((fr_upd (t := 0) (v := p0) rfl).trans ((fr_upd (t := 2) (v := .pointer (some ⟨b1412, 0, none⟩)) rfl).trans ((fr_upd (t := 3) (v := .pointer (some ⟨b1436, 0, none⟩)) rfl).trans rfl))), hL1592, hst⟩
 ·skip
  clear hst
  rintro _ w1593 ⟨I1587, z1583, z1586, v1585, σ1588, hm, rfl, hL1589, hst⟩
  dsimp only [command_ReadReply_j0] at hm
  replace hI0 := hI0.trans hL1589
  refine wp_seq (wp_seq (wp_region_lit ?_))
  refine wv (p0) rfl rfl rfl ?_
  obtain ⟨t1594, ht1595, hm⟩ := bind_some hm
  refine wl_call rfl rfl (x_call Try.call41 rfl (vs := [p0, .int .i64 (32:Int)]) rfl) ?_
  refine (octet_Reader_Count_ref hst.to1 ht1595).mono ?_
  rintro _ w1596 ⟨rfl, hst⟩
  refine ⟨_, rfl, ?_⟩
  replace hst := hst.of1
  refine wv (.int .i64 (0:Int)) rfl rfl rfl ?_
  refine wl_nil (then_n (wp_block ?_))
  replace hst := hst.own_nil (tySl ty_api_Pair)
  obtain ⟨n2151, hm⟩ := loopO_some hm
  refine wp_loop_n (fun n a w => ∃ (I2149 : HL) (z2144 : (List (List api_Pair))) (z2147 : octet_Reader) (z2148 : Int) (v2145 : Value) (σ2150 : Nat → Value), loopN (command_ReadReply_l2 t1594 t1417 t1422 t1427 z1586) n (z2144, z2147, z2148) = some r ∧ a = Fr 54 (upd (upd (upd (upd (upd σ2150 0 (p0)) 2 (.pointer (some ⟨b1412, 0, none⟩))) 3 (.pointer (some ⟨b1436, 0, none⟩))) 29 (.int .i64 t1594.1)) 30 (.int .i64 z2148)) ∧ I1587.le I2149 ∧ St w0 w I2149 [ownS (tySl ty_api_Pair) v2145 z2144, at_octet_Reader p0 z2147, cells b1412 [.int .i64 (0:Int), .int .u64 (0:Int), .int .u64 (0:Int), (.slice none 0 0), (.slice none 0 0)], cells b1436 [.int .i64 (IntKind.i64.wrap t1417.1), .int .u64 t1422.1, .int .u64 t1427.1, v1585, v2145], ownS ty_api_Got v1585 z1586] R) n2151 ⟨_, [], t1594.2, (0:Int), (.slice none 0 0), _, hm, ((fr_upd (t := 0) (v := p0) rfl).trans ((fr_upd (t := 2) (v := .pointer (some ⟨b1412, 0, none⟩)) rfl).trans ((fr_upd (t := 3) (v := .pointer (some ⟨b1436, 0, none⟩)) rfl).trans ((fr_upd (t := 29) (v := .int .i64 t1594.1) rfl).trans ((fr_upd (t := 30) (v := .int .i64 (0:Int)) rfl).trans rfl))))), (HL.le.refl _), hst⟩ ?_
  rintro n2157 _ w2152 ⟨I2149, z2144, z2147, z2148, v2145, σ2150, hm, rfl, hL2153, hst⟩
  obtain ⟨n2154, y2155, rfl, hm, hx2156⟩ := loopN_some hm
  dsimp only [command_ReadReply_l2] at hm
  replace hI0 := hI0.trans hL2153
  refine wp_seq (wp_region_lit ?_)
  refine wv (.bool (decide (z2148 < t1594.1))) rfl rfl rfl ?_
  refine wl_nil (then_n (wp_seq ?_))
  refine bsplit (decide (z2148 < t1594.1)) (fun hc2158 => ?_) (fun hc2158 => ?_)
  ·skip
   replace hm := bif_t hc2158 hm
   refine wp_ift (congrArg Value.bool hc2158) ?_
   refine wp_skip (then_n (wp_seq (wp_block (wp_seq (wp_region_lit ?_)))))
   refine wv ((.slice none 0 0)) rfl rfl rfl ?_
   refine wl_nil (then_n ?_)
   obtain ⟨y2319, hm, hx2320⟩ := bind_some hm
   refine wp_cut (fun a w => ∃ (I2316 : HL) (z2312 : octet_Reader) (z2315 : (List api_Pair)) (v2314 : Value) (σ2317 : Nat → Value), (command_ReadReply_j3 z2144 z2148) (z2312, z2315) = some y2155 ∧ a = Fr 54 (upd (upd (upd (upd (upd (upd σ2317 0 (p0)) 2 (.pointer (some ⟨b1412, 0, none⟩))) 3 (.pointer (some ⟨b1436, 0, none⟩))) 4 (v2314)) 29 (.int .i64 t1594.1)) 30 (.int .i64 z2148)) ∧ I2149.le I2316 ∧ St w0 w I2316 [at_octet_Reader p0 z2312, cells b1412 [.int .i64 (0:Int), .int .u64 (0:Int), .int .u64 (0:Int), (.slice none 0 0), (.slice none 0 0)], cells b1436 [.int .i64 (IntKind.i64.wrap t1417.1), .int .u64 t1422.1, .int .u64 t1427.1, v1585, v2145], ownS ty_api_Got v1585 z1586, ownS (tySl ty_api_Pair) v2145 z2144, ownS ty_api_Pair v2314 z2315] R) ?_ ?_
   ·skip
    have hL2321 := HL.le.refl I2149
    refine wp_seq (wp_region_lit ?_)
    refine wv (p0) rfl rfl rfl ?_
    replace hst := hst.pull1
    obtain ⟨t2160, ht2161, hm⟩ := bind_some hm
    refine wl_call rfl rfl (x_call Try.call41 rfl (vs := [p0, .int .i64 (64:Int)]) rfl) ?_
    refine (octet_Reader_Count_ref hst.to1 ht2161).mono ?_
    rintro _ w2162 ⟨rfl, hst⟩
    refine ⟨_, rfl, ?_⟩
    replace hst := hst.of1
    refine wv (.int .i64 (0:Int)) rfl rfl rfl ?_
    refine wl_nil (then_n (wp_block ?_))
    replace hst := hst.own_nil ty_api_Pair
    obtain ⟨n2273, hm⟩ := loopO_some hm
    refine wp_loop_n (fun n a w => ∃ (I2271 : HL) (z2266 : octet_Reader) (z2267 : Int) (z2268 : (List api_Pair)) (v2269 : Value) (σ2272 : Nat → Value), loopN (command_ReadReply_l4 t2160) n (z2266, z2267, z2268) = some y2319 ∧ a = Fr 54 (upd (upd (upd (upd (upd (upd (upd (upd σ2272 0 (p0)) 2 (.pointer (some ⟨b1412, 0, none⟩))) 3 (.pointer (some ⟨b1436, 0, none⟩))) 4 (v2269)) 29 (.int .i64 t1594.1)) 30 (.int .i64 z2148)) 33 (.int .i64 t2160.1)) 34 (.int .i64 z2267)) ∧ I2149.le I2271 ∧ St w0 w I2271 [ownS ty_api_Pair v2269 z2268, at_octet_Reader p0 z2266, ownS (tySl ty_api_Pair) v2145 z2144, cells b1412 [.int .i64 (0:Int), .int .u64 (0:Int), .int .u64 (0:Int), (.slice none 0 0), (.slice none 0 0)], cells b1436 [.int .i64 (IntKind.i64.wrap t1417.1), .int .u64 t1422.1, .int .u64 t1427.1, v1585, v2145], ownS ty_api_Got v1585 z1586] R) n2273 ⟨_, t2160.2, (0:Int), [], (.slice none 0 0), _, hm, ((fr_upd (t := 0) (v := p0) rfl).trans ((fr_upd (t := 2) (v := .pointer (some ⟨b1412, 0, none⟩)) rfl).trans ((fr_upd (t := 3) (v := .pointer (some ⟨b1436, 0, none⟩)) rfl).trans ((fr_upd (t := 4) (v := (.slice none 0 0)) rfl).trans ((fr_upd (t := 29) (v := .int .i64 t1594.1) rfl).trans ((fr_upd (t := 30) (v := .int .i64 z2148) rfl).trans ((fr_upd (t := 33) (v := .int .i64 t2160.1) rfl).trans ((fr_upd (t := 34) (v := .int .i64 (0:Int)) rfl).trans rfl)))))))), (HL.le.refl _), hst⟩ ?_
    rintro n2279 _ w2274 ⟨I2271, z2266, z2267, z2268, v2269, σ2272, hm, rfl, hL2275, hst⟩
    obtain ⟨n2276, y2277, rfl, hm, hx2278⟩ := loopN_some hm
    dsimp only [command_ReadReply_l4] at hm
    replace hI0 := hI0.trans hL2275
    replace hL2153 := hL2153.trans hL2275
    replace hL2321 := hL2321.trans hL2275
    refine wp_seq (wp_region_lit ?_)
    refine wv (.bool (decide (z2267 < t2160.1))) rfl rfl rfl ?_
    refine wl_nil (then_n (wp_seq ?_))
    refine bsplit (decide (z2267 < t2160.1)) (fun hc2280 => ?_) (fun hc2280 => ?_)
    ·skip
     replace hm := bif_t hc2280 hm
     refine wp_ift (congrArg Value.bool hc2280) ?_
     refine wp_skip (then_n (wp_seq (wp_block (wp_region_lit ?_))))
     refine wv (v2269) rfl rfl rfl ?_
     refine wv (p0) rfl rfl rfl ?_
     replace hst := hst.pull1
     obtain ⟨t2281, ht2282, hm⟩ := bind_some hm
     refine wl_call rfl rfl (x_call Try.call40 rfl (vs := [p0, .int .i64 (8:Int)]) rfl) ?_
     refine (octet_Reader_Num_ref hst.to1 ht2282).mono ?_
     rintro _ w2283 ⟨rfl, hst⟩
     refine ⟨_, rfl, ?_⟩
     replace hst := hst.of1
     obtain ⟨t2286, ht2287, hm⟩ := bind_some hm
     refine wl_call rfl rfl (x_call Try.call44 rfl (vs := [.int .u64 t2281.1]) rfl) ?_
     refine (number_Back_ref hst.to0 ht2287).mono ?_
     rintro _ w2288 ⟨rfl, hst⟩
     refine ⟨_, rfl, ?_⟩
     replace hst := hst.of0
     refine wv (p0) rfl rfl rfl ?_
     obtain ⟨t2291, ht2292, hm⟩ := bind_some hm
     refine wl_call rfl rfl (x_call Try.call43 rfl (vs := [p0, .int .i64 (256:Int)]) rfl) ?_
     refine (octet_Reader_Bytes_ref hst.to1 ht2292).mono ?_
     rintro _ w2293 ⟨v2296, rfl, hst⟩
     refine ⟨_, rfl, ?_⟩
     replace hst := hst.of2
     refine wv (.agg #[.float .f64 t2286, v2296]) rfl rfl (by obtain ⟨_, _, hv_, _⟩ := hst.sv0; rw [hv_]; kernel_rfl) ?_
     obtain ⟨I2300, hI2301, f2302, hst⟩ := hst.own_fix
     replace hI0 := hI0.trans hI2301
     replace hL2153 := hL2153.trans hI2301
     replace hL2321 := hL2321.trans hI2301
     replace hL2275 := hL2275.trans hI2301
     obtain ⟨b2303, w2304, ew2305, eb2306, hst⟩ := hst.lits (E := ty_api_Pair) (xs := [({ At := t2286, Val := t2291.1 } : api_Pair)]) [[.float .f64 t2286, v2296]] 54 1 rfl (Reps.cons ⟨_, rfl, f2302, one_of_sliceV (ro_sliceV f2302)⟩ Reps.nil)
     refine wl_run (v := (.slice (some ⟨b2303, 0, none⟩) 1 1)) (w' := w2304) rfl rfl (x_als (by kernel_rfl) ew2305 eb2306) ?_
     obtain ⟨hg2308, hm⟩ := gd_some hm
     replace hst := hst.pull2
     obtain ⟨v2309, w2310, hr2311, hst⟩ := run_append elem_52 Try.underlying52 hst hst.src1 (room_of hg2308 rfl) 52
     refine wl_run (v := v2309) (w' := w2310) rfl rfl (x_append rfl rfl hr2311) ?_
     refine wv (v2309) rfl rfl rfl ?_
     refine wl_nil (blk_n (then_n (wp_region_lit ?_)))
     refine wv (.int .i64 (IntKind.i64.wrap (z2267 + (1:Int)))) rfl rfl rfl ?_
     refine wv (.int .i64 (IntKind.i64.wrap (z2267 + (1:Int)))) rfl rfl rfl ?_
     refine wl_nil (then_n ?_)
     replace hst := hst.pull6
     replace hst := hst.pull6
     replace hst := hst.pull6
     replace hst := hst.pull6
     replace hst := hst.pull6
     replace hst := hst.pull5
     replace hst := hst.keep6
     obtain rfl := some_inj hm
     exact ⟨_, Nat.lt_succ_self _, _, t2291.2, (IntKind.i64.wrap (z2267 + (1:Int))), (z2268 ++ ([({ At := t2286, Val := t2291.1 } : api_Pair)])), v2309, _, hx2278, ((fr_upd (t := 0) (v := p0) rfl).trans ((fr_upd (t := 2) (v := .pointer (some ⟨b1412, 0, none⟩)) rfl).trans ((fr_upd (t := 3) (v := .pointer (some ⟨b1436, 0, none⟩)) rfl).trans ((fr_upd (t := 4) (v := v2309) rfl).trans ((fr_upd (t := 29) (v := .int .i64 t1594.1) rfl).trans ((fr_upd (t := 30) (v := .int .i64 z2148) rfl).trans ((fr_upd (t := 33) (v := .int .i64 t2160.1) rfl).trans ((fr_upd (t := 34) (v := .int .i64 (IntKind.i64.wrap (z2267 + (1:Int)))) rfl).trans rfl)))))))), hL2275, hst⟩
    ·skip
     replace hm := bif_f hc2280 hm
     refine wp_iff (congrArg Value.bool hc2280) ?_
     refine wp_exit (then_x (then_x ?_))
     replace hm := inr_up hm hx2278
     refine blk_x (then_n ?_)
     replace hst := hst.pull2
     replace hst := hst.pull5
     replace hst := hst.pull5
     replace hst := hst.pull5
     replace hst := hst.pull5
     replace hst := hst.keep6
     obtain rfl := some_inj hm
     exact ⟨_, z2266, z2268, v2269, _, hx2320, ((fr_upd (t := 0) (v := p0) rfl).trans ((fr_upd (t := 2) (v := .pointer (some ⟨b1412, 0, none⟩)) rfl).trans ((fr_upd (t := 3) (v := .pointer (some ⟨b1436, 0, none⟩)) rfl).trans ((fr_upd (t := 4) (v := v2269) rfl).trans ((fr_upd (t := 29) (v := .int .i64 t1594.1) rfl).trans ((fr_upd (t := 30) (v := .int .i64 z2148) rfl).trans rfl)))))), hL2321, hst⟩
   ·skip
    clear hst
    rintro _ w2322 ⟨I2316, z2312, z2315, v2314, σ2317, hm, rfl, hL2318, hst⟩
    dsimp only [command_ReadReply_j3] at hm
    replace hI0 := hI0.trans hL2318
    replace hL2153 := hL2153.trans hL2318
    refine wp_region_lit ?_
    refine wv (.pointer (some ⟨b1436, 4, none⟩)) rfl rfl (x_field rfl Try.underlying39 rfl Try.sizeOf37 rfl) ?_
    refine wv (v2145) rfl rfl (x_load rfl Try.isAgg37 (hst.bc2 rfl)) ?_
    refine wv (v2314) rfl rfl rfl ?_
    replace hst := hst.pull5
    obtain ⟨I2324, hI2325, f2326, hst⟩ := hst.own_fix
    replace hI0 := hI0.trans hI2325
    replace hL2153 := hL2153.trans hI2325
    obtain ⟨b2327, w2328, ew2329, eb2330, hst⟩ := hst.lits (E := (tySl ty_api_Pair)) (xs := [z2315]) [[v2314]] 52 1 rfl (Reps.cons ⟨_, rfl, f2326, one_of_sliceV (ro_sliceV f2326)⟩ Reps.nil)
    refine wl_run (v := (.slice (some ⟨b2327, 0, none⟩) 1 1)) (w' := w2328) rfl rfl (x_als (by obtain ⟨_, _, hv_, _⟩ := (ro_sliceV f2326); rw [hv_]; kernel_rfl) ew2329 eb2330) ?_
    obtain ⟨hg2332, hm⟩ := gd_some hm
    replace hst := hst.pull5
    obtain ⟨v2333, w2334, hr2335, hst⟩ := run_append elem_37 Try.underlying37 hst hst.src1 (room_of hg2332 rfl) 37
    refine wl_run (v := v2333) (w' := w2334) rfl rfl (x_append rfl rfl hr2335) ?_
    refine wv (.pointer (some ⟨b1436, 4, none⟩)) rfl rfl (x_field rfl Try.underlying39 rfl Try.sizeOf37 rfl) ?_
    replace hst := hst.pull4
    obtain ⟨w2336, hr2337, hst⟩ := hst.boxStore1 (P := Try.prog) (t := 37) (cs' := [.int .i64 (IntKind.i64.wrap t1417.1), .int .u64 t1422.1, .int .u64 t1427.1, v1585, v2333]) 4 v2333 (one_of_sliceV hst.sv1) Try.sizeOf37 rfl rfl
    refine wl_unit rfl rfl (x_unit hr2337) ?_
    refine wl_nil (blk_n (then_n (wp_region_lit ?_)))
    refine wv (.int .i64 (IntKind.i64.wrap (z2148 + (1:Int)))) rfl rfl rfl ?_
    refine wv (.int .i64 (IntKind.i64.wrap (z2148 + (1:Int)))) rfl rfl rfl ?_
    refine wl_nil (then_n ?_)
    replace hst := hst.pull5
    replace hst := hst.pull1
    replace hst := hst.pull5
    replace hst := hst.pull5
    replace hst := hst.pull4
    replace hst := hst.keep5
    obtain rfl := some_inj hm
    exact ⟨_, Nat.lt_succ_self _, _, (z2144 ++ ([z2315])), z2312, (IntKind.i64.wrap (z2148 + (1:Int))), v2333, _, hx2156, ((fr_upd (t := 0) (v := p0) rfl).trans ((fr_upd (t := 2) (v := .pointer (some ⟨b1412, 0, none⟩)) rfl).trans ((fr_upd (t := 3) (v := .pointer (some ⟨b1436, 0, none⟩)) rfl).trans ((fr_upd (t := 29) (v := .int .i64 t1594.1) rfl).trans ((fr_upd (t := 30) (v := .int .i64 (IntKind.i64.wrap (z2148 + (1:Int)))) rfl).trans rfl))))), hL2153, hst⟩
  ·skip
   replace hm := bif_f hc2158 hm
   refine wp_iff (congrArg Value.bool hc2158) ?_
   refine wp_exit (then_x (then_x ?_))
   replace hm := inr_up hm hx2156
   refine blk_x (then_n (wp_seq (wp_region_lit ?_)))
   refine wv (.agg #[.int .i64 (IntKind.i64.wrap t1417.1), .int .u64 t1422.1, .int .u64 t1427.1, v1585, v2145]) rfl rfl (x_loadN (cs := [.int .i64 (IntKind.i64.wrap t1417.1), .int .u64 t1422.1, .int .u64 t1427.1, v1585, v2145]) rfl Try.isAgg39 Try.sizeOf39 (hst.bcs3 0 rfl)) ?_
   replace hst := hst.pull2
   obtain ⟨w2338, hr2339, hst⟩ := hst.boxStore (P := Try.prog) (t := 39) (cs' := [.int .i64 (IntKind.i64.wrap t1417.1), .int .u64 t1422.1, .int .u64 t1427.1, v1585, v2145]) 0 (.agg #[.int .i64 (IntKind.i64.wrap t1417.1), .int .u64 t1422.1, .int .u64 t1427.1, v1585, v2145]) Try.sizeOf39 (Nat.le_of_ble_eq_true rfl) (ones_cons rfl (ones_cons rfl (ones_cons rfl (ones_cons (one_of_sliceV hst.sv4) (ones_cons (one_of_sliceV hst.sv1) ones_nil))))) (by kernel_rfl)
   refine wl_unit rfl rfl (x_unit hr2339) ?_
   refine wl_nil (then_n (wp_ret ?_))
   obtain rfl := some_inj hm
   refine post_ret (vs := [.agg #[.int .i64 (IntKind.i64.wrap t1417.1), .int .u64 t1422.1, .int .u64 t1427.1, v1585, v2145]]) Try.results16 (rvs_cons (rv_cell (cs := [.int .i64 (IntKind.i64.wrap t1417.1), .int .u64 t1422.1, .int .u64 t1427.1, v1585, v2145]) rfl Try.isAgg39 Try.sizeOf39 (hst.bcs0 0 rfl)) rvs_nil) ?_
   replace hst := hst.pull2
   replace hst := hst.pull2
   replace hst := hst.pull4
   exact ⟨_, v1585, v2145, rfl, hI0, hst.keep3⟩

theorem command_readRule_ref {w0 w : World} {I : HL} {R : SP} {a0 : octet_Reader} {p0 : Value}  (hst : St w0 w I [at_octet_Reader p0 a0] R) {r : (api_Rule × octet_Reader)} (hm : command_readRule a0 = some r) :
  Calls Try.prog 55 #[p0] w fun e w' => e = .returned (.agg #[.int .u64 r.1.ID, .int .i64 r.1.From, .int .i64 r.1.To, .float .f64 r.1.Lo, .float .f64 r.1.Hi, .int .u64 r.1.Authority, .int .i64 r.1.Quota]) ∧ St w0 w' I [at_octet_Reader p0 r.2] R := by
 unfold command_readRule at hm
 refine calls_start (args := [p0]) Try.func55 rfl Try.ntmps55 (Nat.le_of_ble_eq_true rfl) ?_
 refine wp_seq (wp_region_lit ?_)
 obtain ⟨b564, w565, ew566, eb567, hst⟩ := hst.box [.int .u64 (0:Int), .int .i64 (0:Int), .int .i64 (0:Int), .float .f64 (0:Nat), .float .f64 (0:Nat), .int .u64 (0:Int), .int .i64 (0:Int)] 43
 refine wl_run (v := .pointer (some ⟨b564, 0, none⟩)) (w' := w565) rfl rfl (x_al (by kernel_rfl) ew566 eb567) ?_
 refine wl_nil (then_n (wp_seq (wp_region_lit ?_)))
 refine wv (p0) rfl rfl rfl ?_
 replace hst := hst.pull1
 obtain ⟨t569, ht570, hm⟩ := bind_some hm
 refine wl_call rfl rfl (x_call Try.call40 rfl (vs := [p0, .int .i64 (8:Int)]) rfl) ?_
 refine (octet_Reader_Num_ref hst.to1 ht570).mono ?_
 rintro _ w571 ⟨rfl, hst⟩
 refine ⟨_, rfl, ?_⟩
 replace hst := hst.of1
 refine wv (p0) rfl rfl rfl ?_
 obtain ⟨t574, ht575, hm⟩ := bind_some hm
 refine wl_call rfl rfl (x_call Try.call40 rfl (vs := [p0, .int .i64 (1:Int)]) rfl) ?_
 refine (octet_Reader_Num_ref hst.to1 ht575).mono ?_
 rintro _ w576 ⟨rfl, hst⟩
 refine ⟨_, rfl, ?_⟩
 replace hst := hst.of1
 refine wv (.int .i64 (IntKind.i64.wrap t574.1)) rfl rfl (by kernel_rfl) ?_
 refine wv (p0) rfl rfl rfl ?_
 obtain ⟨t579, ht580, hm⟩ := bind_some hm
 refine wl_call rfl rfl (x_call Try.call40 rfl (vs := [p0, .int .i64 (1:Int)]) rfl) ?_
 refine (octet_Reader_Num_ref hst.to1 ht580).mono ?_
 rintro _ w581 ⟨rfl, hst⟩
 refine ⟨_, rfl, ?_⟩
 replace hst := hst.of1
 refine wv (.int .i64 (IntKind.i64.wrap t579.1)) rfl rfl (by kernel_rfl) ?_
 refine wv (p0) rfl rfl rfl ?_
 obtain ⟨t584, ht585, hm⟩ := bind_some hm
 refine wl_call rfl rfl (x_call Try.call40 rfl (vs := [p0, .int .i64 (8:Int)]) rfl) ?_
 refine (octet_Reader_Num_ref hst.to1 ht585).mono ?_
 rintro _ w586 ⟨rfl, hst⟩
 refine ⟨_, rfl, ?_⟩
 replace hst := hst.of1
 obtain ⟨t589, ht590, hm⟩ := bind_some hm
 refine wl_call rfl rfl (x_call Try.call44 rfl (vs := [.int .u64 t584.1]) rfl) ?_
 refine (number_Back_ref hst.to0 ht590).mono ?_
 rintro _ w591 ⟨rfl, hst⟩
 refine ⟨_, rfl, ?_⟩
 replace hst := hst.of0
 refine wv (p0) rfl rfl rfl ?_
 obtain ⟨t594, ht595, hm⟩ := bind_some hm
 refine wl_call rfl rfl (x_call Try.call40 rfl (vs := [p0, .int .i64 (8:Int)]) rfl) ?_
 refine (octet_Reader_Num_ref hst.to1 ht595).mono ?_
 rintro _ w596 ⟨rfl, hst⟩
 refine ⟨_, rfl, ?_⟩
 replace hst := hst.of1
 obtain ⟨t599, ht600, hm⟩ := bind_some hm
 refine wl_call rfl rfl (x_call Try.call44 rfl (vs := [.int .u64 t594.1]) rfl) ?_
 refine (number_Back_ref hst.to0 ht600).mono ?_
 rintro _ w601 ⟨rfl, hst⟩
 refine ⟨_, rfl, ?_⟩
 replace hst := hst.of0
 refine wv (p0) rfl rfl rfl ?_
 obtain ⟨t604, ht605, hm⟩ := bind_some hm
 refine wl_call rfl rfl (x_call Try.call40 rfl (vs := [p0, .int .i64 (8:Int)]) rfl) ?_
 refine (octet_Reader_Num_ref hst.to1 ht605).mono ?_
 rintro _ w606 ⟨rfl, hst⟩
 refine ⟨_, rfl, ?_⟩
 replace hst := hst.of1
 refine wv (p0) rfl rfl rfl ?_
 obtain ⟨t609, ht610, hm⟩ := bind_some hm
 refine wl_call rfl rfl (x_call Try.call40 rfl (vs := [p0, .int .i64 (4:Int)]) rfl) ?_
 refine (octet_Reader_Num_ref hst.to1 ht610).mono ?_
 rintro _ w611 ⟨rfl, hst⟩
 refine ⟨_, rfl, ?_⟩
 replace hst := hst.of1
 refine wv (.int .i64 (IntKind.i64.wrap t609.1)) rfl rfl (by kernel_rfl) ?_
 refine wv (.agg #[.int .u64 t569.1, .int .i64 (IntKind.i64.wrap t574.1), .int .i64 (IntKind.i64.wrap t579.1), .float .f64 t589, .float .f64 t599, .int .u64 t604.1, .int .i64 (IntKind.i64.wrap t609.1)]) rfl rfl (by kernel_rfl) ?_
 replace hst := hst.pull1
 obtain ⟨w614, hr615, hst⟩ := hst.boxStore (P := Try.prog) (t := 43) (cs' := [.int .u64 t569.1, .int .i64 (IntKind.i64.wrap t574.1), .int .i64 (IntKind.i64.wrap t579.1), .float .f64 t589, .float .f64 t599, .int .u64 t604.1, .int .i64 (IntKind.i64.wrap t609.1)]) 0 (.agg #[.int .u64 t569.1, .int .i64 (IntKind.i64.wrap t574.1), .int .i64 (IntKind.i64.wrap t579.1), .float .f64 t589, .float .f64 t599, .int .u64 t604.1, .int .i64 (IntKind.i64.wrap t609.1)]) Try.sizeOf43 (Nat.le_of_ble_eq_true rfl) (ones_cons rfl (ones_cons rfl (ones_cons rfl (ones_cons rfl (ones_cons rfl (ones_cons rfl (ones_cons rfl ones_nil))))))) (by kernel_rfl)
 refine wl_unit rfl rfl (x_unit hr615) ?_
 refine wl_nil (then_n (wp_ret ?_))
 obtain rfl := some_inj hm
 refine post_ret (vs := [.agg #[.int .u64 t569.1, .int .i64 (IntKind.i64.wrap t574.1), .int .i64 (IntKind.i64.wrap t579.1), .float .f64 t589, .float .f64 t599, .int .u64 t604.1, .int .i64 (IntKind.i64.wrap t609.1)]]) Try.results55 (rvs_cons (rv_cell (cs := [.int .u64 t569.1, .int .i64 (IntKind.i64.wrap t574.1), .int .i64 (IntKind.i64.wrap t579.1), .float .f64 t589, .float .f64 t599, .int .u64 t604.1, .int .i64 (IntKind.i64.wrap t609.1)]) rfl Try.isAgg43 Try.sizeOf43 (hst.bcs0 0 rfl)) rvs_nil) ?_
 replace hst := hst.pull1
 exact ⟨rfl, hst.keep1⟩

theorem octet_Reader_Bad_ref {w0 w : World} {I : HL} {R : SP} {a0 : octet_Reader} {p0 : Value}  (hst : St w0 w I [at_octet_Reader p0 a0] R) {r : (Bool)} (hm : octet_Reader_Bad a0 = some r) :
  Calls Try.prog 49 #[p0] w fun e w' => e = .returned (.bool r) ∧ St w0 w' I [at_octet_Reader p0 a0] R := by
 unfold octet_Reader_Bad at hm
 refine calls_start (args := [p0]) Try.func49 rfl Try.ntmps49 (Nat.le_of_ble_eq_true rfl) ?_
 refine wp_seq (wp_region_lit ?_)
 refine wv (.bool false) rfl rfl rfl ?_
 refine wl_nil (then_n (wp_seq (wp_region_lit ?_)))
 refine wv (p0) rfl rfl rfl ?_
 obtain ⟨b620, v621, ⟨rfl, f623⟩, hst'⟩ := at_octet_Reader_open hst
 clear hst
 have hst := hst'
 clear hst'
 refine wv (.bool false) rfl rfl (by kernel_rfl) ?_
 refine wv (.bool false) rfl rfl rfl ?_
 refine wv (.pointer (some ⟨b620, 0, none⟩)) ((wanted_eq rfl rfl rfl rfl).trans rfl) rfl rfl ?_
 refine wv (.pointer (some ⟨b620, 0, none⟩)) ((wanted_eq rfl rfl rfl rfl).trans rfl) rfl rfl ?_
 refine wv (.pointer (some ⟨b620, 1, none⟩)) ((wanted_eq rfl rfl rfl rfl).trans rfl) rfl (x_field rfl Try.underlying95 rfl Try.sizeOf4 rfl) ?_
 refine wv (.bool a0.bad) ((wanted_eq rfl rfl rfl rfl).trans rfl) rfl (x_load rfl Try.isAgg4 (hst.bc0 rfl)) ?_
 refine wv (.bool a0.bad) rfl rfl (x_pick_f rfl rfl rfl) ?_
 refine wv (.bool a0.bad) rfl rfl rfl ?_
 refine wl_nil (then_n (wp_ret ?_))
 replace hst := at_octet_Reader_close (pv := .pointer (some ⟨b620, 0, none⟩)) (x := a0) hst ⟨rfl, f623⟩
 obtain rfl := some_inj hm
 refine post_ret (vs := [.bool a0.bad]) Try.results49 (rvs_cons (rv_tmp rfl) rvs_nil) ?_
 exact ⟨rfl, hst.keep1⟩

theorem octet_Reader_End_ref {w0 w : World} {I : HL} {R : SP} {a0 : octet_Reader} {p0 : Value}  (hst : St w0 w I [at_octet_Reader p0 a0] R) {r : (Bool)} (hm : octet_Reader_End a0 = some r) :
  Calls Try.prog 18 #[p0] w fun e w' => e = .returned (.bool r) ∧ St w0 w' I [at_octet_Reader p0 a0] R := by
 unfold octet_Reader_End at hm
 refine calls_start (args := [p0]) Try.func18 rfl Try.ntmps18 (Nat.le_of_ble_eq_true rfl) ?_
 refine wp_seq (wp_region_lit ?_)
 refine wv (.bool false) rfl rfl rfl ?_
 refine wl_nil (then_n (wp_seq (wp_region_lit ?_)))
 refine wv (p0) rfl rfl rfl ?_
 obtain ⟨t625, ht626, hm⟩ := bind_some hm
 refine wl_call rfl rfl (x_call Try.call49 rfl (vs := [p0]) rfl) ?_
 refine (octet_Reader_Bad_ref hst.to1 ht626).mono ?_
 rintro _ w627 ⟨rfl, hst⟩
 refine ⟨_, rfl, ?_⟩
 replace hst := hst.of1
 refine wv (.bool (!t625)) rfl rfl rfl ?_
 refine wv (.bool (!t625)) rfl rfl rfl ?_
 refine bsplit (!t625) (fun hc630 => ?_) (fun hc630 => ?_)
 ·skip
  replace hm := bif_t hc630 hm
  refine wv (p0) ((wanted_eq rfl rfl rfl (congrArg Value.bool hc630)).trans rfl) rfl rfl ?_
  obtain ⟨b631, v632, ⟨rfl, f634⟩, hst'⟩ := at_octet_Reader_open hst
  clear hst
  have hst := hst'
  clear hst'
  refine wv (.pointer (some ⟨b631, 0, none⟩)) ((wanted_eq rfl rfl rfl (congrArg Value.bool hc630)).trans rfl) rfl rfl ?_
  refine wv (.pointer (some ⟨b631, 0, none⟩)) ((wanted_eq rfl rfl rfl (congrArg Value.bool hc630)).trans rfl) rfl (x_field rfl Try.underlying95 rfl Try.sizeOf22 rfl) ?_
  refine wv (v632) ((wanted_eq rfl rfl rfl (congrArg Value.bool hc630)).trans rfl) rfl (x_load rfl Try.isAgg22 (hst.bc0 rfl)) ?_
  refine wv (.int .i64 ((a0.p).length : Int)) ((wanted_eq rfl rfl rfl (congrArg Value.bool hc630)).trans rfl) rfl (x_len rfl Try.underlying22 (ro_sliceV f634)) ?_
  refine wv (.bool (((a0.p).length : Int) == (0:Int))) ((wanted_eq rfl rfl rfl (congrArg Value.bool hc630)).trans rfl) rfl rfl ?_
  refine wv (.bool (((a0.p).length : Int) == (0:Int))) rfl rfl (x_pick_t hc630 rfl rfl) ?_
  refine wv (.bool (((a0.p).length : Int) == (0:Int))) rfl rfl rfl ?_
  refine wl_nil (then_n (wp_ret ?_))
  replace hst := at_octet_Reader_close (pv := .pointer (some ⟨b631, 0, none⟩)) (x := a0) hst ⟨rfl, f634⟩
  obtain rfl := some_inj hm
  refine post_ret (vs := [.bool (((a0.p).length : Int) == (0:Int))]) Try.results18 (rvs_cons (rv_tmp rfl) rvs_nil) ?_
  exact ⟨rfl, hst.keep1⟩
 ·skip
  replace hm := bif_f hc630 hm
  refine wo hc630 rfl rfl rfl rfl rfl rfl ?_
  refine wo hc630 rfl rfl rfl rfl rfl rfl ?_
  refine wo hc630 rfl rfl rfl rfl rfl rfl ?_
  refine wo hc630 rfl rfl rfl rfl rfl rfl ?_
  refine wo hc630 rfl rfl rfl rfl rfl rfl ?_
  refine wo hc630 rfl rfl rfl rfl rfl rfl ?_
  refine wv (.bool false) rfl rfl (x_pick_f hc630 rfl rfl) ?_
  refine wv (.bool false) rfl rfl rfl ?_
  refine wl_nil (then_n (wp_ret ?_))
  obtain rfl := some_inj hm
  refine post_ret (vs := [.bool false]) Try.results18 (rvs_cons (rv_tmp rfl) rvs_nil) ?_
  exact ⟨rfl, hst.keep1⟩

theorem slices_Equal_byte_byte_ref {w0 w : World} {I : HL} {R : SP} {a0 : (List Int)} {r0_0 : Value} {a1 : (List Int)} {r1_0 : Value} (f0_0 : Rd (tyInt .u8) R I r0_0 a0) (f1_0 : Rd (tyInt .u8) R I r1_0 a1) (hst : St w0 w I [] R) {r : (Bool)} (hm : slices_Equal_byte_byte a0 a1 = some r) :
  Calls Try.prog 56 #[r0_0, r1_0] w fun e w' => e = .returned (.bool r) ∧ St w0 w' I [] R := by
 unfold slices_Equal_byte_byte at hm
 refine calls_start (args := [r0_0, r1_0]) Try.func56 rfl Try.ntmps56 (Nat.le_of_ble_eq_true rfl) ?_
 refine wp_seq (wp_region_lit ?_)
 refine wv (.bool false) rfl rfl rfl ?_
 refine wl_nil (then_n (wp_seq (wp_seq (wp_region_lit ?_))))
 refine wv (r0_0) rfl rfl rfl ?_
 refine wv (.int .i64 ((a0).length : Int)) rfl rfl (x_len rfl Try.underlying22 (rd_sliceV f0_0)) ?_
 refine wv (r1_0) rfl rfl rfl ?_
 refine wv (.int .i64 ((a1).length : Int)) rfl rfl (x_len rfl Try.underlying22 (rd_sliceV f1_0)) ?_
 refine wv (.bool (((a0).length : Int) != ((a1).length : Int))) rfl rfl rfl ?_
 refine wl_nil (then_n ?_)
 refine bsplit (((a0).length : Int) != ((a1).length : Int)) (fun hc703 => ?_) (fun hc703 => ?_)
 ·skip
  replace hm := bif_t hc703 hm
  refine wp_ift (congrArg Value.bool hc703) ?_
  refine wp_seq (wp_region_lit ?_)
  refine wv (.bool false) rfl rfl rfl ?_
  refine wl_nil (then_n (wp_ret (then_r ?_)))
  obtain rfl := some_inj hm
  refine post_ret (vs := [.bool false]) Try.results56 (rvs_cons (rv_tmp rfl) rvs_nil) ?_
  exact ⟨rfl, hst.keep0⟩
 ·skip
  replace hm := bif_f hc703 hm
  refine wp_iff (congrArg Value.bool hc703) ?_
  refine wp_skip (then_n (wp_seq (wp_seq (wp_region_lit ?_))))
  refine wv (r0_0) rfl rfl rfl ?_
  refine wv (.int .i64 ((a0).length : Int)) rfl rfl (x_len rfl Try.underlying22 (rd_sliceV f0_0)) ?_
  refine wv (.int .i64 (0:Int)) rfl rfl rfl ?_
  refine wl_nil (then_n (wp_block ?_))
  obtain ⟨n731, hm⟩ := loopO_some hm
  refine wp_loop_n (fun n a w => ∃ (z729 : Int) (σ730 : Nat → Value), loopN (slices_Equal_byte_byte_l0 a0 a1) n z729 = some r ∧ a = Fr 26 (upd (upd (upd (upd σ730 0 (r0_0)) 1 (r1_0)) 12 (.int .i64 ((a0).length : Int))) 13 (.int .i64 z729)) ∧ St w0 w I [] R) n731 ⟨(0:Int), _, hm, ((fr_upd (t := 0) (v := r0_0) rfl).trans ((fr_upd (t := 1) (v := r1_0) rfl).trans ((fr_upd (t := 12) (v := .int .i64 ((a0).length : Int)) rfl).trans ((fr_upd (t := 13) (v := .int .i64 (0:Int)) rfl).trans rfl)))), hst⟩ ?_
  rintro n737 _ w732 ⟨z729, σ730, hm, rfl, hst⟩
  obtain ⟨n734, y735, rfl, hm, hx736⟩ := loopN_some hm
  dsimp only [slices_Equal_byte_byte_l0] at hm
  refine wp_seq (wp_region_lit ?_)
  refine wv (.bool (decide (z729 < ((a0).length : Int)))) rfl rfl rfl ?_
  refine wl_nil (then_n (wp_seq ?_))
  refine bsplit (decide (z729 < ((a0).length : Int))) (fun hc738 => ?_) (fun hc738 => ?_)
  ·skip
   replace hm := bif_t hc738 hm
   refine wp_ift (congrArg Value.bool hc738) ?_
   refine wp_skip (then_n (wp_seq (wp_block (wp_seq (wp_region_lit ?_)))))
   refine wv (.int .i64 z729) rfl rfl rfl ?_
   refine wv (.int .i64 z729) rfl rfl rfl ?_
   refine wl_nil (then_n (wp_seq ?_))
   refine wq_regionS hst Try.mixed (by kernel_rfl) ?_
   refine wq_run (v := r0_0) rfl rfl (fun w hst => rfl) ?_
   refine wq_run (v := .int .i64 z729) rfl rfl (fun w hst => rfl) ?_
   obtain ⟨x739, hx740, hm⟩ := bind_some hm
   obtain ⟨h741, h742, hi743⟩ := geto_some hx740
   refine wq_run (v := .pointer (some (eAddr r0_0 (z729.toNat * 1 + 0)))) rfl rfl (fun w hst => x_index rfl rfl Try.underlying22 Try.sizeOf5 (rd_sliceV f0_0) h741 h742) ?_
   refine wq_run (v := .int .u8 x739) rfl rfl (fun w hst => x_load rfl Try.isAgg5 (rd_load f0_0 (HL.le.refl _) hst hi743 (by rintro _ rfl; rfl))) ?_
   refine wq_run (v := r1_0) rfl rfl (fun w hst => rfl) ?_
   refine wq_run (v := .int .i64 z729) rfl rfl (fun w hst => rfl) ?_
   obtain ⟨x744, hx745, hm⟩ := bind_some hm
   obtain ⟨h746, h747, hi748⟩ := geto_some hx745
   refine wq_run (v := .pointer (some (eAddr r1_0 (z729.toNat * 1 + 0)))) rfl rfl (fun w hst => x_index rfl rfl Try.underlying22 Try.sizeOf5 (rd_sliceV f1_0) h746 h747) ?_
   refine wq_run (v := .int .u8 x744) rfl rfl (fun w hst => x_load rfl Try.isAgg5 (rd_load f1_0 (HL.le.refl _) hst hi748 (by rintro _ rfl; rfl))) ?_
   refine wq_run (v := .bool (x739 != x744)) rfl rfl (fun w hst => rfl) ?_
   refine wq_nil ?_
   intro w hst
   refine then_n ?_
   refine bsplit (x739 != x744) (fun hc749 => ?_) (fun hc749 => ?_)
   ·skip
    replace hm := bif_t hc749 hm
    refine wp_ift (congrArg Value.bool hc749) ?_
    refine wp_seq (wp_region_lit ?_)
    refine wv (.bool false) rfl rfl rfl ?_
    refine wl_nil (then_n (wp_ret (blk_r (then_r (then_r ?_)))))
    replace hm := inr_up hm hx736
    refine blk_r (then_r ?_)
    obtain rfl := some_inj hm
    refine post_ret (vs := [.bool false]) Try.results56 (rvs_cons (rv_tmp rfl) rvs_nil) ?_
    exact ⟨rfl, hst.keep0⟩
   ·skip
    replace hm := bif_f hc749 hm
    refine wp_iff (congrArg Value.bool hc749) ?_
    refine wp_skip (blk_n (then_n (wp_region_lit ?_)))
    refine wv (.int .i64 (IntKind.i64.wrap (z729 + (1:Int)))) rfl rfl rfl ?_
    refine wv (.int .i64 (IntKind.i64.wrap (z729 + (1:Int)))) rfl rfl rfl ?_
    refine wl_nil (then_n ?_)
    replace hst := hst.keep0
    obtain rfl := some_inj hm
    exact ⟨_, Nat.lt_succ_self _, (IntKind.i64.wrap (z729 + (1:Int))), _, hx736, ((fr_upd (t := 0) (v := r0_0) rfl).trans ((fr_upd (t := 1) (v := r1_0) rfl).trans ((fr_upd (t := 12) (v := .int .i64 ((a0).length : Int)) rfl).trans ((fr_upd (t := 13) (v := .int .i64 (IntKind.i64.wrap (z729 + (1:Int)))) rfl).trans rfl)))), hst⟩
  ·skip
   replace hm := bif_f hc738 hm
   refine wp_iff (congrArg Value.bool hc738) ?_
   refine wp_exit (then_x (then_x ?_))
   replace hm := inr_up hm hx736
   refine blk_x (then_n (wp_seq (wp_region_lit ?_)))
   refine wv (.bool true) rfl rfl rfl ?_
   refine wl_nil (then_n (wp_ret ?_))
   obtain rfl := some_inj hm
   refine post_ret (vs := [.bool true]) Try.results56 (rvs_cons (rv_tmp rfl) rvs_nil) ?_
   exact ⟨rfl, hst.keep0⟩

end Go.Proofs.Ytijcfglomdfglaa
