/- The Go functions refine their models, part 5. -/
import Derived.Test.YtgnkkopjkgdieaaGreatLaneOnceR4
set_option linter.unusedVariables false
set_option linter.unusedSimpArgs false
set_option maxRecDepth 100000
set_option maxHeartbeats 4000000
namespace Go.Proofs.YtgnkkopjkgdieaaGreat
open Go Go.V
open _root_.Go.Proofs.Tryz IntKind
attribute [local irreducible] wpList Code.wp wpQuiet Calls bodyPost Oper.wp wpS Nx PendOK YieldsIn
theorem ref13_OfReply_ref {w0 w : World} {I : HL} {R : SP} {a0 : ref12_Tape} {p0 : Value}  (hst : St w0 w I [at_ref12_Tape p0 a0] R) {r : (api_Reply × ref12_Tape)} (hm : ref13_OfReply a0 = some r) :
  Calls prog 35 #[p0] w fun e w' => ∃ (I' : HL) (q0_0 : Value) (q0_1 : Value), e = .returned (.agg #[I6 r.1.E, U6 r.1.Epoch, U6 r.1.Index, q0_0, q0_1]) ∧ I.le I' ∧ St w0 w' I' [ownS ty_api_Got q0_0 r.1.Gots, ownS (tySl ty_api_Pair) q0_1 r.1.Scans, at_ref12_Tape p0 r.2] R := by {
 unfold ref13_OfReply at hm
 refine calls_start (args := [p0]) func35 z ntmps35 (Nat.le_of_ble_eq_true z) ?_
 have hI0 := HL.le.refl I
 refine wp_seq (wrl ?_)
 obtain ⟨b1011, w1012, ew1013, eb1014, hst⟩ := hst.box [Zi, Zu, Zu, Zs, Zs] 33
 refine wl_run (v := Pt b1011 0) (w' := w1012) z z (x_al (by kernel_rfl) ew1013 eb1014) ?_
 refine wl_nil (tn (wp_seq (wrl ?_)))
 obtain ⟨b1016, w1017, ew1018, eb1019, hst⟩ := hst.lits (E := (tyInt .i64)) (xs := [(0:Int), (0:Int), (0:Int), (8:Int), (9:Int), (3:Int)]) [[Zi], [Zi], [Zi], [I6 (8:Int)], [I6 (9:Int)], [I6 (3:Int)]] 29 6 z (Reps.cons z (Reps.cons z (Reps.cons z (Reps.cons z (Reps.cons z (Reps.cons z Reps.nil))))))
 refine wl_run (v := (.slice (some ⟨b1016, 0, none⟩) 6 6)) (w' := w1017) z z (x_als (by kernel_rfl) ew1018 eb1019) ?_
 refine wv ((.slice (some ⟨b1016, 0, none⟩) 6 6)) z z z (wl_nil (tn (wp_seq ?_)))
 obtain ⟨y1128, hm, hx1129⟩ := bind_some hm
 refine wp_mid (fun a w => ∃ (z1120 : ref12_Tape) (z1123 : Int) (z1124 : Int) (z1125 : Int) (b1122 : Nat) (σ1126 : Nat → Value), (ref13_OfReply_j0) (z1120, z1123, z1124, z1125) = some r ∧ a = Fr 72 (upd (upd (upd σ1126 0 (p0)) 2 (Pt b1011 0)) 4 (Pt b1122 0)) ∧ St w0 w I [at_ref12_Tape p0 z1120, cells b1011 [Zi, Zu, Zu, Zs, Zs], cells b1122 [I6 z1123, U6 z1124, U6 z1125, Zs, Zs]] R) ?_ ?_
 {
 refine wp_region_St hst 14 [0, 1, 2, 3, 4, 5, 6, 7, 8, 9, 10, 11, 12, 13] [0, 0, 2, 7, 15, 0, 38, 102, 0, 358, 870, 2047, 0, 8191] [] z (by kernel_rfl) (by kernel_rfl) Tryz.mixed (by kernel_rfl) ?_
 refine wsr ((.slice (some ⟨b1016, 0, none⟩) 6 6)) 0 z z z (by kernel_rfl) (fun w hst => z) (wsr (p0) 1 z z z (by kernel_rfl) (fun w hst => z) (wsr (p0) 5 z z z (by kernel_rfl) (fun w hst => z) (wsr (p0) 8 z z z (by kernel_rfl) (fun w hst => z) ?_)))
 refine ws_e2 2 12 (by kernel_rfl) ?_ ?_
 {
 refine nxe [3, 4, 6, 7, 9, 10, 11, 12, 13] (by kernel_rfl) z z ?_
 clear hst
 intro w hst
 replace hst := hst.pull2
 obtain ⟨t1021, ht1022, hm⟩ := bind_some hm
 refine wec call64 [p0, I6 (6:Int)] z z ?_
 refine (ref12_Tape_Next_ref hst.to1 ht1022).mono ?_
 rintro _ w1023 ⟨rfl, hst⟩
 refine ⟨_, z, ?_⟩
 replace hst := hst.of1
 refine ws_next (pend' := [(8, p0), (5, p0), (0, (.slice (some ⟨b1016, 0, none⟩) 6 6))]) hst (by kernel_rfl) (pkr z z (fun w hst => z) (pkr z z (fun w hst => z) (pkr z z (fun w hst => z) pk_nil))) ?_
 obtain ⟨x1026, hx1027, hm⟩ := bind_some hm
 obtain ⟨h1028, h1029, hi1030⟩ := geto_some hx1027
 refine wsr (.pointer (some (eAddr (.slice (some ⟨b1016, 0, none⟩) 6 6) (t1021.1.toNat * 1 + 0)))) 3 z z z (by kernel_rfl) (fun w hst => x_index z z underlying150 sizeOf29 hst.sv1 h1028 h1029) (wsr (.int .i64 x1026) 4 z z z (by kernel_rfl) (fun w hst => x_load z isAgg29 (hst.ol1 hi1030 (by rintro _ rfl; rfl))) ?_)
 refine ws_e2 6 12 (by kernel_rfl) ?_ ?_
 {
 refine nxe [7, 9, 10, 11, 12, 13] (by kernel_rfl) z z ?_
 clear hst
 intro w hst
 obtain ⟨t1031, ht1032, hm⟩ := bind_some hm
 refine wec call64 [p0, I6 (4:Int)] z z ?_
 refine (ref12_Tape_Next_ref hst.to1 ht1032).mono ?_
 rintro _ w1033 ⟨rfl, hst⟩
 refine ⟨_, z, ?_⟩
 replace hst := hst.of1
 refine ws_next (pend' := [(4, I6 x1026), (3, .pointer (some (eAddr (.slice (some ⟨b1016, 0, none⟩) 6 6) (t1021.1.toNat * 1 + 0)))), (8, p0), (0, (.slice (some ⟨b1016, 0, none⟩) 6 6))]) hst (by kernel_rfl) (pkr z z (fun w hst => x_load z isAgg29 (hst.ol1 hi1030 (by rintro _ rfl; rfl))) (pkr z z (fun w hst => x_index z z underlying150 sizeOf29 hst.sv1 h1028 h1029) (pkr z z (fun w hst => z) (pkr z z (fun w hst => z) pk_nil)))) ?_
 refine wsr (.int .u64 (u64.wrap t1031.1)) 7 z z z (by kernel_rfl) (fun w hst => by kernel_rfl) ?_
 refine ws_e2 9 12 (by kernel_rfl) ?_ ?_
 {
 refine nxe [10, 11, 12, 13] (by kernel_rfl) z z ?_
 clear hst
 intro w hst
 obtain ⟨t1036, ht1037, hm⟩ := bind_some hm
 refine wec call64 [p0, I6 (9:Int)] z z ?_
 refine (ref12_Tape_Next_ref hst.to1 ht1037).mono ?_
 rintro _ w1038 ⟨rfl, hst⟩
 refine ⟨_, z, ?_⟩
 replace hst := hst.of1
 refine ws_next (pend' := [(7, U6 (u64.wrap t1031.1)), (4, I6 x1026), (3, .pointer (some (eAddr (.slice (some ⟨b1016, 0, none⟩) 6 6) (t1021.1.toNat * 1 + 0)))), (0, (.slice (some ⟨b1016, 0, none⟩) 6 6))]) hst (by kernel_rfl) (pkr z z (fun w hst => by kernel_rfl) (pkr z z (fun w hst => x_load z isAgg29 (hst.ol1 hi1030 (by rintro _ rfl; rfl))) (pkr z z (fun w hst => x_index z z underlying150 sizeOf29 hst.sv1 h1028 h1029) (pkr z z (fun w hst => z) pk_nil)))) ?_
 refine wsr (.int .u64 (u64.wrap t1036.1)) 10 z z z (by kernel_rfl) (fun w hst => by kernel_rfl) (wsr (.agg #[I6 x1026, U6 (u64.wrap t1031.1), U6 (u64.wrap t1036.1), Zs, Zs]) 11 z z z (by kernel_rfl) (fun w hst => by kernel_rfl) ?_)
 refine ws_e1 12 (by kernel_rfl) ?_
 refine nxe [13] (by kernel_rfl) z z ?_
 clear hst
 intro w hst
 obtain ⟨b1045, w1046, ew1047, eb1048, hst⟩ := hst.box [Zi, Zu, Zu, Zs, Zs] 33
 refine we_run (v := Pt b1045 0) (w' := w1046) z (x_al (by kernel_rfl) ew1047 eb1048) ?_
 refine ws_next (pend' := [(11, .agg #[I6 x1026, U6 (u64.wrap t1031.1), U6 (u64.wrap t1036.1), Zs, Zs]), (10, U6 (u64.wrap t1036.1)), (7, U6 (u64.wrap t1031.1)), (4, I6 x1026), (3, .pointer (some (eAddr (.slice (some ⟨b1016, 0, none⟩) 6 6) (t1021.1.toNat * 1 + 0)))), (0, (.slice (some ⟨b1016, 0, none⟩) 6 6))]) hst (by kernel_rfl) (pkr z z (fun w hst => by kernel_rfl) (pkr z z (fun w hst => by kernel_rfl) (pkr z z (fun w hst => by kernel_rfl) (pkr z z (fun w hst => x_load z isAgg29 (hst.ol2 hi1030 (by rintro _ rfl; rfl))) (pkr z z (fun w hst => x_index z z underlying150 sizeOf29 hst.sv2 h1028 h1029) (pkr z z (fun w hst => z) pk_nil)))))) ?_
 refine ws_e1 13 (by kernel_rfl) ?_
 refine nxe [] (by kernel_rfl) z z ?_
 clear hst
 intro w hst
 obtain ⟨w1050, hr1051, hst⟩ := hst.bx [I6 x1026, U6 (u64.wrap t1031.1), U6 (u64.wrap t1036.1), Zs, Zs] sizeOf33 z (oC z (oC z (oC z (oC z (oC z oN))))) (by kernel_rfl)
 refine we_unit z (x_unit hr1051) ?_
 refine ws_next (pend' := []) hst (by kernel_rfl) pk_nil ?_
 refine ws_nil ?_
 intro w hst
 refine ⟨z, ?_⟩
 replace hst := hst.pull3.pull2.keep3
 obtain rfl := some_inj hm
 exact ⟨t1036.2, x1026, (u64.wrap t1031.1), (u64.wrap t1036.1), b1045, _, hx1129, (fu 0 p0 z (fu 2 (Pt b1011 0) z (fu 4 (Pt b1045 0) z z))), hst⟩
}
 {
 refine nxe [9, 10, 11, 13] (by kernel_rfl) z z ?_
 clear hst
 intro w hst
 obtain ⟨b1054, w1055, ew1056, eb1057, hst⟩ := hst.box [Zi, Zu, Zu, Zs, Zs] 33
 refine we_run (v := Pt b1054 0) (w' := w1055) z (x_al (by kernel_rfl) ew1056 eb1057) ?_
 refine ws_next (pend' := [(7, U6 (u64.wrap t1031.1)), (4, I6 x1026), (3, .pointer (some (eAddr (.slice (some ⟨b1016, 0, none⟩) 6 6) (t1021.1.toNat * 1 + 0)))), (8, p0), (0, (.slice (some ⟨b1016, 0, none⟩) 6 6))]) hst (by kernel_rfl) (pkr z z (fun w hst => by kernel_rfl) (pkr z z (fun w hst => x_load z isAgg29 (hst.ol2 hi1030 (by rintro _ rfl; rfl))) (pkr z z (fun w hst => x_index z z underlying150 sizeOf29 hst.sv2 h1028 h1029) (pkr z z (fun w hst => z) (pkr z z (fun w hst => z) pk_nil))))) ?_
 refine ws_e1 9 (by kernel_rfl) ?_
 refine nxe [10, 11, 13] (by kernel_rfl) z z ?_
 clear hst
 intro w hst
 replace hst := hst.pull1
 obtain ⟨t1059, ht1060, hm⟩ := bind_some hm
 refine wec call64 [p0, I6 (9:Int)] z z ?_
 refine (ref12_Tape_Next_ref hst.to1 ht1060).mono ?_
 rintro _ w1061 ⟨rfl, hst⟩
 refine ⟨_, z, ?_⟩
 replace hst := hst.of1
 refine ws_next (pend' := [(7, U6 (u64.wrap t1031.1)), (4, I6 x1026), (3, .pointer (some (eAddr (.slice (some ⟨b1016, 0, none⟩) 6 6) (t1021.1.toNat * 1 + 0)))), (0, (.slice (some ⟨b1016, 0, none⟩) 6 6))]) hst (by kernel_rfl) (pkr z z (fun w hst => by kernel_rfl) (pkr z z (fun w hst => x_load z isAgg29 (hst.ol2 hi1030 (by rintro _ rfl; rfl))) (pkr z z (fun w hst => x_index z z underlying150 sizeOf29 hst.sv2 h1028 h1029) (pkr z z (fun w hst => z) pk_nil)))) ?_
 refine wsr (.int .u64 (u64.wrap t1059.1)) 10 z z z (by kernel_rfl) (fun w hst => by kernel_rfl) (wsr (.agg #[I6 x1026, U6 (u64.wrap t1031.1), U6 (u64.wrap t1059.1), Zs, Zs]) 11 z z z (by kernel_rfl) (fun w hst => by kernel_rfl) ?_)
 refine ws_e1 13 (by kernel_rfl) ?_
 refine nxe [] (by kernel_rfl) z z ?_
 clear hst
 intro w hst
 replace hst := hst.pull1
 obtain ⟨w1066, hr1067, hst⟩ := hst.bx [I6 x1026, U6 (u64.wrap t1031.1), U6 (u64.wrap t1059.1), Zs, Zs] sizeOf33 z (oC z (oC z (oC z (oC z (oC z oN))))) (by kernel_rfl)
 refine we_unit z (x_unit hr1067) ?_
 refine ws_next (pend' := []) hst (by kernel_rfl) pk_nil ?_
 refine ws_nil ?_
 intro w hst
 refine ⟨z, ?_⟩
 replace hst := hst.pull3.pull2.keep3
 obtain rfl := some_inj hm
 exact ⟨t1059.2, x1026, (u64.wrap t1031.1), (u64.wrap t1059.1), b1054, _, hx1129, (fu 0 p0 z (fu 2 (Pt b1011 0) z (fu 4 (Pt b1054 0) z z))), hst⟩
}
}
 {
 refine nxe [6, 7, 9, 10, 11, 13] (by kernel_rfl) z z ?_
 clear hst
 intro w hst
 obtain ⟨b1070, w1071, ew1072, eb1073, hst⟩ := hst.box [Zi, Zu, Zu, Zs, Zs] 33
 refine we_run (v := Pt b1070 0) (w' := w1071) z (x_al (by kernel_rfl) ew1072 eb1073) ?_
 refine ws_next (pend' := [(4, I6 x1026), (3, .pointer (some (eAddr (.slice (some ⟨b1016, 0, none⟩) 6 6) (t1021.1.toNat * 1 + 0)))), (8, p0), (5, p0), (0, (.slice (some ⟨b1016, 0, none⟩) 6 6))]) hst (by kernel_rfl) (pkr z z (fun w hst => x_load z isAgg29 (hst.ol2 hi1030 (by rintro _ rfl; rfl))) (pkr z z (fun w hst => x_index z z underlying150 sizeOf29 hst.sv2 h1028 h1029) (pkr z z (fun w hst => z) (pkr z z (fun w hst => z) (pkr z z (fun w hst => z) pk_nil))))) ?_
 refine ws_e1 6 (by kernel_rfl) ?_
 refine nxe [7, 9, 10, 11, 13] (by kernel_rfl) z z ?_
 clear hst
 intro w hst
 replace hst := hst.pull1
 obtain ⟨t1075, ht1076, hm⟩ := bind_some hm
 refine wec call64 [p0, I6 (4:Int)] z z ?_
 refine (ref12_Tape_Next_ref hst.to1 ht1076).mono ?_
 rintro _ w1077 ⟨rfl, hst⟩
 refine ⟨_, z, ?_⟩
 replace hst := hst.of1
 refine ws_next (pend' := [(4, I6 x1026), (3, .pointer (some (eAddr (.slice (some ⟨b1016, 0, none⟩) 6 6) (t1021.1.toNat * 1 + 0)))), (8, p0), (0, (.slice (some ⟨b1016, 0, none⟩) 6 6))]) hst (by kernel_rfl) (pkr z z (fun w hst => x_load z isAgg29 (hst.ol2 hi1030 (by rintro _ rfl; rfl))) (pkr z z (fun w hst => x_index z z underlying150 sizeOf29 hst.sv2 h1028 h1029) (pkr z z (fun w hst => z) (pkr z z (fun w hst => z) pk_nil)))) ?_
 refine wsr (.int .u64 (u64.wrap t1075.1)) 7 z z z (by kernel_rfl) (fun w hst => by kernel_rfl) ?_
 refine ws_e1 9 (by kernel_rfl) ?_
 refine nxe [10, 11, 13] (by kernel_rfl) z z ?_
 clear hst
 intro w hst
 obtain ⟨t1080, ht1081, hm⟩ := bind_some hm
 refine wec call64 [p0, I6 (9:Int)] z z ?_
 refine (ref12_Tape_Next_ref hst.to1 ht1081).mono ?_
 rintro _ w1082 ⟨rfl, hst⟩
 refine ⟨_, z, ?_⟩
 replace hst := hst.of1
 refine ws_next (pend' := [(7, U6 (u64.wrap t1075.1)), (4, I6 x1026), (3, .pointer (some (eAddr (.slice (some ⟨b1016, 0, none⟩) 6 6) (t1021.1.toNat * 1 + 0)))), (0, (.slice (some ⟨b1016, 0, none⟩) 6 6))]) hst (by kernel_rfl) (pkr z z (fun w hst => by kernel_rfl) (pkr z z (fun w hst => x_load z isAgg29 (hst.ol2 hi1030 (by rintro _ rfl; rfl))) (pkr z z (fun w hst => x_index z z underlying150 sizeOf29 hst.sv2 h1028 h1029) (pkr z z (fun w hst => z) pk_nil)))) ?_
 refine wsr (.int .u64 (u64.wrap t1080.1)) 10 z z z (by kernel_rfl) (fun w hst => by kernel_rfl) (wsr (.agg #[I6 x1026, U6 (u64.wrap t1075.1), U6 (u64.wrap t1080.1), Zs, Zs]) 11 z z z (by kernel_rfl) (fun w hst => by kernel_rfl) ?_)
 refine ws_e1 13 (by kernel_rfl) ?_
 refine nxe [] (by kernel_rfl) z z ?_
 clear hst
 intro w hst
 replace hst := hst.pull1
 obtain ⟨w1087, hr1088, hst⟩ := hst.bx [I6 x1026, U6 (u64.wrap t1075.1), U6 (u64.wrap t1080.1), Zs, Zs] sizeOf33 z (oC z (oC z (oC z (oC z (oC z oN))))) (by kernel_rfl)
 refine we_unit z (x_unit hr1088) ?_
 refine ws_next (pend' := []) hst (by kernel_rfl) pk_nil ?_
 refine ws_nil ?_
 intro w hst
 refine ⟨z, ?_⟩
 replace hst := hst.pull3.pull2.keep3
 obtain rfl := some_inj hm
 exact ⟨t1080.2, x1026, (u64.wrap t1075.1), (u64.wrap t1080.1), b1070, _, hx1129, (fu 0 p0 z (fu 2 (Pt b1011 0) z (fu 4 (Pt b1070 0) z z))), hst⟩
}
}
 {
 refine nxe [2, 3, 4, 6, 7, 9, 10, 11, 13] (by kernel_rfl) z z ?_
 clear hst
 intro w hst
 obtain ⟨b1091, w1092, ew1093, eb1094, hst⟩ := hst.box [Zi, Zu, Zu, Zs, Zs] 33
 refine we_run (v := Pt b1091 0) (w' := w1092) z (x_al (by kernel_rfl) ew1093 eb1094) ?_
 refine ws_next (pend' := [(8, p0), (5, p0), (1, p0), (0, (.slice (some ⟨b1016, 0, none⟩) 6 6))]) hst (by kernel_rfl) (pkr z z (fun w hst => z) (pkr z z (fun w hst => z) (pkr z z (fun w hst => z) (pkr z z (fun w hst => z) pk_nil)))) ?_
 refine ws_e1 2 (by kernel_rfl) ?_
 refine nxe [3, 4, 6, 7, 9, 10, 11, 13] (by kernel_rfl) z z ?_
 clear hst
 intro w hst
 replace hst := hst.pull3
 obtain ⟨t1096, ht1097, hm⟩ := bind_some hm
 refine wec call64 [p0, I6 (6:Int)] z z ?_
 refine (ref12_Tape_Next_ref hst.to1 ht1097).mono ?_
 rintro _ w1098 ⟨rfl, hst⟩
 refine ⟨_, z, ?_⟩
 replace hst := hst.of1
 refine ws_next (pend' := [(8, p0), (5, p0), (0, (.slice (some ⟨b1016, 0, none⟩) 6 6))]) hst (by kernel_rfl) (pkr z z (fun w hst => z) (pkr z z (fun w hst => z) (pkr z z (fun w hst => z) pk_nil))) ?_
 obtain ⟨x1101, hx1102, hm⟩ := bind_some hm
 obtain ⟨h1103, h1104, hi1105⟩ := geto_some hx1102
 refine wsr (.pointer (some (eAddr (.slice (some ⟨b1016, 0, none⟩) 6 6) (t1096.1.toNat * 1 + 0)))) 3 z z z (by kernel_rfl) (fun w hst => x_index z z underlying150 sizeOf29 hst.sv2 h1103 h1104) (wsr (.int .i64 x1101) 4 z z z (by kernel_rfl) (fun w hst => x_load z isAgg29 (hst.ol2 hi1105 (by rintro _ rfl; rfl))) ?_)
 refine ws_e1 6 (by kernel_rfl) ?_
 refine nxe [7, 9, 10, 11, 13] (by kernel_rfl) z z ?_
 clear hst
 intro w hst
 obtain ⟨t1106, ht1107, hm⟩ := bind_some hm
 refine wec call64 [p0, I6 (4:Int)] z z ?_
 refine (ref12_Tape_Next_ref hst.to1 ht1107).mono ?_
 rintro _ w1108 ⟨rfl, hst⟩
 refine ⟨_, z, ?_⟩
 replace hst := hst.of1
 refine ws_next (pend' := [(4, I6 x1101), (3, .pointer (some (eAddr (.slice (some ⟨b1016, 0, none⟩) 6 6) (t1096.1.toNat * 1 + 0)))), (8, p0), (0, (.slice (some ⟨b1016, 0, none⟩) 6 6))]) hst (by kernel_rfl) (pkr z z (fun w hst => x_load z isAgg29 (hst.ol2 hi1105 (by rintro _ rfl; rfl))) (pkr z z (fun w hst => x_index z z underlying150 sizeOf29 hst.sv2 h1103 h1104) (pkr z z (fun w hst => z) (pkr z z (fun w hst => z) pk_nil)))) ?_
 refine wsr (.int .u64 (u64.wrap t1106.1)) 7 z z z (by kernel_rfl) (fun w hst => by kernel_rfl) ?_
 refine ws_e1 9 (by kernel_rfl) ?_
 refine nxe [10, 11, 13] (by kernel_rfl) z z ?_
 clear hst
 intro w hst
 obtain ⟨t1111, ht1112, hm⟩ := bind_some hm
 refine wec call64 [p0, I6 (9:Int)] z z ?_
 refine (ref12_Tape_Next_ref hst.to1 ht1112).mono ?_
 rintro _ w1113 ⟨rfl, hst⟩
 refine ⟨_, z, ?_⟩
 replace hst := hst.of1
 refine ws_next (pend' := [(7, U6 (u64.wrap t1106.1)), (4, I6 x1101), (3, .pointer (some (eAddr (.slice (some ⟨b1016, 0, none⟩) 6 6) (t1096.1.toNat * 1 + 0)))), (0, (.slice (some ⟨b1016, 0, none⟩) 6 6))]) hst (by kernel_rfl) (pkr z z (fun w hst => by kernel_rfl) (pkr z z (fun w hst => x_load z isAgg29 (hst.ol2 hi1105 (by rintro _ rfl; rfl))) (pkr z z (fun w hst => x_index z z underlying150 sizeOf29 hst.sv2 h1103 h1104) (pkr z z (fun w hst => z) pk_nil)))) ?_
 refine wsr (.int .u64 (u64.wrap t1111.1)) 10 z z z (by kernel_rfl) (fun w hst => by kernel_rfl) (wsr (.agg #[I6 x1101, U6 (u64.wrap t1106.1), U6 (u64.wrap t1111.1), Zs, Zs]) 11 z z z (by kernel_rfl) (fun w hst => by kernel_rfl) ?_)
 refine ws_e1 13 (by kernel_rfl) ?_
 refine nxe [] (by kernel_rfl) z z ?_
 clear hst
 intro w hst
 replace hst := hst.pull1
 obtain ⟨w1118, hr1119, hst⟩ := hst.bx [I6 x1101, U6 (u64.wrap t1106.1), U6 (u64.wrap t1111.1), Zs, Zs] sizeOf33 z (oC z (oC z (oC z (oC z (oC z oN))))) (by kernel_rfl)
 refine we_unit z (x_unit hr1119) ?_
 refine ws_next (pend' := []) hst (by kernel_rfl) pk_nil ?_
 refine ws_nil ?_
 intro w hst
 refine ⟨z, ?_⟩
 replace hst := hst.pull3.pull2.keep3
 obtain rfl := some_inj hm
 exact ⟨t1111.2, x1101, (u64.wrap t1106.1), (u64.wrap t1111.1), b1091, _, hx1129, (fu 0 p0 z (fu 2 (Pt b1011 0) z (fu 4 (Pt b1091 0) z z))), hst⟩
}
}
 {
 clear hst
 rintro _ w1130 ⟨z1120, z1123, z1124, z1125, b1122, σ1126, hm, rfl, hst⟩
 dsimp only [ref13_OfReply_j0] at hm
 refine tn (wp_seq (wrl (wv (p0) z z z ?_)))
 obtain ⟨t1131, ht1132, hm⟩ := bind_some hm
 refine wc call64 [p0, I6 (3:Int)] z z z ?_
 refine (ref12_Tape_Next_ref hst.to1 ht1132).mono ?_
 rintro _ w1133 ⟨rfl, hst⟩
 refine ⟨_, z, ?_⟩
 replace hst := hst.of1
 refine wv (.int .i64 t1131.1) z z z (wl_nil (tn ?_))
 obtain ⟨y1282, hm, hx1283⟩ := bind_some hm
 refine wp_cut (fun a w => ∃ (I1279 : HL) (z1275 : ref12_Tape) (z1278 : (List api_Got)) (v1277 : Value) (σ1280 : Nat → Value), (ref13_OfReply_j1 z1123 z1124 z1125) (z1275, z1278) = some r ∧ a = Fr 72 (upd (upd (upd σ1280 0 (p0)) 2 (Pt b1011 0)) 4 (Pt b1122 0)) ∧ I.le I1279 ∧ St w0 w I1279 [at_ref12_Tape p0 z1275, cells b1011 [Zi, Zu, Zu, Zs, Zs], cells b1122 [I6 z1123, U6 z1124, U6 z1125, v1277, Zs], ownS ty_api_Got v1277 z1278] R) ?_ ?_
 {
 have hL1284 := HL.le.refl I
 refine wp_seq (wrl (wv (.int .i64 (0:Int)) z z z (wl_nil (tn (wp_block ?_)))))
 replace hst := hst.own_nil ty_api_Got
 obtain ⟨n1238, hm⟩ := loopO_some hm
 refine wp_loop_n (fun n a w => ∃ (I1236 : HL) (z1231 : (List api_Got)) (z1234 : ref12_Tape) (z1235 : Int) (v1232 : Value) (σ1237 : Nat → Value), loopN (ref13_OfReply_l2 t1131) n (z1231, z1234, z1235) = some y1282 ∧ a = Fr 72 (upd (upd (upd (upd (upd σ1237 0 (p0)) 2 (Pt b1011 0)) 4 (Pt b1122 0)) 5 (.int .i64 t1131.1)) 6 (.int .i64 z1235)) ∧ I.le I1236 ∧ St w0 w I1236 [ownS ty_api_Got v1232 z1231, at_ref12_Tape p0 z1234, cells b1011 [Zi, Zu, Zu, Zs, Zs], cells b1122 [I6 z1123, U6 z1124, U6 z1125, v1232, Zs]] R) n1238 ⟨_, [], t1131.2, (0:Int), Zs, _, hm, (fu 0 p0 z (fu 2 (Pt b1011 0) z (fu 4 (Pt b1122 0) z (fu 5 (.int .i64 t1131.1) z (fu 6 (.int .i64 (0:Int)) z z))))), (HL.le.refl _), hst⟩ ?_
 rintro n1244 _ w1239 ⟨I1236, z1231, z1234, z1235, v1232, σ1237, hm, rfl, hL1240, hst⟩
 obtain ⟨n1241, y1242, rfl, hm, hx1243⟩ := loopN_some hm
 dsimp only [ref13_OfReply_l2] at hm
 replace hI0 := hI0.trans hL1240
 replace hL1284 := hL1284.trans hL1240
 refine wp_seq (wp_seq (wrl (wv (.int .i64 z1235) z z z (wv (.int .i64 t1131.1) z z z (wv (.bool (decide (z1235 < t1131.1))) z z z (wl_nil (tn ?_)))))))
 refine bsplit (decide (z1235 < t1131.1)) (fun hc1245 => ?_) (fun hc1245 => ?_)
 {
 replace hm := bif_t hc1245 hm
 refine wp_ift (cvb hc1245) ?_
 refine wp_skip (tn (wp_seq (wp_block ?_)))
 refine wp_region_St hst 12 [0, 1, 2, 3, 4, 5, 6, 7, 8, 9, 10, 11] [0, 1, 0, 4, 12, 0, 44, 124, 252, 511, 1023, 2047] [] z (by kernel_rfl) (by kernel_rfl) Tryz.mixed (by kernel_rfl) ?_
 refine wsr (Pt b1122 3) 0 z z z (by kernel_rfl) (fun w hst => x_field z underlying33 z sizeOf30 z) (wsr (v1232) 1 z z z (by kernel_rfl) (fun w hst => x_load z isAgg30 (hst.bc3 z)) (wsr (p0) 2 z z z (by kernel_rfl) (fun w hst => z) (wsr (p0) 5 z z z (by kernel_rfl) (fun w hst => z) ?_)))
 refine ws_e1 3 (by kernel_rfl) ?_
 refine nxe [4, 6, 7, 8, 9, 10, 11] (by kernel_rfl) z z ?_
 clear hst
 intro w hst
 replace hst := hst.pull1
 obtain ⟨t1246, ht1247, hm⟩ := bind_some hm
 refine wec call64 [p0, I6 (2:Int)] z z ?_
 refine (ref12_Tape_Next_ref hst.to1 ht1247).mono ?_
 rintro _ w1248 ⟨rfl, hst⟩
 refine ⟨_, z, ?_⟩
 replace hst := hst.of1
 refine ws_next (pend' := [(5, p0), (1, v1232), (0, Pt b1122 3)]) hst (by kernel_rfl) (pkr z z (fun w hst => z) (pkr z z (fun w hst => x_load z isAgg30 (hst.bc3 z)) (pkr z z (fun w hst => x_field z underlying33 z sizeOf30 z) pk_nil))) ?_
 refine wsr (.bool (t1246.1 == (0:Int))) 4 z z z (by kernel_rfl) (fun w hst => z) ?_
 refine ws_e1 6 (by kernel_rfl) ?_
 refine nxe [7, 8, 9, 10, 11] (by kernel_rfl) z z ?_
 clear hst
 intro w hst
 obtain ⟨t1251, ht1252, hm⟩ := bind_some hm
 refine wec call66 [p0] z z ?_
 refine (ref12_Tape_Val_ref hst.to1 ht1252).mono ?_
 rintro _ w1253 ⟨v1256, rfl, hst⟩
 refine ⟨_, z, ?_⟩
 replace hst := hst.of2
 refine ws_next (pend' := [(4, .bool (t1246.1 == (0:Int))), (1, v1232), (0, Pt b1122 3)]) hst (by kernel_rfl) (pkr z z (fun w hst => z) (pkr z z (fun w hst => x_load z isAgg30 (hst.bc4 z)) (pkr z z (fun w hst => x_field z underlying33 z sizeOf30 z) pk_nil))) ?_
 refine wsr (.agg #[.bool (t1246.1 == (0:Int)), v1256]) 7 rfl rfl rfl (by kernel_rfl) (fun w hst => by obtain ⟨_, _, hv_, _⟩ := hst.sv0; rw [hv_]; kernel_rfl) ?_
 refine ws_e1 8 (by kernel_rfl) ?_
 refine nxe [9, 10, 11] (by kernel_rfl) z z ?_
 clear hst
 intro w hst
 obtain ⟨I1260, hI1261, f1262, hst⟩ := hst.own_fix
 replace hI0 := hI0.trans hI1261
 replace hL1284 := hL1284.trans hI1261
 replace hL1240 := hL1240.trans hI1261
 obtain ⟨b1263, w1264, ew1265, eb1266, hst⟩ := hst.lits (E := ty_api_Got) (xs := [({ Has := (t1246.1 == (0:Int)), Val := t1251.1 } : api_Got)]) [[.bool (t1246.1 == (0:Int)), v1256]] 61 1 z (Reps.cons ⟨_, z, f1262, one_of_sliceV (ro_sliceV f1262)⟩ Reps.nil)
 refine we_run (v := (.slice (some ⟨b1263, 0, none⟩) 1 1)) (w' := w1264) z (x_als (by kernel_rfl) ew1265 eb1266) ?_
 refine ws_next (pend' := [(1, v1232), (0, Pt b1122 3)]) hst (by kernel_rfl) (pkr z z (fun w hst => x_load z isAgg30 (hst.bc4 z)) (pkr z z (fun w hst => x_field z underlying33 z sizeOf30 z) pk_nil)) ?_
 refine ws_e1 9 (by kernel_rfl) ?_
 refine nxe [10, 11] (by kernel_rfl) z z ?_
 clear hst
 intro w hst
 obtain ⟨hg1268, hm⟩ := gd_some hm
 replace hst := hst.pull2
 obtain ⟨v1269, w1270, hr1271, hst⟩ := run_append elem_30 underlying30 hst hst.src1 (room_of hg1268 z) 30
 refine we_run (v := v1269) (w' := w1270) z (x_append z z hr1271) ?_
 refine ws_next (pend' := []) hst (by kernel_rfl) pk_nil ?_
 refine wsr (Pt b1122 3) 10 z z z (by kernel_rfl) (fun w hst => x_field z underlying33 z sizeOf30 z) ?_
 refine ws_e1 11 (by kernel_rfl) ?_
 refine nxe [] (by kernel_rfl) z z ?_
 clear hst
 intro w hst
 replace hst := hst.pull4
 obtain ⟨w1273, hr1274, hst⟩ := hst.boxStore1 (P := prog) (t := 30) (cs' := [I6 z1123, U6 z1124, U6 z1125, v1269, Zs]) 3 v1269 (one_of_sliceV hst.sv1) sizeOf30 z z
 refine we_unit z (x_unit hr1274) ?_
 refine ws_next (pend' := []) hst (by kernel_rfl) pk_nil ?_
 refine ws_nil ?_
 intro w hst
 refine blk_n (tn (wrl ?_))
 refine wv (.int .i64 z1235) z z z (wv (.int .i64 (i64.wrap (z1235 + (1:Int)))) z z z (wv (.int .i64 (i64.wrap (z1235 + (1:Int)))) z z z (wl_nil (tn ?_))))
 replace hst := hst.pull4.pull4.pull3.keep4
 obtain rfl := some_inj hm
 exact ⟨_, Nat.lt_succ_self _, _, (z1231 ++ ([({ Has := (t1246.1 == (0:Int)), Val := t1251.1 } : api_Got)])), t1251.2, (i64.wrap (z1235 + (1:Int))), v1269, _, hx1243, (fu 0 p0 z (fu 2 (Pt b1011 0) z (fu 4 (Pt b1122 0) z (fu 5 (.int .i64 t1131.1) z (fu 6 (.int .i64 (i64.wrap (z1235 + (1:Int)))) z z))))), hL1240, hst⟩
}
 {
 replace hm := bif_f hc1245 hm
 refine wp_iff (cvb hc1245) ?_
 refine wp_exit (then_x (then_x ?_))
 replace hm := inr_up hm hx1243
 refine blk_x (tn ?_)
 replace hst := hst.pull3.pull3.pull3.keep4
 obtain rfl := some_inj hm
 exact ⟨_, z1234, z1231, v1232, _, hx1283, (fu 0 p0 z (fu 2 (Pt b1011 0) z (fu 4 (Pt b1122 0) z z))), hL1284, hst⟩
}
}
 {
 clear hst
 rintro _ w1285 ⟨I1279, z1275, z1278, v1277, σ1280, hm, rfl, hL1281, hst⟩
 dsimp only [ref13_OfReply_j1] at hm
 replace hI0 := hI0.trans hL1281
 refine wp_seq (wrl (wv (p0) z z z ?_))
 obtain ⟨t1286, ht1287, hm⟩ := bind_some hm
 refine wc call64 [p0, I6 (3:Int)] z z z ?_
 refine (ref12_Tape_Next_ref hst.to1 ht1287).mono ?_
 rintro _ w1288 ⟨rfl, hst⟩
 refine ⟨_, z, ?_⟩
 replace hst := hst.of1
 refine wv (.int .i64 (i64.wrap (Int.tdiv t1286.1 (2:Int)))) z z (x_quo (by decide) z z) (wv (.int .i64 (i64.wrap (Int.tdiv t1286.1 (2:Int)))) z z z (wl_nil (tn (wp_seq (wp_seq (wrl (wv (.int .i64 (0:Int)) z z z (wl_nil (tn (wp_block ?_))))))))))
 replace hst := hst.own_nil (tySl ty_api_Pair)
 obtain ⟨n1798, hm⟩ := loopO_some hm
 refine wp_loop_n (fun n a w => ∃ (I1796 : HL) (z1791 : (List (List api_Pair))) (z1794 : ref12_Tape) (z1795 : Int) (v1792 : Value) (σ1797 : Nat → Value), loopN (ref13_OfReply_l3 t1286 z1123 z1124 z1125 z1278) n (z1791, z1794, z1795) = some r ∧ a = Fr 72 (upd (upd (upd (upd (upd σ1797 0 (p0)) 2 (Pt b1011 0)) 4 (Pt b1122 0)) 5 (.int .i64 (i64.wrap (Int.tdiv t1286.1 (2:Int))))) 7 (.int .i64 z1795)) ∧ I1279.le I1796 ∧ St w0 w I1796 [ownS (tySl ty_api_Pair) v1792 z1791, at_ref12_Tape p0 z1794, cells b1011 [Zi, Zu, Zu, Zs, Zs], cells b1122 [I6 z1123, U6 z1124, U6 z1125, v1277, v1792], ownS ty_api_Got v1277 z1278] R) n1798 ⟨_, [], t1286.2, (0:Int), Zs, _, hm, (fu 0 p0 z (fu 2 (Pt b1011 0) z (fu 4 (Pt b1122 0) z (fu 5 (.int .i64 (i64.wrap (Int.tdiv t1286.1 (2:Int)))) z (fu 7 (.int .i64 (0:Int)) z z))))), (HL.le.refl _), hst⟩ ?_
 rintro n1804 _ w1799 ⟨I1796, z1791, z1794, z1795, v1792, σ1797, hm, rfl, hL1800, hst⟩
 obtain ⟨n1801, y1802, rfl, hm, hx1803⟩ := loopN_some hm
 dsimp only [ref13_OfReply_l3] at hm
 replace hI0 := hI0.trans hL1800
 refine wp_seq (wp_seq (wrl (wv (.int .i64 z1795) z z z (wv (.int .i64 (i64.wrap (Int.tdiv t1286.1 (2:Int)))) z z z (wv (.bool (decide (z1795 < (i64.wrap (Int.tdiv t1286.1 (2:Int)))))) z z z (wl_nil (tn ?_)))))))
 refine bsplit (decide (z1795 < (i64.wrap (Int.tdiv t1286.1 (2:Int))))) (fun hc1805 => ?_) (fun hc1805 => ?_)
 {
 replace hm := bif_t hc1805 hm
 refine wp_ift (cvb hc1805) ?_
 refine wp_skip (tn (wp_seq (wp_block (wp_seq (wrl ?_)))))
 refine wv ((.slice none 0 0)) z z z (wl_nil (tn (wp_seq (wrl (wv (p0) z z z ?_)))))
 replace hst := hst.pull1
 obtain ⟨t1807, ht1808, hm⟩ := bind_some hm
 refine wc call64 [p0, I6 (3:Int)] z z z ?_
 refine (ref12_Tape_Next_ref hst.to1 ht1808).mono ?_
 rintro _ w1809 ⟨rfl, hst⟩
 refine ⟨_, z, ?_⟩
 replace hst := hst.of1
 refine wv (.int .i64 t1807.1) z z z (wl_nil (tn ?_))
 obtain ⟨y1950, hm, hx1951⟩ := bind_some hm
 refine wp_cut (fun a w => ∃ (I1947 : HL) (z1943 : ref12_Tape) (z1946 : (List api_Pair)) (v1945 : Value) (σ1948 : Nat → Value), (ref13_OfReply_j4 z1791 z1795) (z1943, z1946) = some y1802 ∧ a = Fr 72 (upd (upd (upd (upd (upd (upd σ1948 0 (p0)) 2 (Pt b1011 0)) 4 (Pt b1122 0)) 5 (.int .i64 (i64.wrap (Int.tdiv t1286.1 (2:Int))))) 7 (.int .i64 z1795)) 8 (v1945)) ∧ I1796.le I1947 ∧ St w0 w I1947 [at_ref12_Tape p0 z1943, cells b1011 [Zi, Zu, Zu, Zs, Zs], cells b1122 [I6 z1123, U6 z1124, U6 z1125, v1277, v1792], ownS ty_api_Got v1277 z1278, ownS (tySl ty_api_Pair) v1792 z1791, ownS ty_api_Pair v1945 z1946] R) ?_ ?_
 {
 have hL1952 := HL.le.refl I1796
 refine wp_seq (wrl (wv (.int .i64 (0:Int)) z z z (wl_nil (tn (wp_block ?_)))))
 replace hst := hst.own_nil ty_api_Pair
 obtain ⟨n1908, hm⟩ := loopO_some hm
 refine wp_loop_n (fun n a w => ∃ (I1906 : HL) (z1901 : ref12_Tape) (z1902 : Int) (z1903 : (List api_Pair)) (v1904 : Value) (σ1907 : Nat → Value), loopN (ref13_OfReply_l5 t1807) n (z1901, z1902, z1903) = some y1950 ∧ a = Fr 72 (upd (upd (upd (upd (upd (upd (upd (upd σ1907 0 (p0)) 2 (Pt b1011 0)) 4 (Pt b1122 0)) 5 (.int .i64 (i64.wrap (Int.tdiv t1286.1 (2:Int))))) 7 (.int .i64 z1795)) 8 (v1904)) 9 (.int .i64 t1807.1)) 10 (.int .i64 z1902)) ∧ I1796.le I1906 ∧ St w0 w I1906 [ownS ty_api_Pair v1904 z1903, at_ref12_Tape p0 z1901, ownS (tySl ty_api_Pair) v1792 z1791, cells b1011 [Zi, Zu, Zu, Zs, Zs], cells b1122 [I6 z1123, U6 z1124, U6 z1125, v1277, v1792], ownS ty_api_Got v1277 z1278] R) n1908 ⟨_, t1807.2, (0:Int), [], Zs, _, hm, (fu 0 p0 z (fu 2 (Pt b1011 0) z (fu 4 (Pt b1122 0) z (fu 5 (.int .i64 (i64.wrap (Int.tdiv t1286.1 (2:Int)))) z (fu 7 (.int .i64 z1795) z (fu 8 (.slice none 0 0) z (fu 9 (.int .i64 t1807.1) z (fu 10 (.int .i64 (0:Int)) z z)))))))), (HL.le.refl _), hst⟩ ?_
 rintro n1914 _ w1909 ⟨I1906, z1901, z1902, z1903, v1904, σ1907, hm, rfl, hL1910, hst⟩
 obtain ⟨n1911, y1912, rfl, hm, hx1913⟩ := loopN_some hm
 dsimp only [ref13_OfReply_l5] at hm
 replace hI0 := hI0.trans hL1910
 replace hL1800 := hL1800.trans hL1910
 replace hL1952 := hL1952.trans hL1910
 refine wp_seq (wp_seq (wrl (wv (.int .i64 z1902) z z z (wv (.int .i64 t1807.1) z z z (wv (.bool (decide (z1902 < t1807.1))) z z z (wl_nil (tn ?_)))))))
 refine bsplit (decide (z1902 < t1807.1)) (fun hc1915 => ?_) (fun hc1915 => ?_)
 {
 replace hm := bif_t hc1915 hm
 refine wp_ift (cvb hc1915) ?_
 refine wp_skip (tn (wp_seq (wp_block (wrl ?_))))
 refine wv (v1904) z z z (wv (p0) z z z ?_)
 replace hst := hst.pull1
 obtain ⟨t1916, ht1917, hm⟩ := bind_some hm
 refine wc call28 [p0] z z z ?_
 refine (ref12_Tape_Float_ref hst.to1 ht1917).mono ?_
 rintro _ w1918 ⟨rfl, hst⟩
 refine ⟨_, z, ?_⟩
 replace hst := hst.of1
 refine wv (p0) z z z ?_
 obtain ⟨t1921, ht1922, hm⟩ := bind_some hm
 refine wc call66 [p0] z z z ?_
 refine (ref12_Tape_Val_ref hst.to1 ht1922).mono ?_
 rintro _ w1923 ⟨v1926, rfl, hst⟩
 refine ⟨_, z, ?_⟩
 replace hst := hst.of2
 refine wv (.agg #[F6 t1916.1, v1926]) z z (by obtain ⟨_, _, hv_, _⟩ := hst.sv0; rw [hv_]; kernel_rfl) ?_
 obtain ⟨I1930, hI1931, f1932, hst⟩ := hst.own_fix
 replace hI0 := hI0.trans hI1931
 replace hL1800 := hL1800.trans hI1931
 replace hL1952 := hL1952.trans hI1931
 replace hL1910 := hL1910.trans hI1931
 obtain ⟨b1933, w1934, ew1935, eb1936, hst⟩ := hst.lits (E := ty_api_Pair) (xs := [({ At := t1916.1, Val := t1921.1 } : api_Pair)]) [[F6 t1916.1, v1926]] 152 1 z (Reps.cons ⟨_, z, f1932, one_of_sliceV (ro_sliceV f1932)⟩ Reps.nil)
 refine wl_run (v := (.slice (some ⟨b1933, 0, none⟩) 1 1)) (w' := w1934) z z (x_als (by kernel_rfl) ew1935 eb1936) ?_
 obtain ⟨hg1938, hm⟩ := gd_some hm
 replace hst := hst.pull2
 obtain ⟨v1939, w1940, hr1941, hst⟩ := run_append elem_81 underlying81 hst hst.src1 (room_of hg1938 z) 81
 refine wl_run (v := v1939) (w' := w1940) z z (x_append z z hr1941) ?_
 refine wv (v1939) z z z (wl_nil (blk_n (tn (wrl (wv (.int .i64 z1902) z z z (wv (.int .i64 (i64.wrap (z1902 + (1:Int)))) z z z (wv (.int .i64 (i64.wrap (z1902 + (1:Int)))) z z z (wl_nil (tn ?_)))))))))
 replace hst := hst.pull6.pull6.pull6.pull6.pull6.pull5.keep6
 obtain rfl := some_inj hm
 exact ⟨_, Nat.lt_succ_self _, _, t1921.2, (i64.wrap (z1902 + (1:Int))), (z1903 ++ ([({ At := t1916.1, Val := t1921.1 } : api_Pair)])), v1939, _, hx1913, (fu 0 p0 z (fu 2 (Pt b1011 0) z (fu 4 (Pt b1122 0) z (fu 5 (.int .i64 (i64.wrap (Int.tdiv t1286.1 (2:Int)))) z (fu 7 (.int .i64 z1795) z (fu 8 v1939 z (fu 9 (.int .i64 t1807.1) z (fu 10 (.int .i64 (i64.wrap (z1902 + (1:Int)))) z z)))))))), hL1910, hst⟩
}
 {
 replace hm := bif_f hc1915 hm
 refine wp_iff (cvb hc1915) ?_
 refine wp_exit (then_x (then_x ?_))
 replace hm := inr_up hm hx1913
 refine blk_x (tn ?_)
 replace hst := hst.pull2.pull5.pull5.pull5.pull5.keep6
 obtain rfl := some_inj hm
 exact ⟨_, z1901, z1903, v1904, _, hx1951, (fu 0 p0 z (fu 2 (Pt b1011 0) z (fu 4 (Pt b1122 0) z (fu 5 (.int .i64 (i64.wrap (Int.tdiv t1286.1 (2:Int)))) z (fu 7 (.int .i64 z1795) z (fu 8 v1904 z z)))))), hL1952, hst⟩
}
}
 {
 clear hst
 rintro _ w1953 ⟨I1947, z1943, z1946, v1945, σ1948, hm, rfl, hL1949, hst⟩
 dsimp only [ref13_OfReply_j4] at hm
 replace hI0 := hI0.trans hL1949
 replace hL1800 := hL1800.trans hL1949
 refine wrl (wv (Pt b1122 4) z z (x_field z underlying33 z sizeOf31 z) (wv (v1792) z z (x_load z isAgg31 (hst.bc2 z)) (wv (v1945) z z z ?_)))
 replace hst := hst.pull5
 obtain ⟨I1955, hI1956, f1957, hst⟩ := hst.own_fix
 replace hI0 := hI0.trans hI1956
 replace hL1800 := hL1800.trans hI1956
 obtain ⟨b1958, w1959, ew1960, eb1961, hst⟩ := hst.lits (E := (tySl ty_api_Pair)) (xs := [z1946]) [[v1945]] 81 1 z (Reps.cons ⟨_, z, f1957, one_of_sliceV (ro_sliceV f1957)⟩ Reps.nil)
 refine wl_run (v := (.slice (some ⟨b1958, 0, none⟩) 1 1)) (w' := w1959) z z (x_als (by obtain ⟨_, _, hv_, _⟩ := (ro_sliceV f1957); rw [hv_]; kernel_rfl) ew1960 eb1961) ?_
 obtain ⟨hg1963, hm⟩ := gd_some hm
 replace hst := hst.pull5
 obtain ⟨v1964, w1965, hr1966, hst⟩ := run_append elem_31 underlying31 hst hst.src1 (room_of hg1963 z) 31
 refine wl_run (v := v1964) (w' := w1965) z z (x_append z z hr1966) ?_
 refine wv (Pt b1122 4) z z (x_field z underlying33 z sizeOf31 z) ?_
 replace hst := hst.pull4
 obtain ⟨w1968, hr1969, hst⟩ := hst.boxStore1 (P := prog) (t := 31) (cs' := [I6 z1123, U6 z1124, U6 z1125, v1277, v1964]) 4 v1964 (one_of_sliceV hst.sv1) sizeOf31 z z
 refine wl_unit z z (x_unit hr1969) ?_
 refine wl_nil (blk_n (tn (wrl (wv (.int .i64 z1795) z z z (wv (.int .i64 (i64.wrap (z1795 + (1:Int)))) z z z (wv (.int .i64 (i64.wrap (z1795 + (1:Int)))) z z z (wl_nil (tn ?_))))))))
 replace hst := hst.pull5.pull1.pull5.pull5.pull4.keep5
 obtain rfl := some_inj hm
 exact ⟨_, Nat.lt_succ_self _, _, (z1791 ++ ([z1946])), z1943, (i64.wrap (z1795 + (1:Int))), v1964, _, hx1803, (fu 0 p0 z (fu 2 (Pt b1011 0) z (fu 4 (Pt b1122 0) z (fu 5 (.int .i64 (i64.wrap (Int.tdiv t1286.1 (2:Int)))) z (fu 7 (.int .i64 (i64.wrap (z1795 + (1:Int)))) z z))))), hL1800, hst⟩
}
}
 {
 replace hm := bif_f hc1805 hm
 refine wp_iff (cvb hc1805) ?_
 refine wp_exit (then_x (then_x ?_))
 replace hm := inr_up hm hx1803
 refine blk_x (tn (wp_seq (wrl ?_)))
 refine wv (.agg #[I6 z1123, U6 z1124, U6 z1125, v1277, v1792]) z z (x_loadN (cs := [I6 z1123, U6 z1124, U6 z1125, v1277, v1792]) z isAgg33 sizeOf33 (hst.bcs3 0 z)) ?_
 replace hst := hst.pull2
 obtain ⟨w1970, hr1971, hst⟩ := hst.bx [I6 z1123, U6 z1124, U6 z1125, v1277, v1792] sizeOf33 z (oC z (oC z (oC z (oC (one_of_sliceV hst.sv4) (oC (one_of_sliceV hst.sv1) oN))))) (by kernel_rfl)
 refine wl_unit z z (x_unit hr1971) ?_
 refine wl_nil (tn (wp_ret ?_))
 obtain rfl := some_inj hm
 refine post_ret (vs := [.agg #[I6 z1123, U6 z1124, U6 z1125, v1277, v1792]]) results35 (rvs_cons (rv_cell (cs := [I6 z1123, U6 z1124, U6 z1125, v1277, v1792]) z isAgg33 sizeOf33 (hst.bcs0 0 z)) rvs_nil) ?_
 replace hst := hst.pull2.pull2.pull4
 exact ⟨_, v1277, v1792, z, hI0, hst.keep3⟩
}
}
}
}

theorem lane_State_Opened_ref {w0 w : World} {I : HL} {R : SP} {a0 : (Option lane_State)} {p0 : Value} {a1 : api_ID}  (hst : St w0 w I [objO at_lane_State p0 a0] R) {r : (api_Decision × Bool)} (hm : lane_State_Opened a0 a1 = some r) :
  Calls prog 36 #[p0, .agg #[U6 a1.Session, U6 a1.Seq]] w fun e w' => ∃ (I' : HL) (q0_0 : Value), e = .returned (.tuple #[.agg #[U6 r.1.ID.Session, U6 r.1.ID.Seq, I6 r.1.E, U6 r.1.Epoch, U6 r.1.Index, U6 r.1.Shards, q0_0], .bool r.2]) ∧ I.le I' ∧ Ro ty_api_Part I' q0_0 r.1.Parts ∧ St w0 w' I' [objO at_lane_State p0 a0] R := by {
 rcases a0 with _ | o0
 {
 obtain ⟨rfl, hst'⟩ := objO_none hst
 clear hst
 have hst := hst'
 clear hst'
 dsimp only [lane_State_Opened] at hm
 refine calls_start (args := [.pointer none, .agg #[U6 a1.Session, U6 a1.Seq]]) func36 z ntmps36 (Nat.le_of_ble_eq_true z) ?_
 have hI0 := HL.le.refl I
 refine wp_seq (wrl ?_)
 obtain ⟨b238, w239, ew240, eb241, hst⟩ := hst.box [U6 a1.Session, U6 a1.Seq] 28
 refine wl_run (v := Pt b238 0) (w' := w239) z z (x_al (by kernel_rfl) ew240 eb241) ?_
 obtain ⟨b244, w245, ew246, eb247, hst⟩ := hst.box [Zu, Zu, Zi, Zu, Zu, Zu, Zs] 89
 refine wl_run (v := Pt b244 0) (w' := w245) z z (x_al (by kernel_rfl) ew246 eb247) ?_
 refine wv (.bool false) z z z (wl_nil (tn (wp_seq (wp_seq (wrl (wv (.pointer none) z z z (wv (.bool true) z z (by kernel_rfl) (wl_nil (tn ?_)))))))))
 refine wp_ift z ?_
 refine wp_seq (wrl (wv (.agg #[Zu, Zu, Zi, Zu, Zu, Zu, Zs]) z z (by kernel_rfl) ?_))
 obtain ⟨w250, hr251, hst⟩ := hst.bx [Zu, Zu, Zi, Zu, Zu, Zu, Zs] sizeOf89 z (oC z (oC z (oC z (oC z (oC z (oC z (oC z oN))))))) (by kernel_rfl)
 refine wl_unit z z (x_unit hr251) ?_
 refine wv (.bool false) z z z (wl_nil (tn (wp_ret (then_r ?_))))
 have f252 : Ro ty_api_Part I (.slice none 0 0) [] := ro_nil
 replace hst := hst.objO_nil at_lane_State
 obtain rfl := some_inj hm
 refine post_ret (vs := [.agg #[Zu, Zu, Zi, Zu, Zu, Zu, Zs], .bool false]) results36 (rvs_cons (rv_cell (cs := [Zu, Zu, Zi, Zu, Zu, Zu, Zs]) z isAgg89 sizeOf89 (hst.bcs1 0 z)) (rvs_cons (rv_tmp z) rvs_nil)) ?_
 exact ⟨_, Zs, z, hI0, f252, hst.keep1⟩
}
 {
 replace hst := objO_get hst
 dsimp only [lane_State_Opened] at hm
 refine calls_start (args := [p0, .agg #[U6 a1.Session, U6 a1.Seq]]) func36 z ntmps36 (Nat.le_of_ble_eq_true z) ?_
 have hI0 := HL.le.refl I
 refine wp_seq (wrl ?_)
 obtain ⟨b253, w254, ew255, eb256, hst⟩ := hst.box [U6 a1.Session, U6 a1.Seq] 28
 refine wl_run (v := Pt b253 0) (w' := w254) z z (x_al (by kernel_rfl) ew255 eb256) ?_
 obtain ⟨b259, w260, ew261, eb262, hst⟩ := hst.box [Zu, Zu, Zi, Zu, Zu, Zu, Zs] 89
 refine wl_run (v := Pt b259 0) (w' := w260) z z (x_al (by kernel_rfl) ew261 eb262) ?_
 refine wv (.bool false) z z z (wl_nil (tn (wp_seq (wp_seq (wrl (wv (p0) z z z ?_))))))
 replace hst := hst.pull2
 obtain ⟨b264, v265, v267, v269, v271, v273, v275, v277, rfl, hst'⟩ := at_lane_State_open hst
 clear hst
 have hst := hst'
 clear hst'
 refine wv (.bool false) z z (by kernel_rfl) (wl_nil (tn ?_))
 refine wp_iff z ?_
 refine wp_skip (tn (wp_seq (wrl ?_)))
 refine wv (Pt b264 0) z z z (wv (.agg #[U6 a1.Session, U6 a1.Seq]) z z (x_loadN (cs := [U6 a1.Session, U6 a1.Seq]) z isAgg28 sizeOf28 (hst.bcs9 0 z)) ?_)
 replace hst := hst.pull7.pull7.pull7.pull7.pull7.pull7.pull7.pull7
 replace hst := at_lane_State_close (pv := Pt b264 0) (x := o0) hst z
 replace hst := objO_some hst
 obtain ⟨t279, ht280, hm⟩ := bind_some hm
 refine wc call51 [Pt b264 0, .agg #[U6 a1.Session, U6 a1.Seq]] z z z ?_
 refine (lane_State_find_ref hst.to1 ht280).mono ?_
 rintro _ w281 ⟨rfl, hst⟩
 refine ⟨_, z, ?_⟩
 replace hst := hst.of1
 replace hst := objO_get hst
 refine wv (.tuple #[I6 t279.1, .bool t279.2]) z z z (wv (.int .i64 t279.1) z z z (wv (.bool t279.2) z z z (wv (.int .i64 t279.1) z z z (wv (.bool t279.2) z z z (wl_nil (tn (wp_seq (wp_seq (wrl (wv (.bool t279.2) z z z (wv (.bool (!t279.2)) z z z (wl_nil (tn ?_)))))))))))))
 refine bsplit (!t279.2) (fun hc284 => ?_) (fun hc284 => ?_)
 {
 replace hm := bif_t hc284 hm
 refine wp_ift (cvb hc284) ?_
 refine wp_seq (wrl (wv (.agg #[Zu, Zu, Zi, Zu, Zu, Zu, Zs]) z z (by kernel_rfl) ?_))
 replace hst := hst.pull1
 obtain ⟨w286, hr287, hst⟩ := hst.bx [Zu, Zu, Zi, Zu, Zu, Zu, Zs] sizeOf89 z (oC z (oC z (oC z (oC z (oC z (oC z (oC z oN))))))) (by kernel_rfl)
 refine wl_unit z z (x_unit hr287) ?_
 refine wv (.bool false) z z z (wl_nil (tn (wp_ret (then_r ?_))))
 have f288 : Ro ty_api_Part I (.slice none 0 0) [] := ro_nil
 replace hst := hst.pull1
 replace hst := objO_some hst
 obtain rfl := some_inj hm
 refine post_ret (vs := [.agg #[Zu, Zu, Zi, Zu, Zu, Zu, Zs], .bool false]) results36 (rvs_cons (rv_cell (cs := [Zu, Zu, Zi, Zu, Zu, Zu, Zs]) z isAgg89 sizeOf89 (hst.bcs1 0 z)) (rvs_cons (rv_tmp z) rvs_nil)) ?_
 exact ⟨_, Zs, z, hI0, f288, hst.keep1⟩
}
 {
 replace hm := bif_f hc284 hm
 refine wp_iff (cvb hc284) ?_
 refine wp_skip (tn (wp_seq (wrl ?_)))
 refine wv (Pt b264 0) z z z ?_
 obtain ⟨b289, v290, v292, v294, v296, v298, v300, v302, e304, hst'⟩ := at_lane_State_open hst
 clear hst
 have e304 := ptr_inj e304
 subst e304
 have hst := hst'
 clear hst'
 refine wv (Pt b264 0) z z z (wv (Pt b264 6) z z (x_field z underlying111 z sizeOf65 z) (wv (v298) z z (x_load z isAgg65 (hst.bc0 z)) (wv (.int .i64 t279.1) z z z ?_)))
 obtain ⟨x305, hx306, hm⟩ := bind_some hm
 obtain ⟨h307, h308, hi309⟩ := geto_some hx306
 refine wv (.pointer (some (eAddr v298 (t279.1.toNat * 7 + 0)))) z z (x_index z z underlying65 sizeOf89 hst.sv5 h307 h308) ?_
 obtain ⟨cs310, hr311, hc312⟩ := hst.og5 hi309
 obtain ⟨v313, rfl, f314, -⟩ := hr311
 refine wv (.agg #[U6 x305.ID.Session, U6 x305.ID.Seq, I6 x305.E, U6 x305.Epoch, U6 x305.Index, U6 x305.Shards, v313]) z z (x_loadN (cs := [U6 x305.ID.Session, U6 x305.ID.Seq, I6 x305.E, U6 x305.Epoch, U6 x305.Index, U6 x305.Shards, v313]) z isAgg89 sizeOf89 (eCells (o := 0) hc312 z)) ?_
 replace hst := hst.pull8
 obtain ⟨w316, hr317, hst⟩ := hst.bx [U6 x305.ID.Session, U6 x305.ID.Seq, I6 x305.E, U6 x305.Epoch, U6 x305.Index, U6 x305.Shards, v313] sizeOf89 z (oC z (oC z (oC z (oC z (oC z (oC z (oC (one_of_sliceV (ro_sliceV f314)) oN))))))) (by kernel_rfl)
 refine wl_unit z z (x_unit hr317) ?_
 refine wv (.bool true) z z z (wl_nil (tn (wp_ret ?_)))
 replace hst := hst.pull8.pull8.pull8.pull8.pull8.pull8.pull8.pull8
 replace hst := at_lane_State_close (pv := Pt b264 0) (x := o0) hst z
 replace hst := objO_some hst
 obtain rfl := some_inj hm
 refine post_ret (vs := [.agg #[U6 x305.ID.Session, U6 x305.ID.Seq, I6 x305.E, U6 x305.Epoch, U6 x305.Index, U6 x305.Shards, v313], .bool true]) results36 (rvs_cons (rv_cell (cs := [U6 x305.ID.Session, U6 x305.ID.Seq, I6 x305.E, U6 x305.Epoch, U6 x305.Index, U6 x305.Shards, v313]) z isAgg89 sizeOf89 (hst.bcs1 0 z)) (rvs_cons (rv_tmp z) rvs_nil)) ?_
 exact ⟨_, v313, z, hI0, f314, hst.keep1⟩
}
}
}

theorem session_Table_Get_ref {w0 w : World} {I : HL} {R : SP} {a0 : (Option session_Table)} {p0 : Value} {a1 : Int} {a2 : Int}  (hst : St w0 w I [objO at_session_Table p0 a0] R) {r : (api_Reply × Int)} (hm : session_Table_Get a0 a1 a2 = some r) :
  Calls prog 82 #[p0, U6 a1, U6 a2] w fun e w' => ∃ (I' : HL) (q0_0 : Value) (q0_1 : Value), e = .returned (.tuple #[.agg #[I6 r.1.E, U6 r.1.Epoch, U6 r.1.Index, q0_0, q0_1], I6 r.2]) ∧ I.le I' ∧ Ro ty_api_Got I' q0_0 r.1.Gots ∧ Ro (tySl ty_api_Pair) I' q0_1 r.1.Scans ∧ St w0 w' I' [objO at_session_Table p0 a0] R := by {
 rcases a0 with _ | o0
 {
 obtain ⟨rfl, hst'⟩ := objO_none hst
 clear hst
 have hst := hst'
 clear hst'
 dsimp only [session_Table_Get] at hm
 refine calls_start (args := [.pointer none, U6 a1, U6 a2]) func82 z ntmps82 (Nat.le_of_ble_eq_true z) ?_
 have hI0 := HL.le.refl I
 refine wp_seq (wrl ?_)
 obtain ⟨b286, w287, ew288, eb289, hst⟩ := hst.box [Zi, Zu, Zu, Zs, Zs] 33
 refine wl_run (v := Pt b286 0) (w' := w287) z z (x_al (by kernel_rfl) ew288 eb289) ?_
 refine wv (.int .i64 (0:Int)) z z z (wl_nil (tn (wp_seq (wrl (wv (.pointer none) z z z (wv (.int .u64 a1) z z z ?_))))))
 replace hst := hst.objO_nil at_session_Table
 obtain ⟨t292, ht293, hm⟩ := bind_some hm
 refine wc call148 [.pointer none, U6 a1] z z z ?_
 refine (session_Table_find_ref hst.to1 ht293).mono ?_
 rintro _ w294 ⟨rfl, hst⟩
 refine ⟨_, z, ?_⟩
 replace hst := hst.of1
 refine wv (.tuple #[I6 t292.1, .bool t292.2]) z z z (wv (.int .i64 t292.1) z z z (wv (.bool t292.2) z z z (wv (.int .i64 t292.1) z z z (wv (.bool t292.2) z z z (wl_nil (tn (wp_seq (wp_block (wp_seq (wrl (wv (.bool t292.2) z z z (wv (.bool (!t292.2)) z z z (wv (.bool (!t292.2)) z z z ?_)))))))))))))
 refine bsplit (!t292.2) (fun hc297 => ?_) (fun hc297 => ?_)
 {
 replace hm := bif_t hc297 hm
 refine wo hc297 z z z z z z (wo hc297 z z z z z z (wo hc297 z z z z z z (wo hc297 z z z z z z (wo hc297 z z z z z z (wo hc297 z z z z z z (wo hc297 z z z z z z (wo hc297 z z z z z z (wo hc297 z z z z z z (wo hc297 z z z z z z (wv (.bool true) z z (x_pick_t hc297 z z) (wv (.bool true) z z z (wl_nil (tn ?_)))))))))))))
 refine wp_ift z ?_
 refine wp_seq (wrl (wv (.agg #[Zi, Zu, Zu, Zs, Zs]) z z (by kernel_rfl) ?_))
 replace hst := hst.pull1
 obtain ⟨w300, hr301, hst⟩ := hst.bx [Zi, Zu, Zu, Zs, Zs] sizeOf33 z (oC z (oC z (oC z (oC z (oC z oN))))) (by kernel_rfl)
 refine wl_unit z z (x_unit hr301) ?_
 refine wv (.int .i64 (2:Int)) z z z (wl_nil (tn (wp_ret (blk_r (then_r ?_)))))
 have f302 : Ro ty_api_Got I (.slice none 0 0) [] := ro_nil
 have f303 : Ro (tySl ty_api_Pair) I (.slice none 0 0) [] := ro_nil
 replace hst := hst.objO_nil at_session_Table
 obtain rfl := some_inj hm
 refine post_ret (vs := [.agg #[Zi, Zu, Zu, Zs, Zs], I6 (2:Int)]) results82 (rvs_cons (rv_cell (cs := [Zi, Zu, Zu, Zs, Zs]) z isAgg33 sizeOf33 (hst.bcs1 0 z)) (rvs_cons (rv_tmp z) rvs_nil)) ?_
 exact ⟨_, Zs, Zs, z, hI0, f302, f303, hst.keep1⟩
}
 {
 replace hm := bif_f hc297 hm
 refine wv (.pointer none) ((wanted_eq z z z (cvb hc297)).trans z) z z ?_
 cases hm
}
}
 {
 replace hst := objO_get hst
 dsimp only [session_Table_Get] at hm
 refine calls_start (args := [p0, U6 a1, U6 a2]) func82 z ntmps82 (Nat.le_of_ble_eq_true z) ?_
 have hI0 := HL.le.refl I
 refine wp_seq (wrl ?_)
 obtain ⟨b306, w307, ew308, eb309, hst⟩ := hst.box [Zi, Zu, Zu, Zs, Zs] 33
 refine wl_run (v := Pt b306 0) (w' := w307) z z (x_al (by kernel_rfl) ew308 eb309) ?_
 refine wv (.int .i64 (0:Int)) z z z (wl_nil (tn (wp_seq (wrl (wv (p0) z z z (wv (.int .u64 a1) z z z ?_))))))
 replace hst := hst.pull1
 replace hst := objO_some hst
 obtain ⟨t311, ht312, hm⟩ := bind_some hm
 refine wc call148 [p0, U6 a1] z z z ?_
 refine (session_Table_find_ref hst.to1 ht312).mono ?_
 rintro _ w313 ⟨rfl, hst⟩
 refine ⟨_, z, ?_⟩
 replace hst := hst.of1
 replace hst := objO_get hst
 refine wv (.tuple #[I6 t311.1, .bool t311.2]) z z z (wv (.int .i64 t311.1) z z z (wv (.bool t311.2) z z z (wv (.int .i64 t311.1) z z z (wv (.bool t311.2) z z z (wl_nil (tn (wp_seq (wp_block (wp_seq (wrl (wv (.bool t311.2) z z z (wv (.bool (!t311.2)) z z z (wv (.bool (!t311.2)) z z z ?_)))))))))))))
 refine bsplit (!t311.2) (fun hc316 => ?_) (fun hc316 => ?_)
 {
 replace hm := bif_t hc316 hm
 refine wo hc316 z z z z z z (wo hc316 z z z z z z (wo hc316 z z z z z z (wo hc316 z z z z z z (wo hc316 z z z z z z (wo hc316 z z z z z z (wo hc316 z z z z z z (wo hc316 z z z z z z (wo hc316 z z z z z z (wo hc316 z z z z z z (wv (.bool true) z z (x_pick_t hc316 z z) (wv (.bool true) z z z (wl_nil (tn ?_)))))))))))))
 refine wp_ift z ?_
 refine wp_seq (wrl (wv (.agg #[Zi, Zu, Zu, Zs, Zs]) z z (by kernel_rfl) ?_))
 replace hst := hst.pull1
 obtain ⟨w319, hr320, hst⟩ := hst.bx [Zi, Zu, Zu, Zs, Zs] sizeOf33 z (oC z (oC z (oC z (oC z (oC z oN))))) (by kernel_rfl)
 refine wl_unit z z (x_unit hr320) ?_
 refine wv (.int .i64 (2:Int)) z z z (wl_nil (tn (wp_ret (blk_r (then_r ?_)))))
 have f321 : Ro ty_api_Got I (.slice none 0 0) [] := ro_nil
 have f322 : Ro (tySl ty_api_Pair) I (.slice none 0 0) [] := ro_nil
 replace hst := hst.pull1
 replace hst := objO_some hst
 obtain rfl := some_inj hm
 refine post_ret (vs := [.agg #[Zi, Zu, Zu, Zs, Zs], I6 (2:Int)]) results82 (rvs_cons (rv_cell (cs := [Zi, Zu, Zu, Zs, Zs]) z isAgg33 sizeOf33 (hst.bcs1 0 z)) (rvs_cons (rv_tmp z) rvs_nil)) ?_
 exact ⟨_, Zs, Zs, z, hI0, f321, f322, hst.keep1⟩
}
 {
 replace hm := bif_f hc316 hm
 refine wv (p0) ((wanted_eq z z z (cvb hc316)).trans z) z z ?_
 obtain ⟨b323, v324, rfl, hst'⟩ := at_session_Table_open hst
 clear hst
 have hst := hst'
 clear hst'
 refine wv (Pt b323 0) ((wanted_eq z z z (cvb hc316)).trans z) z z (wv (Pt b323 0) ((wanted_eq z z z (cvb hc316)).trans z) z (x_field z underlying206 z sizeOf204 z) (wv (v324) ((wanted_eq z z z (cvb hc316)).trans z) z (x_load z isAgg204 (hst.bc0 z)) (wv (.int .i64 t311.1) ((wanted_eq z z z (cvb hc316)).trans z) z z ?_)))
 obtain ⟨x326, hx327, hm⟩ := bind_some hm
 obtain ⟨h328, h329, hi330⟩ := geto_some hx327
 refine wv (.pointer (some (eAddr v324 (t311.1.toNat * 7 + 0)))) ((wanted_eq z z z (cvb hc316)).trans z) z (x_index z z underlying204 sizeOf242 hst.sv1 h328 h329) (wv (.pointer (some (eAddr v324 (t311.1.toNat * 7 + 1)))) ((wanted_eq z z z (cvb hc316)).trans z) z (x_field_e z underlying242 z sizeOf26 z) ?_)
 obtain ⟨cs331, hr332, hc333⟩ := hst.og1 hi330
 obtain ⟨v334, v337, rfl, f335, f338, -⟩ := hr332
 refine wv (.int .u64 x326.seq) ((wanted_eq z z z (cvb hc316)).trans z) z (x_load z isAgg26 (hc333 1 _ z)) (wv (.int .u64 a2) ((wanted_eq z z z (cvb hc316)).trans z) z z (wv (.bool (decide (x326.seq < a2))) ((wanted_eq z z z (cvb hc316)).trans z) z z (wv (.bool (decide (x326.seq < a2))) z z (x_pick_f hc316 z z) (wv (.bool (decide (x326.seq < a2))) z z z (wl_nil (tn ?_))))))
 refine bsplit (decide (x326.seq < a2)) (fun hc340 => ?_) (fun hc340 => ?_)
 {
 replace hm := bif_t hc340 hm
 refine wp_ift (cvb hc340) ?_
 refine wp_seq (wrl (wv (.agg #[Zi, Zu, Zu, Zs, Zs]) z z (by kernel_rfl) ?_))
 replace hst := hst.pull2
 obtain ⟨w343, hr344, hst⟩ := hst.bx [Zi, Zu, Zu, Zs, Zs] sizeOf33 z (oC z (oC z (oC z (oC z (oC z oN))))) (by kernel_rfl)
 refine wl_unit z z (x_unit hr344) ?_
 refine wv (.int .i64 (2:Int)) z z z (wl_nil (tn (wp_ret (blk_r (then_r ?_)))))
 have f345 : Ro ty_api_Got I (.slice none 0 0) [] := ro_nil
 have f346 : Ro (tySl ty_api_Pair) I (.slice none 0 0) [] := ro_nil
 replace hst := hst.pull2.pull2
 replace hst := at_session_Table_close (pv := Pt b323 0) (x := o0) hst z
 replace hst := objO_some hst
 obtain rfl := some_inj hm
 refine post_ret (vs := [.agg #[Zi, Zu, Zu, Zs, Zs], I6 (2:Int)]) results82 (rvs_cons (rv_cell (cs := [Zi, Zu, Zu, Zs, Zs]) z isAgg33 sizeOf33 (hst.bcs1 0 z)) (rvs_cons (rv_tmp z) rvs_nil)) ?_
 exact ⟨_, Zs, Zs, z, hI0, f345, f346, hst.keep1⟩
}
 {
 replace hm := bif_f hc340 hm
 refine wp_iff (cvb hc340) ?_
 refine wp_seq (wrl (wv (Pt b323 0) z z z (wv (Pt b323 0) z z z (wv (Pt b323 0) z z (x_field z underlying206 z sizeOf204 z) (wv (v324) z z (x_load z isAgg204 (hst.bc0 z)) (wv (.int .i64 t311.1) z z z (wv (.pointer (some (eAddr v324 (t311.1.toNat * 7 + 0)))) z z (x_index z z underlying204 sizeOf242 hst.sv1 h328 h329) (wv (.pointer (some (eAddr v324 (t311.1.toNat * 7 + 1)))) z z (x_field_e z underlying242 z sizeOf26 z) (wv (.int .u64 x326.seq) z z (x_load z isAgg26 (hc333 1 _ z)) (wv (.int .u64 a2) z z z (wv (.bool (decide (x326.seq > a2))) z z z (wv (.bool (decide (x326.seq > a2))) z z z (wl_nil (tn ?_))))))))))))))
 refine bsplit (decide (x326.seq > a2)) (fun hc347 => ?_) (fun hc347 => ?_)
 {
 replace hm := bif_t hc347 hm
 refine wp_ift (cvb hc347) ?_
 refine wp_seq (wrl (wv (.agg #[Zi, Zu, Zu, Zs, Zs]) z z (by kernel_rfl) ?_))
 replace hst := hst.pull2
 obtain ⟨w350, hr351, hst⟩ := hst.bx [Zi, Zu, Zu, Zs, Zs] sizeOf33 z (oC z (oC z (oC z (oC z (oC z oN))))) (by kernel_rfl)
 refine wl_unit z z (x_unit hr351) ?_
 refine wv (.int .i64 (10:Int)) z z z (wl_nil (tn (wp_ret (blk_r (then_r ?_)))))
 have f352 : Ro ty_api_Got I (.slice none 0 0) [] := ro_nil
 have f353 : Ro (tySl ty_api_Pair) I (.slice none 0 0) [] := ro_nil
 replace hst := hst.pull2.pull2
 replace hst := at_session_Table_close (pv := Pt b323 0) (x := o0) hst z
 replace hst := objO_some hst
 obtain rfl := some_inj hm
 refine post_ret (vs := [.agg #[Zi, Zu, Zu, Zs, Zs], I6 (10:Int)]) results82 (rvs_cons (rv_cell (cs := [Zi, Zu, Zu, Zs, Zs]) z isAgg33 sizeOf33 (hst.bcs1 0 z)) (rvs_cons (rv_tmp z) rvs_nil)) ?_
 exact ⟨_, Zs, Zs, z, hI0, f352, f353, hst.keep1⟩
}
 {
 replace hm := bif_f hc347 hm
 refine wp_iff (cvb hc347) ?_
 refine wp_skip (blk_n (tn (wp_seq (wrl ?_))))
 refine wv (Pt b323 0) z z z (wv (Pt b323 0) z z z (wv (Pt b323 0) z z (x_field z underlying206 z sizeOf204 z) (wv (v324) z z (x_load z isAgg204 (hst.bc0 z)) (wv (.int .i64 t311.1) z z z (wv (.pointer (some (eAddr v324 (t311.1.toNat * 7 + 0)))) z z (x_index z z underlying204 sizeOf242 hst.sv1 h328 h329) (wv (.pointer (some (eAddr v324 (t311.1.toNat * 7 + 2)))) z z (x_field_e z underlying242 z sizeOf33 z) (wv (.agg #[I6 x326.r.E, U6 x326.r.Epoch, U6 x326.r.Index, v334, v337]) z z (x_loadN (cs := [I6 x326.r.E, U6 x326.r.Epoch, U6 x326.r.Index, v334, v337]) z isAgg33 sizeOf33 (eCells (o := 2) hc333 z)) ?_)))))))
 replace hst := hst.pull2
 obtain ⟨w354, hr355, hst⟩ := hst.bx [I6 x326.r.E, U6 x326.r.Epoch, U6 x326.r.Index, v334, v337] sizeOf33 z (oC z (oC z (oC z (oC (one_of_sliceV (ro_sliceV f335)) (oC (one_of_sliceV (ro_sliceV f338)) oN))))) (by kernel_rfl)
 refine wl_unit z z (x_unit hr355) ?_
 refine wv (.int .i64 (0:Int)) z z z (wl_nil (tn (wp_ret ?_)))
 replace hst := hst.pull2.pull2
 replace hst := at_session_Table_close (pv := Pt b323 0) (x := o0) hst z
 replace hst := objO_some hst
 obtain rfl := some_inj hm
 refine post_ret (vs := [.agg #[I6 x326.r.E, U6 x326.r.Epoch, U6 x326.r.Index, v334, v337], Zi]) results82 (rvs_cons (rv_cell (cs := [I6 x326.r.E, U6 x326.r.Epoch, U6 x326.r.Index, v334, v337]) z isAgg33 sizeOf33 (hst.bcs1 0 z)) (rvs_cons (rv_tmp z) rvs_nil)) ?_
 exact ⟨_, v334, v337, z, hI0, f335, f338, hst.keep1⟩
}
}
}
}
}

theorem lane_State_Answer_ref {w0 w : World} {I : HL} {R : SP} {a0 : (Option lane_State)} {p0 : Value} {a1 : api_ID}  (hst : St w0 w I [objO at_lane_State p0 a0] R) {r : (api_Reply × Int)} (hm : lane_State_Answer a0 a1 = some r) :
  Calls prog 37 #[p0, .agg #[U6 a1.Session, U6 a1.Seq]] w fun e w' => ∃ (I' : HL) (q0_0 : Value) (q0_1 : Value), e = .returned (.tuple #[.agg #[I6 r.1.E, U6 r.1.Epoch, U6 r.1.Index, q0_0, q0_1], I6 r.2]) ∧ I.le I' ∧ Ro ty_api_Got I' q0_0 r.1.Gots ∧ Ro (tySl ty_api_Pair) I' q0_1 r.1.Scans ∧ St w0 w' I' [objO at_lane_State p0 a0] R := by {
 rcases a0 with _ | o0
 {
 obtain ⟨rfl, hst'⟩ := objO_none hst
 clear hst
 have hst := hst'
 clear hst'
 dsimp only [lane_State_Answer] at hm
 refine calls_start (args := [.pointer none, .agg #[U6 a1.Session, U6 a1.Seq]]) func37 z ntmps37 (Nat.le_of_ble_eq_true z) ?_
 have hI0 := HL.le.refl I
 refine wp_seq (wrl ?_)
 obtain ⟨b232, w233, ew234, eb235, hst⟩ := hst.box [U6 a1.Session, U6 a1.Seq] 28
 refine wl_run (v := Pt b232 0) (w' := w233) z z (x_al (by kernel_rfl) ew234 eb235) ?_
 obtain ⟨b239, w240, ew241, eb242, hst⟩ := hst.box [Zi, Zu, Zu, Zs, Zs] 33
 refine wl_run (v := Pt b239 0) (w' := w240) z z (x_al (by kernel_rfl) ew241 eb242) ?_
 refine wv (.int .i64 (0:Int)) z z z (wl_nil (tn (wp_seq (wp_seq (wrl (wv (.pointer none) z z z (wv (.bool true) z z (by kernel_rfl) (wl_nil (tn ?_)))))))))
 refine wp_ift z ?_
 refine wp_seq (wrl (wv (.agg #[Zi, Zu, Zu, Zs, Zs]) z z (by kernel_rfl) ?_))
 obtain ⟨w246, hr247, hst⟩ := hst.bx [Zi, Zu, Zu, Zs, Zs] sizeOf33 z (oC z (oC z (oC z (oC z (oC z oN))))) (by kernel_rfl)
 refine wl_unit z z (x_unit hr247) ?_
 refine wv (.int .i64 (2:Int)) z z z (wl_nil (tn (wp_ret (then_r ?_))))
 have f248 : Ro ty_api_Got I (.slice none 0 0) [] := ro_nil
 have f249 : Ro (tySl ty_api_Pair) I (.slice none 0 0) [] := ro_nil
 replace hst := hst.objO_nil at_lane_State
 obtain rfl := some_inj hm
 refine post_ret (vs := [.agg #[Zi, Zu, Zu, Zs, Zs], I6 (2:Int)]) results37 (rvs_cons (rv_cell (cs := [Zi, Zu, Zu, Zs, Zs]) z isAgg33 sizeOf33 (hst.bcs1 0 z)) (rvs_cons (rv_tmp z) rvs_nil)) ?_
 exact ⟨_, Zs, Zs, z, hI0, f248, f249, hst.keep1⟩
}
 {
 replace hst := objO_get hst
 dsimp only [lane_State_Answer] at hm
 refine calls_start (args := [p0, .agg #[U6 a1.Session, U6 a1.Seq]]) func37 z ntmps37 (Nat.le_of_ble_eq_true z) ?_
 have hI0 := HL.le.refl I
 refine wp_seq (wrl ?_)
 obtain ⟨b250, w251, ew252, eb253, hst⟩ := hst.box [U6 a1.Session, U6 a1.Seq] 28
 refine wl_run (v := Pt b250 0) (w' := w251) z z (x_al (by kernel_rfl) ew252 eb253) ?_
 obtain ⟨b257, w258, ew259, eb260, hst⟩ := hst.box [Zi, Zu, Zu, Zs, Zs] 33
 refine wl_run (v := Pt b257 0) (w' := w258) z z (x_al (by kernel_rfl) ew259 eb260) ?_
 refine wv (.int .i64 (0:Int)) z z z (wl_nil (tn (wp_seq (wp_seq (wrl (wv (p0) z z z ?_))))))
 replace hst := hst.pull2
 obtain ⟨b262, v263, v265, v267, v269, v271, v273, v275, rfl, hst'⟩ := at_lane_State_open hst
 clear hst
 have hst := hst'
 clear hst'
 refine wv (.bool false) z z (by kernel_rfl) (wl_nil (tn ?_))
 refine wp_iff z ?_
 refine wp_skip (tn (wp_seq ?_))
 refine wp_region_St hst 13 [0, 1, 2, 3, 4, 5, 6, 7, 8, 9, 10, 11, 12] [0, 1, 3, 7, 0, 16, 0, 64, 255, 511, 511, 2047, 4095] [] z (by kernel_rfl) (by kernel_rfl) Tryz.mixed (by kernel_rfl) ?_
 refine wsr (Pt b262 0) 0 z z z (by kernel_rfl) (fun w hst => z) (wsr (Pt b262 0) 1 z z z (by kernel_rfl) (fun w hst => z) (wsr (Pt b262 4) 2 z z z (by kernel_rfl) (fun w hst => x_field z underlying111 z sizeOf105 z) (wsr (v267) 3 z z z (by kernel_rfl) (fun w hst => x_load z isAgg105 (hst.bc0 z)) (wsr (Pt b250 0) 4 z z z (by kernel_rfl) (fun w hst => x_field z underlying28 z sizeOf26 z) (wsr (.int .u64 a1.Session) 5 z z z (by kernel_rfl) (fun w hst => x_load z isAgg26 (hst.bc9 z)) (wsr (Pt b250 1) 6 z z z (by kernel_rfl) (fun w hst => x_field z underlying28 z sizeOf26 z) (wsr (.int .u64 a1.Seq) 7 z z z (by kernel_rfl) (fun w hst => x_load z isAgg26 (hst.bc9 z)) ?_)))))))
 refine ws_e1 8 (by kernel_rfl) ?_
 refine nxe [9, 10, 11, 12] (by kernel_rfl) z z ?_
 clear hst
 intro w hst
 replace hst := hst.pull3
 obtain ⟨t277, ht278, hm⟩ := bind_some hm
 refine wec call82 [v267, U6 a1.Session, U6 a1.Seq] z z ?_
 refine (session_Table_Get_ref hst.to1 ht278).mono ?_
 rintro _ w279 ⟨I280, v282, v285, rfl, hI281, f284, f287, hst⟩
 refine ⟨_, z, ?_⟩
 replace hst := hst.of1
 replace hI0 := hI0.trans hI281
 refine ws_next (pend' := []) hst (by kernel_rfl) pk_nil ?_
 refine wsr (.agg #[I6 t277.1.E, U6 t277.1.Epoch, U6 t277.1.Index, v282, v285]) 9 z z z (by kernel_rfl) (fun w hst => z) (wsr (.int .i64 t277.2) 10 z z z (by kernel_rfl) (fun w hst => z) ?_)
 refine ws_e1 11 (by kernel_rfl) ?_
 refine nxe [12] (by kernel_rfl) z z ?_
 clear hst
 intro w hst
 replace hst := hst.pull8
 obtain ⟨w288, hr289, hst⟩ := hst.bx [I6 t277.1.E, U6 t277.1.Epoch, U6 t277.1.Index, v282, v285] sizeOf33 z (oC z (oC z (oC z (oC (one_of_sliceV (ro_sliceV f284)) (oC (one_of_sliceV (ro_sliceV f287)) oN))))) (by kernel_rfl)
 refine we_unit z (x_unit hr289) ?_
 refine ws_next (pend' := []) hst (by kernel_rfl) pk_nil ?_
 refine wsr (.int .i64 t277.2) 12 z z z (by kernel_rfl) (fun w hst => z) ?_
 refine ws_nil ?_
 intro w hst
 refine tn (wp_ret ?_)
 replace hst := hst.pull8.pull8.pull8.pull8.pull5.pull8.pull8.pull8
 replace hst := at_lane_State_close (pv := Pt b262 0) (x := o0) hst z
 replace hst := objO_some hst
 obtain rfl := some_inj hm
 refine post_ret (vs := [.agg #[I6 t277.1.E, U6 t277.1.Epoch, U6 t277.1.Index, v282, v285], I6 t277.2]) results37 (rvs_cons (rv_cell (cs := [I6 t277.1.E, U6 t277.1.Epoch, U6 t277.1.Index, v282, v285]) z isAgg33 sizeOf33 (hst.bcs1 0 z)) (rvs_cons (rv_tmp z) rvs_nil)) ?_
 exact ⟨_, v282, v285, z, hI0, f284, f287, hst.keep1⟩
}
}

theorem ref11_SameGots_ref {w0 w : World} {I : HL} {R : SP} {a0 : (List api_Got)} {r0_0 : Value} {a1 : (List api_Got)} {r1_0 : Value} (f0_0 : Rd ty_api_Got R I r0_0 a0) (f1_0 : Rd ty_api_Got R I r1_0 a1) (hst : St w0 w I [] R) {r : (Bool)} (hm : ref11_SameGots a0 a1 = some r) :
  Calls prog 78 #[r0_0, r1_0] w fun e w' => e = .returned (.bool r) ∧ St w0 w' I [] R := by {
 unfold ref11_SameGots at hm
 refine calls_start (args := [r0_0, r1_0]) func78 z ntmps78 (Nat.le_of_ble_eq_true z) ?_
 refine wp_seq (wrl (wv (.bool false) z z z (wl_nil (tn (wp_seq (wp_seq (wrl (wv (r0_0) z z z (wv (.int .i64 ((a0).length : Int)) z z (x_len z underlying30 (rd_sliceV f0_0)) (wv (r1_0) z z z (wv (.int .i64 ((a1).length : Int)) z z (x_len z underlying30 (rd_sliceV f1_0)) (wv (.bool (((a0).length : Int) != ((a1).length : Int))) z z z (wl_nil (tn ?_))))))))))))))
 refine bsplit (((a0).length : Int) != ((a1).length : Int)) (fun hc403 => ?_) (fun hc403 => ?_)
 {
 replace hm := bif_t hc403 hm
 refine wp_ift (cvb hc403) ?_
 refine wp_seq (wrl (wv (.bool false) z z z (wl_nil (tn (wp_ret (then_r ?_))))))
 obtain rfl := some_inj hm
 refine post_ret (vs := [.bool false]) results78 (rvs_cons (rv_tmp z) rvs_nil) ?_
 exact ⟨z, hst.keep0⟩
}
 {
 replace hm := bif_f hc403 hm
 refine wp_iff (cvb hc403) ?_
 refine wp_skip (tn (wp_seq (wp_seq (wrl ?_))))
 refine wv (.int .i64 (0:Int)) z z z (wl_nil (tn (wp_block ?_)))
 obtain ⟨n457, hm⟩ := loopO_some hm
 refine wp_loop_n (fun n a w => ∃ (z455 : Int) (σ456 : Nat → Value), loopN (ref11_SameGots_l0 a0 a1) n z455 = some r ∧ a = Fr 43 (upd (upd (upd σ456 0 (r0_0)) 1 (r1_0)) 5 (.int .i64 z455)) ∧ St w0 w I [] R) n457 ⟨(0:Int), _, hm, (fu 0 r0_0 z (fu 1 r1_0 z (fu 5 (.int .i64 (0:Int)) z z))), hst⟩ ?_
 rintro n463 _ w458 ⟨z455, σ456, hm, rfl, hst⟩
 obtain ⟨n460, y461, rfl, hm, hx462⟩ := loopN_some hm
 dsimp only [ref11_SameGots_l0] at hm
 refine wp_seq (wp_seq (wrl (wv (.int .i64 z455) z z z (wv (r0_0) z z z (wv (.int .i64 ((a0).length : Int)) z z (x_len z underlying30 (rd_sliceV f0_0)) (wv (.bool (decide (z455 < ((a0).length : Int)))) z z z (wl_nil (tn ?_))))))))
 refine bsplit (decide (z455 < ((a0).length : Int))) (fun hc464 => ?_) (fun hc464 => ?_)
 {
 replace hm := bif_t hc464 hm
 refine wp_ift (cvb hc464) ?_
 refine wp_skip (tn (wp_seq (wp_block (wp_seq ?_))))
 refine wq_regionS hst Tryz.mixed (by kernel_rfl) ?_
 refine wq_run (v := r0_0) z z (fun w hst => z) ?_
 refine wq_run (v := .int .i64 z455) z z (fun w hst => z) ?_
 obtain ⟨x465, hx466, hm⟩ := bind_some hm
 obtain ⟨h467, h468, hi469⟩ := geto_some hx466
 refine wq_run (v := .pointer (some (eAddr r0_0 (z455.toNat * 2 + 0)))) z z (fun w hst => x_index z z underlying30 sizeOf61 (rd_sliceV f0_0) h467 h468) ?_
 refine wq_run (v := .pointer (some (eAddr r0_0 (z455.toNat * 2 + 0)))) z z (fun w hst => x_field_e z underlying61 z sizeOf4 z) ?_
 obtain ⟨cs470, hr471, hc472⟩ := Rd.getF f0_0 hi469
 obtain ⟨v473, rfl, f474, -⟩ := hr471
 refine wq_run (v := .bool x465.Has) z z (fun w hst => x_load z isAgg4 ((hc472 (HL.le.refl _) hst) 0 _ z)) ?_
 refine wq_run (v := r1_0) z z (fun w hst => z) ?_
 refine wq_run (v := .int .i64 z455) z z (fun w hst => z) ?_
 obtain ⟨x476, hx477, hm⟩ := bind_some hm
 obtain ⟨h478, h479, hi480⟩ := geto_some hx477
 refine wq_run (v := .pointer (some (eAddr r1_0 (z455.toNat * 2 + 0)))) z z (fun w hst => x_index z z underlying30 sizeOf61 (rd_sliceV f1_0) h478 h479) ?_
 refine wq_run (v := .pointer (some (eAddr r1_0 (z455.toNat * 2 + 0)))) z z (fun w hst => x_field_e z underlying61 z sizeOf4 z) ?_
 obtain ⟨cs481, hr482, hc483⟩ := Rd.getF f1_0 hi480
 obtain ⟨v484, rfl, f485, -⟩ := hr482
 refine wq_run (v := .bool x476.Has) z z (fun w hst => x_load z isAgg4 ((hc483 (HL.le.refl _) hst) 0 _ z)) ?_
 refine wq_run (v := .bool (!(x465.Has == x476.Has))) z z (fun w hst => by kernel_rfl) ?_
 refine wq_run (v := .bool (!(x465.Has == x476.Has))) z z (fun w hst => z) ?_
 refine bsplit (!(x465.Has == x476.Has)) (fun hc487 => ?_) (fun hc487 => ?_)
 {
 replace hm := bif_t hc487 hm
 refine wq_off ((wanted_eq z z z (cvb hc487)).trans z) z ?_
 refine wq_off ((wanted_eq z z z (cvb hc487)).trans z) z ?_
 refine wq_off ((wanted_eq z z z (cvb hc487)).trans z) z ?_
 refine wq_off ((wanted_eq z z z (cvb hc487)).trans z) z ?_
 refine wq_off ((wanted_eq z z z (cvb hc487)).trans z) z ?_
 refine wq_off ((wanted_eq z z z (cvb hc487)).trans z) z ?_
 refine wq_off ((wanted_eq z z z (cvb hc487)).trans z) z ?_
 refine wq_off ((wanted_eq z z z (cvb hc487)).trans z) z ?_
 refine wq_off ((wanted_eq z z z (cvb hc487)).trans z) z ?_
 refine wq_off ((wanted_eq z z z (cvb hc487)).trans z) z ?_
 refine wq_off ((wanted_eq z z z (cvb hc487)).trans z) z ?_
 refine wq_off ((wanted_eq z z z (cvb hc487)).trans z) z ?_
 refine wq_off ((wanted_eq z z z (cvb hc487)).trans z) z ?_
 refine wq_run (v := .bool true) z z (fun w hst => x_pick_t hc487 z z) ?_
 refine wq_nil ?_
 intro w hst
 refine tn ?_
 refine wp_ift z ?_
 refine wp_seq (wrl (wv (.bool false) z z z (wl_nil (tn (wp_ret (blk_r (then_r (then_r ?_))))))))
 replace hm := inr_up hm hx462
 refine blk_r (then_r ?_)
 obtain rfl := some_inj hm
 refine post_ret (vs := [.bool false]) results78 (rvs_cons (rv_tmp z) rvs_nil) ?_
 exact ⟨z, hst.keep0⟩
}
 {
 replace hm := bif_f hc487 hm
 refine wq_run (v := r0_0) ((wanted_eq z z z (cvb hc487)).trans z) z (fun w hst => z) ?_
 refine wq_run (v := .int .i64 z455) ((wanted_eq z z z (cvb hc487)).trans z) z (fun w hst => z) ?_
 refine wq_run (v := .pointer (some (eAddr r0_0 (z455.toNat * 2 + 0)))) ((wanted_eq z z z (cvb hc487)).trans z) z (fun w hst => x_index z z underlying30 sizeOf61 (rd_sliceV f0_0) h467 h468) ?_
 refine wq_run (v := .pointer (some (eAddr r0_0 (z455.toNat * 2 + 1)))) ((wanted_eq z z z (cvb hc487)).trans z) z (fun w hst => x_field_e z underlying61 z sizeOf22 z) ?_
 refine wq_run (v := v473) ((wanted_eq z z z (cvb hc487)).trans z) z (fun w hst => x_load z isAgg22 ((hc472 (HL.le.refl _) hst) 1 _ z)) ?_
 refine wq_run (v := .string (toStr x465.Val)) ((wanted_eq z z z (cvb hc487)).trans z) z (fun w hst => x_tostr underlying22 underlying9 underlying5 z (Src.of_rd hst f474 flat_int)) ?_
 refine wq_run (v := r1_0) ((wanted_eq z z z (cvb hc487)).trans z) z (fun w hst => z) ?_
 refine wq_run (v := .int .i64 z455) ((wanted_eq z z z (cvb hc487)).trans z) z (fun w hst => z) ?_
 refine wq_run (v := .pointer (some (eAddr r1_0 (z455.toNat * 2 + 0)))) ((wanted_eq z z z (cvb hc487)).trans z) z (fun w hst => x_index z z underlying30 sizeOf61 (rd_sliceV f1_0) h478 h479) ?_
 refine wq_run (v := .pointer (some (eAddr r1_0 (z455.toNat * 2 + 1)))) ((wanted_eq z z z (cvb hc487)).trans z) z (fun w hst => x_field_e z underlying61 z sizeOf22 z) ?_
 refine wq_run (v := v484) ((wanted_eq z z z (cvb hc487)).trans z) z (fun w hst => x_load z isAgg22 ((hc483 (HL.le.refl _) hst) 1 _ z)) ?_
 refine wq_run (v := .string (toStr x476.Val)) ((wanted_eq z z z (cvb hc487)).trans z) z (fun w hst => x_tostr underlying22 underlying9 underlying5 z (Src.of_rd hst f485 flat_int)) ?_
 refine wq_run (v := .bool (!(sEq (toStr x465.Val) (toStr x476.Val)))) ((wanted_eq z z z (cvb hc487)).trans z) z (fun w hst => by kernel_rfl) ?_
 refine wq_run (v := .bool (!(sEq (toStr x465.Val) (toStr x476.Val)))) z z (fun w hst => x_pick_f hc487 z z) ?_
 refine wq_nil ?_
 intro w hst
 refine tn ?_
 refine bsplit (!(sEq (toStr x465.Val) (toStr x476.Val))) (fun hc488 => ?_) (fun hc488 => ?_)
 {
 replace hm := bif_t hc488 hm
 refine wp_ift (cvb hc488) ?_
 refine wp_seq (wrl (wv (.bool false) z z z (wl_nil (tn (wp_ret (blk_r (then_r (then_r ?_))))))))
 replace hm := inr_up hm hx462
 refine blk_r (then_r ?_)
 obtain rfl := some_inj hm
 refine post_ret (vs := [.bool false]) results78 (rvs_cons (rv_tmp z) rvs_nil) ?_
 exact ⟨z, hst.keep0⟩
}
 {
 replace hm := bif_f hc488 hm
 refine wp_iff (cvb hc488) ?_
 refine wp_skip (blk_n (tn (wrl ?_)))
 refine wv (.int .i64 z455) z z z (wv (.int .i64 (i64.wrap (z455 + (1:Int)))) z z z (wv (.int .i64 (i64.wrap (z455 + (1:Int)))) z z z (wl_nil (tn ?_))))
 replace hst := hst.keep0
 obtain rfl := some_inj hm
 exact ⟨_, Nat.lt_succ_self _, (i64.wrap (z455 + (1:Int))), _, hx462, (fu 0 r0_0 z (fu 1 r1_0 z (fu 5 (.int .i64 (i64.wrap (z455 + (1:Int)))) z z))), hst⟩
}
}
}
 {
 replace hm := bif_f hc464 hm
 refine wp_iff (cvb hc464) ?_
 refine wp_exit (then_x (then_x ?_))
 replace hm := inr_up hm hx462
 refine blk_x (tn (wp_seq (wrl ?_)))
 refine wv (.bool true) z z z (wl_nil (tn (wp_ret ?_)))
 obtain rfl := some_inj hm
 refine post_ret (vs := [.bool true]) results78 (rvs_cons (rv_tmp z) rvs_nil) ?_
 exact ⟨z, hst.keep0⟩
}
}
}

theorem math_Signbit_ref {w0 w : World} {I : HL} {R : SP} {a0 : Nat}  (hst : St w0 w I [] R) {r : (Bool)} (hm : math_Signbit a0 = some r) :
  Calls prog 145 #[F6 a0] w fun e w' => e = .returned (.bool r) ∧ St w0 w' I [] R := by {
 unfold math_Signbit at hm
 refine calls_start (args := [F6 a0]) func145 z ntmps145 (Nat.le_of_ble_eq_true z) ?_
 refine wp_seq (wrl (wv (.bool false) z z z (wl_nil (tn (wp_seq (wrl (wv (.float .f64 a0) z z z (wv (.int .u64 (Int.ofNat a0)) z z (by kernel_rfl) (wv (.int .i64 (i64.wrap (Int.ofNat a0))) z z (by kernel_rfl) (wv (.bool (decide ((i64.wrap (Int.ofNat a0)) < (0:Int)))) z z z (wv (.bool (decide ((i64.wrap (Int.ofNat a0)) < (0:Int)))) z z z (wl_nil (tn (wp_ret ?_))))))))))))))
 obtain rfl := some_inj hm
 refine post_ret (vs := [.bool (decide ((i64.wrap (Int.ofNat a0)) < (0:Int)))]) results145 (rvs_cons (rv_tmp z) rvs_nil) ?_
 exact ⟨z, hst.keep0⟩
}

theorem ref01_Ahead_ref {w0 w : World} {I : HL} {R : SP} {a0 : Nat} {a1 : Nat}  (hst : St w0 w I [] R) {r : (Bool)} (hm : ref01_Ahead a0 a1 = some r) :
  Calls prog 59 #[F6 a0, F6 a1] w fun e w' => e = .returned (.bool r) ∧ St w0 w' I [] R := by {
 unfold ref01_Ahead at hm
 refine calls_start (args := [F6 a0, F6 a1]) func59 z ntmps59 (Nat.le_of_ble_eq_true z) ?_
 refine wp_seq (wrl (wv (.bool false) z z z (wl_nil (tn (wp_seq (wp_seq (wrl (wv (.float .f64 a0) z z z (wv (.float .f64 a0) z z z (wv (.bool (fNe a0 a0)) z z z (wl_nil (tn ?_))))))))))))
 refine bsplit (fNe a0 a0) (fun hc345 => ?_) (fun hc345 => ?_)
 {
 replace hm := bif_t hc345 hm
 refine wp_ift (cvb hc345) ?_
 refine wp_seq (wrl (wv (.bool false) z z z (wl_nil (tn (wp_ret (then_r ?_))))))
 obtain rfl := some_inj hm
 refine post_ret (vs := [.bool false]) results59 (rvs_cons (rv_tmp z) rvs_nil) ?_
 exact ⟨z, hst.keep0⟩
}
 {
 replace hm := bif_f hc345 hm
 refine wp_iff (cvb hc345) ?_
 refine wp_skip (tn (wp_seq (wp_seq (wrl ?_))))
 refine wv (.float .f64 a1) z z z (wv (.float .f64 a1) z z z (wv (.bool (fNe a1 a1)) z z z (wl_nil (tn ?_))))
 refine bsplit (fNe a1 a1) (fun hc346 => ?_) (fun hc346 => ?_)
 {
 replace hm := bif_t hc346 hm
 refine wp_ift (cvb hc346) ?_
 refine wp_seq (wrl (wv (.bool true) z z z (wl_nil (tn (wp_ret (then_r ?_))))))
 obtain rfl := some_inj hm
 refine post_ret (vs := [.bool true]) results59 (rvs_cons (rv_tmp z) rvs_nil) ?_
 exact ⟨z, hst.keep0⟩
}
 {
 replace hm := bif_f hc346 hm
 refine wp_iff (cvb hc346) ?_
 refine wp_skip (tn ?_)
 obtain ⟨y362, hm, hx363⟩ := joinO_some hm
 refine wp_cut (fun a w => ∃ (σ360 : Nat → Value), (ref01_Ahead_j0 a0 a1) () = some r ∧ a = Fr 27 (upd (upd σ360 0 (.float .f64 a0)) 1 (.float .f64 a1)) ∧ St w0 w I [] R) ?_ ?_
 {
 refine wp_seq (wrl (wv (.float .f64 a0) z z z (wv (.bool (fEq a0 (0:Nat))) z z z (wv (.bool (fEq a0 (0:Nat))) z z z ?_))))
 refine bsplit (fEq a0 (0:Nat)) (fun hc347 => ?_) (fun hc347 => ?_)
 {
 replace hm := bif_t hc347 hm
 refine wv (.float .f64 a1) ((wanted_eq z z z (cvb hc347)).trans z) z z (wv (.bool (fEq a1 (0:Nat))) ((wanted_eq z z z (cvb hc347)).trans z) z z (wv (.bool (fEq a1 (0:Nat))) z z (x_pick_t hc347 z z) (wl_nil (tn ?_))))
 refine bsplit (fEq a1 (0:Nat)) (fun hc348 => ?_) (fun hc348 => ?_)
 {
 replace hm := bif_t hc348 hm
 refine wp_ift (cvb hc348) ?_
 refine wp_seq (wrl (wv (.float .f64 a0) z z z ?_))
 obtain ⟨t349, ht350, hm⟩ := bind_some hm
 refine wc call145 [F6 a0] z z z ?_
 refine (math_Signbit_ref hst.to0 ht350).mono ?_
 rintro _ w351 ⟨rfl, hst⟩
 refine ⟨_, z, ?_⟩
 replace hst := hst.of0
 refine wv (.bool t349) z z z ?_
 refine bsplit t349 (fun hc354 => ?_) (fun hc354 => ?_)
 {
 replace hm := bif_t hc354 hm
 refine wv (.float .f64 a1) ((wanted_eq z z z (cvb hc354)).trans z) z z ?_
 obtain ⟨t355, ht356, hm⟩ := bind_some hm
 refine wl_call ((wanted_eq z z z (cvb hc354)).trans z) z (x_call call145 z (vs := [F6 a1]) z) ?_
 refine (math_Signbit_ref hst.to0 ht356).mono ?_
 rintro _ w357 ⟨rfl, hst⟩
 refine ⟨_, z, ?_⟩
 replace hst := hst.of0
 refine wv (.bool (!t355)) ((wanted_eq z z z (cvb hc354)).trans z) z z (wv (.bool (!t355)) z z (x_pick_t hc354 z z) (wv (.bool (!t355)) z z z (wl_nil (tn (wp_ret (then_r ?_))))))
 replace hm := inr_up hm hx363
 obtain rfl := some_inj hm
 refine post_ret (vs := [.bool (!t355)]) results59 (rvs_cons (rv_tmp z) rvs_nil) ?_
 exact ⟨z, hst.keep0⟩
}
 {
 replace hm := bif_f hc354 hm
 refine wo hc354 z z z z z z (wo hc354 z z z z z z (wo hc354 z z z z z z (wv (.bool false) z z (x_pick_f hc354 z z) (wv (.bool false) z z z (wl_nil (tn (wp_ret (then_r ?_))))))))
 replace hm := inr_up hm hx363
 obtain rfl := some_inj hm
 refine post_ret (vs := [.bool false]) results59 (rvs_cons (rv_tmp z) rvs_nil) ?_
 exact ⟨z, hst.keep0⟩
}
}
 {
 replace hm := bif_f hc348 hm
 refine wp_iff (cvb hc348) ?_
 refine wp_skip (tn ?_)
 replace hst := hst.keep0
 obtain rfl := some_inj hm
 exact ⟨_, hx363, (fu 0 (.float .f64 a0) z (fu 1 (.float .f64 a1) z z)), hst⟩
}
}
 {
 replace hm := bif_f hc347 hm
 refine wo hc347 z z z z z z (wo hc347 z z z z z z (wv (.bool false) z z (x_pick_f hc347 z z) (wl_nil (tn ?_))))
 refine wp_iff z ?_
 refine wp_skip (tn ?_)
 replace hst := hst.keep0
 obtain rfl := some_inj hm
 exact ⟨_, hx363, (fu 0 (.float .f64 a0) z (fu 1 (.float .f64 a1) z z)), hst⟩
}
}
 {
 clear hst
 rintro _ w364 ⟨σ360, hm, rfl, hst⟩
 dsimp only [ref01_Ahead_j0] at hm
 refine wp_seq (wrl (wv (.float .f64 a0) z z z (wv (.float .f64 a1) z z z (wv (.bool (fLt a0 a1)) z z z (wv (.bool (fLt a0 a1)) z z z (wl_nil (tn (wp_ret ?_))))))))
 obtain rfl := some_inj hm
 refine post_ret (vs := [.bool (fLt a0 a1)]) results59 (rvs_cons (rv_tmp z) rvs_nil) ?_
 exact ⟨z, hst.keep0⟩
}
}
}
}

theorem ref01_Same_ref {w0 w : World} {I : HL} {R : SP} {a0 : Nat} {a1 : Nat}  (hst : St w0 w I [] R) {r : (Bool)} (hm : ref01_Same a0 a1 = some r) :
  Calls prog 20 #[F6 a0, F6 a1] w fun e w' => e = .returned (.bool r) ∧ St w0 w' I [] R := by {
 unfold ref01_Same at hm
 refine calls_start (args := [F6 a0, F6 a1]) func20 z ntmps20 (Nat.le_of_ble_eq_true z) ?_
 refine wp_seq (wrl (wv (.bool false) z z z (wl_nil (tn (wp_seq (wrl (wv (.float .f64 a0) z z z (wv (.float .f64 a1) z z z ?_))))))))
 obtain ⟨t336, ht337, hm⟩ := bind_some hm
 refine wc call59 [F6 a0, F6 a1] z z z ?_
 refine (ref01_Ahead_ref hst.to0 ht337).mono ?_
 rintro _ w338 ⟨rfl, hst⟩
 refine ⟨_, z, ?_⟩
 replace hst := hst.of0
 refine wv (.bool (!t336)) z z z (wv (.bool (!t336)) z z z ?_)
 refine bsplit (!t336) (fun hc341 => ?_) (fun hc341 => ?_)
 {
 replace hm := bif_t hc341 hm
 refine wv (.float .f64 a1) ((wanted_eq z z z (cvb hc341)).trans z) z z (wv (.float .f64 a0) ((wanted_eq z z z (cvb hc341)).trans z) z z ?_)
 obtain ⟨t342, ht343, hm⟩ := bind_some hm
 refine wl_call ((wanted_eq z z z (cvb hc341)).trans z) z (x_call call59 z (vs := [F6 a1, F6 a0]) z) ?_
 refine (ref01_Ahead_ref hst.to0 ht343).mono ?_
 rintro _ w344 ⟨rfl, hst⟩
 refine ⟨_, z, ?_⟩
 replace hst := hst.of0
 refine wv (.bool (!t342)) ((wanted_eq z z z (cvb hc341)).trans z) z z (wv (.bool (!t342)) z z (x_pick_t hc341 z z) (wv (.bool (!t342)) z z z (wl_nil (tn (wp_ret ?_)))))
 obtain rfl := some_inj hm
 refine post_ret (vs := [.bool (!t342)]) results20 (rvs_cons (rv_tmp z) rvs_nil) ?_
 exact ⟨z, hst.keep0⟩
}
 {
 replace hm := bif_f hc341 hm
 refine wo hc341 z z z z z z (wo hc341 z z z z z z (wo hc341 z z z z z z (wo hc341 z z z z z z (wv (.bool false) z z (x_pick_f hc341 z z) (wv (.bool false) z z z (wl_nil (tn (wp_ret ?_))))))))
 obtain rfl := some_inj hm
 refine post_ret (vs := [.bool false]) results20 (rvs_cons (rv_tmp z) rvs_nil) ?_
 exact ⟨z, hst.keep0⟩
}
}

theorem ref11_SamePairs_ref {w0 w : World} {I : HL} {R : SP} {a0 : (List api_Pair)} {r0_0 : Value} {a1 : (List api_Pair)} {r1_0 : Value} (f0_0 : Rd ty_api_Pair R I r0_0 a0) (f1_0 : Rd ty_api_Pair R I r1_0 a1) (hst : St w0 w I [] R) {r : (Bool)} (hm : ref11_SamePairs a0 a1 = some r) :
  Calls prog 79 #[r0_0, r1_0] w fun e w' => e = .returned (.bool r) ∧ St w0 w' I [] R := by {
 unfold ref11_SamePairs at hm
 refine calls_start (args := [r0_0, r1_0]) func79 z ntmps79 (Nat.le_of_ble_eq_true z) ?_
 refine wp_seq (wrl (wv (.bool false) z z z (wl_nil (tn (wp_seq (wp_seq (wrl (wv (r0_0) z z z (wv (.int .i64 ((a0).length : Int)) z z (x_len z underlying81 (rd_sliceV f0_0)) (wv (r1_0) z z z (wv (.int .i64 ((a1).length : Int)) z z (x_len z underlying81 (rd_sliceV f1_0)) (wv (.bool (((a0).length : Int) != ((a1).length : Int))) z z z (wl_nil (tn ?_))))))))))))))
 refine bsplit (((a0).length : Int) != ((a1).length : Int)) (fun hc462 => ?_) (fun hc462 => ?_)
 {
 replace hm := bif_t hc462 hm
 refine wp_ift (cvb hc462) ?_
 refine wp_seq (wrl (wv (.bool false) z z z (wl_nil (tn (wp_ret (then_r ?_))))))
 obtain rfl := some_inj hm
 refine post_ret (vs := [.bool false]) results79 (rvs_cons (rv_tmp z) rvs_nil) ?_
 exact ⟨z, hst.keep0⟩
}
 {
 replace hm := bif_f hc462 hm
 refine wp_iff (cvb hc462) ?_
 refine wp_skip (tn (wp_seq (wp_seq (wrl ?_))))
 refine wv (.int .i64 (0:Int)) z z z (wl_nil (tn (wp_block ?_)))
 obtain ⟨n550, hm⟩ := loopO_some hm
 refine wp_loop_n (fun n a w => ∃ (z548 : Int) (σ549 : Nat → Value), loopN (ref11_SamePairs_l0 a0 a1) n z548 = some r ∧ a = Fr 44 (upd (upd (upd σ549 0 (r0_0)) 1 (r1_0)) 5 (.int .i64 z548)) ∧ St w0 w I [] R) n550 ⟨(0:Int), _, hm, (fu 0 r0_0 z (fu 1 r1_0 z (fu 5 (.int .i64 (0:Int)) z z))), hst⟩ ?_
 rintro n556 _ w551 ⟨z548, σ549, hm, rfl, hst⟩
 obtain ⟨n553, y554, rfl, hm, hx555⟩ := loopN_some hm
 dsimp only [ref11_SamePairs_l0] at hm
 refine wp_seq (wp_seq (wrl (wv (.int .i64 z548) z z z (wv (r0_0) z z z (wv (.int .i64 ((a0).length : Int)) z z (x_len z underlying81 (rd_sliceV f0_0)) (wv (.bool (decide (z548 < ((a0).length : Int)))) z z z (wl_nil (tn ?_))))))))
 refine bsplit (decide (z548 < ((a0).length : Int))) (fun hc557 => ?_) (fun hc557 => ?_)
 {
 replace hm := bif_t hc557 hm
 refine wp_ift (cvb hc557) ?_
 refine wp_skip (tn (wp_seq (wp_block (wp_seq ?_))))
 refine wp_region_St hst 27 [0, 1, 2, 3, 4, 5, 6, 7, 8, 9, 10, 11, 12, 13, 14, 15, 16, 17, 18, 19, 20, 21, 22, 23, 24, 25, 26] [0, 0, 3, 7, 15, 0, 0, 96, 224, 480, 1023, 2047, 4095, 8191, 8191, 32767, 65535, 131071, 262143, 8191, 8191, 1581055, 3678207, 7872511, 16261119, 33554431, 67108863] [] z (by kernel_rfl) (by kernel_rfl) Tryz.mixed (by kernel_rfl) ?_
 refine wsr (r0_0) 0 z z z (by kernel_rfl) (fun w hst => z) (wsr (.int .i64 z548) 1 z z z (by kernel_rfl) (fun w hst => z) ?_)
 obtain ⟨x558, hx559, hm⟩ := bind_some hm
 obtain ⟨h560, h561, hi562⟩ := geto_some hx559
 refine wsr (.pointer (some (eAddr r0_0 (z548.toNat * 2 + 0)))) 2 z z z (by kernel_rfl) (fun w hst => x_index z z underlying81 sizeOf152 (rd_sliceV f0_0) h560 h561) (wsr (.pointer (some (eAddr r0_0 (z548.toNat * 2 + 0)))) 3 z z z (by kernel_rfl) (fun w hst => x_field_e z underlying152 z sizeOf37 z) ?_)
 obtain ⟨cs563, hr564, hc565⟩ := Rd.getF f0_0 hi562
 obtain ⟨v566, rfl, f567, -⟩ := hr564
 refine wsr (.float .f64 x558.At) 4 z z z (by kernel_rfl) (fun w hst => x_load z isAgg37 ((hc565 (HL.le.refl _) hst) 0 _ z)) (wsr (r1_0) 5 z z z (by kernel_rfl) (fun w hst => z) (wsr (.int .i64 z548) 6 z z z (by kernel_rfl) (fun w hst => z) ?_))
 obtain ⟨x569, hx570, hm⟩ := bind_some hm
 obtain ⟨h571, h572, hi573⟩ := geto_some hx570
 refine wsr (.pointer (some (eAddr r1_0 (z548.toNat * 2 + 0)))) 7 z z z (by kernel_rfl) (fun w hst => x_index z z underlying81 sizeOf152 (rd_sliceV f1_0) h571 h572) (wsr (.pointer (some (eAddr r1_0 (z548.toNat * 2 + 0)))) 8 z z z (by kernel_rfl) (fun w hst => x_field_e z underlying152 z sizeOf37 z) ?_)
 obtain ⟨cs574, hr575, hc576⟩ := Rd.getF f1_0 hi573
 obtain ⟨v577, rfl, f578, -⟩ := hr575
 refine wsr (.float .f64 x569.At) 9 z z z (by kernel_rfl) (fun w hst => x_load z isAgg37 ((hc576 (HL.le.refl _) hst) 0 _ z)) ?_
 refine ws_e1 10 (by kernel_rfl) ?_
 refine nxe [11, 12, 13, 14, 15, 16, 17, 18, 19, 20, 21, 22, 23, 24, 25, 26] (by kernel_rfl) z z ?_
 clear hst
 intro w hst
 obtain ⟨t580, ht581, hm⟩ := bind_some hm
 refine wec call20 [F6 x558.At, F6 x569.At] z z ?_
 refine (ref01_Same_ref hst.to0 ht581).mono ?_
 rintro _ w582 ⟨rfl, hst⟩
 refine ⟨_, z, ?_⟩
 replace hst := hst.of0
 refine ws_next (pend' := []) hst (by kernel_rfl) pk_nil ?_
 refine wsr (.bool (!t580)) 11 z z z (by kernel_rfl) (fun w hst => z) (wsr (.bool (!t580)) 12 z z z (by kernel_rfl) (fun w hst => z) ?_)
 refine bsplit (!t580) (fun hc585 => ?_) (fun hc585 => ?_)
 {
 replace hm := bif_t hc585 hm
 refine ws_q (v := undef) 13 [14, 15, 16, 17, 18, 19, 20, 21, 22, 23, 24, 25, 26] (by kernel_rfl) z z (yi_off ((wanted_eq z z z (cvb hc585)).trans z)) (ws_q (v := undef) 14 [15, 16, 17, 18, 19, 20, 21, 22, 23, 24, 25, 26] (by kernel_rfl) z z (yi_off ((wanted_eq z z z (cvb hc585)).trans z)) (ws_q (v := undef) 15 [16, 17, 18, 19, 20, 21, 22, 23, 24, 25, 26] (by kernel_rfl) z z (yi_off ((wanted_eq z z z (cvb hc585)).trans z)) (ws_q (v := undef) 16 [17, 18, 19, 20, 21, 22, 23, 24, 25, 26] (by kernel_rfl) z z (yi_off ((wanted_eq z z z (cvb hc585)).trans z)) (ws_q (v := undef) 17 [18, 19, 20, 21, 22, 23, 24, 25, 26] (by kernel_rfl) z z (yi_off ((wanted_eq z z z (cvb hc585)).trans z)) (ws_q (v := undef) 18 [19, 20, 21, 22, 23, 24, 25, 26] (by kernel_rfl) z z (yi_off ((wanted_eq z z z (cvb hc585)).trans z)) (ws_q (v := undef) 19 [20, 21, 22, 23, 24, 25, 26] (by kernel_rfl) z z (yi_off ((wanted_eq z z z (cvb hc585)).trans z)) (ws_q (v := undef) 20 [21, 22, 23, 24, 25, 26] (by kernel_rfl) z z (yi_off ((wanted_eq z z z (cvb hc585)).trans z)) (ws_q (v := undef) 21 [22, 23, 24, 25, 26] (by kernel_rfl) z z (yi_off ((wanted_eq z z z (cvb hc585)).trans z)) (ws_q (v := undef) 22 [23, 24, 25, 26] (by kernel_rfl) z z (yi_off ((wanted_eq z z z (cvb hc585)).trans z)) (ws_q (v := undef) 23 [24, 25, 26] (by kernel_rfl) z z (yi_off ((wanted_eq z z z (cvb hc585)).trans z)) (ws_q (v := undef) 24 [25, 26] (by kernel_rfl) z z (yi_off ((wanted_eq z z z (cvb hc585)).trans z)) (ws_q (v := undef) 25 [26] (by kernel_rfl) z z (yi_off ((wanted_eq z z z (cvb hc585)).trans z)) ?_))))))))))))
 refine wsr (.bool true) 26 z z z (by kernel_rfl) (fun w hst => x_pick_t hc585 z z) ?_
 refine ws_nil ?_
 intro w hst
 refine tn ?_
 refine wp_ift z ?_
 refine wp_seq (wrl (wv (.bool false) z z z (wl_nil (tn (wp_ret (blk_r (then_r (then_r ?_))))))))
 replace hm := inr_up hm hx555
 refine blk_r (then_r ?_)
 obtain rfl := some_inj hm
 refine post_ret (vs := [.bool false]) results79 (rvs_cons (rv_tmp z) rvs_nil) ?_
 exact ⟨z, hst.keep0⟩
}
 {
 replace hm := bif_f hc585 hm
 refine ws_q (v := r0_0) 13 [14, 15, 16, 17, 18, 19, 20, 21, 22, 23, 24, 25, 26] (by kernel_rfl) z z (yi_run ((wanted_eq z z z (cvb hc585)).trans z) (fun w hst => z)) (ws_q (v := .int .i64 z548) 14 [15, 16, 17, 18, 19, 20, 21, 22, 23, 24, 25, 26] (by kernel_rfl) z z (yi_run ((wanted_eq z z z (cvb hc585)).trans z) (fun w hst => z)) (ws_q (v := .pointer (some (eAddr r0_0 (z548.toNat * 2 + 0)))) 15 [16, 17, 18, 19, 20, 21, 22, 23, 24, 25, 26] (by kernel_rfl) z z (yi_run ((wanted_eq z z z (cvb hc585)).trans z) (fun w hst => x_index z z underlying81 sizeOf152 (rd_sliceV f0_0) h560 h561)) (ws_q (v := .pointer (some (eAddr r0_0 (z548.toNat * 2 + 1)))) 16 [17, 18, 19, 20, 21, 22, 23, 24, 25, 26] (by kernel_rfl) z z (yi_run ((wanted_eq z z z (cvb hc585)).trans z) (fun w hst => x_field_e z underlying152 z sizeOf22 z)) ?_)))
 obtain ⟨cs586, hr587, hc588⟩ := Rd.getF f0_0 hi562
 obtain ⟨v589, rfl, f590, -⟩ := hr587
 refine ws_q (v := v589) 17 [18, 19, 20, 21, 22, 23, 24, 25, 26] (by kernel_rfl) z z (yi_run ((wanted_eq z z z (cvb hc585)).trans z) (fun w hst => x_load z isAgg22 ((hc588 (HL.le.refl _) hst) 1 _ z))) (ws_q (v := .string (toStr x558.Val)) 18 [19, 20, 21, 22, 23, 24, 25, 26] (by kernel_rfl) z z (yi_run ((wanted_eq z z z (cvb hc585)).trans z) (fun w hst => x_tostr underlying22 underlying9 underlying5 z (Src.of_rd hst f590 flat_int))) (ws_q (v := r1_0) 19 [20, 21, 22, 23, 24, 25, 26] (by kernel_rfl) z z (yi_run ((wanted_eq z z z (cvb hc585)).trans z) (fun w hst => z)) (ws_q (v := .int .i64 z548) 20 [21, 22, 23, 24, 25, 26] (by kernel_rfl) z z (yi_run ((wanted_eq z z z (cvb hc585)).trans z) (fun w hst => z)) (ws_q (v := .pointer (some (eAddr r1_0 (z548.toNat * 2 + 0)))) 21 [22, 23, 24, 25, 26] (by kernel_rfl) z z (yi_run ((wanted_eq z z z (cvb hc585)).trans z) (fun w hst => x_index z z underlying81 sizeOf152 (rd_sliceV f1_0) h571 h572)) (ws_q (v := .pointer (some (eAddr r1_0 (z548.toNat * 2 + 1)))) 22 [23, 24, 25, 26] (by kernel_rfl) z z (yi_run ((wanted_eq z z z (cvb hc585)).trans z) (fun w hst => x_field_e z underlying152 z sizeOf22 z)) ?_)))))
 obtain ⟨cs592, hr593, hc594⟩ := Rd.getF f1_0 hi573
 obtain ⟨v595, rfl, f596, -⟩ := hr593
 refine ws_q (v := v595) 23 [24, 25, 26] (by kernel_rfl) z z (yi_run ((wanted_eq z z z (cvb hc585)).trans z) (fun w hst => x_load z isAgg22 ((hc594 (HL.le.refl _) hst) 1 _ z))) (ws_q (v := .string (toStr x569.Val)) 24 [25, 26] (by kernel_rfl) z z (yi_run ((wanted_eq z z z (cvb hc585)).trans z) (fun w hst => x_tostr underlying22 underlying9 underlying5 z (Src.of_rd hst f596 flat_int))) (ws_q (v := .bool (!(sEq (toStr x558.Val) (toStr x569.Val)))) 25 [26] (by kernel_rfl) z z (yi_run ((wanted_eq z z z (cvb hc585)).trans z) (fun w hst => by kernel_rfl)) (wsr (.bool (!(sEq (toStr x558.Val) (toStr x569.Val)))) 26 z z z (by kernel_rfl) (fun w hst => x_pick_f hc585 z z) ?_)))
 refine ws_nil ?_
 intro w hst
 refine tn ?_
 refine bsplit (!(sEq (toStr x558.Val) (toStr x569.Val))) (fun hc598 => ?_) (fun hc598 => ?_)
 {
 replace hm := bif_t hc598 hm
 refine wp_ift (cvb hc598) ?_
 refine wp_seq (wrl (wv (.bool false) z z z (wl_nil (tn (wp_ret (blk_r (then_r (then_r ?_))))))))
 replace hm := inr_up hm hx555
 refine blk_r (then_r ?_)
 obtain rfl := some_inj hm
 refine post_ret (vs := [.bool false]) results79 (rvs_cons (rv_tmp z) rvs_nil) ?_
 exact ⟨z, hst.keep0⟩
}
 {
 replace hm := bif_f hc598 hm
 refine wp_iff (cvb hc598) ?_
 refine wp_skip (blk_n (tn (wrl ?_)))
 refine wv (.int .i64 z548) z z z (wv (.int .i64 (i64.wrap (z548 + (1:Int)))) z z z (wv (.int .i64 (i64.wrap (z548 + (1:Int)))) z z z (wl_nil (tn ?_))))
 replace hst := hst.keep0
 obtain rfl := some_inj hm
 exact ⟨_, Nat.lt_succ_self _, (i64.wrap (z548 + (1:Int))), _, hx555, (fu 0 r0_0 z (fu 1 r1_0 z (fu 5 (.int .i64 (i64.wrap (z548 + (1:Int)))) z z))), hst⟩
}
}
}
 {
 replace hm := bif_f hc557 hm
 refine wp_iff (cvb hc557) ?_
 refine wp_exit (then_x (then_x ?_))
 replace hm := inr_up hm hx555
 refine blk_x (tn (wp_seq (wrl ?_)))
 refine wv (.bool true) z z z (wl_nil (tn (wp_ret ?_)))
 obtain rfl := some_inj hm
 refine post_ret (vs := [.bool true]) results79 (rvs_cons (rv_tmp z) rvs_nil) ?_
 exact ⟨z, hst.keep0⟩
}
}
}

theorem ref11_SameReply_ref {w0 w : World} {I : HL} {R : SP} {a0 : api_Reply} {r0_0 : Value} {r0_1 : Value} {a1 : api_Reply} {r1_0 : Value} {r1_1 : Value} (f0_0 : Rd ty_api_Got R I r0_0 a0.Gots) (f0_1 : Rd (tySl ty_api_Pair) R I r0_1 a0.Scans) (f1_0 : Rd ty_api_Got R I r1_0 a1.Gots) (f1_1 : Rd (tySl ty_api_Pair) R I r1_1 a1.Scans) (hst : St w0 w I [] R) {r : (Bool)} (hm : ref11_SameReply a0 a1 = some r) :
  Calls prog 32 #[.agg #[I6 a0.E, U6 a0.Epoch, U6 a0.Index, r0_0, r0_1], .agg #[I6 a1.E, U6 a1.Epoch, U6 a1.Index, r1_0, r1_1]] w fun e w' => e = .returned (.bool r) ∧ St w0 w' I [] R := by {
 unfold ref11_SameReply at hm
 refine calls_start (args := [.agg #[I6 a0.E, U6 a0.Epoch, U6 a0.Index, r0_0, r0_1], .agg #[I6 a1.E, U6 a1.Epoch, U6 a1.Index, r1_0, r1_1]]) func32 z ntmps32 (Nat.le_of_ble_eq_true z) ?_
 refine wp_seq (wrl ?_)
 obtain ⟨b421, w422, ew423, eb424, hst⟩ := hst.box [I6 a0.E, U6 a0.Epoch, U6 a0.Index, r0_0, r0_1] 33
 refine wl_run (v := Pt b421 0) (w' := w422) z z (x_al (by kernel_rfl) ew423 eb424) ?_
 obtain ⟨b426, w427, ew428, eb429, hst⟩ := hst.box [I6 a1.E, U6 a1.Epoch, U6 a1.Index, r1_0, r1_1] 33
 refine wl_run (v := Pt b426 0) (w' := w427) z z (x_al (by kernel_rfl) ew428 eb429) ?_
 refine wv (.bool false) z z z (wl_nil (tn (wp_seq (wp_seq (wrl (wv (Pt b421 0) z z (x_field z underlying33 z sizeOf29 z) (wv (.int .i64 a0.E) z z (x_load z isAgg29 (hst.bc1 z)) (wv (Pt b426 0) z z (x_field z underlying33 z sizeOf29 z) (wv (.int .i64 a1.E) z z (x_load z isAgg29 (hst.bc0 z)) (wv (.bool (a0.E != a1.E)) z z z (wv (.bool (a0.E != a1.E)) z z z ?_)))))))))))
 refine bsplit (a0.E != a1.E) (fun hc431 => ?_) (fun hc431 => ?_)
 {
 replace hm := bif_t hc431 hm
 refine wo hc431 z z z z z z (wo hc431 z z z z z z (wo hc431 z z z z z z (wo hc431 z z z z z z (wo hc431 z z z z z z (wv (.bool true) z z (x_pick_t hc431 z z) (wv (.bool true) z z z (wz z z z z z z (wz z z z z z z (wz z z z z z z (wz z z z z z z (wz z z z z z z (wv (.bool true) z z (x_pick_t z z z) ?_))))))))))))
 refine wv (.bool true) z z z (wz z z z z z z (wz z z z z z z (wz z z z z z z (wz z z z z z z (wz z z z z z z (wz z z z z z z (wv (.bool true) z z (x_pick_t z z z) (wv (.bool true) z z z (wz z z z z z z (wz z z z z z z (wz z z z z z z (wz z z z z z z ?_))))))))))))
 refine wz z z z z z z (wz z z z z z z (wz z z z z z z (wv (.bool true) z z (x_pick_t z z z) (wl_nil (tn ?_)))))
 refine wp_ift z ?_
 refine wp_seq (wrl (wv (.bool false) z z z (wl_nil (tn (wp_ret (then_r ?_))))))
 obtain rfl := some_inj hm
 refine post_ret (vs := [.bool false]) results32 (rvs_cons (rv_tmp z) rvs_nil) ?_
 exact ⟨z, hst.keep0⟩
}
 {
 replace hm := bif_f hc431 hm
 refine wv (Pt b421 1) ((wanted_eq z z z (cvb hc431)).trans z) z (x_field z underlying33 z sizeOf26 z) (wv (.int .u64 a0.Epoch) ((wanted_eq z z z (cvb hc431)).trans z) z (x_load z isAgg26 (hst.bc1 z)) (wv (Pt b426 1) ((wanted_eq z z z (cvb hc431)).trans z) z (x_field z underlying33 z sizeOf26 z) (wv (.int .u64 a1.Epoch) ((wanted_eq z z z (cvb hc431)).trans z) z (x_load z isAgg26 (hst.bc0 z)) (wv (.bool (a0.Epoch != a1.Epoch)) ((wanted_eq z z z (cvb hc431)).trans z) z z (wv (.bool (a0.Epoch != a1.Epoch)) z z (x_pick_f hc431 z z) (wv (.bool (a0.Epoch != a1.Epoch)) z z z ?_))))))
 refine bsplit (a0.Epoch != a1.Epoch) (fun hc432 => ?_) (fun hc432 => ?_)
 {
 replace hm := bif_t hc432 hm
 refine wo hc432 z z z z z z (wo hc432 z z z z z z (wo hc432 z z z z z z (wo hc432 z z z z z z (wo hc432 z z z z z z (wv (.bool true) z z (x_pick_t hc432 z z) (wv (.bool true) z z z (wz z z z z z z (wz z z z z z z (wz z z z z z z (wz z z z z z z (wz z z z z z z (wz z z z z z z ?_))))))))))))
 refine wv (.bool true) z z (x_pick_t z z z) (wv (.bool true) z z z (wz z z z z z z (wz z z z z z z (wz z z z z z z (wz z z z z z z (wz z z z z z z (wz z z z z z z (wz z z z z z z (wv (.bool true) z z (x_pick_t z z z) (wl_nil (tn ?_)))))))))))
 refine wp_ift z ?_
 refine wp_seq (wrl (wv (.bool false) z z z (wl_nil (tn (wp_ret (then_r ?_))))))
 obtain rfl := some_inj hm
 refine post_ret (vs := [.bool false]) results32 (rvs_cons (rv_tmp z) rvs_nil) ?_
 exact ⟨z, hst.keep0⟩
}
 {
 replace hm := bif_f hc432 hm
 refine wv (Pt b421 2) ((wanted_eq z z z (cvb hc432)).trans z) z (x_field z underlying33 z sizeOf26 z) (wv (.int .u64 a0.Index) ((wanted_eq z z z (cvb hc432)).trans z) z (x_load z isAgg26 (hst.bc1 z)) (wv (Pt b426 2) ((wanted_eq z z z (cvb hc432)).trans z) z (x_field z underlying33 z sizeOf26 z) (wv (.int .u64 a1.Index) ((wanted_eq z z z (cvb hc432)).trans z) z (x_load z isAgg26 (hst.bc0 z)) (wv (.bool (a0.Index != a1.Index)) ((wanted_eq z z z (cvb hc432)).trans z) z z (wv (.bool (a0.Index != a1.Index)) z z (x_pick_f hc432 z z) (wv (.bool (a0.Index != a1.Index)) z z z ?_))))))
 refine bsplit (a0.Index != a1.Index) (fun hc433 => ?_) (fun hc433 => ?_)
 {
 replace hm := bif_t hc433 hm
 refine wo hc433 z z z z z z (wo hc433 z z z z z z (wo hc433 z z z z z z (wo hc433 z z z z z z (wo hc433 z z z z z z (wo hc433 z z z z z z (wv (.bool true) z z (x_pick_t hc433 z z) (wv (.bool true) z z z (wz z z z z z z (wz z z z z z z (wz z z z z z z (wz z z z z z z (wz z z z z z z ?_))))))))))))
 refine wz z z z z z z (wz z z z z z z (wv (.bool true) z z (x_pick_t z z z) (wl_nil (tn ?_))))
 refine wp_ift z ?_
 refine wp_seq (wrl (wv (.bool false) z z z (wl_nil (tn (wp_ret (then_r ?_))))))
 obtain rfl := some_inj hm
 refine post_ret (vs := [.bool false]) results32 (rvs_cons (rv_tmp z) rvs_nil) ?_
 exact ⟨z, hst.keep0⟩
}
 {
 replace hm := bif_f hc433 hm
 refine wv (Pt b421 3) ((wanted_eq z z z (cvb hc433)).trans z) z (x_field z underlying33 z sizeOf30 z) (wv (r0_0) ((wanted_eq z z z (cvb hc433)).trans z) z (x_load z isAgg30 (hst.bc1 z)) (wv (Pt b426 3) ((wanted_eq z z z (cvb hc433)).trans z) z (x_field z underlying33 z sizeOf30 z) (wv (r1_0) ((wanted_eq z z z (cvb hc433)).trans z) z (x_load z isAgg30 (hst.bc0 z)) ?_)))
 obtain ⟨t434, ht435, hm⟩ := bind_some hm
 refine wl_call ((wanted_eq z z z (cvb hc433)).trans z) z (x_call call78 z (vs := [r0_0, r1_0]) z) ?_
 refine (ref11_SameGots_ref (f0_0.mono (rd_weak _)) (f1_0.mono (rd_weak _)) hst.to0 ht435).mono ?_
 rintro _ w436 ⟨rfl, hst⟩
 refine ⟨_, z, ?_⟩
 replace hst := hst.of0
 refine wv (.bool (!t434)) ((wanted_eq z z z (cvb hc433)).trans z) z z (wv (.bool (!t434)) z z (x_pick_f hc433 z z) (wv (.bool (!t434)) z z z ?_))
 refine bsplit (!t434) (fun hc439 => ?_) (fun hc439 => ?_)
 {
 replace hm := bif_t hc439 hm
 refine wo hc439 z z z z z z (wo hc439 z z z z z z (wo hc439 z z z z z z (wo hc439 z z z z z z (wo hc439 z z z z z z (wo hc439 z z z z z z (wo hc439 z z z z z z (wv (.bool true) z z (x_pick_t hc439 z z) (wl_nil (tn ?_)))))))))
 refine wp_ift z ?_
 refine wp_seq (wrl (wv (.bool false) z z z (wl_nil (tn (wp_ret (then_r ?_))))))
 obtain rfl := some_inj hm
 refine post_ret (vs := [.bool false]) results32 (rvs_cons (rv_tmp z) rvs_nil) ?_
 exact ⟨z, hst.keep0⟩
}
 {
 replace hm := bif_f hc439 hm
 refine wv (Pt b421 4) ((wanted_eq z z z (cvb hc439)).trans z) z (x_field z underlying33 z sizeOf31 z) (wv (r0_1) ((wanted_eq z z z (cvb hc439)).trans z) z (x_load z isAgg31 (hst.bc1 z)) (wv (.int .i64 ((a0.Scans).length : Int)) ((wanted_eq z z z (cvb hc439)).trans z) z (x_len z underlying31 (rd_sliceV f0_1)) (wv (Pt b426 4) ((wanted_eq z z z (cvb hc439)).trans z) z (x_field z underlying33 z sizeOf31 z) (wv (r1_1) ((wanted_eq z z z (cvb hc439)).trans z) z (x_load z isAgg31 (hst.bc0 z)) (wv (.int .i64 ((a1.Scans).length : Int)) ((wanted_eq z z z (cvb hc439)).trans z) z (x_len z underlying31 (rd_sliceV f1_1)) (wv (.bool (((a0.Scans).length : Int) != ((a1.Scans).length : Int))) ((wanted_eq z z z (cvb hc439)).trans z) z z (wv (.bool (((a0.Scans).length : Int) != ((a1.Scans).length : Int))) z z (x_pick_f hc439 z z) (wl_nil (tn ?_)))))))))
 refine bsplit (((a0.Scans).length : Int) != ((a1.Scans).length : Int)) (fun hc440 => ?_) (fun hc440 => ?_)
 {
 replace hm := bif_t hc440 hm
 refine wp_ift (cvb hc440) ?_
 refine wp_seq (wrl (wv (.bool false) z z z (wl_nil (tn (wp_ret (then_r ?_))))))
 obtain rfl := some_inj hm
 refine post_ret (vs := [.bool false]) results32 (rvs_cons (rv_tmp z) rvs_nil) ?_
 exact ⟨z, hst.keep0⟩
}
 {
 replace hm := bif_f hc440 hm
 refine wp_iff (cvb hc440) ?_
 refine wp_skip (tn (wp_seq (wp_seq (wrl ?_))))
 refine wv (.int .i64 (0:Int)) z z z (wl_nil (tn (wp_block ?_)))
 obtain ⟨n502, hm⟩ := loopO_some hm
 refine wp_loop_n (fun n a w => ∃ (z500 : Int) (σ501 : Nat → Value), loopN (ref11_SameReply_l0 a0 a1) n z500 = some r ∧ a = Fr 61 (upd (upd (upd σ501 2 (Pt b421 0)) 3 (Pt b426 0)) 5 (.int .i64 z500)) ∧ St w0 w I [cells b426 [I6 a1.E, U6 a1.Epoch, U6 a1.Index, r1_0, r1_1], cells b421 [I6 a0.E, U6 a0.Epoch, U6 a0.Index, r0_0, r0_1]] R) n502 ⟨(0:Int), _, hm, (fu 2 (Pt b421 0) z (fu 3 (Pt b426 0) z (fu 5 (.int .i64 (0:Int)) z z))), hst⟩ ?_
 rintro n508 _ w503 ⟨z500, σ501, hm, rfl, hst⟩
 obtain ⟨n505, y506, rfl, hm, hx507⟩ := loopN_some hm
 dsimp only [ref11_SameReply_l0] at hm
 refine wp_seq (wp_seq (wrl (wv (.int .i64 z500) z z z (wv (Pt b421 4) z z (x_field z underlying33 z sizeOf31 z) (wv (r0_1) z z (x_load z isAgg31 (hst.bc1 z)) (wv (.int .i64 ((a0.Scans).length : Int)) z z (x_len z underlying31 (rd_sliceV f0_1)) (wv (.bool (decide (z500 < ((a0.Scans).length : Int)))) z z z (wl_nil (tn ?_)))))))))
 refine bsplit (decide (z500 < ((a0.Scans).length : Int))) (fun hc509 => ?_) (fun hc509 => ?_)
 {
 replace hm := bif_t hc509 hm
 refine wp_ift (cvb hc509) ?_
 refine wp_skip (tn (wp_seq (wp_block (wp_seq ?_))))
 refine wp_region_St hst 12 [0, 1, 2, 3, 4, 5, 6, 7, 8, 9, 10, 11] [0, 1, 0, 7, 15, 0, 32, 0, 224, 480, 1023, 2047] [] z (by kernel_rfl) (by kernel_rfl) Tryz.mixed (by kernel_rfl) ?_
 refine wsr (Pt b421 4) 0 z z z (by kernel_rfl) (fun w hst => x_field z underlying33 z sizeOf31 z) (wsr (r0_1) 1 z z z (by kernel_rfl) (fun w hst => x_load z isAgg31 (hst.bc1 z)) (wsr (.int .i64 z500) 2 z z z (by kernel_rfl) (fun w hst => z) ?_))
 obtain ⟨x510, hx511, hm⟩ := bind_some hm
 obtain ⟨h512, h513, hi514⟩ := geto_some hx511
 refine wsr (.pointer (some (eAddr r0_1 (z500.toNat * 1 + 0)))) 3 z z z (by kernel_rfl) (fun w hst => x_index z z underlying31 sizeOf81 (rd_sliceV f0_1) h512 h513) ?_
 obtain ⟨cs515, hr516, hc517⟩ := Rd.getF f0_1 hi514
 obtain ⟨v518, rfl, f519, -⟩ := hr516
 refine wsr (v518) 4 z z z (by kernel_rfl) (fun w hst => x_load z isAgg81 ((hc517 (HL.le.refl _) hst) 0 _ z)) (wsr (Pt b426 4) 5 z z z (by kernel_rfl) (fun w hst => x_field z underlying33 z sizeOf31 z) (wsr (r1_1) 6 z z z (by kernel_rfl) (fun w hst => x_load z isAgg31 (hst.bc0 z)) (wsr (.int .i64 z500) 7 z z z (by kernel_rfl) (fun w hst => z) ?_)))
 obtain ⟨x521, hx522, hm⟩ := bind_some hm
 obtain ⟨h523, h524, hi525⟩ := geto_some hx522
 refine wsr (.pointer (some (eAddr r1_1 (z500.toNat * 1 + 0)))) 8 z z z (by kernel_rfl) (fun w hst => x_index z z underlying31 sizeOf81 (rd_sliceV f1_1) h523 h524) ?_
 obtain ⟨cs526, hr527, hc528⟩ := Rd.getF f1_1 hi525
 obtain ⟨v529, rfl, f530, -⟩ := hr527
 refine wsr (v529) 9 z z z (by kernel_rfl) (fun w hst => x_load z isAgg81 ((hc528 (HL.le.refl _) hst) 0 _ z)) ?_
 refine ws_e1 10 (by kernel_rfl) ?_
 refine nxe [11] (by kernel_rfl) z z ?_
 clear hst
 intro w hst
 obtain ⟨t532, ht533, hm⟩ := bind_some hm
 refine wec call79 [v518, v529] z z ?_
 refine (ref11_SamePairs_ref (f519.mono (rd_weak _)) (f530.mono (rd_weak _)) hst.to0 ht533).mono ?_
 rintro _ w534 ⟨rfl, hst⟩
 refine ⟨_, z, ?_⟩
 replace hst := hst.of0
 refine ws_next (pend' := []) hst (by kernel_rfl) pk_nil ?_
 refine wsr (.bool (!t532)) 11 z z z (by kernel_rfl) (fun w hst => z) ?_
 refine ws_nil ?_
 intro w hst
 refine tn ?_
 refine bsplit (!t532) (fun hc537 => ?_) (fun hc537 => ?_)
 {
 replace hm := bif_t hc537 hm
 refine wp_ift (cvb hc537) ?_
 refine wp_seq (wrl (wv (.bool false) z z z (wl_nil (tn (wp_ret (blk_r (then_r (then_r ?_))))))))
 replace hm := inr_up hm hx507
 refine blk_r (then_r ?_)
 obtain rfl := some_inj hm
 refine post_ret (vs := [.bool false]) results32 (rvs_cons (rv_tmp z) rvs_nil) ?_
 exact ⟨z, hst.keep0⟩
}
 {
 replace hm := bif_f hc537 hm
 refine wp_iff (cvb hc537) ?_
 refine wp_skip (blk_n (tn (wrl ?_)))
 refine wv (.int .i64 z500) z z z (wv (.int .i64 (i64.wrap (z500 + (1:Int)))) z z z (wv (.int .i64 (i64.wrap (z500 + (1:Int)))) z z z (wl_nil (tn ?_))))
 replace hst := hst.pull1.pull1.keep2
 obtain rfl := some_inj hm
 exact ⟨_, Nat.lt_succ_self _, (i64.wrap (z500 + (1:Int))), _, hx507, (fu 2 (Pt b421 0) z (fu 3 (Pt b426 0) z (fu 5 (.int .i64 (i64.wrap (z500 + (1:Int)))) z z))), hst⟩
}
}
 {
 replace hm := bif_f hc509 hm
 refine wp_iff (cvb hc509) ?_
 refine wp_exit (then_x (then_x ?_))
 replace hm := inr_up hm hx507
 refine blk_x (tn (wp_seq (wrl ?_)))
 refine wv (.bool true) z z z (wl_nil (tn (wp_ret ?_)))
 obtain rfl := some_inj hm
 refine post_ret (vs := [.bool true]) results32 (rvs_cons (rv_tmp z) rvs_nil) ?_
 exact ⟨z, hst.keep0⟩
}
}
}
}
}
}
}

theorem law16_LaneOnce_ref {w0 w : World} {I : HL} {R : SP} {a0 : (List Int)} {r0_0 : Value} {a1 : Int} (f0_0 : Ro (tyInt .u8) I r0_0 a0) (hst : St w0 w I [] R) {r : (Bool)} (hm : law16_LaneOnce a0 a1 = some r) :
  Calls prog 9 #[r0_0, U1 a1] w fun e w' => ∃ (I' : HL), e = .returned (.bool r) ∧ I.le I' ∧ St w0 w' I' [] R := by {
 unfold law16_LaneOnce at hm
 refine calls_start (args := [r0_0, U1 a1]) func9 z ntmps9 (Nat.le_of_ble_eq_true z) ?_
 have hI0 := HL.le.refl I
 refine wp_seq (wrl (wv (.bool false) z z z (wl_nil (tn (wp_seq (wp_seq (wrl ?_)))))))
 obtain ⟨t315, ht316, hm⟩ := bind_some hm
 refine wc call12 [] z z z ?_
 refine (law16_awake_ref hst.to0 ht316).mono ?_
 rintro _ w317 ⟨I318, rfl, hI319, hst⟩
 refine ⟨_, z, ?_⟩
 replace hst := hst.of0
 replace f0_0 := f0_0.mono (ro_le hI319)
 replace hI0 := hI0.trans hI319
 refine wv (.bool (!t315)) z z z (wv (.bool (!t315)) z z z ?_)
 refine bsplit (!t315) (fun hc320 => ?_) (fun hc320 => ?_)
 {
 replace hm := bif_t hc320 hm
 refine wo hc320 z z z z z z (wo hc320 z z z z z z (wo hc320 z z z z z z (wv (.bool true) z z (x_pick_t hc320 z z) (wl_nil (tn ?_)))))
 refine wp_ift z ?_
 refine wp_seq (wrl ?_)
 obtain ⟨t321, ht322, hm⟩ := bind_some hm
 refine wc call12 [] z z z ?_
 refine (law16_awake_ref hst.to0 ht322).mono ?_
 rintro _ w323 ⟨I324, rfl, hI325, hst⟩
 refine ⟨_, z, ?_⟩
 replace hst := hst.of0
 replace f0_0 := f0_0.mono (ro_le hI325)
 replace hI0 := hI0.trans hI325
 refine wv (.bool t321) z z z (wl_nil (tn (wp_ret (then_r ?_))))
 obtain rfl := some_inj hm
 refine post_ret (vs := [.bool t321]) results9 (rvs_cons (rv_tmp z) rvs_nil) ?_
 exact ⟨_, z, hI0, hst.keep0⟩
}
 {
 replace hm := bif_f hc320 hm
 refine wv (r0_0) ((wanted_eq z z z (cvb hc320)).trans z) z z (wv (.int .i64 ((a0).length : Int)) ((wanted_eq z z z (cvb hc320)).trans z) z (x_len z underlying22 (ro_sliceV f0_0)) (wv (.bool (decide (((a0).length : Int) > (100:Int)))) ((wanted_eq z z z (cvb hc320)).trans z) z z (wv (.bool (decide (((a0).length : Int) > (100:Int)))) z z (x_pick_f hc320 z z) (wl_nil (tn ?_)))))
 refine bsplit (decide (((a0).length : Int) > (100:Int))) (fun hc326 => ?_) (fun hc326 => ?_)
 {
 replace hm := bif_t hc326 hm
 refine wp_ift (cvb hc326) ?_
 refine wp_seq (wrl ?_)
 obtain ⟨t327, ht328, hm⟩ := bind_some hm
 refine wc call12 [] z z z ?_
 refine (law16_awake_ref hst.to0 ht328).mono ?_
 rintro _ w329 ⟨I330, rfl, hI331, hst⟩
 refine ⟨_, z, ?_⟩
 replace hst := hst.of0
 replace f0_0 := f0_0.mono (ro_le hI331)
 replace hI0 := hI0.trans hI331
 refine wv (.bool t327) z z z (wl_nil (tn (wp_ret (then_r ?_))))
 obtain rfl := some_inj hm
 refine post_ret (vs := [.bool t327]) results9 (rvs_cons (rv_tmp z) rvs_nil) ?_
 exact ⟨_, z, hI0, hst.keep0⟩
}
 {
 replace hm := bif_f hc326 hm
 refine wp_iff (cvb hc326) ?_
 refine wp_skip (tn (wp_seq (wrl ?_)))
 refine wv (r0_0) z z z (wv (.agg #[r0_0, Zi]) z z (by obtain ⟨_, _, hv_, _⟩ := (ro_sliceV f0_0); rw [hv_]; kernel_rfl) ?_)
 obtain ⟨b333, w334, ew335, eb336, hst⟩ := hst.box [r0_0, Zi] 74
 refine wl_run (v := Pt b333 0) (w' := w334) z z (x_al (by kernel_rfl) ew335 eb336) ?_
 refine wv (Pt b333 0) z z z (wl_nil (tn (wp_seq (wrl ?_))))
 obtain ⟨t338, ht339, hm⟩ := bind_some hm
 refine wc call13 [Zi] z z z ?_
 refine (lane_New_ref hst.to0 ht339).mono ?_
 rintro _ w340 ⟨v343, rfl, hst⟩
 refine ⟨_, z, ?_⟩
 replace hst := hst.of1
 refine wv (v343) z z z (wl_nil (tn (wp_seq (wrl (wv (Pt b333 0) z z z ?_)))))
 replace hst := hst.pull1
 replace hst := at_ref12_Tape_close (pv := Pt b333 0) (x := ({ L := a0, I := (0:Int) } : ref12_Tape)) hst ⟨z, f0_0⟩
 obtain ⟨t345, ht346, hm⟩ := bind_some hm
 refine wc call27 [Pt b333 0] z z z ?_
 refine (ref12_Tape_Of_ref hst.to1 ht346).mono ?_
 rintro _ w347 ⟨rfl, hst⟩
 refine ⟨_, z, ?_⟩
 replace hst := hst.of1
 obtain ⟨b350, w351, ew352, eb353, hst⟩ := hst.box [Zu, Zu] 28
 refine wl_run (v := Pt b350 0) (w' := w351) z z (x_al (by kernel_rfl) ew352 eb353) ?_
 obtain ⟨w355, hr356, hst⟩ := hst.bx [U6 t345.1.Session, U6 t345.1.Seq] sizeOf28 z (oC z (oC z oN)) (by kernel_rfl)
 refine wl_unit z z (x_unit hr356) ?_
 refine wl_nil (tn (wp_seq (wrl (wv (Pt b333 0) z z z ?_))))
 replace hst := hst.pull1
 obtain ⟨t357, ht358, hm⟩ := bind_some hm
 refine wc call35 [Pt b333 0] z z z ?_
 refine (ref13_OfReply_ref hst.to1 ht358).mono ?_
 rintro _ w359 ⟨I360, v362, v364, rfl, hI361, hst⟩
 refine ⟨_, z, ?_⟩
 replace hst := hst.of3
 replace f0_0 := f0_0.mono (ro_le hI361)
 replace hI0 := hI0.trans hI361
 obtain ⟨b368, w369, ew370, eb371, hst⟩ := hst.box [Zi, Zu, Zu, Zs, Zs] 33
 refine wl_run (v := Pt b368 0) (w' := w369) z z (x_al (by kernel_rfl) ew370 eb371) ?_
 obtain ⟨w373, hr374, hst⟩ := hst.bx [I6 t357.1.E, U6 t357.1.Epoch, U6 t357.1.Index, v362, v364] sizeOf33 z (oC z (oC z (oC z (oC (one_of_sliceV hst.sv1) (oC (one_of_sliceV hst.sv2) oN))))) (by kernel_rfl)
 refine wl_unit z z (x_unit hr374) ?_
 refine wl_nil (tn (wp_seq (wrl (wv (.agg #[U6 t345.1.Session, U6 t345.1.Seq]) z z (x_loadN (cs := [U6 t345.1.Session, U6 t345.1.Seq]) z isAgg28 sizeOf28 (hst.bcs4 0 z)) (wv (.int .u8 a1) z z z (wv (.int .u8 (Int.tmod a1 (2:Int))) z z (x_rem (by decide) z z) (wv (.int .u64 (u64.wrap (Int.tmod a1 (2:Int)))) z z (by kernel_rfl) (wv (.int .u64 (u64.wrap ((1:Int) + (u64.wrap (Int.tmod a1 (2:Int)))))) z z z (wv (.agg #[I6 t357.1.E, U6 t357.1.Epoch, U6 t357.1.Index, v362, v364]) z z (x_loadN (cs := [I6 t357.1.E, U6 t357.1.Epoch, U6 t357.1.Index, v362, v364]) z isAgg33 sizeOf33 (hst.bcs0 0 z)) (wv (.agg #[U1 (4:Int), U6 t345.1.Session, U6 t345.1.Seq, U6 (u64.wrap ((1:Int) + (u64.wrap (Int.tmod a1 (2:Int))))), Zu, Zi, Zu, Zu, Zu, Zs, Zs, Zs, Zs, Zs, I6 t357.1.E, U6 t357.1.Epoch, U6 t357.1.Index, v362, v364, U6 (3:Int), Zs, Zu, Zi, Zi, Zf, Zf, Zu, Zi, .bool false]) z z (by obtain ⟨_, _, hv_, _⟩ := hst.sv2; rw [hv_]; obtain ⟨_, _, hv_, _⟩ := hst.sv1; rw [hv_]; kernel_rfl) ?_))))))))))
 obtain ⟨b391, w392, ew393, eb394, hst⟩ := hst.box [Zb, Zu, Zu, Zu, Zu, Zi, Zu, Zu, Zu, Zs, Zs, Zs, Zs, Zs, Zi, Zu, Zu, Zs, Zs, Zu, Zs, Zu, Zi, Zi, Zf, Zf, Zu, Zi, .bool false] 49
 refine wl_run (v := Pt b391 0) (w' := w392) z z (x_al (by kernel_rfl) ew393 eb394) ?_
 obtain ⟨w396, hr397, hst⟩ := hst.bx [U1 (4:Int), U6 t345.1.Session, U6 t345.1.Seq, U6 (u64.wrap ((1:Int) + (u64.wrap (Int.tmod a1 (2:Int))))), Zu, Zi, Zu, Zu, Zu, Zs, Zs, Zs, Zs, Zs, I6 t357.1.E, U6 t357.1.Epoch, U6 t357.1.Index, v362, v364, U6 (3:Int), Zs, Zu, Zi, Zi, Zf, Zf, Zu, Zi, .bool false] sizeOf49 z (oC z (oC z (oC z (oC z (oC z (oC z (oC z (oC z (oC z (oC z (oC z (oC z (oC z (oC z (oC z (oC z (oC z (oC (one_of_sliceV hst.sv2) (oC (one_of_sliceV hst.sv3) (oC z (oC z (oC z (oC z (oC z (oC z (oC z (oC z (oC z (oC z oN))))))))))))))))))))))))))))) (by kernel_rfl)
 refine wl_unit z z (x_unit hr397) ?_
 refine wl_nil (tn (wp_seq (wrl (wv (v343) z z z (wv (.agg #[U1 (4:Int), U6 t345.1.Session, U6 t345.1.Seq, U6 (u64.wrap ((1:Int) + (u64.wrap (Int.tmod a1 (2:Int))))), Zu, Zi, Zu, Zu, Zu, Zs, Zs, Zs, Zs, Zs, I6 t357.1.E, U6 t357.1.Epoch, U6 t357.1.Index, v362, v364, U6 (3:Int), Zs, Zu, Zi, Zi, Zf, Zf, Zu, Zi, .bool false]) z z (x_loadN (cs := [U1 (4:Int), U6 t345.1.Session, U6 t345.1.Seq, U6 (u64.wrap ((1:Int) + (u64.wrap (Int.tmod a1 (2:Int))))), Zu, Zi, Zu, Zu, Zu, Zs, Zs, Zs, Zs, Zs, I6 t357.1.E, U6 t357.1.Epoch, U6 t357.1.Index, v362, v364, U6 (3:Int), Zs, Zu, Zi, Zi, Zf, Zf, Zu, Zi, .bool false]) z isAgg49 sizeOf49 (hst.bcs0 0 z)) ?_)))))
 replace hst := hst.pull6
 replace hst := objO_some hst
 have f398 : Ro tyF64 I360 (.slice none 0 0) [] := ro_nil
 have f399 : Ro tyF2 I360 (.slice none 0 0) [] := ro_nil
 have f400 : Ro tyF64 I360 (.slice none 0 0) [] := ro_nil
 have f401 : Ro (tyInt .u8) I360 (.slice none 0 0) [] := ro_nil
 have f402 : Ro ty_api_Write I360 (.slice none 0 0) [] := ro_nil
 replace hst := hst.pull3
 obtain ⟨I403, hI404, f405, hst⟩ := hst.own_fix
 replace f0_0 := f0_0.mono (ro_le hI404)
 replace f398 := f398.mono (ro_le hI404)
 replace f399 := f399.mono (ro_le hI404)
 replace f400 := f400.mono (ro_le hI404)
 replace f401 := f401.mono (ro_le hI404)
 replace f402 := f402.mono (ro_le hI404)
 replace hI0 := hI0.trans hI404
 replace hst := hst.pull3
 obtain ⟨I406, hI407, f408, hst⟩ := hst.own_fix
 replace f0_0 := f0_0.mono (ro_le hI407)
 replace f398 := f398.mono (ro_le hI407)
 replace f399 := f399.mono (ro_le hI407)
 replace f400 := f400.mono (ro_le hI407)
 replace f401 := f401.mono (ro_le hI407)
 replace f402 := f402.mono (ro_le hI407)
 replace f405 := f405.mono (ro_le hI407)
 replace hI0 := hI0.trans hI407
 have f409 : Ro ty_api_Part I406 (.slice none 0 0) [] := ro_nil
 obtain ⟨t410, ht411, hm⟩ := bind_some hm
 refine wc call14 [v343, U6 (7:Int), .agg #[U1 (4:Int), U6 t345.1.Session, U6 t345.1.Seq, U6 (u64.wrap ((1:Int) + (u64.wrap (Int.tmod a1 (2:Int))))), Zu, Zi, Zu, Zu, Zu, Zs, Zs, Zs, Zs, Zs, I6 t357.1.E, U6 t357.1.Epoch, U6 t357.1.Index, v362, v364, U6 (3:Int), Zs, Zu, Zi, Zi, Zf, Zf, Zu, Zi, .bool false]] z z z ?_
 refine (lane_State_Apply_ref (a2 := ({ Kind := (4:Int), ID := t345.1, Epoch := (u64.wrap ((1:Int) + (u64.wrap (Int.tmod a1 (2:Int))))), Index := (0:Int), E := (0:Int), Hold := zero_api_Hold, Writes := [], R := t357.1, Shards := (3:Int), Parts := [], Rule := zero_api_Rule, On := false } : api_Command)) f398 f399 f400 f401 f402 f405 f408 f409 hst.to1 ht411).mono ?_
 rintro _ w412 ⟨I413, v415, v418, rfl, hI414, f417, f420, hst⟩
 refine ⟨_, z, ?_⟩
 replace hst := hst.of1
 replace f0_0 := f0_0.mono (ro_le hI414)
 replace f398 := f398.mono (ro_le hI414)
 replace f399 := f399.mono (ro_le hI414)
 replace f400 := f400.mono (ro_le hI414)
 replace f401 := f401.mono (ro_le hI414)
 replace f402 := f402.mono (ro_le hI414)
 replace f405 := f405.mono (ro_le hI414)
 replace f408 := f408.mono (ro_le hI414)
 replace f409 := f409.mono (ro_le hI414)
 replace hI0 := hI0.trans hI414
 rcases he422 : t410.2 with _ | y421
 · rw [he422] at hm; cases hm
 rw [he422] at hm hst; dsimp only at hm; replace hst := objO_get hst
 obtain ⟨b425, w426, ew427, eb428, hst⟩ := hst.box [Zb, Zu, Zu, Zi, Zu, Zu, Zs, Zs] 35
 refine wl_run (v := Pt b425 0) (w' := w426) z z (x_al (by kernel_rfl) ew427 eb428) ?_
 obtain ⟨w430, hr431, hst⟩ := hst.bx [U1 t410.1.Kind, U6 t410.1.ID.Session, U6 t410.1.ID.Seq, I6 t410.1.R.E, U6 t410.1.R.Epoch, U6 t410.1.R.Index, v415, v418] sizeOf35 z (oC z (oC z (oC z (oC z (oC z (oC z (oC (one_of_sliceV (ro_sliceV f417)) (oC (one_of_sliceV (ro_sliceV f420)) oN)))))))) (by kernel_rfl)
 refine wl_unit z z (x_unit hr431) ?_
 refine wl_nil (tn (wp_seq (wrl (wv (Pt b333 0) z z z ?_))))
 replace hst := hst.pull4
 obtain ⟨t432, ht433, hm⟩ := bind_some hm
 refine wc call35 [Pt b333 0] z z z ?_
 refine (ref13_OfReply_ref hst.to1 ht433).mono ?_
 rintro _ w434 ⟨I435, v437, v439, rfl, hI436, hst⟩
 refine ⟨_, z, ?_⟩
 replace hst := hst.of3
 replace f0_0 := f0_0.mono (ro_le hI436)
 replace f398 := f398.mono (ro_le hI436)
 replace f399 := f399.mono (ro_le hI436)
 replace f400 := f400.mono (ro_le hI436)
 replace f401 := f401.mono (ro_le hI436)
 replace f402 := f402.mono (ro_le hI436)
 replace f405 := f405.mono (ro_le hI436)
 replace f408 := f408.mono (ro_le hI436)
 replace f409 := f409.mono (ro_le hI436)
 replace f417 := f417.mono (ro_le hI436)
 replace f420 := f420.mono (ro_le hI436)
 replace hI0 := hI0.trans hI436
 refine wv (Pt b391 14) z z (x_field z underlying49 z sizeOf33 z) ?_
 replace hst := hst.pull5
 obtain ⟨w441, hr442, hst⟩ := hst.by_ [U1 (4:Int), U6 t345.1.Session, U6 t345.1.Seq, U6 (u64.wrap ((1:Int) + (u64.wrap (Int.tmod a1 (2:Int))))), Zu, Zi, Zu, Zu, Zu, Zs, Zs, Zs, Zs, Zs, I6 t432.1.E, U6 t432.1.Epoch, U6 t432.1.Index, v437, v439, U6 (3:Int), Zs, Zu, Zi, Zi, Zf, Zf, Zu, Zi, .bool false] 14 (.agg #[I6 t432.1.E, U6 t432.1.Epoch, U6 t432.1.Index, v437, v439]) sizeOf33 z (oC z (oC z (oC z (oC (one_of_sliceV hst.sv1) (oC (one_of_sliceV hst.sv2) oN))))) (by kernel_rfl)
 refine wl_unit z z (x_unit hr442) ?_
 refine wl_nil (tn (wp_seq (wrl (wv (v343) z z z (wv (.agg #[U1 (4:Int), U6 t345.1.Session, U6 t345.1.Seq, U6 (u64.wrap ((1:Int) + (u64.wrap (Int.tmod a1 (2:Int))))), Zu, Zi, Zu, Zu, Zu, Zs, Zs, Zs, Zs, Zs, I6 t432.1.E, U6 t432.1.Epoch, U6 t432.1.Index, v437, v439, U6 (3:Int), Zs, Zu, Zi, Zi, Zf, Zf, Zu, Zi, .bool false]) z z (x_loadN (cs := [U1 (4:Int), U6 t345.1.Session, U6 t345.1.Seq, U6 (u64.wrap ((1:Int) + (u64.wrap (Int.tmod a1 (2:Int))))), Zu, Zi, Zu, Zu, Zu, Zs, Zs, Zs, Zs, Zs, I6 t432.1.E, U6 t432.1.Epoch, U6 t432.1.Index, v437, v439, U6 (3:Int), Zs, Zu, Zi, Zi, Zf, Zf, Zu, Zi, .bool false]) z isAgg49 sizeOf49 (hst.bcs0 0 z)) ?_)))))
 replace hst := hst.pull5
 replace hst := objO_some hst
 replace hst := hst.pull2
 obtain ⟨I443, hI444, f445, hst⟩ := hst.own_fix
 replace f0_0 := f0_0.mono (ro_le hI444)
 replace f398 := f398.mono (ro_le hI444)
 replace f399 := f399.mono (ro_le hI444)
 replace f400 := f400.mono (ro_le hI444)
 replace f401 := f401.mono (ro_le hI444)
 replace f402 := f402.mono (ro_le hI444)
 replace f405 := f405.mono (ro_le hI444)
 replace f408 := f408.mono (ro_le hI444)
 replace f409 := f409.mono (ro_le hI444)
 replace f417 := f417.mono (ro_le hI444)
 replace f420 := f420.mono (ro_le hI444)
 replace hI0 := hI0.trans hI444
 replace hst := hst.pull2
 obtain ⟨I446, hI447, f448, hst⟩ := hst.own_fix
 replace f0_0 := f0_0.mono (ro_le hI447)
 replace f398 := f398.mono (ro_le hI447)
 replace f399 := f399.mono (ro_le hI447)
 replace f400 := f400.mono (ro_le hI447)
 replace f401 := f401.mono (ro_le hI447)
 replace f402 := f402.mono (ro_le hI447)
 replace f405 := f405.mono (ro_le hI447)
 replace f408 := f408.mono (ro_le hI447)
 replace f409 := f409.mono (ro_le hI447)
 replace f417 := f417.mono (ro_le hI447)
 replace f420 := f420.mono (ro_le hI447)
 replace f445 := f445.mono (ro_le hI447)
 replace hI0 := hI0.trans hI447
 obtain ⟨t449, ht450, hm⟩ := bind_some hm
 refine wc call14 [v343, U6 (8:Int), .agg #[U1 (4:Int), U6 t345.1.Session, U6 t345.1.Seq, U6 (u64.wrap ((1:Int) + (u64.wrap (Int.tmod a1 (2:Int))))), Zu, Zi, Zu, Zu, Zu, Zs, Zs, Zs, Zs, Zs, I6 t432.1.E, U6 t432.1.Epoch, U6 t432.1.Index, v437, v439, U6 (3:Int), Zs, Zu, Zi, Zi, Zf, Zf, Zu, Zi, .bool false]] z z z ?_
 refine (lane_State_Apply_ref (a2 := ({ Kind := (4:Int), ID := t345.1, Epoch := (u64.wrap ((1:Int) + (u64.wrap (Int.tmod a1 (2:Int))))), Index := (0:Int), E := (0:Int), Hold := zero_api_Hold, Writes := [], R := t432.1, Shards := (3:Int), Parts := [], Rule := zero_api_Rule, On := false } : api_Command)) f398 f399 f400 f401 f402 f445 f448 f409 hst.to1 ht450).mono ?_
 rintro _ w451 ⟨I452, v454, v457, rfl, hI453, f456, f459, hst⟩
 refine ⟨_, z, ?_⟩
 replace hst := hst.of1
 replace f0_0 := f0_0.mono (ro_le hI453)
 replace f398 := f398.mono (ro_le hI453)
 replace f399 := f399.mono (ro_le hI453)
 replace f400 := f400.mono (ro_le hI453)
 replace f401 := f401.mono (ro_le hI453)
 replace f402 := f402.mono (ro_le hI453)
 replace f405 := f405.mono (ro_le hI453)
 replace f408 := f408.mono (ro_le hI453)
 replace f409 := f409.mono (ro_le hI453)
 replace f417 := f417.mono (ro_le hI453)
 replace f420 := f420.mono (ro_le hI453)
 replace f445 := f445.mono (ro_le hI453)
 replace f448 := f448.mono (ro_le hI453)
 replace hI0 := hI0.trans hI453
 rcases he461 : t449.2 with _ | y460
 · rw [he461] at hm; cases hm
 rw [he461] at hm hst; dsimp only at hm; replace hst := objO_get hst
 obtain ⟨b464, w465, ew466, eb467, hst⟩ := hst.box [Zb, Zu, Zu, Zi, Zu, Zu, Zs, Zs] 35
 refine wl_run (v := Pt b464 0) (w' := w465) z z (x_al (by kernel_rfl) ew466 eb467) ?_
 obtain ⟨w469, hr470, hst⟩ := hst.bx [U1 t449.1.Kind, U6 t449.1.ID.Session, U6 t449.1.ID.Seq, I6 t449.1.R.E, U6 t449.1.R.Epoch, U6 t449.1.R.Index, v454, v457] sizeOf35 z (oC z (oC z (oC z (oC z (oC z (oC z (oC (one_of_sliceV (ro_sliceV f456)) (oC (one_of_sliceV (ro_sliceV f459)) oN)))))))) (by kernel_rfl)
 refine wl_unit z z (x_unit hr470) ?_
 refine wl_nil (tn (wp_seq (wrl (wv (v343) z z z (wv (.agg #[U6 t345.1.Session, U6 t345.1.Seq]) z z (x_loadN (cs := [U6 t345.1.Session, U6 t345.1.Seq]) z isAgg28 sizeOf28 (hst.bcs6 0 z)) ?_)))))
 replace hst := hst.pull1
 replace hst := objO_some hst
 obtain ⟨t471, ht472, hm⟩ := bind_some hm
 refine wc call36 [v343, .agg #[U6 t345.1.Session, U6 t345.1.Seq]] z z z ?_
 refine (lane_State_Opened_ref hst.to1 ht472).mono ?_
 rintro _ w473 ⟨I474, v476, rfl, hI475, f478, hst⟩
 refine ⟨_, z, ?_⟩
 replace hst := hst.of1
 replace f0_0 := f0_0.mono (ro_le hI475)
 replace f398 := f398.mono (ro_le hI475)
 replace f399 := f399.mono (ro_le hI475)
 replace f400 := f400.mono (ro_le hI475)
 replace f401 := f401.mono (ro_le hI475)
 replace f402 := f402.mono (ro_le hI475)
 replace f405 := f405.mono (ro_le hI475)
 replace f408 := f408.mono (ro_le hI475)
 replace f409 := f409.mono (ro_le hI475)
 replace f417 := f417.mono (ro_le hI475)
 replace f420 := f420.mono (ro_le hI475)
 replace f445 := f445.mono (ro_le hI475)
 replace f448 := f448.mono (ro_le hI475)
 replace f456 := f456.mono (ro_le hI475)
 replace f459 := f459.mono (ro_le hI475)
 replace hI0 := hI0.trans hI475
 replace hst := objO_get hst
 refine wv (.tuple #[.agg #[U6 t471.1.ID.Session, U6 t471.1.ID.Seq, I6 t471.1.E, U6 t471.1.Epoch, U6 t471.1.Index, U6 t471.1.Shards, v476], .bool t471.2]) z z z (wv (.agg #[U6 t471.1.ID.Session, U6 t471.1.ID.Seq, I6 t471.1.E, U6 t471.1.Epoch, U6 t471.1.Index, U6 t471.1.Shards, v476]) z z z (wv (.bool t471.2) z z z ?_))
 obtain ⟨b480, w481, ew482, eb483, hst⟩ := hst.box [Zu, Zu, Zi, Zu, Zu, Zu, Zs] 89
 refine wl_run (v := Pt b480 0) (w' := w481) z z (x_al (by kernel_rfl) ew482 eb483) ?_
 obtain ⟨w485, hr486, hst⟩ := hst.bx [U6 t471.1.ID.Session, U6 t471.1.ID.Seq, I6 t471.1.E, U6 t471.1.Epoch, U6 t471.1.Index, U6 t471.1.Shards, v476] sizeOf89 z (oC z (oC z (oC z (oC z (oC z (oC z (oC (one_of_sliceV (ro_sliceV f478)) oN))))))) (by kernel_rfl)
 refine wl_unit z z (x_unit hr486) ?_
 refine wv (.bool t471.2) z z z (wl_nil (tn (wp_seq (wrl (wv (v343) z z z (wv (.agg #[U6 t345.1.Session, U6 t345.1.Seq]) z z (x_loadN (cs := [U6 t345.1.Session, U6 t345.1.Seq]) z isAgg28 sizeOf28 (hst.bcs7 0 z)) ?_))))))
 replace hst := hst.pull1
 replace hst := objO_some hst
 obtain ⟨t487, ht488, hm⟩ := bind_some hm
 refine wc call37 [v343, .agg #[U6 t345.1.Session, U6 t345.1.Seq]] z z z ?_
 refine (lane_State_Answer_ref hst.to1 ht488).mono ?_
 rintro _ w489 ⟨I490, v492, v495, rfl, hI491, f494, f497, hst⟩
 refine ⟨_, z, ?_⟩
 replace hst := hst.of1
 replace f0_0 := f0_0.mono (ro_le hI491)
 replace f398 := f398.mono (ro_le hI491)
 replace f399 := f399.mono (ro_le hI491)
 replace f400 := f400.mono (ro_le hI491)
 replace f401 := f401.mono (ro_le hI491)
 replace f402 := f402.mono (ro_le hI491)
 replace f405 := f405.mono (ro_le hI491)
 replace f408 := f408.mono (ro_le hI491)
 replace f409 := f409.mono (ro_le hI491)
 replace f417 := f417.mono (ro_le hI491)
 replace f420 := f420.mono (ro_le hI491)
 replace f445 := f445.mono (ro_le hI491)
 replace f448 := f448.mono (ro_le hI491)
 replace f456 := f456.mono (ro_le hI491)
 replace f459 := f459.mono (ro_le hI491)
 replace f478 := f478.mono (ro_le hI491)
 replace hI0 := hI0.trans hI491
 replace hst := objO_get hst
 refine wv (.tuple #[.agg #[I6 t487.1.E, U6 t487.1.Epoch, U6 t487.1.Index, v492, v495], I6 t487.2]) z z z (wv (.agg #[I6 t487.1.E, U6 t487.1.Epoch, U6 t487.1.Index, v492, v495]) z z z (wv (.int .i64 t487.2) z z z ?_))
 obtain ⟨b500, w501, ew502, eb503, hst⟩ := hst.box [Zi, Zu, Zu, Zs, Zs] 33
 refine wl_run (v := Pt b500 0) (w' := w501) z z (x_al (by kernel_rfl) ew502 eb503) ?_
 obtain ⟨w505, hr506, hst⟩ := hst.bx [I6 t487.1.E, U6 t487.1.Epoch, U6 t487.1.Index, v492, v495] sizeOf33 z (oC z (oC z (oC z (oC (one_of_sliceV (ro_sliceV f494)) (oC (one_of_sliceV (ro_sliceV f497)) oN))))) (by kernel_rfl)
 refine wl_unit z z (x_unit hr506) ?_
 refine wv (.int .i64 t487.2) z z z (wl_nil (tn (wp_seq (wrl (wv (v343) z z z (wv (.agg #[U6 t345.1.Session, U6 t345.1.Seq]) z z (x_loadN (cs := [U6 t345.1.Session, U6 t345.1.Seq]) z isAgg28 sizeOf28 (hst.bcs8 0 z)) (wv (.agg #[U1 (5:Int), U6 t345.1.Session, U6 t345.1.Seq, Zu, Zu, Zi, Zu, Zu, Zu, Zs, Zs, Zs, Zs, Zs, Zi, Zu, Zu, Zs, Zs, Zu, Zs, Zu, Zi, Zi, Zf, Zf, Zu, Zi, .bool false]) z z (by kernel_rfl) ?_)))))))
 replace hst := hst.pull1
 replace hst := objO_some hst
 have f515 : Ro tyF64 I490 (.slice none 0 0) [] := ro_nil
 have f516 : Ro tyF2 I490 (.slice none 0 0) [] := ro_nil
 have f517 : Ro tyF64 I490 (.slice none 0 0) [] := ro_nil
 have f518 : Ro (tyInt .u8) I490 (.slice none 0 0) [] := ro_nil
 have f519 : Ro ty_api_Write I490 (.slice none 0 0) [] := ro_nil
 have f520 : Ro ty_api_Got I490 (.slice none 0 0) [] := ro_nil
 have f521 : Ro (tySl ty_api_Pair) I490 (.slice none 0 0) [] := ro_nil
 have f522 : Ro ty_api_Part I490 (.slice none 0 0) [] := ro_nil
 obtain ⟨t523, ht524, hm⟩ := bind_some hm
 refine wc call14 [v343, U6 (9:Int), .agg #[U1 (5:Int), U6 t345.1.Session, U6 t345.1.Seq, Zu, Zu, Zi, Zu, Zu, Zu, Zs, Zs, Zs, Zs, Zs, Zi, Zu, Zu, Zs, Zs, Zu, Zs, Zu, Zi, Zi, Zf, Zf, Zu, Zi, .bool false]] z z z ?_
 refine (lane_State_Apply_ref (a2 := ({ Kind := (5:Int), ID := t345.1, Epoch := (0:Int), Index := (0:Int), E := (0:Int), Hold := zero_api_Hold, Writes := [], R := zero_api_Reply, Shards := (0:Int), Parts := [], Rule := zero_api_Rule, On := false } : api_Command)) f515 f516 f517 f518 f519 f520 f521 f522 hst.to1 ht524).mono ?_
 rintro _ w525 ⟨I526, v528, v531, rfl, hI527, f530, f533, hst⟩
 refine ⟨_, z, ?_⟩
 replace hst := hst.of1
 replace f0_0 := f0_0.mono (ro_le hI527)
 replace f398 := f398.mono (ro_le hI527)
 replace f399 := f399.mono (ro_le hI527)
 replace f400 := f400.mono (ro_le hI527)
 replace f401 := f401.mono (ro_le hI527)
 replace f402 := f402.mono (ro_le hI527)
 replace f405 := f405.mono (ro_le hI527)
 replace f408 := f408.mono (ro_le hI527)
 replace f409 := f409.mono (ro_le hI527)
 replace f417 := f417.mono (ro_le hI527)
 replace f420 := f420.mono (ro_le hI527)
 replace f445 := f445.mono (ro_le hI527)
 replace f448 := f448.mono (ro_le hI527)
 replace f456 := f456.mono (ro_le hI527)
 replace f459 := f459.mono (ro_le hI527)
 replace f478 := f478.mono (ro_le hI527)
 replace f494 := f494.mono (ro_le hI527)
 replace f497 := f497.mono (ro_le hI527)
 replace f515 := f515.mono (ro_le hI527)
 replace f516 := f516.mono (ro_le hI527)
 replace f517 := f517.mono (ro_le hI527)
 replace f518 := f518.mono (ro_le hI527)
 replace f519 := f519.mono (ro_le hI527)
 replace f520 := f520.mono (ro_le hI527)
 replace f521 := f521.mono (ro_le hI527)
 replace f522 := f522.mono (ro_le hI527)
 replace hI0 := hI0.trans hI527
 rcases he535 : t523.2 with _ | y534
 · rw [he535] at hm; cases hm
 rw [he535] at hm hst; dsimp only at hm; replace hst := objO_get hst
 refine wl_nil (tn (wp_seq (wrl (wv (v343) z z z (wv (.agg #[U6 t345.1.Session, U6 t345.1.Seq]) z z (x_loadN (cs := [U6 t345.1.Session, U6 t345.1.Seq]) z isAgg28 sizeOf28 (hst.bcs8 0 z)) ?_)))))
 replace hst := objO_some hst
 obtain ⟨t536, ht537, hm⟩ := bind_some hm
 refine wc call36 [v343, .agg #[U6 t345.1.Session, U6 t345.1.Seq]] z z z ?_
 refine (lane_State_Opened_ref hst.to1 ht537).mono ?_
 rintro _ w538 ⟨I539, v541, rfl, hI540, f543, hst⟩
 refine ⟨_, z, ?_⟩
 replace hst := hst.of1
 replace f0_0 := f0_0.mono (ro_le hI540)
 replace f398 := f398.mono (ro_le hI540)
 replace f399 := f399.mono (ro_le hI540)
 replace f400 := f400.mono (ro_le hI540)
 replace f401 := f401.mono (ro_le hI540)
 replace f402 := f402.mono (ro_le hI540)
 replace f405 := f405.mono (ro_le hI540)
 replace f408 := f408.mono (ro_le hI540)
 replace f409 := f409.mono (ro_le hI540)
 replace f417 := f417.mono (ro_le hI540)
 replace f420 := f420.mono (ro_le hI540)
 replace f445 := f445.mono (ro_le hI540)
 replace f448 := f448.mono (ro_le hI540)
 replace f456 := f456.mono (ro_le hI540)
 replace f459 := f459.mono (ro_le hI540)
 replace f478 := f478.mono (ro_le hI540)
 replace f494 := f494.mono (ro_le hI540)
 replace f497 := f497.mono (ro_le hI540)
 replace f515 := f515.mono (ro_le hI540)
 replace f516 := f516.mono (ro_le hI540)
 replace f517 := f517.mono (ro_le hI540)
 replace f518 := f518.mono (ro_le hI540)
 replace f519 := f519.mono (ro_le hI540)
 replace f520 := f520.mono (ro_le hI540)
 replace f521 := f521.mono (ro_le hI540)
 replace f522 := f522.mono (ro_le hI540)
 replace f530 := f530.mono (ro_le hI540)
 replace f533 := f533.mono (ro_le hI540)
 replace hI0 := hI0.trans hI540
 replace hst := objO_get hst
 refine wv (.tuple #[.agg #[U6 t536.1.ID.Session, U6 t536.1.ID.Seq, I6 t536.1.E, U6 t536.1.Epoch, U6 t536.1.Index, U6 t536.1.Shards, v541], .bool t536.2]) z z z (wv (.agg #[U6 t536.1.ID.Session, U6 t536.1.ID.Seq, I6 t536.1.E, U6 t536.1.Epoch, U6 t536.1.Index, U6 t536.1.Shards, v541]) z z z (wv (.bool t536.2) z z z ?_))
 obtain ⟨b545, w546, ew547, eb548, hst⟩ := hst.box [Zu, Zu, Zi, Zu, Zu, Zu, Zs] 89
 refine wl_run (v := Pt b545 0) (w' := w546) z z (x_al (by kernel_rfl) ew547 eb548) ?_
 obtain ⟨w550, hr551, hst⟩ := hst.bx [U6 t536.1.ID.Session, U6 t536.1.ID.Seq, I6 t536.1.E, U6 t536.1.Epoch, U6 t536.1.Index, U6 t536.1.Shards, v541] sizeOf89 z (oC z (oC z (oC z (oC z (oC z (oC z (oC (one_of_sliceV (ro_sliceV f543)) oN))))))) (by kernel_rfl)
 refine wl_unit z z (x_unit hr551) ?_
 refine wv (.bool t536.2) z z z (wl_nil (tn (wp_seq (wrl (wv (v343) z z z (wv (.agg #[U1 (4:Int), U6 t345.1.Session, U6 t345.1.Seq, U6 (u64.wrap ((1:Int) + (u64.wrap (Int.tmod a1 (2:Int))))), Zu, Zi, Zu, Zu, Zu, Zs, Zs, Zs, Zs, Zs, I6 t432.1.E, U6 t432.1.Epoch, U6 t432.1.Index, v437, v439, U6 (3:Int), Zs, Zu, Zi, Zi, Zf, Zf, Zu, Zi, .bool false]) z z (x_loadN (cs := [U1 (4:Int), U6 t345.1.Session, U6 t345.1.Seq, U6 (u64.wrap ((1:Int) + (u64.wrap (Int.tmod a1 (2:Int))))), Zu, Zi, Zu, Zu, Zu, Zs, Zs, Zs, Zs, Zs, I6 t432.1.E, U6 t432.1.Epoch, U6 t432.1.Index, v437, v439, U6 (3:Int), Zs, Zu, Zi, Zi, Zf, Zf, Zu, Zi, .bool false]) z isAgg49 sizeOf49 (hst.bcs5 0 z)) ?_))))))
 replace hst := hst.pull1
 replace hst := objO_some hst
 obtain ⟨t552, ht553, hm⟩ := bind_some hm
 refine wc call14 [v343, U6 (10:Int), .agg #[U1 (4:Int), U6 t345.1.Session, U6 t345.1.Seq, U6 (u64.wrap ((1:Int) + (u64.wrap (Int.tmod a1 (2:Int))))), Zu, Zi, Zu, Zu, Zu, Zs, Zs, Zs, Zs, Zs, I6 t432.1.E, U6 t432.1.Epoch, U6 t432.1.Index, v437, v439, U6 (3:Int), Zs, Zu, Zi, Zi, Zf, Zf, Zu, Zi, .bool false]] z z z ?_
 refine (lane_State_Apply_ref (a2 := ({ Kind := (4:Int), ID := t345.1, Epoch := (u64.wrap ((1:Int) + (u64.wrap (Int.tmod a1 (2:Int))))), Index := (0:Int), E := (0:Int), Hold := zero_api_Hold, Writes := [], R := t432.1, Shards := (3:Int), Parts := [], Rule := zero_api_Rule, On := false } : api_Command)) f398 f399 f400 f401 f402 f445 f448 f409 hst.to1 ht553).mono ?_
 rintro _ w554 ⟨I555, v557, v560, rfl, hI556, f559, f562, hst⟩
 refine ⟨_, z, ?_⟩
 replace hst := hst.of1
 replace f0_0 := f0_0.mono (ro_le hI556)
 replace f398 := f398.mono (ro_le hI556)
 replace f399 := f399.mono (ro_le hI556)
 replace f400 := f400.mono (ro_le hI556)
 replace f401 := f401.mono (ro_le hI556)
 replace f402 := f402.mono (ro_le hI556)
 replace f405 := f405.mono (ro_le hI556)
 replace f408 := f408.mono (ro_le hI556)
 replace f409 := f409.mono (ro_le hI556)
 replace f417 := f417.mono (ro_le hI556)
 replace f420 := f420.mono (ro_le hI556)
 replace f445 := f445.mono (ro_le hI556)
 replace f448 := f448.mono (ro_le hI556)
 replace f456 := f456.mono (ro_le hI556)
 replace f459 := f459.mono (ro_le hI556)
 replace f478 := f478.mono (ro_le hI556)
 replace f494 := f494.mono (ro_le hI556)
 replace f497 := f497.mono (ro_le hI556)
 replace f515 := f515.mono (ro_le hI556)
 replace f516 := f516.mono (ro_le hI556)
 replace f517 := f517.mono (ro_le hI556)
 replace f518 := f518.mono (ro_le hI556)
 replace f519 := f519.mono (ro_le hI556)
 replace f520 := f520.mono (ro_le hI556)
 replace f521 := f521.mono (ro_le hI556)
 replace f522 := f522.mono (ro_le hI556)
 replace f530 := f530.mono (ro_le hI556)
 replace f533 := f533.mono (ro_le hI556)
 replace f543 := f543.mono (ro_le hI556)
 replace hI0 := hI0.trans hI556
 rcases he564 : t552.2 with _ | y563
 · rw [he564] at hm; cases hm
 rw [he564] at hm hst; dsimp only at hm; replace hst := objO_get hst
 obtain ⟨b567, w568, ew569, eb570, hst⟩ := hst.box [Zb, Zu, Zu, Zi, Zu, Zu, Zs, Zs] 35
 refine wl_run (v := Pt b567 0) (w' := w568) z z (x_al (by kernel_rfl) ew569 eb570) ?_
 obtain ⟨w572, hr573, hst⟩ := hst.bx [U1 t552.1.Kind, U6 t552.1.ID.Session, U6 t552.1.ID.Seq, I6 t552.1.R.E, U6 t552.1.R.Epoch, U6 t552.1.R.Index, v557, v560] sizeOf35 z (oC z (oC z (oC z (oC z (oC z (oC z (oC (one_of_sliceV (ro_sliceV f559)) (oC (one_of_sliceV (ro_sliceV f562)) oN)))))))) (by kernel_rfl)
 refine wl_unit z z (x_unit hr573) ?_
 refine wl_nil (tn (wp_seq (wrl (wv (.agg #[I6 t357.1.E, U6 t357.1.Epoch, U6 t357.1.Index, v362, v364]) z z (x_loadN (cs := [I6 t357.1.E, U6 t357.1.Epoch, U6 t357.1.Index, v362, v364]) z isAgg33 sizeOf33 (hst.bcs9 0 z)) ?_))))
 obtain ⟨b576, w577, ew578, eb579, hst⟩ := hst.box [Zi, Zu, Zu, Zs, Zs] 33
 refine wl_run (v := Pt b576 0) (w' := w577) z z (x_al (by kernel_rfl) ew578 eb579) ?_
 obtain ⟨w581, hr582, hst⟩ := hst.bx [I6 t357.1.E, U6 t357.1.Epoch, U6 t357.1.Index, v362, v364] sizeOf33 z (oC z (oC z (oC z (oC (one_of_sliceV (ro_sliceV f405)) (oC (one_of_sliceV (ro_sliceV f408)) oN))))) (by kernel_rfl)
 refine wl_unit z z (x_unit hr582) ?_
 refine wl_nil (tn (wp_seq (wrl (wv (Pt b391 3) z z (x_field z underlying49 z sizeOf26 z) (wv (.int .u64 (u64.wrap ((1:Int) + (u64.wrap (Int.tmod a1 (2:Int)))))) z z (x_load z isAgg26 (hst.bc7 z)) (wv (Pt b576 1) z z (x_field z underlying33 z sizeOf26 z) ?_))))))
 obtain ⟨w583, hr584, hst⟩ := hst.by_ [I6 t357.1.E, U6 (u64.wrap ((1:Int) + (u64.wrap (Int.tmod a1 (2:Int))))), U6 t357.1.Index, v362, v364] 1 (.int .u64 (u64.wrap ((1:Int) + (u64.wrap (Int.tmod a1 (2:Int)))))) sizeOf26 z (oC z oN) (by kernel_rfl)
 refine wl_unit z z (x_unit hr584) ?_
 refine wl_nil (tn (wp_seq (wrl (wv (Pt b576 2) z z (x_field z underlying33 z sizeOf26 z) ?_))))
 obtain ⟨w585, hr586, hst⟩ := hst.by_ [I6 t357.1.E, U6 (u64.wrap ((1:Int) + (u64.wrap (Int.tmod a1 (2:Int))))), U6 (7:Int), v362, v364] 2 (.int .u64 (7:Int)) sizeOf26 z (oC z oN) (by kernel_rfl)
 refine wl_unit z z (x_unit hr586) ?_
 refine wl_nil (tn ?_)
 obtain ⟨y605, hm, hx606⟩ := bind_some hm
 refine wp_cut (fun a w => ∃ (z593 : Int) (z594 : Int) (z597 : (List api_Got)) (z601 : (List (List api_Pair))) (v596 : Value) (v600 : Value) (σ603 : Nat → Value), (law16_LaneOnce_j0 t410 t449 t471 t487 t536 t552) (z593, z594, z597, z601) = some r ∧ a = Fr 138 (upd (upd (upd (upd (upd (upd (upd (upd (upd σ603 10 (Pt b425 0)) 11 (Pt b464 0)) 12 (Pt b480 0)) 13 (.bool t471.2)) 14 (Pt b500 0)) 15 (.int .i64 t487.2)) 17 (.bool t536.2)) 18 (Pt b567 0)) 19 (Pt b576 0)) ∧ Ro ty_api_Got I555 v596 z597 ∧ Ro (tySl ty_api_Pair) I555 v600 z601 ∧ St w0 w I555 [cells b425 [U1 t410.1.Kind, U6 t410.1.ID.Session, U6 t410.1.ID.Seq, I6 t410.1.R.E, U6 t410.1.R.Epoch, U6 t410.1.R.Index, v415, v418], cells b464 [U1 t449.1.Kind, U6 t449.1.ID.Session, U6 t449.1.ID.Seq, I6 t449.1.R.E, U6 t449.1.R.Epoch, U6 t449.1.R.Index, v454, v457], cells b480 [U6 t471.1.ID.Session, U6 t471.1.ID.Seq, I6 t471.1.E, U6 t471.1.Epoch, U6 t471.1.Index, U6 t471.1.Shards, v476], cells b500 [I6 t487.1.E, U6 t487.1.Epoch, U6 t487.1.Index, v492, v495], cells b567 [U1 t552.1.Kind, U6 t552.1.ID.Session, U6 t552.1.ID.Seq, I6 t552.1.R.E, U6 t552.1.R.Epoch, U6 t552.1.R.Index, v557, v560], cells b576 [I6 z593, U6 z594, U6 (7:Int), v596, v600]] R) ?_ ?_
 {
 refine wp_seq (wrl (wv (Pt b368 0) z z (x_field z underlying33 z sizeOf29 z) (wv (.int .i64 t357.1.E) z z (x_load z isAgg29 (hst.bc10 z)) (wv (.bool (t357.1.E == (0:Int))) z z z (wv (.bool (t357.1.E == (0:Int))) z z z ?_)))))
 refine bsplit (t357.1.E == (0:Int)) (fun hc587 => ?_) (fun hc587 => ?_)
 {
 replace hm := bif_t hc587 hm
 refine wv (.int .u8 a1) ((wanted_eq z z z (cvb hc587)).trans z) z z (wv (.int .u8 (Int.tmod a1 (2:Int))) ((wanted_eq z z z (cvb hc587)).trans z) z (x_rem (by decide) z z) (wv (.bool ((Int.tmod a1 (2:Int)) == (1:Int))) ((wanted_eq z z z (cvb hc587)).trans z) z z (wv (.bool ((Int.tmod a1 (2:Int)) == (1:Int))) z z (x_pick_t hc587 z z) (wl_nil (tn ?_)))))
 refine bsplit ((Int.tmod a1 (2:Int)) == (1:Int)) (fun hc588 => ?_) (fun hc588 => ?_)
 {
 replace hm := bif_t hc588 hm
 refine wp_ift (cvb hc588) ?_
 refine wrl (wv (.agg #[I6 (9:Int), U6 (2:Int), U6 (7:Int), Zs, Zs]) z z (by kernel_rfl) ?_)
 obtain ⟨w591, hr592, hst⟩ := hst.bx [I6 (9:Int), U6 (2:Int), U6 (7:Int), Zs, Zs] sizeOf33 z (oC z (oC z (oC z (oC z (oC z oN))))) (by kernel_rfl)
 refine wl_unit z z (x_unit hr592) ?_
 refine wl_nil (tn ?_)
 have f593 : Ro ty_api_Got I555 (.slice none 0 0) [] := ro_nil
 have f594 : Ro (tySl ty_api_Pair) I555 (.slice none 0 0) [] := ro_nil
 replace hst := hst.pull1.pull4.pull5.pull6.pull9.keep6
 obtain rfl := some_inj hm
 exact ⟨(9:Int), (2:Int), ([]), ([]), Zs, Zs, _, hx606, (fu 10 (Pt b425 0) z (fu 11 (Pt b464 0) z (fu 12 (Pt b480 0) z (fu 13 (.bool t471.2) z (fu 14 (Pt b500 0) z (fu 15 (.int .i64 t487.2) z (fu 17 (.bool t536.2) z (fu 18 (Pt b567 0) z (fu 19 (Pt b576 0) z z))))))))), f593, f594, hst⟩
}
 {
 replace hm := bif_f hc588 hm
 refine wp_iff (cvb hc588) ?_
 refine wp_skip (tn ?_)
 replace hst := hst.pull1.pull4.pull5.pull6.pull9.keep6
 obtain rfl := some_inj hm
 exact ⟨t357.1.E, (u64.wrap ((1:Int) + (u64.wrap (Int.tmod a1 (2:Int))))), t357.1.Gots, t357.1.Scans, v362, v364, _, hx606, (fu 10 (Pt b425 0) z (fu 11 (Pt b464 0) z (fu 12 (Pt b480 0) z (fu 13 (.bool t471.2) z (fu 14 (Pt b500 0) z (fu 15 (.int .i64 t487.2) z (fu 17 (.bool t536.2) z (fu 18 (Pt b567 0) z (fu 19 (Pt b576 0) z z))))))))), f405, f408, hst⟩
}
}
 {
 replace hm := bif_f hc587 hm
 refine wo hc587 z z z z z z (wo hc587 z z z z z z (wo hc587 z z z z z z (wv (.bool false) z z (x_pick_f hc587 z z) (wl_nil (tn ?_)))))
 refine wp_iff z ?_
 refine wp_skip (tn ?_)
 replace hst := hst.pull1.pull4.pull5.pull6.pull9.keep6
 obtain rfl := some_inj hm
 exact ⟨t357.1.E, (u64.wrap ((1:Int) + (u64.wrap (Int.tmod a1 (2:Int))))), t357.1.Gots, t357.1.Scans, v362, v364, _, hx606, (fu 10 (Pt b425 0) z (fu 11 (Pt b464 0) z (fu 12 (Pt b480 0) z (fu 13 (.bool t471.2) z (fu 14 (Pt b500 0) z (fu 15 (.int .i64 t487.2) z (fu 17 (.bool t536.2) z (fu 18 (Pt b567 0) z (fu 19 (Pt b576 0) z z))))))))), f405, f408, hst⟩
}
}
 {
 clear hst
 rintro _ w607 ⟨z593, z594, z597, z601, v596, v600, σ603, hm, rfl, f598, f602, hst⟩
 dsimp only [law16_LaneOnce_j0] at hm
 refine wp_seq (wrl (wv (Pt b425 0) z z (x_field z underlying35 z sizeOf5 z) (wv (.int .u8 t410.1.Kind) z z (x_load z isAgg5 (hst.bc0 z)) (wv (.bool (t410.1.Kind == (4:Int))) z z z (wv (.bool (t410.1.Kind == (4:Int))) z z z ?_)))))
 refine bsplit (t410.1.Kind == (4:Int)) (fun hc608 => ?_) (fun hc608 => ?_)
 {
 replace hm := bif_t hc608 hm
 refine wv (Pt b425 3) ((wanted_eq z z z (cvb hc608)).trans z) z (x_field z underlying35 z sizeOf33 z) (wv (.agg #[I6 t410.1.R.E, U6 t410.1.R.Epoch, U6 t410.1.R.Index, v415, v418]) ((wanted_eq z z z (cvb hc608)).trans z) z (x_loadN (cs := [I6 t410.1.R.E, U6 t410.1.R.Epoch, U6 t410.1.R.Index, v415, v418]) z isAgg33 sizeOf33 (hst.bcs0 3 z)) (wv (.agg #[I6 z593, U6 z594, U6 (7:Int), v596, v600]) ((wanted_eq z z z (cvb hc608)).trans z) z (x_loadN (cs := [I6 z593, U6 z594, U6 (7:Int), v596, v600]) z isAgg33 sizeOf33 (hst.bcs5 0 z)) ?_))
 obtain ⟨t609, ht610, hm⟩ := bind_some hm
 refine wl_call ((wanted_eq z z z (cvb hc608)).trans z) z (x_call call32 z (vs := [.agg #[I6 t410.1.R.E, U6 t410.1.R.Epoch, U6 t410.1.R.Index, v415, v418], .agg #[I6 z593, U6 z594, U6 (7:Int), v596, v600]]) z) ?_
 refine (ref11_SameReply_ref (a1 := ({ E := z593, Epoch := z594, Index := (7:Int), Gots := z597, Scans := z601 } : api_Reply)) (f417.mono ro_rd) (f420.mono ro_rd) (f598.mono ro_rd) (f602.mono ro_rd) hst.to0 ht610).mono ?_
 rintro _ w611 ⟨rfl, hst⟩
 refine ⟨_, z, ?_⟩
 replace hst := hst.of0
 refine wv (.bool t609) z z (x_pick_t hc608 z z) (wv (.bool t609) z z z ?_)
 refine bsplit t609 (fun hc614 => ?_) (fun hc614 => ?_)
 {
 replace hm := bif_t hc614 hm
 refine wv (Pt b464 0) ((wanted_eq z z z (cvb hc614)).trans z) z (x_field z underlying35 z sizeOf5 z) (wv (.int .u8 t449.1.Kind) ((wanted_eq z z z (cvb hc614)).trans z) z (x_load z isAgg5 (hst.bc1 z)) (wv (.bool (t449.1.Kind == (0:Int))) ((wanted_eq z z z (cvb hc614)).trans z) z z (wv (.bool (t449.1.Kind == (0:Int))) z z (x_pick_t hc614 z z) (wv (.bool (t449.1.Kind == (0:Int))) z z z ?_))))
 refine bsplit (t449.1.Kind == (0:Int)) (fun hc615 => ?_) (fun hc615 => ?_)
 {
 replace hm := bif_t hc615 hm
 refine wv (.bool t471.2) ((wanted_eq z z z (cvb hc615)).trans z) z z (wv (.bool t471.2) z z (x_pick_t hc615 z z) (wv (.bool t471.2) z z z ?_))
 refine bsplit t471.2 (fun hc616 => ?_) (fun hc616 => ?_)
 {
 replace hm := bif_t hc616 hm
 refine wv (Pt b480 2) ((wanted_eq z z z (cvb hc616)).trans z) z (x_field z underlying89 z sizeOf29 z) (wv (.int .i64 t471.1.E) ((wanted_eq z z z (cvb hc616)).trans z) z (x_load z isAgg29 (hst.bc2 z)) (wv (Pt b576 0) ((wanted_eq z z z (cvb hc616)).trans z) z (x_field z underlying33 z sizeOf29 z) (wv (.int .i64 z593) ((wanted_eq z z z (cvb hc616)).trans z) z (x_load z isAgg29 (hst.bc5 z)) (wv (.bool (t471.1.E == z593)) ((wanted_eq z z z (cvb hc616)).trans z) z z (wv (.bool (t471.1.E == z593)) z z (x_pick_t hc616 z z) (wv (.bool (t471.1.E == z593)) z z z ?_))))))
 refine bsplit (t471.1.E == z593) (fun hc617 => ?_) (fun hc617 => ?_)
 {
 replace hm := bif_t hc617 hm
 refine wv (Pt b480 4) ((wanted_eq z z z (cvb hc617)).trans z) z (x_field z underlying89 z sizeOf26 z) (wv (.int .u64 t471.1.Index) ((wanted_eq z z z (cvb hc617)).trans z) z (x_load z isAgg26 (hst.bc2 z)) (wv (.bool (t471.1.Index == (7:Int))) ((wanted_eq z z z (cvb hc617)).trans z) z z (wv (.bool (t471.1.Index == (7:Int))) z z (x_pick_t hc617 z z) (wv (.bool (t471.1.Index == (7:Int))) z z z ?_))))
 refine bsplit (t471.1.Index == (7:Int)) (fun hc618 => ?_) (fun hc618 => ?_)
 {
 replace hm := bif_t hc618 hm
 refine wv (.int .i64 t487.2) ((wanted_eq z z z (cvb hc618)).trans z) z z (wv (.bool (t487.2 == (0:Int))) ((wanted_eq z z z (cvb hc618)).trans z) z z (wv (.bool (t487.2 == (0:Int))) z z (x_pick_t hc618 z z) (wv (.bool (t487.2 == (0:Int))) z z z ?_)))
 refine bsplit (t487.2 == (0:Int)) (fun hc619 => ?_) (fun hc619 => ?_)
 {
 replace hm := bif_t hc619 hm
 refine wv (.agg #[I6 t487.1.E, U6 t487.1.Epoch, U6 t487.1.Index, v492, v495]) ((wanted_eq z z z (cvb hc619)).trans z) z (x_loadN (cs := [I6 t487.1.E, U6 t487.1.Epoch, U6 t487.1.Index, v492, v495]) z isAgg33 sizeOf33 (hst.bcs3 0 z)) (wv (.agg #[I6 z593, U6 z594, U6 (7:Int), v596, v600]) ((wanted_eq z z z (cvb hc619)).trans z) z (x_loadN (cs := [I6 z593, U6 z594, U6 (7:Int), v596, v600]) z isAgg33 sizeOf33 (hst.bcs5 0 z)) ?_)
 obtain ⟨t620, ht621, hm⟩ := bind_some hm
 refine wl_call ((wanted_eq z z z (cvb hc619)).trans z) z (x_call call32 z (vs := [.agg #[I6 t487.1.E, U6 t487.1.Epoch, U6 t487.1.Index, v492, v495], .agg #[I6 z593, U6 z594, U6 (7:Int), v596, v600]]) z) ?_
 refine (ref11_SameReply_ref (a1 := ({ E := z593, Epoch := z594, Index := (7:Int), Gots := z597, Scans := z601 } : api_Reply)) (f494.mono ro_rd) (f497.mono ro_rd) (f598.mono ro_rd) (f602.mono ro_rd) hst.to0 ht621).mono ?_
 rintro _ w622 ⟨rfl, hst⟩
 refine ⟨_, z, ?_⟩
 replace hst := hst.of0
 refine wv (.bool t620) z z (x_pick_t hc619 z z) (wv (.bool t620) z z z ?_)
 refine bsplit t620 (fun hc625 => ?_) (fun hc625 => ?_)
 {
 replace hm := bif_t hc625 hm
 refine wv (.bool t536.2) ((wanted_eq z z z (cvb hc625)).trans z) z z (wv (.bool (!t536.2)) ((wanted_eq z z z (cvb hc625)).trans z) z z (wv (.bool (!t536.2)) z z (x_pick_t hc625 z z) (wv (.bool (!t536.2)) z z z ?_)))
 refine bsplit (!t536.2) (fun hc626 => ?_) (fun hc626 => ?_)
 {
 replace hm := bif_t hc626 hm
 refine wv (Pt b567 0) ((wanted_eq z z z (cvb hc626)).trans z) z (x_field z underlying35 z sizeOf5 z) (wv (.int .u8 t552.1.Kind) ((wanted_eq z z z (cvb hc626)).trans z) z (x_load z isAgg5 (hst.bc4 z)) (wv (.bool (t552.1.Kind == (0:Int))) ((wanted_eq z z z (cvb hc626)).trans z) z z (wv (.bool (t552.1.Kind == (0:Int))) z z (x_pick_t hc626 z z) (wv (.bool (t552.1.Kind == (0:Int))) z z z (wl_nil (tn (wp_ret ?_)))))))
 obtain rfl := some_inj hm
 refine post_ret (vs := [.bool (t552.1.Kind == (0:Int))]) results9 (rvs_cons (rv_tmp z) rvs_nil) ?_
 exact ⟨_, z, hI0, hst.keep0⟩
}
 {
 replace hm := bif_f hc626 hm
 refine wo hc626 z z z z z z (wo hc626 z z z z z z (wo hc626 z z z z z z (wv (.bool false) z z (x_pick_f hc626 z z) (wv (.bool false) z z z (wl_nil (tn (wp_ret ?_)))))))
 obtain rfl := some_inj hm
 refine post_ret (vs := [.bool false]) results9 (rvs_cons (rv_tmp z) rvs_nil) ?_
 exact ⟨_, z, hI0, hst.keep0⟩
}
}
 {
 replace hm := bif_f hc625 hm
 refine wo hc625 z z z z z z (wo hc625 z z z z z z (wv (.bool false) z z (x_pick_f hc625 z z) (wv (.bool false) z z z (wz z z z z z z (wz z z z z z z (wz z z z z z z (wv (.bool false) z z (x_pick_f z z z) (wv (.bool false) z z z (wl_nil (tn (wp_ret ?_)))))))))))
 obtain rfl := some_inj hm
 refine post_ret (vs := [.bool false]) results9 (rvs_cons (rv_tmp z) rvs_nil) ?_
 exact ⟨_, z, hI0, hst.keep0⟩
}
}
 {
 replace hm := bif_f hc619 hm
 refine wo hc619 z z z z z z (wo hc619 z z z z z z (wo hc619 z z z z z z (wv (.bool false) z z (x_pick_f hc619 z z) (wv (.bool false) z z z (wz z z z z z z (wz z z z z z z (wv (.bool false) z z (x_pick_f z z z) (wv (.bool false) z z z (wz z z z z z z (wz z z z z z z (wz z z z z z z (wv (.bool false) z z (x_pick_f z z z) ?_))))))))))))
 refine wv (.bool false) z z z (wl_nil (tn (wp_ret ?_)))
 obtain rfl := some_inj hm
 refine post_ret (vs := [.bool false]) results9 (rvs_cons (rv_tmp z) rvs_nil) ?_
 exact ⟨_, z, hI0, hst.keep0⟩
}
}
 {
 replace hm := bif_f hc618 hm
 refine wo hc618 z z z z z z (wo hc618 z z z z z z (wv (.bool false) z z (x_pick_f hc618 z z) (wv (.bool false) z z z (wz z z z z z z (wz z z z z z z (wz z z z z z z (wv (.bool false) z z (x_pick_f z z z) (wv (.bool false) z z z (wz z z z z z z (wz z z z z z z (wv (.bool false) z z (x_pick_f z z z) (wv (.bool false) z z z ?_))))))))))))
 refine wz z z z z z z (wz z z z z z z (wz z z z z z z (wv (.bool false) z z (x_pick_f z z z) (wv (.bool false) z z z (wl_nil (tn (wp_ret ?_)))))))
 obtain rfl := some_inj hm
 refine post_ret (vs := [.bool false]) results9 (rvs_cons (rv_tmp z) rvs_nil) ?_
 exact ⟨_, z, hI0, hst.keep0⟩
}
}
 {
 replace hm := bif_f hc617 hm
 refine wo hc617 z z z z z z (wo hc617 z z z z z z (wo hc617 z z z z z z (wv (.bool false) z z (x_pick_f hc617 z z) (wv (.bool false) z z z (wz z z z z z z (wz z z z z z z (wv (.bool false) z z (x_pick_f z z z) (wv (.bool false) z z z (wz z z z z z z (wz z z z z z z (wz z z z z z z (wv (.bool false) z z (x_pick_f z z z) ?_))))))))))))
 refine wv (.bool false) z z z (wz z z z z z z (wz z z z z z z (wv (.bool false) z z (x_pick_f z z z) (wv (.bool false) z z z (wz z z z z z z (wz z z z z z z (wz z z z z z z (wv (.bool false) z z (x_pick_f z z z) (wv (.bool false) z z z (wl_nil (tn (wp_ret ?_))))))))))))
 obtain rfl := some_inj hm
 refine post_ret (vs := [.bool false]) results9 (rvs_cons (rv_tmp z) rvs_nil) ?_
 exact ⟨_, z, hI0, hst.keep0⟩
}
}
 {
 replace hm := bif_f hc616 hm
 refine wo hc616 z z z z z z (wo hc616 z z z z z z (wo hc616 z z z z z z (wo hc616 z z z z z z (wo hc616 z z z z z z (wv (.bool false) z z (x_pick_f hc616 z z) (wv (.bool false) z z z (wz z z z z z z (wz z z z z z z (wz z z z z z z (wv (.bool false) z z (x_pick_f z z z) (wv (.bool false) z z z (wz z z z z z z ?_))))))))))))
 refine wz z z z z z z (wv (.bool false) z z (x_pick_f z z z) (wv (.bool false) z z z (wz z z z z z z (wz z z z z z z (wz z z z z z z (wv (.bool false) z z (x_pick_f z z z) (wv (.bool false) z z z (wz z z z z z z (wz z z z z z z (wv (.bool false) z z (x_pick_f z z z) (wv (.bool false) z z z (wz z z z z z z ?_))))))))))))
 refine wz z z z z z z (wz z z z z z z (wv (.bool false) z z (x_pick_f z z z) (wv (.bool false) z z z (wl_nil (tn (wp_ret ?_))))))
 obtain rfl := some_inj hm
 refine post_ret (vs := [.bool false]) results9 (rvs_cons (rv_tmp z) rvs_nil) ?_
 exact ⟨_, z, hI0, hst.keep0⟩
}
}
 {
 replace hm := bif_f hc615 hm
 refine wo hc615 z z z z z z (wv (.bool false) z z (x_pick_f hc615 z z) (wv (.bool false) z z z (wz z z z z z z (wz z z z z z z (wz z z z z z z (wz z z z z z z (wz z z z z z z (wv (.bool false) z z (x_pick_f z z z) (wv (.bool false) z z z (wz z z z z z z (wz z z z z z z (wz z z z z z z ?_))))))))))))
 refine wv (.bool false) z z (x_pick_f z z z) (wv (.bool false) z z z (wz z z z z z z (wz z z z z z z (wv (.bool false) z z (x_pick_f z z z) (wv (.bool false) z z z (wz z z z z z z (wz z z z z z z (wz z z z z z z (wv (.bool false) z z (x_pick_f z z z) (wv (.bool false) z z z (wz z z z z z z (wz z z z z z z ?_))))))))))))
 refine wv (.bool false) z z (x_pick_f z z z) (wv (.bool false) z z z (wz z z z z z z (wz z z z z z z (wz z z z z z z (wv (.bool false) z z (x_pick_f z z z) (wv (.bool false) z z z (wl_nil (tn (wp_ret ?_)))))))))
 obtain rfl := some_inj hm
 refine post_ret (vs := [.bool false]) results9 (rvs_cons (rv_tmp z) rvs_nil) ?_
 exact ⟨_, z, hI0, hst.keep0⟩
}
}
 {
 replace hm := bif_f hc614 hm
 refine wo hc614 z z z z z z (wo hc614 z z z z z z (wo hc614 z z z z z z (wv (.bool false) z z (x_pick_f hc614 z z) (wv (.bool false) z z z (wz z z z z z z (wv (.bool false) z z (x_pick_f z z z) (wv (.bool false) z z z (wz z z z z z z (wz z z z z z z (wz z z z z z z (wz z z z z z z (wz z z z z z z ?_))))))))))))
 refine wv (.bool false) z z (x_pick_f z z z) (wv (.bool false) z z z (wz z z z z z z (wz z z z z z z (wz z z z z z z (wv (.bool false) z z (x_pick_f z z z) (wv (.bool false) z z z (wz z z z z z z (wz z z z z z z (wv (.bool false) z z (x_pick_f z z z) (wv (.bool false) z z z (wz z z z z z z (wz z z z z z z ?_))))))))))))
 refine wz z z z z z z (wv (.bool false) z z (x_pick_f z z z) (wv (.bool false) z z z (wz z z z z z z (wz z z z z z z (wv (.bool false) z z (x_pick_f z z z) (wv (.bool false) z z z (wz z z z z z z (wz z z z z z z (wz z z z z z z (wv (.bool false) z z (x_pick_f z z z) (wv (.bool false) z z z (wl_nil (tn (wp_ret ?_))))))))))))))
 obtain rfl := some_inj hm
 refine post_ret (vs := [.bool false]) results9 (rvs_cons (rv_tmp z) rvs_nil) ?_
 exact ⟨_, z, hI0, hst.keep0⟩
}
}
 {
 replace hm := bif_f hc608 hm
 refine wo hc608 z z z z z z (wo hc608 z z z z z z (wo hc608 z z z z z z (wo hc608 z z z z z z (wv (.bool false) z z (x_pick_f hc608 z z) (wv (.bool false) z z z (wz z z z z z z (wz z z z z z z (wz z z z z z z (wv (.bool false) z z (x_pick_f z z z) (wv (.bool false) z z z (wz z z z z z z (wv (.bool false) z z (x_pick_f z z z) ?_))))))))))))
 refine wv (.bool false) z z z (wz z z z z z z (wz z z z z z z (wz z z z z z z (wz z z z z z z (wz z z z z z z (wv (.bool false) z z (x_pick_f z z z) (wv (.bool false) z z z (wz z z z z z z (wz z z z z z z (wz z z z z z z (wv (.bool false) z z (x_pick_f z z z) (wv (.bool false) z z z ?_))))))))))))
 refine wz z z z z z z (wz z z z z z z (wv (.bool false) z z (x_pick_f z z z) (wv (.bool false) z z z (wz z z z z z z (wz z z z z z z (wz z z z z z z (wv (.bool false) z z (x_pick_f z z z) (wv (.bool false) z z z (wz z z z z z z (wz z z z z z z (wv (.bool false) z z (x_pick_f z z z) (wv (.bool false) z z z ?_))))))))))))
 refine wz z z z z z z (wz z z z z z z (wz z z z z z z (wv (.bool false) z z (x_pick_f z z z) (wv (.bool false) z z z (wl_nil (tn (wp_ret ?_)))))))
 obtain rfl := some_inj hm
 refine post_ret (vs := [.bool false]) results9 (rvs_cons (rv_tmp z) rvs_nil) ?_
 exact ⟨_, z, hI0, hst.keep0⟩
}
}
}
}
}

end Go.Proofs.YtgnkkopjkgdieaaGreat
