/- The Go functions refine their models, part 2. -/
import Derived.Test.YtbdnbohbmgmonaaMvccTrimsR1
set_option linter.unusedVariables false
set_option linter.unusedSimpArgs false
set_option maxRecDepth 100000
set_option maxHeartbeats 4000000
namespace Go.Proofs.Ytbdnbohbmgmonaa
open Go Go.V
open _root_.Go.Proofs.Try IntKind
attribute [local irreducible] wpList Code.wp wpQuiet Calls bodyPost Oper.wp wpS Nx PendOK YieldsIn
theorem law11_MvccTrims_ref {w0 w : World} {I : HL} {R : SP} {a0 : (List law11_Ver)} {r0_0 : Value} {a1 : Int} (f0_0 : Ro ty_law11_Ver I r0_0 a0) (hst : St w0 w I [] R) {r : (Bool)} (hm : law11_MvccTrims a0 a1 = some r) :
  Calls prog 5 #[r0_0, U6 a1] w fun e w' => ∃ (I' : HL), e = .returned (.bool r) ∧ I.le I' ∧ St w0 w' I' [] R := by {
 unfold law11_MvccTrims at hm
 refine calls_start (args := [r0_0, U6 a1]) func5 z ntmps5 (Nat.le_of_ble_eq_true z) ?_
 have hI0 := HL.le.refl I
 refine wp_seq (wrl (wv (.bool false) z z z (wl_nil (tn (wp_seq (wrl (wv (r0_0) z z z ?_)))))))
 obtain ⟨t1083, ht1084, hm⟩ := bind_some hm
 refine wc call9 [r0_0] z z z ?_
 refine (law11_fill_ref f0_0 hst.to0 ht1084).mono ?_
 rintro _ w1085 ⟨I1086, v1088, v1090, rfl, hI1087, hst⟩
 refine ⟨_, z, ?_⟩
 replace hst := hst.of2
 replace f0_0 := f0_0.mono (ro_le hI1087)
 replace hI0 := hI0.trans hI1087
 refine wv (.tuple #[v1088, v1090, .bool t1083.2.2]) z z z (wv (v1088) z z z (wv (v1090) z z z (wv (.bool t1083.2.2) z z z (wv (v1088) z z z (wv (v1090) z z z (wv (.bool t1083.2.2) z z z (wl_nil (tn (wp_seq (wp_seq (wrl ?_)))))))))))
 obtain ⟨t1092, ht1093, hm⟩ := bind_some hm
 refine wc call10 [] z z z ?_
 refine (law11_awake_ref hst.to0 ht1093).mono ?_
 rintro _ w1094 ⟨I1095, rfl, hI1096, hst⟩
 refine ⟨_, z, ?_⟩
 replace hst := hst.of0
 replace f0_0 := f0_0.mono (ro_le hI1096)
 replace hI0 := hI0.trans hI1096
 refine wv (.bool (!t1092)) z z z (wv (.bool (!t1092)) z z z ?_)
 refine bsplit (!t1092) (fun hc1097 => ?_) (fun hc1097 => ?_)
 {
 replace hm := bif_t hc1097 hm
 refine wo hc1097 z z z z z z (wo hc1097 z z z z z z (wv (.bool true) z z (x_pick_t hc1097 z z) (wl_nil (tn ?_))))
 refine wp_ift z ?_
 refine wp_seq (wrl ?_)
 obtain ⟨t1098, ht1099, hm⟩ := bind_some hm
 refine wc call10 [] z z z ?_
 refine (law11_awake_ref hst.to0 ht1099).mono ?_
 rintro _ w1100 ⟨I1101, rfl, hI1102, hst⟩
 refine ⟨_, z, ?_⟩
 replace hst := hst.of0
 replace f0_0 := f0_0.mono (ro_le hI1102)
 replace hI0 := hI0.trans hI1102
 refine wv (.bool t1098) z z z (wl_nil (tn (wp_ret (then_r ?_))))
 obtain rfl := some_inj hm
 refine post_ret (vs := [.bool t1098]) results5 (rvs_cons (rv_tmp z) rvs_nil) ?_
 exact ⟨_, z, hI0, hst.keep0⟩
}
 {
 replace hm := bif_f hc1097 hm
 refine wv (.bool t1083.2.2) ((wanted_eq z z z (cvb hc1097)).trans z) z z (wv (.bool (!t1083.2.2)) ((wanted_eq z z z (cvb hc1097)).trans z) z z (wv (.bool (!t1083.2.2)) z z (x_pick_f hc1097 z z) (wl_nil (tn ?_))))
 refine bsplit (!t1083.2.2) (fun hc1103 => ?_) (fun hc1103 => ?_)
 {
 replace hm := bif_t hc1103 hm
 refine wp_ift (cvb hc1103) ?_
 refine wp_seq (wrl ?_)
 obtain ⟨t1104, ht1105, hm⟩ := bind_some hm
 refine wc call10 [] z z z ?_
 refine (law11_awake_ref hst.to0 ht1105).mono ?_
 rintro _ w1106 ⟨I1107, rfl, hI1108, hst⟩
 refine ⟨_, z, ?_⟩
 replace hst := hst.of0
 replace f0_0 := f0_0.mono (ro_le hI1108)
 replace hI0 := hI0.trans hI1108
 refine wv (.bool t1104) z z z (wl_nil (tn (wp_ret (then_r ?_))))
 obtain rfl := some_inj hm
 refine post_ret (vs := [.bool t1104]) results5 (rvs_cons (rv_tmp z) rvs_nil) ?_
 exact ⟨_, z, hI0, hst.keep0⟩
}
 {
 replace hm := bif_f hc1103 hm
 refine wp_iff (cvb hc1103) ?_
 refine wp_skip (tn (wp_seq (wrl ?_)))
 refine wv (.int .u64 a1) z z z (wv (.int .u64 (Int.tmod a1 (9:Int))) z z (x_rem (by decide) z z) (wv (.int .u64 (Int.tmod a1 (9:Int))) z z z (wl_nil (tn (wp_seq (wrl (wv (v1090) z z z ?_)))))))
 replace hst := hst.pull1
 obtain ⟨css1109, hq1110, hst⟩ := hst.own_open
 obtain ⟨t1111, ht1112, hm⟩ := bind_some hm
 refine wc call18 [v1090] z z z ?_
 refine (ref11_Ats_ref (hst.rdrow0 hq1110) hst.to0 ht1112).mono ?_
 rintro _ w1113 ⟨I1114, v1116, rfl, hI1115, hst⟩
 refine ⟨_, z, ?_⟩
 replace hst := hst.of1
 replace f0_0 := f0_0.mono (ro_le hI1115)
 replace hI0 := hI0.trans hI1115
 replace hst := hst.pull1.own_close (hq1110.imp fun _ _ => Ty.mono _ (ro_le hI1115))
 refine wv (v1116) z z z (wl_nil (tn (wp_seq (wrl (wv (v1088) z z z (wv (.int .u64 (Int.tmod a1 (9:Int))) z z z ?_))))))
 replace hst := hst.pull2
 replace hst := objO_some hst
 obtain ⟨t1118, ht1119, hm⟩ := bind_some hm
 refine wc call19 [v1088, U6 (Int.tmod a1 (9:Int))] z z z ?_
 refine (mvcc_Store_Trim_ref hst.to1 ht1119).mono ?_
 rintro _ w1120 ⟨I1121, rfl, hI1122, hst⟩
 refine ⟨_, z, ?_⟩
 replace hst := hst.of1
 replace f0_0 := f0_0.mono (ro_le hI1122)
 replace hI0 := hI0.trans hI1122
 rcases he1124 : t1118 with _ | y1123
 · rw [he1124] at hm; cases hm
 rw [he1124] at hm hst; dsimp only at hm; replace hst := objO_get hst
 refine wl_nil (tn (wp_seq (wrl (wv (v1090) z z z (wv (.int .u64 (Int.tmod a1 (9:Int))) z z z ?_)))))
 replace hst := hst.pull1
 obtain ⟨I1125, hI1126, f1127, hst⟩ := hst.own_fix
 replace f0_0 := f0_0.mono (ro_le hI1126)
 replace hI0 := hI0.trans hI1126
 obtain ⟨t1128, ht1129, hm⟩ := bind_some hm
 refine wc call20 [v1090, U6 (Int.tmod a1 (9:Int))] z z z ?_
 refine (ref11_Trim_ref f1127 hst.to0 ht1129).mono ?_
 rintro _ w1130 ⟨v1133, rfl, hst⟩
 refine ⟨_, z, ?_⟩
 replace hst := hst.of1
 refine wv (v1133) z z z (wl_nil (tn (wp_seq (wp_seq (wrl (wv (v1088) z z z (wv (v1133) z z z ?_)))))))
 replace hst := hst.pull1
 replace hst := objO_some hst
 replace hst := hst.pull1
 obtain ⟨I1135, hI1136, f1137, hst⟩ := hst.own_fix
 replace f0_0 := f0_0.mono (ro_le hI1136)
 replace f1127 := f1127.mono (ro_le hI1136)
 replace hI0 := hI0.trans hI1136
 obtain ⟨t1138, ht1139, hm⟩ := bind_some hm
 refine wc call11 [v1088, v1133] z z z ?_
 refine (law11_told_ref f1137 hst.to1 ht1139).mono ?_
 rintro _ w1140 ⟨I1141, rfl, hI1142, hst⟩
 refine ⟨_, z, ?_⟩
 replace hst := hst.of1
 replace f0_0 := f0_0.mono (ro_le hI1142)
 replace f1127 := f1127.mono (ro_le hI1142)
 replace f1137 := f1137.mono (ro_le hI1142)
 replace hI0 := hI0.trans hI1142
 replace hst := objO_get hst
 refine wv (.bool (!t1138)) z z z (wl_nil (tn ?_))
 refine bsplit (!t1138) (fun hc1143 => ?_) (fun hc1143 => ?_)
 {
 replace hm := bif_t hc1143 hm
 refine wp_ift (cvb hc1143) ?_
 refine wp_seq (wrl (wv (.bool false) z z z (wl_nil (tn (wp_ret (then_r ?_))))))
 obtain rfl := some_inj hm
 refine post_ret (vs := [.bool false]) results5 (rvs_cons (rv_tmp z) rvs_nil) ?_
 exact ⟨_, z, hI0, hst.keep0⟩
}
 {
 replace hm := bif_f hc1143 hm
 refine wp_iff (cvb hc1143) ?_
 refine wp_skip (tn (wp_seq (wp_seq (wrl ?_))))
 refine wv (.int .i64 (0:Int)) z z z (wl_nil (tn (wp_block ?_)))
 obtain ⟨n1820, hm⟩ := loopO_some hm
 refine wp_loop_n (fun n a w => ∃ (I1818 : HL) (z1817 : Int) (σ1819 : Nat → Value), loopN (law11_MvccTrims_l0 t1111 y1123 t1083 a1) n z1817 = some r ∧ a = Fr 68 (upd (upd (upd (upd (upd σ1819 1 (.int .u64 (Int.tmod a1 (9:Int)))) 5 (v1088)) 6 (v1090)) 8 (v1116)) 10 (.int .i64 z1817)) ∧ I1141.le I1818 ∧ St w0 w I1818 [at_mvcc_Store v1088 y1123, ownS tyF64 v1116 t1111] R) n1820 ⟨_, (0:Int), _, hm, (fu 1 (.int .u64 (Int.tmod a1 (9:Int))) z (fu 5 v1088 z (fu 6 v1090 z (fu 8 v1116 z (fu 10 (.int .i64 (0:Int)) z z))))), (HL.le.refl _), hst⟩ ?_
 rintro n1826 _ w1821 ⟨I1818, z1817, σ1819, hm, rfl, hL1822, hst⟩
 obtain ⟨n1823, y1824, rfl, hm, hx1825⟩ := loopN_some hm
 dsimp only [law11_MvccTrims_l0] at hm
 replace f0_0 := f0_0.mono (ro_le hL1822)
 replace f1127 := f1127.mono (ro_le hL1822)
 replace f1137 := f1137.mono (ro_le hL1822)
 replace hI0 := hI0.trans hL1822
 refine wp_seq (wp_seq (wrl (wv (.int .i64 z1817) z z z (wv (v1116) z z z (wv (.int .i64 ((t1111).length : Int)) z z (x_len z underlying44 hst.sv1) (wv (.bool (decide (z1817 < ((t1111).length : Int)))) z z z (wl_nil (tn ?_))))))))
 refine bsplit (decide (z1817 < ((t1111).length : Int))) (fun hc1827 => ?_) (fun hc1827 => ?_)
 {
 replace hm := bif_t hc1827 hm
 refine wp_ift (cvb hc1827) ?_
 refine wp_skip (tn (wp_seq (wp_block (wp_seq (wrl ?_)))))
 refine wv (.int .u64 (Int.tmod a1 (9:Int))) z z z (wv (.int .u64 (Int.tmod a1 (9:Int))) z z z (wl_nil (tn (wp_block ?_))))
 obtain ⟨n2048, hm⟩ := loopO_some hm
 refine wp_loop_n (fun n a w => ∃ (I2046 : HL) (z2045 : Int) (σ2047 : Nat → Value), loopN (law11_MvccTrims_l1 t1111 z1817 y1123 t1083) n z2045 = some y1824 ∧ a = Fr 68 (upd (upd (upd (upd (upd (upd σ2047 1 (.int .u64 (Int.tmod a1 (9:Int)))) 5 (v1088)) 6 (v1090)) 8 (v1116)) 10 (.int .i64 z1817)) 11 (.int .u64 z2045)) ∧ I1818.le I2046 ∧ St w0 w I2046 [at_mvcc_Store v1088 y1123, ownS tyF64 v1116 t1111] R) n2048 ⟨_, (Int.tmod a1 (9:Int)), _, hm, (fu 1 (.int .u64 (Int.tmod a1 (9:Int))) z (fu 5 v1088 z (fu 6 v1090 z (fu 8 v1116 z (fu 10 (.int .i64 z1817) z (fu 11 (.int .u64 (Int.tmod a1 (9:Int))) z z)))))), (HL.le.refl _), hst⟩ ?_
 rintro n2054 _ w2049 ⟨I2046, z2045, σ2047, hm, rfl, hL2050, hst⟩
 obtain ⟨n2051, y2052, rfl, hm, hx2053⟩ := loopN_some hm
 dsimp only [law11_MvccTrims_l1] at hm
 replace f0_0 := f0_0.mono (ro_le hL2050)
 replace f1127 := f1127.mono (ro_le hL2050)
 replace f1137 := f1137.mono (ro_le hL2050)
 replace hI0 := hI0.trans hL2050
 replace hL1822 := hL1822.trans hL2050
 refine wp_seq (wp_seq (wrl (wv (.int .u64 z2045) z z z (wv (.bool (decide (z2045 < (9:Int)))) z z z (wl_nil (tn ?_))))))
 refine bsplit (decide (z2045 < (9:Int))) (fun hc2055 => ?_) (fun hc2055 => ?_)
 {
 replace hm := bif_t hc2055 hm
 refine wp_ift (cvb hc2055) ?_
 refine wp_skip (tn (wp_seq (wp_block (wp_seq ?_))))
 obtain ⟨y2158, hm, hx2159⟩ := bind_some hm
 refine wp_mid (fun a w => ∃ (I2155 : HL) (z2154 : Bool) (σ2156 : Nat → Value), (law11_MvccTrims_j2 z2045) z2154 = some y2052 ∧ a = Fr 68 (upd (upd (upd (upd (upd (upd (upd σ2156 1 (.int .u64 (Int.tmod a1 (9:Int)))) 5 (v1088)) 6 (v1090)) 8 (v1116)) 10 (.int .i64 z1817)) 11 (.int .u64 z2045)) 67 (.bool z2154)) ∧ I2046.le I2155 ∧ St w0 w I2155 [at_mvcc_Store v1088 y1123, ownS tyF64 v1116 t1111] R) ?_ ?_
 {
 have hL2160 := HL.le.refl I2046
 refine wp_region_St hst 18 [0, 1, 2, 3, 4, 5, 6, 7, 8, 9, 10, 11, 12, 13, 14, 15, 16, 17] [0, 0, 0, 6, 14, 0, 63, 127, 0, 0, 0, 1536, 3584, 0, 16255, 32639, 65535, 131071] [] z (by kernel_rfl) (by kernel_rfl) Try.mixed (by kernel_rfl) ?_
 refine wsr (v1088) 0 z z z (by kernel_rfl) (fun w hst => z) (wsr (v1116) 1 z z z (by kernel_rfl) (fun w hst => z) (wsr (.int .i64 z1817) 2 z z z (by kernel_rfl) (fun w hst => z) ?_))
 obtain ⟨x2056, hx2057, hm⟩ := bind_some hm
 obtain ⟨h2058, h2059, hi2060⟩ := geto_some hx2057
 refine wsr (.pointer (some (eAddr v1116 (z1817.toNat * 1 + 0)))) 3 z z z (by kernel_rfl) (fun w hst => x_index z z underlying44 sizeOf23 hst.sv1 h2058 h2059) (wsr (.float .f64 x2056) 4 z z z (by kernel_rfl) (fun w hst => x_load z isAgg23 (hst.ol1 hi2060 (by rintro _ rfl; rfl))) (wsr (.int .u64 z2045) 5 z z z (by kernel_rfl) (fun w hst => z) (wsr (v1090) 8 z z z (by kernel_rfl) (fun w hst => z) (wsr (v1116) 9 z z z (by kernel_rfl) (fun w hst => z) (wsr (.int .i64 z1817) 10 z z z (by kernel_rfl) (fun w hst => z) (wsr (.pointer (some (eAddr v1116 (z1817.toNat * 1 + 0)))) 11 z z z (by kernel_rfl) (fun w hst => x_index z z underlying44 sizeOf23 hst.sv1 h2058 h2059) (wsr (.float .f64 x2056) 12 z z z (by kernel_rfl) (fun w hst => x_load z isAgg23 (hst.ol1 hi2060 (by rintro _ rfl; rfl))) (wsr (.int .u64 z2045) 13 z z z (by kernel_rfl) (fun w hst => z) ?_))))))))
 refine ws_e1 6 (by kernel_rfl) ?_
 refine nxe [7, 14, 15, 16, 17] (by kernel_rfl) z z ?_
 clear hst
 intro w hst
 replace hst := objO_some hst
 obtain ⟨t2061, ht2062, hm⟩ := bind_some hm
 refine wec call13 [v1088, F6 x2056, U6 z2045] z z ?_
 refine (mvcc_Store_Get_ref hst.to1 ht2062).mono ?_
 rintro _ w2063 ⟨v2066, rfl, hst⟩
 refine ⟨_, z, ?_⟩
 replace hst := hst.of2.pull1
 replace hst := objO_get hst
 refine ws_next (pend' := [(13, U6 z2045), (12, F6 x2056), (11, .pointer (some (eAddr v1116 (z1817.toNat * 1 + 0)))), (10, I6 z1817), (9, v1116), (8, v1090)]) hst (by kernel_rfl) (pkr z z (fun w hst => z) (pkr z z (fun w hst => x_load z isAgg23 (hst.ol2 hi2060 (by rintro _ rfl; rfl))) (pkr z z (fun w hst => x_index z z underlying44 sizeOf23 hst.sv2 h2058 h2059) (pkr z z (fun w hst => z) (pkr z z (fun w hst => z) (pkr z z (fun w hst => z) pk_nil)))))) ?_
 obtain ⟨t2068, ht2069, hm⟩ := bind_some hm
 refine ws_e2 7 14 (by kernel_rfl) ?_ ?_
 {
 refine nxe [14, 15, 16, 17] (by kernel_rfl) z z ?_
 clear hst
 intro w hst
 replace hst := hst.pull1
 obtain ⟨I2071, hI2072, f2073, hst⟩ := hst.own_fix
 replace f0_0 := f0_0.mono (ro_le hI2072)
 replace f1127 := f1127.mono (ro_le hI2072)
 replace f1137 := f1137.mono (ro_le hI2072)
 replace hI0 := hI0.trans hI2072
 replace hL1822 := hL1822.trans hI2072
 replace hL2050 := hL2050.trans hI2072
 replace hL2160 := hL2160.trans hI2072
 obtain ⟨b2074, w2075, ew2076, eb2077, hst⟩ := hst.lits (E := ty_api_Got) (xs := [t2061]) [[.bool t2061.Has, v2066]] 34 1 z (Reps.cons ⟨_, z, f2073, one_of_sliceV (ro_sliceV f2073)⟩ Reps.nil)
 refine we_run (v := (.slice (some ⟨b2074, 0, none⟩) 1 1)) (w' := w2075) z (x_als (by kernel_rfl) ew2076 eb2077) ?_
 refine ws_next (pend' := [(13, U6 z2045), (12, F6 x2056), (11, .pointer (some (eAddr v1116 (z1817.toNat * 1 + 0)))), (10, I6 z1817), (9, v1116), (8, v1090)]) hst (by kernel_rfl) (pkr z z (fun w hst => z) (pkr z z (fun w hst => x_load z isAgg23 (hst.ol2 hi2060 (by rintro _ rfl; rfl))) (pkr z z (fun w hst => x_index z z underlying44 sizeOf23 hst.sv2 h2058 h2059) (pkr z z (fun w hst => z) (pkr z z (fun w hst => z) (pkr z z (fun w hst => z) pk_nil)))))) ?_
 refine ws_e1 14 (by kernel_rfl) ?_
 refine nxe [15, 16, 17] (by kernel_rfl) z z ?_
 clear hst
 intro w hst
 refine wec call14 [v1090, F6 x2056, U6 z2045] z z ?_
 refine (ref11_Get_ref f1127 hst.to0 ht2069).mono ?_
 rintro _ w2079 ⟨I2080, v2082, rfl, hI2081, f2084, hst⟩
 refine ⟨_, z, ?_⟩
 replace hst := hst.of0
 replace f0_0 := f0_0.mono (ro_le hI2081)
 replace f1127 := f1127.mono (ro_le hI2081)
 replace f1137 := f1137.mono (ro_le hI2081)
 replace f2073 := f2073.mono (ro_le hI2081)
 replace hI0 := hI0.trans hI2081
 replace hL1822 := hL1822.trans hI2081
 replace hL2050 := hL2050.trans hI2081
 replace hL2160 := hL2160.trans hI2081
 refine ws_next (pend' := []) hst (by kernel_rfl) pk_nil ?_
 refine ws_e1 15 (by kernel_rfl) ?_
 refine nxe [16, 17] (by kernel_rfl) z z ?_
 clear hst
 intro w hst
 obtain ⟨b2086, w2087, ew2088, eb2089, hst⟩ := hst.lits (E := ty_api_Got) (xs := [t2068]) [[.bool t2068.Has, v2082]] 34 1 z (Reps.cons ⟨_, z, f2084, one_of_sliceV (ro_sliceV f2084)⟩ Reps.nil)
 refine we_run (v := (.slice (some ⟨b2086, 0, none⟩) 1 1)) (w' := w2087) z (x_als (by kernel_rfl) ew2088 eb2089) ?_
 refine ws_next (pend' := []) hst (by kernel_rfl) pk_nil ?_
 refine ws_e1 16 (by kernel_rfl) ?_
 refine nxe [17] (by kernel_rfl) z z ?_
 clear hst
 intro w hst
 replace hst := hst.pull1
 obtain ⟨css2091, hq2092, hst⟩ := hst.own_open
 replace hst := hst.pull1
 obtain ⟨css2093, hq2094, hst⟩ := hst.own_open
 obtain ⟨t2095, ht2096, hm⟩ := bind_some hm
 refine wec call12 [(.slice (some ⟨b2074, 0, none⟩) 1 1), (.slice (some ⟨b2086, 0, none⟩) 1 1)] z z ?_
 refine (ref11_SameGots_ref (hst.rdrow1 hq2092) (hst.rdrow0 hq2094) hst.to0 ht2096).mono ?_
 rintro _ w2097 ⟨rfl, hst⟩
 refine ⟨_, z, ?_⟩
 replace hst := hst.of0.pull1.own_close hq2092
 replace hst := hst.pull1.own_close hq2094
 refine ws_next (pend' := []) hst (by kernel_rfl) pk_nil ?_
 refine wsr (.bool (!t2095)) 17 z z z (by kernel_rfl) (fun w hst => z) ?_
 refine ws_nil ?_
 intro w hst
 refine ⟨z, ?_⟩
 replace hst := hst.pull3.pull3.keep2
 obtain rfl := some_inj hm
 exact ⟨_, (!t2095), _, hx2159, (fu 1 (.int .u64 (Int.tmod a1 (9:Int))) z (fu 5 v1088 z (fu 6 v1090 z (fu 8 v1116 z (fu 10 (.int .i64 z1817) z (fu 11 (.int .u64 z2045) z (fu 67 (.bool (!t2095)) z z))))))), hL2160, hst⟩
}
 {
 refine nxe [7, 15, 16, 17] (by kernel_rfl) z z ?_
 clear hst
 intro w hst
 refine wec call14 [v1090, F6 x2056, U6 z2045] z z ?_
 refine (ref11_Get_ref f1127 hst.to0 ht2069).mono ?_
 rintro _ w2100 ⟨I2101, v2103, rfl, hI2102, f2105, hst⟩
 refine ⟨_, z, ?_⟩
 replace hst := hst.of0
 replace f0_0 := f0_0.mono (ro_le hI2102)
 replace f1127 := f1127.mono (ro_le hI2102)
 replace f1137 := f1137.mono (ro_le hI2102)
 replace hI0 := hI0.trans hI2102
 replace hL1822 := hL1822.trans hI2102
 replace hL2050 := hL2050.trans hI2102
 replace hL2160 := hL2160.trans hI2102
 refine ws_next (pend' := []) hst (by kernel_rfl) pk_nil ?_
 refine ws_e2 7 15 (by kernel_rfl) ?_ ?_
 {
 refine nxe [15, 16, 17] (by kernel_rfl) z z ?_
 clear hst
 intro w hst
 replace hst := hst.pull1
 obtain ⟨I2107, hI2108, f2109, hst⟩ := hst.own_fix
 replace f0_0 := f0_0.mono (ro_le hI2108)
 replace f1127 := f1127.mono (ro_le hI2108)
 replace f1137 := f1137.mono (ro_le hI2108)
 replace f2105 := f2105.mono (ro_le hI2108)
 replace hI0 := hI0.trans hI2108
 replace hL1822 := hL1822.trans hI2108
 replace hL2050 := hL2050.trans hI2108
 replace hL2160 := hL2160.trans hI2108
 obtain ⟨b2110, w2111, ew2112, eb2113, hst⟩ := hst.lits (E := ty_api_Got) (xs := [t2061]) [[.bool t2061.Has, v2066]] 34 1 z (Reps.cons ⟨_, z, f2109, one_of_sliceV (ro_sliceV f2109)⟩ Reps.nil)
 refine we_run (v := (.slice (some ⟨b2110, 0, none⟩) 1 1)) (w' := w2111) z (x_als (by kernel_rfl) ew2112 eb2113) ?_
 refine ws_next (pend' := []) hst (by kernel_rfl) pk_nil ?_
 refine ws_e1 15 (by kernel_rfl) ?_
 refine nxe [16, 17] (by kernel_rfl) z z ?_
 clear hst
 intro w hst
 obtain ⟨b2116, w2117, ew2118, eb2119, hst⟩ := hst.lits (E := ty_api_Got) (xs := [t2068]) [[.bool t2068.Has, v2103]] 34 1 z (Reps.cons ⟨_, z, f2105, one_of_sliceV (ro_sliceV f2105)⟩ Reps.nil)
 refine we_run (v := (.slice (some ⟨b2116, 0, none⟩) 1 1)) (w' := w2117) z (x_als (by kernel_rfl) ew2118 eb2119) ?_
 refine ws_next (pend' := []) hst (by kernel_rfl) pk_nil ?_
 refine ws_e1 16 (by kernel_rfl) ?_
 refine nxe [17] (by kernel_rfl) z z ?_
 clear hst
 intro w hst
 replace hst := hst.pull1
 obtain ⟨css2121, hq2122, hst⟩ := hst.own_open
 replace hst := hst.pull1
 obtain ⟨css2123, hq2124, hst⟩ := hst.own_open
 obtain ⟨t2125, ht2126, hm⟩ := bind_some hm
 refine wec call12 [(.slice (some ⟨b2110, 0, none⟩) 1 1), (.slice (some ⟨b2116, 0, none⟩) 1 1)] z z ?_
 refine (ref11_SameGots_ref (hst.rdrow1 hq2122) (hst.rdrow0 hq2124) hst.to0 ht2126).mono ?_
 rintro _ w2127 ⟨rfl, hst⟩
 refine ⟨_, z, ?_⟩
 replace hst := hst.of0.pull1.own_close hq2122
 replace hst := hst.pull1.own_close hq2124
 refine ws_next (pend' := []) hst (by kernel_rfl) pk_nil ?_
 refine wsr (.bool (!t2125)) 17 z z z (by kernel_rfl) (fun w hst => z) ?_
 refine ws_nil ?_
 intro w hst
 refine ⟨z, ?_⟩
 replace hst := hst.pull3.pull3.keep2
 obtain rfl := some_inj hm
 exact ⟨_, (!t2125), _, hx2159, (fu 1 (.int .u64 (Int.tmod a1 (9:Int))) z (fu 5 v1088 z (fu 6 v1090 z (fu 8 v1116 z (fu 10 (.int .i64 z1817) z (fu 11 (.int .u64 z2045) z (fu 67 (.bool (!t2125)) z z))))))), hL2160, hst⟩
}
 {
 refine nxe [7, 16, 17] (by kernel_rfl) z z ?_
 clear hst
 intro w hst
 obtain ⟨b2131, w2132, ew2133, eb2134, hst⟩ := hst.lits (E := ty_api_Got) (xs := [t2068]) [[.bool t2068.Has, v2103]] 34 1 z (Reps.cons ⟨_, z, f2105, one_of_sliceV (ro_sliceV f2105)⟩ Reps.nil)
 refine we_run (v := (.slice (some ⟨b2131, 0, none⟩) 1 1)) (w' := w2132) z (x_als (by kernel_rfl) ew2133 eb2134) ?_
 refine ws_next (pend' := []) hst (by kernel_rfl) pk_nil ?_
 refine ws_e1 7 (by kernel_rfl) ?_
 refine nxe [16, 17] (by kernel_rfl) z z ?_
 clear hst
 intro w hst
 replace hst := hst.pull2
 obtain ⟨I2137, hI2138, f2139, hst⟩ := hst.own_fix
 replace f0_0 := f0_0.mono (ro_le hI2138)
 replace f1127 := f1127.mono (ro_le hI2138)
 replace f1137 := f1137.mono (ro_le hI2138)
 replace f2105 := f2105.mono (ro_le hI2138)
 replace hI0 := hI0.trans hI2138
 replace hL1822 := hL1822.trans hI2138
 replace hL2050 := hL2050.trans hI2138
 replace hL2160 := hL2160.trans hI2138
 obtain ⟨b2140, w2141, ew2142, eb2143, hst⟩ := hst.lits (E := ty_api_Got) (xs := [t2061]) [[.bool t2061.Has, v2066]] 34 1 z (Reps.cons ⟨_, z, f2139, one_of_sliceV (ro_sliceV f2139)⟩ Reps.nil)
 refine we_run (v := (.slice (some ⟨b2140, 0, none⟩) 1 1)) (w' := w2141) z (x_als (by kernel_rfl) ew2142 eb2143) ?_
 refine ws_next (pend' := []) hst (by kernel_rfl) pk_nil ?_
 refine ws_e1 16 (by kernel_rfl) ?_
 refine nxe [17] (by kernel_rfl) z z ?_
 clear hst
 intro w hst
 obtain ⟨css2145, hq2146, hst⟩ := hst.own_open
 replace hst := hst.pull1
 obtain ⟨css2147, hq2148, hst⟩ := hst.own_open
 obtain ⟨t2149, ht2150, hm⟩ := bind_some hm
 refine wec call12 [(.slice (some ⟨b2140, 0, none⟩) 1 1), (.slice (some ⟨b2131, 0, none⟩) 1 1)] z z ?_
 refine (ref11_SameGots_ref (hst.rdrow1 hq2146) (hst.rdrow0 hq2148) hst.to0 ht2150).mono ?_
 rintro _ w2151 ⟨rfl, hst⟩
 refine ⟨_, z, ?_⟩
 replace hst := hst.of0.pull1.own_close hq2146
 replace hst := hst.pull1.own_close hq2148
 refine ws_next (pend' := []) hst (by kernel_rfl) pk_nil ?_
 refine wsr (.bool (!t2149)) 17 z z z (by kernel_rfl) (fun w hst => z) ?_
 refine ws_nil ?_
 intro w hst
 refine ⟨z, ?_⟩
 replace hst := hst.pull3.pull3.keep2
 obtain rfl := some_inj hm
 exact ⟨_, (!t2149), _, hx2159, (fu 1 (.int .u64 (Int.tmod a1 (9:Int))) z (fu 5 v1088 z (fu 6 v1090 z (fu 8 v1116 z (fu 10 (.int .i64 z1817) z (fu 11 (.int .u64 z2045) z (fu 67 (.bool (!t2149)) z z))))))), hL2160, hst⟩
}
}
}
 {
 clear hst
 rintro _ w2161 ⟨I2155, z2154, σ2156, hm, rfl, hL2157, hst⟩
 dsimp only [law11_MvccTrims_j2] at hm
 replace f0_0 := f0_0.mono (ro_le hL2157)
 replace f1127 := f1127.mono (ro_le hL2157)
 replace f1137 := f1137.mono (ro_le hL2157)
 replace hI0 := hI0.trans hL2157
 replace hL1822 := hL1822.trans hL2157
 replace hL2050 := hL2050.trans hL2157
 refine tn ?_
 refine bsplit z2154 (fun hc2162 => ?_) (fun hc2162 => ?_)
 {
 replace hm := bif_t hc2162 hm
 refine wp_ift (cvb hc2162) ?_
 refine wp_seq (wrl (wv (.bool false) z z z (wl_nil (tn (wp_ret (blk_r (then_r (then_r ?_))))))))
 replace hm := inr_up hm hx2053
 refine blk_r (blk_r (then_r (then_r ?_)))
 replace hm := inr_up hm hx1825
 refine blk_r (then_r ?_)
 obtain rfl := some_inj hm
 refine post_ret (vs := [.bool false]) results5 (rvs_cons (rv_tmp z) rvs_nil) ?_
 exact ⟨_, z, hI0, hst.keep0⟩
}
 {
 replace hm := bif_f hc2162 hm
 refine wp_iff (cvb hc2162) ?_
 refine wp_skip (blk_n (tn (wrl ?_)))
 refine wv (.int .u64 z2045) z z z (wv (.int .u64 (u64.wrap (z2045 + (1:Int)))) z z z (wv (.int .u64 (u64.wrap (z2045 + (1:Int)))) z z z (wl_nil (tn ?_))))
 replace hst := hst.pull1.pull1.keep2
 obtain rfl := some_inj hm
 exact ⟨_, Nat.lt_succ_self _, _, (u64.wrap (z2045 + (1:Int))), _, hx2053, (fu 1 (.int .u64 (Int.tmod a1 (9:Int))) z (fu 5 v1088 z (fu 6 v1090 z (fu 8 v1116 z (fu 10 (.int .i64 z1817) z (fu 11 (.int .u64 (u64.wrap (z2045 + (1:Int)))) z z)))))), hL2050, hst⟩
}
}
}
 {
 replace hm := bif_f hc2055 hm
 refine wp_iff (cvb hc2055) ?_
 refine wp_exit (then_x (then_x ?_))
 replace hm := inr_up hm hx2053
 refine blk_x (blk_n (tn (wrl ?_)))
 refine wv (.int .i64 z1817) z z z (wv (.int .i64 (i64.wrap (z1817 + (1:Int)))) z z z (wv (.int .i64 (i64.wrap (z1817 + (1:Int)))) z z z (wl_nil (tn ?_))))
 replace hst := hst.pull1.pull1.keep2
 obtain rfl := some_inj hm
 exact ⟨_, Nat.lt_succ_self _, _, (i64.wrap (z1817 + (1:Int))), _, hx1825, (fu 1 (.int .u64 (Int.tmod a1 (9:Int))) z (fu 5 v1088 z (fu 6 v1090 z (fu 8 v1116 z (fu 10 (.int .i64 (i64.wrap (z1817 + (1:Int)))) z z))))), hL1822, hst⟩
}
}
 {
 replace hm := bif_f hc1827 hm
 refine wp_iff (cvb hc1827) ?_
 refine wp_exit (then_x (then_x ?_))
 replace hm := inr_up hm hx1825
 refine blk_x (tn (wp_seq (wrl ?_)))
 refine wv (.bool true) z z z (wl_nil (tn (wp_ret ?_)))
 obtain rfl := some_inj hm
 refine post_ret (vs := [.bool true]) results5 (rvs_cons (rv_tmp z) rvs_nil) ?_
 exact ⟨_, z, hI0, hst.keep0⟩
}
}
}
}
}

end Go.Proofs.Ytbdnbohbmgmonaa
