/- The Go functions refine their models, part 1. -/
import Derived.Test.YtbdnbohbmgmonaaMvccPutsR0
set_option linter.unusedVariables false
set_option linter.unusedSimpArgs false
set_option maxRecDepth 100000
set_option maxHeartbeats 4000000
namespace Go.Proofs.Ytbdnbohbmgmonaa
open Go Go.V
open _root_.Go.Proofs.Try IntKind
attribute [local irreducible] wpList Code.wp wpQuiet Calls bodyPost Oper.wp wpS Nx PendOK YieldsIn
theorem law11_awake_ref {w0 w : World} {I : HL} {R : SP}   (hst : St w0 w I [] R) {r : (Bool)} (hm : law11_awake = some r) :
  Calls prog 10 #[] w fun e w' => ∃ (I' : HL), e = .returned (.bool r) ∧ I.le I' ∧ St w0 w' I' [] R := by {
 unfold law11_awake at hm
 refine calls_start (args := []) func10 z ntmps10 (Nat.le_of_ble_eq_true z) ?_
 have hI0 := HL.le.refl I
 refine wp_seq (wrl (wv (.bool false) z z z (wl_nil (tn (wp_seq (wrl ?_))))))
 obtain ⟨t66, ht67, hm⟩ := bind_some hm
 refine wc call21 [] z z z ?_
 refine (mvcc_New_ref hst.to0 ht67).mono ?_
 rintro _ w68 ⟨v71, rfl, hst⟩
 refine ⟨_, z, ?_⟩
 replace hst := hst.of1
 refine wv (v71) z z z (wl_nil (tn (wp_seq (wrl (wv (v71) z z z ?_)))))
 obtain ⟨b73, w74, ew75, eb76, hst⟩ := hst.lits (E := (tyInt .u8)) (xs := [(97:Int)]) [[U1 (97:Int)]] 5 1 z (Reps.cons z Reps.nil)
 refine wl_run (v := (.slice (some ⟨b73, 0, none⟩) 1 1)) (w' := w74) z z (x_als (by kernel_rfl) ew75 eb76) ?_
 obtain ⟨I78, w81, hI79, f80, hr82, hst⟩ := hst.own_mark (P := prog) underlying32 underlying5 (List.cons_ne_nil _ _)
 replace hI0 := hI0.trans hI79
 refine wl_run (v := (.slice (some ⟨b73, 0, none⟩) 1 1)) (w' := w81) z z (x_conv z hr82) ?_
 refine wv (.agg #[U6 (2:Int), Zu, .bool false, (.slice (some ⟨b73, 0, none⟩) 1 1)]) z z (by kernel_rfl) ?_
 replace hst := objO_some hst
 obtain ⟨t84, ht85, hm⟩ := bind_some hm
 refine wc call22 [v71, F6 (4607182418800017408:Nat), .agg #[U6 (2:Int), Zu, .bool false, (.slice (some ⟨b73, 0, none⟩) 1 1)]] z z z ?_
 refine (mvcc_Store_Put_ref (a2 := ({ Epoch := (2:Int), Index := (0:Int), Del := false, Val := [(97:Int)] } : mvcc_Version)) (f80.mono ro_rd) hst.to1 ht85).mono ?_
 rintro _ w86 ⟨I87, rfl, hI88, hst⟩
 refine ⟨_, z, ?_⟩
 replace hst := hst.of1
 replace f80 := f80.mono (ro_le hI88)
 replace hI0 := hI0.trans hI88
 rcases he90 : t84 with _ | y89
 · rw [he90] at hm; cases hm
 rw [he90] at hm hst; dsimp only at hm; replace hst := objO_get hst
 refine wl_nil (tn (wp_seq (wrl (wv (v71) z z z (wv (.agg #[U6 (3:Int), Zu, .bool true, Zs]) z z (by kernel_rfl) ?_)))))
 replace hst := objO_some hst
 have f92 : Ro (tyInt .u8) I87 (.slice none 0 0) [] := ro_nil
 obtain ⟨t93, ht94, hm⟩ := bind_some hm
 refine wc call22 [v71, F6 (4607182418800017408:Nat), .agg #[U6 (3:Int), Zu, .bool true, Zs]] z z z ?_
 refine (mvcc_Store_Put_ref (a2 := ({ Epoch := (3:Int), Index := (0:Int), Del := true, Val := [] } : mvcc_Version)) (f92.mono ro_rd) hst.to1 ht94).mono ?_
 rintro _ w95 ⟨I96, rfl, hI97, hst⟩
 refine ⟨_, z, ?_⟩
 replace hst := hst.of1
 replace f80 := f80.mono (ro_le hI97)
 replace f92 := f92.mono (ro_le hI97)
 replace hI0 := hI0.trans hI97
 rcases he99 : t93 with _ | y98
 · rw [he99] at hm; cases hm
 rw [he99] at hm hst; dsimp only at hm; replace hst := objO_get hst
 refine wl_nil (tn (wp_seq (wrl (wv (v71) z z z ?_))))
 replace hst := objO_some hst
 obtain ⟨t100, ht101, hm⟩ := bind_some hm
 refine wc call13 [v71, F6 (4607182418800017408:Nat), U6 (2:Int)] z z z ?_
 refine (mvcc_Store_Get_ref hst.to1 ht101).mono ?_
 rintro _ w102 ⟨v105, rfl, hst⟩
 refine ⟨_, z, ?_⟩
 replace hst := hst.of2.pull1
 replace hst := objO_get hst
 refine wv (v105) z z (by obtain ⟨_, _, hv_, _⟩ := hst.sv1; rw [hv_]; kernel_rfl) (wv (.string (toStr t100.Val)) z z (x_tostr underlying32 underlying9 underlying5 z hst.src1) (wv (.bool (sEq (toStr t100.Val) (ByteArray.mk #[97]))) z z (by kernel_rfl) (wv (.bool (sEq (toStr t100.Val) (ByteArray.mk #[97]))) z z z ?_)))
 refine bsplit (sEq (toStr t100.Val) (ByteArray.mk #[97])) (fun hc107 => ?_) (fun hc107 => ?_)
 {
 replace hm := bif_t hc107 hm
 refine wv (v71) ((wanted_eq z z z (cvb hc107)).trans z) z z ?_
 replace hst := objO_some hst
 obtain ⟨t108, ht109, hm⟩ := bind_some hm
 refine wl_call ((wanted_eq z z z (cvb hc107)).trans z) z (x_call call13 z (vs := [v71, F6 (4607182418800017408:Nat), U6 (3:Int)]) z) ?_
 refine (mvcc_Store_Get_ref hst.to1 ht109).mono ?_
 rintro _ w110 ⟨v113, rfl, hst⟩
 refine ⟨_, z, ?_⟩
 replace hst := hst.of2.pull1
 replace hst := objO_get hst
 refine wv (.bool t108.Has) ((wanted_eq z z z (cvb hc107)).trans z) z (by obtain ⟨_, _, hv_, _⟩ := hst.sv1; rw [hv_]; kernel_rfl) (wv (.bool (!t108.Has)) ((wanted_eq z z z (cvb hc107)).trans z) z z (wv (.bool (!t108.Has)) z z (x_pick_t hc107 z z) (wv (.bool (!t108.Has)) z z z ?_)))
 refine bsplit (!t108.Has) (fun hc115 => ?_) (fun hc115 => ?_)
 {
 replace hm := bif_t hc115 hm
 refine wv (v71) ((wanted_eq z z z (cvb hc115)).trans z) z z ?_
 replace hst := objO_some hst
 obtain ⟨t116, ht117, hm⟩ := bind_some hm
 refine wl_call ((wanted_eq z z z (cvb hc115)).trans z) z (x_call call25 z (vs := [v71]) z) ?_
 refine (mvcc_Store_Size_ref hst.to1 ht117).mono ?_
 rintro _ w118 ⟨rfl, hst⟩
 refine ⟨_, z, ?_⟩
 replace hst := hst.of1
 replace hst := objO_get hst
 refine wv (.bool (t116 == (2:Int))) ((wanted_eq z z z (cvb hc115)).trans z) z z (wv (.bool (t116 == (2:Int))) z z (x_pick_t hc115 z z) (wv (.bool (t116 == (2:Int))) z z z (wl_nil (tn (wp_ret ?_)))))
 obtain rfl := some_inj hm
 refine post_ret (vs := [.bool (t116 == (2:Int))]) results10 (rvs_cons (rv_tmp z) rvs_nil) ?_
 exact ⟨_, z, hI0, hst.keep0⟩
}
 {
 replace hm := bif_f hc115 hm
 refine wo hc115 z z z z z z (wo hc115 z z z z z z (wo hc115 z z z z z z (wv (.bool false) z z (x_pick_f hc115 z z) (wv (.bool false) z z z (wl_nil (tn (wp_ret ?_)))))))
 obtain rfl := some_inj hm
 refine post_ret (vs := [.bool false]) results10 (rvs_cons (rv_tmp z) rvs_nil) ?_
 exact ⟨_, z, hI0, hst.keep0⟩
}
}
 {
 replace hm := bif_f hc107 hm
 refine wo hc107 z z z z z z (wo hc107 z z z z z z (wo hc107 z z z z z z (wo hc107 z z z z z z (wv (.bool false) z z (x_pick_f hc107 z z) (wv (.bool false) z z z (wz z z z z z z (wz z z z z z z (wz z z z z z z (wv (.bool false) z z (x_pick_f z z z) (wv (.bool false) z z z (wl_nil (tn (wp_ret ?_)))))))))))))
 obtain rfl := some_inj hm
 refine post_ret (vs := [.bool false]) results10 (rvs_cons (rv_tmp z) rvs_nil) ?_
 exact ⟨_, z, hI0, hst.keep0⟩
}
}

theorem ref11_Ats_ref {w0 w : World} {I : HL} {R : SP} {a0 : (List ref11_Version)} {r0_0 : Value} (f0_0 : Rd ty_ref11_Version R I r0_0 a0) (hst : St w0 w I [] R) {r : ((List Nat))} (hm : ref11_Ats a0 = some r) :
  Calls prog 18 #[r0_0] w fun e w' => ∃ (I' : HL) (q0_0 : Value), e = .returned (q0_0) ∧ I.le I' ∧ St w0 w' I' [ownS tyF64 q0_0 r] R := by {
 unfold ref11_Ats at hm
 refine calls_start (args := [r0_0]) func18 z ntmps18 (Nat.le_of_ble_eq_true z) ?_
 have hI0 := HL.le.refl I
 refine wp_seq (wrl (wv ((.slice none 0 0)) z z z (wl_nil (tn (wp_seq (wrl (wv ((.slice none 0 0)) z z z (wl_nil (tn (wp_seq (wp_seq (wrl (wv (.int .i64 (0:Int)) z z z (wl_nil (tn (wp_block ?_))))))))))))))))
 replace hst := hst.own_nil tyF64
 obtain ⟨n1177, hm⟩ := loopO_some hm
 refine wp_loop_n (fun n a w => ∃ (I1175 : HL) (z1171 : (List Nat)) (z1174 : Int) (v1172 : Value) (σ1176 : Nat → Value), loopN (ref11_Ats_l0 a0) n (z1171, z1174) = some r ∧ a = Fr 66 (upd (upd (upd σ1176 0 (r0_0)) 3 (v1172)) 4 (.int .i64 z1174)) ∧ I.le I1175 ∧ St w0 w I1175 [ownS tyF64 v1172 z1171] R) n1177 ⟨_, [], (0:Int), Zs, _, hm, (fu 0 r0_0 z (fu 3 (.slice none 0 0) z (fu 4 (.int .i64 (0:Int)) z z))), (HL.le.refl _), hst⟩ ?_
 rintro n1183 _ w1178 ⟨I1175, z1171, z1174, v1172, σ1176, hm, rfl, hL1179, hst⟩
 obtain ⟨n1180, y1181, rfl, hm, hx1182⟩ := loopN_some hm
 dsimp only [ref11_Ats_l0] at hm
 replace f0_0 := f0_0.mono (rd_le hL1179)
 replace hI0 := hI0.trans hL1179
 refine wp_seq (wp_seq (wrl (wv (.int .i64 z1174) z z z (wv (r0_0) z z z (wv (.int .i64 ((a0).length : Int)) z z (x_len z underlying26 (rd_sliceV f0_0)) (wv (.bool (decide (z1174 < ((a0).length : Int)))) z z z (wl_nil (tn ?_))))))))
 refine bsplit (decide (z1174 < ((a0).length : Int))) (fun hc1184 => ?_) (fun hc1184 => ?_)
 {
 replace hm := bif_t hc1184 hm
 refine wp_ift (cvb hc1184) ?_
 refine wp_skip (tn (wp_seq (wp_block (wp_seq (wrl ?_)))))
 refine wv (.int .i64 (0:Int)) z z z (wl_nil (tn ?_))
 obtain ⟨y1267, hm, hx1268⟩ := bind_some hm
 refine wp_cut (fun a w => ∃ (z1264 : Int) (σ1265 : Nat → Value), (ref11_Ats_j1 z1171 a0 z1174) z1264 = some y1181 ∧ a = Fr 66 (upd (upd (upd (upd σ1265 0 (r0_0)) 3 (v1172)) 4 (.int .i64 z1174)) 5 (.int .i64 z1264)) ∧ St w0 w I1175 [ownS tyF64 v1172 z1171] R) ?_ ?_
 {
 refine wp_block ?_
 obtain ⟨n1234, hm⟩ := loopO_some hm
 refine wp_loop_n (fun n a w => ∃ (z1232 : Int) (σ1233 : Nat → Value), loopN (ref11_Ats_l2 z1171 a0 z1174) n z1232 = some y1267 ∧ a = Fr 66 (upd (upd (upd (upd σ1233 0 (r0_0)) 3 (v1172)) 4 (.int .i64 z1174)) 5 (.int .i64 z1232)) ∧ St w0 w I1175 [ownS tyF64 v1172 z1171] R) n1234 ⟨(0:Int), _, hm, (fu 0 r0_0 z (fu 3 v1172 z (fu 4 (.int .i64 z1174) z (fu 5 (.int .i64 (0:Int)) z z)))), hst⟩ ?_
 rintro n1240 _ w1235 ⟨z1232, σ1233, hm, rfl, hst⟩
 obtain ⟨n1237, y1238, rfl, hm, hx1239⟩ := loopN_some hm
 dsimp only [ref11_Ats_l2] at hm
 refine wp_seq (wp_seq ?_)
 refine wp_region_St hst 16 [0, 1, 2, 3, 4, 5, 6, 7, 8, 9, 10, 11, 12, 13, 14, 15] [0, 0, 2, 7, 15, 31, 31, 127, 255, 31, 31, 1567, 3615, 7711, 16383, 32767] [] z (by kernel_rfl) (by kernel_rfl) Try.mixed (by kernel_rfl) ?_
 refine wsr (.int .i64 z1232) 0 z z z (by kernel_rfl) (fun w hst => z) (wsr (v1172) 1 z z z (by kernel_rfl) (fun w hst => z) (wsr (.int .i64 ((z1171).length : Int)) 2 z z z (by kernel_rfl) (fun w hst => x_len z underlying44 hst.sv0) (wsr (.bool (decide (z1232 < ((z1171).length : Int)))) 3 z z z (by kernel_rfl) (fun w hst => z) (wsr (.bool (decide (z1232 < ((z1171).length : Int)))) 4 z z z (by kernel_rfl) (fun w hst => z) ?_))))
 refine bsplit (decide (z1232 < ((z1171).length : Int))) (fun hc1241 => ?_) (fun hc1241 => ?_)
 {
 replace hm := bif_t hc1241 hm
 refine ws_q (v := v1172) 5 [6, 7, 8, 9, 10, 11, 12, 13, 14, 15] (by kernel_rfl) z z (yi_run ((wanted_eq z z z (cvb hc1241)).trans z) (fun w hst => z)) (ws_q (v := .int .i64 z1232) 6 [7, 8, 9, 10, 11, 12, 13, 14, 15] (by kernel_rfl) z z (yi_run ((wanted_eq z z z (cvb hc1241)).trans z) (fun w hst => z)) ?_)
 obtain ⟨x1242, hx1243, hm⟩ := bind_some hm
 obtain ⟨h1244, h1245, hi1246⟩ := geto_some hx1243
 refine ws_q (v := .pointer (some (eAddr v1172 (z1232.toNat * 1 + 0)))) 7 [8, 9, 10, 11, 12, 13, 14, 15] (by kernel_rfl) z z (yi_run ((wanted_eq z z z (cvb hc1241)).trans z) (fun w hst => x_index z z underlying44 sizeOf23 hst.sv0 h1244 h1245)) (ws_q (v := .float .f64 x1242) 8 [9, 10, 11, 12, 13, 14, 15] (by kernel_rfl) z z (yi_run ((wanted_eq z z z (cvb hc1241)).trans z) (fun w hst => x_load z isAgg23 (hst.ol0 hi1246 (by rintro _ rfl; rfl)))) (ws_q (v := r0_0) 9 [10, 11, 12, 13, 14, 15] (by kernel_rfl) z z (yi_run ((wanted_eq z z z (cvb hc1241)).trans z) (fun w hst => z)) (ws_q (v := .int .i64 z1174) 10 [11, 12, 13, 14, 15] (by kernel_rfl) z z (yi_run ((wanted_eq z z z (cvb hc1241)).trans z) (fun w hst => z)) ?_)))
 obtain ⟨x1247, hx1248, hm⟩ := bind_some hm
 obtain ⟨h1249, h1250, hi1251⟩ := geto_some hx1248
 refine ws_q (v := .pointer (some (eAddr r0_0 (z1174.toNat * 5 + 0)))) 11 [12, 13, 14, 15] (by kernel_rfl) z z (yi_run ((wanted_eq z z z (cvb hc1241)).trans z) (fun w hst => x_index z z underlying26 sizeOf67 (rd_sliceV f0_0) h1249 h1250)) (ws_q (v := .pointer (some (eAddr r0_0 (z1174.toNat * 5 + 0)))) 12 [13, 14, 15] (by kernel_rfl) z z (yi_run ((wanted_eq z z z (cvb hc1241)).trans z) (fun w hst => x_field_e z underlying67 z sizeOf23 z)) ?_)
 obtain ⟨cs1252, hr1253, hc1254⟩ := Rd.getF f0_0 hi1251
 obtain ⟨v1255, rfl, f1256, -⟩ := hr1253
 refine ws_q (v := .float .f64 x1247.At) 13 [14, 15] (by kernel_rfl) z z (yi_run ((wanted_eq z z z (cvb hc1241)).trans z) (fun w hst => x_load z isAgg23 ((hc1254 (HL.le.refl _) hst) 0 _ z))) ?_
 refine ws_e1 14 (by kernel_rfl) ?_
 refine nxe [15] (by kernel_rfl) z ((wanted_eq z z z (cvb hc1241)).trans z) ?_
 clear hst
 intro w hst
 obtain ⟨t1258, ht1259, hm⟩ := bind_some hm
 refine wec call37 [F6 x1242, F6 x1247.At] z z ?_
 refine (ref01_Ahead_ref hst.to0 ht1259).mono ?_
 rintro _ w1260 ⟨rfl, hst⟩
 refine ⟨_, z, ?_⟩
 replace hst := hst.of0
 refine ws_next (pend' := []) hst (by kernel_rfl) pk_nil ?_
 refine wsr (.bool t1258) 15 z z z (by kernel_rfl) (fun w hst => x_pick_t hc1241 z z) ?_
 refine ws_nil ?_
 intro w hst
 refine tn ?_
 refine bsplit t1258 (fun hc1263 => ?_) (fun hc1263 => ?_)
 {
 replace hm := bif_t hc1263 hm
 refine wp_ift (cvb hc1263) ?_
 refine wp_skip (tn (wp_block (wrl ?_)))
 refine wv (.int .i64 z1232) z z z (wv (.int .i64 (i64.wrap (z1232 + (1:Int)))) z z z (wv (.int .i64 (i64.wrap (z1232 + (1:Int)))) z z z (wl_nil (blk_n (tn ?_)))))
 replace hst := hst.keep1
 obtain rfl := some_inj hm
 exact ⟨_, Nat.lt_succ_self _, (i64.wrap (z1232 + (1:Int))), _, hx1239, (fu 0 r0_0 z (fu 3 v1172 z (fu 4 (.int .i64 z1174) z (fu 5 (.int .i64 (i64.wrap (z1232 + (1:Int)))) z z)))), hst⟩
}
 {
 replace hm := bif_f hc1263 hm
 refine wp_iff (cvb hc1263) ?_
 refine wp_exit (then_x (then_x ?_))
 replace hm := inr_up hm hx1239
 refine blk_x (tn ?_)
 replace hst := hst.keep1
 obtain rfl := some_inj hm
 exact ⟨z1232, _, hx1268, (fu 0 r0_0 z (fu 3 v1172 z (fu 4 (.int .i64 z1174) z (fu 5 (.int .i64 z1232) z z)))), hst⟩
}
}
 {
 replace hm := bif_f hc1241 hm
 refine ws_q (v := undef) 5 [6, 7, 8, 9, 10, 11, 12, 13, 14, 15] (by kernel_rfl) z z (yi_off ((wanted_eq z z z (cvb hc1241)).trans z)) (ws_q (v := undef) 6 [7, 8, 9, 10, 11, 12, 13, 14, 15] (by kernel_rfl) z z (yi_off ((wanted_eq z z z (cvb hc1241)).trans z)) (ws_q (v := undef) 7 [8, 9, 10, 11, 12, 13, 14, 15] (by kernel_rfl) z z (yi_off ((wanted_eq z z z (cvb hc1241)).trans z)) (ws_q (v := undef) 8 [9, 10, 11, 12, 13, 14, 15] (by kernel_rfl) z z (yi_off ((wanted_eq z z z (cvb hc1241)).trans z)) (ws_q (v := undef) 9 [10, 11, 12, 13, 14, 15] (by kernel_rfl) z z (yi_off ((wanted_eq z z z (cvb hc1241)).trans z)) (ws_q (v := undef) 10 [11, 12, 13, 14, 15] (by kernel_rfl) z z (yi_off ((wanted_eq z z z (cvb hc1241)).trans z)) (ws_q (v := undef) 11 [12, 13, 14, 15] (by kernel_rfl) z z (yi_off ((wanted_eq z z z (cvb hc1241)).trans z)) (ws_q (v := undef) 12 [13, 14, 15] (by kernel_rfl) z z (yi_off ((wanted_eq z z z (cvb hc1241)).trans z)) (ws_q (v := undef) 13 [14, 15] (by kernel_rfl) z z (yi_off ((wanted_eq z z z (cvb hc1241)).trans z)) (ws_q (v := undef) 14 [15] (by kernel_rfl) z z (yi_off ((wanted_eq z z z (cvb hc1241)).trans z)) (wsr (.bool false) 15 z z z (by kernel_rfl) (fun w hst => x_pick_f hc1241 z z) ?_))))))))))
 refine ws_nil ?_
 intro w hst
 refine tn ?_
 refine wp_iff z ?_
 refine wp_exit (then_x (then_x ?_))
 replace hm := inr_up hm hx1239
 refine blk_x (tn ?_)
 replace hst := hst.keep1
 obtain rfl := some_inj hm
 exact ⟨z1232, _, hx1268, (fu 0 r0_0 z (fu 3 v1172 z (fu 4 (.int .i64 z1174) z (fu 5 (.int .i64 z1232) z z)))), hst⟩
}
}
 {
 clear hst
 rintro _ w1269 ⟨z1264, σ1265, hm, rfl, hst⟩
 dsimp only [ref11_Ats_j1] at hm
 refine wp_seq (wp_seq ?_)
 refine wp_region_St hst 16 [0, 1, 2, 3, 4, 5, 6, 7, 8, 9, 10, 11, 12, 13, 14, 15] [0, 0, 2, 7, 15, 31, 31, 127, 255, 31, 31, 1567, 3615, 7711, 16383, 32767] [] z (by kernel_rfl) (by kernel_rfl) Try.mixed (by kernel_rfl) ?_
 refine wsr (.int .i64 z1264) 0 z z z (by kernel_rfl) (fun w hst => z) (wsr (v1172) 1 z z z (by kernel_rfl) (fun w hst => z) (wsr (.int .i64 ((z1171).length : Int)) 2 z z z (by kernel_rfl) (fun w hst => x_len z underlying44 hst.sv0) (wsr (.bool (decide (z1264 < ((z1171).length : Int)))) 3 z z z (by kernel_rfl) (fun w hst => z) (wsr (.bool (decide (z1264 < ((z1171).length : Int)))) 4 z z z (by kernel_rfl) (fun w hst => z) ?_))))
 refine bsplit (decide (z1264 < ((z1171).length : Int))) (fun hc1270 => ?_) (fun hc1270 => ?_)
 {
 replace hm := bif_t hc1270 hm
 refine ws_q (v := v1172) 5 [6, 7, 8, 9, 10, 11, 12, 13, 14, 15] (by kernel_rfl) z z (yi_run ((wanted_eq z z z (cvb hc1270)).trans z) (fun w hst => z)) (ws_q (v := .int .i64 z1264) 6 [7, 8, 9, 10, 11, 12, 13, 14, 15] (by kernel_rfl) z z (yi_run ((wanted_eq z z z (cvb hc1270)).trans z) (fun w hst => z)) ?_)
 obtain ⟨x1271, hx1272, hm⟩ := bind_some hm
 obtain ⟨h1273, h1274, hi1275⟩ := geto_some hx1272
 refine ws_q (v := .pointer (some (eAddr v1172 (z1264.toNat * 1 + 0)))) 7 [8, 9, 10, 11, 12, 13, 14, 15] (by kernel_rfl) z z (yi_run ((wanted_eq z z z (cvb hc1270)).trans z) (fun w hst => x_index z z underlying44 sizeOf23 hst.sv0 h1273 h1274)) (ws_q (v := .float .f64 x1271) 8 [9, 10, 11, 12, 13, 14, 15] (by kernel_rfl) z z (yi_run ((wanted_eq z z z (cvb hc1270)).trans z) (fun w hst => x_load z isAgg23 (hst.ol0 hi1275 (by rintro _ rfl; rfl)))) (ws_q (v := r0_0) 9 [10, 11, 12, 13, 14, 15] (by kernel_rfl) z z (yi_run ((wanted_eq z z z (cvb hc1270)).trans z) (fun w hst => z)) (ws_q (v := .int .i64 z1174) 10 [11, 12, 13, 14, 15] (by kernel_rfl) z z (yi_run ((wanted_eq z z z (cvb hc1270)).trans z) (fun w hst => z)) ?_)))
 obtain ⟨x1276, hx1277, hm⟩ := bind_some hm
 obtain ⟨h1278, h1279, hi1280⟩ := geto_some hx1277
 refine ws_q (v := .pointer (some (eAddr r0_0 (z1174.toNat * 5 + 0)))) 11 [12, 13, 14, 15] (by kernel_rfl) z z (yi_run ((wanted_eq z z z (cvb hc1270)).trans z) (fun w hst => x_index z z underlying26 sizeOf67 (rd_sliceV f0_0) h1278 h1279)) (ws_q (v := .pointer (some (eAddr r0_0 (z1174.toNat * 5 + 0)))) 12 [13, 14, 15] (by kernel_rfl) z z (yi_run ((wanted_eq z z z (cvb hc1270)).trans z) (fun w hst => x_field_e z underlying67 z sizeOf23 z)) ?_)
 obtain ⟨cs1281, hr1282, hc1283⟩ := Rd.getF f0_0 hi1280
 obtain ⟨v1284, rfl, f1285, -⟩ := hr1282
 refine ws_q (v := .float .f64 x1276.At) 13 [14, 15] (by kernel_rfl) z z (yi_run ((wanted_eq z z z (cvb hc1270)).trans z) (fun w hst => x_load z isAgg23 ((hc1283 (HL.le.refl _) hst) 0 _ z))) ?_
 refine ws_e1 14 (by kernel_rfl) ?_
 refine nxe [15] (by kernel_rfl) z ((wanted_eq z z z (cvb hc1270)).trans z) ?_
 clear hst
 intro w hst
 obtain ⟨t1287, ht1288, hm⟩ := bind_some hm
 refine wec call30 [F6 x1271, F6 x1276.At] z z ?_
 refine (ref01_Same_ref hst.to0 ht1288).mono ?_
 rintro _ w1289 ⟨rfl, hst⟩
 refine ⟨_, z, ?_⟩
 replace hst := hst.of0
 refine ws_next (pend' := []) hst (by kernel_rfl) pk_nil ?_
 refine wsr (.bool t1287) 15 z z z (by kernel_rfl) (fun w hst => x_pick_t hc1270 z z) ?_
 refine ws_nil ?_
 intro w hst
 refine tn ?_
 refine bsplit t1287 (fun hc1292 => ?_) (fun hc1292 => ?_)
 {
 replace hm := bif_t hc1292 hm
 refine wp_ift (cvb hc1292) ?_
 refine wp_exit (then_x (blk_x (tn (wrl ?_))))
 refine wv (.int .i64 z1174) z z z (wv (.int .i64 (i64.wrap (z1174 + (1:Int)))) z z z (wv (.int .i64 (i64.wrap (z1174 + (1:Int)))) z z z (wl_nil (tn ?_))))
 replace hst := hst.keep1
 obtain rfl := some_inj hm
 exact ⟨_, Nat.lt_succ_self _, _, z1171, (i64.wrap (z1174 + (1:Int))), v1172, _, hx1182, (fu 0 r0_0 z (fu 3 v1172 z (fu 4 (.int .i64 (i64.wrap (z1174 + (1:Int)))) z z))), hL1179, hst⟩
}
 {
 replace hm := bif_f hc1292 hm
 refine wp_iff (cvb hc1292) ?_
 refine wp_skip (tn (wp_seq (wrl ?_)))
 refine wv ((.slice none 0 0)) z z z (wl_nil (tn (wp_seq (wrl (wv ((.slice none 0 0)) z z z (wv (v1172) z z z (wv (.int .i64 z1264) z z z ?_)))))))
 obtain ⟨I1294, hI1295, f1296, hst⟩ := hst.own_fix
 replace f0_0 := f0_0.mono (rd_le hI1295)
 replace f1285 := f1285.mono (rd_le hI1295)
 replace hI0 := hI0.trans hI1295
 replace hL1179 := hL1179.trans hI1295
 obtain ⟨hg1297, hm⟩ := gd_some hm
 obtain ⟨h1298, h1299, h1300⟩ := fits_of hg1297
 have f1302 : Ro tyF64 I1294 (slcV 1 v1172 (0:Int).toNat z1264.toNat) (subs z1171 (0:Int) z1264) := Ro.part f1296 h1299 h1300 h1298
 refine wv ((slcV 1 v1172 (0:Int).toNat z1264.toNat)) z z (x_slice underlying44 sizeOf23 z (ro_sliceV f1296) h1298 h1299 h1300 .i64 .i64 (.inr ⟨z, z⟩) (.inl z)) ?_
 replace hst := hst.own_nil tyF64
 obtain ⟨hg1303, hm⟩ := gd_some hm
 obtain ⟨v1304, w1305, hr1306, hst⟩ := run_append elem_44 underlying44 hst (Src.of_ro hst f1302) (room_of hg1303 z) 44
 replace hst := St.nil_app hst
 refine wl_run (v := v1304) (w' := w1305) z z (x_append z z hr1306) ?_
 refine wv (v1304) z z z (wl_nil (tn (wp_seq (wrl (wv (v1304) z z z (wv (r0_0) z z z (wv (.int .i64 z1174) z z z (wv (.pointer (some (eAddr r0_0 (z1174.toNat * 5 + 0)))) z z (x_index z z underlying26 sizeOf67 (rd_sliceV f0_0) h1278 h1279) (wv (.pointer (some (eAddr r0_0 (z1174.toNat * 5 + 0)))) z z (x_field_e z underlying67 z sizeOf23 z) ?_)))))))))
 obtain ⟨cs1308, hr1309, hc1310⟩ := Rd.getF f0_0 hi1280
 obtain ⟨v1311, rfl, f1312, -⟩ := hr1309
 refine wv (.float .f64 x1276.At) z z (x_load z isAgg23 ((hc1310 (HL.le.refl _) hst) 0 _ z)) ?_
 obtain ⟨b1314, w1315, ew1316, eb1317, hst⟩ := hst.lits (E := tyF64) (xs := [x1276.At]) [[F6 x1276.At]] 23 1 z (Reps.cons z Reps.nil)
 refine wl_run (v := (.slice (some ⟨b1314, 0, none⟩) 1 1)) (w' := w1315) z z (x_als (by kernel_rfl) ew1316 eb1317) ?_
 obtain ⟨hg1319, hm⟩ := gd_some hm
 replace hst := hst.pull1
 obtain ⟨v1320, w1321, hr1322, hst⟩ := run_append elem_44 underlying44 hst hst.src1 (room_of hg1319 z) 44
 refine wl_run (v := v1320) (w' := w1321) z z (x_append z z hr1322) ?_
 refine wv (v1320) z z z (wl_nil (tn (wrl (wv (v1320) z z z (wv (v1172) z z z (wv (.int .i64 z1264) z z z ?_))))))
 obtain ⟨hg1324, hm⟩ := gd_some hm
 obtain ⟨h1325, h1326, h1327⟩ := fits_of hg1324
 have f1329 : Ro tyF64 I1294 (slcV 1 v1172 z1264.toNat (((z1171).length : Nat) : Int).toNat) (subs z1171 z1264 (((z1171).length : Nat) : Int)) := Ro.part f1296 h1326 h1327 h1325
 refine wv ((slcV 1 v1172 z1264.toNat (((z1171).length : Nat) : Int).toNat)) z z (x_slice underlying44 sizeOf23 z (ro_sliceV f1296) h1325 h1326 h1327 .i64 .i64 (.inl z) (.inr ⟨z, z⟩)) ?_
 obtain ⟨hg1330, hm⟩ := gd_some hm
 obtain ⟨v1331, w1332, hr1333, hst⟩ := run_append elem_44 underlying44 hst (Src.of_ro hst f1329) (room_of hg1330 z) 44
 refine wl_run (v := v1331) (w' := w1332) z z (x_append z z hr1333) ?_
 refine wv (v1331) z z z (wl_nil (blk_n (tn (wrl (wv (.int .i64 z1174) z z z (wv (.int .i64 (i64.wrap (z1174 + (1:Int)))) z z z (wv (.int .i64 (i64.wrap (z1174 + (1:Int)))) z z z (wl_nil (tn ?_)))))))))
 replace hst := hst.keep1
 obtain rfl := some_inj hm
 exact ⟨_, Nat.lt_succ_self _, _, (((subs z1171 (0:Int) z1264) ++ ([x1276.At])) ++ (subs z1171 z1264 (((z1171).length : Nat) : Int))), (i64.wrap (z1174 + (1:Int))), v1331, _, hx1182, (fu 0 r0_0 z (fu 3 v1331 z (fu 4 (.int .i64 (i64.wrap (z1174 + (1:Int)))) z z))), hL1179, hst⟩
}
}
 {
 replace hm := bif_f hc1270 hm
 refine ws_q (v := undef) 5 [6, 7, 8, 9, 10, 11, 12, 13, 14, 15] (by kernel_rfl) z z (yi_off ((wanted_eq z z z (cvb hc1270)).trans z)) (ws_q (v := undef) 6 [7, 8, 9, 10, 11, 12, 13, 14, 15] (by kernel_rfl) z z (yi_off ((wanted_eq z z z (cvb hc1270)).trans z)) (ws_q (v := undef) 7 [8, 9, 10, 11, 12, 13, 14, 15] (by kernel_rfl) z z (yi_off ((wanted_eq z z z (cvb hc1270)).trans z)) (ws_q (v := undef) 8 [9, 10, 11, 12, 13, 14, 15] (by kernel_rfl) z z (yi_off ((wanted_eq z z z (cvb hc1270)).trans z)) (ws_q (v := undef) 9 [10, 11, 12, 13, 14, 15] (by kernel_rfl) z z (yi_off ((wanted_eq z z z (cvb hc1270)).trans z)) (ws_q (v := undef) 10 [11, 12, 13, 14, 15] (by kernel_rfl) z z (yi_off ((wanted_eq z z z (cvb hc1270)).trans z)) (ws_q (v := undef) 11 [12, 13, 14, 15] (by kernel_rfl) z z (yi_off ((wanted_eq z z z (cvb hc1270)).trans z)) (ws_q (v := undef) 12 [13, 14, 15] (by kernel_rfl) z z (yi_off ((wanted_eq z z z (cvb hc1270)).trans z)) (ws_q (v := undef) 13 [14, 15] (by kernel_rfl) z z (yi_off ((wanted_eq z z z (cvb hc1270)).trans z)) (ws_q (v := undef) 14 [15] (by kernel_rfl) z z (yi_off ((wanted_eq z z z (cvb hc1270)).trans z)) (wsr (.bool false) 15 z z z (by kernel_rfl) (fun w hst => x_pick_f hc1270 z z) ?_))))))))))
 refine ws_nil ?_
 intro w hst
 refine tn ?_
 refine wp_iff z ?_
 refine wp_skip (tn (wp_seq (wrl ?_)))
 refine wv ((.slice none 0 0)) z z z (wl_nil (tn (wp_seq (wrl (wv ((.slice none 0 0)) z z z (wv (v1172) z z z (wv (.int .i64 z1264) z z z ?_)))))))
 obtain ⟨I1336, hI1337, f1338, hst⟩ := hst.own_fix
 replace f0_0 := f0_0.mono (rd_le hI1337)
 replace hI0 := hI0.trans hI1337
 replace hL1179 := hL1179.trans hI1337
 obtain ⟨hg1339, hm⟩ := gd_some hm
 obtain ⟨h1340, h1341, h1342⟩ := fits_of hg1339
 have f1344 : Ro tyF64 I1336 (slcV 1 v1172 (0:Int).toNat z1264.toNat) (subs z1171 (0:Int) z1264) := Ro.part f1338 h1341 h1342 h1340
 refine wv ((slcV 1 v1172 (0:Int).toNat z1264.toNat)) z z (x_slice underlying44 sizeOf23 z (ro_sliceV f1338) h1340 h1341 h1342 .i64 .i64 (.inr ⟨z, z⟩) (.inl z)) ?_
 replace hst := hst.own_nil tyF64
 obtain ⟨hg1345, hm⟩ := gd_some hm
 obtain ⟨v1346, w1347, hr1348, hst⟩ := run_append elem_44 underlying44 hst (Src.of_ro hst f1344) (room_of hg1345 z) 44
 replace hst := St.nil_app hst
 refine wl_run (v := v1346) (w' := w1347) z z (x_append z z hr1348) ?_
 refine wv (v1346) z z z (wl_nil (tn (wp_seq (wrl (wv (v1346) z z z (wv (r0_0) z z z (wv (.int .i64 z1174) z z z ?_)))))))
 obtain ⟨x1350, hx1351, hm⟩ := bind_some hm
 obtain ⟨h1352, h1353, hi1354⟩ := geto_some hx1351
 refine wv (.pointer (some (eAddr r0_0 (z1174.toNat * 5 + 0)))) z z (x_index z z underlying26 sizeOf67 (rd_sliceV f0_0) h1352 h1353) (wv (.pointer (some (eAddr r0_0 (z1174.toNat * 5 + 0)))) z z (x_field_e z underlying67 z sizeOf23 z) ?_)
 obtain ⟨cs1355, hr1356, hc1357⟩ := Rd.getF f0_0 hi1354
 obtain ⟨v1358, rfl, f1359, -⟩ := hr1356
 refine wv (.float .f64 x1350.At) z z (x_load z isAgg23 ((hc1357 (HL.le.refl _) hst) 0 _ z)) ?_
 obtain ⟨b1361, w1362, ew1363, eb1364, hst⟩ := hst.lits (E := tyF64) (xs := [x1350.At]) [[F6 x1350.At]] 23 1 z (Reps.cons z Reps.nil)
 refine wl_run (v := (.slice (some ⟨b1361, 0, none⟩) 1 1)) (w' := w1362) z z (x_als (by kernel_rfl) ew1363 eb1364) ?_
 obtain ⟨hg1366, hm⟩ := gd_some hm
 replace hst := hst.pull1
 obtain ⟨v1367, w1368, hr1369, hst⟩ := run_append elem_44 underlying44 hst hst.src1 (room_of hg1366 z) 44
 refine wl_run (v := v1367) (w' := w1368) z z (x_append z z hr1369) ?_
 refine wv (v1367) z z z (wl_nil (tn (wrl (wv (v1367) z z z (wv (v1172) z z z (wv (.int .i64 z1264) z z z ?_))))))
 obtain ⟨hg1371, hm⟩ := gd_some hm
 obtain ⟨h1372, h1373, h1374⟩ := fits_of hg1371
 have f1376 : Ro tyF64 I1336 (slcV 1 v1172 z1264.toNat (((z1171).length : Nat) : Int).toNat) (subs z1171 z1264 (((z1171).length : Nat) : Int)) := Ro.part f1338 h1373 h1374 h1372
 refine wv ((slcV 1 v1172 z1264.toNat (((z1171).length : Nat) : Int).toNat)) z z (x_slice underlying44 sizeOf23 z (ro_sliceV f1338) h1372 h1373 h1374 .i64 .i64 (.inl z) (.inr ⟨z, z⟩)) ?_
 obtain ⟨hg1377, hm⟩ := gd_some hm
 obtain ⟨v1378, w1379, hr1380, hst⟩ := run_append elem_44 underlying44 hst (Src.of_ro hst f1376) (room_of hg1377 z) 44
 refine wl_run (v := v1378) (w' := w1379) z z (x_append z z hr1380) ?_
 refine wv (v1378) z z z (wl_nil (blk_n (tn (wrl (wv (.int .i64 z1174) z z z (wv (.int .i64 (i64.wrap (z1174 + (1:Int)))) z z z (wv (.int .i64 (i64.wrap (z1174 + (1:Int)))) z z z (wl_nil (tn ?_)))))))))
 replace hst := hst.keep1
 obtain rfl := some_inj hm
 exact ⟨_, Nat.lt_succ_self _, _, (((subs z1171 (0:Int) z1264) ++ ([x1350.At])) ++ (subs z1171 z1264 (((z1171).length : Nat) : Int))), (i64.wrap (z1174 + (1:Int))), v1378, _, hx1182, (fu 0 r0_0 z (fu 3 v1378 z (fu 4 (.int .i64 (i64.wrap (z1174 + (1:Int)))) z z))), hL1179, hst⟩
}
}
}
 {
 replace hm := bif_f hc1184 hm
 refine wp_iff (cvb hc1184) ?_
 refine wp_exit (then_x (then_x ?_))
 replace hm := inr_up hm hx1182
 refine blk_x (tn (wp_seq (wrl ?_)))
 refine wv (v1172) z z z (wv (v1172) z z z (wl_nil (tn (wp_ret ?_))))
 obtain rfl := some_inj hm
 refine post_ret (vs := [v1172]) results18 (rvs_cons (rv_tmp z) rvs_nil) ?_
 exact ⟨_, v1172, z, hI0, hst.keep1⟩
}
}

theorem mvcc_Store_Len_ref {w0 w : World} {I : HL} {R : SP} {a0 : (Option mvcc_Store)} {p0 : Value}  (hst : St w0 w I [objO at_mvcc_Store p0 a0] R) {r : (Int)} (hm : mvcc_Store_Len a0 = some r) :
  Calls prog 24 #[p0] w fun e w' => e = .returned (.int .i64 r) ∧ St w0 w' I [objO at_mvcc_Store p0 a0] R := by {
 rcases a0 with _ | o0
 {
 obtain ⟨rfl, hst'⟩ := objO_none hst
 clear hst
 have hst := hst'
 clear hst'
 dsimp only [mvcc_Store_Len] at hm
 refine calls_start (args := [.pointer none]) func24 z ntmps24 (Nat.le_of_ble_eq_true z) ?_
 refine wp_seq (wrl (wv (.int .i64 (0:Int)) z z z (wl_nil (tn (wp_seq (wp_seq (wrl (wv (.pointer none) z z z (wv (.bool true) z z (by kernel_rfl) (wl_nil (tn ?_)))))))))))
 refine wp_ift z ?_
 refine wp_seq (wrl (wv (.int .i64 (0:Int)) z z z (wl_nil (tn (wp_ret (then_r ?_))))))
 replace hst := hst.objO_nil at_mvcc_Store
 obtain rfl := some_inj hm
 refine post_ret (vs := [Zi]) results24 (rvs_cons (rv_tmp z) rvs_nil) ?_
 exact ⟨z, hst.keep1⟩
}
 {
 replace hst := objO_get hst
 dsimp only [mvcc_Store_Len] at hm
 refine calls_start (args := [p0]) func24 z ntmps24 (Nat.le_of_ble_eq_true z) ?_
 refine wp_seq (wrl (wv (.int .i64 (0:Int)) z z z (wl_nil (tn (wp_seq (wp_seq (wrl (wv (p0) z z z ?_))))))))
 obtain ⟨b42, v43, rfl, hst'⟩ := at_mvcc_Store_open hst
 clear hst
 have hst := hst'
 clear hst'
 refine wv (.bool false) z z (by kernel_rfl) (wl_nil (tn ?_))
 refine wp_iff z ?_
 refine wp_skip (tn (wp_seq (wrl ?_)))
 refine wv (Pt b42 0) z z z (wv (Pt b42 0) z z z (wv (Pt b42 0) z z (x_field z underlying79 z sizeOf77 z) (wv (v43) z z (x_load z isAgg77 (hst.bc0 z)) (wv (.int .i64 ((o0.rows).length : Int)) z z (x_len z underlying77 (hst.nestsv 1 z)) (wv (.int .i64 ((o0.rows).length : Int)) z z z (wl_nil (tn (wp_ret ?_))))))))
 replace hst := hst.pull1.pull1
 replace hst := at_mvcc_Store_close (pv := Pt b42 0) (x := o0) hst z
 replace hst := objO_some hst
 obtain rfl := some_inj hm
 refine post_ret (vs := [I6 ((o0.rows).length : Int)]) results24 (rvs_cons (rv_tmp z) rvs_nil) ?_
 exact ⟨z, hst.keep1⟩
}
}

theorem ref11_last_ref {w0 w : World} {I : HL} {R : SP} {a0 : (List ref11_Version)} {r0_0 : Value} {a1 : Nat} {a2 : Int} (f0_0 : Rd ty_ref11_Version R I r0_0 a0) (hst : St w0 w I [] R) {r : (Int)} (hm : ref11_last a0 a1 a2 = some r) :
  Calls prog 34 #[r0_0, F6 a1, U6 a2] w fun e w' => e = .returned (.int .i64 r) ∧ St w0 w' I [] R := by {
 unfold ref11_last at hm
 refine calls_start (args := [r0_0, F6 a1, U6 a2]) func34 z ntmps34 (Nat.le_of_ble_eq_true z) ?_
 refine wp_seq (wrl (wv (.int .i64 (0:Int)) z z z (wl_nil (tn (wp_seq (wrl (wv (.int .i64 ((-1):Int)) z z z (wl_nil (tn (wp_seq (wp_seq (wrl (wv (.int .i64 (0:Int)) z z z (wl_nil (tn (wp_block ?_))))))))))))))))
 obtain ⟨n277, hm⟩ := loopO_some hm
 refine wp_loop_n (fun n a w => ∃ (z274 : Int) (z275 : Int) (σ276 : Nat → Value), loopN (ref11_last_l0 a0 a1 a2) n (z274, z275) = some r ∧ a = Fr 76 (upd (upd (upd (upd (upd σ276 0 (r0_0)) 1 (.float .f64 a1)) 2 (.int .u64 a2)) 7 (.int .i64 z274)) 8 (.int .i64 z275)) ∧ St w0 w I [] R) n277 ⟨((-1):Int), (0:Int), _, hm, (fu 0 r0_0 z (fu 1 (.float .f64 a1) z (fu 2 (.int .u64 a2) z (fu 7 (.int .i64 ((-1):Int)) z (fu 8 (.int .i64 (0:Int)) z z))))), hst⟩ ?_
 rintro n283 _ w278 ⟨z274, z275, σ276, hm, rfl, hst⟩
 obtain ⟨n280, y281, rfl, hm, hx282⟩ := loopN_some hm
 dsimp only [ref11_last_l0] at hm
 refine wp_seq (wp_seq (wrl (wv (.int .i64 z275) z z z (wv (r0_0) z z z (wv (.int .i64 ((a0).length : Int)) z z (x_len z underlying26 (rd_sliceV f0_0)) (wv (.bool (decide (z275 < ((a0).length : Int)))) z z z (wl_nil (tn ?_))))))))
 refine bsplit (decide (z275 < ((a0).length : Int))) (fun hc284 => ?_) (fun hc284 => ?_)
 {
 replace hm := bif_t hc284 hm
 refine wp_ift (cvb hc284) ?_
 refine wp_skip (tn (wp_seq (wp_block (wp_seq ?_))))
 refine wp_region_St hst 59 [0, 1, 2, 3, 4, 5, 6, 7, 8, 9, 10, 11, 12, 13, 14, 15, 16, 17, 18, 19, 20, 21, 22, 23, 24, 25, 26, 27, 28, 29, 30, 31, 32, 33, 34, 35, 36, 37, 38, 39, 40, 41, 42, 43, 44, 45, 46, 47, 48, 49, 50, 51, 52, 53, 54, 55, 56, 57, 58] [0, 0, 3, 7, 15, 0, 63, 127, 255, 255, 1023, 2047, 4095, 255, 16383, 32767, 65535, 131071, 262143, 524287, 1048575, 1048575, 4194303, 8388607, 16777215, 1048575, 1048575, 101711871, 235929599, 504365055, 1073741823, 2147483647, 4294967295, 8589934591, 8589934591, 34359738367, 68719476735, 137438953471, 8589934591, 8589934591, 833223655423, 1932735283199, 4131758538751, 8796093022207, 17592186044415, 35184372088831, 35184372088831, 140737488355327, 281474976710655, 562949953421311, 35184372088831, 35184372088831, 3412884092616703, 7916483719987199, 16923682974728191, 36028797018963967, 72057594037927935, 144115188075855871, 288230376151711743] [] z (by kernel_rfl) (by kernel_rfl) Try.mixed (by kernel_rfl) ?_
 refine wsr (r0_0) 0 z z z (by kernel_rfl) (fun w hst => z) (wsr (.int .i64 z275) 1 z z z (by kernel_rfl) (fun w hst => z) ?_)
 obtain ⟨x285, hx286, hm⟩ := bind_some hm
 obtain ⟨h287, h288, hi289⟩ := geto_some hx286
 refine wsr (.pointer (some (eAddr r0_0 (z275.toNat * 5 + 0)))) 2 z z z (by kernel_rfl) (fun w hst => x_index z z underlying26 sizeOf67 (rd_sliceV f0_0) h287 h288) (wsr (.pointer (some (eAddr r0_0 (z275.toNat * 5 + 0)))) 3 z z z (by kernel_rfl) (fun w hst => x_field_e z underlying67 z sizeOf23 z) ?_)
 obtain ⟨cs290, hr291, hc292⟩ := Rd.getF f0_0 hi289
 obtain ⟨v293, rfl, f294, -⟩ := hr291
 refine wsr (.float .f64 x285.At) 4 z z z (by kernel_rfl) (fun w hst => x_load z isAgg23 ((hc292 (HL.le.refl _) hst) 0 _ z)) (wsr (.float .f64 a1) 5 z z z (by kernel_rfl) (fun w hst => z) ?_)
 refine ws_e1 6 (by kernel_rfl) ?_
 refine nxe [7, 8, 9, 10, 11, 12, 13, 14, 15, 16, 17, 18, 19, 20, 21, 22, 23, 24, 25, 26, 27, 28, 29, 30, 31, 32, 33, 34, 35, 36, 37, 38, 39, 40, 41, 42, 43, 44, 45, 46, 47, 48, 49, 50, 51, 52, 53, 54, 55, 56, 57, 58] (by kernel_rfl) z z ?_
 clear hst
 intro w hst
 obtain ⟨t296, ht297, hm⟩ := bind_some hm
 refine wec call30 [F6 x285.At, F6 a1] z z ?_
 refine (ref01_Same_ref hst.to0 ht297).mono ?_
 rintro _ w298 ⟨rfl, hst⟩
 refine ⟨_, z, ?_⟩
 replace hst := hst.of0
 refine ws_next (pend' := []) hst (by kernel_rfl) pk_nil ?_
 refine wsr (.bool t296) 7 z z z (by kernel_rfl) (fun w hst => z) ?_
 refine bsplit t296 (fun hc301 => ?_) (fun hc301 => ?_)
 {
 replace hm := bif_t hc301 hm
 refine ws_q (v := r0_0) 8 [9, 10, 11, 12, 13, 14, 15, 16, 17, 18, 19, 20, 21, 22, 23, 24, 25, 26, 27, 28, 29, 30, 31, 32, 33, 34, 35, 36, 37, 38, 39, 40, 41, 42, 43, 44, 45, 46, 47, 48, 49, 50, 51, 52, 53, 54, 55, 56, 57, 58] (by kernel_rfl) z z (yi_run ((wanted_eq z z z (cvb hc301)).trans z) (fun w hst => z)) (ws_q (v := .int .i64 z275) 9 [10, 11, 12, 13, 14, 15, 16, 17, 18, 19, 20, 21, 22, 23, 24, 25, 26, 27, 28, 29, 30, 31, 32, 33, 34, 35, 36, 37, 38, 39, 40, 41, 42, 43, 44, 45, 46, 47, 48, 49, 50, 51, 52, 53, 54, 55, 56, 57, 58] (by kernel_rfl) z z (yi_run ((wanted_eq z z z (cvb hc301)).trans z) (fun w hst => z)) (ws_q (v := .pointer (some (eAddr r0_0 (z275.toNat * 5 + 0)))) 10 [11, 12, 13, 14, 15, 16, 17, 18, 19, 20, 21, 22, 23, 24, 25, 26, 27, 28, 29, 30, 31, 32, 33, 34, 35, 36, 37, 38, 39, 40, 41, 42, 43, 44, 45, 46, 47, 48, 49, 50, 51, 52, 53, 54, 55, 56, 57, 58] (by kernel_rfl) z z (yi_run ((wanted_eq z z z (cvb hc301)).trans z) (fun w hst => x_index z z underlying26 sizeOf67 (rd_sliceV f0_0) h287 h288)) (ws_q (v := .pointer (some (eAddr r0_0 (z275.toNat * 5 + 1)))) 11 [12, 13, 14, 15, 16, 17, 18, 19, 20, 21, 22, 23, 24, 25, 26, 27, 28, 29, 30, 31, 32, 33, 34, 35, 36, 37, 38, 39, 40, 41, 42, 43, 44, 45, 46, 47, 48, 49, 50, 51, 52, 53, 54, 55, 56, 57, 58] (by kernel_rfl) z z (yi_run ((wanted_eq z z z (cvb hc301)).trans z) (fun w hst => x_field_e z underlying67 z sizeOf24 z)) ?_)))
 obtain ⟨cs302, hr303, hc304⟩ := Rd.getF f0_0 hi289
 obtain ⟨v305, rfl, f306, -⟩ := hr303
 refine ws_q (v := .int .u64 x285.Epoch) 12 [13, 14, 15, 16, 17, 18, 19, 20, 21, 22, 23, 24, 25, 26, 27, 28, 29, 30, 31, 32, 33, 34, 35, 36, 37, 38, 39, 40, 41, 42, 43, 44, 45, 46, 47, 48, 49, 50, 51, 52, 53, 54, 55, 56, 57, 58] (by kernel_rfl) z z (yi_run ((wanted_eq z z z (cvb hc301)).trans z) (fun w hst => x_load z isAgg24 ((hc304 (HL.le.refl _) hst) 1 _ z))) (ws_q (v := .int .u64 a2) 13 [14, 15, 16, 17, 18, 19, 20, 21, 22, 23, 24, 25, 26, 27, 28, 29, 30, 31, 32, 33, 34, 35, 36, 37, 38, 39, 40, 41, 42, 43, 44, 45, 46, 47, 48, 49, 50, 51, 52, 53, 54, 55, 56, 57, 58] (by kernel_rfl) z z (yi_run ((wanted_eq z z z (cvb hc301)).trans z) (fun w hst => z)) (ws_q (v := .bool (decide (x285.Epoch ≤ a2))) 14 [15, 16, 17, 18, 19, 20, 21, 22, 23, 24, 25, 26, 27, 28, 29, 30, 31, 32, 33, 34, 35, 36, 37, 38, 39, 40, 41, 42, 43, 44, 45, 46, 47, 48, 49, 50, 51, 52, 53, 54, 55, 56, 57, 58] (by kernel_rfl) z z (yi_run ((wanted_eq z z z (cvb hc301)).trans z) (fun w hst => z)) (wsr (.bool (decide (x285.Epoch ≤ a2))) 15 z z z (by kernel_rfl) (fun w hst => x_pick_t hc301 z z) (wsr (.bool (decide (x285.Epoch ≤ a2))) 16 z z z (by kernel_rfl) (fun w hst => z) ?_))))
 refine bsplit (decide (x285.Epoch ≤ a2)) (fun hc308 => ?_) (fun hc308 => ?_)
 {
 replace hm := bif_t hc308 hm
 refine ws_q (v := .int .i64 z274) 17 [18, 19, 20, 21, 22, 23, 24, 25, 26, 27, 28, 29, 30, 31, 32, 33, 34, 35, 36, 37, 38, 39, 40, 41, 42, 43, 44, 45, 46, 47, 48, 49, 50, 51, 52, 53, 54, 55, 56, 57, 58] (by kernel_rfl) z z (yi_run ((wanted_eq z z z (cvb hc308)).trans z) (fun w hst => z)) (ws_q (v := .bool (decide (z274 < (0:Int)))) 18 [19, 20, 21, 22, 23, 24, 25, 26, 27, 28, 29, 30, 31, 32, 33, 34, 35, 36, 37, 38, 39, 40, 41, 42, 43, 44, 45, 46, 47, 48, 49, 50, 51, 52, 53, 54, 55, 56, 57, 58] (by kernel_rfl) z z (yi_run ((wanted_eq z z z (cvb hc308)).trans z) (fun w hst => z)) (ws_q (v := .bool (decide (z274 < (0:Int)))) 19 [20, 21, 22, 23, 24, 25, 26, 27, 28, 29, 30, 31, 32, 33, 34, 35, 36, 37, 38, 39, 40, 41, 42, 43, 44, 45, 46, 47, 48, 49, 50, 51, 52, 53, 54, 55, 56, 57, 58] (by kernel_rfl) z z (yi_run ((wanted_eq z z z (cvb hc308)).trans z) (fun w hst => z)) ?_))
 refine bsplit (decide (z274 < (0:Int))) (fun hc309 => ?_) (fun hc309 => ?_)
 {
 replace hm := bif_t hc309 hm
 refine ws_q (v := undef) 20 [21, 22, 23, 24, 25, 26, 27, 28, 29, 30, 31, 32, 33, 34, 35, 36, 37, 38, 39, 40, 41, 42, 43, 44, 45, 46, 47, 48, 49, 50, 51, 52, 53, 54, 55, 56, 57, 58] (by kernel_rfl) z z (yi_off ((wanted_eq z z z (cvb hc309)).trans z)) (ws_q (v := undef) 21 [22, 23, 24, 25, 26, 27, 28, 29, 30, 31, 32, 33, 34, 35, 36, 37, 38, 39, 40, 41, 42, 43, 44, 45, 46, 47, 48, 49, 50, 51, 52, 53, 54, 55, 56, 57, 58] (by kernel_rfl) z z (yi_off ((wanted_eq z z z (cvb hc309)).trans z)) (ws_q (v := undef) 22 [23, 24, 25, 26, 27, 28, 29, 30, 31, 32, 33, 34, 35, 36, 37, 38, 39, 40, 41, 42, 43, 44, 45, 46, 47, 48, 49, 50, 51, 52, 53, 54, 55, 56, 57, 58] (by kernel_rfl) z z (yi_off ((wanted_eq z z z (cvb hc309)).trans z)) (ws_q (v := undef) 23 [24, 25, 26, 27, 28, 29, 30, 31, 32, 33, 34, 35, 36, 37, 38, 39, 40, 41, 42, 43, 44, 45, 46, 47, 48, 49, 50, 51, 52, 53, 54, 55, 56, 57, 58] (by kernel_rfl) z z (yi_off ((wanted_eq z z z (cvb hc309)).trans z)) (ws_q (v := undef) 24 [25, 26, 27, 28, 29, 30, 31, 32, 33, 34, 35, 36, 37, 38, 39, 40, 41, 42, 43, 44, 45, 46, 47, 48, 49, 50, 51, 52, 53, 54, 55, 56, 57, 58] (by kernel_rfl) z z (yi_off ((wanted_eq z z z (cvb hc309)).trans z)) (ws_q (v := undef) 25 [26, 27, 28, 29, 30, 31, 32, 33, 34, 35, 36, 37, 38, 39, 40, 41, 42, 43, 44, 45, 46, 47, 48, 49, 50, 51, 52, 53, 54, 55, 56, 57, 58] (by kernel_rfl) z z (yi_off ((wanted_eq z z z (cvb hc309)).trans z)) (ws_q (v := undef) 26 [27, 28, 29, 30, 31, 32, 33, 34, 35, 36, 37, 38, 39, 40, 41, 42, 43, 44, 45, 46, 47, 48, 49, 50, 51, 52, 53, 54, 55, 56, 57, 58] (by kernel_rfl) z z (yi_off ((wanted_eq z z z (cvb hc309)).trans z)) (ws_q (v := undef) 27 [28, 29, 30, 31, 32, 33, 34, 35, 36, 37, 38, 39, 40, 41, 42, 43, 44, 45, 46, 47, 48, 49, 50, 51, 52, 53, 54, 55, 56, 57, 58] (by kernel_rfl) z z (yi_off ((wanted_eq z z z (cvb hc309)).trans z)) (ws_q (v := undef) 28 [29, 30, 31, 32, 33, 34, 35, 36, 37, 38, 39, 40, 41, 42, 43, 44, 45, 46, 47, 48, 49, 50, 51, 52, 53, 54, 55, 56, 57, 58] (by kernel_rfl) z z (yi_off ((wanted_eq z z z (cvb hc309)).trans z)) (ws_q (v := undef) 29 [30, 31, 32, 33, 34, 35, 36, 37, 38, 39, 40, 41, 42, 43, 44, 45, 46, 47, 48, 49, 50, 51, 52, 53, 54, 55, 56, 57, 58] (by kernel_rfl) z z (yi_off ((wanted_eq z z z (cvb hc309)).trans z)) (ws_q (v := undef) 30 [31, 32, 33, 34, 35, 36, 37, 38, 39, 40, 41, 42, 43, 44, 45, 46, 47, 48, 49, 50, 51, 52, 53, 54, 55, 56, 57, 58] (by kernel_rfl) z z (yi_off ((wanted_eq z z z (cvb hc309)).trans z)) (ws_q (v := .bool true) 31 [32, 33, 34, 35, 36, 37, 38, 39, 40, 41, 42, 43, 44, 45, 46, 47, 48, 49, 50, 51, 52, 53, 54, 55, 56, 57, 58] (by kernel_rfl) z z (yi_run ((wanted_eq z z z (cvb hc308)).trans z) (fun w hst => x_pick_t hc309 z z)) (ws_q (v := .bool true) 32 [33, 34, 35, 36, 37, 38, 39, 40, 41, 42, 43, 44, 45, 46, 47, 48, 49, 50, 51, 52, 53, 54, 55, 56, 57, 58] (by kernel_rfl) z z (yi_run ((wanted_eq z z z (cvb hc308)).trans z) (fun w hst => z)) ?_))))))))))))
 refine ws_q (v := undef) 33 [34, 35, 36, 37, 38, 39, 40, 41, 42, 43, 44, 45, 46, 47, 48, 49, 50, 51, 52, 53, 54, 55, 56, 57, 58] (by kernel_rfl) z z (yi_off ((wanted_eq z z z z).trans z)) (ws_q (v := undef) 34 [35, 36, 37, 38, 39, 40, 41, 42, 43, 44, 45, 46, 47, 48, 49, 50, 51, 52, 53, 54, 55, 56, 57, 58] (by kernel_rfl) z z (yi_off ((wanted_eq z z z z).trans z)) (ws_q (v := undef) 35 [36, 37, 38, 39, 40, 41, 42, 43, 44, 45, 46, 47, 48, 49, 50, 51, 52, 53, 54, 55, 56, 57, 58] (by kernel_rfl) z z (yi_off ((wanted_eq z z z z).trans z)) (ws_q (v := undef) 36 [37, 38, 39, 40, 41, 42, 43, 44, 45, 46, 47, 48, 49, 50, 51, 52, 53, 54, 55, 56, 57, 58] (by kernel_rfl) z z (yi_off ((wanted_eq z z z z).trans z)) (ws_q (v := undef) 37 [38, 39, 40, 41, 42, 43, 44, 45, 46, 47, 48, 49, 50, 51, 52, 53, 54, 55, 56, 57, 58] (by kernel_rfl) z z (yi_off ((wanted_eq z z z z).trans z)) (ws_q (v := undef) 38 [39, 40, 41, 42, 43, 44, 45, 46, 47, 48, 49, 50, 51, 52, 53, 54, 55, 56, 57, 58] (by kernel_rfl) z z (yi_off ((wanted_eq z z z z).trans z)) (ws_q (v := undef) 39 [40, 41, 42, 43, 44, 45, 46, 47, 48, 49, 50, 51, 52, 53, 54, 55, 56, 57, 58] (by kernel_rfl) z z (yi_off ((wanted_eq z z z z).trans z)) (ws_q (v := undef) 40 [41, 42, 43, 44, 45, 46, 47, 48, 49, 50, 51, 52, 53, 54, 55, 56, 57, 58] (by kernel_rfl) z z (yi_off ((wanted_eq z z z z).trans z)) (ws_q (v := undef) 41 [42, 43, 44, 45, 46, 47, 48, 49, 50, 51, 52, 53, 54, 55, 56, 57, 58] (by kernel_rfl) z z (yi_off ((wanted_eq z z z z).trans z)) (ws_q (v := undef) 42 [43, 44, 45, 46, 47, 48, 49, 50, 51, 52, 53, 54, 55, 56, 57, 58] (by kernel_rfl) z z (yi_off ((wanted_eq z z z z).trans z)) (ws_q (v := undef) 43 [44, 45, 46, 47, 48, 49, 50, 51, 52, 53, 54, 55, 56, 57, 58] (by kernel_rfl) z z (yi_off ((wanted_eq z z z z).trans z)) (ws_q (v := undef) 44 [45, 46, 47, 48, 49, 50, 51, 52, 53, 54, 55, 56, 57, 58] (by kernel_rfl) z z (yi_off ((wanted_eq z z z z).trans z)) (ws_q (v := undef) 45 [46, 47, 48, 49, 50, 51, 52, 53, 54, 55, 56, 57, 58] (by kernel_rfl) z z (yi_off (wanted_undef z z z z)) ?_))))))))))))
 refine ws_q (v := undef) 46 [47, 48, 49, 50, 51, 52, 53, 54, 55, 56, 57, 58] (by kernel_rfl) z z (yi_off (wanted_undef z z z z)) (ws_q (v := undef) 47 [48, 49, 50, 51, 52, 53, 54, 55, 56, 57, 58] (by kernel_rfl) z z (yi_off (wanted_undef z z z z)) (ws_q (v := undef) 48 [49, 50, 51, 52, 53, 54, 55, 56, 57, 58] (by kernel_rfl) z z (yi_off (wanted_undef z z z z)) (ws_q (v := undef) 49 [50, 51, 52, 53, 54, 55, 56, 57, 58] (by kernel_rfl) z z (yi_off (wanted_undef z z z z)) (ws_q (v := undef) 50 [51, 52, 53, 54, 55, 56, 57, 58] (by kernel_rfl) z z (yi_off (wanted_undef z z z z)) (ws_q (v := undef) 51 [52, 53, 54, 55, 56, 57, 58] (by kernel_rfl) z z (yi_off (wanted_undef z z z z)) (ws_q (v := undef) 52 [53, 54, 55, 56, 57, 58] (by kernel_rfl) z z (yi_off (wanted_undef z z z z)) (ws_q (v := undef) 53 [54, 55, 56, 57, 58] (by kernel_rfl) z z (yi_off (wanted_undef z z z z)) (ws_q (v := undef) 54 [55, 56, 57, 58] (by kernel_rfl) z z (yi_off (wanted_undef z z z z)) (ws_q (v := undef) 55 [56, 57, 58] (by kernel_rfl) z z (yi_off (wanted_undef z z z z)) (ws_q (v := undef) 56 [57, 58] (by kernel_rfl) z z (yi_off ((wanted_eq z z z z).trans z)) (ws_q (v := .bool true) 57 [58] (by kernel_rfl) z z (yi_run ((wanted_eq z z z (cvb hc308)).trans z) (fun w hst => x_pick_t z z z)) (wsr (.bool true) 58 z z z (by kernel_rfl) (fun w hst => x_pick_t hc308 z z) ?_))))))))))))
 refine ws_nil ?_
 intro w hst
 refine tn ?_
 refine wp_ift z ?_
 refine wrl (wv (.int .i64 z275) z z z (wv (.int .i64 z275) z z z (wl_nil (blk_n (tn (wrl (wv (.int .i64 z275) z z z (wv (.int .i64 (i64.wrap (z275 + (1:Int)))) z z z (wv (.int .i64 (i64.wrap (z275 + (1:Int)))) z z z (wl_nil (tn ?_)))))))))))
 replace hst := hst.keep0
 obtain rfl := some_inj hm
 exact ⟨_, Nat.lt_succ_self _, z275, (i64.wrap (z275 + (1:Int))), _, hx282, (fu 0 r0_0 z (fu 1 (.float .f64 a1) z (fu 2 (.int .u64 a2) z (fu 7 (.int .i64 z275) z (fu 8 (.int .i64 (i64.wrap (z275 + (1:Int)))) z z))))), hst⟩
}
 {
 replace hm := bif_f hc309 hm
 refine ws_q (v := r0_0) 20 [21, 22, 23, 24, 25, 26, 27, 28, 29, 30, 31, 32, 33, 34, 35, 36, 37, 38, 39, 40, 41, 42, 43, 44, 45, 46, 47, 48, 49, 50, 51, 52, 53, 54, 55, 56, 57, 58] (by kernel_rfl) z z (yi_run ((wanted_eq z z z (cvb hc309)).trans z) (fun w hst => z)) (ws_q (v := .int .i64 z274) 21 [22, 23, 24, 25, 26, 27, 28, 29, 30, 31, 32, 33, 34, 35, 36, 37, 38, 39, 40, 41, 42, 43, 44, 45, 46, 47, 48, 49, 50, 51, 52, 53, 54, 55, 56, 57, 58] (by kernel_rfl) z z (yi_run ((wanted_eq z z z (cvb hc309)).trans z) (fun w hst => z)) ?_)
 obtain ⟨x310, hx311, hm⟩ := bind_some hm
 obtain ⟨h312, h313, hi314⟩ := geto_some hx311
 refine ws_q (v := .pointer (some (eAddr r0_0 (z274.toNat * 5 + 0)))) 22 [23, 24, 25, 26, 27, 28, 29, 30, 31, 32, 33, 34, 35, 36, 37, 38, 39, 40, 41, 42, 43, 44, 45, 46, 47, 48, 49, 50, 51, 52, 53, 54, 55, 56, 57, 58] (by kernel_rfl) z z (yi_run ((wanted_eq z z z (cvb hc309)).trans z) (fun w hst => x_index z z underlying26 sizeOf67 (rd_sliceV f0_0) h312 h313)) (ws_q (v := .pointer (some (eAddr r0_0 (z274.toNat * 5 + 1)))) 23 [24, 25, 26, 27, 28, 29, 30, 31, 32, 33, 34, 35, 36, 37, 38, 39, 40, 41, 42, 43, 44, 45, 46, 47, 48, 49, 50, 51, 52, 53, 54, 55, 56, 57, 58] (by kernel_rfl) z z (yi_run ((wanted_eq z z z (cvb hc309)).trans z) (fun w hst => x_field_e z underlying67 z sizeOf24 z)) ?_)
 obtain ⟨cs315, hr316, hc317⟩ := Rd.getF f0_0 hi314
 obtain ⟨v318, rfl, f319, -⟩ := hr316
 refine ws_q (v := .int .u64 x310.Epoch) 24 [25, 26, 27, 28, 29, 30, 31, 32, 33, 34, 35, 36, 37, 38, 39, 40, 41, 42, 43, 44, 45, 46, 47, 48, 49, 50, 51, 52, 53, 54, 55, 56, 57, 58] (by kernel_rfl) z z (yi_run ((wanted_eq z z z (cvb hc309)).trans z) (fun w hst => x_load z isAgg24 ((hc317 (HL.le.refl _) hst) 1 _ z))) (ws_q (v := r0_0) 25 [26, 27, 28, 29, 30, 31, 32, 33, 34, 35, 36, 37, 38, 39, 40, 41, 42, 43, 44, 45, 46, 47, 48, 49, 50, 51, 52, 53, 54, 55, 56, 57, 58] (by kernel_rfl) z z (yi_run ((wanted_eq z z z (cvb hc309)).trans z) (fun w hst => z)) (ws_q (v := .int .i64 z275) 26 [27, 28, 29, 30, 31, 32, 33, 34, 35, 36, 37, 38, 39, 40, 41, 42, 43, 44, 45, 46, 47, 48, 49, 50, 51, 52, 53, 54, 55, 56, 57, 58] (by kernel_rfl) z z (yi_run ((wanted_eq z z z (cvb hc309)).trans z) (fun w hst => z)) (ws_q (v := .pointer (some (eAddr r0_0 (z275.toNat * 5 + 0)))) 27 [28, 29, 30, 31, 32, 33, 34, 35, 36, 37, 38, 39, 40, 41, 42, 43, 44, 45, 46, 47, 48, 49, 50, 51, 52, 53, 54, 55, 56, 57, 58] (by kernel_rfl) z z (yi_run ((wanted_eq z z z (cvb hc309)).trans z) (fun w hst => x_index z z underlying26 sizeOf67 (rd_sliceV f0_0) h287 h288)) (ws_q (v := .pointer (some (eAddr r0_0 (z275.toNat * 5 + 1)))) 28 [29, 30, 31, 32, 33, 34, 35, 36, 37, 38, 39, 40, 41, 42, 43, 44, 45, 46, 47, 48, 49, 50, 51, 52, 53, 54, 55, 56, 57, 58] (by kernel_rfl) z z (yi_run ((wanted_eq z z z (cvb hc309)).trans z) (fun w hst => x_field_e z underlying67 z sizeOf24 z)) (ws_q (v := .int .u64 x285.Epoch) 29 [30, 31, 32, 33, 34, 35, 36, 37, 38, 39, 40, 41, 42, 43, 44, 45, 46, 47, 48, 49, 50, 51, 52, 53, 54, 55, 56, 57, 58] (by kernel_rfl) z z (yi_run ((wanted_eq z z z (cvb hc309)).trans z) (fun w hst => x_load z isAgg24 ((hc304 (HL.le.refl _) hst) 1 _ z))) (ws_q (v := .bool (decide (x310.Epoch < x285.Epoch))) 30 [31, 32, 33, 34, 35, 36, 37, 38, 39, 40, 41, 42, 43, 44, 45, 46, 47, 48, 49, 50, 51, 52, 53, 54, 55, 56, 57, 58] (by kernel_rfl) z z (yi_run ((wanted_eq z z z (cvb hc309)).trans z) (fun w hst => z)) (ws_q (v := .bool (decide (x310.Epoch < x285.Epoch))) 31 [32, 33, 34, 35, 36, 37, 38, 39, 40, 41, 42, 43, 44, 45, 46, 47, 48, 49, 50, 51, 52, 53, 54, 55, 56, 57, 58] (by kernel_rfl) z z (yi_run ((wanted_eq z z z (cvb hc308)).trans z) (fun w hst => x_pick_f hc309 z z)) (ws_q (v := .bool (decide (x310.Epoch < x285.Epoch))) 32 [33, 34, 35, 36, 37, 38, 39, 40, 41, 42, 43, 44, 45, 46, 47, 48, 49, 50, 51, 52, 53, 54, 55, 56, 57, 58] (by kernel_rfl) z z (yi_run ((wanted_eq z z z (cvb hc308)).trans z) (fun w hst => z)) ?_))))))))
 refine bsplit (decide (x310.Epoch < x285.Epoch)) (fun hc321 => ?_) (fun hc321 => ?_)
 {
 replace hm := bif_t hc321 hm
 refine ws_q (v := undef) 33 [34, 35, 36, 37, 38, 39, 40, 41, 42, 43, 44, 45, 46, 47, 48, 49, 50, 51, 52, 53, 54, 55, 56, 57, 58] (by kernel_rfl) z z (yi_off ((wanted_eq z z z (cvb hc321)).trans z)) (ws_q (v := undef) 34 [35, 36, 37, 38, 39, 40, 41, 42, 43, 44, 45, 46, 47, 48, 49, 50, 51, 52, 53, 54, 55, 56, 57, 58] (by kernel_rfl) z z (yi_off ((wanted_eq z z z (cvb hc321)).trans z)) (ws_q (v := undef) 35 [36, 37, 38, 39, 40, 41, 42, 43, 44, 45, 46, 47, 48, 49, 50, 51, 52, 53, 54, 55, 56, 57, 58] (by kernel_rfl) z z (yi_off ((wanted_eq z z z (cvb hc321)).trans z)) (ws_q (v := undef) 36 [37, 38, 39, 40, 41, 42, 43, 44, 45, 46, 47, 48, 49, 50, 51, 52, 53, 54, 55, 56, 57, 58] (by kernel_rfl) z z (yi_off ((wanted_eq z z z (cvb hc321)).trans z)) (ws_q (v := undef) 37 [38, 39, 40, 41, 42, 43, 44, 45, 46, 47, 48, 49, 50, 51, 52, 53, 54, 55, 56, 57, 58] (by kernel_rfl) z z (yi_off ((wanted_eq z z z (cvb hc321)).trans z)) (ws_q (v := undef) 38 [39, 40, 41, 42, 43, 44, 45, 46, 47, 48, 49, 50, 51, 52, 53, 54, 55, 56, 57, 58] (by kernel_rfl) z z (yi_off ((wanted_eq z z z (cvb hc321)).trans z)) (ws_q (v := undef) 39 [40, 41, 42, 43, 44, 45, 46, 47, 48, 49, 50, 51, 52, 53, 54, 55, 56, 57, 58] (by kernel_rfl) z z (yi_off ((wanted_eq z z z (cvb hc321)).trans z)) (ws_q (v := undef) 40 [41, 42, 43, 44, 45, 46, 47, 48, 49, 50, 51, 52, 53, 54, 55, 56, 57, 58] (by kernel_rfl) z z (yi_off ((wanted_eq z z z (cvb hc321)).trans z)) (ws_q (v := undef) 41 [42, 43, 44, 45, 46, 47, 48, 49, 50, 51, 52, 53, 54, 55, 56, 57, 58] (by kernel_rfl) z z (yi_off ((wanted_eq z z z (cvb hc321)).trans z)) (ws_q (v := undef) 42 [43, 44, 45, 46, 47, 48, 49, 50, 51, 52, 53, 54, 55, 56, 57, 58] (by kernel_rfl) z z (yi_off ((wanted_eq z z z (cvb hc321)).trans z)) (ws_q (v := undef) 43 [44, 45, 46, 47, 48, 49, 50, 51, 52, 53, 54, 55, 56, 57, 58] (by kernel_rfl) z z (yi_off ((wanted_eq z z z (cvb hc321)).trans z)) (ws_q (v := undef) 44 [45, 46, 47, 48, 49, 50, 51, 52, 53, 54, 55, 56, 57, 58] (by kernel_rfl) z z (yi_off ((wanted_eq z z z (cvb hc321)).trans z)) (ws_q (v := undef) 45 [46, 47, 48, 49, 50, 51, 52, 53, 54, 55, 56, 57, 58] (by kernel_rfl) z z (yi_off (wanted_undef z z z z)) ?_))))))))))))
 refine ws_q (v := undef) 46 [47, 48, 49, 50, 51, 52, 53, 54, 55, 56, 57, 58] (by kernel_rfl) z z (yi_off (wanted_undef z z z z)) (ws_q (v := undef) 47 [48, 49, 50, 51, 52, 53, 54, 55, 56, 57, 58] (by kernel_rfl) z z (yi_off (wanted_undef z z z z)) (ws_q (v := undef) 48 [49, 50, 51, 52, 53, 54, 55, 56, 57, 58] (by kernel_rfl) z z (yi_off (wanted_undef z z z z)) (ws_q (v := undef) 49 [50, 51, 52, 53, 54, 55, 56, 57, 58] (by kernel_rfl) z z (yi_off (wanted_undef z z z z)) (ws_q (v := undef) 50 [51, 52, 53, 54, 55, 56, 57, 58] (by kernel_rfl) z z (yi_off (wanted_undef z z z z)) (ws_q (v := undef) 51 [52, 53, 54, 55, 56, 57, 58] (by kernel_rfl) z z (yi_off (wanted_undef z z z z)) (ws_q (v := undef) 52 [53, 54, 55, 56, 57, 58] (by kernel_rfl) z z (yi_off (wanted_undef z z z z)) (ws_q (v := undef) 53 [54, 55, 56, 57, 58] (by kernel_rfl) z z (yi_off (wanted_undef z z z z)) (ws_q (v := undef) 54 [55, 56, 57, 58] (by kernel_rfl) z z (yi_off (wanted_undef z z z z)) (ws_q (v := undef) 55 [56, 57, 58] (by kernel_rfl) z z (yi_off (wanted_undef z z z z)) (ws_q (v := undef) 56 [57, 58] (by kernel_rfl) z z (yi_off ((wanted_eq z z z (cvb hc321)).trans z)) (ws_q (v := .bool true) 57 [58] (by kernel_rfl) z z (yi_run ((wanted_eq z z z (cvb hc308)).trans z) (fun w hst => x_pick_t hc321 z z)) (wsr (.bool true) 58 z z z (by kernel_rfl) (fun w hst => x_pick_t hc308 z z) ?_))))))))))))
 refine ws_nil ?_
 intro w hst
 refine tn ?_
 refine wp_ift z ?_
 refine wrl (wv (.int .i64 z275) z z z (wv (.int .i64 z275) z z z (wl_nil (blk_n (tn (wrl (wv (.int .i64 z275) z z z (wv (.int .i64 (i64.wrap (z275 + (1:Int)))) z z z (wv (.int .i64 (i64.wrap (z275 + (1:Int)))) z z z (wl_nil (tn ?_)))))))))))
 replace hst := hst.keep0
 obtain rfl := some_inj hm
 exact ⟨_, Nat.lt_succ_self _, z275, (i64.wrap (z275 + (1:Int))), _, hx282, (fu 0 r0_0 z (fu 1 (.float .f64 a1) z (fu 2 (.int .u64 a2) z (fu 7 (.int .i64 z275) z (fu 8 (.int .i64 (i64.wrap (z275 + (1:Int)))) z z))))), hst⟩
}
 {
 replace hm := bif_f hc321 hm
 refine ws_q (v := r0_0) 33 [34, 35, 36, 37, 38, 39, 40, 41, 42, 43, 44, 45, 46, 47, 48, 49, 50, 51, 52, 53, 54, 55, 56, 57, 58] (by kernel_rfl) z z (yi_run ((wanted_eq z z z (cvb hc321)).trans z) (fun w hst => z)) (ws_q (v := .int .i64 z274) 34 [35, 36, 37, 38, 39, 40, 41, 42, 43, 44, 45, 46, 47, 48, 49, 50, 51, 52, 53, 54, 55, 56, 57, 58] (by kernel_rfl) z z (yi_run ((wanted_eq z z z (cvb hc321)).trans z) (fun w hst => z)) (ws_q (v := .pointer (some (eAddr r0_0 (z274.toNat * 5 + 0)))) 35 [36, 37, 38, 39, 40, 41, 42, 43, 44, 45, 46, 47, 48, 49, 50, 51, 52, 53, 54, 55, 56, 57, 58] (by kernel_rfl) z z (yi_run ((wanted_eq z z z (cvb hc321)).trans z) (fun w hst => x_index z z underlying26 sizeOf67 (rd_sliceV f0_0) h312 h313)) (ws_q (v := .pointer (some (eAddr r0_0 (z274.toNat * 5 + 1)))) 36 [37, 38, 39, 40, 41, 42, 43, 44, 45, 46, 47, 48, 49, 50, 51, 52, 53, 54, 55, 56, 57, 58] (by kernel_rfl) z z (yi_run ((wanted_eq z z z (cvb hc321)).trans z) (fun w hst => x_field_e z underlying67 z sizeOf24 z)) (ws_q (v := .int .u64 x310.Epoch) 37 [38, 39, 40, 41, 42, 43, 44, 45, 46, 47, 48, 49, 50, 51, 52, 53, 54, 55, 56, 57, 58] (by kernel_rfl) z z (yi_run ((wanted_eq z z z (cvb hc321)).trans z) (fun w hst => x_load z isAgg24 ((hc317 (HL.le.refl _) hst) 1 _ z))) (ws_q (v := r0_0) 38 [39, 40, 41, 42, 43, 44, 45, 46, 47, 48, 49, 50, 51, 52, 53, 54, 55, 56, 57, 58] (by kernel_rfl) z z (yi_run ((wanted_eq z z z (cvb hc321)).trans z) (fun w hst => z)) (ws_q (v := .int .i64 z275) 39 [40, 41, 42, 43, 44, 45, 46, 47, 48, 49, 50, 51, 52, 53, 54, 55, 56, 57, 58] (by kernel_rfl) z z (yi_run ((wanted_eq z z z (cvb hc321)).trans z) (fun w hst => z)) (ws_q (v := .pointer (some (eAddr r0_0 (z275.toNat * 5 + 0)))) 40 [41, 42, 43, 44, 45, 46, 47, 48, 49, 50, 51, 52, 53, 54, 55, 56, 57, 58] (by kernel_rfl) z z (yi_run ((wanted_eq z z z (cvb hc321)).trans z) (fun w hst => x_index z z underlying26 sizeOf67 (rd_sliceV f0_0) h287 h288)) (ws_q (v := .pointer (some (eAddr r0_0 (z275.toNat * 5 + 1)))) 41 [42, 43, 44, 45, 46, 47, 48, 49, 50, 51, 52, 53, 54, 55, 56, 57, 58] (by kernel_rfl) z z (yi_run ((wanted_eq z z z (cvb hc321)).trans z) (fun w hst => x_field_e z underlying67 z sizeOf24 z)) (ws_q (v := .int .u64 x285.Epoch) 42 [43, 44, 45, 46, 47, 48, 49, 50, 51, 52, 53, 54, 55, 56, 57, 58] (by kernel_rfl) z z (yi_run ((wanted_eq z z z (cvb hc321)).trans z) (fun w hst => x_load z isAgg24 ((hc304 (HL.le.refl _) hst) 1 _ z))) (ws_q (v := .bool (x310.Epoch == x285.Epoch)) 43 [44, 45, 46, 47, 48, 49, 50, 51, 52, 53, 54, 55, 56, 57, 58] (by kernel_rfl) z z (yi_run ((wanted_eq z z z (cvb hc321)).trans z) (fun w hst => z)) (ws_q (v := .bool (x310.Epoch == x285.Epoch)) 44 [45, 46, 47, 48, 49, 50, 51, 52, 53, 54, 55, 56, 57, 58] (by kernel_rfl) z z (yi_run ((wanted_eq z z z (cvb hc321)).trans z) (fun w hst => z)) ?_)))))))))))
 refine bsplit (x310.Epoch == x285.Epoch) (fun hc322 => ?_) (fun hc322 => ?_)
 {
 replace hm := bif_t hc322 hm
 refine ws_q (v := r0_0) 45 [46, 47, 48, 49, 50, 51, 52, 53, 54, 55, 56, 57, 58] (by kernel_rfl) z z (yi_run ((wanted_eq z z z (cvb hc322)).trans z) (fun w hst => z)) (ws_q (v := .int .i64 z274) 46 [47, 48, 49, 50, 51, 52, 53, 54, 55, 56, 57, 58] (by kernel_rfl) z z (yi_run ((wanted_eq z z z (cvb hc322)).trans z) (fun w hst => z)) (ws_q (v := .pointer (some (eAddr r0_0 (z274.toNat * 5 + 0)))) 47 [48, 49, 50, 51, 52, 53, 54, 55, 56, 57, 58] (by kernel_rfl) z z (yi_run ((wanted_eq z z z (cvb hc322)).trans z) (fun w hst => x_index z z underlying26 sizeOf67 (rd_sliceV f0_0) h312 h313)) (ws_q (v := .pointer (some (eAddr r0_0 (z274.toNat * 5 + 2)))) 48 [49, 50, 51, 52, 53, 54, 55, 56, 57, 58] (by kernel_rfl) z z (yi_run ((wanted_eq z z z (cvb hc322)).trans z) (fun w hst => x_field_e z underlying67 z sizeOf24 z)) (ws_q (v := .int .u64 x310.Index) 49 [50, 51, 52, 53, 54, 55, 56, 57, 58] (by kernel_rfl) z z (yi_run ((wanted_eq z z z (cvb hc322)).trans z) (fun w hst => x_load z isAgg24 ((hc317 (HL.le.refl _) hst) 2 _ z))) (ws_q (v := r0_0) 50 [51, 52, 53, 54, 55, 56, 57, 58] (by kernel_rfl) z z (yi_run ((wanted_eq z z z (cvb hc322)).trans z) (fun w hst => z)) (ws_q (v := .int .i64 z275) 51 [52, 53, 54, 55, 56, 57, 58] (by kernel_rfl) z z (yi_run ((wanted_eq z z z (cvb hc322)).trans z) (fun w hst => z)) (ws_q (v := .pointer (some (eAddr r0_0 (z275.toNat * 5 + 0)))) 52 [53, 54, 55, 56, 57, 58] (by kernel_rfl) z z (yi_run ((wanted_eq z z z (cvb hc322)).trans z) (fun w hst => x_index z z underlying26 sizeOf67 (rd_sliceV f0_0) h287 h288)) (ws_q (v := .pointer (some (eAddr r0_0 (z275.toNat * 5 + 2)))) 53 [54, 55, 56, 57, 58] (by kernel_rfl) z z (yi_run ((wanted_eq z z z (cvb hc322)).trans z) (fun w hst => x_field_e z underlying67 z sizeOf24 z)) (ws_q (v := .int .u64 x285.Index) 54 [55, 56, 57, 58] (by kernel_rfl) z z (yi_run ((wanted_eq z z z (cvb hc322)).trans z) (fun w hst => x_load z isAgg24 ((hc304 (HL.le.refl _) hst) 2 _ z))) (ws_q (v := .bool (decide (x310.Index < x285.Index))) 55 [56, 57, 58] (by kernel_rfl) z z (yi_run ((wanted_eq z z z (cvb hc322)).trans z) (fun w hst => z)) (ws_q (v := .bool (decide (x310.Index < x285.Index))) 56 [57, 58] (by kernel_rfl) z z (yi_run ((wanted_eq z z z (cvb hc321)).trans z) (fun w hst => x_pick_t hc322 z z)) (ws_q (v := .bool (decide (x310.Index < x285.Index))) 57 [58] (by kernel_rfl) z z (yi_run ((wanted_eq z z z (cvb hc308)).trans z) (fun w hst => x_pick_f hc321 z z)) ?_))))))))))))
 refine wsr (.bool (decide (x310.Index < x285.Index))) 58 z z z (by kernel_rfl) (fun w hst => x_pick_t hc308 z z) ?_
 refine ws_nil ?_
 intro w hst
 refine tn ?_
 refine bsplit (decide (x310.Index < x285.Index)) (fun hc323 => ?_) (fun hc323 => ?_)
 {
 replace hm := bif_t hc323 hm
 refine wp_ift (cvb hc323) ?_
 refine wrl (wv (.int .i64 z275) z z z (wv (.int .i64 z275) z z z (wl_nil (blk_n (tn (wrl (wv (.int .i64 z275) z z z (wv (.int .i64 (i64.wrap (z275 + (1:Int)))) z z z (wv (.int .i64 (i64.wrap (z275 + (1:Int)))) z z z (wl_nil (tn ?_)))))))))))
 replace hst := hst.keep0
 obtain rfl := some_inj hm
 exact ⟨_, Nat.lt_succ_self _, z275, (i64.wrap (z275 + (1:Int))), _, hx282, (fu 0 r0_0 z (fu 1 (.float .f64 a1) z (fu 2 (.int .u64 a2) z (fu 7 (.int .i64 z275) z (fu 8 (.int .i64 (i64.wrap (z275 + (1:Int)))) z z))))), hst⟩
}
 {
 replace hm := bif_f hc323 hm
 refine wp_iff (cvb hc323) ?_
 refine wp_skip (blk_n (tn (wrl ?_)))
 refine wv (.int .i64 z275) z z z (wv (.int .i64 (i64.wrap (z275 + (1:Int)))) z z z (wv (.int .i64 (i64.wrap (z275 + (1:Int)))) z z z (wl_nil (tn ?_))))
 replace hst := hst.keep0
 obtain rfl := some_inj hm
 exact ⟨_, Nat.lt_succ_self _, z274, (i64.wrap (z275 + (1:Int))), _, hx282, (fu 0 r0_0 z (fu 1 (.float .f64 a1) z (fu 2 (.int .u64 a2) z (fu 7 (.int .i64 z274) z (fu 8 (.int .i64 (i64.wrap (z275 + (1:Int)))) z z))))), hst⟩
}
}
 {
 replace hm := bif_f hc322 hm
 refine ws_q (v := undef) 45 [46, 47, 48, 49, 50, 51, 52, 53, 54, 55, 56, 57, 58] (by kernel_rfl) z z (yi_off ((wanted_eq z z z (cvb hc322)).trans z)) (ws_q (v := undef) 46 [47, 48, 49, 50, 51, 52, 53, 54, 55, 56, 57, 58] (by kernel_rfl) z z (yi_off ((wanted_eq z z z (cvb hc322)).trans z)) (ws_q (v := undef) 47 [48, 49, 50, 51, 52, 53, 54, 55, 56, 57, 58] (by kernel_rfl) z z (yi_off ((wanted_eq z z z (cvb hc322)).trans z)) (ws_q (v := undef) 48 [49, 50, 51, 52, 53, 54, 55, 56, 57, 58] (by kernel_rfl) z z (yi_off ((wanted_eq z z z (cvb hc322)).trans z)) (ws_q (v := undef) 49 [50, 51, 52, 53, 54, 55, 56, 57, 58] (by kernel_rfl) z z (yi_off ((wanted_eq z z z (cvb hc322)).trans z)) (ws_q (v := undef) 50 [51, 52, 53, 54, 55, 56, 57, 58] (by kernel_rfl) z z (yi_off ((wanted_eq z z z (cvb hc322)).trans z)) (ws_q (v := undef) 51 [52, 53, 54, 55, 56, 57, 58] (by kernel_rfl) z z (yi_off ((wanted_eq z z z (cvb hc322)).trans z)) (ws_q (v := undef) 52 [53, 54, 55, 56, 57, 58] (by kernel_rfl) z z (yi_off ((wanted_eq z z z (cvb hc322)).trans z)) (ws_q (v := undef) 53 [54, 55, 56, 57, 58] (by kernel_rfl) z z (yi_off ((wanted_eq z z z (cvb hc322)).trans z)) (ws_q (v := undef) 54 [55, 56, 57, 58] (by kernel_rfl) z z (yi_off ((wanted_eq z z z (cvb hc322)).trans z)) (ws_q (v := undef) 55 [56, 57, 58] (by kernel_rfl) z z (yi_off ((wanted_eq z z z (cvb hc322)).trans z)) (ws_q (v := .bool false) 56 [57, 58] (by kernel_rfl) z z (yi_run ((wanted_eq z z z (cvb hc321)).trans z) (fun w hst => x_pick_f hc322 z z)) (ws_q (v := .bool false) 57 [58] (by kernel_rfl) z z (yi_run ((wanted_eq z z z (cvb hc308)).trans z) (fun w hst => x_pick_f hc321 z z)) ?_))))))))))))
 refine wsr (.bool false) 58 z z z (by kernel_rfl) (fun w hst => x_pick_t hc308 z z) ?_
 refine ws_nil ?_
 intro w hst
 refine tn ?_
 refine wp_iff z ?_
 refine wp_skip (blk_n (tn (wrl ?_)))
 refine wv (.int .i64 z275) z z z (wv (.int .i64 (i64.wrap (z275 + (1:Int)))) z z z (wv (.int .i64 (i64.wrap (z275 + (1:Int)))) z z z (wl_nil (tn ?_))))
 replace hst := hst.keep0
 obtain rfl := some_inj hm
 exact ⟨_, Nat.lt_succ_self _, z274, (i64.wrap (z275 + (1:Int))), _, hx282, (fu 0 r0_0 z (fu 1 (.float .f64 a1) z (fu 2 (.int .u64 a2) z (fu 7 (.int .i64 z274) z (fu 8 (.int .i64 (i64.wrap (z275 + (1:Int)))) z z))))), hst⟩
}
}
}
}
 {
 replace hm := bif_f hc308 hm
 refine ws_q (v := undef) 17 [18, 19, 20, 21, 22, 23, 24, 25, 26, 27, 28, 29, 30, 31, 32, 33, 34, 35, 36, 37, 38, 39, 40, 41, 42, 43, 44, 45, 46, 47, 48, 49, 50, 51, 52, 53, 54, 55, 56, 57, 58] (by kernel_rfl) z z (yi_off ((wanted_eq z z z (cvb hc308)).trans z)) (ws_q (v := undef) 18 [19, 20, 21, 22, 23, 24, 25, 26, 27, 28, 29, 30, 31, 32, 33, 34, 35, 36, 37, 38, 39, 40, 41, 42, 43, 44, 45, 46, 47, 48, 49, 50, 51, 52, 53, 54, 55, 56, 57, 58] (by kernel_rfl) z z (yi_off ((wanted_eq z z z (cvb hc308)).trans z)) (ws_q (v := undef) 19 [20, 21, 22, 23, 24, 25, 26, 27, 28, 29, 30, 31, 32, 33, 34, 35, 36, 37, 38, 39, 40, 41, 42, 43, 44, 45, 46, 47, 48, 49, 50, 51, 52, 53, 54, 55, 56, 57, 58] (by kernel_rfl) z z (yi_off ((wanted_eq z z z (cvb hc308)).trans z)) (ws_q (v := undef) 20 [21, 22, 23, 24, 25, 26, 27, 28, 29, 30, 31, 32, 33, 34, 35, 36, 37, 38, 39, 40, 41, 42, 43, 44, 45, 46, 47, 48, 49, 50, 51, 52, 53, 54, 55, 56, 57, 58] (by kernel_rfl) z z (yi_off (wanted_undef z z z z)) (ws_q (v := undef) 21 [22, 23, 24, 25, 26, 27, 28, 29, 30, 31, 32, 33, 34, 35, 36, 37, 38, 39, 40, 41, 42, 43, 44, 45, 46, 47, 48, 49, 50, 51, 52, 53, 54, 55, 56, 57, 58] (by kernel_rfl) z z (yi_off (wanted_undef z z z z)) (ws_q (v := undef) 22 [23, 24, 25, 26, 27, 28, 29, 30, 31, 32, 33, 34, 35, 36, 37, 38, 39, 40, 41, 42, 43, 44, 45, 46, 47, 48, 49, 50, 51, 52, 53, 54, 55, 56, 57, 58] (by kernel_rfl) z z (yi_off (wanted_undef z z z z)) (ws_q (v := undef) 23 [24, 25, 26, 27, 28, 29, 30, 31, 32, 33, 34, 35, 36, 37, 38, 39, 40, 41, 42, 43, 44, 45, 46, 47, 48, 49, 50, 51, 52, 53, 54, 55, 56, 57, 58] (by kernel_rfl) z z (yi_off (wanted_undef z z z z)) (ws_q (v := undef) 24 [25, 26, 27, 28, 29, 30, 31, 32, 33, 34, 35, 36, 37, 38, 39, 40, 41, 42, 43, 44, 45, 46, 47, 48, 49, 50, 51, 52, 53, 54, 55, 56, 57, 58] (by kernel_rfl) z z (yi_off (wanted_undef z z z z)) (ws_q (v := undef) 25 [26, 27, 28, 29, 30, 31, 32, 33, 34, 35, 36, 37, 38, 39, 40, 41, 42, 43, 44, 45, 46, 47, 48, 49, 50, 51, 52, 53, 54, 55, 56, 57, 58] (by kernel_rfl) z z (yi_off (wanted_undef z z z z)) (ws_q (v := undef) 26 [27, 28, 29, 30, 31, 32, 33, 34, 35, 36, 37, 38, 39, 40, 41, 42, 43, 44, 45, 46, 47, 48, 49, 50, 51, 52, 53, 54, 55, 56, 57, 58] (by kernel_rfl) z z (yi_off (wanted_undef z z z z)) (ws_q (v := undef) 27 [28, 29, 30, 31, 32, 33, 34, 35, 36, 37, 38, 39, 40, 41, 42, 43, 44, 45, 46, 47, 48, 49, 50, 51, 52, 53, 54, 55, 56, 57, 58] (by kernel_rfl) z z (yi_off (wanted_undef z z z z)) (ws_q (v := undef) 28 [29, 30, 31, 32, 33, 34, 35, 36, 37, 38, 39, 40, 41, 42, 43, 44, 45, 46, 47, 48, 49, 50, 51, 52, 53, 54, 55, 56, 57, 58] (by kernel_rfl) z z (yi_off (wanted_undef z z z z)) (ws_q (v := undef) 29 [30, 31, 32, 33, 34, 35, 36, 37, 38, 39, 40, 41, 42, 43, 44, 45, 46, 47, 48, 49, 50, 51, 52, 53, 54, 55, 56, 57, 58] (by kernel_rfl) z z (yi_off (wanted_undef z z z z)) ?_))))))))))))
 refine ws_q (v := undef) 30 [31, 32, 33, 34, 35, 36, 37, 38, 39, 40, 41, 42, 43, 44, 45, 46, 47, 48, 49, 50, 51, 52, 53, 54, 55, 56, 57, 58] (by kernel_rfl) z z (yi_off (wanted_undef z z z z)) (ws_q (v := undef) 31 [32, 33, 34, 35, 36, 37, 38, 39, 40, 41, 42, 43, 44, 45, 46, 47, 48, 49, 50, 51, 52, 53, 54, 55, 56, 57, 58] (by kernel_rfl) z z (yi_off ((wanted_eq z z z (cvb hc308)).trans z)) (ws_q (v := undef) 32 [33, 34, 35, 36, 37, 38, 39, 40, 41, 42, 43, 44, 45, 46, 47, 48, 49, 50, 51, 52, 53, 54, 55, 56, 57, 58] (by kernel_rfl) z z (yi_off ((wanted_eq z z z (cvb hc308)).trans z)) (ws_q (v := undef) 33 [34, 35, 36, 37, 38, 39, 40, 41, 42, 43, 44, 45, 46, 47, 48, 49, 50, 51, 52, 53, 54, 55, 56, 57, 58] (by kernel_rfl) z z (yi_off (wanted_undef z z z z)) (ws_q (v := undef) 34 [35, 36, 37, 38, 39, 40, 41, 42, 43, 44, 45, 46, 47, 48, 49, 50, 51, 52, 53, 54, 55, 56, 57, 58] (by kernel_rfl) z z (yi_off (wanted_undef z z z z)) (ws_q (v := undef) 35 [36, 37, 38, 39, 40, 41, 42, 43, 44, 45, 46, 47, 48, 49, 50, 51, 52, 53, 54, 55, 56, 57, 58] (by kernel_rfl) z z (yi_off (wanted_undef z z z z)) (ws_q (v := undef) 36 [37, 38, 39, 40, 41, 42, 43, 44, 45, 46, 47, 48, 49, 50, 51, 52, 53, 54, 55, 56, 57, 58] (by kernel_rfl) z z (yi_off (wanted_undef z z z z)) (ws_q (v := undef) 37 [38, 39, 40, 41, 42, 43, 44, 45, 46, 47, 48, 49, 50, 51, 52, 53, 54, 55, 56, 57, 58] (by kernel_rfl) z z (yi_off (wanted_undef z z z z)) (ws_q (v := undef) 38 [39, 40, 41, 42, 43, 44, 45, 46, 47, 48, 49, 50, 51, 52, 53, 54, 55, 56, 57, 58] (by kernel_rfl) z z (yi_off (wanted_undef z z z z)) (ws_q (v := undef) 39 [40, 41, 42, 43, 44, 45, 46, 47, 48, 49, 50, 51, 52, 53, 54, 55, 56, 57, 58] (by kernel_rfl) z z (yi_off (wanted_undef z z z z)) (ws_q (v := undef) 40 [41, 42, 43, 44, 45, 46, 47, 48, 49, 50, 51, 52, 53, 54, 55, 56, 57, 58] (by kernel_rfl) z z (yi_off (wanted_undef z z z z)) (ws_q (v := undef) 41 [42, 43, 44, 45, 46, 47, 48, 49, 50, 51, 52, 53, 54, 55, 56, 57, 58] (by kernel_rfl) z z (yi_off (wanted_undef z z z z)) (ws_q (v := undef) 42 [43, 44, 45, 46, 47, 48, 49, 50, 51, 52, 53, 54, 55, 56, 57, 58] (by kernel_rfl) z z (yi_off (wanted_undef z z z z)) ?_))))))))))))
 refine ws_q (v := undef) 43 [44, 45, 46, 47, 48, 49, 50, 51, 52, 53, 54, 55, 56, 57, 58] (by kernel_rfl) z z (yi_off (wanted_undef z z z z)) (ws_q (v := undef) 44 [45, 46, 47, 48, 49, 50, 51, 52, 53, 54, 55, 56, 57, 58] (by kernel_rfl) z z (yi_off (wanted_undef z z z z)) (ws_q (v := undef) 45 [46, 47, 48, 49, 50, 51, 52, 53, 54, 55, 56, 57, 58] (by kernel_rfl) z z (yi_off (wanted_undef z z z z)) (ws_q (v := undef) 46 [47, 48, 49, 50, 51, 52, 53, 54, 55, 56, 57, 58] (by kernel_rfl) z z (yi_off (wanted_undef z z z z)) (ws_q (v := undef) 47 [48, 49, 50, 51, 52, 53, 54, 55, 56, 57, 58] (by kernel_rfl) z z (yi_off (wanted_undef z z z z)) (ws_q (v := undef) 48 [49, 50, 51, 52, 53, 54, 55, 56, 57, 58] (by kernel_rfl) z z (yi_off (wanted_undef z z z z)) (ws_q (v := undef) 49 [50, 51, 52, 53, 54, 55, 56, 57, 58] (by kernel_rfl) z z (yi_off (wanted_undef z z z z)) (ws_q (v := undef) 50 [51, 52, 53, 54, 55, 56, 57, 58] (by kernel_rfl) z z (yi_off (wanted_undef z z z z)) (ws_q (v := undef) 51 [52, 53, 54, 55, 56, 57, 58] (by kernel_rfl) z z (yi_off (wanted_undef z z z z)) (ws_q (v := undef) 52 [53, 54, 55, 56, 57, 58] (by kernel_rfl) z z (yi_off (wanted_undef z z z z)) (ws_q (v := undef) 53 [54, 55, 56, 57, 58] (by kernel_rfl) z z (yi_off (wanted_undef z z z z)) (ws_q (v := undef) 54 [55, 56, 57, 58] (by kernel_rfl) z z (yi_off (wanted_undef z z z z)) (ws_q (v := undef) 55 [56, 57, 58] (by kernel_rfl) z z (yi_off (wanted_undef z z z z)) ?_))))))))))))
 refine ws_q (v := undef) 56 [57, 58] (by kernel_rfl) z z (yi_off (wanted_undef z z z z)) (ws_q (v := undef) 57 [58] (by kernel_rfl) z z (yi_off ((wanted_eq z z z (cvb hc308)).trans z)) (wsr (.bool false) 58 z z z (by kernel_rfl) (fun w hst => x_pick_f hc308 z z) ?_))
 refine ws_nil ?_
 intro w hst
 refine tn ?_
 refine wp_iff z ?_
 refine wp_skip (blk_n (tn (wrl ?_)))
 refine wv (.int .i64 z275) z z z (wv (.int .i64 (i64.wrap (z275 + (1:Int)))) z z z (wv (.int .i64 (i64.wrap (z275 + (1:Int)))) z z z (wl_nil (tn ?_))))
 replace hst := hst.keep0
 obtain rfl := some_inj hm
 exact ⟨_, Nat.lt_succ_self _, z274, (i64.wrap (z275 + (1:Int))), _, hx282, (fu 0 r0_0 z (fu 1 (.float .f64 a1) z (fu 2 (.int .u64 a2) z (fu 7 (.int .i64 z274) z (fu 8 (.int .i64 (i64.wrap (z275 + (1:Int)))) z z))))), hst⟩
}
}
 {
 replace hm := bif_f hc301 hm
 refine ws_q (v := undef) 8 [9, 10, 11, 12, 13, 14, 15, 16, 17, 18, 19, 20, 21, 22, 23, 24, 25, 26, 27, 28, 29, 30, 31, 32, 33, 34, 35, 36, 37, 38, 39, 40, 41, 42, 43, 44, 45, 46, 47, 48, 49, 50, 51, 52, 53, 54, 55, 56, 57, 58] (by kernel_rfl) z z (yi_off ((wanted_eq z z z (cvb hc301)).trans z)) (ws_q (v := undef) 9 [10, 11, 12, 13, 14, 15, 16, 17, 18, 19, 20, 21, 22, 23, 24, 25, 26, 27, 28, 29, 30, 31, 32, 33, 34, 35, 36, 37, 38, 39, 40, 41, 42, 43, 44, 45, 46, 47, 48, 49, 50, 51, 52, 53, 54, 55, 56, 57, 58] (by kernel_rfl) z z (yi_off ((wanted_eq z z z (cvb hc301)).trans z)) (ws_q (v := undef) 10 [11, 12, 13, 14, 15, 16, 17, 18, 19, 20, 21, 22, 23, 24, 25, 26, 27, 28, 29, 30, 31, 32, 33, 34, 35, 36, 37, 38, 39, 40, 41, 42, 43, 44, 45, 46, 47, 48, 49, 50, 51, 52, 53, 54, 55, 56, 57, 58] (by kernel_rfl) z z (yi_off ((wanted_eq z z z (cvb hc301)).trans z)) (ws_q (v := undef) 11 [12, 13, 14, 15, 16, 17, 18, 19, 20, 21, 22, 23, 24, 25, 26, 27, 28, 29, 30, 31, 32, 33, 34, 35, 36, 37, 38, 39, 40, 41, 42, 43, 44, 45, 46, 47, 48, 49, 50, 51, 52, 53, 54, 55, 56, 57, 58] (by kernel_rfl) z z (yi_off ((wanted_eq z z z (cvb hc301)).trans z)) (ws_q (v := undef) 12 [13, 14, 15, 16, 17, 18, 19, 20, 21, 22, 23, 24, 25, 26, 27, 28, 29, 30, 31, 32, 33, 34, 35, 36, 37, 38, 39, 40, 41, 42, 43, 44, 45, 46, 47, 48, 49, 50, 51, 52, 53, 54, 55, 56, 57, 58] (by kernel_rfl) z z (yi_off ((wanted_eq z z z (cvb hc301)).trans z)) (ws_q (v := undef) 13 [14, 15, 16, 17, 18, 19, 20, 21, 22, 23, 24, 25, 26, 27, 28, 29, 30, 31, 32, 33, 34, 35, 36, 37, 38, 39, 40, 41, 42, 43, 44, 45, 46, 47, 48, 49, 50, 51, 52, 53, 54, 55, 56, 57, 58] (by kernel_rfl) z z (yi_off ((wanted_eq z z z (cvb hc301)).trans z)) (ws_q (v := undef) 14 [15, 16, 17, 18, 19, 20, 21, 22, 23, 24, 25, 26, 27, 28, 29, 30, 31, 32, 33, 34, 35, 36, 37, 38, 39, 40, 41, 42, 43, 44, 45, 46, 47, 48, 49, 50, 51, 52, 53, 54, 55, 56, 57, 58] (by kernel_rfl) z z (yi_off ((wanted_eq z z z (cvb hc301)).trans z)) (wsr (.bool false) 15 z z z (by kernel_rfl) (fun w hst => x_pick_f hc301 z z) (wsr (.bool false) 16 z z z (by kernel_rfl) (fun w hst => z) (ws_q (v := undef) 17 [18, 19, 20, 21, 22, 23, 24, 25, 26, 27, 28, 29, 30, 31, 32, 33, 34, 35, 36, 37, 38, 39, 40, 41, 42, 43, 44, 45, 46, 47, 48, 49, 50, 51, 52, 53, 54, 55, 56, 57, 58] (by kernel_rfl) z z (yi_off ((wanted_eq z z z z).trans z)) (ws_q (v := undef) 18 [19, 20, 21, 22, 23, 24, 25, 26, 27, 28, 29, 30, 31, 32, 33, 34, 35, 36, 37, 38, 39, 40, 41, 42, 43, 44, 45, 46, 47, 48, 49, 50, 51, 52, 53, 54, 55, 56, 57, 58] (by kernel_rfl) z z (yi_off ((wanted_eq z z z z).trans z)) (ws_q (v := undef) 19 [20, 21, 22, 23, 24, 25, 26, 27, 28, 29, 30, 31, 32, 33, 34, 35, 36, 37, 38, 39, 40, 41, 42, 43, 44, 45, 46, 47, 48, 49, 50, 51, 52, 53, 54, 55, 56, 57, 58] (by kernel_rfl) z z (yi_off ((wanted_eq z z z z).trans z)) (ws_q (v := undef) 20 [21, 22, 23, 24, 25, 26, 27, 28, 29, 30, 31, 32, 33, 34, 35, 36, 37, 38, 39, 40, 41, 42, 43, 44, 45, 46, 47, 48, 49, 50, 51, 52, 53, 54, 55, 56, 57, 58] (by kernel_rfl) z z (yi_off (wanted_undef z z z z)) ?_))))))))))))
 refine ws_q (v := undef) 21 [22, 23, 24, 25, 26, 27, 28, 29, 30, 31, 32, 33, 34, 35, 36, 37, 38, 39, 40, 41, 42, 43, 44, 45, 46, 47, 48, 49, 50, 51, 52, 53, 54, 55, 56, 57, 58] (by kernel_rfl) z z (yi_off (wanted_undef z z z z)) (ws_q (v := undef) 22 [23, 24, 25, 26, 27, 28, 29, 30, 31, 32, 33, 34, 35, 36, 37, 38, 39, 40, 41, 42, 43, 44, 45, 46, 47, 48, 49, 50, 51, 52, 53, 54, 55, 56, 57, 58] (by kernel_rfl) z z (yi_off (wanted_undef z z z z)) (ws_q (v := undef) 23 [24, 25, 26, 27, 28, 29, 30, 31, 32, 33, 34, 35, 36, 37, 38, 39, 40, 41, 42, 43, 44, 45, 46, 47, 48, 49, 50, 51, 52, 53, 54, 55, 56, 57, 58] (by kernel_rfl) z z (yi_off (wanted_undef z z z z)) (ws_q (v := undef) 24 [25, 26, 27, 28, 29, 30, 31, 32, 33, 34, 35, 36, 37, 38, 39, 40, 41, 42, 43, 44, 45, 46, 47, 48, 49, 50, 51, 52, 53, 54, 55, 56, 57, 58] (by kernel_rfl) z z (yi_off (wanted_undef z z z z)) (ws_q (v := undef) 25 [26, 27, 28, 29, 30, 31, 32, 33, 34, 35, 36, 37, 38, 39, 40, 41, 42, 43, 44, 45, 46, 47, 48, 49, 50, 51, 52, 53, 54, 55, 56, 57, 58] (by kernel_rfl) z z (yi_off (wanted_undef z z z z)) (ws_q (v := undef) 26 [27, 28, 29, 30, 31, 32, 33, 34, 35, 36, 37, 38, 39, 40, 41, 42, 43, 44, 45, 46, 47, 48, 49, 50, 51, 52, 53, 54, 55, 56, 57, 58] (by kernel_rfl) z z (yi_off (wanted_undef z z z z)) (ws_q (v := undef) 27 [28, 29, 30, 31, 32, 33, 34, 35, 36, 37, 38, 39, 40, 41, 42, 43, 44, 45, 46, 47, 48, 49, 50, 51, 52, 53, 54, 55, 56, 57, 58] (by kernel_rfl) z z (yi_off (wanted_undef z z z z)) (ws_q (v := undef) 28 [29, 30, 31, 32, 33, 34, 35, 36, 37, 38, 39, 40, 41, 42, 43, 44, 45, 46, 47, 48, 49, 50, 51, 52, 53, 54, 55, 56, 57, 58] (by kernel_rfl) z z (yi_off (wanted_undef z z z z)) (ws_q (v := undef) 29 [30, 31, 32, 33, 34, 35, 36, 37, 38, 39, 40, 41, 42, 43, 44, 45, 46, 47, 48, 49, 50, 51, 52, 53, 54, 55, 56, 57, 58] (by kernel_rfl) z z (yi_off (wanted_undef z z z z)) (ws_q (v := undef) 30 [31, 32, 33, 34, 35, 36, 37, 38, 39, 40, 41, 42, 43, 44, 45, 46, 47, 48, 49, 50, 51, 52, 53, 54, 55, 56, 57, 58] (by kernel_rfl) z z (yi_off (wanted_undef z z z z)) (ws_q (v := undef) 31 [32, 33, 34, 35, 36, 37, 38, 39, 40, 41, 42, 43, 44, 45, 46, 47, 48, 49, 50, 51, 52, 53, 54, 55, 56, 57, 58] (by kernel_rfl) z z (yi_off ((wanted_eq z z z z).trans z)) (ws_q (v := undef) 32 [33, 34, 35, 36, 37, 38, 39, 40, 41, 42, 43, 44, 45, 46, 47, 48, 49, 50, 51, 52, 53, 54, 55, 56, 57, 58] (by kernel_rfl) z z (yi_off ((wanted_eq z z z z).trans z)) (ws_q (v := undef) 33 [34, 35, 36, 37, 38, 39, 40, 41, 42, 43, 44, 45, 46, 47, 48, 49, 50, 51, 52, 53, 54, 55, 56, 57, 58] (by kernel_rfl) z z (yi_off (wanted_undef z z z z)) ?_))))))))))))
 refine ws_q (v := undef) 34 [35, 36, 37, 38, 39, 40, 41, 42, 43, 44, 45, 46, 47, 48, 49, 50, 51, 52, 53, 54, 55, 56, 57, 58] (by kernel_rfl) z z (yi_off (wanted_undef z z z z)) (ws_q (v := undef) 35 [36, 37, 38, 39, 40, 41, 42, 43, 44, 45, 46, 47, 48, 49, 50, 51, 52, 53, 54, 55, 56, 57, 58] (by kernel_rfl) z z (yi_off (wanted_undef z z z z)) (ws_q (v := undef) 36 [37, 38, 39, 40, 41, 42, 43, 44, 45, 46, 47, 48, 49, 50, 51, 52, 53, 54, 55, 56, 57, 58] (by kernel_rfl) z z (yi_off (wanted_undef z z z z)) (ws_q (v := undef) 37 [38, 39, 40, 41, 42, 43, 44, 45, 46, 47, 48, 49, 50, 51, 52, 53, 54, 55, 56, 57, 58] (by kernel_rfl) z z (yi_off (wanted_undef z z z z)) (ws_q (v := undef) 38 [39, 40, 41, 42, 43, 44, 45, 46, 47, 48, 49, 50, 51, 52, 53, 54, 55, 56, 57, 58] (by kernel_rfl) z z (yi_off (wanted_undef z z z z)) (ws_q (v := undef) 39 [40, 41, 42, 43, 44, 45, 46, 47, 48, 49, 50, 51, 52, 53, 54, 55, 56, 57, 58] (by kernel_rfl) z z (yi_off (wanted_undef z z z z)) (ws_q (v := undef) 40 [41, 42, 43, 44, 45, 46, 47, 48, 49, 50, 51, 52, 53, 54, 55, 56, 57, 58] (by kernel_rfl) z z (yi_off (wanted_undef z z z z)) (ws_q (v := undef) 41 [42, 43, 44, 45, 46, 47, 48, 49, 50, 51, 52, 53, 54, 55, 56, 57, 58] (by kernel_rfl) z z (yi_off (wanted_undef z z z z)) (ws_q (v := undef) 42 [43, 44, 45, 46, 47, 48, 49, 50, 51, 52, 53, 54, 55, 56, 57, 58] (by kernel_rfl) z z (yi_off (wanted_undef z z z z)) (ws_q (v := undef) 43 [44, 45, 46, 47, 48, 49, 50, 51, 52, 53, 54, 55, 56, 57, 58] (by kernel_rfl) z z (yi_off (wanted_undef z z z z)) (ws_q (v := undef) 44 [45, 46, 47, 48, 49, 50, 51, 52, 53, 54, 55, 56, 57, 58] (by kernel_rfl) z z (yi_off (wanted_undef z z z z)) (ws_q (v := undef) 45 [46, 47, 48, 49, 50, 51, 52, 53, 54, 55, 56, 57, 58] (by kernel_rfl) z z (yi_off (wanted_undef z z z z)) (ws_q (v := undef) 46 [47, 48, 49, 50, 51, 52, 53, 54, 55, 56, 57, 58] (by kernel_rfl) z z (yi_off (wanted_undef z z z z)) ?_))))))))))))
 refine ws_q (v := undef) 47 [48, 49, 50, 51, 52, 53, 54, 55, 56, 57, 58] (by kernel_rfl) z z (yi_off (wanted_undef z z z z)) (ws_q (v := undef) 48 [49, 50, 51, 52, 53, 54, 55, 56, 57, 58] (by kernel_rfl) z z (yi_off (wanted_undef z z z z)) (ws_q (v := undef) 49 [50, 51, 52, 53, 54, 55, 56, 57, 58] (by kernel_rfl) z z (yi_off (wanted_undef z z z z)) (ws_q (v := undef) 50 [51, 52, 53, 54, 55, 56, 57, 58] (by kernel_rfl) z z (yi_off (wanted_undef z z z z)) (ws_q (v := undef) 51 [52, 53, 54, 55, 56, 57, 58] (by kernel_rfl) z z (yi_off (wanted_undef z z z z)) (ws_q (v := undef) 52 [53, 54, 55, 56, 57, 58] (by kernel_rfl) z z (yi_off (wanted_undef z z z z)) (ws_q (v := undef) 53 [54, 55, 56, 57, 58] (by kernel_rfl) z z (yi_off (wanted_undef z z z z)) (ws_q (v := undef) 54 [55, 56, 57, 58] (by kernel_rfl) z z (yi_off (wanted_undef z z z z)) (ws_q (v := undef) 55 [56, 57, 58] (by kernel_rfl) z z (yi_off (wanted_undef z z z z)) (ws_q (v := undef) 56 [57, 58] (by kernel_rfl) z z (yi_off (wanted_undef z z z z)) (ws_q (v := undef) 57 [58] (by kernel_rfl) z z (yi_off ((wanted_eq z z z z).trans z)) (wsr (.bool false) 58 z z z (by kernel_rfl) (fun w hst => x_pick_f z z z) ?_)))))))))))
 refine ws_nil ?_
 intro w hst
 refine tn ?_
 refine wp_iff z ?_
 refine wp_skip (blk_n (tn (wrl ?_)))
 refine wv (.int .i64 z275) z z z (wv (.int .i64 (i64.wrap (z275 + (1:Int)))) z z z (wv (.int .i64 (i64.wrap (z275 + (1:Int)))) z z z (wl_nil (tn ?_))))
 replace hst := hst.keep0
 obtain rfl := some_inj hm
 exact ⟨_, Nat.lt_succ_self _, z274, (i64.wrap (z275 + (1:Int))), _, hx282, (fu 0 r0_0 z (fu 1 (.float .f64 a1) z (fu 2 (.int .u64 a2) z (fu 7 (.int .i64 z274) z (fu 8 (.int .i64 (i64.wrap (z275 + (1:Int)))) z z))))), hst⟩
}
}
 {
 replace hm := bif_f hc284 hm
 refine wp_iff (cvb hc284) ?_
 refine wp_exit (then_x (then_x ?_))
 replace hm := inr_up hm hx282
 refine blk_x (tn (wp_seq (wrl ?_)))
 refine wv (.int .i64 z274) z z z (wv (.int .i64 z274) z z z (wl_nil (tn (wp_ret ?_))))
 obtain rfl := some_inj hm
 refine post_ret (vs := [I6 z274]) results34 (rvs_cons (rv_tmp z) rvs_nil) ?_
 exact ⟨z, hst.keep0⟩
}
}

theorem ref11_Get_ref {w0 w : World} {I : HL} {R : SP} {a0 : (List ref11_Version)} {r0_0 : Value} {a1 : Nat} {a2 : Int} (f0_0 : Ro ty_ref11_Version I r0_0 a0) (hst : St w0 w I [] R) {r : (api_Got)} (hm : ref11_Get a0 a1 a2 = some r) :
  Calls prog 14 #[r0_0, F6 a1, U6 a2] w fun e w' => ∃ (I' : HL) (q0_0 : Value), e = .returned (.agg #[.bool r.Has, q0_0]) ∧ I.le I' ∧ Ro (tyInt .u8) I' q0_0 r.Val ∧ St w0 w' I' [] R := by {
 unfold ref11_Get at hm
 refine calls_start (args := [r0_0, F6 a1, U6 a2]) func14 z ntmps14 (Nat.le_of_ble_eq_true z) ?_
 have hI0 := HL.le.refl I
 refine wp_seq (wrl ?_)
 obtain ⟨b87, w88, ew89, eb90, hst⟩ := hst.box [.bool false, Zs] 34
 refine wl_run (v := Pt b87 0) (w' := w88) z z (x_al (by kernel_rfl) ew89 eb90) ?_
 refine wl_nil (tn (wp_seq (wrl (wv (r0_0) z z z (wv (.float .f64 a1) z z z (wv (.int .u64 a2) z z z ?_))))))
 obtain ⟨t92, ht93, hm⟩ := bind_some hm
 refine wc call34 [r0_0, F6 a1, U6 a2] z z z ?_
 refine (ref11_last_ref (f0_0.mono ro_rd) hst.to0 ht93).mono ?_
 rintro _ w94 ⟨rfl, hst⟩
 refine ⟨_, z, ?_⟩
 replace hst := hst.of0
 refine wv (.int .i64 t92) z z z (wl_nil (tn (wp_seq (wp_seq (wrl (wv (.int .i64 t92) z z z (wv (.bool (decide (t92 < (0:Int)))) z z z (wv (.bool (decide (t92 < (0:Int)))) z z z ?_))))))))
 refine bsplit (decide (t92 < (0:Int))) (fun hc97 => ?_) (fun hc97 => ?_)
 {
 replace hm := bif_t hc97 hm
 refine wo hc97 z z z z z z (wo hc97 z z z z z z (wo hc97 z z z z z z (wo hc97 z z z z z z (wo hc97 z z z z z z (wv (.bool true) z z (x_pick_t hc97 z z) (wl_nil (tn ?_)))))))
 refine wp_ift z ?_
 refine wp_seq (wrl (wv (.agg #[.bool false, Zs]) z z (by kernel_rfl) ?_))
 obtain ⟨w99, hr100, hst⟩ := hst.bx [.bool false, Zs] sizeOf34 z (oC z (oC z oN)) (by kernel_rfl)
 refine wl_unit z z (x_unit hr100) ?_
 refine wl_nil (tn (wp_ret (then_r ?_)))
 have f101 : Ro (tyInt .u8) I (.slice none 0 0) [] := ro_nil
 obtain rfl := some_inj hm
 refine post_ret (vs := [.agg #[.bool false, Zs]]) results14 (rvs_cons (rv_cell (cs := [.bool false, Zs]) z isAgg34 sizeOf34 (hst.bcs0 0 z)) rvs_nil) ?_
 exact ⟨_, Zs, z, hI0, f101, hst.keep0⟩
}
 {
 replace hm := bif_f hc97 hm
 refine wv (r0_0) ((wanted_eq z z z (cvb hc97)).trans z) z z (wv (.int .i64 t92) ((wanted_eq z z z (cvb hc97)).trans z) z z ?_)
 obtain ⟨x102, hx103, hm⟩ := bind_some hm
 obtain ⟨h104, h105, hi106⟩ := geto_some hx103
 refine wv (.pointer (some (eAddr r0_0 (t92.toNat * 5 + 0)))) ((wanted_eq z z z (cvb hc97)).trans z) z (x_index z z underlying26 sizeOf67 (ro_sliceV f0_0) h104 h105) (wv (.pointer (some (eAddr r0_0 (t92.toNat * 5 + 3)))) ((wanted_eq z z z (cvb hc97)).trans z) z (x_field_e z underlying67 z sizeOf4 z) ?_)
 obtain ⟨cs107, hr108, hc109⟩ := Ro.getF f0_0 hi106
 obtain ⟨v110, rfl, f111, -⟩ := hr108
 refine wv (.bool x102.Del) ((wanted_eq z z z (cvb hc97)).trans z) z (x_load z isAgg4 ((hc109 (HL.le.refl _) hst) 3 _ z)) (wv (.bool x102.Del) z z (x_pick_f hc97 z z) (wl_nil (tn ?_)))
 refine bsplit x102.Del (fun hc113 => ?_) (fun hc113 => ?_)
 {
 replace hm := bif_t hc113 hm
 refine wp_ift (cvb hc113) ?_
 refine wp_seq (wrl (wv (.agg #[.bool false, Zs]) z z (by kernel_rfl) ?_))
 obtain ⟨w115, hr116, hst⟩ := hst.bx [.bool false, Zs] sizeOf34 z (oC z (oC z oN)) (by kernel_rfl)
 refine wl_unit z z (x_unit hr116) ?_
 refine wl_nil (tn (wp_ret (then_r ?_)))
 have f117 : Ro (tyInt .u8) I (.slice none 0 0) [] := ro_nil
 obtain rfl := some_inj hm
 refine post_ret (vs := [.agg #[.bool false, Zs]]) results14 (rvs_cons (rv_cell (cs := [.bool false, Zs]) z isAgg34 sizeOf34 (hst.bcs0 0 z)) rvs_nil) ?_
 exact ⟨_, Zs, z, hI0, f117, hst.keep0⟩
}
 {
 replace hm := bif_f hc113 hm
 refine wp_iff (cvb hc113) ?_
 refine wp_skip (tn (wp_seq (wrl ?_)))
 refine wv (r0_0) z z z (wv (.int .i64 t92) z z z (wv (.pointer (some (eAddr r0_0 (t92.toNat * 5 + 0)))) z z (x_index z z underlying26 sizeOf67 (ro_sliceV f0_0) h104 h105) (wv (.pointer (some (eAddr r0_0 (t92.toNat * 5 + 4)))) z z (x_field_e z underlying67 z sizeOf32 z) (wv (v110) z z (x_load z isAgg32 ((hc109 (HL.le.refl _) hst) 4 _ z)) (wv (.agg #[.bool true, v110]) z z (by obtain ⟨_, _, hv_, _⟩ := (ro_sliceV f111); rw [hv_]; kernel_rfl) ?_)))))
 obtain ⟨w119, hr120, hst⟩ := hst.bx [.bool true, v110] sizeOf34 z (oC z (oC (one_of_sliceV (ro_sliceV f111)) oN)) (by kernel_rfl)
 refine wl_unit z z (x_unit hr120) ?_
 refine wl_nil (tn (wp_ret ?_))
 obtain rfl := some_inj hm
 refine post_ret (vs := [.agg #[.bool true, v110]]) results14 (rvs_cons (rv_cell (cs := [.bool true, v110]) z isAgg34 sizeOf34 (hst.bcs0 0 z)) rvs_nil) ?_
 exact ⟨_, v110, z, hI0, f111, hst.keep0⟩
}
}
}

theorem ref11_SameGots_ref {w0 w : World} {I : HL} {R : SP} {a0 : (List api_Got)} {r0_0 : Value} {a1 : (List api_Got)} {r1_0 : Value} (f0_0 : Rd ty_api_Got R I r0_0 a0) (f1_0 : Rd ty_api_Got R I r1_0 a1) (hst : St w0 w I [] R) {r : (Bool)} (hm : ref11_SameGots a0 a1 = some r) :
  Calls prog 12 #[r0_0, r1_0] w fun e w' => e = .returned (.bool r) ∧ St w0 w' I [] R := by {
 unfold ref11_SameGots at hm
 refine calls_start (args := [r0_0, r1_0]) func12 z ntmps12 (Nat.le_of_ble_eq_true z) ?_
 refine wp_seq (wrl (wv (.bool false) z z z (wl_nil (tn (wp_seq (wp_seq (wrl (wv (r0_0) z z z (wv (.int .i64 ((a0).length : Int)) z z (x_len z underlying36 (rd_sliceV f0_0)) (wv (r1_0) z z z (wv (.int .i64 ((a1).length : Int)) z z (x_len z underlying36 (rd_sliceV f1_0)) (wv (.bool (((a0).length : Int) != ((a1).length : Int))) z z z (wl_nil (tn ?_))))))))))))))
 refine bsplit (((a0).length : Int) != ((a1).length : Int)) (fun hc141 => ?_) (fun hc141 => ?_)
 {
 replace hm := bif_t hc141 hm
 refine wp_ift (cvb hc141) ?_
 refine wp_seq (wrl (wv (.bool false) z z z (wl_nil (tn (wp_ret (then_r ?_))))))
 obtain rfl := some_inj hm
 refine post_ret (vs := [.bool false]) results12 (rvs_cons (rv_tmp z) rvs_nil) ?_
 exact ⟨z, hst.keep0⟩
}
 {
 replace hm := bif_f hc141 hm
 refine wp_iff (cvb hc141) ?_
 refine wp_skip (tn (wp_seq (wp_seq (wrl ?_))))
 refine wv (.int .i64 (0:Int)) z z z (wl_nil (tn (wp_block ?_)))
 obtain ⟨n195, hm⟩ := loopO_some hm
 refine wp_loop_n (fun n a w => ∃ (z193 : Int) (σ194 : Nat → Value), loopN (ref11_SameGots_l0 a0 a1) n z193 = some r ∧ a = Fr 43 (upd (upd (upd σ194 0 (r0_0)) 1 (r1_0)) 5 (.int .i64 z193)) ∧ St w0 w I [] R) n195 ⟨(0:Int), _, hm, (fu 0 r0_0 z (fu 1 r1_0 z (fu 5 (.int .i64 (0:Int)) z z))), hst⟩ ?_
 rintro n201 _ w196 ⟨z193, σ194, hm, rfl, hst⟩
 obtain ⟨n198, y199, rfl, hm, hx200⟩ := loopN_some hm
 dsimp only [ref11_SameGots_l0] at hm
 refine wp_seq (wp_seq (wrl (wv (.int .i64 z193) z z z (wv (r0_0) z z z (wv (.int .i64 ((a0).length : Int)) z z (x_len z underlying36 (rd_sliceV f0_0)) (wv (.bool (decide (z193 < ((a0).length : Int)))) z z z (wl_nil (tn ?_))))))))
 refine bsplit (decide (z193 < ((a0).length : Int))) (fun hc202 => ?_) (fun hc202 => ?_)
 {
 replace hm := bif_t hc202 hm
 refine wp_ift (cvb hc202) ?_
 refine wp_skip (tn (wp_seq (wp_block (wp_seq ?_))))
 refine wq_regionS hst Try.mixed (by kernel_rfl) ?_
 refine wq_run (v := r0_0) z z (fun w hst => z) ?_
 refine wq_run (v := .int .i64 z193) z z (fun w hst => z) ?_
 obtain ⟨x203, hx204, hm⟩ := bind_some hm
 obtain ⟨h205, h206, hi207⟩ := geto_some hx204
 refine wq_run (v := .pointer (some (eAddr r0_0 (z193.toNat * 2 + 0)))) z z (fun w hst => x_index z z underlying36 sizeOf34 (rd_sliceV f0_0) h205 h206) ?_
 refine wq_run (v := .pointer (some (eAddr r0_0 (z193.toNat * 2 + 0)))) z z (fun w hst => x_field_e z underlying34 z sizeOf4 z) ?_
 obtain ⟨cs208, hr209, hc210⟩ := Rd.getF f0_0 hi207
 obtain ⟨v211, rfl, f212, -⟩ := hr209
 refine wq_run (v := .bool x203.Has) z z (fun w hst => x_load z isAgg4 ((hc210 (HL.le.refl _) hst) 0 _ z)) ?_
 refine wq_run (v := r1_0) z z (fun w hst => z) ?_
 refine wq_run (v := .int .i64 z193) z z (fun w hst => z) ?_
 obtain ⟨x214, hx215, hm⟩ := bind_some hm
 obtain ⟨h216, h217, hi218⟩ := geto_some hx215
 refine wq_run (v := .pointer (some (eAddr r1_0 (z193.toNat * 2 + 0)))) z z (fun w hst => x_index z z underlying36 sizeOf34 (rd_sliceV f1_0) h216 h217) ?_
 refine wq_run (v := .pointer (some (eAddr r1_0 (z193.toNat * 2 + 0)))) z z (fun w hst => x_field_e z underlying34 z sizeOf4 z) ?_
 obtain ⟨cs219, hr220, hc221⟩ := Rd.getF f1_0 hi218
 obtain ⟨v222, rfl, f223, -⟩ := hr220
 refine wq_run (v := .bool x214.Has) z z (fun w hst => x_load z isAgg4 ((hc221 (HL.le.refl _) hst) 0 _ z)) ?_
 refine wq_run (v := .bool (!(x203.Has == x214.Has))) z z (fun w hst => by kernel_rfl) ?_
 refine wq_run (v := .bool (!(x203.Has == x214.Has))) z z (fun w hst => z) ?_
 refine bsplit (!(x203.Has == x214.Has)) (fun hc225 => ?_) (fun hc225 => ?_)
 {
 replace hm := bif_t hc225 hm
 refine wq_off ((wanted_eq z z z (cvb hc225)).trans z) z ?_
 refine wq_off ((wanted_eq z z z (cvb hc225)).trans z) z ?_
 refine wq_off ((wanted_eq z z z (cvb hc225)).trans z) z ?_
 refine wq_off ((wanted_eq z z z (cvb hc225)).trans z) z ?_
 refine wq_off ((wanted_eq z z z (cvb hc225)).trans z) z ?_
 refine wq_off ((wanted_eq z z z (cvb hc225)).trans z) z ?_
 refine wq_off ((wanted_eq z z z (cvb hc225)).trans z) z ?_
 refine wq_off ((wanted_eq z z z (cvb hc225)).trans z) z ?_
 refine wq_off ((wanted_eq z z z (cvb hc225)).trans z) z ?_
 refine wq_off ((wanted_eq z z z (cvb hc225)).trans z) z ?_
 refine wq_off ((wanted_eq z z z (cvb hc225)).trans z) z ?_
 refine wq_off ((wanted_eq z z z (cvb hc225)).trans z) z ?_
 refine wq_off ((wanted_eq z z z (cvb hc225)).trans z) z ?_
 refine wq_run (v := .bool true) z z (fun w hst => x_pick_t hc225 z z) ?_
 refine wq_nil ?_
 intro w hst
 refine tn ?_
 refine wp_ift z ?_
 refine wp_seq (wrl (wv (.bool false) z z z (wl_nil (tn (wp_ret (blk_r (then_r (then_r ?_))))))))
 replace hm := inr_up hm hx200
 refine blk_r (then_r ?_)
 obtain rfl := some_inj hm
 refine post_ret (vs := [.bool false]) results12 (rvs_cons (rv_tmp z) rvs_nil) ?_
 exact ⟨z, hst.keep0⟩
}
 {
 replace hm := bif_f hc225 hm
 refine wq_run (v := r0_0) ((wanted_eq z z z (cvb hc225)).trans z) z (fun w hst => z) ?_
 refine wq_run (v := .int .i64 z193) ((wanted_eq z z z (cvb hc225)).trans z) z (fun w hst => z) ?_
 refine wq_run (v := .pointer (some (eAddr r0_0 (z193.toNat * 2 + 0)))) ((wanted_eq z z z (cvb hc225)).trans z) z (fun w hst => x_index z z underlying36 sizeOf34 (rd_sliceV f0_0) h205 h206) ?_
 refine wq_run (v := .pointer (some (eAddr r0_0 (z193.toNat * 2 + 1)))) ((wanted_eq z z z (cvb hc225)).trans z) z (fun w hst => x_field_e z underlying34 z sizeOf32 z) ?_
 refine wq_run (v := v211) ((wanted_eq z z z (cvb hc225)).trans z) z (fun w hst => x_load z isAgg32 ((hc210 (HL.le.refl _) hst) 1 _ z)) ?_
 refine wq_run (v := .string (toStr x203.Val)) ((wanted_eq z z z (cvb hc225)).trans z) z (fun w hst => x_tostr underlying32 underlying9 underlying5 z (Src.of_rd hst f212 flat_int)) ?_
 refine wq_run (v := r1_0) ((wanted_eq z z z (cvb hc225)).trans z) z (fun w hst => z) ?_
 refine wq_run (v := .int .i64 z193) ((wanted_eq z z z (cvb hc225)).trans z) z (fun w hst => z) ?_
 refine wq_run (v := .pointer (some (eAddr r1_0 (z193.toNat * 2 + 0)))) ((wanted_eq z z z (cvb hc225)).trans z) z (fun w hst => x_index z z underlying36 sizeOf34 (rd_sliceV f1_0) h216 h217) ?_
 refine wq_run (v := .pointer (some (eAddr r1_0 (z193.toNat * 2 + 1)))) ((wanted_eq z z z (cvb hc225)).trans z) z (fun w hst => x_field_e z underlying34 z sizeOf32 z) ?_
 refine wq_run (v := v222) ((wanted_eq z z z (cvb hc225)).trans z) z (fun w hst => x_load z isAgg32 ((hc221 (HL.le.refl _) hst) 1 _ z)) ?_
 refine wq_run (v := .string (toStr x214.Val)) ((wanted_eq z z z (cvb hc225)).trans z) z (fun w hst => x_tostr underlying32 underlying9 underlying5 z (Src.of_rd hst f223 flat_int)) ?_
 refine wq_run (v := .bool (!(sEq (toStr x203.Val) (toStr x214.Val)))) ((wanted_eq z z z (cvb hc225)).trans z) z (fun w hst => by kernel_rfl) ?_
 refine wq_run (v := .bool (!(sEq (toStr x203.Val) (toStr x214.Val)))) z z (fun w hst => x_pick_f hc225 z z) ?_
 refine wq_nil ?_
 intro w hst
 refine tn ?_
 refine bsplit (!(sEq (toStr x203.Val) (toStr x214.Val))) (fun hc226 => ?_) (fun hc226 => ?_)
 {
 replace hm := bif_t hc226 hm
 refine wp_ift (cvb hc226) ?_
 refine wp_seq (wrl (wv (.bool false) z z z (wl_nil (tn (wp_ret (blk_r (then_r (then_r ?_))))))))
 replace hm := inr_up hm hx200
 refine blk_r (then_r ?_)
 obtain rfl := some_inj hm
 refine post_ret (vs := [.bool false]) results12 (rvs_cons (rv_tmp z) rvs_nil) ?_
 exact ⟨z, hst.keep0⟩
}
 {
 replace hm := bif_f hc226 hm
 refine wp_iff (cvb hc226) ?_
 refine wp_skip (blk_n (tn (wrl ?_)))
 refine wv (.int .i64 z193) z z z (wv (.int .i64 (i64.wrap (z193 + (1:Int)))) z z z (wv (.int .i64 (i64.wrap (z193 + (1:Int)))) z z z (wl_nil (tn ?_))))
 replace hst := hst.keep0
 obtain rfl := some_inj hm
 exact ⟨_, Nat.lt_succ_self _, (i64.wrap (z193 + (1:Int))), _, hx200, (fu 0 r0_0 z (fu 1 r1_0 z (fu 5 (.int .i64 (i64.wrap (z193 + (1:Int)))) z z))), hst⟩
}
}
}
 {
 replace hm := bif_f hc202 hm
 refine wp_iff (cvb hc202) ?_
 refine wp_exit (then_x (then_x ?_))
 replace hm := inr_up hm hx200
 refine blk_x (tn (wp_seq (wrl ?_)))
 refine wv (.bool true) z z z (wl_nil (tn (wp_ret ?_)))
 obtain rfl := some_inj hm
 refine post_ret (vs := [.bool true]) results12 (rvs_cons (rv_tmp z) rvs_nil) ?_
 exact ⟨z, hst.keep0⟩
}
}
}

theorem slices_Clone_mvcc_Version_mvcc_Version_ref {w0 w : World} {I : HL} {R : SP} {a0 : (List mvcc_Version)} {r0_0 : Value} (f0_0 : RdO ty_mvcc_Version R I r0_0 a0) (hst : St w0 w I [] R) {r : (List mvcc_Version)} (hm : slices_Clone_mvcc_Version_mvcc_Version a0 = some r) :
  Calls prog 40 #[r0_0] w fun e w' => ∃ (q0_0 : Value), e = .returned (q0_0) ∧ St w0 w' I [ownS ty_mvcc_Version q0_0 r] R := by {
 unfold slices_Clone_mvcc_Version_mvcc_Version at hm
 obtain ⟨hg, hm⟩ := gd_some hm
 obtain rfl := some_inj hm
 have hsv := rdo_sliceV f0_0
 refine calls_start (args := [r0_0]) func40 z ntmps40 (Nat.le_of_ble_eq_true z) ?_
 refine wp_seq (wrl (wv ((.slice none 0 0)) z z z (wl_nil (tn (wp_seq (wp_seq (wrl (wv (r0_0) z z z (wv (.bool (isNil r0_0)) z z (x_slnil z hsv z underlying53) (wl_nil (tn ?_)))))))))))
 refine bsplit (isNil r0_0) (fun hc435 => ?_) (fun hc435 => ?_)
 {
 refine wp_ift (cvb hc435) ?_
 refine wp_seq (wrl (wv ((.slice none 0 0)) z z z (wl_nil (tn (wp_ret (then_r ?_))))))
 refine post_ret (vs := [Zs]) results40 (rvs_cons (rv_tmp z) rvs_nil) ?_
 obtain rfl := List.eq_nil_of_length_eq_zero (isNil_len hsv hc435)
 exact ⟨_, z, (hst.own_nil ty_mvcc_Version).keep1⟩
}
 {
 refine wp_iff (cvb hc435) ?_
 refine wp_skip (tn (wp_seq (wrl ?_)))
 obtain ⟨b, w1, ew, eb, hst⟩ := hst.lits (E := ty_mvcc_Version) (xs := []) [] 52 0 z Reps.nil
 refine wl_run (v := (.slice (some ⟨b, 0, none⟩) 0 0)) (w' := w1) z z (x_als (by kernel_rfl) ew eb) ?_
 refine wv (r0_0) z z z ?_
 obtain ⟨v2, w2, hr, hst⟩ := run_append elem_53 underlying53 hst (Src.of_rdo hst f0_0) (room_of hg z) 53
 refine wl_run (v := v2) (w' := w2) z z (x_append z z hr) ?_
 refine wv (v2) z z z (wl_nil (tn (wp_ret ?_)))
 refine post_ret (vs := [v2]) results40 (rvs_cons (rv_tmp z) rvs_nil) ?_
 rw [List.nil_append] at hst
 exact ⟨_, z, hst.keep1⟩
}
}

theorem mvcc_Store_Versions_ref {w0 w : World} {I : HL} {R : SP} {a0 : (Option mvcc_Store)} {p0 : Value} {a1 : Nat}  (hst : St w0 w I [objO at_mvcc_Store p0 a0] R) {r : ((List mvcc_Version))} (hm : mvcc_Store_Versions a0 a1 = some r) :
  Calls prog 23 #[p0, F6 a1] w fun e w' => ∃ (q0_0 : Value), e = .returned (q0_0) ∧ St w0 w' I [ownS ty_mvcc_Version q0_0 r, objO at_mvcc_Store p0 a0] R := by {
 rcases a0 with _ | o0
 {
 obtain ⟨rfl, hst'⟩ := objO_none hst
 clear hst
 have hst := hst'
 clear hst'
 dsimp only [mvcc_Store_Versions] at hm
 refine calls_start (args := [.pointer none, F6 a1]) func23 z ntmps23 (Nat.le_of_ble_eq_true z) ?_
 refine wp_seq (wrl (wv ((.slice none 0 0)) z z z (wl_nil (tn (wp_seq (wrl (wv (.pointer none) z z z (wv (.float .f64 a1) z z z ?_))))))))
 obtain ⟨t446, ht447, hm⟩ := bind_some hm
 refine wc call32 [F6 a1] z z z ?_
 refine (number_Rank_ref hst.to0 ht447).mono ?_
 rintro _ w448 ⟨rfl, hst⟩
 refine ⟨_, z, ?_⟩
 replace hst := hst.of0.objO_nil at_mvcc_Store
 obtain ⟨t452, ht453, hm⟩ := bind_some hm
 refine wc call31 [.pointer none, U6 t446] z z z ?_
 refine (mvcc_Store_find_ref hst.to1 ht453).mono ?_
 rintro _ w454 ⟨rfl, hst⟩
 refine ⟨_, z, ?_⟩
 replace hst := hst.of1
 refine wv (.tuple #[I6 t452.1, .bool t452.2]) z z z (wv (.int .i64 t452.1) z z z (wv (.bool t452.2) z z z (wv (.int .i64 t452.1) z z z (wv (.bool t452.2) z z z (wl_nil (tn (wp_seq (wp_seq (wrl (wv (.bool t452.2) z z z (wv (.bool (!t452.2)) z z z (wl_nil (tn ?_)))))))))))))
 refine bsplit (!t452.2) (fun hc457 => ?_) (fun hc457 => ?_)
 {
 replace hm := bif_t hc457 hm
 refine wp_ift (cvb hc457) ?_
 refine wp_seq (wrl (wv ((.slice none 0 0)) z z z (wl_nil (tn (wp_ret (then_r ?_))))))
 replace hst := hst.own_nil ty_mvcc_Version
 replace hst := hst.objO_nil at_mvcc_Store
 obtain rfl := some_inj hm
 refine post_ret (vs := [Zs]) results23 (rvs_cons (rv_tmp z) rvs_nil) ?_
 replace hst := hst.pull1
 exact ⟨(.slice none 0 0), z, hst.keep2⟩
}
 {
 replace hm := bif_f hc457 hm
 refine wp_iff (cvb hc457) ?_
 refine wp_skip (tn (wp_seq (wrl ?_)))
 refine wv (.pointer none) z z z ?_
 cases hm
}
}
 {
 replace hst := objO_get hst
 dsimp only [mvcc_Store_Versions] at hm
 refine calls_start (args := [p0, F6 a1]) func23 z ntmps23 (Nat.le_of_ble_eq_true z) ?_
 refine wp_seq (wrl (wv ((.slice none 0 0)) z z z (wl_nil (tn (wp_seq (wrl (wv (p0) z z z (wv (.float .f64 a1) z z z ?_))))))))
 obtain ⟨t460, ht461, hm⟩ := bind_some hm
 refine wc call32 [F6 a1] z z z ?_
 refine (number_Rank_ref hst.to0 ht461).mono ?_
 rintro _ w462 ⟨rfl, hst⟩
 refine ⟨_, z, ?_⟩
 replace hst := hst.of0
 replace hst := objO_some hst
 obtain ⟨t465, ht466, hm⟩ := bind_some hm
 refine wc call31 [p0, U6 t460] z z z ?_
 refine (mvcc_Store_find_ref hst.to1 ht466).mono ?_
 rintro _ w467 ⟨rfl, hst⟩
 refine ⟨_, z, ?_⟩
 replace hst := hst.of1
 replace hst := objO_get hst
 refine wv (.tuple #[I6 t465.1, .bool t465.2]) z z z (wv (.int .i64 t465.1) z z z (wv (.bool t465.2) z z z (wv (.int .i64 t465.1) z z z (wv (.bool t465.2) z z z (wl_nil (tn (wp_seq (wp_seq (wrl (wv (.bool t465.2) z z z (wv (.bool (!t465.2)) z z z (wl_nil (tn ?_)))))))))))))
 refine bsplit (!t465.2) (fun hc470 => ?_) (fun hc470 => ?_)
 {
 replace hm := bif_t hc470 hm
 refine wp_ift (cvb hc470) ?_
 refine wp_seq (wrl (wv ((.slice none 0 0)) z z z (wl_nil (tn (wp_ret (then_r ?_))))))
 replace hst := hst.own_nil ty_mvcc_Version
 replace hst := hst.pull1
 replace hst := objO_some hst
 obtain rfl := some_inj hm
 refine post_ret (vs := [Zs]) results23 (rvs_cons (rv_tmp z) rvs_nil) ?_
 replace hst := hst.pull1
 exact ⟨(.slice none 0 0), z, hst.keep2⟩
}
 {
 replace hm := bif_f hc470 hm
 refine wp_iff (cvb hc470) ?_
 refine wp_skip (tn (wp_seq (wrl ?_)))
 refine wv (p0) z z z ?_
 obtain ⟨b472, v473, rfl, hst'⟩ := at_mvcc_Store_open hst
 clear hst
 have hst := hst'
 clear hst'
 refine wv (Pt b472 0) z z z (wv (Pt b472 0) z z (x_field z underlying79 z sizeOf77 z) (wv (v473) z z (x_load z isAgg77 (hst.bc0 z)) (wv (.int .i64 t465.1) z z z ?_)))
 obtain ⟨x475, hx476, hm⟩ := bind_some hm
 obtain ⟨h477, h478, hi479⟩ := geto_some hx476
 refine wv (.pointer (some (eAddr v473 (t465.1.toNat * 2 + 0)))) z z (x_index z z underlying77 sizeOf76 (hst.nestsv 1 z) h477 h478) (wv (.pointer (some (eAddr v473 (t465.1.toNat * 2 + 1)))) z z (x_field_e z underlying76 z sizeOf53 z) ?_)
 replace hst := hst.pull1
 obtain ⟨v480, hst⟩ := hst.nest_focus hi479
 refine wv (v480) z z (x_load z isAgg53 ((hst.holeall (N := nest_mvcc_row) (i := t465.1.toNat) 1 z hi479) 1 _ z)) ?_
 obtain ⟨css482, hq483, hst⟩ := hst.own_open
 obtain ⟨t484, ht485, hm⟩ := bind_some hm
 refine wc call40 [v480] z z z ?_
 refine (slices_Clone_mvcc_Version_mvcc_Version_ref (hst.rdorow 0 z hq483) hst.to0 ht485).mono ?_
 rintro _ w486 ⟨v489, rfl, hst⟩
 refine ⟨_, z, ?_⟩
 replace hst := hst.of1.pull1.own_close hq483
 refine wv (v489) z z z (wl_nil (tn (wp_ret ?_)))
 replace hst := hst.pull2.pull1
 replace hst := St.nest_close0 (N := nest_mvcc_row) hst hi479
 replace hst := hst.pull2
 replace hst := at_mvcc_Store_close (pv := Pt b472 0) (x := o0) hst z
 replace hst := objO_some hst
 obtain rfl := some_inj hm
 refine post_ret (vs := [v489]) results23 (rvs_cons (rv_tmp z) rvs_nil) ?_
 replace hst := hst.pull1
 exact ⟨v489, z, hst.keep2⟩
}
}
}

theorem law11_told_ref {w0 w : World} {I : HL} {R : SP} {a0 : (Option mvcc_Store)} {p0 : Value} {a1 : (List ref11_Version)} {r1_0 : Value} (f1_0 : Ro ty_ref11_Version I r1_0 a1) (hst : St w0 w I [objO at_mvcc_Store p0 a0] R) {r : (Bool)} (hm : law11_told a0 a1 = some r) :
  Calls prog 11 #[p0, r1_0] w fun e w' => ∃ (I' : HL), e = .returned (.bool r) ∧ I.le I' ∧ St w0 w' I' [objO at_mvcc_Store p0 a0] R := by {
 unfold law11_told at hm
 refine calls_start (args := [p0, r1_0]) func11 z ntmps11 (Nat.le_of_ble_eq_true z) ?_
 have hI0 := HL.le.refl I
 refine wp_seq (wrl (wv (.bool false) z z z (wl_nil (tn (wp_seq (wrl (wv (r1_0) z z z ?_)))))))
 obtain ⟨t1628, ht1629, hm⟩ := bind_some hm
 refine wc call18 [r1_0] z z z ?_
 refine (ref11_Ats_ref (f1_0.mono ro_rd) hst.to0 ht1629).mono ?_
 rintro _ w1630 ⟨I1631, v1633, rfl, hI1632, hst⟩
 refine ⟨_, z, ?_⟩
 replace hst := hst.of1
 replace f1_0 := f1_0.mono (ro_le hI1632)
 replace hI0 := hI0.trans hI1632
 refine wv (v1633) z z z (wl_nil (tn (wp_seq (wp_seq (wrl (wv (p0) z z z ?_))))))
 replace hst := hst.pull1
 obtain ⟨t1635, ht1636, hm⟩ := bind_some hm
 refine wc call24 [p0] z z z ?_
 refine (mvcc_Store_Len_ref hst.to1 ht1636).mono ?_
 rintro _ w1637 ⟨rfl, hst⟩
 refine ⟨_, z, ?_⟩
 replace hst := hst.of1
 refine wv (v1633) z z z (wv (.int .i64 ((t1628).length : Int)) z z (x_len z underlying44 hst.sv1) (wv (.bool (t1635 != ((t1628).length : Int))) z z z (wv (.bool (t1635 != ((t1628).length : Int))) z z z ?_)))
 refine bsplit (t1635 != ((t1628).length : Int)) (fun hc1640 => ?_) (fun hc1640 => ?_)
 {
 replace hm := bif_t hc1640 hm
 refine wo hc1640 z z z z z z (wo hc1640 z z z z z z (wo hc1640 z z z z z z (wo hc1640 z z z z z z (wo hc1640 z z z z z z (wv (.bool true) z z (x_pick_t hc1640 z z) (wl_nil (tn ?_)))))))
 refine wp_ift z ?_
 refine wp_seq (wrl (wv (.bool false) z z z (wl_nil (tn (wp_ret (then_r ?_))))))
 obtain rfl := some_inj hm
 refine post_ret (vs := [.bool false]) results11 (rvs_cons (rv_tmp z) rvs_nil) ?_
 exact ⟨_, z, hI0, hst.keep1⟩
}
 {
 replace hm := bif_f hc1640 hm
 refine wv (p0) ((wanted_eq z z z (cvb hc1640)).trans z) z z ?_
 obtain ⟨t1641, ht1642, hm⟩ := bind_some hm
 refine wl_call ((wanted_eq z z z (cvb hc1640)).trans z) z (x_call call25 z (vs := [p0]) z) ?_
 refine (mvcc_Store_Size_ref hst.to1 ht1642).mono ?_
 rintro _ w1643 ⟨rfl, hst⟩
 refine ⟨_, z, ?_⟩
 replace hst := hst.of1
 refine wv (r1_0) ((wanted_eq z z z (cvb hc1640)).trans z) z z (wv (.int .i64 ((a1).length : Int)) ((wanted_eq z z z (cvb hc1640)).trans z) z (x_len z underlying26 (ro_sliceV f1_0)) (wv (.bool (t1641 != ((a1).length : Int))) ((wanted_eq z z z (cvb hc1640)).trans z) z z (wv (.bool (t1641 != ((a1).length : Int))) z z (x_pick_f hc1640 z z) (wl_nil (tn ?_)))))
 refine bsplit (t1641 != ((a1).length : Int)) (fun hc1646 => ?_) (fun hc1646 => ?_)
 {
 replace hm := bif_t hc1646 hm
 refine wp_ift (cvb hc1646) ?_
 refine wp_seq (wrl (wv (.bool false) z z z (wl_nil (tn (wp_ret (then_r ?_))))))
 obtain rfl := some_inj hm
 refine post_ret (vs := [.bool false]) results11 (rvs_cons (rv_tmp z) rvs_nil) ?_
 exact ⟨_, z, hI0, hst.keep1⟩
}
 {
 replace hm := bif_f hc1646 hm
 refine wp_iff (cvb hc1646) ?_
 refine wp_skip (tn (wp_seq (wp_seq (wrl ?_))))
 refine wv (.int .i64 (0:Int)) z z z (wl_nil (tn (wp_block ?_)))
 obtain ⟨n2695, hm⟩ := loopO_some hm
 refine wp_loop_n (fun n a w => ∃ (I2693 : HL) (z2692 : Int) (σ2694 : Nat → Value), loopN (law11_told_l0 t1628 a0 a1) n z2692 = some r ∧ a = Fr 128 (upd (upd (upd (upd σ2694 0 (p0)) 1 (r1_0)) 5 (v1633)) 6 (.int .i64 z2692)) ∧ I1631.le I2693 ∧ St w0 w I2693 [objO at_mvcc_Store p0 a0, ownS tyF64 v1633 t1628] R) n2695 ⟨_, (0:Int), _, hm, (fu 0 p0 z (fu 1 r1_0 z (fu 5 v1633 z (fu 6 (.int .i64 (0:Int)) z z)))), (HL.le.refl _), hst⟩ ?_
 rintro n2701 _ w2696 ⟨I2693, z2692, σ2694, hm, rfl, hL2697, hst⟩
 obtain ⟨n2698, y2699, rfl, hm, hx2700⟩ := loopN_some hm
 dsimp only [law11_told_l0] at hm
 replace f1_0 := f1_0.mono (ro_le hL2697)
 replace hI0 := hI0.trans hL2697
 refine wp_seq (wp_seq (wrl (wv (.int .i64 z2692) z z z (wv (v1633) z z z (wv (.int .i64 ((t1628).length : Int)) z z (x_len z underlying44 hst.sv1) (wv (.bool (decide (z2692 < ((t1628).length : Int)))) z z z (wl_nil (tn ?_))))))))
 refine bsplit (decide (z2692 < ((t1628).length : Int))) (fun hc2702 => ?_) (fun hc2702 => ?_)
 {
 replace hm := bif_t hc2702 hm
 refine wp_ift (cvb hc2702) ?_
 refine wp_skip (tn (wp_seq (wp_block ?_)))
 obtain ⟨y3041, hm, hx3042⟩ := joinO_some hm
 refine wp_cut (fun a w => ∃ (I3038 : HL) (σ3039 : Nat → Value), (law11_told_j1 t1628 z2692 a0 a1) () = some y2699 ∧ a = Fr 128 (upd (upd (upd (upd σ3039 0 (p0)) 1 (r1_0)) 5 (v1633)) 6 (.int .i64 z2692)) ∧ I2693.le I3038 ∧ St w0 w I3038 [objO at_mvcc_Store p0 a0, ownS tyF64 v1633 t1628] R) ?_ ?_
 {
 have hL3043 := HL.le.refl I2693
 refine wp_seq (wrl (wv (.int .u64 (0:Int)) z z z (wl_nil (tn (wp_block ?_)))))
 obtain ⟨n2923, hm⟩ := loopO_some hm
 refine wp_loop_n (fun n a w => ∃ (I2921 : HL) (z2920 : Int) (σ2922 : Nat → Value), loopN (law11_told_l2 t1628 z2692 a0 a1) n z2920 = some y3041 ∧ a = Fr 128 (upd (upd (upd (upd (upd σ2922 0 (p0)) 1 (r1_0)) 5 (v1633)) 6 (.int .i64 z2692)) 7 (.int .u64 z2920)) ∧ I2693.le I2921 ∧ St w0 w I2921 [objO at_mvcc_Store p0 a0, ownS tyF64 v1633 t1628] R) n2923 ⟨_, (0:Int), _, hm, (fu 0 p0 z (fu 1 r1_0 z (fu 5 v1633 z (fu 6 (.int .i64 z2692) z (fu 7 (.int .u64 (0:Int)) z z))))), (HL.le.refl _), hst⟩ ?_
 rintro n2929 _ w2924 ⟨I2921, z2920, σ2922, hm, rfl, hL2925, hst⟩
 obtain ⟨n2926, y2927, rfl, hm, hx2928⟩ := loopN_some hm
 dsimp only [law11_told_l2] at hm
 replace f1_0 := f1_0.mono (ro_le hL2925)
 replace hI0 := hI0.trans hL2925
 replace hL2697 := hL2697.trans hL2925
 replace hL3043 := hL3043.trans hL2925
 refine wp_seq (wp_seq (wrl (wv (.int .u64 z2920) z z z (wv (.bool (decide (z2920 < (9:Int)))) z z z (wl_nil (tn ?_))))))
 refine bsplit (decide (z2920 < (9:Int))) (fun hc2930 => ?_) (fun hc2930 => ?_)
 {
 replace hm := bif_t hc2930 hm
 refine wp_ift (cvb hc2930) ?_
 refine wp_skip (tn (wp_seq (wp_block (wp_seq ?_))))
 obtain ⟨y3033, hm, hx3034⟩ := bind_some hm
 refine wp_mid (fun a w => ∃ (I3030 : HL) (z3029 : Bool) (σ3031 : Nat → Value), (law11_told_j3 z2920) z3029 = some y2927 ∧ a = Fr 128 (upd (upd (upd (upd (upd (upd σ3031 0 (p0)) 1 (r1_0)) 5 (v1633)) 6 (.int .i64 z2692)) 7 (.int .u64 z2920)) 53 (.bool z3029)) ∧ I2921.le I3030 ∧ St w0 w I3030 [objO at_mvcc_Store p0 a0, ownS tyF64 v1633 t1628] R) ?_ ?_
 {
 have hL3035 := HL.le.refl I2921
 refine wp_region_St hst 18 [0, 1, 2, 3, 4, 5, 6, 7, 8, 9, 10, 11, 12, 13, 14, 15, 16, 17] [0, 0, 0, 6, 14, 0, 63, 127, 0, 0, 0, 1536, 3584, 0, 16255, 32639, 65535, 131071] [] z (by kernel_rfl) (by kernel_rfl) Try.mixed (by kernel_rfl) ?_
 refine wsr (p0) 0 z z z (by kernel_rfl) (fun w hst => z) (wsr (v1633) 1 z z z (by kernel_rfl) (fun w hst => z) (wsr (.int .i64 z2692) 2 z z z (by kernel_rfl) (fun w hst => z) ?_))
 obtain ⟨x2931, hx2932, hm⟩ := bind_some hm
 obtain ⟨h2933, h2934, hi2935⟩ := geto_some hx2932
 refine wsr (.pointer (some (eAddr v1633 (z2692.toNat * 1 + 0)))) 3 z z z (by kernel_rfl) (fun w hst => x_index z z underlying44 sizeOf23 hst.sv1 h2933 h2934) (wsr (.float .f64 x2931) 4 z z z (by kernel_rfl) (fun w hst => x_load z isAgg23 (hst.ol1 hi2935 (by rintro _ rfl; rfl))) (wsr (.int .u64 z2920) 5 z z z (by kernel_rfl) (fun w hst => z) (wsr (r1_0) 8 z z z (by kernel_rfl) (fun w hst => z) (wsr (v1633) 9 z z z (by kernel_rfl) (fun w hst => z) (wsr (.int .i64 z2692) 10 z z z (by kernel_rfl) (fun w hst => z) (wsr (.pointer (some (eAddr v1633 (z2692.toNat * 1 + 0)))) 11 z z z (by kernel_rfl) (fun w hst => x_index z z underlying44 sizeOf23 hst.sv1 h2933 h2934) (wsr (.float .f64 x2931) 12 z z z (by kernel_rfl) (fun w hst => x_load z isAgg23 (hst.ol1 hi2935 (by rintro _ rfl; rfl))) (wsr (.int .u64 z2920) 13 z z z (by kernel_rfl) (fun w hst => z) ?_))))))))
 refine ws_e1 6 (by kernel_rfl) ?_
 refine nxe [7, 14, 15, 16, 17] (by kernel_rfl) z z ?_
 clear hst
 intro w hst
 obtain ⟨t2936, ht2937, hm⟩ := bind_some hm
 refine wec call13 [p0, F6 x2931, U6 z2920] z z ?_
 refine (mvcc_Store_Get_ref hst.to1 ht2937).mono ?_
 rintro _ w2938 ⟨v2941, rfl, hst⟩
 refine ⟨_, z, ?_⟩
 replace hst := hst.of2
 refine ws_next (pend' := [(13, U6 z2920), (12, F6 x2931), (11, .pointer (some (eAddr v1633 (z2692.toNat * 1 + 0)))), (10, I6 z2692), (9, v1633), (8, r1_0)]) hst (by kernel_rfl) (pkr z z (fun w hst => z) (pkr z z (fun w hst => x_load z isAgg23 (hst.ol2 hi2935 (by rintro _ rfl; rfl))) (pkr z z (fun w hst => x_index z z underlying44 sizeOf23 hst.sv2 h2933 h2934) (pkr z z (fun w hst => z) (pkr z z (fun w hst => z) (pkr z z (fun w hst => z) pk_nil)))))) ?_
 obtain ⟨t2943, ht2944, hm⟩ := bind_some hm
 refine ws_e2 7 14 (by kernel_rfl) ?_ ?_
 {
 refine nxe [14, 15, 16, 17] (by kernel_rfl) z z ?_
 clear hst
 intro w hst
 obtain ⟨I2946, hI2947, f2948, hst⟩ := hst.own_fix
 replace f1_0 := f1_0.mono (ro_le hI2947)
 replace hI0 := hI0.trans hI2947
 replace hL2697 := hL2697.trans hI2947
 replace hL3043 := hL3043.trans hI2947
 replace hL2925 := hL2925.trans hI2947
 replace hL3035 := hL3035.trans hI2947
 obtain ⟨b2949, w2950, ew2951, eb2952, hst⟩ := hst.lits (E := ty_api_Got) (xs := [t2936]) [[.bool t2936.Has, v2941]] 34 1 z (Reps.cons ⟨_, z, f2948, one_of_sliceV (ro_sliceV f2948)⟩ Reps.nil)
 refine we_run (v := (.slice (some ⟨b2949, 0, none⟩) 1 1)) (w' := w2950) z (x_als (by kernel_rfl) ew2951 eb2952) ?_
 refine ws_next (pend' := [(13, U6 z2920), (12, F6 x2931), (11, .pointer (some (eAddr v1633 (z2692.toNat * 1 + 0)))), (10, I6 z2692), (9, v1633), (8, r1_0)]) hst (by kernel_rfl) (pkr z z (fun w hst => z) (pkr z z (fun w hst => x_load z isAgg23 (hst.ol2 hi2935 (by rintro _ rfl; rfl))) (pkr z z (fun w hst => x_index z z underlying44 sizeOf23 hst.sv2 h2933 h2934) (pkr z z (fun w hst => z) (pkr z z (fun w hst => z) (pkr z z (fun w hst => z) pk_nil)))))) ?_
 refine ws_e1 14 (by kernel_rfl) ?_
 refine nxe [15, 16, 17] (by kernel_rfl) z z ?_
 clear hst
 intro w hst
 refine wec call14 [r1_0, F6 x2931, U6 z2920] z z ?_
 refine (ref11_Get_ref f1_0 hst.to0 ht2944).mono ?_
 rintro _ w2954 ⟨I2955, v2957, rfl, hI2956, f2959, hst⟩
 refine ⟨_, z, ?_⟩
 replace hst := hst.of0
 replace f1_0 := f1_0.mono (ro_le hI2956)
 replace f2948 := f2948.mono (ro_le hI2956)
 replace hI0 := hI0.trans hI2956
 replace hL2697 := hL2697.trans hI2956
 replace hL3043 := hL3043.trans hI2956
 replace hL2925 := hL2925.trans hI2956
 replace hL3035 := hL3035.trans hI2956
 refine ws_next (pend' := []) hst (by kernel_rfl) pk_nil ?_
 refine ws_e1 15 (by kernel_rfl) ?_
 refine nxe [16, 17] (by kernel_rfl) z z ?_
 clear hst
 intro w hst
 obtain ⟨b2961, w2962, ew2963, eb2964, hst⟩ := hst.lits (E := ty_api_Got) (xs := [t2943]) [[.bool t2943.Has, v2957]] 34 1 z (Reps.cons ⟨_, z, f2959, one_of_sliceV (ro_sliceV f2959)⟩ Reps.nil)
 refine we_run (v := (.slice (some ⟨b2961, 0, none⟩) 1 1)) (w' := w2962) z (x_als (by kernel_rfl) ew2963 eb2964) ?_
 refine ws_next (pend' := []) hst (by kernel_rfl) pk_nil ?_
 refine ws_e1 16 (by kernel_rfl) ?_
 refine nxe [17] (by kernel_rfl) z z ?_
 clear hst
 intro w hst
 replace hst := hst.pull1
 obtain ⟨css2966, hq2967, hst⟩ := hst.own_open
 replace hst := hst.pull1
 obtain ⟨css2968, hq2969, hst⟩ := hst.own_open
 obtain ⟨t2970, ht2971, hm⟩ := bind_some hm
 refine wec call12 [(.slice (some ⟨b2949, 0, none⟩) 1 1), (.slice (some ⟨b2961, 0, none⟩) 1 1)] z z ?_
 refine (ref11_SameGots_ref (hst.rdrow1 hq2967) (hst.rdrow0 hq2969) hst.to0 ht2971).mono ?_
 rintro _ w2972 ⟨rfl, hst⟩
 refine ⟨_, z, ?_⟩
 replace hst := hst.of0.pull1.own_close hq2967
 replace hst := hst.pull1.own_close hq2969
 refine ws_next (pend' := []) hst (by kernel_rfl) pk_nil ?_
 refine wsr (.bool (!t2970)) 17 z z z (by kernel_rfl) (fun w hst => z) ?_
 refine ws_nil ?_
 intro w hst
 refine ⟨z, ?_⟩
 replace hst := hst.pull3.pull3.keep2
 obtain rfl := some_inj hm
 exact ⟨_, (!t2970), _, hx3034, (fu 0 p0 z (fu 1 r1_0 z (fu 5 v1633 z (fu 6 (.int .i64 z2692) z (fu 7 (.int .u64 z2920) z (fu 53 (.bool (!t2970)) z z)))))), hL3035, hst⟩
}
 {
 refine nxe [7, 15, 16, 17] (by kernel_rfl) z z ?_
 clear hst
 intro w hst
 refine wec call14 [r1_0, F6 x2931, U6 z2920] z z ?_
 refine (ref11_Get_ref f1_0 hst.to0 ht2944).mono ?_
 rintro _ w2975 ⟨I2976, v2978, rfl, hI2977, f2980, hst⟩
 refine ⟨_, z, ?_⟩
 replace hst := hst.of0
 replace f1_0 := f1_0.mono (ro_le hI2977)
 replace hI0 := hI0.trans hI2977
 replace hL2697 := hL2697.trans hI2977
 replace hL3043 := hL3043.trans hI2977
 replace hL2925 := hL2925.trans hI2977
 replace hL3035 := hL3035.trans hI2977
 refine ws_next (pend' := []) hst (by kernel_rfl) pk_nil ?_
 refine ws_e2 7 15 (by kernel_rfl) ?_ ?_
 {
 refine nxe [15, 16, 17] (by kernel_rfl) z z ?_
 clear hst
 intro w hst
 obtain ⟨I2982, hI2983, f2984, hst⟩ := hst.own_fix
 replace f1_0 := f1_0.mono (ro_le hI2983)
 replace f2980 := f2980.mono (ro_le hI2983)
 replace hI0 := hI0.trans hI2983
 replace hL2697 := hL2697.trans hI2983
 replace hL3043 := hL3043.trans hI2983
 replace hL2925 := hL2925.trans hI2983
 replace hL3035 := hL3035.trans hI2983
 obtain ⟨b2985, w2986, ew2987, eb2988, hst⟩ := hst.lits (E := ty_api_Got) (xs := [t2936]) [[.bool t2936.Has, v2941]] 34 1 z (Reps.cons ⟨_, z, f2984, one_of_sliceV (ro_sliceV f2984)⟩ Reps.nil)
 refine we_run (v := (.slice (some ⟨b2985, 0, none⟩) 1 1)) (w' := w2986) z (x_als (by kernel_rfl) ew2987 eb2988) ?_
 refine ws_next (pend' := []) hst (by kernel_rfl) pk_nil ?_
 refine ws_e1 15 (by kernel_rfl) ?_
 refine nxe [16, 17] (by kernel_rfl) z z ?_
 clear hst
 intro w hst
 obtain ⟨b2991, w2992, ew2993, eb2994, hst⟩ := hst.lits (E := ty_api_Got) (xs := [t2943]) [[.bool t2943.Has, v2978]] 34 1 z (Reps.cons ⟨_, z, f2980, one_of_sliceV (ro_sliceV f2980)⟩ Reps.nil)
 refine we_run (v := (.slice (some ⟨b2991, 0, none⟩) 1 1)) (w' := w2992) z (x_als (by kernel_rfl) ew2993 eb2994) ?_
 refine ws_next (pend' := []) hst (by kernel_rfl) pk_nil ?_
 refine ws_e1 16 (by kernel_rfl) ?_
 refine nxe [17] (by kernel_rfl) z z ?_
 clear hst
 intro w hst
 replace hst := hst.pull1
 obtain ⟨css2996, hq2997, hst⟩ := hst.own_open
 replace hst := hst.pull1
 obtain ⟨css2998, hq2999, hst⟩ := hst.own_open
 obtain ⟨t3000, ht3001, hm⟩ := bind_some hm
 refine wec call12 [(.slice (some ⟨b2985, 0, none⟩) 1 1), (.slice (some ⟨b2991, 0, none⟩) 1 1)] z z ?_
 refine (ref11_SameGots_ref (hst.rdrow1 hq2997) (hst.rdrow0 hq2999) hst.to0 ht3001).mono ?_
 rintro _ w3002 ⟨rfl, hst⟩
 refine ⟨_, z, ?_⟩
 replace hst := hst.of0.pull1.own_close hq2997
 replace hst := hst.pull1.own_close hq2999
 refine ws_next (pend' := []) hst (by kernel_rfl) pk_nil ?_
 refine wsr (.bool (!t3000)) 17 z z z (by kernel_rfl) (fun w hst => z) ?_
 refine ws_nil ?_
 intro w hst
 refine ⟨z, ?_⟩
 replace hst := hst.pull3.pull3.keep2
 obtain rfl := some_inj hm
 exact ⟨_, (!t3000), _, hx3034, (fu 0 p0 z (fu 1 r1_0 z (fu 5 v1633 z (fu 6 (.int .i64 z2692) z (fu 7 (.int .u64 z2920) z (fu 53 (.bool (!t3000)) z z)))))), hL3035, hst⟩
}
 {
 refine nxe [7, 16, 17] (by kernel_rfl) z z ?_
 clear hst
 intro w hst
 obtain ⟨b3006, w3007, ew3008, eb3009, hst⟩ := hst.lits (E := ty_api_Got) (xs := [t2943]) [[.bool t2943.Has, v2978]] 34 1 z (Reps.cons ⟨_, z, f2980, one_of_sliceV (ro_sliceV f2980)⟩ Reps.nil)
 refine we_run (v := (.slice (some ⟨b3006, 0, none⟩) 1 1)) (w' := w3007) z (x_als (by kernel_rfl) ew3008 eb3009) ?_
 refine ws_next (pend' := []) hst (by kernel_rfl) pk_nil ?_
 refine ws_e1 7 (by kernel_rfl) ?_
 refine nxe [16, 17] (by kernel_rfl) z z ?_
 clear hst
 intro w hst
 replace hst := hst.pull1
 obtain ⟨I3012, hI3013, f3014, hst⟩ := hst.own_fix
 replace f1_0 := f1_0.mono (ro_le hI3013)
 replace f2980 := f2980.mono (ro_le hI3013)
 replace hI0 := hI0.trans hI3013
 replace hL2697 := hL2697.trans hI3013
 replace hL3043 := hL3043.trans hI3013
 replace hL2925 := hL2925.trans hI3013
 replace hL3035 := hL3035.trans hI3013
 obtain ⟨b3015, w3016, ew3017, eb3018, hst⟩ := hst.lits (E := ty_api_Got) (xs := [t2936]) [[.bool t2936.Has, v2941]] 34 1 z (Reps.cons ⟨_, z, f3014, one_of_sliceV (ro_sliceV f3014)⟩ Reps.nil)
 refine we_run (v := (.slice (some ⟨b3015, 0, none⟩) 1 1)) (w' := w3016) z (x_als (by kernel_rfl) ew3017 eb3018) ?_
 refine ws_next (pend' := []) hst (by kernel_rfl) pk_nil ?_
 refine ws_e1 16 (by kernel_rfl) ?_
 refine nxe [17] (by kernel_rfl) z z ?_
 clear hst
 intro w hst
 obtain ⟨css3020, hq3021, hst⟩ := hst.own_open
 replace hst := hst.pull1
 obtain ⟨css3022, hq3023, hst⟩ := hst.own_open
 obtain ⟨t3024, ht3025, hm⟩ := bind_some hm
 refine wec call12 [(.slice (some ⟨b3015, 0, none⟩) 1 1), (.slice (some ⟨b3006, 0, none⟩) 1 1)] z z ?_
 refine (ref11_SameGots_ref (hst.rdrow1 hq3021) (hst.rdrow0 hq3023) hst.to0 ht3025).mono ?_
 rintro _ w3026 ⟨rfl, hst⟩
 refine ⟨_, z, ?_⟩
 replace hst := hst.of0.pull1.own_close hq3021
 replace hst := hst.pull1.own_close hq3023
 refine ws_next (pend' := []) hst (by kernel_rfl) pk_nil ?_
 refine wsr (.bool (!t3024)) 17 z z z (by kernel_rfl) (fun w hst => z) ?_
 refine ws_nil ?_
 intro w hst
 refine ⟨z, ?_⟩
 replace hst := hst.pull3.pull3.keep2
 obtain rfl := some_inj hm
 exact ⟨_, (!t3024), _, hx3034, (fu 0 p0 z (fu 1 r1_0 z (fu 5 v1633 z (fu 6 (.int .i64 z2692) z (fu 7 (.int .u64 z2920) z (fu 53 (.bool (!t3024)) z z)))))), hL3035, hst⟩
}
}
}
 {
 clear hst
 rintro _ w3036 ⟨I3030, z3029, σ3031, hm, rfl, hL3032, hst⟩
 dsimp only [law11_told_j3] at hm
 replace f1_0 := f1_0.mono (ro_le hL3032)
 replace hI0 := hI0.trans hL3032
 replace hL2697 := hL2697.trans hL3032
 replace hL3043 := hL3043.trans hL3032
 replace hL2925 := hL2925.trans hL3032
 refine tn ?_
 refine bsplit z3029 (fun hc3037 => ?_) (fun hc3037 => ?_)
 {
 replace hm := bif_t hc3037 hm
 refine wp_ift (cvb hc3037) ?_
 refine wp_seq (wrl (wv (.bool false) z z z (wl_nil (tn (wp_ret (blk_r (then_r (then_r ?_))))))))
 replace hm := inr_up hm hx2928
 refine blk_r (then_r ?_)
 replace hm := inr_up hm hx3042
 refine blk_r (then_r (then_r ?_))
 replace hm := inr_up hm hx2700
 refine blk_r (then_r ?_)
 obtain rfl := some_inj hm
 refine post_ret (vs := [.bool false]) results11 (rvs_cons (rv_tmp z) rvs_nil) ?_
 exact ⟨_, z, hI0, hst.keep1⟩
}
 {
 replace hm := bif_f hc3037 hm
 refine wp_iff (cvb hc3037) ?_
 refine wp_skip (blk_n (tn (wrl ?_)))
 refine wv (.int .u64 z2920) z z z (wv (.int .u64 (u64.wrap (z2920 + (1:Int)))) z z z (wv (.int .u64 (u64.wrap (z2920 + (1:Int)))) z z z (wl_nil (tn ?_))))
 replace hst := hst.pull1.pull1.keep2
 obtain rfl := some_inj hm
 exact ⟨_, Nat.lt_succ_self _, _, (u64.wrap (z2920 + (1:Int))), _, hx2928, (fu 0 p0 z (fu 1 r1_0 z (fu 5 v1633 z (fu 6 (.int .i64 z2692) z (fu 7 (.int .u64 (u64.wrap (z2920 + (1:Int)))) z z))))), hL2925, hst⟩
}
}
}
 {
 replace hm := bif_f hc2930 hm
 refine wp_iff (cvb hc2930) ?_
 refine wp_exit (then_x (then_x ?_))
 replace hm := inr_up hm hx2928
 refine blk_x (tn ?_)
 replace hst := hst.pull1.pull1.keep2
 obtain rfl := some_inj hm
 exact ⟨_, _, hx3042, (fu 0 p0 z (fu 1 r1_0 z (fu 5 v1633 z (fu 6 (.int .i64 z2692) z z)))), hL3043, hst⟩
}
}
 {
 clear hst
 rintro _ w3044 ⟨I3038, σ3039, hm, rfl, hL3040, hst⟩
 dsimp only [law11_told_j1] at hm
 replace f1_0 := f1_0.mono (ro_le hL3040)
 replace hI0 := hI0.trans hL3040
 replace hL2697 := hL2697.trans hL3040
 refine wp_seq (wrl (wv (p0) z z z (wv (v1633) z z z (wv (.int .i64 z2692) z z z ?_))))
 obtain ⟨x3045, hx3046, hm⟩ := bind_some hm
 obtain ⟨h3047, h3048, hi3049⟩ := geto_some hx3046
 refine wv (.pointer (some (eAddr v1633 (z2692.toNat * 1 + 0)))) z z (x_index z z underlying44 sizeOf23 hst.sv1 h3047 h3048) (wv (.float .f64 x3045) z z (x_load z isAgg23 (hst.ol1 hi3049 (by rintro _ rfl; rfl))) ?_)
 obtain ⟨t3050, ht3051, hm⟩ := bind_some hm
 refine wc call23 [p0, F6 x3045] z z z ?_
 refine (mvcc_Store_Versions_ref hst.to1 ht3051).mono ?_
 rintro _ w3052 ⟨v3055, rfl, hst⟩
 refine ⟨_, z, ?_⟩
 replace hst := hst.of2
 refine wv (v3055) z z z (wl_nil (tn (wp_seq (wrl (wv (.int .i64 (0:Int)) z z z (wl_nil (tn ?_)))))))
 obtain ⟨y3126, hm, hx3127⟩ := bind_some hm
 refine wp_cut (fun a w => ∃ (z3123 : Int) (σ3124 : Nat → Value), (law11_told_j4 t3050 z2692) z3123 = some y2699 ∧ a = Fr 128 (upd (upd (upd (upd (upd (upd σ3124 0 (p0)) 1 (r1_0)) 5 (v1633)) 6 (.int .i64 z2692)) 8 (v3055)) 9 (.int .i64 z3123)) ∧ St w0 w I3038 [objO at_mvcc_Store p0 a0, ownS tyF64 v1633 t1628, ownS ty_mvcc_Version v3055 t3050] R) ?_ ?_
 {
 refine wp_seq (wrl (wv (.int .i64 (0:Int)) z z z (wl_nil (tn (wp_block ?_)))))
 obtain ⟨n3098, hm⟩ := loopO_some hm
 refine wp_loop_n (fun n a w => ∃ (z3095 : Int) (z3096 : Int) (σ3097 : Nat → Value), loopN (law11_told_l5 a1 x3045) n (z3095, z3096) = some y3126 ∧ a = Fr 128 (upd (upd (upd (upd (upd (upd (upd σ3097 0 (p0)) 1 (r1_0)) 5 (v1633)) 6 (.int .i64 z2692)) 8 (v3055)) 9 (.int .i64 z3096)) 10 (.int .i64 z3095)) ∧ St w0 w I3038 [ownS ty_mvcc_Version v3055 t3050, objO at_mvcc_Store p0 a0, ownS tyF64 v1633 t1628] R) n3098 ⟨(0:Int), (0:Int), _, hm, (fu 0 p0 z (fu 1 r1_0 z (fu 5 v1633 z (fu 6 (.int .i64 z2692) z (fu 8 v3055 z (fu 9 (.int .i64 (0:Int)) z (fu 10 (.int .i64 (0:Int)) z z))))))), hst⟩ ?_
 rintro n3104 _ w3099 ⟨z3095, z3096, σ3097, hm, rfl, hst⟩
 obtain ⟨n3101, y3102, rfl, hm, hx3103⟩ := loopN_some hm
 dsimp only [law11_told_l5] at hm
 refine wp_seq (wp_seq (wrl (wv (.int .i64 z3095) z z z (wv (r1_0) z z z (wv (.int .i64 ((a1).length : Int)) z z (x_len z underlying26 (ro_sliceV f1_0)) (wv (.bool (decide (z3095 < ((a1).length : Int)))) z z z (wl_nil (tn ?_))))))))
 refine bsplit (decide (z3095 < ((a1).length : Int))) (fun hc3105 => ?_) (fun hc3105 => ?_)
 {
 replace hm := bif_t hc3105 hm
 refine wp_ift (cvb hc3105) ?_
 refine wp_skip (tn (wp_seq (wp_block (wp_seq ?_))))
 refine wp_region_St hst 10 [0, 1, 2, 3, 4, 5, 6, 7, 8, 9] [0, 0, 3, 7, 15, 0, 0, 96, 224, 511] [] z (by kernel_rfl) (by kernel_rfl) Try.mixed (by kernel_rfl) ?_
 refine wsr (r1_0) 0 z z z (by kernel_rfl) (fun w hst => z) (wsr (.int .i64 z3095) 1 z z z (by kernel_rfl) (fun w hst => z) ?_)
 obtain ⟨x3106, hx3107, hm⟩ := bind_some hm
 obtain ⟨h3108, h3109, hi3110⟩ := geto_some hx3107
 refine wsr (.pointer (some (eAddr r1_0 (z3095.toNat * 5 + 0)))) 2 z z z (by kernel_rfl) (fun w hst => x_index z z underlying26 sizeOf67 (ro_sliceV f1_0) h3108 h3109) (wsr (.pointer (some (eAddr r1_0 (z3095.toNat * 5 + 0)))) 3 z z z (by kernel_rfl) (fun w hst => x_field_e z underlying67 z sizeOf23 z) ?_)
 obtain ⟨cs3111, hr3112, hc3113⟩ := Ro.getF f1_0 hi3110
 obtain ⟨v3114, rfl, f3115, -⟩ := hr3112
 refine wsr (.float .f64 x3106.At) 4 z z z (by kernel_rfl) (fun w hst => x_load z isAgg23 ((hc3113 (HL.le.refl _) hst) 0 _ z)) (wsr (v1633) 5 z z z (by kernel_rfl) (fun w hst => z) (wsr (.int .i64 z2692) 6 z z z (by kernel_rfl) (fun w hst => z) (wsr (.pointer (some (eAddr v1633 (z2692.toNat * 1 + 0)))) 7 z z z (by kernel_rfl) (fun w hst => x_index z z underlying44 sizeOf23 hst.sv2 h3047 h3048) (wsr (.float .f64 x3045) 8 z z z (by kernel_rfl) (fun w hst => x_load z isAgg23 (hst.ol2 hi3049 (by rintro _ rfl; rfl))) ?_))))
 refine ws_e1 9 (by kernel_rfl) ?_
 refine nxe [] (by kernel_rfl) z z ?_
 clear hst
 intro w hst
 obtain ⟨t3117, ht3118, hm⟩ := bind_some hm
 refine wec call30 [F6 x3106.At, F6 x3045] z z ?_
 refine (ref01_Same_ref hst.to0 ht3118).mono ?_
 rintro _ w3119 ⟨rfl, hst⟩
 refine ⟨_, z, ?_⟩
 replace hst := hst.of0
 refine ws_next (pend' := []) hst (by kernel_rfl) pk_nil ?_
 refine ws_nil ?_
 intro w hst
 refine tn ?_
 refine bsplit t3117 (fun hc3122 => ?_) (fun hc3122 => ?_)
 {
 replace hm := bif_t hc3122 hm
 refine wp_ift (cvb hc3122) ?_
 refine wrl (wv (.int .i64 z3096) z z z (wv (.int .i64 (i64.wrap (z3096 + (1:Int)))) z z z (wv (.int .i64 (i64.wrap (z3096 + (1:Int)))) z z z (wl_nil (blk_n (tn (wrl (wv (.int .i64 z3095) z z z (wv (.int .i64 (i64.wrap (z3095 + (1:Int)))) z z z (wv (.int .i64 (i64.wrap (z3095 + (1:Int)))) z z z (wl_nil (tn ?_))))))))))))
 replace hst := hst.pull2.pull2.pull2.keep3
 obtain rfl := some_inj hm
 exact ⟨_, Nat.lt_succ_self _, (i64.wrap (z3095 + (1:Int))), (i64.wrap (z3096 + (1:Int))), _, hx3103, (fu 0 p0 z (fu 1 r1_0 z (fu 5 v1633 z (fu 6 (.int .i64 z2692) z (fu 8 v3055 z (fu 9 (.int .i64 (i64.wrap (z3096 + (1:Int)))) z (fu 10 (.int .i64 (i64.wrap (z3095 + (1:Int)))) z z))))))), hst⟩
}
 {
 replace hm := bif_f hc3122 hm
 refine wp_iff (cvb hc3122) ?_
 refine wp_skip (blk_n (tn (wrl ?_)))
 refine wv (.int .i64 z3095) z z z (wv (.int .i64 (i64.wrap (z3095 + (1:Int)))) z z z (wv (.int .i64 (i64.wrap (z3095 + (1:Int)))) z z z (wl_nil (tn ?_))))
 replace hst := hst.pull2.pull2.pull2.keep3
 obtain rfl := some_inj hm
 exact ⟨_, Nat.lt_succ_self _, (i64.wrap (z3095 + (1:Int))), z3096, _, hx3103, (fu 0 p0 z (fu 1 r1_0 z (fu 5 v1633 z (fu 6 (.int .i64 z2692) z (fu 8 v3055 z (fu 9 (.int .i64 z3096) z (fu 10 (.int .i64 (i64.wrap (z3095 + (1:Int)))) z z))))))), hst⟩
}
}
 {
 replace hm := bif_f hc3105 hm
 refine wp_iff (cvb hc3105) ?_
 refine wp_exit (then_x (then_x ?_))
 replace hm := inr_up hm hx3103
 refine blk_x (tn ?_)
 replace hst := hst.pull2.pull2.keep3
 obtain rfl := some_inj hm
 exact ⟨z3096, _, hx3127, (fu 0 p0 z (fu 1 r1_0 z (fu 5 v1633 z (fu 6 (.int .i64 z2692) z (fu 8 v3055 z (fu 9 (.int .i64 z3096) z z)))))), hst⟩
}
}
 {
 clear hst
 rintro _ w3128 ⟨z3123, σ3124, hm, rfl, hst⟩
 dsimp only [law11_told_j4] at hm
 refine wp_seq (wp_seq (wrl (wv (v3055) z z z (wv (.int .i64 ((t3050).length : Int)) z z (x_len z underlying53 hst.sv2) (wv (.int .i64 z3123) z z z (wv (.bool (((t3050).length : Int) != z3123)) z z z (wl_nil (tn ?_))))))))
 refine bsplit (((t3050).length : Int) != z3123) (fun hc3129 => ?_) (fun hc3129 => ?_)
 {
 replace hm := bif_t hc3129 hm
 refine wp_ift (cvb hc3129) ?_
 refine wp_seq (wrl (wv (.bool false) z z z (wl_nil (tn (wp_ret (then_r (blk_r (then_r (then_r ?_)))))))))
 replace hm := inr_up hm hx2700
 refine blk_r (then_r ?_)
 obtain rfl := some_inj hm
 refine post_ret (vs := [.bool false]) results11 (rvs_cons (rv_tmp z) rvs_nil) ?_
 exact ⟨_, z, hI0, hst.keep1⟩
}
 {
 replace hm := bif_f hc3129 hm
 refine wp_iff (cvb hc3129) ?_
 refine wp_skip (tn (wp_seq (wrl ?_)))
 refine wv (.int .i64 (1:Int)) z z z (wl_nil (tn (wp_block ?_)))
 obtain ⟨n3189, hm⟩ := loopO_some hm
 refine wp_loop_n (fun n a w => ∃ (z3187 : Int) (σ3188 : Nat → Value), loopN (law11_told_l6 t3050 z2692) n z3187 = some y2699 ∧ a = Fr 128 (upd (upd (upd (upd (upd (upd σ3188 0 (p0)) 1 (r1_0)) 5 (v1633)) 6 (.int .i64 z2692)) 8 (v3055)) 11 (.int .i64 z3187)) ∧ St w0 w I3038 [objO at_mvcc_Store p0 a0, ownS tyF64 v1633 t1628, ownS ty_mvcc_Version v3055 t3050] R) n3189 ⟨(1:Int), _, hm, (fu 0 p0 z (fu 1 r1_0 z (fu 5 v1633 z (fu 6 (.int .i64 z2692) z (fu 8 v3055 z (fu 11 (.int .i64 (1:Int)) z z)))))), hst⟩ ?_
 rintro n3195 _ w3190 ⟨z3187, σ3188, hm, rfl, hst⟩
 obtain ⟨n3192, y3193, rfl, hm, hx3194⟩ := loopN_some hm
 dsimp only [law11_told_l6] at hm
 refine wp_seq (wp_seq (wrl (wv (.int .i64 z3187) z z z (wv (v3055) z z z (wv (.int .i64 ((t3050).length : Int)) z z (x_len z underlying53 hst.sv2) (wv (.bool (decide (z3187 < ((t3050).length : Int)))) z z z (wl_nil (tn ?_))))))))
 refine bsplit (decide (z3187 < ((t3050).length : Int))) (fun hc3196 => ?_) (fun hc3196 => ?_)
 {
 replace hm := bif_t hc3196 hm
 refine wp_ift (cvb hc3196) ?_
 refine wp_skip (tn (wp_seq (wp_block (wp_seq ?_))))
 replace hst := hst.pull2
 obtain ⟨css3197, hq3198, hst⟩ := hst.own_open
 refine wq_regionS hst Try.mixed (by kernel_rfl) ?_
 refine wq_run (v := v3055) z z (fun w hst => z) ?_
 refine wq_run (v := .int .i64 z3187) z z (fun w hst => z) ?_
 refine wq_run (v := .int .i64 (i64.wrap (z3187 - (1:Int)))) z z (fun w hst => z) ?_
 obtain ⟨x3199, hx3200, hm⟩ := bind_some hm
 obtain ⟨h3201, h3202, hi3203⟩ := geto_some hx3200
 refine wq_run (v := .pointer (some (eAddr v3055 ((i64.wrap (z3187 - (1:Int))).toNat * 4 + 0)))) z z (fun w hst => x_index z z underlying53 sizeOf52 (hst.rsv 0 z hq3198) h3201 h3202) ?_
 refine wq_run (v := .pointer (some (eAddr v3055 ((i64.wrap (z3187 - (1:Int))).toNat * 4 + 0)))) z z (fun w hst => x_field_e z underlying52 z sizeOf24 z) ?_
 obtain ⟨cs3204, hc3206, hr3205⟩ := Reps.get hq3198 hi3203
 obtain ⟨v3207, rfl, f3208, -⟩ := hr3205
 refine wq_run (v := .int .u64 x3199.Epoch) z z (fun w hst => x_load z isAgg24 ((hst.rcell 0 z hc3206) 0 _ z)) ?_
 refine wq_run (v := v3055) z z (fun w hst => z) ?_
 refine wq_run (v := .int .i64 z3187) z z (fun w hst => z) ?_
 obtain ⟨x3210, hx3211, hm⟩ := bind_some hm
 obtain ⟨h3212, h3213, hi3214⟩ := geto_some hx3211
 refine wq_run (v := .pointer (some (eAddr v3055 (z3187.toNat * 4 + 0)))) z z (fun w hst => x_index z z underlying53 sizeOf52 (hst.rsv 0 z hq3198) h3212 h3213) ?_
 refine wq_run (v := .pointer (some (eAddr v3055 (z3187.toNat * 4 + 0)))) z z (fun w hst => x_field_e z underlying52 z sizeOf24 z) ?_
 obtain ⟨cs3215, hc3217, hr3216⟩ := Reps.get hq3198 hi3214
 obtain ⟨v3218, rfl, f3219, -⟩ := hr3216
 refine wq_run (v := .int .u64 x3210.Epoch) z z (fun w hst => x_load z isAgg24 ((hst.rcell 0 z hc3217) 0 _ z)) ?_
 refine wq_run (v := .bool (decide (x3199.Epoch > x3210.Epoch))) z z (fun w hst => z) ?_
 refine wq_run (v := .bool (decide (x3199.Epoch > x3210.Epoch))) z z (fun w hst => z) ?_
 refine bsplit (decide (x3199.Epoch > x3210.Epoch)) (fun hc3221 => ?_) (fun hc3221 => ?_)
 {
 replace hm := bif_t hc3221 hm
 refine wq_off ((wanted_eq z z z (cvb hc3221)).trans z) z ?_
 refine wq_off ((wanted_eq z z z (cvb hc3221)).trans z) z ?_
 refine wq_off ((wanted_eq z z z (cvb hc3221)).trans z) z ?_
 refine wq_off ((wanted_eq z z z (cvb hc3221)).trans z) z ?_
 refine wq_off ((wanted_eq z z z (cvb hc3221)).trans z) z ?_
 refine wq_off ((wanted_eq z z z (cvb hc3221)).trans z) z ?_
 refine wq_off ((wanted_eq z z z (cvb hc3221)).trans z) z ?_
 refine wq_off ((wanted_eq z z z (cvb hc3221)).trans z) z ?_
 refine wq_off ((wanted_eq z z z (cvb hc3221)).trans z) z ?_
 refine wq_off ((wanted_eq z z z (cvb hc3221)).trans z) z ?_
 refine wq_off ((wanted_eq z z z (cvb hc3221)).trans z) z ?_
 refine wq_off ((wanted_eq z z z (cvb hc3221)).trans z) z ?_
 refine wq_off ((wanted_eq z z z (cvb hc3221)).trans z) z ?_
 refine wq_off (wanted_undef z z z z) z ?_
 refine wq_off (wanted_undef z z z z) z ?_
 refine wq_off (wanted_undef z z z z) z ?_
 refine wq_off (wanted_undef z z z z) z ?_
 refine wq_off (wanted_undef z z z z) z ?_
 refine wq_off (wanted_undef z z z z) z ?_
 refine wq_off (wanted_undef z z z z) z ?_
 refine wq_off (wanted_undef z z z z) z ?_
 refine wq_off (wanted_undef z z z z) z ?_
 refine wq_off (wanted_undef z z z z) z ?_
 refine wq_off (wanted_undef z z z z) z ?_
 refine wq_off (wanted_undef z z z z) z ?_
 refine wq_off ((wanted_eq z z z (cvb hc3221)).trans z) z ?_
 refine wq_run (v := .bool true) z z (fun w hst => x_pick_t hc3221 z z) ?_
 refine wq_nil ?_
 intro w hst
 replace hst := hst.own_close hq3198
 refine tn ?_
 refine wp_ift z ?_
 refine wp_seq (wrl (wv (.bool false) z z z (wl_nil (tn (wp_ret (blk_r (then_r (then_r ?_))))))))
 replace hm := inr_up hm hx3194
 refine blk_r (blk_r (then_r (then_r ?_)))
 replace hm := inr_up hm hx2700
 refine blk_r (then_r ?_)
 obtain rfl := some_inj hm
 refine post_ret (vs := [.bool false]) results11 (rvs_cons (rv_tmp z) rvs_nil) ?_
 replace hst := hst.pull1
 exact ⟨_, z, hI0, hst.keep1⟩
}
 {
 replace hm := bif_f hc3221 hm
 refine wq_run (v := v3055) ((wanted_eq z z z (cvb hc3221)).trans z) z (fun w hst => z) ?_
 refine wq_run (v := .int .i64 z3187) ((wanted_eq z z z (cvb hc3221)).trans z) z (fun w hst => z) ?_
 refine wq_run (v := .int .i64 (i64.wrap (z3187 - (1:Int)))) ((wanted_eq z z z (cvb hc3221)).trans z) z (fun w hst => z) ?_
 refine wq_run (v := .pointer (some (eAddr v3055 ((i64.wrap (z3187 - (1:Int))).toNat * 4 + 0)))) ((wanted_eq z z z (cvb hc3221)).trans z) z (fun w hst => x_index z z underlying53 sizeOf52 (hst.rsv 0 z hq3198) h3201 h3202) ?_
 refine wq_run (v := .pointer (some (eAddr v3055 ((i64.wrap (z3187 - (1:Int))).toNat * 4 + 0)))) ((wanted_eq z z z (cvb hc3221)).trans z) z (fun w hst => x_field_e z underlying52 z sizeOf24 z) ?_
 refine wq_run (v := .int .u64 x3199.Epoch) ((wanted_eq z z z (cvb hc3221)).trans z) z (fun w hst => x_load z isAgg24 ((hst.rcell 0 z hc3206) 0 _ z)) ?_
 refine wq_run (v := v3055) ((wanted_eq z z z (cvb hc3221)).trans z) z (fun w hst => z) ?_
 refine wq_run (v := .int .i64 z3187) ((wanted_eq z z z (cvb hc3221)).trans z) z (fun w hst => z) ?_
 refine wq_run (v := .pointer (some (eAddr v3055 (z3187.toNat * 4 + 0)))) ((wanted_eq z z z (cvb hc3221)).trans z) z (fun w hst => x_index z z underlying53 sizeOf52 (hst.rsv 0 z hq3198) h3212 h3213) ?_
 refine wq_run (v := .pointer (some (eAddr v3055 (z3187.toNat * 4 + 0)))) ((wanted_eq z z z (cvb hc3221)).trans z) z (fun w hst => x_field_e z underlying52 z sizeOf24 z) ?_
 refine wq_run (v := .int .u64 x3210.Epoch) ((wanted_eq z z z (cvb hc3221)).trans z) z (fun w hst => x_load z isAgg24 ((hst.rcell 0 z hc3217) 0 _ z)) ?_
 refine wq_run (v := .bool (x3199.Epoch == x3210.Epoch)) ((wanted_eq z z z (cvb hc3221)).trans z) z (fun w hst => z) ?_
 refine wq_run (v := .bool (x3199.Epoch == x3210.Epoch)) ((wanted_eq z z z (cvb hc3221)).trans z) z (fun w hst => z) ?_
 refine bsplit (x3199.Epoch == x3210.Epoch) (fun hc3222 => ?_) (fun hc3222 => ?_)
 {
 replace hm := bif_t hc3222 hm
 refine wq_run (v := v3055) ((wanted_eq z z z (cvb hc3222)).trans z) z (fun w hst => z) ?_
 refine wq_run (v := .int .i64 z3187) ((wanted_eq z z z (cvb hc3222)).trans z) z (fun w hst => z) ?_
 refine wq_run (v := .int .i64 (i64.wrap (z3187 - (1:Int)))) ((wanted_eq z z z (cvb hc3222)).trans z) z (fun w hst => z) ?_
 refine wq_run (v := .pointer (some (eAddr v3055 ((i64.wrap (z3187 - (1:Int))).toNat * 4 + 0)))) ((wanted_eq z z z (cvb hc3222)).trans z) z (fun w hst => x_index z z underlying53 sizeOf52 (hst.rsv 0 z hq3198) h3201 h3202) ?_
 refine wq_run (v := .pointer (some (eAddr v3055 ((i64.wrap (z3187 - (1:Int))).toNat * 4 + 1)))) ((wanted_eq z z z (cvb hc3222)).trans z) z (fun w hst => x_field_e z underlying52 z sizeOf24 z) ?_
 refine wq_run (v := .int .u64 x3199.Index) ((wanted_eq z z z (cvb hc3222)).trans z) z (fun w hst => x_load z isAgg24 ((hst.rcell 0 z hc3206) 1 _ z)) ?_
 refine wq_run (v := v3055) ((wanted_eq z z z (cvb hc3222)).trans z) z (fun w hst => z) ?_
 refine wq_run (v := .int .i64 z3187) ((wanted_eq z z z (cvb hc3222)).trans z) z (fun w hst => z) ?_
 refine wq_run (v := .pointer (some (eAddr v3055 (z3187.toNat * 4 + 0)))) ((wanted_eq z z z (cvb hc3222)).trans z) z (fun w hst => x_index z z underlying53 sizeOf52 (hst.rsv 0 z hq3198) h3212 h3213) ?_
 refine wq_run (v := .pointer (some (eAddr v3055 (z3187.toNat * 4 + 1)))) ((wanted_eq z z z (cvb hc3222)).trans z) z (fun w hst => x_field_e z underlying52 z sizeOf24 z) ?_
 refine wq_run (v := .int .u64 x3210.Index) ((wanted_eq z z z (cvb hc3222)).trans z) z (fun w hst => x_load z isAgg24 ((hst.rcell 0 z hc3217) 1 _ z)) ?_
 refine wq_run (v := .bool (decide (x3199.Index ≥ x3210.Index))) ((wanted_eq z z z (cvb hc3222)).trans z) z (fun w hst => z) ?_
 refine wq_run (v := .bool (decide (x3199.Index ≥ x3210.Index))) ((wanted_eq z z z (cvb hc3221)).trans z) z (fun w hst => x_pick_t hc3222 z z) ?_
 refine wq_run (v := .bool (decide (x3199.Index ≥ x3210.Index))) z z (fun w hst => x_pick_f hc3221 z z) ?_
 refine wq_nil ?_
 intro w hst
 replace hst := hst.own_close hq3198
 refine tn ?_
 refine bsplit (decide (x3199.Index ≥ x3210.Index)) (fun hc3223 => ?_) (fun hc3223 => ?_)
 {
 replace hm := bif_t hc3223 hm
 refine wp_ift (cvb hc3223) ?_
 refine wp_seq (wrl (wv (.bool false) z z z (wl_nil (tn (wp_ret (blk_r (then_r (then_r ?_))))))))
 replace hm := inr_up hm hx3194
 refine blk_r (blk_r (then_r (then_r ?_)))
 replace hm := inr_up hm hx2700
 refine blk_r (then_r ?_)
 obtain rfl := some_inj hm
 refine post_ret (vs := [.bool false]) results11 (rvs_cons (rv_tmp z) rvs_nil) ?_
 replace hst := hst.pull1
 exact ⟨_, z, hI0, hst.keep1⟩
}
 {
 replace hm := bif_f hc3223 hm
 refine wp_iff (cvb hc3223) ?_
 refine wp_skip (blk_n (tn (wrl ?_)))
 refine wv (.int .i64 z3187) z z z (wv (.int .i64 (i64.wrap (z3187 + (1:Int)))) z z z (wv (.int .i64 (i64.wrap (z3187 + (1:Int)))) z z z (wl_nil (tn ?_))))
 replace hst := hst.pull2.pull2.keep3
 obtain rfl := some_inj hm
 exact ⟨_, Nat.lt_succ_self _, (i64.wrap (z3187 + (1:Int))), _, hx3194, (fu 0 p0 z (fu 1 r1_0 z (fu 5 v1633 z (fu 6 (.int .i64 z2692) z (fu 8 v3055 z (fu 11 (.int .i64 (i64.wrap (z3187 + (1:Int)))) z z)))))), hst⟩
}
}
 {
 replace hm := bif_f hc3222 hm
 refine wq_off ((wanted_eq z z z (cvb hc3222)).trans z) z ?_
 refine wq_off ((wanted_eq z z z (cvb hc3222)).trans z) z ?_
 refine wq_off ((wanted_eq z z z (cvb hc3222)).trans z) z ?_
 refine wq_off ((wanted_eq z z z (cvb hc3222)).trans z) z ?_
 refine wq_off ((wanted_eq z z z (cvb hc3222)).trans z) z ?_
 refine wq_off ((wanted_eq z z z (cvb hc3222)).trans z) z ?_
 refine wq_off ((wanted_eq z z z (cvb hc3222)).trans z) z ?_
 refine wq_off ((wanted_eq z z z (cvb hc3222)).trans z) z ?_
 refine wq_off ((wanted_eq z z z (cvb hc3222)).trans z) z ?_
 refine wq_off ((wanted_eq z z z (cvb hc3222)).trans z) z ?_
 refine wq_off ((wanted_eq z z z (cvb hc3222)).trans z) z ?_
 refine wq_off ((wanted_eq z z z (cvb hc3222)).trans z) z ?_
 refine wq_run (v := .bool false) ((wanted_eq z z z (cvb hc3221)).trans z) z (fun w hst => x_pick_f hc3222 z z) ?_
 refine wq_run (v := .bool false) z z (fun w hst => x_pick_f hc3221 z z) ?_
 refine wq_nil ?_
 intro w hst
 replace hst := hst.own_close hq3198
 refine tn ?_
 refine wp_iff z ?_
 refine wp_skip (blk_n (tn (wrl ?_)))
 refine wv (.int .i64 z3187) z z z (wv (.int .i64 (i64.wrap (z3187 + (1:Int)))) z z z (wv (.int .i64 (i64.wrap (z3187 + (1:Int)))) z z z (wl_nil (tn ?_))))
 replace hst := hst.pull2.pull2.keep3
 obtain rfl := some_inj hm
 exact ⟨_, Nat.lt_succ_self _, (i64.wrap (z3187 + (1:Int))), _, hx3194, (fu 0 p0 z (fu 1 r1_0 z (fu 5 v1633 z (fu 6 (.int .i64 z2692) z (fu 8 v3055 z (fu 11 (.int .i64 (i64.wrap (z3187 + (1:Int)))) z z)))))), hst⟩
}
}
}
 {
 replace hm := bif_f hc3196 hm
 refine wp_iff (cvb hc3196) ?_
 refine wp_exit (then_x (then_x ?_))
 replace hm := inr_up hm hx3194
 refine blk_x (blk_n (tn (wrl ?_)))
 refine wv (.int .i64 z2692) z z z (wv (.int .i64 (i64.wrap (z2692 + (1:Int)))) z z z (wv (.int .i64 (i64.wrap (z2692 + (1:Int)))) z z z (wl_nil (tn ?_))))
 replace hst := hst.pull1.pull1.keep2
 obtain rfl := some_inj hm
 exact ⟨_, Nat.lt_succ_self _, _, (i64.wrap (z2692 + (1:Int))), _, hx2700, (fu 0 p0 z (fu 1 r1_0 z (fu 5 v1633 z (fu 6 (.int .i64 (i64.wrap (z2692 + (1:Int)))) z z)))), hL2697, hst⟩
}
}
}
}
}
 {
 replace hm := bif_f hc2702 hm
 refine wp_iff (cvb hc2702) ?_
 refine wp_exit (then_x (then_x ?_))
 replace hm := inr_up hm hx2700
 refine blk_x (tn (wp_seq (wrl ?_)))
 refine wv (.bool true) z z z (wl_nil (tn (wp_ret ?_)))
 obtain rfl := some_inj hm
 refine post_ret (vs := [.bool true]) results11 (rvs_cons (rv_tmp z) rvs_nil) ?_
 exact ⟨_, z, hI0, hst.keep1⟩
}
}
}
}

theorem law11_MvccPuts_ref {w0 w : World} {I : HL} {R : SP} {a0 : (List law11_Ver)} {r0_0 : Value} {a1 : Nat} {a2 : Int} (f0_0 : Ro ty_law11_Ver I r0_0 a0) (hst : St w0 w I [] R) {r : (Bool)} (hm : law11_MvccPuts a0 a1 a2 = some r) :
  Calls prog 3 #[r0_0, F6 a1, U6 a2] w fun e w' => ∃ (I' : HL), e = .returned (.bool r) ∧ I.le I' ∧ St w0 w' I' [] R := by {
 unfold law11_MvccPuts at hm
 refine calls_start (args := [r0_0, F6 a1, U6 a2]) func3 z ntmps3 (Nat.le_of_ble_eq_true z) ?_
 have hI0 := HL.le.refl I
 refine wp_seq (wrl (wv (.bool false) z z z (wl_nil (tn (wp_seq (wrl (wv (r0_0) z z z ?_)))))))
 obtain ⟨t77, ht78, hm⟩ := bind_some hm
 refine wc call9 [r0_0] z z z ?_
 refine (law11_fill_ref f0_0 hst.to0 ht78).mono ?_
 rintro _ w79 ⟨I80, v82, v84, rfl, hI81, hst⟩
 refine ⟨_, z, ?_⟩
 replace hst := hst.of2
 replace f0_0 := f0_0.mono (ro_le hI81)
 replace hI0 := hI0.trans hI81
 refine wv (.tuple #[v82, v84, .bool t77.2.2]) z z z (wv (v82) z z z (wv (v84) z z z (wv (.bool t77.2.2) z z z (wv (v82) z z z (wv (v84) z z z (wv (.bool t77.2.2) z z z (wl_nil (tn (wp_seq (wp_seq (wrl ?_)))))))))))
 obtain ⟨t86, ht87, hm⟩ := bind_some hm
 refine wc call10 [] z z z ?_
 refine (law11_awake_ref hst.to0 ht87).mono ?_
 rintro _ w88 ⟨I89, rfl, hI90, hst⟩
 refine ⟨_, z, ?_⟩
 replace hst := hst.of0
 replace f0_0 := f0_0.mono (ro_le hI90)
 replace hI0 := hI0.trans hI90
 refine wv (.bool (!t86)) z z z (wv (.bool (!t86)) z z z ?_)
 refine bsplit (!t86) (fun hc91 => ?_) (fun hc91 => ?_)
 {
 replace hm := bif_t hc91 hm
 refine wo hc91 z z z z z z (wo hc91 z z z z z z (wv (.bool true) z z (x_pick_t hc91 z z) (wl_nil (tn ?_))))
 refine wp_ift z ?_
 refine wp_seq (wrl ?_)
 obtain ⟨t92, ht93, hm⟩ := bind_some hm
 refine wc call10 [] z z z ?_
 refine (law11_awake_ref hst.to0 ht93).mono ?_
 rintro _ w94 ⟨I95, rfl, hI96, hst⟩
 refine ⟨_, z, ?_⟩
 replace hst := hst.of0
 replace f0_0 := f0_0.mono (ro_le hI96)
 replace hI0 := hI0.trans hI96
 refine wv (.bool t92) z z z (wl_nil (tn (wp_ret (then_r ?_))))
 obtain rfl := some_inj hm
 refine post_ret (vs := [.bool t92]) results3 (rvs_cons (rv_tmp z) rvs_nil) ?_
 exact ⟨_, z, hI0, hst.keep0⟩
}
 {
 replace hm := bif_f hc91 hm
 refine wv (.bool t77.2.2) ((wanted_eq z z z (cvb hc91)).trans z) z z (wv (.bool (!t77.2.2)) ((wanted_eq z z z (cvb hc91)).trans z) z z (wv (.bool (!t77.2.2)) z z (x_pick_f hc91 z z) (wl_nil (tn ?_))))
 refine bsplit (!t77.2.2) (fun hc97 => ?_) (fun hc97 => ?_)
 {
 replace hm := bif_t hc97 hm
 refine wp_ift (cvb hc97) ?_
 refine wp_seq (wrl ?_)
 obtain ⟨t98, ht99, hm⟩ := bind_some hm
 refine wc call10 [] z z z ?_
 refine (law11_awake_ref hst.to0 ht99).mono ?_
 rintro _ w100 ⟨I101, rfl, hI102, hst⟩
 refine ⟨_, z, ?_⟩
 replace hst := hst.of0
 replace f0_0 := f0_0.mono (ro_le hI102)
 replace hI0 := hI0.trans hI102
 refine wv (.bool t98) z z z (wl_nil (tn (wp_ret (then_r ?_))))
 obtain rfl := some_inj hm
 refine post_ret (vs := [.bool t98]) results3 (rvs_cons (rv_tmp z) rvs_nil) ?_
 exact ⟨_, z, hI0, hst.keep0⟩
}
 {
 replace hm := bif_f hc97 hm
 refine wp_iff (cvb hc97) ?_
 refine wp_skip (tn (wp_seq (wrl ?_)))
 refine wv (v82) z z z (wv (v84) z z z ?_)
 replace hst := objO_some hst
 replace hst := hst.pull1
 obtain ⟨I103, hI104, f105, hst⟩ := hst.own_fix
 replace f0_0 := f0_0.mono (ro_le hI104)
 replace hI0 := hI0.trans hI104
 obtain ⟨t106, ht107, hm⟩ := bind_some hm
 refine wc call11 [v82, v84] z z z ?_
 refine (law11_told_ref f105 hst.to1 ht107).mono ?_
 rintro _ w108 ⟨I109, rfl, hI110, hst⟩
 refine ⟨_, z, ?_⟩
 replace hst := hst.of1
 replace f0_0 := f0_0.mono (ro_le hI110)
 replace f105 := f105.mono (ro_le hI110)
 replace hI0 := hI0.trans hI110
 replace hst := objO_get hst
 refine wv (.bool t106) z z z ?_
 refine bsplit t106 (fun hc111 => ?_) (fun hc111 => ?_)
 {
 replace hm := bif_t hc111 hm
 refine wv (v82) ((wanted_eq z z z (cvb hc111)).trans z) z z (wv (.float .f64 a1) ((wanted_eq z z z (cvb hc111)).trans z) z z (wv (.int .u64 a2) ((wanted_eq z z z (cvb hc111)).trans z) z z ?_))
 replace hst := objO_some hst
 obtain ⟨t112, ht113, hm⟩ := bind_some hm
 refine wl_call ((wanted_eq z z z (cvb hc111)).trans z) z (x_call call13 z (vs := [v82, F6 a1, U6 a2]) z) ?_
 refine (mvcc_Store_Get_ref hst.to1 ht113).mono ?_
 rintro _ w114 ⟨v117, rfl, hst⟩
 refine ⟨_, z, ?_⟩
 replace hst := hst.of2.pull1
 replace hst := objO_get hst
 replace hst := hst.pull1
 obtain ⟨I120, hI121, f122, hst⟩ := hst.own_fix
 replace f0_0 := f0_0.mono (ro_le hI121)
 replace f105 := f105.mono (ro_le hI121)
 replace hI0 := hI0.trans hI121
 obtain ⟨b123, w124, ew125, eb126, hst⟩ := hst.lits (E := ty_api_Got) (xs := [t112]) [[.bool t112.Has, v117]] 34 1 z (Reps.cons ⟨_, z, f122, one_of_sliceV (ro_sliceV f122)⟩ Reps.nil)
 refine wl_run (v := (.slice (some ⟨b123, 0, none⟩) 1 1)) (w' := w124) ((wanted_eq z z z (cvb hc111)).trans z) z (x_als (by kernel_rfl) ew125 eb126) ?_
 refine wv (v84) ((wanted_eq z z z (cvb hc111)).trans z) z z (wv (.float .f64 a1) ((wanted_eq z z z (cvb hc111)).trans z) z z (wv (.int .u64 a2) ((wanted_eq z z z (cvb hc111)).trans z) z z ?_))
 obtain ⟨t128, ht129, hm⟩ := bind_some hm
 refine wl_call ((wanted_eq z z z (cvb hc111)).trans z) z (x_call call14 z (vs := [v84, F6 a1, U6 a2]) z) ?_
 refine (ref11_Get_ref f105 hst.to0 ht129).mono ?_
 rintro _ w130 ⟨I131, v133, rfl, hI132, f135, hst⟩
 refine ⟨_, z, ?_⟩
 replace hst := hst.of0
 replace f0_0 := f0_0.mono (ro_le hI132)
 replace f105 := f105.mono (ro_le hI132)
 replace f122 := f122.mono (ro_le hI132)
 replace hI0 := hI0.trans hI132
 obtain ⟨b137, w138, ew139, eb140, hst⟩ := hst.lits (E := ty_api_Got) (xs := [t128]) [[.bool t128.Has, v133]] 34 1 z (Reps.cons ⟨_, z, f135, one_of_sliceV (ro_sliceV f135)⟩ Reps.nil)
 refine wl_run (v := (.slice (some ⟨b137, 0, none⟩) 1 1)) (w' := w138) ((wanted_eq z z z (cvb hc111)).trans z) z (x_als (by kernel_rfl) ew139 eb140) ?_
 replace hst := hst.pull1
 obtain ⟨css142, hq143, hst⟩ := hst.own_open
 replace hst := hst.pull1
 obtain ⟨css144, hq145, hst⟩ := hst.own_open
 obtain ⟨t146, ht147, hm⟩ := bind_some hm
 refine wl_call ((wanted_eq z z z (cvb hc111)).trans z) z (x_call call12 z (vs := [(.slice (some ⟨b123, 0, none⟩) 1 1), (.slice (some ⟨b137, 0, none⟩) 1 1)]) z) ?_
 refine (ref11_SameGots_ref (hst.rdrow1 hq143) (hst.rdrow0 hq145) hst.to0 ht147).mono ?_
 rintro _ w148 ⟨rfl, hst⟩
 refine ⟨_, z, ?_⟩
 replace hst := hst.of0.pull1.own_close hq143
 replace hst := hst.pull1.own_close hq145
 refine wv (.bool t146) z z (x_pick_t hc111 z z) (wv (.bool t146) z z z (wl_nil (tn (wp_ret ?_))))
 obtain rfl := some_inj hm
 refine post_ret (vs := [.bool t146]) results3 (rvs_cons (rv_tmp z) rvs_nil) ?_
 exact ⟨_, z, hI0, hst.keep0⟩
}
 {
 replace hm := bif_f hc111 hm
 refine wo hc111 z z z z z z (wo hc111 z z z z z z (wo hc111 z z z z z z (wo hc111 z z z z z z (wo hc111 z z z z z z (wo hc111 z z z z z z (wo hc111 z z z z z z (wo hc111 z z z z z z (wo hc111 z z z z z z (wo hc111 z z z z z z (wo hc111 z z z z z z (wv (.bool false) z z (x_pick_f hc111 z z) (wv (.bool false) z z z ?_))))))))))))
 refine wl_nil (tn (wp_ret ?_))
 obtain rfl := some_inj hm
 refine post_ret (vs := [.bool false]) results3 (rvs_cons (rv_tmp z) rvs_nil) ?_
 exact ⟨_, z, hI0, hst.keep0⟩
}
}
}
}

end Go.Proofs.Ytbdnbohbmgmonaa
