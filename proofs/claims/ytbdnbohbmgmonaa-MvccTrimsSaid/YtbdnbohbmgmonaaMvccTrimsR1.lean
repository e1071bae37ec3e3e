/- The Go functions refine their models, part 1. -/
import Derived.Test.YtbdnbohbmgmonaaMvccTrimsR0
set_option linter.unusedVariables false
set_option linter.unusedSimpArgs false
set_option maxRecDepth 100000
set_option maxHeartbeats 4000000
namespace Go.Proofs.Ytbdnbohbmgmonaa
open Go Go.V
open _root_.Go.Proofs.Try IntKind
attribute [local irreducible] wpList Code.wp wpQuiet Calls bodyPost Oper.wp wpS Nx PendOK YieldsIn
theorem law11_awake_ref {w0 w : World} {I : HL} {R : SP}   (hst : St w0 w I [] R) {r : (Bool)} (hm : law11_awake = some r) :
  Calls prog 10 #[] w fun e w' => ∃ (I' : HL), e = .returned (.bool r) ∧ I.le I' ∧ St w0 w' I' [] R := by {
 unfold law11_awake at hm
 refine calls_start (args := []) func10 z ntmps10 (Nat.le_of_ble_eq_true z) ?_
 have hI0 := HL.le.refl I
 refine wp_seq (wrl (wv (.bool false) z z z (wl_nil (tn (wp_seq (wrl ?_))))))
 obtain ⟨t66, ht67, hm⟩ := bind_some hm
 refine wc call21 [] z z z ?_
 refine (mvcc_New_ref hst.to0 ht67).mono ?_
 rintro _ w68 ⟨v71, rfl, hst⟩
 refine ⟨_, z, ?_⟩
 replace hst := hst.of1
 refine wv (v71) z z z (wl_nil (tn (wp_seq (wrl (wv (v71) z z z ?_)))))
 obtain ⟨b73, w74, ew75, eb76, hst⟩ := hst.lits (E := (tyInt .u8)) (xs := [(97:Int)]) [[U1 (97:Int)]] 5 1 z (Reps.cons z Reps.nil)
 refine wl_run (v := (.slice (some ⟨b73, 0, none⟩) 1 1)) (w' := w74) z z (x_als (by kernel_rfl) ew75 eb76) ?_
 obtain ⟨I78, w81, hI79, f80, hr82, hst⟩ := hst.own_mark (P := prog) underlying32 underlying5 (List.cons_ne_nil _ _)
 replace hI0 := hI0.trans hI79
 refine wl_run (v := (.slice (some ⟨b73, 0, none⟩) 1 1)) (w' := w81) z z (x_conv z hr82) ?_
 refine wv (.agg #[U6 (2:Int), Zu, .bool false, (.slice (some ⟨b73, 0, none⟩) 1 1)]) z z (by kernel_rfl) ?_
 replace hst := objO_some hst
 obtain ⟨t84, ht85, hm⟩ := bind_some hm
 refine wc call22 [v71, F6 (4607182418800017408:Nat), .agg #[U6 (2:Int), Zu, .bool false, (.slice (some ⟨b73, 0, none⟩) 1 1)]] z z z ?_
 refine (mvcc_Store_Put_ref (a2 := ({ Epoch := (2:Int), Index := (0:Int), Del := false, Val := [(97:Int)] } : mvcc_Version)) (f80.mono ro_rd) hst.to1 ht85).mono ?_
 rintro _ w86 ⟨I87, rfl, hI88, hst⟩
 refine ⟨_, z, ?_⟩
 replace hst := hst.of1
 replace f80 := f80.mono (ro_le hI88)
 replace hI0 := hI0.trans hI88
 rcases he90 : t84 with _ | y89
 · rw [he90] at hm; cases hm
 rw [he90] at hm hst; dsimp only at hm; replace hst := objO_get hst
 refine wl_nil (tn (wp_seq (wrl (wv (v71) z z z (wv (.agg #[U6 (3:Int), Zu, .bool true, Zs]) z z (by kernel_rfl) ?_)))))
 replace hst := objO_some hst
 have f92 : Ro (tyInt .u8) I87 (.slice none 0 0) [] := ro_nil
 obtain ⟨t93, ht94, hm⟩ := bind_some hm
 refine wc call22 [v71, F6 (4607182418800017408:Nat), .agg #[U6 (3:Int), Zu, .bool true, Zs]] z z z ?_
 refine (mvcc_Store_Put_ref (a2 := ({ Epoch := (3:Int), Index := (0:Int), Del := true, Val := [] } : mvcc_Version)) (f92.mono ro_rd) hst.to1 ht94).mono ?_
 rintro _ w95 ⟨I96, rfl, hI97, hst⟩
 refine ⟨_, z, ?_⟩
 replace hst := hst.of1
 replace f80 := f80.mono (ro_le hI97)
 replace f92 := f92.mono (ro_le hI97)
 replace hI0 := hI0.trans hI97
 rcases he99 : t93 with _ | y98
 · rw [he99] at hm; cases hm
 rw [he99] at hm hst; dsimp only at hm; replace hst := objO_get hst
 refine wl_nil (tn (wp_seq (wrl (wv (v71) z z z ?_))))
 replace hst := objO_some hst
 obtain ⟨t100, ht101, hm⟩ := bind_some hm
 refine wc call13 [v71, F6 (4607182418800017408:Nat), U6 (2:Int)] z z z ?_
 refine (mvcc_Store_Get_ref hst.to1 ht101).mono ?_
 rintro _ w102 ⟨v105, rfl, hst⟩
 refine ⟨_, z, ?_⟩
 replace hst := hst.of2.pull1
 replace hst := objO_get hst
 refine wv (v105) z z (by obtain ⟨_, _, hv_, _⟩ := hst.sv1; rw [hv_]; kernel_rfl) (wv (.string (toStr t100.Val)) z z (x_tostr underlying32 underlying9 underlying5 z hst.src1) (wv (.bool (sEq (toStr t100.Val) (ByteArray.mk #[97]))) z z (by kernel_rfl) (wv (.bool (sEq (toStr t100.Val) (ByteArray.mk #[97]))) z z z ?_)))
 refine bsplit (sEq (toStr t100.Val) (ByteArray.mk #[97])) (fun hc107 => ?_) (fun hc107 => ?_)
 {
 replace hm := bif_t hc107 hm
 refine wv (v71) ((wanted_eq z z z (cvb hc107)).trans z) z z ?_
 replace hst := objO_some hst
 obtain ⟨t108, ht109, hm⟩ := bind_some hm
 refine wl_call ((wanted_eq z z z (cvb hc107)).trans z) z (x_call call13 z (vs := [v71, F6 (4607182418800017408:Nat), U6 (3:Int)]) z) ?_
 refine (mvcc_Store_Get_ref hst.to1 ht109).mono ?_
 rintro _ w110 ⟨v113, rfl, hst⟩
 refine ⟨_, z, ?_⟩
 replace hst := hst.of2.pull1
 replace hst := objO_get hst
 refine wv (.bool t108.Has) ((wanted_eq z z z (cvb hc107)).trans z) z (by obtain ⟨_, _, hv_, _⟩ := hst.sv1; rw [hv_]; kernel_rfl) (wv (.bool (!t108.Has)) ((wanted_eq z z z (cvb hc107)).trans z) z z (wv (.bool (!t108.Has)) z z (x_pick_t hc107 z z) (wv (.bool (!t108.Has)) z z z ?_)))
 refine bsplit (!t108.Has) (fun hc115 => ?_) (fun hc115 => ?_)
 {
 replace hm := bif_t hc115 hm
 refine wv (v71) ((wanted_eq z z z (cvb hc115)).trans z) z z ?_
 replace hst := objO_some hst
 obtain ⟨t116, ht117, hm⟩ := bind_some hm
 refine wl_call ((wanted_eq z z z (cvb hc115)).trans z) z (x_call call25 z (vs := [v71]) z) ?_
 refine (mvcc_Store_Size_ref hst.to1 ht117).mono ?_
 rintro _ w118 ⟨rfl, hst⟩
 refine ⟨_, z, ?_⟩
 replace hst := hst.of1
 replace hst := objO_get hst
 refine wv (.bool (t116 == (2:Int))) ((wanted_eq z z z (cvb hc115)).trans z) z z (wv (.bool (t116 == (2:Int))) z z (x_pick_t hc115 z z) (wv (.bool (t116 == (2:Int))) z z z (wl_nil (tn (wp_ret ?_)))))
 obtain rfl := some_inj hm
 refine post_ret (vs := [.bool (t116 == (2:Int))]) results10 (rvs_cons (rv_tmp z) rvs_nil) ?_
 exact ⟨_, z, hI0, hst.keep0⟩
}
 {
 replace hm := bif_f hc115 hm
 refine wo hc115 z z z z z z (wo hc115 z z z z z z (wo hc115 z z z z z z (wv (.bool false) z z (x_pick_f hc115 z z) (wv (.bool false) z z z (wl_nil (tn (wp_ret ?_)))))))
 obtain rfl := some_inj hm
 refine post_ret (vs := [.bool false]) results10 (rvs_cons (rv_tmp z) rvs_nil) ?_
 exact ⟨_, z, hI0, hst.keep0⟩
}
}
 {
 replace hm := bif_f hc107 hm
 refine wo hc107 z z z z z z (wo hc107 z z z z z z (wo hc107 z z z z z z (wo hc107 z z z z z z (wv (.bool false) z z (x_pick_f hc107 z z) (wv (.bool false) z z z (wz z z z z z z (wz z z z z z z (wz z z z z z z (wv (.bool false) z z (x_pick_f z z z) (wv (.bool false) z z z (wl_nil (tn (wp_ret ?_)))))))))))))
 obtain rfl := some_inj hm
 refine post_ret (vs := [.bool false]) results10 (rvs_cons (rv_tmp z) rvs_nil) ?_
 exact ⟨_, z, hI0, hst.keep0⟩
}
}

theorem ref11_Ats_ref {w0 w : World} {I : HL} {R : SP} {a0 : (List ref11_Version)} {r0_0 : Value} (f0_0 : Rd ty_ref11_Version R I r0_0 a0) (hst : St w0 w I [] R) {r : ((List Nat))} (hm : ref11_Ats a0 = some r) :
  Calls prog 18 #[r0_0] w fun e w' => ∃ (I' : HL) (q0_0 : Value), e = .returned (q0_0) ∧ I.le I' ∧ St w0 w' I' [ownS tyF64 q0_0 r] R := by {
 unfold ref11_Ats at hm
 refine calls_start (args := [r0_0]) func18 z ntmps18 (Nat.le_of_ble_eq_true z) ?_
 have hI0 := HL.le.refl I
 refine wp_seq (wrl (wv ((.slice none 0 0)) z z z (wl_nil (tn (wp_seq (wrl (wv ((.slice none 0 0)) z z z (wl_nil (tn (wp_seq (wp_seq (wrl (wv (.int .i64 (0:Int)) z z z (wl_nil (tn (wp_block ?_))))))))))))))))
 replace hst := hst.own_nil tyF64
 obtain ⟨n1175, hm⟩ := loopO_some hm
 refine wp_loop_n (fun n a w => ∃ (I1173 : HL) (z1169 : (List Nat)) (z1172 : Int) (v1170 : Value) (σ1174 : Nat → Value), loopN (ref11_Ats_l0 a0) n (z1169, z1172) = some r ∧ a = Fr 66 (upd (upd (upd σ1174 0 (r0_0)) 3 (v1170)) 4 (.int .i64 z1172)) ∧ I.le I1173 ∧ St w0 w I1173 [ownS tyF64 v1170 z1169] R) n1175 ⟨_, [], (0:Int), Zs, _, hm, (fu 0 r0_0 z (fu 3 (.slice none 0 0) z (fu 4 (.int .i64 (0:Int)) z z))), (HL.le.refl _), hst⟩ ?_
 rintro n1181 _ w1176 ⟨I1173, z1169, z1172, v1170, σ1174, hm, rfl, hL1177, hst⟩
 obtain ⟨n1178, y1179, rfl, hm, hx1180⟩ := loopN_some hm
 dsimp only [ref11_Ats_l0] at hm
 replace f0_0 := f0_0.mono (rd_le hL1177)
 replace hI0 := hI0.trans hL1177
 refine wp_seq (wp_seq (wrl (wv (.int .i64 z1172) z z z (wv (r0_0) z z z (wv (.int .i64 ((a0).length : Int)) z z (x_len z underlying26 (rd_sliceV f0_0)) (wv (.bool (decide (z1172 < ((a0).length : Int)))) z z z (wl_nil (tn ?_))))))))
 refine bsplit (decide (z1172 < ((a0).length : Int))) (fun hc1182 => ?_) (fun hc1182 => ?_)
 {
 replace hm := bif_t hc1182 hm
 refine wp_ift (cvb hc1182) ?_
 refine wp_skip (tn (wp_seq (wp_block (wp_seq (wrl ?_)))))
 refine wv (.int .i64 (0:Int)) z z z (wl_nil (tn ?_))
 obtain ⟨y1265, hm, hx1266⟩ := bind_some hm
 refine wp_cut (fun a w => ∃ (z1262 : Int) (σ1263 : Nat → Value), (ref11_Ats_j1 z1169 a0 z1172) z1262 = some y1179 ∧ a = Fr 66 (upd (upd (upd (upd σ1263 0 (r0_0)) 3 (v1170)) 4 (.int .i64 z1172)) 5 (.int .i64 z1262)) ∧ St w0 w I1173 [ownS tyF64 v1170 z1169] R) ?_ ?_
 {
 refine wp_block ?_
 obtain ⟨n1232, hm⟩ := loopO_some hm
 refine wp_loop_n (fun n a w => ∃ (z1230 : Int) (σ1231 : Nat → Value), loopN (ref11_Ats_l2 z1169 a0 z1172) n z1230 = some y1265 ∧ a = Fr 66 (upd (upd (upd (upd σ1231 0 (r0_0)) 3 (v1170)) 4 (.int .i64 z1172)) 5 (.int .i64 z1230)) ∧ St w0 w I1173 [ownS tyF64 v1170 z1169] R) n1232 ⟨(0:Int), _, hm, (fu 0 r0_0 z (fu 3 v1170 z (fu 4 (.int .i64 z1172) z (fu 5 (.int .i64 (0:Int)) z z)))), hst⟩ ?_
 rintro n1238 _ w1233 ⟨z1230, σ1231, hm, rfl, hst⟩
 obtain ⟨n1235, y1236, rfl, hm, hx1237⟩ := loopN_some hm
 dsimp only [ref11_Ats_l2] at hm
 refine wp_seq (wp_seq ?_)
 refine wp_region_St hst 16 [0, 1, 2, 3, 4, 5, 6, 7, 8, 9, 10, 11, 12, 13, 14, 15] [0, 0, 2, 7, 15, 31, 31, 127, 255, 31, 31, 1567, 3615, 7711, 16383, 32767] [] z (by kernel_rfl) (by kernel_rfl) Try.mixed (by kernel_rfl) ?_
 refine wsr (.int .i64 z1230) 0 z z z (by kernel_rfl) (fun w hst => z) (wsr (v1170) 1 z z z (by kernel_rfl) (fun w hst => z) (wsr (.int .i64 ((z1169).length : Int)) 2 z z z (by kernel_rfl) (fun w hst => x_len z underlying44 hst.sv0) (wsr (.bool (decide (z1230 < ((z1169).length : Int)))) 3 z z z (by kernel_rfl) (fun w hst => z) (wsr (.bool (decide (z1230 < ((z1169).length : Int)))) 4 z z z (by kernel_rfl) (fun w hst => z) ?_))))
 refine bsplit (decide (z1230 < ((z1169).length : Int))) (fun hc1239 => ?_) (fun hc1239 => ?_)
 {
 replace hm := bif_t hc1239 hm
 refine ws_q (v := v1170) 5 [6, 7, 8, 9, 10, 11, 12, 13, 14, 15] (by kernel_rfl) z z (yi_run ((wanted_eq z z z (cvb hc1239)).trans z) (fun w hst => z)) (ws_q (v := .int .i64 z1230) 6 [7, 8, 9, 10, 11, 12, 13, 14, 15] (by kernel_rfl) z z (yi_run ((wanted_eq z z z (cvb hc1239)).trans z) (fun w hst => z)) ?_)
 obtain ⟨x1240, hx1241, hm⟩ := bind_some hm
 obtain ⟨h1242, h1243, hi1244⟩ := geto_some hx1241
 refine ws_q (v := .pointer (some (eAddr v1170 (z1230.toNat * 1 + 0)))) 7 [8, 9, 10, 11, 12, 13, 14, 15] (by kernel_rfl) z z (yi_run ((wanted_eq z z z (cvb hc1239)).trans z) (fun w hst => x_index z z underlying44 sizeOf23 hst.sv0 h1242 h1243)) (ws_q (v := .float .f64 x1240) 8 [9, 10, 11, 12, 13, 14, 15] (by kernel_rfl) z z (yi_run ((wanted_eq z z z (cvb hc1239)).trans z) (fun w hst => x_load z isAgg23 (hst.ol0 hi1244 (by rintro _ rfl; rfl)))) (ws_q (v := r0_0) 9 [10, 11, 12, 13, 14, 15] (by kernel_rfl) z z (yi_run ((wanted_eq z z z (cvb hc1239)).trans z) (fun w hst => z)) (ws_q (v := .int .i64 z1172) 10 [11, 12, 13, 14, 15] (by kernel_rfl) z z (yi_run ((wanted_eq z z z (cvb hc1239)).trans z) (fun w hst => z)) ?_)))
 obtain ⟨x1245, hx1246, hm⟩ := bind_some hm
 obtain ⟨h1247, h1248, hi1249⟩ := geto_some hx1246
 refine ws_q (v := .pointer (some (eAddr r0_0 (z1172.toNat * 5 + 0)))) 11 [12, 13, 14, 15] (by kernel_rfl) z z (yi_run ((wanted_eq z z z (cvb hc1239)).trans z) (fun w hst => x_index z z underlying26 sizeOf67 (rd_sliceV f0_0) h1247 h1248)) (ws_q (v := .pointer (some (eAddr r0_0 (z1172.toNat * 5 + 0)))) 12 [13, 14, 15] (by kernel_rfl) z z (yi_run ((wanted_eq z z z (cvb hc1239)).trans z) (fun w hst => x_field_e z underlying67 z sizeOf23 z)) ?_)
 obtain ⟨cs1250, hr1251, hc1252⟩ := Rd.getF f0_0 hi1249
 obtain ⟨v1253, rfl, f1254, -⟩ := hr1251
 refine ws_q (v := .float .f64 x1245.At) 13 [14, 15] (by kernel_rfl) z z (yi_run ((wanted_eq z z z (cvb hc1239)).trans z) (fun w hst => x_load z isAgg23 ((hc1252 (HL.le.refl _) hst) 0 _ z))) ?_
 refine ws_e1 14 (by kernel_rfl) ?_
 refine nxe [15] (by kernel_rfl) z ((wanted_eq z z z (cvb hc1239)).trans z) ?_
 clear hst
 intro w hst
 obtain ⟨t1256, ht1257, hm⟩ := bind_some hm
 refine wec call37 [F6 x1240, F6 x1245.At] z z ?_
 refine (ref01_Ahead_ref hst.to0 ht1257).mono ?_
 rintro _ w1258 ⟨rfl, hst⟩
 refine ⟨_, z, ?_⟩
 replace hst := hst.of0
 refine ws_next (pend' := []) hst (by kernel_rfl) pk_nil ?_
 refine wsr (.bool t1256) 15 z z z (by kernel_rfl) (fun w hst => x_pick_t hc1239 z z) ?_
 refine ws_nil ?_
 intro w hst
 refine tn ?_
 refine bsplit t1256 (fun hc1261 => ?_) (fun hc1261 => ?_)
 {
 replace hm := bif_t hc1261 hm
 refine wp_ift (cvb hc1261) ?_
 refine wp_skip (tn (wp_block (wrl ?_)))
 refine wv (.int .i64 z1230) z z z (wv (.int .i64 (i64.wrap (z1230 + (1:Int)))) z z z (wv (.int .i64 (i64.wrap (z1230 + (1:Int)))) z z z (wl_nil (blk_n (tn ?_)))))
 replace hst := hst.keep1
 obtain rfl := some_inj hm
 exact ⟨_, Nat.lt_succ_self _, (i64.wrap (z1230 + (1:Int))), _, hx1237, (fu 0 r0_0 z (fu 3 v1170 z (fu 4 (.int .i64 z1172) z (fu 5 (.int .i64 (i64.wrap (z1230 + (1:Int)))) z z)))), hst⟩
}
 {
 replace hm := bif_f hc1261 hm
 refine wp_iff (cvb hc1261) ?_
 refine wp_exit (then_x (then_x ?_))
 replace hm := inr_up hm hx1237
 refine blk_x (tn ?_)
 replace hst := hst.keep1
 obtain rfl := some_inj hm
 exact ⟨z1230, _, hx1266, (fu 0 r0_0 z (fu 3 v1170 z (fu 4 (.int .i64 z1172) z (fu 5 (.int .i64 z1230) z z)))), hst⟩
}
}
 {
 replace hm := bif_f hc1239 hm
 refine ws_q (v := undef) 5 [6, 7, 8, 9, 10, 11, 12, 13, 14, 15] (by kernel_rfl) z z (yi_off ((wanted_eq z z z (cvb hc1239)).trans z)) (ws_q (v := undef) 6 [7, 8, 9, 10, 11, 12, 13, 14, 15] (by kernel_rfl) z z (yi_off ((wanted_eq z z z (cvb hc1239)).trans z)) (ws_q (v := undef) 7 [8, 9, 10, 11, 12, 13, 14, 15] (by kernel_rfl) z z (yi_off ((wanted_eq z z z (cvb hc1239)).trans z)) (ws_q (v := undef) 8 [9, 10, 11, 12, 13, 14, 15] (by kernel_rfl) z z (yi_off ((wanted_eq z z z (cvb hc1239)).trans z)) (ws_q (v := undef) 9 [10, 11, 12, 13, 14, 15] (by kernel_rfl) z z (yi_off ((wanted_eq z z z (cvb hc1239)).trans z)) (ws_q (v := undef) 10 [11, 12, 13, 14, 15] (by kernel_rfl) z z (yi_off ((wanted_eq z z z (cvb hc1239)).trans z)) (ws_q (v := undef) 11 [12, 13, 14, 15] (by kernel_rfl) z z (yi_off ((wanted_eq z z z (cvb hc1239)).trans z)) (ws_q (v := undef) 12 [13, 14, 15] (by kernel_rfl) z z (yi_off ((wanted_eq z z z (cvb hc1239)).trans z)) (ws_q (v := undef) 13 [14, 15] (by kernel_rfl) z z (yi_off ((wanted_eq z z z (cvb hc1239)).trans z)) (ws_q (v := undef) 14 [15] (by kernel_rfl) z z (yi_off ((wanted_eq z z z (cvb hc1239)).trans z)) (wsr (.bool false) 15 z z z (by kernel_rfl) (fun w hst => x_pick_f hc1239 z z) ?_))))))))))
 refine ws_nil ?_
 intro w hst
 refine tn ?_
 refine wp_iff z ?_
 refine wp_exit (then_x (then_x ?_))
 replace hm := inr_up hm hx1237
 refine blk_x (tn ?_)
 replace hst := hst.keep1
 obtain rfl := some_inj hm
 exact ⟨z1230, _, hx1266, (fu 0 r0_0 z (fu 3 v1170 z (fu 4 (.int .i64 z1172) z (fu 5 (.int .i64 z1230) z z)))), hst⟩
}
}
 {
 clear hst
 rintro _ w1267 ⟨z1262, σ1263, hm, rfl, hst⟩
 dsimp only [ref11_Ats_j1] at hm
 refine wp_seq (wp_seq ?_)
 refine wp_region_St hst 16 [0, 1, 2, 3, 4, 5, 6, 7, 8, 9, 10, 11, 12, 13, 14, 15] [0, 0, 2, 7, 15, 31, 31, 127, 255, 31, 31, 1567, 3615, 7711, 16383, 32767] [] z (by kernel_rfl) (by kernel_rfl) Try.mixed (by kernel_rfl) ?_
 refine wsr (.int .i64 z1262) 0 z z z (by kernel_rfl) (fun w hst => z) (wsr (v1170) 1 z z z (by kernel_rfl) (fun w hst => z) (wsr (.int .i64 ((z1169).length : Int)) 2 z z z (by kernel_rfl) (fun w hst => x_len z underlying44 hst.sv0) (wsr (.bool (decide (z1262 < ((z1169).length : Int)))) 3 z z z (by kernel_rfl) (fun w hst => z) (wsr (.bool (decide (z1262 < ((z1169).length : Int)))) 4 z z z (by kernel_rfl) (fun w hst => z) ?_))))
 refine bsplit (decide (z1262 < ((z1169).length : Int))) (fun hc1268 => ?_) (fun hc1268 => ?_)
 {
 replace hm := bif_t hc1268 hm
 refine ws_q (v := v1170) 5 [6, 7, 8, 9, 10, 11, 12, 13, 14, 15] (by kernel_rfl) z z (yi_run ((wanted_eq z z z (cvb hc1268)).trans z) (fun w hst => z)) (ws_q (v := .int .i64 z1262) 6 [7, 8, 9, 10, 11, 12, 13, 14, 15] (by kernel_rfl) z z (yi_run ((wanted_eq z z z (cvb hc1268)).trans z) (fun w hst => z)) ?_)
 obtain ⟨x1269, hx1270, hm⟩ := bind_some hm
 obtain ⟨h1271, h1272, hi1273⟩ := geto_some hx1270
 refine ws_q (v := .pointer (some (eAddr v1170 (z1262.toNat * 1 + 0)))) 7 [8, 9, 10, 11, 12, 13, 14, 15] (by kernel_rfl) z z (yi_run ((wanted_eq z z z (cvb hc1268)).trans z) (fun w hst => x_index z z underlying44 sizeOf23 hst.sv0 h1271 h1272)) (ws_q (v := .float .f64 x1269) 8 [9, 10, 11, 12, 13, 14, 15] (by kernel_rfl) z z (yi_run ((wanted_eq z z z (cvb hc1268)).trans z) (fun w hst => x_load z isAgg23 (hst.ol0 hi1273 (by rintro _ rfl; rfl)))) (ws_q (v := r0_0) 9 [10, 11, 12, 13, 14, 15] (by kernel_rfl) z z (yi_run ((wanted_eq z z z (cvb hc1268)).trans z) (fun w hst => z)) (ws_q (v := .int .i64 z1172) 10 [11, 12, 13, 14, 15] (by kernel_rfl) z z (yi_run ((wanted_eq z z z (cvb hc1268)).trans z) (fun w hst => z)) ?_)))
 obtain ⟨x1274, hx1275, hm⟩ := bind_some hm
 obtain ⟨h1276, h1277, hi1278⟩ := geto_some hx1275
 refine ws_q (v := .pointer (some (eAddr r0_0 (z1172.toNat * 5 + 0)))) 11 [12, 13, 14, 15] (by kernel_rfl) z z (yi_run ((wanted_eq z z z (cvb hc1268)).trans z) (fun w hst => x_index z z underlying26 sizeOf67 (rd_sliceV f0_0) h1276 h1277)) (ws_q (v := .pointer (some (eAddr r0_0 (z1172.toNat * 5 + 0)))) 12 [13, 14, 15] (by kernel_rfl) z z (yi_run ((wanted_eq z z z (cvb hc1268)).trans z) (fun w hst => x_field_e z underlying67 z sizeOf23 z)) ?_)
 obtain ⟨cs1279, hr1280, hc1281⟩ := Rd.getF f0_0 hi1278
 obtain ⟨v1282, rfl, f1283, -⟩ := hr1280
 refine ws_q (v := .float .f64 x1274.At) 13 [14, 15] (by kernel_rfl) z z (yi_run ((wanted_eq z z z (cvb hc1268)).trans z) (fun w hst => x_load z isAgg23 ((hc1281 (HL.le.refl _) hst) 0 _ z))) ?_
 refine ws_e1 14 (by kernel_rfl) ?_
 refine nxe [15] (by kernel_rfl) z ((wanted_eq z z z (cvb hc1268)).trans z) ?_
 clear hst
 intro w hst
 obtain ⟨t1285, ht1286, hm⟩ := bind_some hm
 refine wec call30 [F6 x1269, F6 x1274.At] z z ?_
 refine (ref01_Same_ref hst.to0 ht1286).mono ?_
 rintro _ w1287 ⟨rfl, hst⟩
 refine ⟨_, z, ?_⟩
 replace hst := hst.of0
 refine ws_next (pend' := []) hst (by kernel_rfl) pk_nil ?_
 refine wsr (.bool t1285) 15 z z z (by kernel_rfl) (fun w hst => x_pick_t hc1268 z z) ?_
 refine ws_nil ?_
 intro w hst
 refine tn ?_
 refine bsplit t1285 (fun hc1290 => ?_) (fun hc1290 => ?_)
 {
 replace hm := bif_t hc1290 hm
 refine wp_ift (cvb hc1290) ?_
 refine wp_exit (then_x (blk_x (tn (wrl ?_))))
 refine wv (.int .i64 z1172) z z z (wv (.int .i64 (i64.wrap (z1172 + (1:Int)))) z z z (wv (.int .i64 (i64.wrap (z1172 + (1:Int)))) z z z (wl_nil (tn ?_))))
 replace hst := hst.keep1
 obtain rfl := some_inj hm
 exact ⟨_, Nat.lt_succ_self _, _, z1169, (i64.wrap (z1172 + (1:Int))), v1170, _, hx1180, (fu 0 r0_0 z (fu 3 v1170 z (fu 4 (.int .i64 (i64.wrap (z1172 + (1:Int)))) z z))), hL1177, hst⟩
}
 {
 replace hm := bif_f hc1290 hm
 refine wp_iff (cvb hc1290) ?_
 refine wp_skip (tn (wp_seq (wrl ?_)))
 refine wv ((.slice none 0 0)) z z z (wl_nil (tn (wp_seq (wrl (wv ((.slice none 0 0)) z z z (wv (v1170) z z z (wv (.int .i64 z1262) z z z ?_)))))))
 obtain ⟨I1292, hI1293, f1294, hst⟩ := hst.own_fix
 replace f0_0 := f0_0.mono (rd_le hI1293)
 replace f1283 := f1283.mono (rd_le hI1293)
 replace hI0 := hI0.trans hI1293
 replace hL1177 := hL1177.trans hI1293
 obtain ⟨hg1295, hm⟩ := gd_some hm
 obtain ⟨h1296, h1297, h1298⟩ := fits_of hg1295
 have f1300 : Ro tyF64 I1292 (slcV 1 v1170 (0:Int).toNat z1262.toNat) (subs z1169 (0:Int) z1262) := Ro.part f1294 h1297 h1298 h1296
 refine wv ((slcV 1 v1170 (0:Int).toNat z1262.toNat)) z z (x_slice underlying44 sizeOf23 z (ro_sliceV f1294) h1296 h1297 h1298 .i64 .i64 (.inr ⟨z, z⟩) (.inl z)) ?_
 replace hst := hst.own_nil tyF64
 obtain ⟨hg1301, hm⟩ := gd_some hm
 obtain ⟨v1302, w1303, hr1304, hst⟩ := run_append elem_44 underlying44 hst (Src.of_ro hst f1300) (room_of hg1301 z) 44
 replace hst := St.nil_app hst
 refine wl_run (v := v1302) (w' := w1303) z z (x_append z z hr1304) ?_
 refine wv (v1302) z z z (wl_nil (tn (wp_seq (wrl (wv (v1302) z z z (wv (r0_0) z z z (wv (.int .i64 z1172) z z z (wv (.pointer (some (eAddr r0_0 (z1172.toNat * 5 + 0)))) z z (x_index z z underlying26 sizeOf67 (rd_sliceV f0_0) h1276 h1277) (wv (.pointer (some (eAddr r0_0 (z1172.toNat * 5 + 0)))) z z (x_field_e z underlying67 z sizeOf23 z) ?_)))))))))
 obtain ⟨cs1306, hr1307, hc1308⟩ := Rd.getF f0_0 hi1278
 obtain ⟨v1309, rfl, f1310, -⟩ := hr1307
 refine wv (.float .f64 x1274.At) z z (x_load z isAgg23 ((hc1308 (HL.le.refl _) hst) 0 _ z)) ?_
 obtain ⟨b1312, w1313, ew1314, eb1315, hst⟩ := hst.lits (E := tyF64) (xs := [x1274.At]) [[F6 x1274.At]] 23 1 z (Reps.cons z Reps.nil)
 refine wl_run (v := (.slice (some ⟨b1312, 0, none⟩) 1 1)) (w' := w1313) z z (x_als (by kernel_rfl) ew1314 eb1315) ?_
 obtain ⟨hg1317, hm⟩ := gd_some hm
 replace hst := hst.pull1
 obtain ⟨v1318, w1319, hr1320, hst⟩ := run_append elem_44 underlying44 hst hst.src1 (room_of hg1317 z) 44
 refine wl_run (v := v1318) (w' := w1319) z z (x_append z z hr1320) ?_
 refine wv (v1318) z z z (wl_nil (tn (wrl (wv (v1318) z z z (wv (v1170) z z z (wv (.int .i64 z1262) z z z ?_))))))
 obtain ⟨hg1322, hm⟩ := gd_some hm
 obtain ⟨h1323, h1324, h1325⟩ := fits_of hg1322
 have f1327 : Ro tyF64 I1292 (slcV 1 v1170 z1262.toNat (((z1169).length : Nat) : Int).toNat) (subs z1169 z1262 (((z1169).length : Nat) : Int)) := Ro.part f1294 h1324 h1325 h1323
 refine wv ((slcV 1 v1170 z1262.toNat (((z1169).length : Nat) : Int).toNat)) z z (x_slice underlying44 sizeOf23 z (ro_sliceV f1294) h1323 h1324 h1325 .i64 .i64 (.inl z) (.inr ⟨z, z⟩)) ?_
 obtain ⟨hg1328, hm⟩ := gd_some hm
 obtain ⟨v1329, w1330, hr1331, hst⟩ := run_append elem_44 underlying44 hst (Src.of_ro hst f1327) (room_of hg1328 z) 44
 refine wl_run (v := v1329) (w' := w1330) z z (x_append z z hr1331) ?_
 refine wv (v1329) z z z (wl_nil (blk_n (tn (wrl (wv (.int .i64 z1172) z z z (wv (.int .i64 (i64.wrap (z1172 + (1:Int)))) z z z (wv (.int .i64 (i64.wrap (z1172 + (1:Int)))) z z z (wl_nil (tn ?_)))))))))
 replace hst := hst.keep1
 obtain rfl := some_inj hm
 exact ⟨_, Nat.lt_succ_self _, _, (((subs z1169 (0:Int) z1262) ++ ([x1274.At])) ++ (subs z1169 z1262 (((z1169).length : Nat) : Int))), (i64.wrap (z1172 + (1:Int))), v1329, _, hx1180, (fu 0 r0_0 z (fu 3 v1329 z (fu 4 (.int .i64 (i64.wrap (z1172 + (1:Int)))) z z))), hL1177, hst⟩
}
}
 {
 replace hm := bif_f hc1268 hm
 refine ws_q (v := undef) 5 [6, 7, 8, 9, 10, 11, 12, 13, 14, 15] (by kernel_rfl) z z (yi_off ((wanted_eq z z z (cvb hc1268)).trans z)) (ws_q (v := undef) 6 [7, 8, 9, 10, 11, 12, 13, 14, 15] (by kernel_rfl) z z (yi_off ((wanted_eq z z z (cvb hc1268)).trans z)) (ws_q (v := undef) 7 [8, 9, 10, 11, 12, 13, 14, 15] (by kernel_rfl) z z (yi_off ((wanted_eq z z z (cvb hc1268)).trans z)) (ws_q (v := undef) 8 [9, 10, 11, 12, 13, 14, 15] (by kernel_rfl) z z (yi_off ((wanted_eq z z z (cvb hc1268)).trans z)) (ws_q (v := undef) 9 [10, 11, 12, 13, 14, 15] (by kernel_rfl) z z (yi_off ((wanted_eq z z z (cvb hc1268)).trans z)) (ws_q (v := undef) 10 [11, 12, 13, 14, 15] (by kernel_rfl) z z (yi_off ((wanted_eq z z z (cvb hc1268)).trans z)) (ws_q (v := undef) 11 [12, 13, 14, 15] (by kernel_rfl) z z (yi_off ((wanted_eq z z z (cvb hc1268)).trans z)) (ws_q (v := undef) 12 [13, 14, 15] (by kernel_rfl) z z (yi_off ((wanted_eq z z z (cvb hc1268)).trans z)) (ws_q (v := undef) 13 [14, 15] (by kernel_rfl) z z (yi_off ((wanted_eq z z z (cvb hc1268)).trans z)) (ws_q (v := undef) 14 [15] (by kernel_rfl) z z (yi_off ((wanted_eq z z z (cvb hc1268)).trans z)) (wsr (.bool false) 15 z z z (by kernel_rfl) (fun w hst => x_pick_f hc1268 z z) ?_))))))))))
 refine ws_nil ?_
 intro w hst
 refine tn ?_
 refine wp_iff z ?_
 refine wp_skip (tn (wp_seq (wrl ?_)))
 refine wv ((.slice none 0 0)) z z z (wl_nil (tn (wp_seq (wrl (wv ((.slice none 0 0)) z z z (wv (v1170) z z z (wv (.int .i64 z1262) z z z ?_)))))))
 obtain ⟨I1334, hI1335, f1336, hst⟩ := hst.own_fix
 replace f0_0 := f0_0.mono (rd_le hI1335)
 replace hI0 := hI0.trans hI1335
 replace hL1177 := hL1177.trans hI1335
 obtain ⟨hg1337, hm⟩ := gd_some hm
 obtain ⟨h1338, h1339, h1340⟩ := fits_of hg1337
 have f1342 : Ro tyF64 I1334 (slcV 1 v1170 (0:Int).toNat z1262.toNat) (subs z1169 (0:Int) z1262) := Ro.part f1336 h1339 h1340 h1338
 refine wv ((slcV 1 v1170 (0:Int).toNat z1262.toNat)) z z (x_slice underlying44 sizeOf23 z (ro_sliceV f1336) h1338 h1339 h1340 .i64 .i64 (.inr ⟨z, z⟩) (.inl z)) ?_
 replace hst := hst.own_nil tyF64
 obtain ⟨hg1343, hm⟩ := gd_some hm
 obtain ⟨v1344, w1345, hr1346, hst⟩ := run_append elem_44 underlying44 hst (Src.of_ro hst f1342) (room_of hg1343 z) 44
 replace hst := St.nil_app hst
 refine wl_run (v := v1344) (w' := w1345) z z (x_append z z hr1346) ?_
 refine wv (v1344) z z z (wl_nil (tn (wp_seq (wrl (wv (v1344) z z z (wv (r0_0) z z z (wv (.int .i64 z1172) z z z ?_)))))))
 obtain ⟨x1348, hx1349, hm⟩ := bind_some hm
 obtain ⟨h1350, h1351, hi1352⟩ := geto_some hx1349
 refine wv (.pointer (some (eAddr r0_0 (z1172.toNat * 5 + 0)))) z z (x_index z z underlying26 sizeOf67 (rd_sliceV f0_0) h1350 h1351) (wv (.pointer (some (eAddr r0_0 (z1172.toNat * 5 + 0)))) z z (x_field_e z underlying67 z sizeOf23 z) ?_)
 obtain ⟨cs1353, hr1354, hc1355⟩ := Rd.getF f0_0 hi1352
 obtain ⟨v1356, rfl, f1357, -⟩ := hr1354
 refine wv (.float .f64 x1348.At) z z (x_load z isAgg23 ((hc1355 (HL.le.refl _) hst) 0 _ z)) ?_
 obtain ⟨b1359, w1360, ew1361, eb1362, hst⟩ := hst.lits (E := tyF64) (xs := [x1348.At]) [[F6 x1348.At]] 23 1 z (Reps.cons z Reps.nil)
 refine wl_run (v := (.slice (some ⟨b1359, 0, none⟩) 1 1)) (w' := w1360) z z (x_als (by kernel_rfl) ew1361 eb1362) ?_
 obtain ⟨hg1364, hm⟩ := gd_some hm
 replace hst := hst.pull1
 obtain ⟨v1365, w1366, hr1367, hst⟩ := run_append elem_44 underlying44 hst hst.src1 (room_of hg1364 z) 44
 refine wl_run (v := v1365) (w' := w1366) z z (x_append z z hr1367) ?_
 refine wv (v1365) z z z (wl_nil (tn (wrl (wv (v1365) z z z (wv (v1170) z z z (wv (.int .i64 z1262) z z z ?_))))))
 obtain ⟨hg1369, hm⟩ := gd_some hm
 obtain ⟨h1370, h1371, h1372⟩ := fits_of hg1369
 have f1374 : Ro tyF64 I1334 (slcV 1 v1170 z1262.toNat (((z1169).length : Nat) : Int).toNat) (subs z1169 z1262 (((z1169).length : Nat) : Int)) := Ro.part f1336 h1371 h1372 h1370
 refine wv ((slcV 1 v1170 z1262.toNat (((z1169).length : Nat) : Int).toNat)) z z (x_slice underlying44 sizeOf23 z (ro_sliceV f1336) h1370 h1371 h1372 .i64 .i64 (.inl z) (.inr ⟨z, z⟩)) ?_
 obtain ⟨hg1375, hm⟩ := gd_some hm
 obtain ⟨v1376, w1377, hr1378, hst⟩ := run_append elem_44 underlying44 hst (Src.of_ro hst f1374) (room_of hg1375 z) 44
 refine wl_run (v := v1376) (w' := w1377) z z (x_append z z hr1378) ?_
 refine wv (v1376) z z z (wl_nil (blk_n (tn (wrl (wv (.int .i64 z1172) z z z (wv (.int .i64 (i64.wrap (z1172 + (1:Int)))) z z z (wv (.int .i64 (i64.wrap (z1172 + (1:Int)))) z z z (wl_nil (tn ?_)))))))))
 replace hst := hst.keep1
 obtain rfl := some_inj hm
 exact ⟨_, Nat.lt_succ_self _, _, (((subs z1169 (0:Int) z1262) ++ ([x1348.At])) ++ (subs z1169 z1262 (((z1169).length : Nat) : Int))), (i64.wrap (z1172 + (1:Int))), v1376, _, hx1180, (fu 0 r0_0 z (fu 3 v1376 z (fu 4 (.int .i64 (i64.wrap (z1172 + (1:Int)))) z z))), hL1177, hst⟩
}
}
}
 {
 replace hm := bif_f hc1182 hm
 refine wp_iff (cvb hc1182) ?_
 refine wp_exit (then_x (then_x ?_))
 replace hm := inr_up hm hx1180
 refine blk_x (tn (wp_seq (wrl ?_)))
 refine wv (v1170) z z z (wv (v1170) z z z (wl_nil (tn (wp_ret ?_))))
 obtain rfl := some_inj hm
 refine post_ret (vs := [v1170]) results18 (rvs_cons (rv_tmp z) rvs_nil) ?_
 exact ⟨_, v1170, z, hI0, hst.keep1⟩
}
}

theorem slices_Clone_mvcc_Version_mvcc_Version_ref {w0 w : World} {I : HL} {R : SP} {a0 : (List mvcc_Version)} {r0_0 : Value} (f0_0 : RdO ty_mvcc_Version R I r0_0 a0) (hst : St w0 w I [] R) {r : (List mvcc_Version)} (hm : slices_Clone_mvcc_Version_mvcc_Version a0 = some r) :
  Calls prog 40 #[r0_0] w fun e w' => ∃ (q0_0 : Value), e = .returned (q0_0) ∧ St w0 w' I [ownS ty_mvcc_Version q0_0 r] R := by {
 unfold slices_Clone_mvcc_Version_mvcc_Version at hm
 obtain ⟨hg, hm⟩ := gd_some hm
 obtain rfl := some_inj hm
 have hsv := rdo_sliceV f0_0
 refine calls_start (args := [r0_0]) func40 z ntmps40 (Nat.le_of_ble_eq_true z) ?_
 refine wp_seq (wrl (wv ((.slice none 0 0)) z z z (wl_nil (tn (wp_seq (wp_seq (wrl (wv (r0_0) z z z (wv (.bool (isNil r0_0)) z z (x_slnil z hsv z underlying53) (wl_nil (tn ?_)))))))))))
 refine bsplit (isNil r0_0) (fun hc152 => ?_) (fun hc152 => ?_)
 {
 refine wp_ift (cvb hc152) ?_
 refine wp_seq (wrl (wv ((.slice none 0 0)) z z z (wl_nil (tn (wp_ret (then_r ?_))))))
 refine post_ret (vs := [Zs]) results40 (rvs_cons (rv_tmp z) rvs_nil) ?_
 obtain rfl := List.eq_nil_of_length_eq_zero (isNil_len hsv hc152)
 exact ⟨_, z, (hst.own_nil ty_mvcc_Version).keep1⟩
}
 {
 refine wp_iff (cvb hc152) ?_
 refine wp_skip (tn (wp_seq (wrl ?_)))
 obtain ⟨b, w1, ew, eb, hst⟩ := hst.lits (E := ty_mvcc_Version) (xs := []) [] 52 0 z Reps.nil
 refine wl_run (v := (.slice (some ⟨b, 0, none⟩) 0 0)) (w' := w1) z z (x_als (by kernel_rfl) ew eb) ?_
 refine wv (r0_0) z z z ?_
 obtain ⟨v2, w2, hr, hst⟩ := run_append elem_53 underlying53 hst (Src.of_rdo hst f0_0) (room_of hg z) 53
 refine wl_run (v := v2) (w' := w2) z z (x_append z z hr) ?_
 refine wv (v2) z z z (wl_nil (tn (wp_ret ?_)))
 refine post_ret (vs := [v2]) results40 (rvs_cons (rv_tmp z) rvs_nil) ?_
 rw [List.nil_append] at hst
 exact ⟨_, z, hst.keep1⟩
}
}

theorem mvcc_Store_Trim_ref {w0 w : World} {I : HL} {R : SP} {a0 : (Option mvcc_Store)} {p0 : Value} {a1 : Int}  (hst : St w0 w I [objO at_mvcc_Store p0 a0] R) {r : ((Option mvcc_Store))} (hm : mvcc_Store_Trim a0 a1 = some r) :
  Calls prog 19 #[p0, U6 a1] w fun e w' => ∃ (I' : HL), e = .returned (.tuple #[]) ∧ I.le I' ∧ St w0 w' I' [objO at_mvcc_Store p0 r] R := by {
 rcases a0 with _ | o0
 {
 obtain ⟨rfl, hst'⟩ := objO_none hst
 clear hst
 have hst := hst'
 clear hst'
 dsimp only [mvcc_Store_Trim] at hm
 refine calls_start (args := [.pointer none, U6 a1]) func19 z ntmps19 (Nat.le_of_ble_eq_true z) ?_
 have hI0 := HL.le.refl I
 refine wp_seq (wrl ?_)
 obtain ⟨b661, w662, ew663, eb664, hst⟩ := hst.box [U6 a1] 24
 refine wl_run (v := Pt b661 0) (w' := w662) z z (x_al (by kernel_rfl) ew663 eb664) ?_
 refine wl_nil (tn (wp_seq (wp_seq (wrl (wv (.pointer none) z z z (wv (.bool true) z z (by kernel_rfl) (wl_nil (tn ?_))))))))
 refine wp_ift z ?_
 refine wp_ret (then_r ?_)
 replace hst := hst.objO_nil at_mvcc_Store
 obtain rfl := some_inj hm
 refine post_ret (vs := []) results19 rvs_nil ?_
 exact ⟨_, z, hI0, hst.keep1⟩
}
 {
 replace hst := objO_get hst
 dsimp only [mvcc_Store_Trim] at hm
 refine calls_start (args := [p0, U6 a1]) func19 z ntmps19 (Nat.le_of_ble_eq_true z) ?_
 have hI0 := HL.le.refl I
 refine wp_seq (wrl ?_)
 obtain ⟨b666, w667, ew668, eb669, hst⟩ := hst.box [U6 a1] 24
 refine wl_run (v := Pt b666 0) (w' := w667) z z (x_al (by kernel_rfl) ew668 eb669) ?_
 refine wl_nil (tn (wp_seq (wp_seq (wrl (wv (p0) z z z ?_)))))
 replace hst := hst.pull1
 obtain ⟨b671, v672, rfl, hst'⟩ := at_mvcc_Store_open hst
 clear hst
 have hst := hst'
 clear hst'
 refine wv (.bool false) z z (by kernel_rfl) (wl_nil (tn ?_))
 refine wp_iff z ?_
 refine wp_skip (tn (wp_seq (wrl ?_)))
 refine wv ((.slice none 0 0)) z z z (wl_nil (tn ?_))
 obtain ⟨y1277, hm, hx1278⟩ := bind_some hm
 refine wp_cut (fun a w => ∃ (I1274 : HL) (z1273 : (List mvcc_row)) (v1272 : Value) (σ1275 : Nat → Value), (mvcc_Store_Trim_j0) z1273 = some r ∧ a = Fr 57 (upd (upd σ1275 0 (Pt b671 0)) 4 (v1272)) ∧ I.le I1274 ∧ Ro ty_mvcc_row I1274 v672 o0.rows ∧ St w0 w I1274 [cells b671 [v672], ownN nest_mvcc_row v1272 z1273] R) ?_ ?_
 {
 have hL1279 := HL.le.refl I
 refine wp_seq (wrl (wv (Pt b671 0) z z z (wv (Pt b671 0) z z z (wv (Pt b671 0) z z (x_field z underlying79 z sizeOf77 z) ?_))))
 replace hst := hst.pull1
 obtain ⟨I675, hI676, f677, hst⟩ := hst.nest_fix (E2 := ty_mvcc_row) z nestrep_mvcc_row
 replace hI0 := hI0.trans hI676
 replace hL1279 := hL1279.trans hI676
 refine wv (v672) z z (x_load z isAgg77 (hst.bc0 z)) (wv (.int .i64 ((o0.rows).length : Int)) z z (x_len z underlying77 (ro_sliceV f677)) (wv (.int .i64 (0:Int)) z z z (wl_nil (tn (wp_block ?_)))))
 replace hst := hst.nest_nil nest_mvcc_row
 obtain ⟨n1119, hm⟩ := loopO_some hm
 refine wp_loop_n (fun n a w => ∃ (z1114 : Int) (z1115 : (List mvcc_row)) (v1116 : Value) (σ1118 : Nat → Value), loopN (mvcc_Store_Trim_l1 o0 a1) n (z1114, z1115) = some y1277 ∧ a = Fr 57 (upd (upd (upd (upd (upd (upd σ1118 0 (Pt b671 0)) 3 (Pt b666 0)) 4 (v1116)) 14 (v672)) 15 (.int .i64 ((o0.rows).length : Int))) 16 (.int .i64 z1114)) ∧ St w0 w I675 [ownN nest_mvcc_row v1116 z1115, cells b671 [v672], cells b666 [U6 a1]] R) n1119 ⟨(0:Int), [], Zs, _, hm, (fu 0 (Pt b671 0) z (fu 3 (Pt b666 0) z (fu 4 (.slice none 0 0) z (fu 14 v672 z (fu 15 (.int .i64 ((o0.rows).length : Int)) z (fu 16 (.int .i64 (0:Int)) z z)))))), hst⟩ ?_
 rintro n1125 _ w1120 ⟨z1114, z1115, v1116, σ1118, hm, rfl, hst⟩
 obtain ⟨n1122, y1123, rfl, hm, hx1124⟩ := loopN_some hm
 dsimp only [mvcc_Store_Trim_l1] at hm
 refine wp_seq (wrl (wv (.bool (decide (z1114 < ((o0.rows).length : Int)))) z z z (wl_nil (tn (wp_seq ?_)))))
 refine bsplit (decide (z1114 < ((o0.rows).length : Int))) (fun hc1126 => ?_) (fun hc1126 => ?_)
 {
 replace hm := bif_t hc1126 hm
 refine wp_ift (cvb hc1126) ?_
 refine wp_skip (tn (wp_seq (wp_block (wp_seq (wrl ?_)))))
 obtain ⟨x1127, hx1128, hm⟩ := bind_some hm
 obtain ⟨h1129, h1130, hi1131⟩ := geto_some hx1128
 refine wv (.pointer (some (eAddr v672 (z1114.toNat * 2 + 0)))) z z (x_index z z underlying77 sizeOf76 (ro_sliceV f677) h1129 h1130) ?_
 obtain ⟨cs1132, hr1133, hc1134⟩ := Ro.getF f677 hi1131
 obtain ⟨v1135, rfl, f1136, -⟩ := hr1133
 refine wv (.agg #[U6 x1127.rank, v1135]) z z (x_loadN (cs := [U6 x1127.rank, v1135]) z isAgg76 sizeOf76 (eCells (o := 0) (hc1134 (HL.le.refl _) hst) z)) ?_
 obtain ⟨b1139, w1140, ew1141, eb1142, hst⟩ := hst.box [Zu, Zs] 76
 refine wl_run (v := Pt b1139 0) (w' := w1140) z z (x_al (by kernel_rfl) ew1141 eb1142) ?_
 obtain ⟨w1144, hr1145, hst⟩ := hst.bx [U6 x1127.rank, v1135] sizeOf76 z (oC z (oC (one_of_sliceV (ro_sliceV f1136)) oN)) (by kernel_rfl)
 refine wl_unit z z (x_unit hr1145) ?_
 refine wl_nil (tn (wp_seq (wrl (wv (Pt b1139 1) z z (x_field z underlying76 z sizeOf53 z) (wv (v1135) z z (x_load z isAgg53 (hst.bc0 z)) (wv (.int .i64 ((x1127.l).length : Int)) z z (x_len z underlying53 (ro_sliceV f1136)) (wv (.func (.func 39) #[] #[Pt b1139 0, Pt b666 0]) z z (by kernel_rfl) ?_)))))))
 obtain ⟨y1214, hq1215, hm⟩ := bind_some hm
 refine wl_call z z (x_callv call38 (caps := []) z (vs := [I6 ((x1127.l).length : Int), .func (.func 39) #[] #[Pt b1139 0, Pt b666 0]]) z) ?_
 refine Calls.mono (show Calls prog 38 #[I6 ((x1127.l).length : Int), .func (.func 39) #[] #[Pt b1139 0, Pt b666 0]] _ (fun e w' => ∃ (z1212 : Int), z1212 = y1214 ∧ e = .returned (.int .i64 z1212) ∧ St w0 w' I675 [cells b671 [v672], cells b666 [U6 a1], ownN nest_mvcc_row v1116 z1115, cells b1139 [U6 x1127.rank, v1135]] R) from ?_) ?_
 {
 clear hm; have hm := hq1215
 refine calls_start (args := [I6 ((x1127.l).length : Int), .func (.func 39) #[] #[Pt b1139 0, Pt b666 0]]) func38 z ntmps38 (Nat.le_of_ble_eq_true z) ?_
 refine wp_seq (wrl (wv (.int .i64 (0:Int)) z z z (wl_nil (tn (wp_seq (wrl (wv (.int .i64 ((x1127.l).length : Int)) z z z (wv (.int .i64 (0:Int)) z z z (wv (.int .i64 ((x1127.l).length : Int)) z z z (wl_nil (tn (wp_seq (wp_block ?_)))))))))))))
 obtain ⟨n1187, hm⟩ := loopO_some hm
 refine wp_loop_n (fun n a w => ∃ (z1184 : Int) (z1185 : Int) (σ1186 : Nat → Value), loopN (mvcc_Store_Trim_l2 x1127 a1) n (z1184, z1185) = some y1214 ∧ a = Fr 26 (upd (upd (upd σ1186 1 (.func (.func 39) #[] #[Pt b1139 0, Pt b666 0])) 5 (.int .i64 z1184)) 6 (.int .i64 z1185)) ∧ St w0 w I675 [cells b1139 [U6 x1127.rank, v1135], ownN nest_mvcc_row v1116 z1115, cells b671 [v672], cells b666 [U6 a1]] R) n1187 ⟨(0:Int), ((x1127.l).length : Int), _, hm, (fu 1 (.func (.func 39) #[] #[Pt b1139 0, Pt b666 0]) z (fu 5 (.int .i64 (0:Int)) z (fu 6 (.int .i64 ((x1127.l).length : Int)) z z))), hst⟩ ?_
 rintro n1193 _ w1188 ⟨z1184, z1185, σ1186, hm, rfl, hst⟩
 obtain ⟨n1190, y1191, rfl, hm, hx1192⟩ := loopN_some hm
 dsimp only [mvcc_Store_Trim_l2] at hm
 refine wp_seq (wp_seq (wrl (wv (.int .i64 z1184) z z z (wv (.int .i64 z1185) z z z (wv (.bool (decide (z1184 < z1185))) z z z (wl_nil (tn ?_)))))))
 refine bsplit (decide (z1184 < z1185)) (fun hc1194 => ?_) (fun hc1194 => ?_)
 {
 replace hm := bif_t hc1194 hm
 refine wp_ift (cvb hc1194) ?_
 refine wp_skip (tn (wp_block (wp_seq (wrl ?_))))
 refine wv (.int .i64 z1184) z z z (wv (.int .i64 z1185) z z z (wv (.int .i64 (i64.wrap (z1184 + z1185))) z z z (wv (.int .u64 (u64.wrap (i64.wrap (z1184 + z1185)))) z z (by kernel_rfl) (wv (.int .u64 (iShr .u64 (u64.wrap (i64.wrap (z1184 + z1185))) (1:Int))) z z (x_shr (by decide) z z) (wv (.int .i64 (i64.wrap (iShr .u64 (u64.wrap (i64.wrap (z1184 + z1185))) (1:Int)))) z z (by kernel_rfl) (wv (.int .i64 (i64.wrap (iShr .u64 (u64.wrap (i64.wrap (z1184 + z1185))) (1:Int)))) z z z (wl_nil (tn (wp_seq (wrl (wv (.func (.func 39) #[] #[Pt b1139 0, Pt b666 0]) z z z (wv (.int .i64 (i64.wrap (iShr .u64 (u64.wrap (i64.wrap (z1184 + z1185))) (1:Int)))) z z z ?_))))))))))))
 obtain ⟨y1208, hq1209, hm⟩ := bind_some hm
 refine wl_call z z (x_callv call39 (caps := [Pt b1139 0, Pt b666 0]) z (vs := [I6 (i64.wrap (iShr .u64 (u64.wrap (i64.wrap (z1184 + z1185))) (1:Int)))]) z) ?_
 refine Calls.mono (show Calls prog 39 #[I6 (i64.wrap (iShr .u64 (u64.wrap (i64.wrap (z1184 + z1185))) (1:Int))), Pt b1139 0, Pt b666 0] _ (fun e w' => ∃ (z1206 : Bool), z1206 = y1208 ∧ e = .returned (.bool z1206) ∧ St w0 w' I675 [cells b671 [v672], cells b666 [U6 a1], ownN nest_mvcc_row v1116 z1115, cells b1139 [U6 x1127.rank, v1135]] R) from ?_) ?_
 {
 clear hm; have hm := hq1209
 refine calls_start (args := [I6 (i64.wrap (iShr .u64 (u64.wrap (i64.wrap (z1184 + z1185))) (1:Int))), Pt b1139 0, Pt b666 0]) func39 z ntmps39 (Nat.le_of_ble_eq_true z) ?_
 refine wp_seq (wrl (wv (.bool false) z z z (wl_nil (tn (wp_seq ?_)))))
 refine wq_regionS hst Try.mixed (by kernel_rfl) ?_
 refine wq_run (v := Pt b1139 1) z z (fun w hst => x_field z underlying76 z sizeOf53 z) ?_
 refine wq_run (v := v1135) z z (fun w hst => x_load z isAgg53 (hst.bc0 z)) ?_
 refine wq_run (v := .int .i64 (i64.wrap (iShr .u64 (u64.wrap (i64.wrap (z1184 + z1185))) (1:Int)))) z z (fun w hst => z) ?_
 obtain ⟨x1195, hx1196, hm⟩ := bind_some hm
 obtain ⟨h1197, h1198, hi1199⟩ := geto_some hx1196
 refine wq_run (v := .pointer (some (eAddr v1135 ((i64.wrap (iShr .u64 (u64.wrap (i64.wrap (z1184 + z1185))) (1:Int))).toNat * 4 + 0)))) z z (fun w hst => x_index z z underlying53 sizeOf52 (ro_sliceV f1136) h1197 h1198) ?_
 refine wq_run (v := .pointer (some (eAddr v1135 ((i64.wrap (iShr .u64 (u64.wrap (i64.wrap (z1184 + z1185))) (1:Int))).toNat * 4 + 0)))) z z (fun w hst => x_field_e z underlying52 z sizeOf24 z) ?_
 obtain ⟨cs1200, hr1201, hc1202⟩ := Ro.getF f1136 hi1199
 obtain ⟨v1203, rfl, f1204, -⟩ := hr1201
 refine wq_run (v := .int .u64 x1195.Epoch) z z (fun w hst => x_load z isAgg24 ((hc1202 (HL.le.refl _) hst) 0 _ z)) ?_
 refine wq_run (v := .int .u64 a1) z z (fun w hst => x_load z isAgg24 (hst.bc3 z)) ?_
 refine wq_run (v := .bool (decide (x1195.Epoch > a1))) z z (fun w hst => z) ?_
 refine wq_run (v := .bool (decide (x1195.Epoch > a1))) z z (fun w hst => z) ?_
 refine wq_nil ?_
 intro w hst
 refine tn (wp_ret ?_)
 refine post_ret (vs := [.bool (decide (x1195.Epoch > a1))]) results39 (rvs_cons (rv_tmp z) rvs_nil) ?_
 replace hst := hst.pull1.pull3.pull3.keep4
 obtain rfl := some_inj hm
 exact ⟨(decide (x1195.Epoch > a1)), z, z, hst⟩
}
 clear hst
 rintro _ w1210 ⟨z1206, rfl, rfl, hst⟩
 refine ⟨_, z, ?_⟩
 try dsimp only at hm
 refine wv (.bool (!z1206)) z z z (wl_nil (tn ?_))
 refine bsplit (!z1206) (fun hc1211 => ?_) (fun hc1211 => ?_)
 {
 replace hm := bif_t hc1211 hm
 refine wp_ift (cvb hc1211) ?_
 refine wrl (wv (.int .i64 (i64.wrap (iShr .u64 (u64.wrap (i64.wrap (z1184 + z1185))) (1:Int)))) z z z (wv (.int .i64 (i64.wrap ((i64.wrap (iShr .u64 (u64.wrap (i64.wrap (z1184 + z1185))) (1:Int))) + (1:Int)))) z z z (wv (.int .i64 (i64.wrap ((i64.wrap (iShr .u64 (u64.wrap (i64.wrap (z1184 + z1185))) (1:Int))) + (1:Int)))) z z z (wl_nil (blk_n (tn ?_))))))
 replace hst := hst.pull1.pull1.pull2.pull3.keep4
 obtain rfl := some_inj hm
 exact ⟨_, Nat.lt_succ_self _, (i64.wrap ((i64.wrap (iShr .u64 (u64.wrap (i64.wrap (z1184 + z1185))) (1:Int))) + (1:Int))), z1185, _, hx1192, (fu 1 (.func (.func 39) #[] #[Pt b1139 0, Pt b666 0]) z (fu 5 (.int .i64 (i64.wrap ((i64.wrap (iShr .u64 (u64.wrap (i64.wrap (z1184 + z1185))) (1:Int))) + (1:Int)))) z (fu 6 (.int .i64 z1185) z z))), hst⟩
}
 {
 replace hm := bif_f hc1211 hm
 refine wp_iff (cvb hc1211) ?_
 refine wrl (wv (.int .i64 (i64.wrap (iShr .u64 (u64.wrap (i64.wrap (z1184 + z1185))) (1:Int)))) z z z (wv (.int .i64 (i64.wrap (iShr .u64 (u64.wrap (i64.wrap (z1184 + z1185))) (1:Int)))) z z z (wl_nil (blk_n (tn ?_)))))
 replace hst := hst.pull1.pull1.pull2.pull3.keep4
 obtain rfl := some_inj hm
 exact ⟨_, Nat.lt_succ_self _, z1184, (i64.wrap (iShr .u64 (u64.wrap (i64.wrap (z1184 + z1185))) (1:Int))), _, hx1192, (fu 1 (.func (.func 39) #[] #[Pt b1139 0, Pt b666 0]) z (fu 5 (.int .i64 z1184) z (fu 6 (.int .i64 (i64.wrap (iShr .u64 (u64.wrap (i64.wrap (z1184 + z1185))) (1:Int)))) z z))), hst⟩
}
}
 {
 replace hm := bif_f hc1194 hm
 refine wp_iff (cvb hc1194) ?_
 refine wp_exit (then_x (then_x ?_))
 replace hm := inr_up hm hx1192
 refine blk_x (tn (wp_seq (wrl ?_)))
 refine wv (.int .i64 z1184) z z z (wv (.int .i64 z1184) z z z (wl_nil (tn (wp_ret ?_))))
 refine post_ret (vs := [I6 z1184]) results38 (rvs_cons (rv_tmp z) rvs_nil) ?_
 replace hst := hst.pull1.pull3.pull3.keep4
 obtain rfl := some_inj hm
 exact ⟨z1184, z, z, hst⟩
}
}
 clear hst
 rintro _ w1216 ⟨z1212, rfl, rfl, hst⟩
 refine ⟨_, z, ?_⟩
 try dsimp only at hm
 refine wv (.int .i64 z1212) z z z (wl_nil (tn (wp_seq (wrl (wv (Pt b1139 1) z z (x_field z underlying76 z sizeOf53 z) (wv (v1135) z z (x_load z isAgg53 (hst.bc3 z)) (wv (.int .i64 z1212) z z z (wv (.int .i64 (i64.wrap (z1212 - (1:Int)))) z z z (wv (.int .i64 (if (0:Int) > (i64.wrap (z1212 - (1:Int))) then (0:Int) else (i64.wrap (z1212 - (1:Int))))) z z (by kernel_rfl) ?_)))))))))
 obtain ⟨hg1217, hm⟩ := gd_some hm
 obtain ⟨h1218, h1219, h1220⟩ := fits_of hg1217
 have f1222 : Ro ty_mvcc_Version I675 (slcV 4 v1135 (if (0:Int) > (i64.wrap (z1212 - (1:Int))) then (0:Int) else (i64.wrap (z1212 - (1:Int)))).toNat (((x1127.l).length : Nat) : Int).toNat) (subs x1127.l (if (0:Int) > (i64.wrap (z1212 - (1:Int))) then (0:Int) else (i64.wrap (z1212 - (1:Int)))) (((x1127.l).length : Nat) : Int)) := Ro.part f1136 h1219 h1220 h1218
 refine wv ((slcV 4 v1135 (if (0:Int) > (i64.wrap (z1212 - (1:Int))) then (0:Int) else (i64.wrap (z1212 - (1:Int)))).toNat (((x1127.l).length : Nat) : Int).toNat)) z z (x_slice underlying53 sizeOf52 z (ro_sliceV f1136) h1218 h1219 h1220 .i64 .i64 (.inl z) (.inr ⟨z, z⟩)) ?_
 obtain ⟨t1223, ht1224, hm⟩ := bind_some hm
 refine wc call40 [(slcV 4 v1135 (if (0:Int) > (i64.wrap (z1212 - (1:Int))) then (0:Int) else (i64.wrap (z1212 - (1:Int)))).toNat (((x1127.l).length : Nat) : Int).toNat)] z z z ?_
 refine (slices_Clone_mvcc_Version_mvcc_Version_ref (RdO.of_ro f1222 _) hst.to0 ht1224).mono ?_
 rintro _ w1225 ⟨v1228, rfl, hst⟩
 refine ⟨_, z, ?_⟩
 replace hst := hst.of1
 refine wv (v1228) z z z (wl_nil (tn ?_))
 obtain ⟨y1253, hm, hx1254⟩ := bind_some hm
 refine wp_cut (fun a w => ∃ (z1250 : (List mvcc_Version)) (v1249 : Value) (σ1251 : Nat → Value), (mvcc_Store_Trim_j3 z1115 x1127 z1114) z1250 = some y1123 ∧ a = Fr 57 (upd (upd (upd (upd (upd (upd (upd (upd σ1251 0 (Pt b671 0)) 3 (Pt b666 0)) 4 (v1116)) 6 (Pt b1139 0)) 8 (v1249)) 14 (v672)) 15 (.int .i64 ((o0.rows).length : Int))) 16 (.int .i64 z1114)) ∧ St w0 w I675 [cells b671 [v672], cells b666 [U6 a1], ownN nest_mvcc_row v1116 z1115, cells b1139 [U6 x1127.rank, v1135], ownS ty_mvcc_Version v1249 z1250] R) ?_ ?_
 {
 refine wp_seq (wrl (wv (.int .i64 z1212) z z z (wv (.bool (decide (z1212 > (0:Int)))) z z z (wv (.bool (decide (z1212 > (0:Int)))) z z z ?_))))
 refine bsplit (decide (z1212 > (0:Int))) (fun hc1230 => ?_) (fun hc1230 => ?_)
 {
 replace hm := bif_t hc1230 hm
 refine wv (v1228) ((wanted_eq z z z (cvb hc1230)).trans z) z z ?_
 obtain ⟨x1231, hx1232, hm⟩ := bind_some hm
 obtain ⟨h1233, h1234, hi1235⟩ := geto_some hx1232
 refine wv (.pointer (some (eAddr v1228 ((0:Int).toNat * 4 + 0)))) ((wanted_eq z z z (cvb hc1230)).trans z) z (x_index z z underlying53 sizeOf52 hst.sv0 h1233 h1234) (wv (.pointer (some (eAddr v1228 ((0:Int).toNat * 4 + 2)))) ((wanted_eq z z z (cvb hc1230)).trans z) z (x_field_e z underlying52 z sizeOf4 z) ?_)
 obtain ⟨cs1236, hr1237, hc1238⟩ := hst.og0 hi1235
 obtain ⟨v1239, rfl, f1240, -⟩ := hr1237
 refine wv (.bool x1231.Del) ((wanted_eq z z z (cvb hc1230)).trans z) z (x_load z isAgg4 (hc1238 2 _ z)) (wv (.bool x1231.Del) z z (x_pick_t hc1230 z z) (wl_nil (tn ?_)))
 refine bsplit x1231.Del (fun hc1242 => ?_) (fun hc1242 => ?_)
 {
 replace hm := bif_t hc1242 hm
 refine wp_ift (cvb hc1242) ?_
 refine wrl (wv (v1228) z z z ?_)
 obtain ⟨hg1243, hm⟩ := gd_some hm
 obtain ⟨h1244, h1245, h1246⟩ := fits_of hg1243
 refine wv ((slcV 4 v1228 (1:Int).toNat (((t1223).length : Nat) : Int).toNat)) z z (x_slice underlying53 sizeOf52 z hst.sv0 h1244 h1245 h1246 .i64 .i64 (.inl z) (.inr ⟨z, z⟩)) ?_
 replace hst := hst.own_part h1245 h1246 h1244
 refine wv ((slcV 4 v1228 (1:Int).toNat (((t1223).length : Nat) : Int).toNat)) z z z (wl_nil (tn ?_))
 replace hst := hst.pull4.pull4.pull4.pull4.keep5
 obtain rfl := some_inj hm
 exact ⟨(subs t1223 (1:Int) (((t1223).length : Nat) : Int)), (slcV 4 v1228 (1:Int).toNat (((t1223).length : Nat) : Int).toNat), _, hx1254, (fu 0 (Pt b671 0) z (fu 3 (Pt b666 0) z (fu 4 v1116 z (fu 6 (Pt b1139 0) z (fu 8 (slcV 4 v1228 (1:Int).toNat (((t1223).length : Nat) : Int).toNat) z (fu 14 v672 z (fu 15 (.int .i64 ((o0.rows).length : Int)) z (fu 16 (.int .i64 z1114) z z)))))))), hst⟩
}
 {
 replace hm := bif_f hc1242 hm
 refine wp_iff (cvb hc1242) ?_
 refine wp_skip (tn ?_)
 replace hst := hst.pull4.pull4.pull4.pull4.keep5
 obtain rfl := some_inj hm
 exact ⟨t1223, v1228, _, hx1254, (fu 0 (Pt b671 0) z (fu 3 (Pt b666 0) z (fu 4 v1116 z (fu 6 (Pt b1139 0) z (fu 8 v1228 z (fu 14 v672 z (fu 15 (.int .i64 ((o0.rows).length : Int)) z (fu 16 (.int .i64 z1114) z z)))))))), hst⟩
}
}
 {
 replace hm := bif_f hc1230 hm
 refine wo hc1230 z z z z z z (wo hc1230 z z z z z z (wo hc1230 z z z z z z (wo hc1230 z z z z z z (wv (.bool false) z z (x_pick_f hc1230 z z) (wl_nil (tn ?_))))))
 refine wp_iff z ?_
 refine wp_skip (tn ?_)
 replace hst := hst.pull4.pull4.pull4.pull4.keep5
 obtain rfl := some_inj hm
 exact ⟨t1223, v1228, _, hx1254, (fu 0 (Pt b671 0) z (fu 3 (Pt b666 0) z (fu 4 v1116 z (fu 6 (Pt b1139 0) z (fu 8 v1228 z (fu 14 v672 z (fu 15 (.int .i64 ((o0.rows).length : Int)) z (fu 16 (.int .i64 z1114) z z)))))))), hst⟩
}
}
 {
 clear hst
 rintro _ w1255 ⟨z1250, v1249, σ1251, hm, rfl, hst⟩
 dsimp only [mvcc_Store_Trim_j3] at hm
 refine wp_seq (wrl (wv (v1249) z z z (wv (.int .i64 ((z1250).length : Int)) z z (x_len z underlying53 hst.sv4) (wv (.bool (decide (((z1250).length : Int) > (0:Int)))) z z z (wl_nil (tn ?_))))))
 refine bsplit (decide (((z1250).length : Int) > (0:Int))) (fun hc1256 => ?_) (fun hc1256 => ?_)
 {
 replace hm := bif_t hc1256 hm
 refine wp_ift (cvb hc1256) ?_
 refine wrl (wv (v1116) z z z (wv (Pt b1139 0) z z (x_field z underlying76 z sizeOf24 z) (wv (.int .u64 x1127.rank) z z (x_load z isAgg24 (hst.bc3 z)) (wv (v1249) z z z (wv (.agg #[U6 x1127.rank, v1249]) z z (by obtain ⟨_, _, hv_, _⟩ := hst.sv4; rw [hv_]; kernel_rfl) ?_)))))
 replace hst := hst.pull4
 have hv1264 := hst.sv0
 obtain ⟨b1259, w1260, ew1261, eb1262, hst⟩ := hst.nest_one (N := nest_mvcc_row) (x := ({ rank := x1127.rank, l := z1250 } : mvcc_row)) 76
 refine wl_run (v := (.slice (some ⟨b1259, 0, none⟩) 1 1)) (w' := w1260) z z (x_als (by obtain ⟨_, _, hv_, _⟩ := hv1264; rw [hv_]; kernel_rfl) ew1261 eb1262) ?_
 obtain ⟨hg1265, hm⟩ := gd_some hm
 replace hst := hst.pull3.pull1.pull1
 obtain ⟨v1266, w1267, hr1268, hst⟩ := run_appN (N := nest_mvcc_row) elemN_77 underlying77 hst (room_of hg1265 z) 77
 refine wl_run (v := v1266) (w' := w1267) z z (x_append z z hr1268) ?_
 refine wv (v1266) z z z (wl_nil (blk_n (tn (wrl (wv (.int .i64 (i64.wrap (z1114 + (1:Int)))) z z z (wv (.int .i64 (i64.wrap (z1114 + (1:Int)))) z z z (wl_nil (tn ?_))))))))
 replace hst := hst.pull2.pull2.pull2.keep3
 obtain rfl := some_inj hm
 exact ⟨_, Nat.lt_succ_self _, (i64.wrap (z1114 + (1:Int))), (z1115 ++ ([({ rank := x1127.rank, l := z1250 } : mvcc_row)])), v1266, _, hx1124, (fu 0 (Pt b671 0) z (fu 3 (Pt b666 0) z (fu 4 v1266 z (fu 14 v672 z (fu 15 (.int .i64 ((o0.rows).length : Int)) z (fu 16 (.int .i64 (i64.wrap (z1114 + (1:Int)))) z z)))))), hst⟩
}
 {
 replace hm := bif_f hc1256 hm
 refine wp_iff (cvb hc1256) ?_
 refine wp_skip (blk_n (tn (wrl ?_)))
 refine wv (.int .i64 (i64.wrap (z1114 + (1:Int)))) z z z (wv (.int .i64 (i64.wrap (z1114 + (1:Int)))) z z z (wl_nil (tn ?_)))
 replace hst := hst.pull1.pull1.pull2.keep3
 obtain rfl := some_inj hm
 exact ⟨_, Nat.lt_succ_self _, (i64.wrap (z1114 + (1:Int))), z1115, v1116, _, hx1124, (fu 0 (Pt b671 0) z (fu 3 (Pt b666 0) z (fu 4 v1116 z (fu 14 v672 z (fu 15 (.int .i64 ((o0.rows).length : Int)) z (fu 16 (.int .i64 (i64.wrap (z1114 + (1:Int)))) z z)))))), hst⟩
}
}
}
 {
 replace hm := bif_f hc1126 hm
 refine wp_iff (cvb hc1126) ?_
 refine wp_exit (then_x (then_x ?_))
 replace hm := inr_up hm hx1124
 refine blk_x (tn ?_)
 replace hst := hst.pull1.keep2
 obtain rfl := some_inj hm
 exact ⟨_, z1115, v1116, _, hx1278, (fu 0 (Pt b671 0) z (fu 4 v1116 z z)), hL1279, f677, hst⟩
}
}
 {
 clear hst
 rintro _ w1280 ⟨I1274, z1273, v1272, σ1275, hm, rfl, hL1276, f1270, hst⟩
 dsimp only [mvcc_Store_Trim_j0] at hm
 replace hI0 := hI0.trans hL1276
 refine wrl (wv (Pt b671 0) z z z (wv (v1272) z z z (wv (Pt b671 0) z z z (wv (Pt b671 0) z z (x_field z underlying79 z sizeOf77 z) ?_))))
 obtain ⟨w1281, hr1282, hst⟩ := hst.boxStore1 (P := prog) (t := 77) (cs' := [v1272]) 0 v1272 (one_of_sliceV (hst.nestsv 1 z)) sizeOf77 z z
 refine wl_unit z z (x_unit hr1282) ?_
 refine wl_nil ?_
 replace hst := hst.pull1.pull1
 replace hst := at_mvcc_Store_close (pv := Pt b671 0) (x := ({ rows := z1273 } : mvcc_Store)) hst z
 replace hst := objO_some hst
 obtain rfl := some_inj hm
 refine post_end (vs := []) results19 rvs_nil ?_
 exact ⟨_, z, hI0, hst.keep1⟩
}
}
}

theorem ref11_last_ref {w0 w : World} {I : HL} {R : SP} {a0 : (List ref11_Version)} {r0_0 : Value} {a1 : Nat} {a2 : Int} (f0_0 : Rd ty_ref11_Version R I r0_0 a0) (hst : St w0 w I [] R) {r : (Int)} (hm : ref11_last a0 a1 a2 = some r) :
  Calls prog 34 #[r0_0, F6 a1, U6 a2] w fun e w' => e = .returned (.int .i64 r) ∧ St w0 w' I [] R := by {
 unfold ref11_last at hm
 refine calls_start (args := [r0_0, F6 a1, U6 a2]) func34 z ntmps34 (Nat.le_of_ble_eq_true z) ?_
 refine wp_seq (wrl (wv (.int .i64 (0:Int)) z z z (wl_nil (tn (wp_seq (wrl (wv (.int .i64 ((-1):Int)) z z z (wl_nil (tn (wp_seq (wp_seq (wrl (wv (.int .i64 (0:Int)) z z z (wl_nil (tn (wp_block ?_))))))))))))))))
 obtain ⟨n278, hm⟩ := loopO_some hm
 refine wp_loop_n (fun n a w => ∃ (z275 : Int) (z276 : Int) (σ277 : Nat → Value), loopN (ref11_last_l0 a0 a1 a2) n (z275, z276) = some r ∧ a = Fr 76 (upd (upd (upd (upd (upd σ277 0 (r0_0)) 1 (.float .f64 a1)) 2 (.int .u64 a2)) 7 (.int .i64 z275)) 8 (.int .i64 z276)) ∧ St w0 w I [] R) n278 ⟨((-1):Int), (0:Int), _, hm, (fu 0 r0_0 z (fu 1 (.float .f64 a1) z (fu 2 (.int .u64 a2) z (fu 7 (.int .i64 ((-1):Int)) z (fu 8 (.int .i64 (0:Int)) z z))))), hst⟩ ?_
 rintro n284 _ w279 ⟨z275, z276, σ277, hm, rfl, hst⟩
 obtain ⟨n281, y282, rfl, hm, hx283⟩ := loopN_some hm
 dsimp only [ref11_last_l0] at hm
 refine wp_seq (wp_seq (wrl (wv (.int .i64 z276) z z z (wv (r0_0) z z z (wv (.int .i64 ((a0).length : Int)) z z (x_len z underlying26 (rd_sliceV f0_0)) (wv (.bool (decide (z276 < ((a0).length : Int)))) z z z (wl_nil (tn ?_))))))))
 refine bsplit (decide (z276 < ((a0).length : Int))) (fun hc285 => ?_) (fun hc285 => ?_)
 {
 replace hm := bif_t hc285 hm
 refine wp_ift (cvb hc285) ?_
 refine wp_skip (tn (wp_seq (wp_block (wp_seq ?_))))
 refine wp_region_St hst 59 [0, 1, 2, 3, 4, 5, 6, 7, 8, 9, 10, 11, 12, 13, 14, 15, 16, 17, 18, 19, 20, 21, 22, 23, 24, 25, 26, 27, 28, 29, 30, 31, 32, 33, 34, 35, 36, 37, 38, 39, 40, 41, 42, 43, 44, 45, 46, 47, 48, 49, 50, 51, 52, 53, 54, 55, 56, 57, 58] [0, 0, 3, 7, 15, 0, 63, 127, 255, 255, 1023, 2047, 4095, 255, 16383, 32767, 65535, 131071, 262143, 524287, 1048575, 1048575, 4194303, 8388607, 16777215, 1048575, 1048575, 101711871, 235929599, 504365055, 1073741823, 2147483647, 4294967295, 8589934591, 8589934591, 34359738367, 68719476735, 137438953471, 8589934591, 8589934591, 833223655423, 1932735283199, 4131758538751, 8796093022207, 17592186044415, 35184372088831, 35184372088831, 140737488355327, 281474976710655, 562949953421311, 35184372088831, 35184372088831, 3412884092616703, 7916483719987199, 16923682974728191, 36028797018963967, 72057594037927935, 144115188075855871, 288230376151711743] [] z (by kernel_rfl) (by kernel_rfl) Try.mixed (by kernel_rfl) ?_
 refine wsr (r0_0) 0 z z z (by kernel_rfl) (fun w hst => z) (wsr (.int .i64 z276) 1 z z z (by kernel_rfl) (fun w hst => z) ?_)
 obtain ⟨x286, hx287, hm⟩ := bind_some hm
 obtain ⟨h288, h289, hi290⟩ := geto_some hx287
 refine wsr (.pointer (some (eAddr r0_0 (z276.toNat * 5 + 0)))) 2 z z z (by kernel_rfl) (fun w hst => x_index z z underlying26 sizeOf67 (rd_sliceV f0_0) h288 h289) (wsr (.pointer (some (eAddr r0_0 (z276.toNat * 5 + 0)))) 3 z z z (by kernel_rfl) (fun w hst => x_field_e z underlying67 z sizeOf23 z) ?_)
 obtain ⟨cs291, hr292, hc293⟩ := Rd.getF f0_0 hi290
 obtain ⟨v294, rfl, f295, -⟩ := hr292
 refine wsr (.float .f64 x286.At) 4 z z z (by kernel_rfl) (fun w hst => x_load z isAgg23 ((hc293 (HL.le.refl _) hst) 0 _ z)) (wsr (.float .f64 a1) 5 z z z (by kernel_rfl) (fun w hst => z) ?_)
 refine ws_e1 6 (by kernel_rfl) ?_
 refine nxe [7, 8, 9, 10, 11, 12, 13, 14, 15, 16, 17, 18, 19, 20, 21, 22, 23, 24, 25, 26, 27, 28, 29, 30, 31, 32, 33, 34, 35, 36, 37, 38, 39, 40, 41, 42, 43, 44, 45, 46, 47, 48, 49, 50, 51, 52, 53, 54, 55, 56, 57, 58] (by kernel_rfl) z z ?_
 clear hst
 intro w hst
 obtain ⟨t297, ht298, hm⟩ := bind_some hm
 refine wec call30 [F6 x286.At, F6 a1] z z ?_
 refine (ref01_Same_ref hst.to0 ht298).mono ?_
 rintro _ w299 ⟨rfl, hst⟩
 refine ⟨_, z, ?_⟩
 replace hst := hst.of0
 refine ws_next (pend' := []) hst (by kernel_rfl) pk_nil ?_
 refine wsr (.bool t297) 7 z z z (by kernel_rfl) (fun w hst => z) ?_
 refine bsplit t297 (fun hc302 => ?_) (fun hc302 => ?_)
 {
 replace hm := bif_t hc302 hm
 refine ws_q (v := r0_0) 8 [9, 10, 11, 12, 13, 14, 15, 16, 17, 18, 19, 20, 21, 22, 23, 24, 25, 26, 27, 28, 29, 30, 31, 32, 33, 34, 35, 36, 37, 38, 39, 40, 41, 42, 43, 44, 45, 46, 47, 48, 49, 50, 51, 52, 53, 54, 55, 56, 57, 58] (by kernel_rfl) z z (yi_run ((wanted_eq z z z (cvb hc302)).trans z) (fun w hst => z)) (ws_q (v := .int .i64 z276) 9 [10, 11, 12, 13, 14, 15, 16, 17, 18, 19, 20, 21, 22, 23, 24, 25, 26, 27, 28, 29, 30, 31, 32, 33, 34, 35, 36, 37, 38, 39, 40, 41, 42, 43, 44, 45, 46, 47, 48, 49, 50, 51, 52, 53, 54, 55, 56, 57, 58] (by kernel_rfl) z z (yi_run ((wanted_eq z z z (cvb hc302)).trans z) (fun w hst => z)) (ws_q (v := .pointer (some (eAddr r0_0 (z276.toNat * 5 + 0)))) 10 [11, 12, 13, 14, 15, 16, 17, 18, 19, 20, 21, 22, 23, 24, 25, 26, 27, 28, 29, 30, 31, 32, 33, 34, 35, 36, 37, 38, 39, 40, 41, 42, 43, 44, 45, 46, 47, 48, 49, 50, 51, 52, 53, 54, 55, 56, 57, 58] (by kernel_rfl) z z (yi_run ((wanted_eq z z z (cvb hc302)).trans z) (fun w hst => x_index z z underlying26 sizeOf67 (rd_sliceV f0_0) h288 h289)) (ws_q (v := .pointer (some (eAddr r0_0 (z276.toNat * 5 + 1)))) 11 [12, 13, 14, 15, 16, 17, 18, 19, 20, 21, 22, 23, 24, 25, 26, 27, 28, 29, 30, 31, 32, 33, 34, 35, 36, 37, 38, 39, 40, 41, 42, 43, 44, 45, 46, 47, 48, 49, 50, 51, 52, 53, 54, 55, 56, 57, 58] (by kernel_rfl) z z (yi_run ((wanted_eq z z z (cvb hc302)).trans z) (fun w hst => x_field_e z underlying67 z sizeOf24 z)) ?_)))
 obtain ⟨cs303, hr304, hc305⟩ := Rd.getF f0_0 hi290
 obtain ⟨v306, rfl, f307, -⟩ := hr304
 refine ws_q (v := .int .u64 x286.Epoch) 12 [13, 14, 15, 16, 17, 18, 19, 20, 21, 22, 23, 24, 25, 26, 27, 28, 29, 30, 31, 32, 33, 34, 35, 36, 37, 38, 39, 40, 41, 42, 43, 44, 45, 46, 47, 48, 49, 50, 51, 52, 53, 54, 55, 56, 57, 58] (by kernel_rfl) z z (yi_run ((wanted_eq z z z (cvb hc302)).trans z) (fun w hst => x_load z isAgg24 ((hc305 (HL.le.refl _) hst) 1 _ z))) (ws_q (v := .int .u64 a2) 13 [14, 15, 16, 17, 18, 19, 20, 21, 22, 23, 24, 25, 26, 27, 28, 29, 30, 31, 32, 33, 34, 35, 36, 37, 38, 39, 40, 41, 42, 43, 44, 45, 46, 47, 48, 49, 50, 51, 52, 53, 54, 55, 56, 57, 58] (by kernel_rfl) z z (yi_run ((wanted_eq z z z (cvb hc302)).trans z) (fun w hst => z)) (ws_q (v := .bool (decide (x286.Epoch ≤ a2))) 14 [15, 16, 17, 18, 19, 20, 21, 22, 23, 24, 25, 26, 27, 28, 29, 30, 31, 32, 33, 34, 35, 36, 37, 38, 39, 40, 41, 42, 43, 44, 45, 46, 47, 48, 49, 50, 51, 52, 53, 54, 55, 56, 57, 58] (by kernel_rfl) z z (yi_run ((wanted_eq z z z (cvb hc302)).trans z) (fun w hst => z)) (wsr (.bool (decide (x286.Epoch ≤ a2))) 15 z z z (by kernel_rfl) (fun w hst => x_pick_t hc302 z z) (wsr (.bool (decide (x286.Epoch ≤ a2))) 16 z z z (by kernel_rfl) (fun w hst => z) ?_))))
 refine bsplit (decide (x286.Epoch ≤ a2)) (fun hc309 => ?_) (fun hc309 => ?_)
 {
 replace hm := bif_t hc309 hm
 refine ws_q (v := .int .i64 z275) 17 [18, 19, 20, 21, 22, 23, 24, 25, 26, 27, 28, 29, 30, 31, 32, 33, 34, 35, 36, 37, 38, 39, 40, 41, 42, 43, 44, 45, 46, 47, 48, 49, 50, 51, 52, 53, 54, 55, 56, 57, 58] (by kernel_rfl) z z (yi_run ((wanted_eq z z z (cvb hc309)).trans z) (fun w hst => z)) (ws_q (v := .bool (decide (z275 < (0:Int)))) 18 [19, 20, 21, 22, 23, 24, 25, 26, 27, 28, 29, 30, 31, 32, 33, 34, 35, 36, 37, 38, 39, 40, 41, 42, 43, 44, 45, 46, 47, 48, 49, 50, 51, 52, 53, 54, 55, 56, 57, 58] (by kernel_rfl) z z (yi_run ((wanted_eq z z z (cvb hc309)).trans z) (fun w hst => z)) (ws_q (v := .bool (decide (z275 < (0:Int)))) 19 [20, 21, 22, 23, 24, 25, 26, 27, 28, 29, 30, 31, 32, 33, 34, 35, 36, 37, 38, 39, 40, 41, 42, 43, 44, 45, 46, 47, 48, 49, 50, 51, 52, 53, 54, 55, 56, 57, 58] (by kernel_rfl) z z (yi_run ((wanted_eq z z z (cvb hc309)).trans z) (fun w hst => z)) ?_))
 refine bsplit (decide (z275 < (0:Int))) (fun hc310 => ?_) (fun hc310 => ?_)
 {
 replace hm := bif_t hc310 hm
 refine ws_q (v := undef) 20 [21, 22, 23, 24, 25, 26, 27, 28, 29, 30, 31, 32, 33, 34, 35, 36, 37, 38, 39, 40, 41, 42, 43, 44, 45, 46, 47, 48, 49, 50, 51, 52, 53, 54, 55, 56, 57, 58] (by kernel_rfl) z z (yi_off ((wanted_eq z z z (cvb hc310)).trans z)) (ws_q (v := undef) 21 [22, 23, 24, 25, 26, 27, 28, 29, 30, 31, 32, 33, 34, 35, 36, 37, 38, 39, 40, 41, 42, 43, 44, 45, 46, 47, 48, 49, 50, 51, 52, 53, 54, 55, 56, 57, 58] (by kernel_rfl) z z (yi_off ((wanted_eq z z z (cvb hc310)).trans z)) (ws_q (v := undef) 22 [23, 24, 25, 26, 27, 28, 29, 30, 31, 32, 33, 34, 35, 36, 37, 38, 39, 40, 41, 42, 43, 44, 45, 46, 47, 48, 49, 50, 51, 52, 53, 54, 55, 56, 57, 58] (by kernel_rfl) z z (yi_off ((wanted_eq z z z (cvb hc310)).trans z)) (ws_q (v := undef) 23 [24, 25, 26, 27, 28, 29, 30, 31, 32, 33, 34, 35, 36, 37, 38, 39, 40, 41, 42, 43, 44, 45, 46, 47, 48, 49, 50, 51, 52, 53, 54, 55, 56, 57, 58] (by kernel_rfl) z z (yi_off ((wanted_eq z z z (cvb hc310)).trans z)) (ws_q (v := undef) 24 [25, 26, 27, 28, 29, 30, 31, 32, 33, 34, 35, 36, 37, 38, 39, 40, 41, 42, 43, 44, 45, 46, 47, 48, 49, 50, 51, 52, 53, 54, 55, 56, 57, 58] (by kernel_rfl) z z (yi_off ((wanted_eq z z z (cvb hc310)).trans z)) (ws_q (v := undef) 25 [26, 27, 28, 29, 30, 31, 32, 33, 34, 35, 36, 37, 38, 39, 40, 41, 42, 43, 44, 45, 46, 47, 48, 49, 50, 51, 52, 53, 54, 55, 56, 57, 58] (by kernel_rfl) z z (yi_off ((wanted_eq z z z (cvb hc310)).trans z)) (ws_q (v := undef) 26 [27, 28, 29, 30, 31, 32, 33, 34, 35, 36, 37, 38, 39, 40, 41, 42, 43, 44, 45, 46, 47, 48, 49, 50, 51, 52, 53, 54, 55, 56, 57, 58] (by kernel_rfl) z z (yi_off ((wanted_eq z z z (cvb hc310)).trans z)) (ws_q (v := undef) 27 [28, 29, 30, 31, 32, 33, 34, 35, 36, 37, 38, 39, 40, 41, 42, 43, 44, 45, 46, 47, 48, 49, 50, 51, 52, 53, 54, 55, 56, 57, 58] (by kernel_rfl) z z (yi_off ((wanted_eq z z z (cvb hc310)).trans z)) (ws_q (v := undef) 28 [29, 30, 31, 32, 33, 34, 35, 36, 37, 38, 39, 40, 41, 42, 43, 44, 45, 46, 47, 48, 49, 50, 51, 52, 53, 54, 55, 56, 57, 58] (by kernel_rfl) z z (yi_off ((wanted_eq z z z (cvb hc310)).trans z)) (ws_q (v := undef) 29 [30, 31, 32, 33, 34, 35, 36, 37, 38, 39, 40, 41, 42, 43, 44, 45, 46, 47, 48, 49, 50, 51, 52, 53, 54, 55, 56, 57, 58] (by kernel_rfl) z z (yi_off ((wanted_eq z z z (cvb hc310)).trans z)) (ws_q (v := undef) 30 [31, 32, 33, 34, 35, 36, 37, 38, 39, 40, 41, 42, 43, 44, 45, 46, 47, 48, 49, 50, 51, 52, 53, 54, 55, 56, 57, 58] (by kernel_rfl) z z (yi_off ((wanted_eq z z z (cvb hc310)).trans z)) (ws_q (v := .bool true) 31 [32, 33, 34, 35, 36, 37, 38, 39, 40, 41, 42, 43, 44, 45, 46, 47, 48, 49, 50, 51, 52, 53, 54, 55, 56, 57, 58] (by kernel_rfl) z z (yi_run ((wanted_eq z z z (cvb hc309)).trans z) (fun w hst => x_pick_t hc310 z z)) (ws_q (v := .bool true) 32 [33, 34, 35, 36, 37, 38, 39, 40, 41, 42, 43, 44, 45, 46, 47, 48, 49, 50, 51, 52, 53, 54, 55, 56, 57, 58] (by kernel_rfl) z z (yi_run ((wanted_eq z z z (cvb hc309)).trans z) (fun w hst => z)) ?_))))))))))))
 refine ws_q (v := undef) 33 [34, 35, 36, 37, 38, 39, 40, 41, 42, 43, 44, 45, 46, 47, 48, 49, 50, 51, 52, 53, 54, 55, 56, 57, 58] (by kernel_rfl) z z (yi_off ((wanted_eq z z z z).trans z)) (ws_q (v := undef) 34 [35, 36, 37, 38, 39, 40, 41, 42, 43, 44, 45, 46, 47, 48, 49, 50, 51, 52, 53, 54, 55, 56, 57, 58] (by kernel_rfl) z z (yi_off ((wanted_eq z z z z).trans z)) (ws_q (v := undef) 35 [36, 37, 38, 39, 40, 41, 42, 43, 44, 45, 46, 47, 48, 49, 50, 51, 52, 53, 54, 55, 56, 57, 58] (by kernel_rfl) z z (yi_off ((wanted_eq z z z z).trans z)) (ws_q (v := undef) 36 [37, 38, 39, 40, 41, 42, 43, 44, 45, 46, 47, 48, 49, 50, 51, 52, 53, 54, 55, 56, 57, 58] (by kernel_rfl) z z (yi_off ((wanted_eq z z z z).trans z)) (ws_q (v := undef) 37 [38, 39, 40, 41, 42, 43, 44, 45, 46, 47, 48, 49, 50, 51, 52, 53, 54, 55, 56, 57, 58] (by kernel_rfl) z z (yi_off ((wanted_eq z z z z).trans z)) (ws_q (v := undef) 38 [39, 40, 41, 42, 43, 44, 45, 46, 47, 48, 49, 50, 51, 52, 53, 54, 55, 56, 57, 58] (by kernel_rfl) z z (yi_off ((wanted_eq z z z z).trans z)) (ws_q (v := undef) 39 [40, 41, 42, 43, 44, 45, 46, 47, 48, 49, 50, 51, 52, 53, 54, 55, 56, 57, 58] (by kernel_rfl) z z (yi_off ((wanted_eq z z z z).trans z)) (ws_q (v := undef) 40 [41, 42, 43, 44, 45, 46, 47, 48, 49, 50, 51, 52, 53, 54, 55, 56, 57, 58] (by kernel_rfl) z z (yi_off ((wanted_eq z z z z).trans z)) (ws_q (v := undef) 41 [42, 43, 44, 45, 46, 47, 48, 49, 50, 51, 52, 53, 54, 55, 56, 57, 58] (by kernel_rfl) z z (yi_off ((wanted_eq z z z z).trans z)) (ws_q (v := undef) 42 [43, 44, 45, 46, 47, 48, 49, 50, 51, 52, 53, 54, 55, 56, 57, 58] (by kernel_rfl) z z (yi_off ((wanted_eq z z z z).trans z)) (ws_q (v := undef) 43 [44, 45, 46, 47, 48, 49, 50, 51, 52, 53, 54, 55, 56, 57, 58] (by kernel_rfl) z z (yi_off ((wanted_eq z z z z).trans z)) (ws_q (v := undef) 44 [45, 46, 47, 48, 49, 50, 51, 52, 53, 54, 55, 56, 57, 58] (by kernel_rfl) z z (yi_off ((wanted_eq z z z z).trans z)) (ws_q (v := undef) 45 [46, 47, 48, 49, 50, 51, 52, 53, 54, 55, 56, 57, 58] (by kernel_rfl) z z (yi_off (wanted_undef z z z z)) ?_))))))))))))
 refine ws_q (v := undef) 46 [47, 48, 49, 50, 51, 52, 53, 54, 55, 56, 57, 58] (by kernel_rfl) z z (yi_off (wanted_undef z z z z)) (ws_q (v := undef) 47 [48, 49, 50, 51, 52, 53, 54, 55, 56, 57, 58] (by kernel_rfl) z z (yi_off (wanted_undef z z z z)) (ws_q (v := undef) 48 [49, 50, 51, 52, 53, 54, 55, 56, 57, 58] (by kernel_rfl) z z (yi_off (wanted_undef z z z z)) (ws_q (v := undef) 49 [50, 51, 52, 53, 54, 55, 56, 57, 58] (by kernel_rfl) z z (yi_off (wanted_undef z z z z)) (ws_q (v := undef) 50 [51, 52, 53, 54, 55, 56, 57, 58] (by kernel_rfl) z z (yi_off (wanted_undef z z z z)) (ws_q (v := undef) 51 [52, 53, 54, 55, 56, 57, 58] (by kernel_rfl) z z (yi_off (wanted_undef z z z z)) (ws_q (v := undef) 52 [53, 54, 55, 56, 57, 58] (by kernel_rfl) z z (yi_off (wanted_undef z z z z)) (ws_q (v := undef) 53 [54, 55, 56, 57, 58] (by kernel_rfl) z z (yi_off (wanted_undef z z z z)) (ws_q (v := undef) 54 [55, 56, 57, 58] (by kernel_rfl) z z (yi_off (wanted_undef z z z z)) (ws_q (v := undef) 55 [56, 57, 58] (by kernel_rfl) z z (yi_off (wanted_undef z z z z)) (ws_q (v := undef) 56 [57, 58] (by kernel_rfl) z z (yi_off ((wanted_eq z z z z).trans z)) (ws_q (v := .bool true) 57 [58] (by kernel_rfl) z z (yi_run ((wanted_eq z z z (cvb hc309)).trans z) (fun w hst => x_pick_t z z z)) (wsr (.bool true) 58 z z z (by kernel_rfl) (fun w hst => x_pick_t hc309 z z) ?_))))))))))))
 refine ws_nil ?_
 intro w hst
 refine tn ?_
 refine wp_ift z ?_
 refine wrl (wv (.int .i64 z276) z z z (wv (.int .i64 z276) z z z (wl_nil (blk_n (tn (wrl (wv (.int .i64 z276) z z z (wv (.int .i64 (i64.wrap (z276 + (1:Int)))) z z z (wv (.int .i64 (i64.wrap (z276 + (1:Int)))) z z z (wl_nil (tn ?_)))))))))))
 replace hst := hst.keep0
 obtain rfl := some_inj hm
 exact ⟨_, Nat.lt_succ_self _, z276, (i64.wrap (z276 + (1:Int))), _, hx283, (fu 0 r0_0 z (fu 1 (.float .f64 a1) z (fu 2 (.int .u64 a2) z (fu 7 (.int .i64 z276) z (fu 8 (.int .i64 (i64.wrap (z276 + (1:Int)))) z z))))), hst⟩
}
 {
 replace hm := bif_f hc310 hm
 refine ws_q (v := r0_0) 20 [21, 22, 23, 24, 25, 26, 27, 28, 29, 30, 31, 32, 33, 34, 35, 36, 37, 38, 39, 40, 41, 42, 43, 44, 45, 46, 47, 48, 49, 50, 51, 52, 53, 54, 55, 56, 57, 58] (by kernel_rfl) z z (yi_run ((wanted_eq z z z (cvb hc310)).trans z) (fun w hst => z)) (ws_q (v := .int .i64 z275) 21 [22, 23, 24, 25, 26, 27, 28, 29, 30, 31, 32, 33, 34, 35, 36, 37, 38, 39, 40, 41, 42, 43, 44, 45, 46, 47, 48, 49, 50, 51, 52, 53, 54, 55, 56, 57, 58] (by kernel_rfl) z z (yi_run ((wanted_eq z z z (cvb hc310)).trans z) (fun w hst => z)) ?_)
 obtain ⟨x311, hx312, hm⟩ := bind_some hm
 obtain ⟨h313, h314, hi315⟩ := geto_some hx312
 refine ws_q (v := .pointer (some (eAddr r0_0 (z275.toNat * 5 + 0)))) 22 [23, 24, 25, 26, 27, 28, 29, 30, 31, 32, 33, 34, 35, 36, 37, 38, 39, 40, 41, 42, 43, 44, 45, 46, 47, 48, 49, 50, 51, 52, 53, 54, 55, 56, 57, 58] (by kernel_rfl) z z (yi_run ((wanted_eq z z z (cvb hc310)).trans z) (fun w hst => x_index z z underlying26 sizeOf67 (rd_sliceV f0_0) h313 h314)) (ws_q (v := .pointer (some (eAddr r0_0 (z275.toNat * 5 + 1)))) 23 [24, 25, 26, 27, 28, 29, 30, 31, 32, 33, 34, 35, 36, 37, 38, 39, 40, 41, 42, 43, 44, 45, 46, 47, 48, 49, 50, 51, 52, 53, 54, 55, 56, 57, 58] (by kernel_rfl) z z (yi_run ((wanted_eq z z z (cvb hc310)).trans z) (fun w hst => x_field_e z underlying67 z sizeOf24 z)) ?_)
 obtain ⟨cs316, hr317, hc318⟩ := Rd.getF f0_0 hi315
 obtain ⟨v319, rfl, f320, -⟩ := hr317
 refine ws_q (v := .int .u64 x311.Epoch) 24 [25, 26, 27, 28, 29, 30, 31, 32, 33, 34, 35, 36, 37, 38, 39, 40, 41, 42, 43, 44, 45, 46, 47, 48, 49, 50, 51, 52, 53, 54, 55, 56, 57, 58] (by kernel_rfl) z z (yi_run ((wanted_eq z z z (cvb hc310)).trans z) (fun w hst => x_load z isAgg24 ((hc318 (HL.le.refl _) hst) 1 _ z))) (ws_q (v := r0_0) 25 [26, 27, 28, 29, 30, 31, 32, 33, 34, 35, 36, 37, 38, 39, 40, 41, 42, 43, 44, 45, 46, 47, 48, 49, 50, 51, 52, 53, 54, 55, 56, 57, 58] (by kernel_rfl) z z (yi_run ((wanted_eq z z z (cvb hc310)).trans z) (fun w hst => z)) (ws_q (v := .int .i64 z276) 26 [27, 28, 29, 30, 31, 32, 33, 34, 35, 36, 37, 38, 39, 40, 41, 42, 43, 44, 45, 46, 47, 48, 49, 50, 51, 52, 53, 54, 55, 56, 57, 58] (by kernel_rfl) z z (yi_run ((wanted_eq z z z (cvb hc310)).trans z) (fun w hst => z)) (ws_q (v := .pointer (some (eAddr r0_0 (z276.toNat * 5 + 0)))) 27 [28, 29, 30, 31, 32, 33, 34, 35, 36, 37, 38, 39, 40, 41, 42, 43, 44, 45, 46, 47, 48, 49, 50, 51, 52, 53, 54, 55, 56, 57, 58] (by kernel_rfl) z z (yi_run ((wanted_eq z z z (cvb hc310)).trans z) (fun w hst => x_index z z underlying26 sizeOf67 (rd_sliceV f0_0) h288 h289)) (ws_q (v := .pointer (some (eAddr r0_0 (z276.toNat * 5 + 1)))) 28 [29, 30, 31, 32, 33, 34, 35, 36, 37, 38, 39, 40, 41, 42, 43, 44, 45, 46, 47, 48, 49, 50, 51, 52, 53, 54, 55, 56, 57, 58] (by kernel_rfl) z z (yi_run ((wanted_eq z z z (cvb hc310)).trans z) (fun w hst => x_field_e z underlying67 z sizeOf24 z)) (ws_q (v := .int .u64 x286.Epoch) 29 [30, 31, 32, 33, 34, 35, 36, 37, 38, 39, 40, 41, 42, 43, 44, 45, 46, 47, 48, 49, 50, 51, 52, 53, 54, 55, 56, 57, 58] (by kernel_rfl) z z (yi_run ((wanted_eq z z z (cvb hc310)).trans z) (fun w hst => x_load z isAgg24 ((hc305 (HL.le.refl _) hst) 1 _ z))) (ws_q (v := .bool (decide (x311.Epoch < x286.Epoch))) 30 [31, 32, 33, 34, 35, 36, 37, 38, 39, 40, 41, 42, 43, 44, 45, 46, 47, 48, 49, 50, 51, 52, 53, 54, 55, 56, 57, 58] (by kernel_rfl) z z (yi_run ((wanted_eq z z z (cvb hc310)).trans z) (fun w hst => z)) (ws_q (v := .bool (decide (x311.Epoch < x286.Epoch))) 31 [32, 33, 34, 35, 36, 37, 38, 39, 40, 41, 42, 43, 44, 45, 46, 47, 48, 49, 50, 51, 52, 53, 54, 55, 56, 57, 58] (by kernel_rfl) z z (yi_run ((wanted_eq z z z (cvb hc309)).trans z) (fun w hst => x_pick_f hc310 z z)) (ws_q (v := .bool (decide (x311.Epoch < x286.Epoch))) 32 [33, 34, 35, 36, 37, 38, 39, 40, 41, 42, 43, 44, 45, 46, 47, 48, 49, 50, 51, 52, 53, 54, 55, 56, 57, 58] (by kernel_rfl) z z (yi_run ((wanted_eq z z z (cvb hc309)).trans z) (fun w hst => z)) ?_))))))))
 refine bsplit (decide (x311.Epoch < x286.Epoch)) (fun hc322 => ?_) (fun hc322 => ?_)
 {
 replace hm := bif_t hc322 hm
 refine ws_q (v := undef) 33 [34, 35, 36, 37, 38, 39, 40, 41, 42, 43, 44, 45, 46, 47, 48, 49, 50, 51, 52, 53, 54, 55, 56, 57, 58] (by kernel_rfl) z z (yi_off ((wanted_eq z z z (cvb hc322)).trans z)) (ws_q (v := undef) 34 [35, 36, 37, 38, 39, 40, 41, 42, 43, 44, 45, 46, 47, 48, 49, 50, 51, 52, 53, 54, 55, 56, 57, 58] (by kernel_rfl) z z (yi_off ((wanted_eq z z z (cvb hc322)).trans z)) (ws_q (v := undef) 35 [36, 37, 38, 39, 40, 41, 42, 43, 44, 45, 46, 47, 48, 49, 50, 51, 52, 53, 54, 55, 56, 57, 58] (by kernel_rfl) z z (yi_off ((wanted_eq z z z (cvb hc322)).trans z)) (ws_q (v := undef) 36 [37, 38, 39, 40, 41, 42, 43, 44, 45, 46, 47, 48, 49, 50, 51, 52, 53, 54, 55, 56, 57, 58] (by kernel_rfl) z z (yi_off ((wanted_eq z z z (cvb hc322)).trans z)) (ws_q (v := undef) 37 [38, 39, 40, 41, 42, 43, 44, 45, 46, 47, 48, 49, 50, 51, 52, 53, 54, 55, 56, 57, 58] (by kernel_rfl) z z (yi_off ((wanted_eq z z z (cvb hc322)).trans z)) (ws_q (v := undef) 38 [39, 40, 41, 42, 43, 44, 45, 46, 47, 48, 49, 50, 51, 52, 53, 54, 55, 56, 57, 58] (by kernel_rfl) z z (yi_off ((wanted_eq z z z (cvb hc322)).trans z)) (ws_q (v := undef) 39 [40, 41, 42, 43, 44, 45, 46, 47, 48, 49, 50, 51, 52, 53, 54, 55, 56, 57, 58] (by kernel_rfl) z z (yi_off ((wanted_eq z z z (cvb hc322)).trans z)) (ws_q (v := undef) 40 [41, 42, 43, 44, 45, 46, 47, 48, 49, 50, 51, 52, 53, 54, 55, 56, 57, 58] (by kernel_rfl) z z (yi_off ((wanted_eq z z z (cvb hc322)).trans z)) (ws_q (v := undef) 41 [42, 43, 44, 45, 46, 47, 48, 49, 50, 51, 52, 53, 54, 55, 56, 57, 58] (by kernel_rfl) z z (yi_off ((wanted_eq z z z (cvb hc322)).trans z)) (ws_q (v := undef) 42 [43, 44, 45, 46, 47, 48, 49, 50, 51, 52, 53, 54, 55, 56, 57, 58] (by kernel_rfl) z z (yi_off ((wanted_eq z z z (cvb hc322)).trans z)) (ws_q (v := undef) 43 [44, 45, 46, 47, 48, 49, 50, 51, 52, 53, 54, 55, 56, 57, 58] (by kernel_rfl) z z (yi_off ((wanted_eq z z z (cvb hc322)).trans z)) (ws_q (v := undef) 44 [45, 46, 47, 48, 49, 50, 51, 52, 53, 54, 55, 56, 57, 58] (by kernel_rfl) z z (yi_off ((wanted_eq z z z (cvb hc322)).trans z)) (ws_q (v := undef) 45 [46, 47, 48, 49, 50, 51, 52, 53, 54, 55, 56, 57, 58] (by kernel_rfl) z z (yi_off (wanted_undef z z z z)) ?_))))))))))))
 refine ws_q (v := undef) 46 [47, 48, 49, 50, 51, 52, 53, 54, 55, 56, 57, 58] (by kernel_rfl) z z (yi_off (wanted_undef z z z z)) (ws_q (v := undef) 47 [48, 49, 50, 51, 52, 53, 54, 55, 56, 57, 58] (by kernel_rfl) z z (yi_off (wanted_undef z z z z)) (ws_q (v := undef) 48 [49, 50, 51, 52, 53, 54, 55, 56, 57, 58] (by kernel_rfl) z z (yi_off (wanted_undef z z z z)) (ws_q (v := undef) 49 [50, 51, 52, 53, 54, 55, 56, 57, 58] (by kernel_rfl) z z (yi_off (wanted_undef z z z z)) (ws_q (v := undef) 50 [51, 52, 53, 54, 55, 56, 57, 58] (by kernel_rfl) z z (yi_off (wanted_undef z z z z)) (ws_q (v := undef) 51 [52, 53, 54, 55, 56, 57, 58] (by kernel_rfl) z z (yi_off (wanted_undef z z z z)) (ws_q (v := undef) 52 [53, 54, 55, 56, 57, 58] (by kernel_rfl) z z (yi_off (wanted_undef z z z z)) (ws_q (v := undef) 53 [54, 55, 56, 57, 58] (by kernel_rfl) z z (yi_off (wanted_undef z z z z)) (ws_q (v := undef) 54 [55, 56, 57, 58] (by kernel_rfl) z z (yi_off (wanted_undef z z z z)) (ws_q (v := undef) 55 [56, 57, 58] (by kernel_rfl) z z (yi_off (wanted_undef z z z z)) (ws_q (v := undef) 56 [57, 58] (by kernel_rfl) z z (yi_off ((wanted_eq z z z (cvb hc322)).trans z)) (ws_q (v := .bool true) 57 [58] (by kernel_rfl) z z (yi_run ((wanted_eq z z z (cvb hc309)).trans z) (fun w hst => x_pick_t hc322 z z)) (wsr (.bool true) 58 z z z (by kernel_rfl) (fun w hst => x_pick_t hc309 z z) ?_))))))))))))
 refine ws_nil ?_
 intro w hst
 refine tn ?_
 refine wp_ift z ?_
 refine wrl (wv (.int .i64 z276) z z z (wv (.int .i64 z276) z z z (wl_nil (blk_n (tn (wrl (wv (.int .i64 z276) z z z (wv (.int .i64 (i64.wrap (z276 + (1:Int)))) z z z (wv (.int .i64 (i64.wrap (z276 + (1:Int)))) z z z (wl_nil (tn ?_)))))))))))
 replace hst := hst.keep0
 obtain rfl := some_inj hm
 exact ⟨_, Nat.lt_succ_self _, z276, (i64.wrap (z276 + (1:Int))), _, hx283, (fu 0 r0_0 z (fu 1 (.float .f64 a1) z (fu 2 (.int .u64 a2) z (fu 7 (.int .i64 z276) z (fu 8 (.int .i64 (i64.wrap (z276 + (1:Int)))) z z))))), hst⟩
}
 {
 replace hm := bif_f hc322 hm
 refine ws_q (v := r0_0) 33 [34, 35, 36, 37, 38, 39, 40, 41, 42, 43, 44, 45, 46, 47, 48, 49, 50, 51, 52, 53, 54, 55, 56, 57, 58] (by kernel_rfl) z z (yi_run ((wanted_eq z z z (cvb hc322)).trans z) (fun w hst => z)) (ws_q (v := .int .i64 z275) 34 [35, 36, 37, 38, 39, 40, 41, 42, 43, 44, 45, 46, 47, 48, 49, 50, 51, 52, 53, 54, 55, 56, 57, 58] (by kernel_rfl) z z (yi_run ((wanted_eq z z z (cvb hc322)).trans z) (fun w hst => z)) (ws_q (v := .pointer (some (eAddr r0_0 (z275.toNat * 5 + 0)))) 35 [36, 37, 38, 39, 40, 41, 42, 43, 44, 45, 46, 47, 48, 49, 50, 51, 52, 53, 54, 55, 56, 57, 58] (by kernel_rfl) z z (yi_run ((wanted_eq z z z (cvb hc322)).trans z) (fun w hst => x_index z z underlying26 sizeOf67 (rd_sliceV f0_0) h313 h314)) (ws_q (v := .pointer (some (eAddr r0_0 (z275.toNat * 5 + 1)))) 36 [37, 38, 39, 40, 41, 42, 43, 44, 45, 46, 47, 48, 49, 50, 51, 52, 53, 54, 55, 56, 57, 58] (by kernel_rfl) z z (yi_run ((wanted_eq z z z (cvb hc322)).trans z) (fun w hst => x_field_e z underlying67 z sizeOf24 z)) (ws_q (v := .int .u64 x311.Epoch) 37 [38, 39, 40, 41, 42, 43, 44, 45, 46, 47, 48, 49, 50, 51, 52, 53, 54, 55, 56, 57, 58] (by kernel_rfl) z z (yi_run ((wanted_eq z z z (cvb hc322)).trans z) (fun w hst => x_load z isAgg24 ((hc318 (HL.le.refl _) hst) 1 _ z))) (ws_q (v := r0_0) 38 [39, 40, 41, 42, 43, 44, 45, 46, 47, 48, 49, 50, 51, 52, 53, 54, 55, 56, 57, 58] (by kernel_rfl) z z (yi_run ((wanted_eq z z z (cvb hc322)).trans z) (fun w hst => z)) (ws_q (v := .int .i64 z276) 39 [40, 41, 42, 43, 44, 45, 46, 47, 48, 49, 50, 51, 52, 53, 54, 55, 56, 57, 58] (by kernel_rfl) z z (yi_run ((wanted_eq z z z (cvb hc322)).trans z) (fun w hst => z)) (ws_q (v := .pointer (some (eAddr r0_0 (z276.toNat * 5 + 0)))) 40 [41, 42, 43, 44, 45, 46, 47, 48, 49, 50, 51, 52, 53, 54, 55, 56, 57, 58] (by kernel_rfl) z z (yi_run ((wanted_eq z z z (cvb hc322)).trans z) (fun w hst => x_index z z underlying26 sizeOf67 (rd_sliceV f0_0) h288 h289)) (ws_q (v := .pointer (some (eAddr r0_0 (z276.toNat * 5 + 1)))) 41 [42, 43, 44, 45, 46, 47, 48, 49, 50, 51, 52, 53, 54, 55, 56, 57, 58] (by kernel_rfl) z z (yi_run ((wanted_eq z z z (cvb hc322)).trans z) (fun w hst => x_field_e z underlying67 z sizeOf24 z)) (ws_q (v := .int .u64 x286.Epoch) 42 [43, 44, 45, 46, 47, 48, 49, 50, 51, 52, 53, 54, 55, 56, 57, 58] (by kernel_rfl) z z (yi_run ((wanted_eq z z z (cvb hc322)).trans z) (fun w hst => x_load z isAgg24 ((hc305 (HL.le.refl _) hst) 1 _ z))) (ws_q (v := .bool (x311.Epoch == x286.Epoch)) 43 [44, 45, 46, 47, 48, 49, 50, 51, 52, 53, 54, 55, 56, 57, 58] (by kernel_rfl) z z (yi_run ((wanted_eq z z z (cvb hc322)).trans z) (fun w hst => z)) (ws_q (v := .bool (x311.Epoch == x286.Epoch)) 44 [45, 46, 47, 48, 49, 50, 51, 52, 53, 54, 55, 56, 57, 58] (by kernel_rfl) z z (yi_run ((wanted_eq z z z (cvb hc322)).trans z) (fun w hst => z)) ?_)))))))))))
 refine bsplit (x311.Epoch == x286.Epoch) (fun hc323 => ?_) (fun hc323 => ?_)
 {
 replace hm := bif_t hc323 hm
 refine ws_q (v := r0_0) 45 [46, 47, 48, 49, 50, 51, 52, 53, 54, 55, 56, 57, 58] (by kernel_rfl) z z (yi_run ((wanted_eq z z z (cvb hc323)).trans z) (fun w hst => z)) (ws_q (v := .int .i64 z275) 46 [47, 48, 49, 50, 51, 52, 53, 54, 55, 56, 57, 58] (by kernel_rfl) z z (yi_run ((wanted_eq z z z (cvb hc323)).trans z) (fun w hst => z)) (ws_q (v := .pointer (some (eAddr r0_0 (z275.toNat * 5 + 0)))) 47 [48, 49, 50, 51, 52, 53, 54, 55, 56, 57, 58] (by kernel_rfl) z z (yi_run ((wanted_eq z z z (cvb hc323)).trans z) (fun w hst => x_index z z underlying26 sizeOf67 (rd_sliceV f0_0) h313 h314)) (ws_q (v := .pointer (some (eAddr r0_0 (z275.toNat * 5 + 2)))) 48 [49, 50, 51, 52, 53, 54, 55, 56, 57, 58] (by kernel_rfl) z z (yi_run ((wanted_eq z z z (cvb hc323)).trans z) (fun w hst => x_field_e z underlying67 z sizeOf24 z)) (ws_q (v := .int .u64 x311.Index) 49 [50, 51, 52, 53, 54, 55, 56, 57, 58] (by kernel_rfl) z z (yi_run ((wanted_eq z z z (cvb hc323)).trans z) (fun w hst => x_load z isAgg24 ((hc318 (HL.le.refl _) hst) 2 _ z))) (ws_q (v := r0_0) 50 [51, 52, 53, 54, 55, 56, 57, 58] (by kernel_rfl) z z (yi_run ((wanted_eq z z z (cvb hc323)).trans z) (fun w hst => z)) (ws_q (v := .int .i64 z276) 51 [52, 53, 54, 55, 56, 57, 58] (by kernel_rfl) z z (yi_run ((wanted_eq z z z (cvb hc323)).trans z) (fun w hst => z)) (ws_q (v := .pointer (some (eAddr r0_0 (z276.toNat * 5 + 0)))) 52 [53, 54, 55, 56, 57, 58] (by kernel_rfl) z z (yi_run ((wanted_eq z z z (cvb hc323)).trans z) (fun w hst => x_index z z underlying26 sizeOf67 (rd_sliceV f0_0) h288 h289)) (ws_q (v := .pointer (some (eAddr r0_0 (z276.toNat * 5 + 2)))) 53 [54, 55, 56, 57, 58] (by kernel_rfl) z z (yi_run ((wanted_eq z z z (cvb hc323)).trans z) (fun w hst => x_field_e z underlying67 z sizeOf24 z)) (ws_q (v := .int .u64 x286.Index) 54 [55, 56, 57, 58] (by kernel_rfl) z z (yi_run ((wanted_eq z z z (cvb hc323)).trans z) (fun w hst => x_load z isAgg24 ((hc305 (HL.le.refl _) hst) 2 _ z))) (ws_q (v := .bool (decide (x311.Index < x286.Index))) 55 [56, 57, 58] (by kernel_rfl) z z (yi_run ((wanted_eq z z z (cvb hc323)).trans z) (fun w hst => z)) (ws_q (v := .bool (decide (x311.Index < x286.Index))) 56 [57, 58] (by kernel_rfl) z z (yi_run ((wanted_eq z z z (cvb hc322)).trans z) (fun w hst => x_pick_t hc323 z z)) (ws_q (v := .bool (decide (x311.Index < x286.Index))) 57 [58] (by kernel_rfl) z z (yi_run ((wanted_eq z z z (cvb hc309)).trans z) (fun w hst => x_pick_f hc322 z z)) ?_))))))))))))
 refine wsr (.bool (decide (x311.Index < x286.Index))) 58 z z z (by kernel_rfl) (fun w hst => x_pick_t hc309 z z) ?_
 refine ws_nil ?_
 intro w hst
 refine tn ?_
 refine bsplit (decide (x311.Index < x286.Index)) (fun hc324 => ?_) (fun hc324 => ?_)
 {
 replace hm := bif_t hc324 hm
 refine wp_ift (cvb hc324) ?_
 refine wrl (wv (.int .i64 z276) z z z (wv (.int .i64 z276) z z z (wl_nil (blk_n (tn (wrl (wv (.int .i64 z276) z z z (wv (.int .i64 (i64.wrap (z276 + (1:Int)))) z z z (wv (.int .i64 (i64.wrap (z276 + (1:Int)))) z z z (wl_nil (tn ?_)))))))))))
 replace hst := hst.keep0
 obtain rfl := some_inj hm
 exact ⟨_, Nat.lt_succ_self _, z276, (i64.wrap (z276 + (1:Int))), _, hx283, (fu 0 r0_0 z (fu 1 (.float .f64 a1) z (fu 2 (.int .u64 a2) z (fu 7 (.int .i64 z276) z (fu 8 (.int .i64 (i64.wrap (z276 + (1:Int)))) z z))))), hst⟩
}
 {
 replace hm := bif_f hc324 hm
 refine wp_iff (cvb hc324) ?_
 refine wp_skip (blk_n (tn (wrl ?_)))
 refine wv (.int .i64 z276) z z z (wv (.int .i64 (i64.wrap (z276 + (1:Int)))) z z z (wv (.int .i64 (i64.wrap (z276 + (1:Int)))) z z z (wl_nil (tn ?_))))
 replace hst := hst.keep0
 obtain rfl := some_inj hm
 exact ⟨_, Nat.lt_succ_self _, z275, (i64.wrap (z276 + (1:Int))), _, hx283, (fu 0 r0_0 z (fu 1 (.float .f64 a1) z (fu 2 (.int .u64 a2) z (fu 7 (.int .i64 z275) z (fu 8 (.int .i64 (i64.wrap (z276 + (1:Int)))) z z))))), hst⟩
}
}
 {
 replace hm := bif_f hc323 hm
 refine ws_q (v := undef) 45 [46, 47, 48, 49, 50, 51, 52, 53, 54, 55, 56, 57, 58] (by kernel_rfl) z z (yi_off ((wanted_eq z z z (cvb hc323)).trans z)) (ws_q (v := undef) 46 [47, 48, 49, 50, 51, 52, 53, 54, 55, 56, 57, 58] (by kernel_rfl) z z (yi_off ((wanted_eq z z z (cvb hc323)).trans z)) (ws_q (v := undef) 47 [48, 49, 50, 51, 52, 53, 54, 55, 56, 57, 58] (by kernel_rfl) z z (yi_off ((wanted_eq z z z (cvb hc323)).trans z)) (ws_q (v := undef) 48 [49, 50, 51, 52, 53, 54, 55, 56, 57, 58] (by kernel_rfl) z z (yi_off ((wanted_eq z z z (cvb hc323)).trans z)) (ws_q (v := undef) 49 [50, 51, 52, 53, 54, 55, 56, 57, 58] (by kernel_rfl) z z (yi_off ((wanted_eq z z z (cvb hc323)).trans z)) (ws_q (v := undef) 50 [51, 52, 53, 54, 55, 56, 57, 58] (by kernel_rfl) z z (yi_off ((wanted_eq z z z (cvb hc323)).trans z)) (ws_q (v := undef) 51 [52, 53, 54, 55, 56, 57, 58] (by kernel_rfl) z z (yi_off ((wanted_eq z z z (cvb hc323)).trans z)) (ws_q (v := undef) 52 [53, 54, 55, 56, 57, 58] (by kernel_rfl) z z (yi_off ((wanted_eq z z z (cvb hc323)).trans z)) (ws_q (v := undef) 53 [54, 55, 56, 57, 58] (by kernel_rfl) z z (yi_off ((wanted_eq z z z (cvb hc323)).trans z)) (ws_q (v := undef) 54 [55, 56, 57, 58] (by kernel_rfl) z z (yi_off ((wanted_eq z z z (cvb hc323)).trans z)) (ws_q (v := undef) 55 [56, 57, 58] (by kernel_rfl) z z (yi_off ((wanted_eq z z z (cvb hc323)).trans z)) (ws_q (v := .bool false) 56 [57, 58] (by kernel_rfl) z z (yi_run ((wanted_eq z z z (cvb hc322)).trans z) (fun w hst => x_pick_f hc323 z z)) (ws_q (v := .bool false) 57 [58] (by kernel_rfl) z z (yi_run ((wanted_eq z z z (cvb hc309)).trans z) (fun w hst => x_pick_f hc322 z z)) ?_))))))))))))
 refine wsr (.bool false) 58 z z z (by kernel_rfl) (fun w hst => x_pick_t hc309 z z) ?_
 refine ws_nil ?_
 intro w hst
 refine tn ?_
 refine wp_iff z ?_
 refine wp_skip (blk_n (tn (wrl ?_)))
 refine wv (.int .i64 z276) z z z (wv (.int .i64 (i64.wrap (z276 + (1:Int)))) z z z (wv (.int .i64 (i64.wrap (z276 + (1:Int)))) z z z (wl_nil (tn ?_))))
 replace hst := hst.keep0
 obtain rfl := some_inj hm
 exact ⟨_, Nat.lt_succ_self _, z275, (i64.wrap (z276 + (1:Int))), _, hx283, (fu 0 r0_0 z (fu 1 (.float .f64 a1) z (fu 2 (.int .u64 a2) z (fu 7 (.int .i64 z275) z (fu 8 (.int .i64 (i64.wrap (z276 + (1:Int)))) z z))))), hst⟩
}
}
}
}
 {
 replace hm := bif_f hc309 hm
 refine ws_q (v := undef) 17 [18, 19, 20, 21, 22, 23, 24, 25, 26, 27, 28, 29, 30, 31, 32, 33, 34, 35, 36, 37, 38, 39, 40, 41, 42, 43, 44, 45, 46, 47, 48, 49, 50, 51, 52, 53, 54, 55, 56, 57, 58] (by kernel_rfl) z z (yi_off ((wanted_eq z z z (cvb hc309)).trans z)) (ws_q (v := undef) 18 [19, 20, 21, 22, 23, 24, 25, 26, 27, 28, 29, 30, 31, 32, 33, 34, 35, 36, 37, 38, 39, 40, 41, 42, 43, 44, 45, 46, 47, 48, 49, 50, 51, 52, 53, 54, 55, 56, 57, 58] (by kernel_rfl) z z (yi_off ((wanted_eq z z z (cvb hc309)).trans z)) (ws_q (v := undef) 19 [20, 21, 22, 23, 24, 25, 26, 27, 28, 29, 30, 31, 32, 33, 34, 35, 36, 37, 38, 39, 40, 41, 42, 43, 44, 45, 46, 47, 48, 49, 50, 51, 52, 53, 54, 55, 56, 57, 58] (by kernel_rfl) z z (yi_off ((wanted_eq z z z (cvb hc309)).trans z)) (ws_q (v := undef) 20 [21, 22, 23, 24, 25, 26, 27, 28, 29, 30, 31, 32, 33, 34, 35, 36, 37, 38, 39, 40, 41, 42, 43, 44, 45, 46, 47, 48, 49, 50, 51, 52, 53, 54, 55, 56, 57, 58] (by kernel_rfl) z z (yi_off (wanted_undef z z z z)) (ws_q (v := undef) 21 [22, 23, 24, 25, 26, 27, 28, 29, 30, 31, 32, 33, 34, 35, 36, 37, 38, 39, 40, 41, 42, 43, 44, 45, 46, 47, 48, 49, 50, 51, 52, 53, 54, 55, 56, 57, 58] (by kernel_rfl) z z (yi_off (wanted_undef z z z z)) (ws_q (v := undef) 22 [23, 24, 25, 26, 27, 28, 29, 30, 31, 32, 33, 34, 35, 36, 37, 38, 39, 40, 41, 42, 43, 44, 45, 46, 47, 48, 49, 50, 51, 52, 53, 54, 55, 56, 57, 58] (by kernel_rfl) z z (yi_off (wanted_undef z z z z)) (ws_q (v := undef) 23 [24, 25, 26, 27, 28, 29, 30, 31, 32, 33, 34, 35, 36, 37, 38, 39, 40, 41, 42, 43, 44, 45, 46, 47, 48, 49, 50, 51, 52, 53, 54, 55, 56, 57, 58] (by kernel_rfl) z z (yi_off (wanted_undef z z z z)) (ws_q (v := undef) 24 [25, 26, 27, 28, 29, 30, 31, 32, 33, 34, 35, 36, 37, 38, 39, 40, 41, 42, 43, 44, 45, 46, 47, 48, 49, 50, 51, 52, 53, 54, 55, 56, 57, 58] (by kernel_rfl) z z (yi_off (wanted_undef z z z z)) (ws_q (v := undef) 25 [26, 27, 28, 29, 30, 31, 32, 33, 34, 35, 36, 37, 38, 39, 40, 41, 42, 43, 44, 45, 46, 47, 48, 49, 50, 51, 52, 53, 54, 55, 56, 57, 58] (by kernel_rfl) z z (yi_off (wanted_undef z z z z)) (ws_q (v := undef) 26 [27, 28, 29, 30, 31, 32, 33, 34, 35, 36, 37, 38, 39, 40, 41, 42, 43, 44, 45, 46, 47, 48, 49, 50, 51, 52, 53, 54, 55, 56, 57, 58] (by kernel_rfl) z z (yi_off (wanted_undef z z z z)) (ws_q (v := undef) 27 [28, 29, 30, 31, 32, 33, 34, 35, 36, 37, 38, 39, 40, 41, 42, 43, 44, 45, 46, 47, 48, 49, 50, 51, 52, 53, 54, 55, 56, 57, 58] (by kernel_rfl) z z (yi_off (wanted_undef z z z z)) (ws_q (v := undef) 28 [29, 30, 31, 32, 33, 34, 35, 36, 37, 38, 39, 40, 41, 42, 43, 44, 45, 46, 47, 48, 49, 50, 51, 52, 53, 54, 55, 56, 57, 58] (by kernel_rfl) z z (yi_off (wanted_undef z z z z)) (ws_q (v := undef) 29 [30, 31, 32, 33, 34, 35, 36, 37, 38, 39, 40, 41, 42, 43, 44, 45, 46, 47, 48, 49, 50, 51, 52, 53, 54, 55, 56, 57, 58] (by kernel_rfl) z z (yi_off (wanted_undef z z z z)) ?_))))))))))))
 refine ws_q (v := undef) 30 [31, 32, 33, 34, 35, 36, 37, 38, 39, 40, 41, 42, 43, 44, 45, 46, 47, 48, 49, 50, 51, 52, 53, 54, 55, 56, 57, 58] (by kernel_rfl) z z (yi_off (wanted_undef z z z z)) (ws_q (v := undef) 31 [32, 33, 34, 35, 36, 37, 38, 39, 40, 41, 42, 43, 44, 45, 46, 47, 48, 49, 50, 51, 52, 53, 54, 55, 56, 57, 58] (by kernel_rfl) z z (yi_off ((wanted_eq z z z (cvb hc309)).trans z)) (ws_q (v := undef) 32 [33, 34, 35, 36, 37, 38, 39, 40, 41, 42, 43, 44, 45, 46, 47, 48, 49, 50, 51, 52, 53, 54, 55, 56, 57, 58] (by kernel_rfl) z z (yi_off ((wanted_eq z z z (cvb hc309)).trans z)) (ws_q (v := undef) 33 [34, 35, 36, 37, 38, 39, 40, 41, 42, 43, 44, 45, 46, 47, 48, 49, 50, 51, 52, 53, 54, 55, 56, 57, 58] (by kernel_rfl) z z (yi_off (wanted_undef z z z z)) (ws_q (v := undef) 34 [35, 36, 37, 38, 39, 40, 41, 42, 43, 44, 45, 46, 47, 48, 49, 50, 51, 52, 53, 54, 55, 56, 57, 58] (by kernel_rfl) z z (yi_off (wanted_undef z z z z)) (ws_q (v := undef) 35 [36, 37, 38, 39, 40, 41, 42, 43, 44, 45, 46, 47, 48, 49, 50, 51, 52, 53, 54, 55, 56, 57, 58] (by kernel_rfl) z z (yi_off (wanted_undef z z z z)) (ws_q (v := undef) 36 [37, 38, 39, 40, 41, 42, 43, 44, 45, 46, 47, 48, 49, 50, 51, 52, 53, 54, 55, 56, 57, 58] (by kernel_rfl) z z (yi_off (wanted_undef z z z z)) (ws_q (v := undef) 37 [38, 39, 40, 41, 42, 43, 44, 45, 46, 47, 48, 49, 50, 51, 52, 53, 54, 55, 56, 57, 58] (by kernel_rfl) z z (yi_off (wanted_undef z z z z)) (ws_q (v := undef) 38 [39, 40, 41, 42, 43, 44, 45, 46, 47, 48, 49, 50, 51, 52, 53, 54, 55, 56, 57, 58] (by kernel_rfl) z z (yi_off (wanted_undef z z z z)) (ws_q (v := undef) 39 [40, 41, 42, 43, 44, 45, 46, 47, 48, 49, 50, 51, 52, 53, 54, 55, 56, 57, 58] (by kernel_rfl) z z (yi_off (wanted_undef z z z z)) (ws_q (v := undef) 40 [41, 42, 43, 44, 45, 46, 47, 48, 49, 50, 51, 52, 53, 54, 55, 56, 57, 58] (by kernel_rfl) z z (yi_off (wanted_undef z z z z)) (ws_q (v := undef) 41 [42, 43, 44, 45, 46, 47, 48, 49, 50, 51, 52, 53, 54, 55, 56, 57, 58] (by kernel_rfl) z z (yi_off (wanted_undef z z z z)) (ws_q (v := undef) 42 [43, 44, 45, 46, 47, 48, 49, 50, 51, 52, 53, 54, 55, 56, 57, 58] (by kernel_rfl) z z (yi_off (wanted_undef z z z z)) ?_))))))))))))
 refine ws_q (v := undef) 43 [44, 45, 46, 47, 48, 49, 50, 51, 52, 53, 54, 55, 56, 57, 58] (by kernel_rfl) z z (yi_off (wanted_undef z z z z)) (ws_q (v := undef) 44 [45, 46, 47, 48, 49, 50, 51, 52, 53, 54, 55, 56, 57, 58] (by kernel_rfl) z z (yi_off (wanted_undef z z z z)) (ws_q (v := undef) 45 [46, 47, 48, 49, 50, 51, 52, 53, 54, 55, 56, 57, 58] (by kernel_rfl) z z (yi_off (wanted_undef z z z z)) (ws_q (v := undef) 46 [47, 48, 49, 50, 51, 52, 53, 54, 55, 56, 57, 58] (by kernel_rfl) z z (yi_off (wanted_undef z z z z)) (ws_q (v := undef) 47 [48, 49, 50, 51, 52, 53, 54, 55, 56, 57, 58] (by kernel_rfl) z z (yi_off (wanted_undef z z z z)) (ws_q (v := undef) 48 [49, 50, 51, 52, 53, 54, 55, 56, 57, 58] (by kernel_rfl) z z (yi_off (wanted_undef z z z z)) (ws_q (v := undef) 49 [50, 51, 52, 53, 54, 55, 56, 57, 58] (by kernel_rfl) z z (yi_off (wanted_undef z z z z)) (ws_q (v := undef) 50 [51, 52, 53, 54, 55, 56, 57, 58] (by kernel_rfl) z z (yi_off (wanted_undef z z z z)) (ws_q (v := undef) 51 [52, 53, 54, 55, 56, 57, 58] (by kernel_rfl) z z (yi_off (wanted_undef z z z z)) (ws_q (v := undef) 52 [53, 54, 55, 56, 57, 58] (by kernel_rfl) z z (yi_off (wanted_undef z z z z)) (ws_q (v := undef) 53 [54, 55, 56, 57, 58] (by kernel_rfl) z z (yi_off (wanted_undef z z z z)) (ws_q (v := undef) 54 [55, 56, 57, 58] (by kernel_rfl) z z (yi_off (wanted_undef z z z z)) (ws_q (v := undef) 55 [56, 57, 58] (by kernel_rfl) z z (yi_off (wanted_undef z z z z)) ?_))))))))))))
 refine ws_q (v := undef) 56 [57, 58] (by kernel_rfl) z z (yi_off (wanted_undef z z z z)) (ws_q (v := undef) 57 [58] (by kernel_rfl) z z (yi_off ((wanted_eq z z z (cvb hc309)).trans z)) (wsr (.bool false) 58 z z z (by kernel_rfl) (fun w hst => x_pick_f hc309 z z) ?_))
 refine ws_nil ?_
 intro w hst
 refine tn ?_
 refine wp_iff z ?_
 refine wp_skip (blk_n (tn (wrl ?_)))
 refine wv (.int .i64 z276) z z z (wv (.int .i64 (i64.wrap (z276 + (1:Int)))) z z z (wv (.int .i64 (i64.wrap (z276 + (1:Int)))) z z z (wl_nil (tn ?_))))
 replace hst := hst.keep0
 obtain rfl := some_inj hm
 exact ⟨_, Nat.lt_succ_self _, z275, (i64.wrap (z276 + (1:Int))), _, hx283, (fu 0 r0_0 z (fu 1 (.float .f64 a1) z (fu 2 (.int .u64 a2) z (fu 7 (.int .i64 z275) z (fu 8 (.int .i64 (i64.wrap (z276 + (1:Int)))) z z))))), hst⟩
}
}
 {
 replace hm := bif_f hc302 hm
 refine ws_q (v := undef) 8 [9, 10, 11, 12, 13, 14, 15, 16, 17, 18, 19, 20, 21, 22, 23, 24, 25, 26, 27, 28, 29, 30, 31, 32, 33, 34, 35, 36, 37, 38, 39, 40, 41, 42, 43, 44, 45, 46, 47, 48, 49, 50, 51, 52, 53, 54, 55, 56, 57, 58] (by kernel_rfl) z z (yi_off ((wanted_eq z z z (cvb hc302)).trans z)) (ws_q (v := undef) 9 [10, 11, 12, 13, 14, 15, 16, 17, 18, 19, 20, 21, 22, 23, 24, 25, 26, 27, 28, 29, 30, 31, 32, 33, 34, 35, 36, 37, 38, 39, 40, 41, 42, 43, 44, 45, 46, 47, 48, 49, 50, 51, 52, 53, 54, 55, 56, 57, 58] (by kernel_rfl) z z (yi_off ((wanted_eq z z z (cvb hc302)).trans z)) (ws_q (v := undef) 10 [11, 12, 13, 14, 15, 16, 17, 18, 19, 20, 21, 22, 23, 24, 25, 26, 27, 28, 29, 30, 31, 32, 33, 34, 35, 36, 37, 38, 39, 40, 41, 42, 43, 44, 45, 46, 47, 48, 49, 50, 51, 52, 53, 54, 55, 56, 57, 58] (by kernel_rfl) z z (yi_off ((wanted_eq z z z (cvb hc302)).trans z)) (ws_q (v := undef) 11 [12, 13, 14, 15, 16, 17, 18, 19, 20, 21, 22, 23, 24, 25, 26, 27, 28, 29, 30, 31, 32, 33, 34, 35, 36, 37, 38, 39, 40, 41, 42, 43, 44, 45, 46, 47, 48, 49, 50, 51, 52, 53, 54, 55, 56, 57, 58] (by kernel_rfl) z z (yi_off ((wanted_eq z z z (cvb hc302)).trans z)) (ws_q (v := undef) 12 [13, 14, 15, 16, 17, 18, 19, 20, 21, 22, 23, 24, 25, 26, 27, 28, 29, 30, 31, 32, 33, 34, 35, 36, 37, 38, 39, 40, 41, 42, 43, 44, 45, 46, 47, 48, 49, 50, 51, 52, 53, 54, 55, 56, 57, 58] (by kernel_rfl) z z (yi_off ((wanted_eq z z z (cvb hc302)).trans z)) (ws_q (v := undef) 13 [14, 15, 16, 17, 18, 19, 20, 21, 22, 23, 24, 25, 26, 27, 28, 29, 30, 31, 32, 33, 34, 35, 36, 37, 38, 39, 40, 41, 42, 43, 44, 45, 46, 47, 48, 49, 50, 51, 52, 53, 54, 55, 56, 57, 58] (by kernel_rfl) z z (yi_off ((wanted_eq z z z (cvb hc302)).trans z)) (ws_q (v := undef) 14 [15, 16, 17, 18, 19, 20, 21, 22, 23, 24, 25, 26, 27, 28, 29, 30, 31, 32, 33, 34, 35, 36, 37, 38, 39, 40, 41, 42, 43, 44, 45, 46, 47, 48, 49, 50, 51, 52, 53, 54, 55, 56, 57, 58] (by kernel_rfl) z z (yi_off ((wanted_eq z z z (cvb hc302)).trans z)) (wsr (.bool false) 15 z z z (by kernel_rfl) (fun w hst => x_pick_f hc302 z z) (wsr (.bool false) 16 z z z (by kernel_rfl) (fun w hst => z) (ws_q (v := undef) 17 [18, 19, 20, 21, 22, 23, 24, 25, 26, 27, 28, 29, 30, 31, 32, 33, 34, 35, 36, 37, 38, 39, 40, 41, 42, 43, 44, 45, 46, 47, 48, 49, 50, 51, 52, 53, 54, 55, 56, 57, 58] (by kernel_rfl) z z (yi_off ((wanted_eq z z z z).trans z)) (ws_q (v := undef) 18 [19, 20, 21, 22, 23, 24, 25, 26, 27, 28, 29, 30, 31, 32, 33, 34, 35, 36, 37, 38, 39, 40, 41, 42, 43, 44, 45, 46, 47, 48, 49, 50, 51, 52, 53, 54, 55, 56, 57, 58] (by kernel_rfl) z z (yi_off ((wanted_eq z z z z).trans z)) (ws_q (v := undef) 19 [20, 21, 22, 23, 24, 25, 26, 27, 28, 29, 30, 31, 32, 33, 34, 35, 36, 37, 38, 39, 40, 41, 42, 43, 44, 45, 46, 47, 48, 49, 50, 51, 52, 53, 54, 55, 56, 57, 58] (by kernel_rfl) z z (yi_off ((wanted_eq z z z z).trans z)) (ws_q (v := undef) 20 [21, 22, 23, 24, 25, 26, 27, 28, 29, 30, 31, 32, 33, 34, 35, 36, 37, 38, 39, 40, 41, 42, 43, 44, 45, 46, 47, 48, 49, 50, 51, 52, 53, 54, 55, 56, 57, 58] (by kernel_rfl) z z (yi_off (wanted_undef z z z z)) ?_))))))))))))
 refine ws_q (v := undef) 21 [22, 23, 24, 25, 26, 27, 28, 29, 30, 31, 32, 33, 34, 35, 36, 37, 38, 39, 40, 41, 42, 43, 44, 45, 46, 47, 48, 49, 50, 51, 52, 53, 54, 55, 56, 57, 58] (by kernel_rfl) z z (yi_off (wanted_undef z z z z)) (ws_q (v := undef) 22 [23, 24, 25, 26, 27, 28, 29, 30, 31, 32, 33, 34, 35, 36, 37, 38, 39, 40, 41, 42, 43, 44, 45, 46, 47, 48, 49, 50, 51, 52, 53, 54, 55, 56, 57, 58] (by kernel_rfl) z z (yi_off (wanted_undef z z z z)) (ws_q (v := undef) 23 [24, 25, 26, 27, 28, 29, 30, 31, 32, 33, 34, 35, 36, 37, 38, 39, 40, 41, 42, 43, 44, 45, 46, 47, 48, 49, 50, 51, 52, 53, 54, 55, 56, 57, 58] (by kernel_rfl) z z (yi_off (wanted_undef z z z z)) (ws_q (v := undef) 24 [25, 26, 27, 28, 29, 30, 31, 32, 33, 34, 35, 36, 37, 38, 39, 40, 41, 42, 43, 44, 45, 46, 47, 48, 49, 50, 51, 52, 53, 54, 55, 56, 57, 58] (by kernel_rfl) z z (yi_off (wanted_undef z z z z)) (ws_q (v := undef) 25 [26, 27, 28, 29, 30, 31, 32, 33, 34, 35, 36, 37, 38, 39, 40, 41, 42, 43, 44, 45, 46, 47, 48, 49, 50, 51, 52, 53, 54, 55, 56, 57, 58] (by kernel_rfl) z z (yi_off (wanted_undef z z z z)) (ws_q (v := undef) 26 [27, 28, 29, 30, 31, 32, 33, 34, 35, 36, 37, 38, 39, 40, 41, 42, 43, 44, 45, 46, 47, 48, 49, 50, 51, 52, 53, 54, 55, 56, 57, 58] (by kernel_rfl) z z (yi_off (wanted_undef z z z z)) (ws_q (v := undef) 27 [28, 29, 30, 31, 32, 33, 34, 35, 36, 37, 38, 39, 40, 41, 42, 43, 44, 45, 46, 47, 48, 49, 50, 51, 52, 53, 54, 55, 56, 57, 58] (by kernel_rfl) z z (yi_off (wanted_undef z z z z)) (ws_q (v := undef) 28 [29, 30, 31, 32, 33, 34, 35, 36, 37, 38, 39, 40, 41, 42, 43, 44, 45, 46, 47, 48, 49, 50, 51, 52, 53, 54, 55, 56, 57, 58] (by kernel_rfl) z z (yi_off (wanted_undef z z z z)) (ws_q (v := undef) 29 [30, 31, 32, 33, 34, 35, 36, 37, 38, 39, 40, 41, 42, 43, 44, 45, 46, 47, 48, 49, 50, 51, 52, 53, 54, 55, 56, 57, 58] (by kernel_rfl) z z (yi_off (wanted_undef z z z z)) (ws_q (v := undef) 30 [31, 32, 33, 34, 35, 36, 37, 38, 39, 40, 41, 42, 43, 44, 45, 46, 47, 48, 49, 50, 51, 52, 53, 54, 55, 56, 57, 58] (by kernel_rfl) z z (yi_off (wanted_undef z z z z)) (ws_q (v := undef) 31 [32, 33, 34, 35, 36, 37, 38, 39, 40, 41, 42, 43, 44, 45, 46, 47, 48, 49, 50, 51, 52, 53, 54, 55, 56, 57, 58] (by kernel_rfl) z z (yi_off ((wanted_eq z z z z).trans z)) (ws_q (v := undef) 32 [33, 34, 35, 36, 37, 38, 39, 40, 41, 42, 43, 44, 45, 46, 47, 48, 49, 50, 51, 52, 53, 54, 55, 56, 57, 58] (by kernel_rfl) z z (yi_off ((wanted_eq z z z z).trans z)) (ws_q (v := undef) 33 [34, 35, 36, 37, 38, 39, 40, 41, 42, 43, 44, 45, 46, 47, 48, 49, 50, 51, 52, 53, 54, 55, 56, 57, 58] (by kernel_rfl) z z (yi_off (wanted_undef z z z z)) ?_))))))))))))
 refine ws_q (v := undef) 34 [35, 36, 37, 38, 39, 40, 41, 42, 43, 44, 45, 46, 47, 48, 49, 50, 51, 52, 53, 54, 55, 56, 57, 58] (by kernel_rfl) z z (yi_off (wanted_undef z z z z)) (ws_q (v := undef) 35 [36, 37, 38, 39, 40, 41, 42, 43, 44, 45, 46, 47, 48, 49, 50, 51, 52, 53, 54, 55, 56, 57, 58] (by kernel_rfl) z z (yi_off (wanted_undef z z z z)) (ws_q (v := undef) 36 [37, 38, 39, 40, 41, 42, 43, 44, 45, 46, 47, 48, 49, 50, 51, 52, 53, 54, 55, 56, 57, 58] (by kernel_rfl) z z (yi_off (wanted_undef z z z z)) (ws_q (v := undef) 37 [38, 39, 40, 41, 42, 43, 44, 45, 46, 47, 48, 49, 50, 51, 52, 53, 54, 55, 56, 57, 58] (by kernel_rfl) z z (yi_off (wanted_undef z z z z)) (ws_q (v := undef) 38 [39, 40, 41, 42, 43, 44, 45, 46, 47, 48, 49, 50, 51, 52, 53, 54, 55, 56, 57, 58] (by kernel_rfl) z z (yi_off (wanted_undef z z z z)) (ws_q (v := undef) 39 [40, 41, 42, 43, 44, 45, 46, 47, 48, 49, 50, 51, 52, 53, 54, 55, 56, 57, 58] (by kernel_rfl) z z (yi_off (wanted_undef z z z z)) (ws_q (v := undef) 40 [41, 42, 43, 44, 45, 46, 47, 48, 49, 50, 51, 52, 53, 54, 55, 56, 57, 58] (by kernel_rfl) z z (yi_off (wanted_undef z z z z)) (ws_q (v := undef) 41 [42, 43, 44, 45, 46, 47, 48, 49, 50, 51, 52, 53, 54, 55, 56, 57, 58] (by kernel_rfl) z z (yi_off (wanted_undef z z z z)) (ws_q (v := undef) 42 [43, 44, 45, 46, 47, 48, 49, 50, 51, 52, 53, 54, 55, 56, 57, 58] (by kernel_rfl) z z (yi_off (wanted_undef z z z z)) (ws_q (v := undef) 43 [44, 45, 46, 47, 48, 49, 50, 51, 52, 53, 54, 55, 56, 57, 58] (by kernel_rfl) z z (yi_off (wanted_undef z z z z)) (ws_q (v := undef) 44 [45, 46, 47, 48, 49, 50, 51, 52, 53, 54, 55, 56, 57, 58] (by kernel_rfl) z z (yi_off (wanted_undef z z z z)) (ws_q (v := undef) 45 [46, 47, 48, 49, 50, 51, 52, 53, 54, 55, 56, 57, 58] (by kernel_rfl) z z (yi_off (wanted_undef z z z z)) (ws_q (v := undef) 46 [47, 48, 49, 50, 51, 52, 53, 54, 55, 56, 57, 58] (by kernel_rfl) z z (yi_off (wanted_undef z z z z)) ?_))))))))))))
 refine ws_q (v := undef) 47 [48, 49, 50, 51, 52, 53, 54, 55, 56, 57, 58] (by kernel_rfl) z z (yi_off (wanted_undef z z z z)) (ws_q (v := undef) 48 [49, 50, 51, 52, 53, 54, 55, 56, 57, 58] (by kernel_rfl) z z (yi_off (wanted_undef z z z z)) (ws_q (v := undef) 49 [50, 51, 52, 53, 54, 55, 56, 57, 58] (by kernel_rfl) z z (yi_off (wanted_undef z z z z)) (ws_q (v := undef) 50 [51, 52, 53, 54, 55, 56, 57, 58] (by kernel_rfl) z z (yi_off (wanted_undef z z z z)) (ws_q (v := undef) 51 [52, 53, 54, 55, 56, 57, 58] (by kernel_rfl) z z (yi_off (wanted_undef z z z z)) (ws_q (v := undef) 52 [53, 54, 55, 56, 57, 58] (by kernel_rfl) z z (yi_off (wanted_undef z z z z)) (ws_q (v := undef) 53 [54, 55, 56, 57, 58] (by kernel_rfl) z z (yi_off (wanted_undef z z z z)) (ws_q (v := undef) 54 [55, 56, 57, 58] (by kernel_rfl) z z (yi_off (wanted_undef z z z z)) (ws_q (v := undef) 55 [56, 57, 58] (by kernel_rfl) z z (yi_off (wanted_undef z z z z)) (ws_q (v := undef) 56 [57, 58] (by kernel_rfl) z z (yi_off (wanted_undef z z z z)) (ws_q (v := undef) 57 [58] (by kernel_rfl) z z (yi_off ((wanted_eq z z z z).trans z)) (wsr (.bool false) 58 z z z (by kernel_rfl) (fun w hst => x_pick_f z z z) ?_)))))))))))
 refine ws_nil ?_
 intro w hst
 refine tn ?_
 refine wp_iff z ?_
 refine wp_skip (blk_n (tn (wrl ?_)))
 refine wv (.int .i64 z276) z z z (wv (.int .i64 (i64.wrap (z276 + (1:Int)))) z z z (wv (.int .i64 (i64.wrap (z276 + (1:Int)))) z z z (wl_nil (tn ?_))))
 replace hst := hst.keep0
 obtain rfl := some_inj hm
 exact ⟨_, Nat.lt_succ_self _, z275, (i64.wrap (z276 + (1:Int))), _, hx283, (fu 0 r0_0 z (fu 1 (.float .f64 a1) z (fu 2 (.int .u64 a2) z (fu 7 (.int .i64 z275) z (fu 8 (.int .i64 (i64.wrap (z276 + (1:Int)))) z z))))), hst⟩
}
}
 {
 replace hm := bif_f hc285 hm
 refine wp_iff (cvb hc285) ?_
 refine wp_exit (then_x (then_x ?_))
 replace hm := inr_up hm hx283
 refine blk_x (tn (wp_seq (wrl ?_)))
 refine wv (.int .i64 z275) z z z (wv (.int .i64 z275) z z z (wl_nil (tn (wp_ret ?_))))
 obtain rfl := some_inj hm
 refine post_ret (vs := [I6 z275]) results34 (rvs_cons (rv_tmp z) rvs_nil) ?_
 exact ⟨z, hst.keep0⟩
}
}

theorem ref11_Trim_ref {w0 w : World} {I : HL} {R : SP} {a0 : (List ref11_Version)} {r0_0 : Value} {a1 : Int} (f0_0 : Ro ty_ref11_Version I r0_0 a0) (hst : St w0 w I [] R) {r : ((List ref11_Version))} (hm : ref11_Trim a0 a1 = some r) :
  Calls prog 20 #[r0_0, U6 a1] w fun e w' => ∃ (q0_0 : Value), e = .returned (q0_0) ∧ St w0 w' I [ownS ty_ref11_Version q0_0 r] R := by {
 unfold ref11_Trim at hm
 refine calls_start (args := [r0_0, U6 a1]) func20 z ntmps20 (Nat.le_of_ble_eq_true z) ?_
 refine wp_seq (wrl (wv ((.slice none 0 0)) z z z (wl_nil (tn (wp_seq (wrl (wv ((.slice none 0 0)) z z z (wl_nil (tn (wp_seq (wp_seq (wrl (wv (.int .i64 (0:Int)) z z z (wl_nil (tn (wp_block ?_))))))))))))))))
 replace hst := hst.own_nil ty_ref11_Version
 obtain ⟨n411, hm⟩ := loopO_some hm
 refine wp_loop_n (fun n a w => ∃ (z406 : (List ref11_Version)) (z409 : Int) (v407 : Value) (σ410 : Nat → Value), loopN (ref11_Trim_l0 a0 a1) n (z406, z409) = some r ∧ a = Fr 50 (upd (upd (upd (upd σ410 0 (r0_0)) 1 (.int .u64 a1)) 5 (v407)) 6 (.int .i64 z409)) ∧ St w0 w I [ownS ty_ref11_Version v407 z406] R) n411 ⟨[], (0:Int), Zs, _, hm, (fu 0 r0_0 z (fu 1 (.int .u64 a1) z (fu 5 (.slice none 0 0) z (fu 6 (.int .i64 (0:Int)) z z)))), hst⟩ ?_
 rintro n417 _ w412 ⟨z406, z409, v407, σ410, hm, rfl, hst⟩
 obtain ⟨n414, y415, rfl, hm, hx416⟩ := loopN_some hm
 dsimp only [ref11_Trim_l0] at hm
 refine wp_seq (wp_seq (wrl (wv (.int .i64 z409) z z z (wv (r0_0) z z z (wv (.int .i64 ((a0).length : Int)) z z (x_len z underlying26 (ro_sliceV f0_0)) (wv (.bool (decide (z409 < ((a0).length : Int)))) z z z (wl_nil (tn ?_))))))))
 refine bsplit (decide (z409 < ((a0).length : Int))) (fun hc418 => ?_) (fun hc418 => ?_)
 {
 replace hm := bif_t hc418 hm
 refine wp_ift (cvb hc418) ?_
 refine wp_skip (tn (wp_seq (wp_block (wp_seq (wrl ?_)))))
 refine wv (r0_0) z z z (wv (r0_0) z z z (wv (.int .i64 z409) z z z ?_))
 obtain ⟨x419, hx420, hm⟩ := bind_some hm
 obtain ⟨h421, h422, hi423⟩ := geto_some hx420
 refine wv (.pointer (some (eAddr r0_0 (z409.toNat * 5 + 0)))) z z (x_index z z underlying26 sizeOf67 (ro_sliceV f0_0) h421 h422) (wv (.pointer (some (eAddr r0_0 (z409.toNat * 5 + 0)))) z z (x_field_e z underlying67 z sizeOf23 z) ?_)
 obtain ⟨cs424, hr425, hc426⟩ := Ro.getF f0_0 hi423
 obtain ⟨v427, rfl, f428, -⟩ := hr425
 refine wv (.float .f64 x419.At) z z (x_load z isAgg23 ((hc426 (HL.le.refl _) hst) 0 _ z)) (wv (.int .u64 a1) z z z ?_)
 obtain ⟨t430, ht431, hm⟩ := bind_some hm
 refine wc call34 [r0_0, F6 x419.At, U6 a1] z z z ?_
 refine (ref11_last_ref (f0_0.mono ro_rd) hst.to0 ht431).mono ?_
 rintro _ w432 ⟨rfl, hst⟩
 refine ⟨_, z, ?_⟩
 replace hst := hst.of0
 refine wv (.int .i64 t430) z z z (wl_nil (tn (wp_seq (wrl (wv (r0_0) z z z (wv (.int .i64 z409) z z z (wv (.pointer (some (eAddr r0_0 (z409.toNat * 5 + 0)))) z z (x_index z z underlying26 sizeOf67 (ro_sliceV f0_0) h421 h422) (wv (.pointer (some (eAddr r0_0 (z409.toNat * 5 + 1)))) z z (x_field_e z underlying67 z sizeOf24 z) ?_))))))))
 obtain ⟨cs435, hr436, hc437⟩ := Ro.getF f0_0 hi423
 obtain ⟨v438, rfl, f439, -⟩ := hr436
 refine wv (.int .u64 x419.Epoch) z z (x_load z isAgg24 ((hc437 (HL.le.refl _) hst) 1 _ z)) (wv (.int .u64 a1) z z z (wv (.bool (decide (x419.Epoch > a1))) z z z (wv (.bool (decide (x419.Epoch > a1))) z z z ?_)))
 refine bsplit (decide (x419.Epoch > a1)) (fun hc441 => ?_) (fun hc441 => ?_)
 {
 replace hm := bif_t hc441 hm
 refine wo hc441 z z z z z z (wo hc441 z z z z z z (wo hc441 z z z z z z (wo hc441 z z z z z z (wl_off (wanted_undef z z z z) z (wl_off (wanted_undef z z z z) z (wl_off (wanted_undef z z z z) z (wl_off (wanted_undef z z z z) z (wl_off (wanted_undef z z z z) z (wl_off (wanted_undef z z z z) z (wo hc441 z z z z z z (wv (.bool true) z z (x_pick_t hc441 z z) (wl_nil (tn ?_)))))))))))))
 refine wp_ift z ?_
 refine wrl (wv (v407) z z z (wv (r0_0) z z z (wv (.int .i64 z409) z z z (wv (.pointer (some (eAddr r0_0 (z409.toNat * 5 + 0)))) z z (x_index z z underlying26 sizeOf67 (ro_sliceV f0_0) h421 h422) (wv (.agg #[F6 x419.At, U6 x419.Epoch, U6 x419.Index, .bool x419.Del, v438]) z z (x_loadN (cs := [F6 x419.At, U6 x419.Epoch, U6 x419.Index, .bool x419.Del, v438]) z isAgg67 sizeOf67 (eCells (o := 0) (hc437 (HL.le.refl _) hst) z)) ?_)))))
 obtain ⟨b443, w444, ew445, eb446, hst⟩ := hst.lits (E := ty_ref11_Version) (xs := [x419]) [[F6 x419.At, U6 x419.Epoch, U6 x419.Index, .bool x419.Del, v438]] 67 1 z (Reps.cons ⟨_, z, f439, one_of_sliceV (ro_sliceV f439)⟩ Reps.nil)
 refine wl_run (v := (.slice (some ⟨b443, 0, none⟩) 1 1)) (w' := w444) z z (x_als (by kernel_rfl) ew445 eb446) ?_
 obtain ⟨hg448, hm⟩ := gd_some hm
 replace hst := hst.pull1
 obtain ⟨v449, w450, hr451, hst⟩ := run_append elem_26 underlying26 hst hst.src1 (room_of hg448 z) 26
 refine wl_run (v := v449) (w' := w450) z z (x_append z z hr451) ?_
 refine wv (v449) z z z (wl_nil (blk_n (tn (wrl (wv (.int .i64 z409) z z z (wv (.int .i64 (i64.wrap (z409 + (1:Int)))) z z z (wv (.int .i64 (i64.wrap (z409 + (1:Int)))) z z z (wl_nil (tn ?_)))))))))
 replace hst := hst.keep1
 obtain rfl := some_inj hm
 exact ⟨_, Nat.lt_succ_self _, (z406 ++ ([x419])), (i64.wrap (z409 + (1:Int))), v449, _, hx416, (fu 0 r0_0 z (fu 1 (.int .u64 a1) z (fu 5 v449 z (fu 6 (.int .i64 (i64.wrap (z409 + (1:Int)))) z z)))), hst⟩
}
 {
 replace hm := bif_f hc441 hm
 refine wv (.int .i64 t430) ((wanted_eq z z z (cvb hc441)).trans z) z z (wv (.int .i64 z409) ((wanted_eq z z z (cvb hc441)).trans z) z z (wv (.bool (t430 == z409)) ((wanted_eq z z z (cvb hc441)).trans z) z z (wv (.bool (t430 == z409)) ((wanted_eq z z z (cvb hc441)).trans z) z z ?_)))
 refine bsplit (t430 == z409) (fun hc453 => ?_) (fun hc453 => ?_)
 {
 replace hm := bif_t hc453 hm
 refine wv (r0_0) ((wanted_eq z z z (cvb hc453)).trans z) z z (wv (.int .i64 z409) ((wanted_eq z z z (cvb hc453)).trans z) z z (wv (.pointer (some (eAddr r0_0 (z409.toNat * 5 + 0)))) ((wanted_eq z z z (cvb hc453)).trans z) z (x_index z z underlying26 sizeOf67 (ro_sliceV f0_0) h421 h422) (wv (.pointer (some (eAddr r0_0 (z409.toNat * 5 + 3)))) ((wanted_eq z z z (cvb hc453)).trans z) z (x_field_e z underlying67 z sizeOf4 z) (wv (.bool x419.Del) ((wanted_eq z z z (cvb hc453)).trans z) z (x_load z isAgg4 ((hc437 (HL.le.refl _) hst) 3 _ z)) (wv (.bool (!x419.Del)) ((wanted_eq z z z (cvb hc453)).trans z) z z (wv (.bool (!x419.Del)) ((wanted_eq z z z (cvb hc441)).trans z) z (x_pick_t hc453 z z) (wv (.bool (!x419.Del)) z z (x_pick_f hc441 z z) (wl_nil (tn ?_)))))))))
 refine bsplit (!x419.Del) (fun hc454 => ?_) (fun hc454 => ?_)
 {
 replace hm := bif_t hc454 hm
 refine wp_ift (cvb hc454) ?_
 refine wrl (wv (v407) z z z (wv (r0_0) z z z (wv (.int .i64 z409) z z z (wv (.pointer (some (eAddr r0_0 (z409.toNat * 5 + 0)))) z z (x_index z z underlying26 sizeOf67 (ro_sliceV f0_0) h421 h422) (wv (.agg #[F6 x419.At, U6 x419.Epoch, U6 x419.Index, .bool x419.Del, v438]) z z (x_loadN (cs := [F6 x419.At, U6 x419.Epoch, U6 x419.Index, .bool x419.Del, v438]) z isAgg67 sizeOf67 (eCells (o := 0) (hc437 (HL.le.refl _) hst) z)) ?_)))))
 obtain ⟨b456, w457, ew458, eb459, hst⟩ := hst.lits (E := ty_ref11_Version) (xs := [x419]) [[F6 x419.At, U6 x419.Epoch, U6 x419.Index, .bool x419.Del, v438]] 67 1 z (Reps.cons ⟨_, z, f439, one_of_sliceV (ro_sliceV f439)⟩ Reps.nil)
 refine wl_run (v := (.slice (some ⟨b456, 0, none⟩) 1 1)) (w' := w457) z z (x_als (by kernel_rfl) ew458 eb459) ?_
 obtain ⟨hg461, hm⟩ := gd_some hm
 replace hst := hst.pull1
 obtain ⟨v462, w463, hr464, hst⟩ := run_append elem_26 underlying26 hst hst.src1 (room_of hg461 z) 26
 refine wl_run (v := v462) (w' := w463) z z (x_append z z hr464) ?_
 refine wv (v462) z z z (wl_nil (blk_n (tn (wrl (wv (.int .i64 z409) z z z (wv (.int .i64 (i64.wrap (z409 + (1:Int)))) z z z (wv (.int .i64 (i64.wrap (z409 + (1:Int)))) z z z (wl_nil (tn ?_)))))))))
 replace hst := hst.keep1
 obtain rfl := some_inj hm
 exact ⟨_, Nat.lt_succ_self _, (z406 ++ ([x419])), (i64.wrap (z409 + (1:Int))), v462, _, hx416, (fu 0 r0_0 z (fu 1 (.int .u64 a1) z (fu 5 v462 z (fu 6 (.int .i64 (i64.wrap (z409 + (1:Int)))) z z)))), hst⟩
}
 {
 replace hm := bif_f hc454 hm
 refine wp_iff (cvb hc454) ?_
 refine wp_skip (blk_n (tn (wrl ?_)))
 refine wv (.int .i64 z409) z z z (wv (.int .i64 (i64.wrap (z409 + (1:Int)))) z z z (wv (.int .i64 (i64.wrap (z409 + (1:Int)))) z z z (wl_nil (tn ?_))))
 replace hst := hst.keep1
 obtain rfl := some_inj hm
 exact ⟨_, Nat.lt_succ_self _, z406, (i64.wrap (z409 + (1:Int))), v407, _, hx416, (fu 0 r0_0 z (fu 1 (.int .u64 a1) z (fu 5 v407 z (fu 6 (.int .i64 (i64.wrap (z409 + (1:Int)))) z z)))), hst⟩
}
}
 {
 replace hm := bif_f hc453 hm
 refine wo hc453 z z z z z z (wo hc453 z z z z z z (wo hc453 z z z z z z (wo hc453 z z z z z z (wo hc453 z z z z z z (wo hc453 z z z z z z (wv (.bool false) ((wanted_eq z z z (cvb hc441)).trans z) z (x_pick_f hc453 z z) (wv (.bool false) z z (x_pick_f hc441 z z) (wl_nil (tn ?_)))))))))
 refine wp_iff z ?_
 refine wp_skip (blk_n (tn (wrl ?_)))
 refine wv (.int .i64 z409) z z z (wv (.int .i64 (i64.wrap (z409 + (1:Int)))) z z z (wv (.int .i64 (i64.wrap (z409 + (1:Int)))) z z z (wl_nil (tn ?_))))
 replace hst := hst.keep1
 obtain rfl := some_inj hm
 exact ⟨_, Nat.lt_succ_self _, z406, (i64.wrap (z409 + (1:Int))), v407, _, hx416, (fu 0 r0_0 z (fu 1 (.int .u64 a1) z (fu 5 v407 z (fu 6 (.int .i64 (i64.wrap (z409 + (1:Int)))) z z)))), hst⟩
}
}
}
 {
 replace hm := bif_f hc418 hm
 refine wp_iff (cvb hc418) ?_
 refine wp_exit (then_x (then_x ?_))
 replace hm := inr_up hm hx416
 refine blk_x (tn (wp_seq (wrl ?_)))
 refine wv (v407) z z z (wv (v407) z z z (wl_nil (tn (wp_ret ?_))))
 obtain rfl := some_inj hm
 refine post_ret (vs := [v407]) results20 (rvs_cons (rv_tmp z) rvs_nil) ?_
 exact ⟨v407, z, hst.keep1⟩
}
}

theorem mvcc_Store_Len_ref {w0 w : World} {I : HL} {R : SP} {a0 : (Option mvcc_Store)} {p0 : Value}  (hst : St w0 w I [objO at_mvcc_Store p0 a0] R) {r : (Int)} (hm : mvcc_Store_Len a0 = some r) :
  Calls prog 24 #[p0] w fun e w' => e = .returned (.int .i64 r) ∧ St w0 w' I [objO at_mvcc_Store p0 a0] R := by {
 rcases a0 with _ | o0
 {
 obtain ⟨rfl, hst'⟩ := objO_none hst
 clear hst
 have hst := hst'
 clear hst'
 dsimp only [mvcc_Store_Len] at hm
 refine calls_start (args := [.pointer none]) func24 z ntmps24 (Nat.le_of_ble_eq_true z) ?_
 refine wp_seq (wrl (wv (.int .i64 (0:Int)) z z z (wl_nil (tn (wp_seq (wp_seq (wrl (wv (.pointer none) z z z (wv (.bool true) z z (by kernel_rfl) (wl_nil (tn ?_)))))))))))
 refine wp_ift z ?_
 refine wp_seq (wrl (wv (.int .i64 (0:Int)) z z z (wl_nil (tn (wp_ret (then_r ?_))))))
 replace hst := hst.objO_nil at_mvcc_Store
 obtain rfl := some_inj hm
 refine post_ret (vs := [Zi]) results24 (rvs_cons (rv_tmp z) rvs_nil) ?_
 exact ⟨z, hst.keep1⟩
}
 {
 replace hst := objO_get hst
 dsimp only [mvcc_Store_Len] at hm
 refine calls_start (args := [p0]) func24 z ntmps24 (Nat.le_of_ble_eq_true z) ?_
 refine wp_seq (wrl (wv (.int .i64 (0:Int)) z z z (wl_nil (tn (wp_seq (wp_seq (wrl (wv (p0) z z z ?_))))))))
 obtain ⟨b68, v69, rfl, hst'⟩ := at_mvcc_Store_open hst
 clear hst
 have hst := hst'
 clear hst'
 refine wv (.bool false) z z (by kernel_rfl) (wl_nil (tn ?_))
 refine wp_iff z ?_
 refine wp_skip (tn (wp_seq (wrl ?_)))
 refine wv (Pt b68 0) z z z (wv (Pt b68 0) z z z (wv (Pt b68 0) z z (x_field z underlying79 z sizeOf77 z) (wv (v69) z z (x_load z isAgg77 (hst.bc0 z)) (wv (.int .i64 ((o0.rows).length : Int)) z z (x_len z underlying77 (hst.nestsv 1 z)) (wv (.int .i64 ((o0.rows).length : Int)) z z z (wl_nil (tn (wp_ret ?_))))))))
 replace hst := hst.pull1.pull1
 replace hst := at_mvcc_Store_close (pv := Pt b68 0) (x := o0) hst z
 replace hst := objO_some hst
 obtain rfl := some_inj hm
 refine post_ret (vs := [I6 ((o0.rows).length : Int)]) results24 (rvs_cons (rv_tmp z) rvs_nil) ?_
 exact ⟨z, hst.keep1⟩
}
}

theorem ref11_Get_ref {w0 w : World} {I : HL} {R : SP} {a0 : (List ref11_Version)} {r0_0 : Value} {a1 : Nat} {a2 : Int} (f0_0 : Ro ty_ref11_Version I r0_0 a0) (hst : St w0 w I [] R) {r : (api_Got)} (hm : ref11_Get a0 a1 a2 = some r) :
  Calls prog 14 #[r0_0, F6 a1, U6 a2] w fun e w' => ∃ (I' : HL) (q0_0 : Value), e = .returned (.agg #[.bool r.Has, q0_0]) ∧ I.le I' ∧ Ro (tyInt .u8) I' q0_0 r.Val ∧ St w0 w' I' [] R := by {
 unfold ref11_Get at hm
 refine calls_start (args := [r0_0, F6 a1, U6 a2]) func14 z ntmps14 (Nat.le_of_ble_eq_true z) ?_
 have hI0 := HL.le.refl I
 refine wp_seq (wrl ?_)
 obtain ⟨b113, w114, ew115, eb116, hst⟩ := hst.box [.bool false, Zs] 34
 refine wl_run (v := Pt b113 0) (w' := w114) z z (x_al (by kernel_rfl) ew115 eb116) ?_
 refine wl_nil (tn (wp_seq (wrl (wv (r0_0) z z z (wv (.float .f64 a1) z z z (wv (.int .u64 a2) z z z ?_))))))
 obtain ⟨t118, ht119, hm⟩ := bind_some hm
 refine wc call34 [r0_0, F6 a1, U6 a2] z z z ?_
 refine (ref11_last_ref (f0_0.mono ro_rd) hst.to0 ht119).mono ?_
 rintro _ w120 ⟨rfl, hst⟩
 refine ⟨_, z, ?_⟩
 replace hst := hst.of0
 refine wv (.int .i64 t118) z z z (wl_nil (tn (wp_seq (wp_seq (wrl (wv (.int .i64 t118) z z z (wv (.bool (decide (t118 < (0:Int)))) z z z (wv (.bool (decide (t118 < (0:Int)))) z z z ?_))))))))
 refine bsplit (decide (t118 < (0:Int))) (fun hc123 => ?_) (fun hc123 => ?_)
 {
 replace hm := bif_t hc123 hm
 refine wo hc123 z z z z z z (wo hc123 z z z z z z (wo hc123 z z z z z z (wo hc123 z z z z z z (wo hc123 z z z z z z (wv (.bool true) z z (x_pick_t hc123 z z) (wl_nil (tn ?_)))))))
 refine wp_ift z ?_
 refine wp_seq (wrl (wv (.agg #[.bool false, Zs]) z z (by kernel_rfl) ?_))
 obtain ⟨w125, hr126, hst⟩ := hst.bx [.bool false, Zs] sizeOf34 z (oC z (oC z oN)) (by kernel_rfl)
 refine wl_unit z z (x_unit hr126) ?_
 refine wl_nil (tn (wp_ret (then_r ?_)))
 have f127 : Ro (tyInt .u8) I (.slice none 0 0) [] := ro_nil
 obtain rfl := some_inj hm
 refine post_ret (vs := [.agg #[.bool false, Zs]]) results14 (rvs_cons (rv_cell (cs := [.bool false, Zs]) z isAgg34 sizeOf34 (hst.bcs0 0 z)) rvs_nil) ?_
 exact ⟨_, Zs, z, hI0, f127, hst.keep0⟩
}
 {
 replace hm := bif_f hc123 hm
 refine wv (r0_0) ((wanted_eq z z z (cvb hc123)).trans z) z z (wv (.int .i64 t118) ((wanted_eq z z z (cvb hc123)).trans z) z z ?_)
 obtain ⟨x128, hx129, hm⟩ := bind_some hm
 obtain ⟨h130, h131, hi132⟩ := geto_some hx129
 refine wv (.pointer (some (eAddr r0_0 (t118.toNat * 5 + 0)))) ((wanted_eq z z z (cvb hc123)).trans z) z (x_index z z underlying26 sizeOf67 (ro_sliceV f0_0) h130 h131) (wv (.pointer (some (eAddr r0_0 (t118.toNat * 5 + 3)))) ((wanted_eq z z z (cvb hc123)).trans z) z (x_field_e z underlying67 z sizeOf4 z) ?_)
 obtain ⟨cs133, hr134, hc135⟩ := Ro.getF f0_0 hi132
 obtain ⟨v136, rfl, f137, -⟩ := hr134
 refine wv (.bool x128.Del) ((wanted_eq z z z (cvb hc123)).trans z) z (x_load z isAgg4 ((hc135 (HL.le.refl _) hst) 3 _ z)) (wv (.bool x128.Del) z z (x_pick_f hc123 z z) (wl_nil (tn ?_)))
 refine bsplit x128.Del (fun hc139 => ?_) (fun hc139 => ?_)
 {
 replace hm := bif_t hc139 hm
 refine wp_ift (cvb hc139) ?_
 refine wp_seq (wrl (wv (.agg #[.bool false, Zs]) z z (by kernel_rfl) ?_))
 obtain ⟨w141, hr142, hst⟩ := hst.bx [.bool false, Zs] sizeOf34 z (oC z (oC z oN)) (by kernel_rfl)
 refine wl_unit z z (x_unit hr142) ?_
 refine wl_nil (tn (wp_ret (then_r ?_)))
 have f143 : Ro (tyInt .u8) I (.slice none 0 0) [] := ro_nil
 obtain rfl := some_inj hm
 refine post_ret (vs := [.agg #[.bool false, Zs]]) results14 (rvs_cons (rv_cell (cs := [.bool false, Zs]) z isAgg34 sizeOf34 (hst.bcs0 0 z)) rvs_nil) ?_
 exact ⟨_, Zs, z, hI0, f143, hst.keep0⟩
}
 {
 replace hm := bif_f hc139 hm
 refine wp_iff (cvb hc139) ?_
 refine wp_skip (tn (wp_seq (wrl ?_)))
 refine wv (r0_0) z z z (wv (.int .i64 t118) z z z (wv (.pointer (some (eAddr r0_0 (t118.toNat * 5 + 0)))) z z (x_index z z underlying26 sizeOf67 (ro_sliceV f0_0) h130 h131) (wv (.pointer (some (eAddr r0_0 (t118.toNat * 5 + 4)))) z z (x_field_e z underlying67 z sizeOf32 z) (wv (v136) z z (x_load z isAgg32 ((hc135 (HL.le.refl _) hst) 4 _ z)) (wv (.agg #[.bool true, v136]) z z (by obtain ⟨_, _, hv_, _⟩ := (ro_sliceV f137); rw [hv_]; kernel_rfl) ?_)))))
 obtain ⟨w145, hr146, hst⟩ := hst.bx [.bool true, v136] sizeOf34 z (oC z (oC (one_of_sliceV (ro_sliceV f137)) oN)) (by kernel_rfl)
 refine wl_unit z z (x_unit hr146) ?_
 refine wl_nil (tn (wp_ret ?_))
 obtain rfl := some_inj hm
 refine post_ret (vs := [.agg #[.bool true, v136]]) results14 (rvs_cons (rv_cell (cs := [.bool true, v136]) z isAgg34 sizeOf34 (hst.bcs0 0 z)) rvs_nil) ?_
 exact ⟨_, v136, z, hI0, f137, hst.keep0⟩
}
}
}

theorem ref11_SameGots_ref {w0 w : World} {I : HL} {R : SP} {a0 : (List api_Got)} {r0_0 : Value} {a1 : (List api_Got)} {r1_0 : Value} (f0_0 : Rd ty_api_Got R I r0_0 a0) (f1_0 : Rd ty_api_Got R I r1_0 a1) (hst : St w0 w I [] R) {r : (Bool)} (hm : ref11_SameGots a0 a1 = some r) :
  Calls prog 12 #[r0_0, r1_0] w fun e w' => e = .returned (.bool r) ∧ St w0 w' I [] R := by {
 unfold ref11_SameGots at hm
 refine calls_start (args := [r0_0, r1_0]) func12 z ntmps12 (Nat.le_of_ble_eq_true z) ?_
 refine wp_seq (wrl (wv (.bool false) z z z (wl_nil (tn (wp_seq (wp_seq (wrl (wv (r0_0) z z z (wv (.int .i64 ((a0).length : Int)) z z (x_len z underlying36 (rd_sliceV f0_0)) (wv (r1_0) z z z (wv (.int .i64 ((a1).length : Int)) z z (x_len z underlying36 (rd_sliceV f1_0)) (wv (.bool (((a0).length : Int) != ((a1).length : Int))) z z z (wl_nil (tn ?_))))))))))))))
 refine bsplit (((a0).length : Int) != ((a1).length : Int)) (fun hc167 => ?_) (fun hc167 => ?_)
 {
 replace hm := bif_t hc167 hm
 refine wp_ift (cvb hc167) ?_
 refine wp_seq (wrl (wv (.bool false) z z z (wl_nil (tn (wp_ret (then_r ?_))))))
 obtain rfl := some_inj hm
 refine post_ret (vs := [.bool false]) results12 (rvs_cons (rv_tmp z) rvs_nil) ?_
 exact ⟨z, hst.keep0⟩
}
 {
 replace hm := bif_f hc167 hm
 refine wp_iff (cvb hc167) ?_
 refine wp_skip (tn (wp_seq (wp_seq (wrl ?_))))
 refine wv (.int .i64 (0:Int)) z z z (wl_nil (tn (wp_block ?_)))
 obtain ⟨n221, hm⟩ := loopO_some hm
 refine wp_loop_n (fun n a w => ∃ (z219 : Int) (σ220 : Nat → Value), loopN (ref11_SameGots_l0 a0 a1) n z219 = some r ∧ a = Fr 43 (upd (upd (upd σ220 0 (r0_0)) 1 (r1_0)) 5 (.int .i64 z219)) ∧ St w0 w I [] R) n221 ⟨(0:Int), _, hm, (fu 0 r0_0 z (fu 1 r1_0 z (fu 5 (.int .i64 (0:Int)) z z))), hst⟩ ?_
 rintro n227 _ w222 ⟨z219, σ220, hm, rfl, hst⟩
 obtain ⟨n224, y225, rfl, hm, hx226⟩ := loopN_some hm
 dsimp only [ref11_SameGots_l0] at hm
 refine wp_seq (wp_seq (wrl (wv (.int .i64 z219) z z z (wv (r0_0) z z z (wv (.int .i64 ((a0).length : Int)) z z (x_len z underlying36 (rd_sliceV f0_0)) (wv (.bool (decide (z219 < ((a0).length : Int)))) z z z (wl_nil (tn ?_))))))))
 refine bsplit (decide (z219 < ((a0).length : Int))) (fun hc228 => ?_) (fun hc228 => ?_)
 {
 replace hm := bif_t hc228 hm
 refine wp_ift (cvb hc228) ?_
 refine wp_skip (tn (wp_seq (wp_block (wp_seq ?_))))
 refine wq_regionS hst Try.mixed (by kernel_rfl) ?_
 refine wq_run (v := r0_0) z z (fun w hst => z) ?_
 refine wq_run (v := .int .i64 z219) z z (fun w hst => z) ?_
 obtain ⟨x229, hx230, hm⟩ := bind_some hm
 obtain ⟨h231, h232, hi233⟩ := geto_some hx230
 refine wq_run (v := .pointer (some (eAddr r0_0 (z219.toNat * 2 + 0)))) z z (fun w hst => x_index z z underlying36 sizeOf34 (rd_sliceV f0_0) h231 h232) ?_
 refine wq_run (v := .pointer (some (eAddr r0_0 (z219.toNat * 2 + 0)))) z z (fun w hst => x_field_e z underlying34 z sizeOf4 z) ?_
 obtain ⟨cs234, hr235, hc236⟩ := Rd.getF f0_0 hi233
 obtain ⟨v237, rfl, f238, -⟩ := hr235
 refine wq_run (v := .bool x229.Has) z z (fun w hst => x_load z isAgg4 ((hc236 (HL.le.refl _) hst) 0 _ z)) ?_
 refine wq_run (v := r1_0) z z (fun w hst => z) ?_
 refine wq_run (v := .int .i64 z219) z z (fun w hst => z) ?_
 obtain ⟨x240, hx241, hm⟩ := bind_some hm
 obtain ⟨h242, h243, hi244⟩ := geto_some hx241
 refine wq_run (v := .pointer (some (eAddr r1_0 (z219.toNat * 2 + 0)))) z z (fun w hst => x_index z z underlying36 sizeOf34 (rd_sliceV f1_0) h242 h243) ?_
 refine wq_run (v := .pointer (some (eAddr r1_0 (z219.toNat * 2 + 0)))) z z (fun w hst => x_field_e z underlying34 z sizeOf4 z) ?_
 obtain ⟨cs245, hr246, hc247⟩ := Rd.getF f1_0 hi244
 obtain ⟨v248, rfl, f249, -⟩ := hr246
 refine wq_run (v := .bool x240.Has) z z (fun w hst => x_load z isAgg4 ((hc247 (HL.le.refl _) hst) 0 _ z)) ?_
 refine wq_run (v := .bool (!(x229.Has == x240.Has))) z z (fun w hst => by kernel_rfl) ?_
 refine wq_run (v := .bool (!(x229.Has == x240.Has))) z z (fun w hst => z) ?_
 refine bsplit (!(x229.Has == x240.Has)) (fun hc251 => ?_) (fun hc251 => ?_)
 {
 replace hm := bif_t hc251 hm
 refine wq_off ((wanted_eq z z z (cvb hc251)).trans z) z ?_
 refine wq_off ((wanted_eq z z z (cvb hc251)).trans z) z ?_
 refine wq_off ((wanted_eq z z z (cvb hc251)).trans z) z ?_
 refine wq_off ((wanted_eq z z z (cvb hc251)).trans z) z ?_
 refine wq_off ((wanted_eq z z z (cvb hc251)).trans z) z ?_
 refine wq_off ((wanted_eq z z z (cvb hc251)).trans z) z ?_
 refine wq_off ((wanted_eq z z z (cvb hc251)).trans z) z ?_
 refine wq_off ((wanted_eq z z z (cvb hc251)).trans z) z ?_
 refine wq_off ((wanted_eq z z z (cvb hc251)).trans z) z ?_
 refine wq_off ((wanted_eq z z z (cvb hc251)).trans z) z ?_
 refine wq_off ((wanted_eq z z z (cvb hc251)).trans z) z ?_
 refine wq_off ((wanted_eq z z z (cvb hc251)).trans z) z ?_
 refine wq_off ((wanted_eq z z z (cvb hc251)).trans z) z ?_
 refine wq_run (v := .bool true) z z (fun w hst => x_pick_t hc251 z z) ?_
 refine wq_nil ?_
 intro w hst
 refine tn ?_
 refine wp_ift z ?_
 refine wp_seq (wrl (wv (.bool false) z z z (wl_nil (tn (wp_ret (blk_r (then_r (then_r ?_))))))))
 replace hm := inr_up hm hx226
 refine blk_r (then_r ?_)
 obtain rfl := some_inj hm
 refine post_ret (vs := [.bool false]) results12 (rvs_cons (rv_tmp z) rvs_nil) ?_
 exact ⟨z, hst.keep0⟩
}
 {
 replace hm := bif_f hc251 hm
 refine wq_run (v := r0_0) ((wanted_eq z z z (cvb hc251)).trans z) z (fun w hst => z) ?_
 refine wq_run (v := .int .i64 z219) ((wanted_eq z z z (cvb hc251)).trans z) z (fun w hst => z) ?_
 refine wq_run (v := .pointer (some (eAddr r0_0 (z219.toNat * 2 + 0)))) ((wanted_eq z z z (cvb hc251)).trans z) z (fun w hst => x_index z z underlying36 sizeOf34 (rd_sliceV f0_0) h231 h232) ?_
 refine wq_run (v := .pointer (some (eAddr r0_0 (z219.toNat * 2 + 1)))) ((wanted_eq z z z (cvb hc251)).trans z) z (fun w hst => x_field_e z underlying34 z sizeOf32 z) ?_
 refine wq_run (v := v237) ((wanted_eq z z z (cvb hc251)).trans z) z (fun w hst => x_load z isAgg32 ((hc236 (HL.le.refl _) hst) 1 _ z)) ?_
 refine wq_run (v := .string (toStr x229.Val)) ((wanted_eq z z z (cvb hc251)).trans z) z (fun w hst => x_tostr underlying32 underlying9 underlying5 z (Src.of_rd hst f238 flat_int)) ?_
 refine wq_run (v := r1_0) ((wanted_eq z z z (cvb hc251)).trans z) z (fun w hst => z) ?_
 refine wq_run (v := .int .i64 z219) ((wanted_eq z z z (cvb hc251)).trans z) z (fun w hst => z) ?_
 refine wq_run (v := .pointer (some (eAddr r1_0 (z219.toNat * 2 + 0)))) ((wanted_eq z z z (cvb hc251)).trans z) z (fun w hst => x_index z z underlying36 sizeOf34 (rd_sliceV f1_0) h242 h243) ?_
 refine wq_run (v := .pointer (some (eAddr r1_0 (z219.toNat * 2 + 1)))) ((wanted_eq z z z (cvb hc251)).trans z) z (fun w hst => x_field_e z underlying34 z sizeOf32 z) ?_
 refine wq_run (v := v248) ((wanted_eq z z z (cvb hc251)).trans z) z (fun w hst => x_load z isAgg32 ((hc247 (HL.le.refl _) hst) 1 _ z)) ?_
 refine wq_run (v := .string (toStr x240.Val)) ((wanted_eq z z z (cvb hc251)).trans z) z (fun w hst => x_tostr underlying32 underlying9 underlying5 z (Src.of_rd hst f249 flat_int)) ?_
 refine wq_run (v := .bool (!(sEq (toStr x229.Val) (toStr x240.Val)))) ((wanted_eq z z z (cvb hc251)).trans z) z (fun w hst => by kernel_rfl) ?_
 refine wq_run (v := .bool (!(sEq (toStr x229.Val) (toStr x240.Val)))) z z (fun w hst => x_pick_f hc251 z z) ?_
 refine wq_nil ?_
 intro w hst
 refine tn ?_
 refine bsplit (!(sEq (toStr x229.Val) (toStr x240.Val))) (fun hc252 => ?_) (fun hc252 => ?_)
 {
 replace hm := bif_t hc252 hm
 refine wp_ift (cvb hc252) ?_
 refine wp_seq (wrl (wv (.bool false) z z z (wl_nil (tn (wp_ret (blk_r (then_r (then_r ?_))))))))
 replace hm := inr_up hm hx226
 refine blk_r (then_r ?_)
 obtain rfl := some_inj hm
 refine post_ret (vs := [.bool false]) results12 (rvs_cons (rv_tmp z) rvs_nil) ?_
 exact ⟨z, hst.keep0⟩
}
 {
 replace hm := bif_f hc252 hm
 refine wp_iff (cvb hc252) ?_
 refine wp_skip (blk_n (tn (wrl ?_)))
 refine wv (.int .i64 z219) z z z (wv (.int .i64 (i64.wrap (z219 + (1:Int)))) z z z (wv (.int .i64 (i64.wrap (z219 + (1:Int)))) z z z (wl_nil (tn ?_))))
 replace hst := hst.keep0
 obtain rfl := some_inj hm
 exact ⟨_, Nat.lt_succ_self _, (i64.wrap (z219 + (1:Int))), _, hx226, (fu 0 r0_0 z (fu 1 r1_0 z (fu 5 (.int .i64 (i64.wrap (z219 + (1:Int)))) z z))), hst⟩
}
}
}
 {
 replace hm := bif_f hc228 hm
 refine wp_iff (cvb hc228) ?_
 refine wp_exit (then_x (then_x ?_))
 replace hm := inr_up hm hx226
 refine blk_x (tn (wp_seq (wrl ?_)))
 refine wv (.bool true) z z z (wl_nil (tn (wp_ret ?_)))
 obtain rfl := some_inj hm
 refine post_ret (vs := [.bool true]) results12 (rvs_cons (rv_tmp z) rvs_nil) ?_
 exact ⟨z, hst.keep0⟩
}
}
}

theorem mvcc_Store_Versions_ref {w0 w : World} {I : HL} {R : SP} {a0 : (Option mvcc_Store)} {p0 : Value} {a1 : Nat}  (hst : St w0 w I [objO at_mvcc_Store p0 a0] R) {r : ((List mvcc_Version))} (hm : mvcc_Store_Versions a0 a1 = some r) :
  Calls prog 23 #[p0, F6 a1] w fun e w' => ∃ (q0_0 : Value), e = .returned (q0_0) ∧ St w0 w' I [ownS ty_mvcc_Version q0_0 r, objO at_mvcc_Store p0 a0] R := by {
 rcases a0 with _ | o0
 {
 obtain ⟨rfl, hst'⟩ := objO_none hst
 clear hst
 have hst := hst'
 clear hst'
 dsimp only [mvcc_Store_Versions] at hm
 refine calls_start (args := [.pointer none, F6 a1]) func23 z ntmps23 (Nat.le_of_ble_eq_true z) ?_
 refine wp_seq (wrl (wv ((.slice none 0 0)) z z z (wl_nil (tn (wp_seq (wrl (wv (.pointer none) z z z (wv (.float .f64 a1) z z z ?_))))))))
 obtain ⟨t472, ht473, hm⟩ := bind_some hm
 refine wc call32 [F6 a1] z z z ?_
 refine (number_Rank_ref hst.to0 ht473).mono ?_
 rintro _ w474 ⟨rfl, hst⟩
 refine ⟨_, z, ?_⟩
 replace hst := hst.of0.objO_nil at_mvcc_Store
 obtain ⟨t478, ht479, hm⟩ := bind_some hm
 refine wc call31 [.pointer none, U6 t472] z z z ?_
 refine (mvcc_Store_find_ref hst.to1 ht479).mono ?_
 rintro _ w480 ⟨rfl, hst⟩
 refine ⟨_, z, ?_⟩
 replace hst := hst.of1
 refine wv (.tuple #[I6 t478.1, .bool t478.2]) z z z (wv (.int .i64 t478.1) z z z (wv (.bool t478.2) z z z (wv (.int .i64 t478.1) z z z (wv (.bool t478.2) z z z (wl_nil (tn (wp_seq (wp_seq (wrl (wv (.bool t478.2) z z z (wv (.bool (!t478.2)) z z z (wl_nil (tn ?_)))))))))))))
 refine bsplit (!t478.2) (fun hc483 => ?_) (fun hc483 => ?_)
 {
 replace hm := bif_t hc483 hm
 refine wp_ift (cvb hc483) ?_
 refine wp_seq (wrl (wv ((.slice none 0 0)) z z z (wl_nil (tn (wp_ret (then_r ?_))))))
 replace hst := hst.own_nil ty_mvcc_Version
 replace hst := hst.objO_nil at_mvcc_Store
 obtain rfl := some_inj hm
 refine post_ret (vs := [Zs]) results23 (rvs_cons (rv_tmp z) rvs_nil) ?_
 replace hst := hst.pull1
 exact ⟨(.slice none 0 0), z, hst.keep2⟩
}
 {
 replace hm := bif_f hc483 hm
 refine wp_iff (cvb hc483) ?_
 refine wp_skip (tn (wp_seq (wrl ?_)))
 refine wv (.pointer none) z z z ?_
 cases hm
}
}
 {
 replace hst := objO_get hst
 dsimp only [mvcc_Store_Versions] at hm
 refine calls_start (args := [p0, F6 a1]) func23 z ntmps23 (Nat.le_of_ble_eq_true z) ?_
 refine wp_seq (wrl (wv ((.slice none 0 0)) z z z (wl_nil (tn (wp_seq (wrl (wv (p0) z z z (wv (.float .f64 a1) z z z ?_))))))))
 obtain ⟨t486, ht487, hm⟩ := bind_some hm
 refine wc call32 [F6 a1] z z z ?_
 refine (number_Rank_ref hst.to0 ht487).mono ?_
 rintro _ w488 ⟨rfl, hst⟩
 refine ⟨_, z, ?_⟩
 replace hst := hst.of0
 replace hst := objO_some hst
 obtain ⟨t491, ht492, hm⟩ := bind_some hm
 refine wc call31 [p0, U6 t486] z z z ?_
 refine (mvcc_Store_find_ref hst.to1 ht492).mono ?_
 rintro _ w493 ⟨rfl, hst⟩
 refine ⟨_, z, ?_⟩
 replace hst := hst.of1
 replace hst := objO_get hst
 refine wv (.tuple #[I6 t491.1, .bool t491.2]) z z z (wv (.int .i64 t491.1) z z z (wv (.bool t491.2) z z z (wv (.int .i64 t491.1) z z z (wv (.bool t491.2) z z z (wl_nil (tn (wp_seq (wp_seq (wrl (wv (.bool t491.2) z z z (wv (.bool (!t491.2)) z z z (wl_nil (tn ?_)))))))))))))
 refine bsplit (!t491.2) (fun hc496 => ?_) (fun hc496 => ?_)
 {
 replace hm := bif_t hc496 hm
 refine wp_ift (cvb hc496) ?_
 refine wp_seq (wrl (wv ((.slice none 0 0)) z z z (wl_nil (tn (wp_ret (then_r ?_))))))
 replace hst := hst.own_nil ty_mvcc_Version
 replace hst := hst.pull1
 replace hst := objO_some hst
 obtain rfl := some_inj hm
 refine post_ret (vs := [Zs]) results23 (rvs_cons (rv_tmp z) rvs_nil) ?_
 replace hst := hst.pull1
 exact ⟨(.slice none 0 0), z, hst.keep2⟩
}
 {
 replace hm := bif_f hc496 hm
 refine wp_iff (cvb hc496) ?_
 refine wp_skip (tn (wp_seq (wrl ?_)))
 refine wv (p0) z z z ?_
 obtain ⟨b498, v499, rfl, hst'⟩ := at_mvcc_Store_open hst
 clear hst
 have hst := hst'
 clear hst'
 refine wv (Pt b498 0) z z z (wv (Pt b498 0) z z (x_field z underlying79 z sizeOf77 z) (wv (v499) z z (x_load z isAgg77 (hst.bc0 z)) (wv (.int .i64 t491.1) z z z ?_)))
 obtain ⟨x501, hx502, hm⟩ := bind_some hm
 obtain ⟨h503, h504, hi505⟩ := geto_some hx502
 refine wv (.pointer (some (eAddr v499 (t491.1.toNat * 2 + 0)))) z z (x_index z z underlying77 sizeOf76 (hst.nestsv 1 z) h503 h504) (wv (.pointer (some (eAddr v499 (t491.1.toNat * 2 + 1)))) z z (x_field_e z underlying76 z sizeOf53 z) ?_)
 replace hst := hst.pull1
 obtain ⟨v506, hst⟩ := hst.nest_focus hi505
 refine wv (v506) z z (x_load z isAgg53 ((hst.holeall (N := nest_mvcc_row) (i := t491.1.toNat) 1 z hi505) 1 _ z)) ?_
 obtain ⟨css508, hq509, hst⟩ := hst.own_open
 obtain ⟨t510, ht511, hm⟩ := bind_some hm
 refine wc call40 [v506] z z z ?_
 refine (slices_Clone_mvcc_Version_mvcc_Version_ref (hst.rdorow 0 z hq509) hst.to0 ht511).mono ?_
 rintro _ w512 ⟨v515, rfl, hst⟩
 refine ⟨_, z, ?_⟩
 replace hst := hst.of1.pull1.own_close hq509
 refine wv (v515) z z z (wl_nil (tn (wp_ret ?_)))
 replace hst := hst.pull2.pull1
 replace hst := St.nest_close0 (N := nest_mvcc_row) hst hi505
 replace hst := hst.pull2
 replace hst := at_mvcc_Store_close (pv := Pt b498 0) (x := o0) hst z
 replace hst := objO_some hst
 obtain rfl := some_inj hm
 refine post_ret (vs := [v515]) results23 (rvs_cons (rv_tmp z) rvs_nil) ?_
 replace hst := hst.pull1
 exact ⟨v515, z, hst.keep2⟩
}
}
}

theorem law11_told_ref {w0 w : World} {I : HL} {R : SP} {a0 : (Option mvcc_Store)} {p0 : Value} {a1 : (List ref11_Version)} {r1_0 : Value} (f1_0 : Ro ty_ref11_Version I r1_0 a1) (hst : St w0 w I [objO at_mvcc_Store p0 a0] R) {r : (Bool)} (hm : law11_told a0 a1 = some r) :
  Calls prog 11 #[p0, r1_0] w fun e w' => ∃ (I' : HL), e = .returned (.bool r) ∧ I.le I' ∧ St w0 w' I' [objO at_mvcc_Store p0 a0] R := by {
 unfold law11_told at hm
 refine calls_start (args := [p0, r1_0]) func11 z ntmps11 (Nat.le_of_ble_eq_true z) ?_
 have hI0 := HL.le.refl I
 refine wp_seq (wrl (wv (.bool false) z z z (wl_nil (tn (wp_seq (wrl (wv (r1_0) z z z ?_)))))))
 obtain ⟨t1654, ht1655, hm⟩ := bind_some hm
 refine wc call18 [r1_0] z z z ?_
 refine (ref11_Ats_ref (f1_0.mono ro_rd) hst.to0 ht1655).mono ?_
 rintro _ w1656 ⟨I1657, v1659, rfl, hI1658, hst⟩
 refine ⟨_, z, ?_⟩
 replace hst := hst.of1
 replace f1_0 := f1_0.mono (ro_le hI1658)
 replace hI0 := hI0.trans hI1658
 refine wv (v1659) z z z (wl_nil (tn (wp_seq (wp_seq (wrl (wv (p0) z z z ?_))))))
 replace hst := hst.pull1
 obtain ⟨t1661, ht1662, hm⟩ := bind_some hm
 refine wc call24 [p0] z z z ?_
 refine (mvcc_Store_Len_ref hst.to1 ht1662).mono ?_
 rintro _ w1663 ⟨rfl, hst⟩
 refine ⟨_, z, ?_⟩
 replace hst := hst.of1
 refine wv (v1659) z z z (wv (.int .i64 ((t1654).length : Int)) z z (x_len z underlying44 hst.sv1) (wv (.bool (t1661 != ((t1654).length : Int))) z z z (wv (.bool (t1661 != ((t1654).length : Int))) z z z ?_)))
 refine bsplit (t1661 != ((t1654).length : Int)) (fun hc1666 => ?_) (fun hc1666 => ?_)
 {
 replace hm := bif_t hc1666 hm
 refine wo hc1666 z z z z z z (wo hc1666 z z z z z z (wo hc1666 z z z z z z (wo hc1666 z z z z z z (wo hc1666 z z z z z z (wv (.bool true) z z (x_pick_t hc1666 z z) (wl_nil (tn ?_)))))))
 refine wp_ift z ?_
 refine wp_seq (wrl (wv (.bool false) z z z (wl_nil (tn (wp_ret (then_r ?_))))))
 obtain rfl := some_inj hm
 refine post_ret (vs := [.bool false]) results11 (rvs_cons (rv_tmp z) rvs_nil) ?_
 exact ⟨_, z, hI0, hst.keep1⟩
}
 {
 replace hm := bif_f hc1666 hm
 refine wv (p0) ((wanted_eq z z z (cvb hc1666)).trans z) z z ?_
 obtain ⟨t1667, ht1668, hm⟩ := bind_some hm
 refine wl_call ((wanted_eq z z z (cvb hc1666)).trans z) z (x_call call25 z (vs := [p0]) z) ?_
 refine (mvcc_Store_Size_ref hst.to1 ht1668).mono ?_
 rintro _ w1669 ⟨rfl, hst⟩
 refine ⟨_, z, ?_⟩
 replace hst := hst.of1
 refine wv (r1_0) ((wanted_eq z z z (cvb hc1666)).trans z) z z (wv (.int .i64 ((a1).length : Int)) ((wanted_eq z z z (cvb hc1666)).trans z) z (x_len z underlying26 (ro_sliceV f1_0)) (wv (.bool (t1667 != ((a1).length : Int))) ((wanted_eq z z z (cvb hc1666)).trans z) z z (wv (.bool (t1667 != ((a1).length : Int))) z z (x_pick_f hc1666 z z) (wl_nil (tn ?_)))))
 refine bsplit (t1667 != ((a1).length : Int)) (fun hc1672 => ?_) (fun hc1672 => ?_)
 {
 replace hm := bif_t hc1672 hm
 refine wp_ift (cvb hc1672) ?_
 refine wp_seq (wrl (wv (.bool false) z z z (wl_nil (tn (wp_ret (then_r ?_))))))
 obtain rfl := some_inj hm
 refine post_ret (vs := [.bool false]) results11 (rvs_cons (rv_tmp z) rvs_nil) ?_
 exact ⟨_, z, hI0, hst.keep1⟩
}
 {
 replace hm := bif_f hc1672 hm
 refine wp_iff (cvb hc1672) ?_
 refine wp_skip (tn (wp_seq (wp_seq (wrl ?_))))
 refine wv (.int .i64 (0:Int)) z z z (wl_nil (tn (wp_block ?_)))
 obtain ⟨n2721, hm⟩ := loopO_some hm
 refine wp_loop_n (fun n a w => ∃ (I2719 : HL) (z2718 : Int) (σ2720 : Nat → Value), loopN (law11_told_l0 t1654 a0 a1) n z2718 = some r ∧ a = Fr 128 (upd (upd (upd (upd σ2720 0 (p0)) 1 (r1_0)) 5 (v1659)) 6 (.int .i64 z2718)) ∧ I1657.le I2719 ∧ St w0 w I2719 [objO at_mvcc_Store p0 a0, ownS tyF64 v1659 t1654] R) n2721 ⟨_, (0:Int), _, hm, (fu 0 p0 z (fu 1 r1_0 z (fu 5 v1659 z (fu 6 (.int .i64 (0:Int)) z z)))), (HL.le.refl _), hst⟩ ?_
 rintro n2727 _ w2722 ⟨I2719, z2718, σ2720, hm, rfl, hL2723, hst⟩
 obtain ⟨n2724, y2725, rfl, hm, hx2726⟩ := loopN_some hm
 dsimp only [law11_told_l0] at hm
 replace f1_0 := f1_0.mono (ro_le hL2723)
 replace hI0 := hI0.trans hL2723
 refine wp_seq (wp_seq (wrl (wv (.int .i64 z2718) z z z (wv (v1659) z z z (wv (.int .i64 ((t1654).length : Int)) z z (x_len z underlying44 hst.sv1) (wv (.bool (decide (z2718 < ((t1654).length : Int)))) z z z (wl_nil (tn ?_))))))))
 refine bsplit (decide (z2718 < ((t1654).length : Int))) (fun hc2728 => ?_) (fun hc2728 => ?_)
 {
 replace hm := bif_t hc2728 hm
 refine wp_ift (cvb hc2728) ?_
 refine wp_skip (tn (wp_seq (wp_block ?_)))
 obtain ⟨y3067, hm, hx3068⟩ := joinO_some hm
 refine wp_cut (fun a w => ∃ (I3064 : HL) (σ3065 : Nat → Value), (law11_told_j1 t1654 z2718 a0 a1) () = some y2725 ∧ a = Fr 128 (upd (upd (upd (upd σ3065 0 (p0)) 1 (r1_0)) 5 (v1659)) 6 (.int .i64 z2718)) ∧ I2719.le I3064 ∧ St w0 w I3064 [objO at_mvcc_Store p0 a0, ownS tyF64 v1659 t1654] R) ?_ ?_
 {
 have hL3069 := HL.le.refl I2719
 refine wp_seq (wrl (wv (.int .u64 (0:Int)) z z z (wl_nil (tn (wp_block ?_)))))
 obtain ⟨n2949, hm⟩ := loopO_some hm
 refine wp_loop_n (fun n a w => ∃ (I2947 : HL) (z2946 : Int) (σ2948 : Nat → Value), loopN (law11_told_l2 t1654 z2718 a0 a1) n z2946 = some y3067 ∧ a = Fr 128 (upd (upd (upd (upd (upd σ2948 0 (p0)) 1 (r1_0)) 5 (v1659)) 6 (.int .i64 z2718)) 7 (.int .u64 z2946)) ∧ I2719.le I2947 ∧ St w0 w I2947 [objO at_mvcc_Store p0 a0, ownS tyF64 v1659 t1654] R) n2949 ⟨_, (0:Int), _, hm, (fu 0 p0 z (fu 1 r1_0 z (fu 5 v1659 z (fu 6 (.int .i64 z2718) z (fu 7 (.int .u64 (0:Int)) z z))))), (HL.le.refl _), hst⟩ ?_
 rintro n2955 _ w2950 ⟨I2947, z2946, σ2948, hm, rfl, hL2951, hst⟩
 obtain ⟨n2952, y2953, rfl, hm, hx2954⟩ := loopN_some hm
 dsimp only [law11_told_l2] at hm
 replace f1_0 := f1_0.mono (ro_le hL2951)
 replace hI0 := hI0.trans hL2951
 replace hL2723 := hL2723.trans hL2951
 replace hL3069 := hL3069.trans hL2951
 refine wp_seq (wp_seq (wrl (wv (.int .u64 z2946) z z z (wv (.bool (decide (z2946 < (9:Int)))) z z z (wl_nil (tn ?_))))))
 refine bsplit (decide (z2946 < (9:Int))) (fun hc2956 => ?_) (fun hc2956 => ?_)
 {
 replace hm := bif_t hc2956 hm
 refine wp_ift (cvb hc2956) ?_
 refine wp_skip (tn (wp_seq (wp_block (wp_seq ?_))))
 obtain ⟨y3059, hm, hx3060⟩ := bind_some hm
 refine wp_mid (fun a w => ∃ (I3056 : HL) (z3055 : Bool) (σ3057 : Nat → Value), (law11_told_j3 z2946) z3055 = some y2953 ∧ a = Fr 128 (upd (upd (upd (upd (upd (upd σ3057 0 (p0)) 1 (r1_0)) 5 (v1659)) 6 (.int .i64 z2718)) 7 (.int .u64 z2946)) 53 (.bool z3055)) ∧ I2947.le I3056 ∧ St w0 w I3056 [objO at_mvcc_Store p0 a0, ownS tyF64 v1659 t1654] R) ?_ ?_
 {
 have hL3061 := HL.le.refl I2947
 refine wp_region_St hst 18 [0, 1, 2, 3, 4, 5, 6, 7, 8, 9, 10, 11, 12, 13, 14, 15, 16, 17] [0, 0, 0, 6, 14, 0, 63, 127, 0, 0, 0, 1536, 3584, 0, 16255, 32639, 65535, 131071] [] z (by kernel_rfl) (by kernel_rfl) Try.mixed (by kernel_rfl) ?_
 refine wsr (p0) 0 z z z (by kernel_rfl) (fun w hst => z) (wsr (v1659) 1 z z z (by kernel_rfl) (fun w hst => z) (wsr (.int .i64 z2718) 2 z z z (by kernel_rfl) (fun w hst => z) ?_))
 obtain ⟨x2957, hx2958, hm⟩ := bind_some hm
 obtain ⟨h2959, h2960, hi2961⟩ := geto_some hx2958
 refine wsr (.pointer (some (eAddr v1659 (z2718.toNat * 1 + 0)))) 3 z z z (by kernel_rfl) (fun w hst => x_index z z underlying44 sizeOf23 hst.sv1 h2959 h2960) (wsr (.float .f64 x2957) 4 z z z (by kernel_rfl) (fun w hst => x_load z isAgg23 (hst.ol1 hi2961 (by rintro _ rfl; rfl))) (wsr (.int .u64 z2946) 5 z z z (by kernel_rfl) (fun w hst => z) (wsr (r1_0) 8 z z z (by kernel_rfl) (fun w hst => z) (wsr (v1659) 9 z z z (by kernel_rfl) (fun w hst => z) (wsr (.int .i64 z2718) 10 z z z (by kernel_rfl) (fun w hst => z) (wsr (.pointer (some (eAddr v1659 (z2718.toNat * 1 + 0)))) 11 z z z (by kernel_rfl) (fun w hst => x_index z z underlying44 sizeOf23 hst.sv1 h2959 h2960) (wsr (.float .f64 x2957) 12 z z z (by kernel_rfl) (fun w hst => x_load z isAgg23 (hst.ol1 hi2961 (by rintro _ rfl; rfl))) (wsr (.int .u64 z2946) 13 z z z (by kernel_rfl) (fun w hst => z) ?_))))))))
 refine ws_e1 6 (by kernel_rfl) ?_
 refine nxe [7, 14, 15, 16, 17] (by kernel_rfl) z z ?_
 clear hst
 intro w hst
 obtain ⟨t2962, ht2963, hm⟩ := bind_some hm
 refine wec call13 [p0, F6 x2957, U6 z2946] z z ?_
 refine (mvcc_Store_Get_ref hst.to1 ht2963).mono ?_
 rintro _ w2964 ⟨v2967, rfl, hst⟩
 refine ⟨_, z, ?_⟩
 replace hst := hst.of2
 refine ws_next (pend' := [(13, U6 z2946), (12, F6 x2957), (11, .pointer (some (eAddr v1659 (z2718.toNat * 1 + 0)))), (10, I6 z2718), (9, v1659), (8, r1_0)]) hst (by kernel_rfl) (pkr z z (fun w hst => z) (pkr z z (fun w hst => x_load z isAgg23 (hst.ol2 hi2961 (by rintro _ rfl; rfl))) (pkr z z (fun w hst => x_index z z underlying44 sizeOf23 hst.sv2 h2959 h2960) (pkr z z (fun w hst => z) (pkr z z (fun w hst => z) (pkr z z (fun w hst => z) pk_nil)))))) ?_
 obtain ⟨t2969, ht2970, hm⟩ := bind_some hm
 refine ws_e2 7 14 (by kernel_rfl) ?_ ?_
 {
 refine nxe [14, 15, 16, 17] (by kernel_rfl) z z ?_
 clear hst
 intro w hst
 obtain ⟨I2972, hI2973, f2974, hst⟩ := hst.own_fix
 replace f1_0 := f1_0.mono (ro_le hI2973)
 replace hI0 := hI0.trans hI2973
 replace hL2723 := hL2723.trans hI2973
 replace hL3069 := hL3069.trans hI2973
 replace hL2951 := hL2951.trans hI2973
 replace hL3061 := hL3061.trans hI2973
 obtain ⟨b2975, w2976, ew2977, eb2978, hst⟩ := hst.lits (E := ty_api_Got) (xs := [t2962]) [[.bool t2962.Has, v2967]] 34 1 z (Reps.cons ⟨_, z, f2974, one_of_sliceV (ro_sliceV f2974)⟩ Reps.nil)
 refine we_run (v := (.slice (some ⟨b2975, 0, none⟩) 1 1)) (w' := w2976) z (x_als (by kernel_rfl) ew2977 eb2978) ?_
 refine ws_next (pend' := [(13, U6 z2946), (12, F6 x2957), (11, .pointer (some (eAddr v1659 (z2718.toNat * 1 + 0)))), (10, I6 z2718), (9, v1659), (8, r1_0)]) hst (by kernel_rfl) (pkr z z (fun w hst => z) (pkr z z (fun w hst => x_load z isAgg23 (hst.ol2 hi2961 (by rintro _ rfl; rfl))) (pkr z z (fun w hst => x_index z z underlying44 sizeOf23 hst.sv2 h2959 h2960) (pkr z z (fun w hst => z) (pkr z z (fun w hst => z) (pkr z z (fun w hst => z) pk_nil)))))) ?_
 refine ws_e1 14 (by kernel_rfl) ?_
 refine nxe [15, 16, 17] (by kernel_rfl) z z ?_
 clear hst
 intro w hst
 refine wec call14 [r1_0, F6 x2957, U6 z2946] z z ?_
 refine (ref11_Get_ref f1_0 hst.to0 ht2970).mono ?_
 rintro _ w2980 ⟨I2981, v2983, rfl, hI2982, f2985, hst⟩
 refine ⟨_, z, ?_⟩
 replace hst := hst.of0
 replace f1_0 := f1_0.mono (ro_le hI2982)
 replace f2974 := f2974.mono (ro_le hI2982)
 replace hI0 := hI0.trans hI2982
 replace hL2723 := hL2723.trans hI2982
 replace hL3069 := hL3069.trans hI2982
 replace hL2951 := hL2951.trans hI2982
 replace hL3061 := hL3061.trans hI2982
 refine ws_next (pend' := []) hst (by kernel_rfl) pk_nil ?_
 refine ws_e1 15 (by kernel_rfl) ?_
 refine nxe [16, 17] (by kernel_rfl) z z ?_
 clear hst
 intro w hst
 obtain ⟨b2987, w2988, ew2989, eb2990, hst⟩ := hst.lits (E := ty_api_Got) (xs := [t2969]) [[.bool t2969.Has, v2983]] 34 1 z (Reps.cons ⟨_, z, f2985, one_of_sliceV (ro_sliceV f2985)⟩ Reps.nil)
 refine we_run (v := (.slice (some ⟨b2987, 0, none⟩) 1 1)) (w' := w2988) z (x_als (by kernel_rfl) ew2989 eb2990) ?_
 refine ws_next (pend' := []) hst (by kernel_rfl) pk_nil ?_
 refine ws_e1 16 (by kernel_rfl) ?_
 refine nxe [17] (by kernel_rfl) z z ?_
 clear hst
 intro w hst
 replace hst := hst.pull1
 obtain ⟨css2992, hq2993, hst⟩ := hst.own_open
 replace hst := hst.pull1
 obtain ⟨css2994, hq2995, hst⟩ := hst.own_open
 obtain ⟨t2996, ht2997, hm⟩ := bind_some hm
 refine wec call12 [(.slice (some ⟨b2975, 0, none⟩) 1 1), (.slice (some ⟨b2987, 0, none⟩) 1 1)] z z ?_
 refine (ref11_SameGots_ref (hst.rdrow1 hq2993) (hst.rdrow0 hq2995) hst.to0 ht2997).mono ?_
 rintro _ w2998 ⟨rfl, hst⟩
 refine ⟨_, z, ?_⟩
 replace hst := hst.of0.pull1.own_close hq2993
 replace hst := hst.pull1.own_close hq2995
 refine ws_next (pend' := []) hst (by kernel_rfl) pk_nil ?_
 refine wsr (.bool (!t2996)) 17 z z z (by kernel_rfl) (fun w hst => z) ?_
 refine ws_nil ?_
 intro w hst
 refine ⟨z, ?_⟩
 replace hst := hst.pull3.pull3.keep2
 obtain rfl := some_inj hm
 exact ⟨_, (!t2996), _, hx3060, (fu 0 p0 z (fu 1 r1_0 z (fu 5 v1659 z (fu 6 (.int .i64 z2718) z (fu 7 (.int .u64 z2946) z (fu 53 (.bool (!t2996)) z z)))))), hL3061, hst⟩
}
 {
 refine nxe [7, 15, 16, 17] (by kernel_rfl) z z ?_
 clear hst
 intro w hst
 refine wec call14 [r1_0, F6 x2957, U6 z2946] z z ?_
 refine (ref11_Get_ref f1_0 hst.to0 ht2970).mono ?_
 rintro _ w3001 ⟨I3002, v3004, rfl, hI3003, f3006, hst⟩
 refine ⟨_, z, ?_⟩
 replace hst := hst.of0
 replace f1_0 := f1_0.mono (ro_le hI3003)
 replace hI0 := hI0.trans hI3003
 replace hL2723 := hL2723.trans hI3003
 replace hL3069 := hL3069.trans hI3003
 replace hL2951 := hL2951.trans hI3003
 replace hL3061 := hL3061.trans hI3003
 refine ws_next (pend' := []) hst (by kernel_rfl) pk_nil ?_
 refine ws_e2 7 15 (by kernel_rfl) ?_ ?_
 {
 refine nxe [15, 16, 17] (by kernel_rfl) z z ?_
 clear hst
 intro w hst
 obtain ⟨I3008, hI3009, f3010, hst⟩ := hst.own_fix
 replace f1_0 := f1_0.mono (ro_le hI3009)
 replace f3006 := f3006.mono (ro_le hI3009)
 replace hI0 := hI0.trans hI3009
 replace hL2723 := hL2723.trans hI3009
 replace hL3069 := hL3069.trans hI3009
 replace hL2951 := hL2951.trans hI3009
 replace hL3061 := hL3061.trans hI3009
 obtain ⟨b3011, w3012, ew3013, eb3014, hst⟩ := hst.lits (E := ty_api_Got) (xs := [t2962]) [[.bool t2962.Has, v2967]] 34 1 z (Reps.cons ⟨_, z, f3010, one_of_sliceV (ro_sliceV f3010)⟩ Reps.nil)
 refine we_run (v := (.slice (some ⟨b3011, 0, none⟩) 1 1)) (w' := w3012) z (x_als (by kernel_rfl) ew3013 eb3014) ?_
 refine ws_next (pend' := []) hst (by kernel_rfl) pk_nil ?_
 refine ws_e1 15 (by kernel_rfl) ?_
 refine nxe [16, 17] (by kernel_rfl) z z ?_
 clear hst
 intro w hst
 obtain ⟨b3017, w3018, ew3019, eb3020, hst⟩ := hst.lits (E := ty_api_Got) (xs := [t2969]) [[.bool t2969.Has, v3004]] 34 1 z (Reps.cons ⟨_, z, f3006, one_of_sliceV (ro_sliceV f3006)⟩ Reps.nil)
 refine we_run (v := (.slice (some ⟨b3017, 0, none⟩) 1 1)) (w' := w3018) z (x_als (by kernel_rfl) ew3019 eb3020) ?_
 refine ws_next (pend' := []) hst (by kernel_rfl) pk_nil ?_
 refine ws_e1 16 (by kernel_rfl) ?_
 refine nxe [17] (by kernel_rfl) z z ?_
 clear hst
 intro w hst
 replace hst := hst.pull1
 obtain ⟨css3022, hq3023, hst⟩ := hst.own_open
 replace hst := hst.pull1
 obtain ⟨css3024, hq3025, hst⟩ := hst.own_open
 obtain ⟨t3026, ht3027, hm⟩ := bind_some hm
 refine wec call12 [(.slice (some ⟨b3011, 0, none⟩) 1 1), (.slice (some ⟨b3017, 0, none⟩) 1 1)] z z ?_
 refine (ref11_SameGots_ref (hst.rdrow1 hq3023) (hst.rdrow0 hq3025) hst.to0 ht3027).mono ?_
 rintro _ w3028 ⟨rfl, hst⟩
 refine ⟨_, z, ?_⟩
 replace hst := hst.of0.pull1.own_close hq3023
 replace hst := hst.pull1.own_close hq3025
 refine ws_next (pend' := []) hst (by kernel_rfl) pk_nil ?_
 refine wsr (.bool (!t3026)) 17 z z z (by kernel_rfl) (fun w hst => z) ?_
 refine ws_nil ?_
 intro w hst
 refine ⟨z, ?_⟩
 replace hst := hst.pull3.pull3.keep2
 obtain rfl := some_inj hm
 exact ⟨_, (!t3026), _, hx3060, (fu 0 p0 z (fu 1 r1_0 z (fu 5 v1659 z (fu 6 (.int .i64 z2718) z (fu 7 (.int .u64 z2946) z (fu 53 (.bool (!t3026)) z z)))))), hL3061, hst⟩
}
 {
 refine nxe [7, 16, 17] (by kernel_rfl) z z ?_
 clear hst
 intro w hst
 obtain ⟨b3032, w3033, ew3034, eb3035, hst⟩ := hst.lits (E := ty_api_Got) (xs := [t2969]) [[.bool t2969.Has, v3004]] 34 1 z (Reps.cons ⟨_, z, f3006, one_of_sliceV (ro_sliceV f3006)⟩ Reps.nil)
 refine we_run (v := (.slice (some ⟨b3032, 0, none⟩) 1 1)) (w' := w3033) z (x_als (by kernel_rfl) ew3034 eb3035) ?_
 refine ws_next (pend' := []) hst (by kernel_rfl) pk_nil ?_
 refine ws_e1 7 (by kernel_rfl) ?_
 refine nxe [16, 17] (by kernel_rfl) z z ?_
 clear hst
 intro w hst
 replace hst := hst.pull1
 obtain ⟨I3038, hI3039, f3040, hst⟩ := hst.own_fix
 replace f1_0 := f1_0.mono (ro_le hI3039)
 replace f3006 := f3006.mono (ro_le hI3039)
 replace hI0 := hI0.trans hI3039
 replace hL2723 := hL2723.trans hI3039
 replace hL3069 := hL3069.trans hI3039
 replace hL2951 := hL2951.trans hI3039
 replace hL3061 := hL3061.trans hI3039
 obtain ⟨b3041, w3042, ew3043, eb3044, hst⟩ := hst.lits (E := ty_api_Got) (xs := [t2962]) [[.bool t2962.Has, v2967]] 34 1 z (Reps.cons ⟨_, z, f3040, one_of_sliceV (ro_sliceV f3040)⟩ Reps.nil)
 refine we_run (v := (.slice (some ⟨b3041, 0, none⟩) 1 1)) (w' := w3042) z (x_als (by kernel_rfl) ew3043 eb3044) ?_
 refine ws_next (pend' := []) hst (by kernel_rfl) pk_nil ?_
 refine ws_e1 16 (by kernel_rfl) ?_
 refine nxe [17] (by kernel_rfl) z z ?_
 clear hst
 intro w hst
 obtain ⟨css3046, hq3047, hst⟩ := hst.own_open
 replace hst := hst.pull1
 obtain ⟨css3048, hq3049, hst⟩ := hst.own_open
 obtain ⟨t3050, ht3051, hm⟩ := bind_some hm
 refine wec call12 [(.slice (some ⟨b3041, 0, none⟩) 1 1), (.slice (some ⟨b3032, 0, none⟩) 1 1)] z z ?_
 refine (ref11_SameGots_ref (hst.rdrow1 hq3047) (hst.rdrow0 hq3049) hst.to0 ht3051).mono ?_
 rintro _ w3052 ⟨rfl, hst⟩
 refine ⟨_, z, ?_⟩
 replace hst := hst.of0.pull1.own_close hq3047
 replace hst := hst.pull1.own_close hq3049
 refine ws_next (pend' := []) hst (by kernel_rfl) pk_nil ?_
 refine wsr (.bool (!t3050)) 17 z z z (by kernel_rfl) (fun w hst => z) ?_
 refine ws_nil ?_
 intro w hst
 refine ⟨z, ?_⟩
 replace hst := hst.pull3.pull3.keep2
 obtain rfl := some_inj hm
 exact ⟨_, (!t3050), _, hx3060, (fu 0 p0 z (fu 1 r1_0 z (fu 5 v1659 z (fu 6 (.int .i64 z2718) z (fu 7 (.int .u64 z2946) z (fu 53 (.bool (!t3050)) z z)))))), hL3061, hst⟩
}
}
}
 {
 clear hst
 rintro _ w3062 ⟨I3056, z3055, σ3057, hm, rfl, hL3058, hst⟩
 dsimp only [law11_told_j3] at hm
 replace f1_0 := f1_0.mono (ro_le hL3058)
 replace hI0 := hI0.trans hL3058
 replace hL2723 := hL2723.trans hL3058
 replace hL3069 := hL3069.trans hL3058
 replace hL2951 := hL2951.trans hL3058
 refine tn ?_
 refine bsplit z3055 (fun hc3063 => ?_) (fun hc3063 => ?_)
 {
 replace hm := bif_t hc3063 hm
 refine wp_ift (cvb hc3063) ?_
 refine wp_seq (wrl (wv (.bool false) z z z (wl_nil (tn (wp_ret (blk_r (then_r (then_r ?_))))))))
 replace hm := inr_up hm hx2954
 refine blk_r (then_r ?_)
 replace hm := inr_up hm hx3068
 refine blk_r (then_r (then_r ?_))
 replace hm := inr_up hm hx2726
 refine blk_r (then_r ?_)
 obtain rfl := some_inj hm
 refine post_ret (vs := [.bool false]) results11 (rvs_cons (rv_tmp z) rvs_nil) ?_
 exact ⟨_, z, hI0, hst.keep1⟩
}
 {
 replace hm := bif_f hc3063 hm
 refine wp_iff (cvb hc3063) ?_
 refine wp_skip (blk_n (tn (wrl ?_)))
 refine wv (.int .u64 z2946) z z z (wv (.int .u64 (u64.wrap (z2946 + (1:Int)))) z z z (wv (.int .u64 (u64.wrap (z2946 + (1:Int)))) z z z (wl_nil (tn ?_))))
 replace hst := hst.pull1.pull1.keep2
 obtain rfl := some_inj hm
 exact ⟨_, Nat.lt_succ_self _, _, (u64.wrap (z2946 + (1:Int))), _, hx2954, (fu 0 p0 z (fu 1 r1_0 z (fu 5 v1659 z (fu 6 (.int .i64 z2718) z (fu 7 (.int .u64 (u64.wrap (z2946 + (1:Int)))) z z))))), hL2951, hst⟩
}
}
}
 {
 replace hm := bif_f hc2956 hm
 refine wp_iff (cvb hc2956) ?_
 refine wp_exit (then_x (then_x ?_))
 replace hm := inr_up hm hx2954
 refine blk_x (tn ?_)
 replace hst := hst.pull1.pull1.keep2
 obtain rfl := some_inj hm
 exact ⟨_, _, hx3068, (fu 0 p0 z (fu 1 r1_0 z (fu 5 v1659 z (fu 6 (.int .i64 z2718) z z)))), hL3069, hst⟩
}
}
 {
 clear hst
 rintro _ w3070 ⟨I3064, σ3065, hm, rfl, hL3066, hst⟩
 dsimp only [law11_told_j1] at hm
 replace f1_0 := f1_0.mono (ro_le hL3066)
 replace hI0 := hI0.trans hL3066
 replace hL2723 := hL2723.trans hL3066
 refine wp_seq (wrl (wv (p0) z z z (wv (v1659) z z z (wv (.int .i64 z2718) z z z ?_))))
 obtain ⟨x3071, hx3072, hm⟩ := bind_some hm
 obtain ⟨h3073, h3074, hi3075⟩ := geto_some hx3072
 refine wv (.pointer (some (eAddr v1659 (z2718.toNat * 1 + 0)))) z z (x_index z z underlying44 sizeOf23 hst.sv1 h3073 h3074) (wv (.float .f64 x3071) z z (x_load z isAgg23 (hst.ol1 hi3075 (by rintro _ rfl; rfl))) ?_)
 obtain ⟨t3076, ht3077, hm⟩ := bind_some hm
 refine wc call23 [p0, F6 x3071] z z z ?_
 refine (mvcc_Store_Versions_ref hst.to1 ht3077).mono ?_
 rintro _ w3078 ⟨v3081, rfl, hst⟩
 refine ⟨_, z, ?_⟩
 replace hst := hst.of2
 refine wv (v3081) z z z (wl_nil (tn (wp_seq (wrl (wv (.int .i64 (0:Int)) z z z (wl_nil (tn ?_)))))))
 obtain ⟨y3152, hm, hx3153⟩ := bind_some hm
 refine wp_cut (fun a w => ∃ (z3149 : Int) (σ3150 : Nat → Value), (law11_told_j4 t3076 z2718) z3149 = some y2725 ∧ a = Fr 128 (upd (upd (upd (upd (upd (upd σ3150 0 (p0)) 1 (r1_0)) 5 (v1659)) 6 (.int .i64 z2718)) 8 (v3081)) 9 (.int .i64 z3149)) ∧ St w0 w I3064 [objO at_mvcc_Store p0 a0, ownS tyF64 v1659 t1654, ownS ty_mvcc_Version v3081 t3076] R) ?_ ?_
 {
 refine wp_seq (wrl (wv (.int .i64 (0:Int)) z z z (wl_nil (tn (wp_block ?_)))))
 obtain ⟨n3124, hm⟩ := loopO_some hm
 refine wp_loop_n (fun n a w => ∃ (z3121 : Int) (z3122 : Int) (σ3123 : Nat → Value), loopN (law11_told_l5 a1 x3071) n (z3121, z3122) = some y3152 ∧ a = Fr 128 (upd (upd (upd (upd (upd (upd (upd σ3123 0 (p0)) 1 (r1_0)) 5 (v1659)) 6 (.int .i64 z2718)) 8 (v3081)) 9 (.int .i64 z3122)) 10 (.int .i64 z3121)) ∧ St w0 w I3064 [ownS ty_mvcc_Version v3081 t3076, objO at_mvcc_Store p0 a0, ownS tyF64 v1659 t1654] R) n3124 ⟨(0:Int), (0:Int), _, hm, (fu 0 p0 z (fu 1 r1_0 z (fu 5 v1659 z (fu 6 (.int .i64 z2718) z (fu 8 v3081 z (fu 9 (.int .i64 (0:Int)) z (fu 10 (.int .i64 (0:Int)) z z))))))), hst⟩ ?_
 rintro n3130 _ w3125 ⟨z3121, z3122, σ3123, hm, rfl, hst⟩
 obtain ⟨n3127, y3128, rfl, hm, hx3129⟩ := loopN_some hm
 dsimp only [law11_told_l5] at hm
 refine wp_seq (wp_seq (wrl (wv (.int .i64 z3121) z z z (wv (r1_0) z z z (wv (.int .i64 ((a1).length : Int)) z z (x_len z underlying26 (ro_sliceV f1_0)) (wv (.bool (decide (z3121 < ((a1).length : Int)))) z z z (wl_nil (tn ?_))))))))
 refine bsplit (decide (z3121 < ((a1).length : Int))) (fun hc3131 => ?_) (fun hc3131 => ?_)
 {
 replace hm := bif_t hc3131 hm
 refine wp_ift (cvb hc3131) ?_
 refine wp_skip (tn (wp_seq (wp_block (wp_seq ?_))))
 refine wp_region_St hst 10 [0, 1, 2, 3, 4, 5, 6, 7, 8, 9] [0, 0, 3, 7, 15, 0, 0, 96, 224, 511] [] z (by kernel_rfl) (by kernel_rfl) Try.mixed (by kernel_rfl) ?_
 refine wsr (r1_0) 0 z z z (by kernel_rfl) (fun w hst => z) (wsr (.int .i64 z3121) 1 z z z (by kernel_rfl) (fun w hst => z) ?_)
 obtain ⟨x3132, hx3133, hm⟩ := bind_some hm
 obtain ⟨h3134, h3135, hi3136⟩ := geto_some hx3133
 refine wsr (.pointer (some (eAddr r1_0 (z3121.toNat * 5 + 0)))) 2 z z z (by kernel_rfl) (fun w hst => x_index z z underlying26 sizeOf67 (ro_sliceV f1_0) h3134 h3135) (wsr (.pointer (some (eAddr r1_0 (z3121.toNat * 5 + 0)))) 3 z z z (by kernel_rfl) (fun w hst => x_field_e z underlying67 z sizeOf23 z) ?_)
 obtain ⟨cs3137, hr3138, hc3139⟩ := Ro.getF f1_0 hi3136
 obtain ⟨v3140, rfl, f3141, -⟩ := hr3138
 refine wsr (.float .f64 x3132.At) 4 z z z (by kernel_rfl) (fun w hst => x_load z isAgg23 ((hc3139 (HL.le.refl _) hst) 0 _ z)) (wsr (v1659) 5 z z z (by kernel_rfl) (fun w hst => z) (wsr (.int .i64 z2718) 6 z z z (by kernel_rfl) (fun w hst => z) (wsr (.pointer (some (eAddr v1659 (z2718.toNat * 1 + 0)))) 7 z z z (by kernel_rfl) (fun w hst => x_index z z underlying44 sizeOf23 hst.sv2 h3073 h3074) (wsr (.float .f64 x3071) 8 z z z (by kernel_rfl) (fun w hst => x_load z isAgg23 (hst.ol2 hi3075 (by rintro _ rfl; rfl))) ?_))))
 refine ws_e1 9 (by kernel_rfl) ?_
 refine nxe [] (by kernel_rfl) z z ?_
 clear hst
 intro w hst
 obtain ⟨t3143, ht3144, hm⟩ := bind_some hm
 refine wec call30 [F6 x3132.At, F6 x3071] z z ?_
 refine (ref01_Same_ref hst.to0 ht3144).mono ?_
 rintro _ w3145 ⟨rfl, hst⟩
 refine ⟨_, z, ?_⟩
 replace hst := hst.of0
 refine ws_next (pend' := []) hst (by kernel_rfl) pk_nil ?_
 refine ws_nil ?_
 intro w hst
 refine tn ?_
 refine bsplit t3143 (fun hc3148 => ?_) (fun hc3148 => ?_)
 {
 replace hm := bif_t hc3148 hm
 refine wp_ift (cvb hc3148) ?_
 refine wrl (wv (.int .i64 z3122) z z z (wv (.int .i64 (i64.wrap (z3122 + (1:Int)))) z z z (wv (.int .i64 (i64.wrap (z3122 + (1:Int)))) z z z (wl_nil (blk_n (tn (wrl (wv (.int .i64 z3121) z z z (wv (.int .i64 (i64.wrap (z3121 + (1:Int)))) z z z (wv (.int .i64 (i64.wrap (z3121 + (1:Int)))) z z z (wl_nil (tn ?_))))))))))))
 replace hst := hst.pull2.pull2.pull2.keep3
 obtain rfl := some_inj hm
 exact ⟨_, Nat.lt_succ_self _, (i64.wrap (z3121 + (1:Int))), (i64.wrap (z3122 + (1:Int))), _, hx3129, (fu 0 p0 z (fu 1 r1_0 z (fu 5 v1659 z (fu 6 (.int .i64 z2718) z (fu 8 v3081 z (fu 9 (.int .i64 (i64.wrap (z3122 + (1:Int)))) z (fu 10 (.int .i64 (i64.wrap (z3121 + (1:Int)))) z z))))))), hst⟩
}
 {
 replace hm := bif_f hc3148 hm
 refine wp_iff (cvb hc3148) ?_
 refine wp_skip (blk_n (tn (wrl ?_)))
 refine wv (.int .i64 z3121) z z z (wv (.int .i64 (i64.wrap (z3121 + (1:Int)))) z z z (wv (.int .i64 (i64.wrap (z3121 + (1:Int)))) z z z (wl_nil (tn ?_))))
 replace hst := hst.pull2.pull2.pull2.keep3
 obtain rfl := some_inj hm
 exact ⟨_, Nat.lt_succ_self _, (i64.wrap (z3121 + (1:Int))), z3122, _, hx3129, (fu 0 p0 z (fu 1 r1_0 z (fu 5 v1659 z (fu 6 (.int .i64 z2718) z (fu 8 v3081 z (fu 9 (.int .i64 z3122) z (fu 10 (.int .i64 (i64.wrap (z3121 + (1:Int)))) z z))))))), hst⟩
}
}
 {
 replace hm := bif_f hc3131 hm
 refine wp_iff (cvb hc3131) ?_
 refine wp_exit (then_x (then_x ?_))
 replace hm := inr_up hm hx3129
 refine blk_x (tn ?_)
 replace hst := hst.pull2.pull2.keep3
 obtain rfl := some_inj hm
 exact ⟨z3122, _, hx3153, (fu 0 p0 z (fu 1 r1_0 z (fu 5 v1659 z (fu 6 (.int .i64 z2718) z (fu 8 v3081 z (fu 9 (.int .i64 z3122) z z)))))), hst⟩
}
}
 {
 clear hst
 rintro _ w3154 ⟨z3149, σ3150, hm, rfl, hst⟩
 dsimp only [law11_told_j4] at hm
 refine wp_seq (wp_seq (wrl (wv (v3081) z z z (wv (.int .i64 ((t3076).length : Int)) z z (x_len z underlying53 hst.sv2) (wv (.int .i64 z3149) z z z (wv (.bool (((t3076).length : Int) != z3149)) z z z (wl_nil (tn ?_))))))))
 refine bsplit (((t3076).length : Int) != z3149) (fun hc3155 => ?_) (fun hc3155 => ?_)
 {
 replace hm := bif_t hc3155 hm
 refine wp_ift (cvb hc3155) ?_
 refine wp_seq (wrl (wv (.bool false) z z z (wl_nil (tn (wp_ret (then_r (blk_r (then_r (then_r ?_)))))))))
 replace hm := inr_up hm hx2726
 refine blk_r (then_r ?_)
 obtain rfl := some_inj hm
 refine post_ret (vs := [.bool false]) results11 (rvs_cons (rv_tmp z) rvs_nil) ?_
 exact ⟨_, z, hI0, hst.keep1⟩
}
 {
 replace hm := bif_f hc3155 hm
 refine wp_iff (cvb hc3155) ?_
 refine wp_skip (tn (wp_seq (wrl ?_)))
 refine wv (.int .i64 (1:Int)) z z z (wl_nil (tn (wp_block ?_)))
 obtain ⟨n3215, hm⟩ := loopO_some hm
 refine wp_loop_n (fun n a w => ∃ (z3213 : Int) (σ3214 : Nat → Value), loopN (law11_told_l6 t3076 z2718) n z3213 = some y2725 ∧ a = Fr 128 (upd (upd (upd (upd (upd (upd σ3214 0 (p0)) 1 (r1_0)) 5 (v1659)) 6 (.int .i64 z2718)) 8 (v3081)) 11 (.int .i64 z3213)) ∧ St w0 w I3064 [objO at_mvcc_Store p0 a0, ownS tyF64 v1659 t1654, ownS ty_mvcc_Version v3081 t3076] R) n3215 ⟨(1:Int), _, hm, (fu 0 p0 z (fu 1 r1_0 z (fu 5 v1659 z (fu 6 (.int .i64 z2718) z (fu 8 v3081 z (fu 11 (.int .i64 (1:Int)) z z)))))), hst⟩ ?_
 rintro n3221 _ w3216 ⟨z3213, σ3214, hm, rfl, hst⟩
 obtain ⟨n3218, y3219, rfl, hm, hx3220⟩ := loopN_some hm
 dsimp only [law11_told_l6] at hm
 refine wp_seq (wp_seq (wrl (wv (.int .i64 z3213) z z z (wv (v3081) z z z (wv (.int .i64 ((t3076).length : Int)) z z (x_len z underlying53 hst.sv2) (wv (.bool (decide (z3213 < ((t3076).length : Int)))) z z z (wl_nil (tn ?_))))))))
 refine bsplit (decide (z3213 < ((t3076).length : Int))) (fun hc3222 => ?_) (fun hc3222 => ?_)
 {
 replace hm := bif_t hc3222 hm
 refine wp_ift (cvb hc3222) ?_
 refine wp_skip (tn (wp_seq (wp_block (wp_seq ?_))))
 replace hst := hst.pull2
 obtain ⟨css3223, hq3224, hst⟩ := hst.own_open
 refine wq_regionS hst Try.mixed (by kernel_rfl) ?_
 refine wq_run (v := v3081) z z (fun w hst => z) ?_
 refine wq_run (v := .int .i64 z3213) z z (fun w hst => z) ?_
 refine wq_run (v := .int .i64 (i64.wrap (z3213 - (1:Int)))) z z (fun w hst => z) ?_
 obtain ⟨x3225, hx3226, hm⟩ := bind_some hm
 obtain ⟨h3227, h3228, hi3229⟩ := geto_some hx3226
 refine wq_run (v := .pointer (some (eAddr v3081 ((i64.wrap (z3213 - (1:Int))).toNat * 4 + 0)))) z z (fun w hst => x_index z z underlying53 sizeOf52 (hst.rsv 0 z hq3224) h3227 h3228) ?_
 refine wq_run (v := .pointer (some (eAddr v3081 ((i64.wrap (z3213 - (1:Int))).toNat * 4 + 0)))) z z (fun w hst => x_field_e z underlying52 z sizeOf24 z) ?_
 obtain ⟨cs3230, hc3232, hr3231⟩ := Reps.get hq3224 hi3229
 obtain ⟨v3233, rfl, f3234, -⟩ := hr3231
 refine wq_run (v := .int .u64 x3225.Epoch) z z (fun w hst => x_load z isAgg24 ((hst.rcell 0 z hc3232) 0 _ z)) ?_
 refine wq_run (v := v3081) z z (fun w hst => z) ?_
 refine wq_run (v := .int .i64 z3213) z z (fun w hst => z) ?_
 obtain ⟨x3236, hx3237, hm⟩ := bind_some hm
 obtain ⟨h3238, h3239, hi3240⟩ := geto_some hx3237
 refine wq_run (v := .pointer (some (eAddr v3081 (z3213.toNat * 4 + 0)))) z z (fun w hst => x_index z z underlying53 sizeOf52 (hst.rsv 0 z hq3224) h3238 h3239) ?_
 refine wq_run (v := .pointer (some (eAddr v3081 (z3213.toNat * 4 + 0)))) z z (fun w hst => x_field_e z underlying52 z sizeOf24 z) ?_
 obtain ⟨cs3241, hc3243, hr3242⟩ := Reps.get hq3224 hi3240
 obtain ⟨v3244, rfl, f3245, -⟩ := hr3242
 refine wq_run (v := .int .u64 x3236.Epoch) z z (fun w hst => x_load z isAgg24 ((hst.rcell 0 z hc3243) 0 _ z)) ?_
 refine wq_run (v := .bool (decide (x3225.Epoch > x3236.Epoch))) z z (fun w hst => z) ?_
 refine wq_run (v := .bool (decide (x3225.Epoch > x3236.Epoch))) z z (fun w hst => z) ?_
 refine bsplit (decide (x3225.Epoch > x3236.Epoch)) (fun hc3247 => ?_) (fun hc3247 => ?_)
 {
 replace hm := bif_t hc3247 hm
 refine wq_off ((wanted_eq z z z (cvb hc3247)).trans z) z ?_
 refine wq_off ((wanted_eq z z z (cvb hc3247)).trans z) z ?_
 refine wq_off ((wanted_eq z z z (cvb hc3247)).trans z) z ?_
 refine wq_off ((wanted_eq z z z (cvb hc3247)).trans z) z ?_
 refine wq_off ((wanted_eq z z z (cvb hc3247)).trans z) z ?_
 refine wq_off ((wanted_eq z z z (cvb hc3247)).trans z) z ?_
 refine wq_off ((wanted_eq z z z (cvb hc3247)).trans z) z ?_
 refine wq_off ((wanted_eq z z z (cvb hc3247)).trans z) z ?_
 refine wq_off ((wanted_eq z z z (cvb hc3247)).trans z) z ?_
 refine wq_off ((wanted_eq z z z (cvb hc3247)).trans z) z ?_
 refine wq_off ((wanted_eq z z z (cvb hc3247)).trans z) z ?_
 refine wq_off ((wanted_eq z z z (cvb hc3247)).trans z) z ?_
 refine wq_off ((wanted_eq z z z (cvb hc3247)).trans z) z ?_
 refine wq_off (wanted_undef z z z z) z ?_
 refine wq_off (wanted_undef z z z z) z ?_
 refine wq_off (wanted_undef z z z z) z ?_
 refine wq_off (wanted_undef z z z z) z ?_
 refine wq_off (wanted_undef z z z z) z ?_
 refine wq_off (wanted_undef z z z z) z ?_
 refine wq_off (wanted_undef z z z z) z ?_
 refine wq_off (wanted_undef z z z z) z ?_
 refine wq_off (wanted_undef z z z z) z ?_
 refine wq_off (wanted_undef z z z z) z ?_
 refine wq_off (wanted_undef z z z z) z ?_
 refine wq_off (wanted_undef z z z z) z ?_
 refine wq_off ((wanted_eq z z z (cvb hc3247)).trans z) z ?_
 refine wq_run (v := .bool true) z z (fun w hst => x_pick_t hc3247 z z) ?_
 refine wq_nil ?_
 intro w hst
 replace hst := hst.own_close hq3224
 refine tn ?_
 refine wp_ift z ?_
 refine wp_seq (wrl (wv (.bool false) z z z (wl_nil (tn (wp_ret (blk_r (then_r (then_r ?_))))))))
 replace hm := inr_up hm hx3220
 refine blk_r (blk_r (then_r (then_r ?_)))
 replace hm := inr_up hm hx2726
 refine blk_r (then_r ?_)
 obtain rfl := some_inj hm
 refine post_ret (vs := [.bool false]) results11 (rvs_cons (rv_tmp z) rvs_nil) ?_
 replace hst := hst.pull1
 exact ⟨_, z, hI0, hst.keep1⟩
}
 {
 replace hm := bif_f hc3247 hm
 refine wq_run (v := v3081) ((wanted_eq z z z (cvb hc3247)).trans z) z (fun w hst => z) ?_
 refine wq_run (v := .int .i64 z3213) ((wanted_eq z z z (cvb hc3247)).trans z) z (fun w hst => z) ?_
 refine wq_run (v := .int .i64 (i64.wrap (z3213 - (1:Int)))) ((wanted_eq z z z (cvb hc3247)).trans z) z (fun w hst => z) ?_
 refine wq_run (v := .pointer (some (eAddr v3081 ((i64.wrap (z3213 - (1:Int))).toNat * 4 + 0)))) ((wanted_eq z z z (cvb hc3247)).trans z) z (fun w hst => x_index z z underlying53 sizeOf52 (hst.rsv 0 z hq3224) h3227 h3228) ?_
 refine wq_run (v := .pointer (some (eAddr v3081 ((i64.wrap (z3213 - (1:Int))).toNat * 4 + 0)))) ((wanted_eq z z z (cvb hc3247)).trans z) z (fun w hst => x_field_e z underlying52 z sizeOf24 z) ?_
 refine wq_run (v := .int .u64 x3225.Epoch) ((wanted_eq z z z (cvb hc3247)).trans z) z (fun w hst => x_load z isAgg24 ((hst.rcell 0 z hc3232) 0 _ z)) ?_
 refine wq_run (v := v3081) ((wanted_eq z z z (cvb hc3247)).trans z) z (fun w hst => z) ?_
 refine wq_run (v := .int .i64 z3213) ((wanted_eq z z z (cvb hc3247)).trans z) z (fun w hst => z) ?_
 refine wq_run (v := .pointer (some (eAddr v3081 (z3213.toNat * 4 + 0)))) ((wanted_eq z z z (cvb hc3247)).trans z) z (fun w hst => x_index z z underlying53 sizeOf52 (hst.rsv 0 z hq3224) h3238 h3239) ?_
 refine wq_run (v := .pointer (some (eAddr v3081 (z3213.toNat * 4 + 0)))) ((wanted_eq z z z (cvb hc3247)).trans z) z (fun w hst => x_field_e z underlying52 z sizeOf24 z) ?_
 refine wq_run (v := .int .u64 x3236.Epoch) ((wanted_eq z z z (cvb hc3247)).trans z) z (fun w hst => x_load z isAgg24 ((hst.rcell 0 z hc3243) 0 _ z)) ?_
 refine wq_run (v := .bool (x3225.Epoch == x3236.Epoch)) ((wanted_eq z z z (cvb hc3247)).trans z) z (fun w hst => z) ?_
 refine wq_run (v := .bool (x3225.Epoch == x3236.Epoch)) ((wanted_eq z z z (cvb hc3247)).trans z) z (fun w hst => z) ?_
 refine bsplit (x3225.Epoch == x3236.Epoch) (fun hc3248 => ?_) (fun hc3248 => ?_)
 {
 replace hm := bif_t hc3248 hm
 refine wq_run (v := v3081) ((wanted_eq z z z (cvb hc3248)).trans z) z (fun w hst => z) ?_
 refine wq_run (v := .int .i64 z3213) ((wanted_eq z z z (cvb hc3248)).trans z) z (fun w hst => z) ?_
 refine wq_run (v := .int .i64 (i64.wrap (z3213 - (1:Int)))) ((wanted_eq z z z (cvb hc3248)).trans z) z (fun w hst => z) ?_
 refine wq_run (v := .pointer (some (eAddr v3081 ((i64.wrap (z3213 - (1:Int))).toNat * 4 + 0)))) ((wanted_eq z z z (cvb hc3248)).trans z) z (fun w hst => x_index z z underlying53 sizeOf52 (hst.rsv 0 z hq3224) h3227 h3228) ?_
 refine wq_run (v := .pointer (some (eAddr v3081 ((i64.wrap (z3213 - (1:Int))).toNat * 4 + 1)))) ((wanted_eq z z z (cvb hc3248)).trans z) z (fun w hst => x_field_e z underlying52 z sizeOf24 z) ?_
 refine wq_run (v := .int .u64 x3225.Index) ((wanted_eq z z z (cvb hc3248)).trans z) z (fun w hst => x_load z isAgg24 ((hst.rcell 0 z hc3232) 1 _ z)) ?_
 refine wq_run (v := v3081) ((wanted_eq z z z (cvb hc3248)).trans z) z (fun w hst => z) ?_
 refine wq_run (v := .int .i64 z3213) ((wanted_eq z z z (cvb hc3248)).trans z) z (fun w hst => z) ?_
 refine wq_run (v := .pointer (some (eAddr v3081 (z3213.toNat * 4 + 0)))) ((wanted_eq z z z (cvb hc3248)).trans z) z (fun w hst => x_index z z underlying53 sizeOf52 (hst.rsv 0 z hq3224) h3238 h3239) ?_
 refine wq_run (v := .pointer (some (eAddr v3081 (z3213.toNat * 4 + 1)))) ((wanted_eq z z z (cvb hc3248)).trans z) z (fun w hst => x_field_e z underlying52 z sizeOf24 z) ?_
 refine wq_run (v := .int .u64 x3236.Index) ((wanted_eq z z z (cvb hc3248)).trans z) z (fun w hst => x_load z isAgg24 ((hst.rcell 0 z hc3243) 1 _ z)) ?_
 refine wq_run (v := .bool (decide (x3225.Index ≥ x3236.Index))) ((wanted_eq z z z (cvb hc3248)).trans z) z (fun w hst => z) ?_
 refine wq_run (v := .bool (decide (x3225.Index ≥ x3236.Index))) ((wanted_eq z z z (cvb hc3247)).trans z) z (fun w hst => x_pick_t hc3248 z z) ?_
 refine wq_run (v := .bool (decide (x3225.Index ≥ x3236.Index))) z z (fun w hst => x_pick_f hc3247 z z) ?_
 refine wq_nil ?_
 intro w hst
 replace hst := hst.own_close hq3224
 refine tn ?_
 refine bsplit (decide (x3225.Index ≥ x3236.Index)) (fun hc3249 => ?_) (fun hc3249 => ?_)
 {
 replace hm := bif_t hc3249 hm
 refine wp_ift (cvb hc3249) ?_
 refine wp_seq (wrl (wv (.bool false) z z z (wl_nil (tn (wp_ret (blk_r (then_r (then_r ?_))))))))
 replace hm := inr_up hm hx3220
 refine blk_r (blk_r (then_r (then_r ?_)))
 replace hm := inr_up hm hx2726
 refine blk_r (then_r ?_)
 obtain rfl := some_inj hm
 refine post_ret (vs := [.bool false]) results11 (rvs_cons (rv_tmp z) rvs_nil) ?_
 replace hst := hst.pull1
 exact ⟨_, z, hI0, hst.keep1⟩
}
 {
 replace hm := bif_f hc3249 hm
 refine wp_iff (cvb hc3249) ?_
 refine wp_skip (blk_n (tn (wrl ?_)))
 refine wv (.int .i64 z3213) z z z (wv (.int .i64 (i64.wrap (z3213 + (1:Int)))) z z z (wv (.int .i64 (i64.wrap (z3213 + (1:Int)))) z z z (wl_nil (tn ?_))))
 replace hst := hst.pull2.pull2.keep3
 obtain rfl := some_inj hm
 exact ⟨_, Nat.lt_succ_self _, (i64.wrap (z3213 + (1:Int))), _, hx3220, (fu 0 p0 z (fu 1 r1_0 z (fu 5 v1659 z (fu 6 (.int .i64 z2718) z (fu 8 v3081 z (fu 11 (.int .i64 (i64.wrap (z3213 + (1:Int)))) z z)))))), hst⟩
}
}
 {
 replace hm := bif_f hc3248 hm
 refine wq_off ((wanted_eq z z z (cvb hc3248)).trans z) z ?_
 refine wq_off ((wanted_eq z z z (cvb hc3248)).trans z) z ?_
 refine wq_off ((wanted_eq z z z (cvb hc3248)).trans z) z ?_
 refine wq_off ((wanted_eq z z z (cvb hc3248)).trans z) z ?_
 refine wq_off ((wanted_eq z z z (cvb hc3248)).trans z) z ?_
 refine wq_off ((wanted_eq z z z (cvb hc3248)).trans z) z ?_
 refine wq_off ((wanted_eq z z z (cvb hc3248)).trans z) z ?_
 refine wq_off ((wanted_eq z z z (cvb hc3248)).trans z) z ?_
 refine wq_off ((wanted_eq z z z (cvb hc3248)).trans z) z ?_
 refine wq_off ((wanted_eq z z z (cvb hc3248)).trans z) z ?_
 refine wq_off ((wanted_eq z z z (cvb hc3248)).trans z) z ?_
 refine wq_off ((wanted_eq z z z (cvb hc3248)).trans z) z ?_
 refine wq_run (v := .bool false) ((wanted_eq z z z (cvb hc3247)).trans z) z (fun w hst => x_pick_f hc3248 z z) ?_
 refine wq_run (v := .bool false) z z (fun w hst => x_pick_f hc3247 z z) ?_
 refine wq_nil ?_
 intro w hst
 replace hst := hst.own_close hq3224
 refine tn ?_
 refine wp_iff z ?_
 refine wp_skip (blk_n (tn (wrl ?_)))
 refine wv (.int .i64 z3213) z z z (wv (.int .i64 (i64.wrap (z3213 + (1:Int)))) z z z (wv (.int .i64 (i64.wrap (z3213 + (1:Int)))) z z z (wl_nil (tn ?_))))
 replace hst := hst.pull2.pull2.keep3
 obtain rfl := some_inj hm
 exact ⟨_, Nat.lt_succ_self _, (i64.wrap (z3213 + (1:Int))), _, hx3220, (fu 0 p0 z (fu 1 r1_0 z (fu 5 v1659 z (fu 6 (.int .i64 z2718) z (fu 8 v3081 z (fu 11 (.int .i64 (i64.wrap (z3213 + (1:Int)))) z z)))))), hst⟩
}
}
}
 {
 replace hm := bif_f hc3222 hm
 refine wp_iff (cvb hc3222) ?_
 refine wp_exit (then_x (then_x ?_))
 replace hm := inr_up hm hx3220
 refine blk_x (blk_n (tn (wrl ?_)))
 refine wv (.int .i64 z2718) z z z (wv (.int .i64 (i64.wrap (z2718 + (1:Int)))) z z z (wv (.int .i64 (i64.wrap (z2718 + (1:Int)))) z z z (wl_nil (tn ?_))))
 replace hst := hst.pull1.pull1.keep2
 obtain rfl := some_inj hm
 exact ⟨_, Nat.lt_succ_self _, _, (i64.wrap (z2718 + (1:Int))), _, hx2726, (fu 0 p0 z (fu 1 r1_0 z (fu 5 v1659 z (fu 6 (.int .i64 (i64.wrap (z2718 + (1:Int)))) z z)))), hL2723, hst⟩
}
}
}
}
}
 {
 replace hm := bif_f hc2728 hm
 refine wp_iff (cvb hc2728) ?_
 refine wp_exit (then_x (then_x ?_))
 replace hm := inr_up hm hx2726
 refine blk_x (tn (wp_seq (wrl ?_)))
 refine wv (.bool true) z z z (wl_nil (tn (wp_ret ?_)))
 obtain rfl := some_inj hm
 refine post_ret (vs := [.bool true]) results11 (rvs_cons (rv_tmp z) rvs_nil) ?_
 exact ⟨_, z, hI0, hst.keep1⟩
}
}
}
}

end Go.Proofs.Ytbdnbohbmgmonaa
