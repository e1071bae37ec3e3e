/- The Go functions refine their models, part 1. -/
import Derived.Test.YtbdnbohbmgmonaaMvccScansR0
set_option linter.unusedVariables false
set_option linter.unusedSimpArgs false
set_option maxRecDepth 100000
set_option maxHeartbeats 4000000
namespace Go.Proofs.Ytbdnbohbmgmonaa
open Go Go.V
open _root_.Go.Proofs.Try IntKind
attribute [local irreducible] wpList Code.wp wpQuiet Calls bodyPost Oper.wp wpS Nx PendOK YieldsIn
theorem law11_awake_ref {w0 w : World} {I : HL} {R : SP}   (hst : St w0 w I [] R) {r : (Bool)} (hm : law11_awake = some r) :
  Calls prog 10 #[] w fun e w' => ∃ (I' : HL), e = .returned (.bool r) ∧ I.le I' ∧ St w0 w' I' [] R := by {
 unfold law11_awake at hm
 refine calls_start (args := []) func10 z ntmps10 (Nat.le_of_ble_eq_true z) ?_
 have hI0 := HL.le.refl I
 refine wp_seq (wrl (wv (.bool false) z z z (wl_nil (tn (wp_seq (wrl ?_))))))
 obtain ⟨t66, ht67, hm⟩ := bind_some hm
 refine wc call21 [] z z z ?_
 refine (mvcc_New_ref hst.to0 ht67).mono ?_
 rintro _ w68 ⟨v71, rfl, hst⟩
 refine ⟨_, z, ?_⟩
 replace hst := hst.of1
 refine wv (v71) z z z (wl_nil (tn (wp_seq (wrl (wv (v71) z z z ?_)))))
 obtain ⟨b73, w74, ew75, eb76, hst⟩ := hst.lits (E := (tyInt .u8)) (xs := [(97:Int)]) [[U1 (97:Int)]] 5 1 z (Reps.cons z Reps.nil)
 refine wl_run (v := (.slice (some ⟨b73, 0, none⟩) 1 1)) (w' := w74) z z (x_als (by kernel_rfl) ew75 eb76) ?_
 obtain ⟨I78, w81, hI79, f80, hr82, hst⟩ := hst.own_mark (P := prog) underlying32 underlying5 (List.cons_ne_nil _ _)
 replace hI0 := hI0.trans hI79
 refine wl_run (v := (.slice (some ⟨b73, 0, none⟩) 1 1)) (w' := w81) z z (x_conv z hr82) ?_
 refine wv (.agg #[U6 (2:Int), Zu, .bool false, (.slice (some ⟨b73, 0, none⟩) 1 1)]) z z (by kernel_rfl) ?_
 replace hst := objO_some hst
 obtain ⟨t84, ht85, hm⟩ := bind_some hm
 refine wc call22 [v71, F6 (4607182418800017408:Nat), .agg #[U6 (2:Int), Zu, .bool false, (.slice (some ⟨b73, 0, none⟩) 1 1)]] z z z ?_
 refine (mvcc_Store_Put_ref (a2 := ({ Epoch := (2:Int), Index := (0:Int), Del := false, Val := [(97:Int)] } : mvcc_Version)) (f80.mono ro_rd) hst.to1 ht85).mono ?_
 rintro _ w86 ⟨I87, rfl, hI88, hst⟩
 refine ⟨_, z, ?_⟩
 replace hst := hst.of1
 replace f80 := f80.mono (ro_le hI88)
 replace hI0 := hI0.trans hI88
 rcases he90 : t84 with _ | y89
 · rw [he90] at hm; cases hm
 rw [he90] at hm hst; dsimp only at hm; replace hst := objO_get hst
 refine wl_nil (tn (wp_seq (wrl (wv (v71) z z z (wv (.agg #[U6 (3:Int), Zu, .bool true, Zs]) z z (by kernel_rfl) ?_)))))
 replace hst := objO_some hst
 have f92 : Ro (tyInt .u8) I87 (.slice none 0 0) [] := ro_nil
 obtain ⟨t93, ht94, hm⟩ := bind_some hm
 refine wc call22 [v71, F6 (4607182418800017408:Nat), .agg #[U6 (3:Int), Zu, .bool true, Zs]] z z z ?_
 refine (mvcc_Store_Put_ref (a2 := ({ Epoch := (3:Int), Index := (0:Int), Del := true, Val := [] } : mvcc_Version)) (f92.mono ro_rd) hst.to1 ht94).mono ?_
 rintro _ w95 ⟨I96, rfl, hI97, hst⟩
 refine ⟨_, z, ?_⟩
 replace hst := hst.of1
 replace f80 := f80.mono (ro_le hI97)
 replace f92 := f92.mono (ro_le hI97)
 replace hI0 := hI0.trans hI97
 rcases he99 : t93 with _ | y98
 · rw [he99] at hm; cases hm
 rw [he99] at hm hst; dsimp only at hm; replace hst := objO_get hst
 refine wl_nil (tn (wp_seq (wrl (wv (v71) z z z ?_))))
 replace hst := objO_some hst
 obtain ⟨t100, ht101, hm⟩ := bind_some hm
 refine wc call13 [v71, F6 (4607182418800017408:Nat), U6 (2:Int)] z z z ?_
 refine (mvcc_Store_Get_ref hst.to1 ht101).mono ?_
 rintro _ w102 ⟨v105, rfl, hst⟩
 refine ⟨_, z, ?_⟩
 replace hst := hst.of2.pull1
 replace hst := objO_get hst
 refine wv (v105) z z (by obtain ⟨_, _, hv_, _⟩ := hst.sv1; rw [hv_]; kernel_rfl) (wv (.string (toStr t100.Val)) z z (x_tostr underlying32 underlying9 underlying5 z hst.src1) (wv (.bool (sEq (toStr t100.Val) (ByteArray.mk #[97]))) z z (by kernel_rfl) (wv (.bool (sEq (toStr t100.Val) (ByteArray.mk #[97]))) z z z ?_)))
 refine bsplit (sEq (toStr t100.Val) (ByteArray.mk #[97])) (fun hc107 => ?_) (fun hc107 => ?_)
 {
 replace hm := bif_t hc107 hm
 refine wv (v71) ((wanted_eq z z z (cvb hc107)).trans z) z z ?_
 replace hst := objO_some hst
 obtain ⟨t108, ht109, hm⟩ := bind_some hm
 refine wl_call ((wanted_eq z z z (cvb hc107)).trans z) z (x_call call13 z (vs := [v71, F6 (4607182418800017408:Nat), U6 (3:Int)]) z) ?_
 refine (mvcc_Store_Get_ref hst.to1 ht109).mono ?_
 rintro _ w110 ⟨v113, rfl, hst⟩
 refine ⟨_, z, ?_⟩
 replace hst := hst.of2.pull1
 replace hst := objO_get hst
 refine wv (.bool t108.Has) ((wanted_eq z z z (cvb hc107)).trans z) z (by obtain ⟨_, _, hv_, _⟩ := hst.sv1; rw [hv_]; kernel_rfl) (wv (.bool (!t108.Has)) ((wanted_eq z z z (cvb hc107)).trans z) z z (wv (.bool (!t108.Has)) z z (x_pick_t hc107 z z) (wv (.bool (!t108.Has)) z z z ?_)))
 refine bsplit (!t108.Has) (fun hc115 => ?_) (fun hc115 => ?_)
 {
 replace hm := bif_t hc115 hm
 refine wv (v71) ((wanted_eq z z z (cvb hc115)).trans z) z z ?_
 replace hst := objO_some hst
 obtain ⟨t116, ht117, hm⟩ := bind_some hm
 refine wl_call ((wanted_eq z z z (cvb hc115)).trans z) z (x_call call25 z (vs := [v71]) z) ?_
 refine (mvcc_Store_Size_ref hst.to1 ht117).mono ?_
 rintro _ w118 ⟨rfl, hst⟩
 refine ⟨_, z, ?_⟩
 replace hst := hst.of1
 replace hst := objO_get hst
 refine wv (.bool (t116 == (2:Int))) ((wanted_eq z z z (cvb hc115)).trans z) z z (wv (.bool (t116 == (2:Int))) z z (x_pick_t hc115 z z) (wv (.bool (t116 == (2:Int))) z z z (wl_nil (tn (wp_ret ?_)))))
 obtain rfl := some_inj hm
 refine post_ret (vs := [.bool (t116 == (2:Int))]) results10 (rvs_cons (rv_tmp z) rvs_nil) ?_
 exact ⟨_, z, hI0, hst.keep0⟩
}
 {
 replace hm := bif_f hc115 hm
 refine wo hc115 z z z z z z (wo hc115 z z z z z z (wo hc115 z z z z z z (wv (.bool false) z z (x_pick_f hc115 z z) (wv (.bool false) z z z (wl_nil (tn (wp_ret ?_)))))))
 obtain rfl := some_inj hm
 refine post_ret (vs := [.bool false]) results10 (rvs_cons (rv_tmp z) rvs_nil) ?_
 exact ⟨_, z, hI0, hst.keep0⟩
}
}
 {
 replace hm := bif_f hc107 hm
 refine wo hc107 z z z z z z (wo hc107 z z z z z z (wo hc107 z z z z z z (wo hc107 z z z z z z (wv (.bool false) z z (x_pick_f hc107 z z) (wv (.bool false) z z z (wz z z z z z z (wz z z z z z z (wz z z z z z z (wv (.bool false) z z (x_pick_f z z z) (wv (.bool false) z z z (wl_nil (tn (wp_ret ?_)))))))))))))
 obtain rfl := some_inj hm
 refine post_ret (vs := [.bool false]) results10 (rvs_cons (rv_tmp z) rvs_nil) ?_
 exact ⟨_, z, hI0, hst.keep0⟩
}
}

theorem number_Back_ref {w0 w : World} {I : HL} {R : SP} {a0 : Int}  (hst : St w0 w I [] R) {r : (Nat)} (hm : number_Back a0 = some r) :
  Calls prog 35 #[U6 a0] w fun e w' => e = .returned (.float .f64 r) ∧ St w0 w' I [] R := by {
 unfold number_Back at hm
 refine calls_start (args := [U6 a0]) func35 z ntmps35 (Nat.le_of_ble_eq_true z) ?_
 refine wp_seq (wrl (wv (.float .f64 (0:Nat)) z z z (wl_nil (tn (wp_seq (wp_seq (wrl (wv (.int .u64 a0) z z z (wv (.int .u64 (iShr .u64 a0 (63:Int))) z z (x_shr (by decide) z z) (wv (.bool ((iShr .u64 a0 (63:Int)) == (1:Int))) z z z (wl_nil (tn ?_))))))))))))
 refine bsplit ((iShr .u64 a0 (63:Int)) == (1:Int)) (fun hc92 => ?_) (fun hc92 => ?_)
 {
 replace hm := bif_t hc92 hm
 refine wp_ift (cvb hc92) ?_
 refine wp_seq (wrl (wv (.int .u64 a0) z z z (wv (.int .u64 (bAndNot .u64 a0 (9223372036854775808:Int))) z z z (wv (.float .f64 (Int.toNat (bAndNot .u64 a0 (9223372036854775808:Int)))) z z (by kernel_rfl) (wv (.float .f64 (Int.toNat (bAndNot .u64 a0 (9223372036854775808:Int)))) z z z (wl_nil (tn (wp_ret (then_r ?_)))))))))
 obtain rfl := some_inj hm
 refine post_ret (vs := [F6 (Int.toNat (bAndNot .u64 a0 (9223372036854775808:Int)))]) results35 (rvs_cons (rv_tmp z) rvs_nil) ?_
 exact ⟨z, hst.keep0⟩
}
 {
 replace hm := bif_f hc92 hm
 refine wp_iff (cvb hc92) ?_
 refine wp_skip (tn (wp_seq (wrl ?_)))
 refine wv (.int .u64 a0) z z z (wv (.int .u64 (bXor .u64 ((18446744073709551615):Int) a0)) z z (by kernel_rfl) (wv (.float .f64 (Int.toNat (bXor .u64 ((18446744073709551615):Int) a0))) z z (by kernel_rfl) (wv (.float .f64 (Int.toNat (bXor .u64 ((18446744073709551615):Int) a0))) z z z (wl_nil (tn (wp_ret ?_))))))
 obtain rfl := some_inj hm
 refine post_ret (vs := [F6 (Int.toNat (bXor .u64 ((18446744073709551615):Int) a0))]) results35 (rvs_cons (rv_tmp z) rvs_nil) ?_
 exact ⟨z, hst.keep0⟩
}
}

theorem mvcc_Store_Scan_ref {w0 w : World} {I : HL} {R : SP} {a0 : (Option mvcc_Store)} {p0 : Value} {a1 : Nat} {a2 : Nat} {a3 : Int} {a4 : Int}  (hst : St w0 w I [objO at_mvcc_Store p0 a0] R) {r : ((List api_Pair))} (hm : mvcc_Store_Scan a0 a1 a2 a3 a4 = some r) :
  Calls prog 16 #[p0, F6 a1, F6 a2, U6 a3, I6 a4] w fun e w' => ∃ (I' : HL) (q0_0 : Value), e = .returned (q0_0) ∧ I.le I' ∧ St w0 w' I' [ownS ty_api_Pair q0_0 r, objO at_mvcc_Store p0 a0] R := by {
 rcases a0 with _ | o0
 {
 obtain ⟨rfl, hst'⟩ := objO_none hst
 clear hst
 have hst := hst'
 clear hst'
 dsimp only [mvcc_Store_Scan] at hm
 refine calls_start (args := [.pointer none, F6 a1, F6 a2, U6 a3, I6 a4]) func16 z ntmps16 (Nat.le_of_ble_eq_true z) ?_
 have hI0 := HL.le.refl I
 refine wp_seq (wrl (wv ((.slice none 0 0)) z z z (wl_nil (tn (wp_seq (wp_seq (wrl (wv (.pointer none) z z z (wv (.bool true) z z (by kernel_rfl) (wl_nil (tn ?_)))))))))))
 refine wp_ift z ?_
 refine wp_seq (wrl (wv ((.slice none 0 0)) z z z (wl_nil (tn (wp_ret (then_r ?_))))))
 replace hst := hst.own_nil ty_api_Pair
 replace hst := hst.objO_nil at_mvcc_Store
 obtain rfl := some_inj hm
 refine post_ret (vs := [Zs]) results16 (rvs_cons (rv_tmp z) rvs_nil) ?_
 replace hst := hst.pull1
 exact ⟨_, Zs, z, hI0, hst.keep2⟩
}
 {
 replace hst := objO_get hst
 dsimp only [mvcc_Store_Scan] at hm
 refine calls_start (args := [p0, F6 a1, F6 a2, U6 a3, I6 a4]) func16 z ntmps16 (Nat.le_of_ble_eq_true z) ?_
 have hI0 := HL.le.refl I
 refine wp_seq (wrl (wv ((.slice none 0 0)) z z z (wl_nil (tn (wp_seq (wp_seq (wrl (wv (p0) z z z ?_))))))))
 obtain ⟨b303, v304, rfl, hst'⟩ := at_mvcc_Store_open hst
 clear hst
 have hst := hst'
 clear hst'
 refine wv (.bool false) z z (by kernel_rfl) (wl_nil (tn ?_))
 refine wp_iff z ?_
 refine wp_skip (tn (wp_seq (wrl ?_)))
 refine wv ((.slice none 0 0)) z z z (wl_nil (tn (wp_seq (wp_seq (wrl (wv (Pt b303 0) z z z (wv (.float .f64 a1) z z z ?_)))))))
 obtain ⟨t307, ht308, hm⟩ := bind_some hm
 refine wc call32 [F6 a1] z z z ?_
 refine (number_Rank_ref hst.to0 ht308).mono ?_
 rintro _ w309 ⟨rfl, hst⟩
 refine ⟨_, z, ?_⟩
 replace hst := hst.of0.pull1.pull1
 replace hst := at_mvcc_Store_close (pv := Pt b303 0) (x := o0) hst z
 replace hst := objO_some hst
 obtain ⟨t312, ht313, hm⟩ := bind_some hm
 refine wc call31 [Pt b303 0, U6 t307] z z z ?_
 refine (mvcc_Store_find_ref hst.to1 ht313).mono ?_
 rintro _ w314 ⟨rfl, hst⟩
 refine ⟨_, z, ?_⟩
 replace hst := hst.of1
 replace hst := objO_get hst
 refine wv (.tuple #[I6 t312.1, .bool t312.2]) z z z (wv (.int .i64 t312.1) z z z (wv (.bool t312.2) z z z (wv (.int .i64 t312.1) z z z (wv (.bool t312.2) z z z (wl_nil (tn (wp_block ?_)))))))
 replace hst := hst.own_nil ty_api_Pair
 obtain ⟨n498, hm⟩ := loopO_some hm
 refine wp_loop_n (fun n a w => ∃ (I496 : HL) (z492 : (List api_Pair)) (z495 : Int) (v493 : Value) (σ497 : Nat → Value), loopN (mvcc_Store_Scan_l0 o0 a2 a4 a3) n (z492, z495) = some r ∧ a = Fr 80 (upd (upd (upd (upd (upd (upd σ497 0 (Pt b303 0)) 2 (.float .f64 a2)) 3 (.int .u64 a3)) 4 (.int .i64 a4)) 11 (v493)) 12 (.int .i64 z495)) ∧ I.le I496 ∧ St w0 w I496 [ownS ty_api_Pair v493 z492, at_mvcc_Store (Pt b303 0) o0] R) n498 ⟨_, [], t312.1, Zs, _, hm, (fu 0 (Pt b303 0) z (fu 2 (.float .f64 a2) z (fu 3 (.int .u64 a3) z (fu 4 (.int .i64 a4) z (fu 11 (.slice none 0 0) z (fu 12 (.int .i64 t312.1) z z)))))), (HL.le.refl _), hst⟩ ?_
 rintro n504 _ w499 ⟨I496, z492, z495, v493, σ497, hm, rfl, hL500, hst⟩
 obtain ⟨n501, y502, rfl, hm, hx503⟩ := loopN_some hm
 dsimp only [mvcc_Store_Scan_l0] at hm
 replace hI0 := hI0.trans hL500
 refine wp_seq (wp_seq ?_)
 replace hst := hst.pull1
 obtain ⟨b505, v506, e508, hst'⟩ := at_mvcc_Store_open hst
 clear hst
 have e508 := ptr_inj e508
 subst e508
 have hst := hst'
 clear hst'
 refine wp_region_St hst 26 [0, 1, 2, 3, 4, 5, 6, 7, 8, 9, 10, 11, 12, 13, 14, 15, 16, 17, 18, 19, 20, 21, 22, 23, 24, 25] [0, 0, 2, 6, 14, 30, 63, 127, 255, 511, 1023, 2047, 255, 8191, 16383, 32767, 255, 65791, 262143, 524287, 1048575, 2097151, 4194303, 2097151, 16777215, 33554431] [] z (by kernel_rfl) (by kernel_rfl) Try.mixed (by kernel_rfl) ?_
 refine wsr (.int .i64 z495) 0 z z z (by kernel_rfl) (fun w hst => z) (wsr (Pt b303 0) 1 z z z (by kernel_rfl) (fun w hst => z) (wsr (Pt b303 0) 2 z z z (by kernel_rfl) (fun w hst => z) (wsr (Pt b303 0) 3 z z z (by kernel_rfl) (fun w hst => x_field z underlying79 z sizeOf77 z) (wsr (v506) 4 z z z (by kernel_rfl) (fun w hst => x_load z isAgg77 (hst.bc0 z)) (wsr (.int .i64 ((o0.rows).length : Int)) 5 z z z (by kernel_rfl) (fun w hst => x_len z underlying77 (hst.nestsv 1 z)) (wsr (.bool (decide (z495 < ((o0.rows).length : Int)))) 6 z z z (by kernel_rfl) (fun w hst => z) (wsr (.bool (decide (z495 < ((o0.rows).length : Int)))) 7 z z z (by kernel_rfl) (fun w hst => z) ?_)))))))
 refine bsplit (decide (z495 < ((o0.rows).length : Int))) (fun hc509 => ?_) (fun hc509 => ?_)
 {
 replace hm := bif_t hc509 hm
 refine ws_q (v := Pt b303 0) 8 [9, 10, 11, 12, 13, 14, 15, 16, 17, 18, 19, 20, 21, 22, 23, 24, 25] (by kernel_rfl) z z (yi_run ((wanted_eq z z z (cvb hc509)).trans z) (fun w hst => z)) (ws_q (v := Pt b303 0) 9 [10, 11, 12, 13, 14, 15, 16, 17, 18, 19, 20, 21, 22, 23, 24, 25] (by kernel_rfl) z z (yi_run ((wanted_eq z z z (cvb hc509)).trans z) (fun w hst => z)) (ws_q (v := Pt b303 0) 10 [11, 12, 13, 14, 15, 16, 17, 18, 19, 20, 21, 22, 23, 24, 25] (by kernel_rfl) z z (yi_run ((wanted_eq z z z (cvb hc509)).trans z) (fun w hst => x_field z underlying79 z sizeOf77 z)) (ws_q (v := v506) 11 [12, 13, 14, 15, 16, 17, 18, 19, 20, 21, 22, 23, 24, 25] (by kernel_rfl) z z (yi_run ((wanted_eq z z z (cvb hc509)).trans z) (fun w hst => x_load z isAgg77 (hst.bc0 z))) (ws_q (v := .int .i64 z495) 12 [13, 14, 15, 16, 17, 18, 19, 20, 21, 22, 23, 24, 25] (by kernel_rfl) z z (yi_run ((wanted_eq z z z (cvb hc509)).trans z) (fun w hst => z)) ?_))))
 obtain ⟨x510, hx511, hm⟩ := bind_some hm
 obtain ⟨h512, h513, hi514⟩ := geto_some hx511
 refine ws_q (v := .pointer (some (eAddr v506 (z495.toNat * 2 + 0)))) 13 [14, 15, 16, 17, 18, 19, 20, 21, 22, 23, 24, 25] (by kernel_rfl) z z (yi_run ((wanted_eq z z z (cvb hc509)).trans z) (fun w hst => x_index z z underlying77 sizeOf76 (hst.nestsv 1 z) h512 h513)) (ws_q (v := .pointer (some (eAddr v506 (z495.toNat * 2 + 0)))) 14 [15, 16, 17, 18, 19, 20, 21, 22, 23, 24, 25] (by kernel_rfl) z z (yi_run ((wanted_eq z z z (cvb hc509)).trans z) (fun w hst => x_field_e z underlying76 z sizeOf24 z)) (ws_q (v := .int .u64 x510.rank) 15 [16, 17, 18, 19, 20, 21, 22, 23, 24, 25] (by kernel_rfl) z z (yi_run ((wanted_eq z z z (cvb hc509)).trans z) (fun w hst => x_load z isAgg24 (hst.nestc (N := nest_mvcc_row) (i := z495.toNat) (o := 0) 1 z hi514 (fun _ => z)))) (ws_q (v := .float .f64 a2) 16 [17, 18, 19, 20, 21, 22, 23, 24, 25] (by kernel_rfl) z z (yi_run ((wanted_eq z z z (cvb hc509)).trans z) (fun w hst => z)) ?_)))
 refine ws_e1 17 (by kernel_rfl) ?_
 refine nxe [18, 19, 20, 21, 22, 23, 24, 25] (by kernel_rfl) z ((wanted_eq z z z (cvb hc509)).trans z) ?_
 clear hst
 intro w hst
 obtain ⟨t515, ht516, hm⟩ := bind_some hm
 refine wec call32 [F6 a2] z z ?_
 refine (number_Rank_ref hst.to0 ht516).mono ?_
 rintro _ w517 ⟨rfl, hst⟩
 refine ⟨_, z, ?_⟩
 replace hst := hst.of0
 refine ws_next (pend' := [(15, U6 x510.rank), (14, .pointer (some (eAddr v506 (z495.toNat * 2 + 0)))), (13, .pointer (some (eAddr v506 (z495.toNat * 2 + 0)))), (12, I6 z495), (11, v506), (10, Pt b303 0), (9, Pt b303 0), (8, Pt b303 0)]) hst (by kernel_rfl) (pk_cons z (yi_run ((wanted_eq z z z (cvb hc509)).trans z) (fun w hst => x_load z isAgg24 (hst.nestc (N := nest_mvcc_row) (i := z495.toNat) (o := 0) 1 z hi514 (fun _ => z)))) (pk_cons z (yi_run ((wanted_eq z z z (cvb hc509)).trans z) (fun w hst => x_field_e z underlying76 z sizeOf24 z)) (pk_cons z (yi_run ((wanted_eq z z z (cvb hc509)).trans z) (fun w hst => x_index z z underlying77 sizeOf76 (hst.nestsv 1 z) h512 h513)) (pk_cons z (yi_run ((wanted_eq z z z (cvb hc509)).trans z) (fun w hst => z)) (pk_cons z (yi_run ((wanted_eq z z z (cvb hc509)).trans z) (fun w hst => x_load z isAgg77 (hst.bc0 z))) (pk_cons z (yi_run ((wanted_eq z z z (cvb hc509)).trans z) (fun w hst => x_field z underlying79 z sizeOf77 z)) (pk_cons z (yi_run ((wanted_eq z z z (cvb hc509)).trans z) (fun w hst => z)) (pk_cons z (yi_run ((wanted_eq z z z (cvb hc509)).trans z) (fun w hst => z)) pk_nil)))))))) ?_
 refine ws_q (v := .bool (decide (x510.rank ≤ t515))) 18 [19, 20, 21, 22, 23, 24, 25] (by kernel_rfl) z z (yi_run ((wanted_eq z z z (cvb hc509)).trans z) (fun w hst => z)) (wsr (.bool (decide (x510.rank ≤ t515))) 19 z z z (by kernel_rfl) (fun w hst => x_pick_t hc509 z z) (wsr (.bool (decide (x510.rank ≤ t515))) 20 z z z (by kernel_rfl) (fun w hst => z) ?_))
 refine bsplit (decide (x510.rank ≤ t515)) (fun hc520 => ?_) (fun hc520 => ?_)
 {
 replace hm := bif_t hc520 hm
 refine ws_q (v := v493) 21 [22, 23, 24, 25] (by kernel_rfl) z z (yi_run ((wanted_eq z z z (cvb hc520)).trans z) (fun w hst => z)) (ws_q (v := .int .i64 ((z492).length : Int)) 22 [23, 24, 25] (by kernel_rfl) z z (yi_run ((wanted_eq z z z (cvb hc520)).trans z) (fun w hst => x_len z underlying40 hst.sv2)) (ws_q (v := .int .i64 a4) 23 [24, 25] (by kernel_rfl) z z (yi_run ((wanted_eq z z z (cvb hc520)).trans z) (fun w hst => z)) (ws_q (v := .bool (decide (((z492).length : Int) < a4))) 24 [25] (by kernel_rfl) z z (yi_run ((wanted_eq z z z (cvb hc520)).trans z) (fun w hst => z)) (wsr (.bool (decide (((z492).length : Int) < a4))) 25 z z z (by kernel_rfl) (fun w hst => x_pick_t hc520 z z) ?_))))
 refine ws_nil ?_
 intro w hst
 refine tn ?_
 refine bsplit (decide (((z492).length : Int) < a4)) (fun hc521 => ?_) (fun hc521 => ?_)
 {
 replace hm := bif_t hc521 hm
 refine wp_ift (cvb hc521) ?_
 refine wp_skip (tn (wp_seq (wp_block (wp_seq (wrl ?_)))))
 refine wv (Pt b303 0) z z z (wv (Pt b303 0) z z z (wv (Pt b303 0) z z (x_field z underlying79 z sizeOf77 z) (wv (v506) z z (x_load z isAgg77 (hst.bc0 z)) (wv (.int .i64 z495) z z z (wv (.pointer (some (eAddr v506 (z495.toNat * 2 + 0)))) z z (x_index z z underlying77 sizeOf76 (hst.nestsv 1 z) h512 h513) (wv (.pointer (some (eAddr v506 (z495.toNat * 2 + 1)))) z z (x_field_e z underlying76 z sizeOf53 z) ?_))))))
 replace hst := hst.pull1
 obtain ⟨v522, hst⟩ := hst.nest_focus hi514
 refine wv (v522) z z (x_load z isAgg53 ((hst.holeall (N := nest_mvcc_row) (i := z495.toNat) 1 z hi514) 1 _ z)) (wv (.int .u64 a3) z z z ?_)
 obtain ⟨css524, hq525, hst⟩ := hst.own_open
 obtain ⟨t526, ht527, hm⟩ := bind_some hm
 refine wc call33 [v522, U6 a3] z z z ?_
 refine (mvcc_read_ref (hst.rdrow0 hq525) hst.to0 ht527).mono ?_
 rintro _ w528 ⟨v531, rfl, hst⟩
 refine ⟨_, z, ?_⟩
 replace hst := hst.of1.pull1.own_close hq525
 obtain ⟨b534, w535, ew536, eb537, hst⟩ := hst.box [.bool false, Zs] 34
 refine wl_run (v := Pt b534 0) (w' := w535) z z (x_al (by kernel_rfl) ew536 eb537) ?_
 obtain ⟨w539, hr540, hst⟩ := hst.bx [.bool t526.Has, v531] sizeOf34 z (oC z (oC (one_of_sliceV hst.sv2) oN)) (by kernel_rfl)
 refine wl_unit z z (x_unit hr540) ?_
 refine wl_nil (tn (wp_seq (wrl (wv (Pt b534 0) z z (x_field z underlying34 z sizeOf4 z) (wv (.bool t526.Has) z z (x_load z isAgg4 (hst.bc0 z)) (wl_nil (tn ?_)))))))
 refine bsplit t526.Has (fun hc541 => ?_) (fun hc541 => ?_)
 {
 replace hm := bif_t hc541 hm
 refine wp_ift (cvb hc541) ?_
 refine wp_region_St hst 16 [0, 1, 2, 3, 4, 5, 6, 7, 8, 9, 10, 11, 12, 13, 14, 15] [0, 0, 2, 6, 14, 0, 62, 126, 254, 510, 0, 1024, 4094, 8190, 16383, 32767] [15] z (by kernel_rfl) (by kernel_rfl) Try.mixed (by kernel_rfl) ?_
 refine wsr (v493) 0 z z z (by kernel_rfl) (fun w hst => z) (wsr (Pt b303 0) 1 z z z (by kernel_rfl) (fun w hst => z) (wsr (Pt b303 0) 2 z z z (by kernel_rfl) (fun w hst => z) (wsr (Pt b303 0) 3 z z z (by kernel_rfl) (fun w hst => x_field z underlying79 z sizeOf77 z) (wsr (v506) 4 z z z (by kernel_rfl) (fun w hst => x_load z isAgg77 (hst.bc4 z)) (wsr (.int .i64 z495) 5 z z z (by kernel_rfl) (fun w hst => z) (wsr (.pointer (some (eAddr v506 (z495.toNat * 2 + 0)))) 6 z z z (by kernel_rfl) (fun w hst => x_index z z underlying77 sizeOf76 (hst.holesv 3 z) h512 h513) (wsr (.pointer (some (eAddr v506 (z495.toNat * 2 + 0)))) 7 z z z (by kernel_rfl) (fun w hst => x_field_e z underlying76 z sizeOf24 z) (wsr (.int .u64 x510.rank) 8 z z z (by kernel_rfl) (fun w hst => x_load z isAgg24 (hst.holec (N := nest_mvcc_row) (i := z495.toNat) (o := 0) 3 z hi514 (fun _ => z))) (wsr (Pt b534 1) 10 z z z (by kernel_rfl) (fun w hst => x_field z underlying34 z sizeOf32 z) (wsr (v531) 11 z z z (by kernel_rfl) (fun w hst => x_load z isAgg32 (hst.bc0 z)) ?_))))))))))
 refine ws_e1 9 (by kernel_rfl) ?_
 refine nxe [12, 13, 14, 15] (by kernel_rfl) z z ?_
 clear hst
 intro w hst
 obtain ⟨t542, ht543, hm⟩ := bind_some hm
 refine wec call35 [U6 x510.rank] z z ?_
 refine (number_Back_ref hst.to0 ht543).mono ?_
 rintro _ w544 ⟨rfl, hst⟩
 refine ⟨_, z, ?_⟩
 replace hst := hst.of0
 refine ws_next (pend' := [(11, v531), (10, Pt b534 1), (0, v493)]) hst (by kernel_rfl) (pkr z z (fun w hst => x_load z isAgg32 (hst.bc0 z)) (pkr z z (fun w hst => x_field z underlying34 z sizeOf32 z) (pkr z z (fun w hst => z) pk_nil))) ?_
 refine wsr (.agg #[F6 t542, v531]) 12 rfl rfl rfl (by kernel_rfl) (fun w hst => by obtain ⟨_, _, hv_, _⟩ := hst.sv2; rw [hv_]; kernel_rfl) ?_
 refine ws_e1 13 (by kernel_rfl) ?_
 refine nxe [14, 15] (by kernel_rfl) z z ?_
 clear hst
 intro w hst
 replace hst := hst.pull2
 obtain ⟨I549, hI550, f551, hst⟩ := hst.own_fix
 replace hI0 := hI0.trans hI550
 replace hL500 := hL500.trans hI550
 obtain ⟨b552, w553, ew554, eb555, hst⟩ := hst.lits (E := ty_api_Pair) (xs := [({ At := t542, Val := t526.Val } : api_Pair)]) [[F6 t542, v531]] 82 1 z (Reps.cons ⟨_, z, f551, one_of_sliceV (ro_sliceV f551)⟩ Reps.nil)
 refine we_run (v := (.slice (some ⟨b552, 0, none⟩) 1 1)) (w' := w553) z (x_als (by kernel_rfl) ew554 eb555) ?_
 refine ws_next (pend' := [(0, v493)]) hst (by kernel_rfl) (pkr z z (fun w hst => z) pk_nil) ?_
 refine ws_e1 14 (by kernel_rfl) ?_
 refine nxe [15] (by kernel_rfl) z z ?_
 clear hst
 intro w hst
 obtain ⟨hg557, hm⟩ := gd_some hm
 replace hst := hst.pull5
 obtain ⟨v558, w559, hr560, hst⟩ := run_append elem_40 underlying40 hst hst.src1 (room_of hg557 z) 40
 refine we_run (v := v558) (w' := w559) z (x_append z z hr560) ?_
 refine ws_next (pend' := []) hst (by kernel_rfl) pk_nil ?_
 refine ws_e1 15 (by kernel_rfl) ?_
 refine nxe [] (by kernel_rfl) z z ?_
 clear hst
 intro w hst
 refine we_run (v := v558) (w' := w) z z ?_
 refine ws_next (pend' := []) hst (by kernel_rfl) pk_nil ?_
 refine ws_nil ?_
 intro w hst
 refine blk_n (tn (wrl ?_))
 refine wv (.int .i64 z495) z z z (wv (.int .i64 (i64.wrap (z495 + (1:Int)))) z z z (wv (.int .i64 (i64.wrap (z495 + (1:Int)))) z z z (wl_nil (tn ?_))))
 replace hst := hst.pull4.pull4
 replace hst := St.nest_close0 (N := nest_mvcc_row) hst hi514
 replace hst := hst.pull4
 replace hst := at_mvcc_Store_close (pv := Pt b303 0) (x := o0) hst z
 replace hst := hst.pull1.keep2
 obtain rfl := some_inj hm
 exact ⟨_, Nat.lt_succ_self _, _, (z492 ++ ([({ At := t542, Val := t526.Val } : api_Pair)])), (i64.wrap (z495 + (1:Int))), v558, _, hx503, (fu 0 (Pt b303 0) z (fu 2 (.float .f64 a2) z (fu 3 (.int .u64 a3) z (fu 4 (.int .i64 a4) z (fu 11 v558 z (fu 12 (.int .i64 (i64.wrap (z495 + (1:Int)))) z z)))))), hL500, hst⟩
}
 {
 replace hm := bif_f hc541 hm
 refine wp_iff (cvb hc541) ?_
 refine wp_skip (blk_n (tn (wrl ?_)))
 refine wv (.int .i64 z495) z z z (wv (.int .i64 (i64.wrap (z495 + (1:Int)))) z z z (wv (.int .i64 (i64.wrap (z495 + (1:Int)))) z z z (wl_nil (tn ?_))))
 replace hst := hst.pull3.pull2
 replace hst := St.nest_close0 (N := nest_mvcc_row) hst hi514
 replace hst := hst.pull3
 replace hst := at_mvcc_Store_close (pv := Pt b303 0) (x := o0) hst z
 replace hst := hst.pull3.keep2
 obtain rfl := some_inj hm
 exact ⟨_, Nat.lt_succ_self _, _, z492, (i64.wrap (z495 + (1:Int))), v493, _, hx503, (fu 0 (Pt b303 0) z (fu 2 (.float .f64 a2) z (fu 3 (.int .u64 a3) z (fu 4 (.int .i64 a4) z (fu 11 v493 z (fu 12 (.int .i64 (i64.wrap (z495 + (1:Int)))) z z)))))), hL500, hst⟩
}
}
 {
 replace hm := bif_f hc521 hm
 refine wp_iff (cvb hc521) ?_
 refine wp_exit (then_x (then_x ?_))
 replace hm := inr_up hm hx503
 refine blk_x (tn (wp_seq (wrl ?_)))
 refine wv (v493) z z z (wv (v493) z z z (wl_nil (tn (wp_ret ?_))))
 replace hst := hst.pull1.pull1
 replace hst := at_mvcc_Store_close (pv := Pt b303 0) (x := o0) hst z
 replace hst := objO_some hst
 obtain rfl := some_inj hm
 refine post_ret (vs := [v493]) results16 (rvs_cons (rv_tmp z) rvs_nil) ?_
 replace hst := hst.pull1
 exact ⟨_, v493, z, hI0, hst.keep2⟩
}
}
 {
 replace hm := bif_f hc520 hm
 refine ws_q (v := undef) 21 [22, 23, 24, 25] (by kernel_rfl) z z (yi_off ((wanted_eq z z z (cvb hc520)).trans z)) (ws_q (v := undef) 22 [23, 24, 25] (by kernel_rfl) z z (yi_off ((wanted_eq z z z (cvb hc520)).trans z)) (ws_q (v := undef) 23 [24, 25] (by kernel_rfl) z z (yi_off ((wanted_eq z z z (cvb hc520)).trans z)) (ws_q (v := undef) 24 [25] (by kernel_rfl) z z (yi_off ((wanted_eq z z z (cvb hc520)).trans z)) (wsr (.bool false) 25 z z z (by kernel_rfl) (fun w hst => x_pick_f hc520 z z) ?_))))
 refine ws_nil ?_
 intro w hst
 refine tn ?_
 refine wp_iff z ?_
 refine wp_exit (then_x (then_x ?_))
 replace hm := inr_up hm hx503
 refine blk_x (tn (wp_seq (wrl ?_)))
 refine wv (v493) z z z (wv (v493) z z z (wl_nil (tn (wp_ret ?_))))
 replace hst := hst.pull1.pull1
 replace hst := at_mvcc_Store_close (pv := Pt b303 0) (x := o0) hst z
 replace hst := objO_some hst
 obtain rfl := some_inj hm
 refine post_ret (vs := [v493]) results16 (rvs_cons (rv_tmp z) rvs_nil) ?_
 replace hst := hst.pull1
 exact ⟨_, v493, z, hI0, hst.keep2⟩
}
}
 {
 replace hm := bif_f hc509 hm
 refine ws_q (v := undef) 8 [9, 10, 11, 12, 13, 14, 15, 16, 17, 18, 19, 20, 21, 22, 23, 24, 25] (by kernel_rfl) z z (yi_off ((wanted_eq z z z (cvb hc509)).trans z)) (ws_q (v := undef) 9 [10, 11, 12, 13, 14, 15, 16, 17, 18, 19, 20, 21, 22, 23, 24, 25] (by kernel_rfl) z z (yi_off ((wanted_eq z z z (cvb hc509)).trans z)) (ws_q (v := undef) 10 [11, 12, 13, 14, 15, 16, 17, 18, 19, 20, 21, 22, 23, 24, 25] (by kernel_rfl) z z (yi_off ((wanted_eq z z z (cvb hc509)).trans z)) (ws_q (v := undef) 11 [12, 13, 14, 15, 16, 17, 18, 19, 20, 21, 22, 23, 24, 25] (by kernel_rfl) z z (yi_off ((wanted_eq z z z (cvb hc509)).trans z)) (ws_q (v := undef) 12 [13, 14, 15, 16, 17, 18, 19, 20, 21, 22, 23, 24, 25] (by kernel_rfl) z z (yi_off ((wanted_eq z z z (cvb hc509)).trans z)) (ws_q (v := undef) 13 [14, 15, 16, 17, 18, 19, 20, 21, 22, 23, 24, 25] (by kernel_rfl) z z (yi_off ((wanted_eq z z z (cvb hc509)).trans z)) (ws_q (v := undef) 14 [15, 16, 17, 18, 19, 20, 21, 22, 23, 24, 25] (by kernel_rfl) z z (yi_off ((wanted_eq z z z (cvb hc509)).trans z)) (ws_q (v := undef) 15 [16, 17, 18, 19, 20, 21, 22, 23, 24, 25] (by kernel_rfl) z z (yi_off ((wanted_eq z z z (cvb hc509)).trans z)) (ws_q (v := undef) 16 [17, 18, 19, 20, 21, 22, 23, 24, 25] (by kernel_rfl) z z (yi_off ((wanted_eq z z z (cvb hc509)).trans z)) (ws_q (v := undef) 17 [18, 19, 20, 21, 22, 23, 24, 25] (by kernel_rfl) z z (yi_off ((wanted_eq z z z (cvb hc509)).trans z)) (ws_q (v := undef) 18 [19, 20, 21, 22, 23, 24, 25] (by kernel_rfl) z z (yi_off ((wanted_eq z z z (cvb hc509)).trans z)) (wsr (.bool false) 19 z z z (by kernel_rfl) (fun w hst => x_pick_f hc509 z z) (wsr (.bool false) 20 z z z (by kernel_rfl) (fun w hst => z) ?_))))))))))))
 refine ws_q (v := undef) 21 [22, 23, 24, 25] (by kernel_rfl) z z (yi_off ((wanted_eq z z z z).trans z)) (ws_q (v := undef) 22 [23, 24, 25] (by kernel_rfl) z z (yi_off ((wanted_eq z z z z).trans z)) (ws_q (v := undef) 23 [24, 25] (by kernel_rfl) z z (yi_off ((wanted_eq z z z z).trans z)) (ws_q (v := undef) 24 [25] (by kernel_rfl) z z (yi_off ((wanted_eq z z z z).trans z)) (wsr (.bool false) 25 z z z (by kernel_rfl) (fun w hst => x_pick_f z z z) ?_))))
 refine ws_nil ?_
 intro w hst
 refine tn ?_
 refine wp_iff z ?_
 refine wp_exit (then_x (then_x ?_))
 replace hm := inr_up hm hx503
 refine blk_x (tn (wp_seq (wrl ?_)))
 refine wv (v493) z z z (wv (v493) z z z (wl_nil (tn (wp_ret ?_))))
 replace hst := hst.pull1.pull1
 replace hst := at_mvcc_Store_close (pv := Pt b303 0) (x := o0) hst z
 replace hst := objO_some hst
 obtain rfl := some_inj hm
 refine post_ret (vs := [v493]) results16 (rvs_cons (rv_tmp z) rvs_nil) ?_
 replace hst := hst.pull1
 exact ⟨_, v493, z, hI0, hst.keep2⟩
}
}
}

theorem ref11_Ats_ref {w0 w : World} {I : HL} {R : SP} {a0 : (List ref11_Version)} {r0_0 : Value} (f0_0 : Rd ty_ref11_Version R I r0_0 a0) (hst : St w0 w I [] R) {r : ((List Nat))} (hm : ref11_Ats a0 = some r) :
  Calls prog 18 #[r0_0] w fun e w' => ∃ (I' : HL) (q0_0 : Value), e = .returned (q0_0) ∧ I.le I' ∧ St w0 w' I' [ownS tyF64 q0_0 r] R := by {
 unfold ref11_Ats at hm
 refine calls_start (args := [r0_0]) func18 z ntmps18 (Nat.le_of_ble_eq_true z) ?_
 have hI0 := HL.le.refl I
 refine wp_seq (wrl (wv ((.slice none 0 0)) z z z (wl_nil (tn (wp_seq (wrl (wv ((.slice none 0 0)) z z z (wl_nil (tn (wp_seq (wp_seq (wrl (wv (.int .i64 (0:Int)) z z z (wl_nil (tn (wp_block ?_))))))))))))))))
 replace hst := hst.own_nil tyF64
 obtain ⟨n1193, hm⟩ := loopO_some hm
 refine wp_loop_n (fun n a w => ∃ (I1191 : HL) (z1187 : (List Nat)) (z1190 : Int) (v1188 : Value) (σ1192 : Nat → Value), loopN (ref11_Ats_l0 a0) n (z1187, z1190) = some r ∧ a = Fr 66 (upd (upd (upd σ1192 0 (r0_0)) 3 (v1188)) 4 (.int .i64 z1190)) ∧ I.le I1191 ∧ St w0 w I1191 [ownS tyF64 v1188 z1187] R) n1193 ⟨_, [], (0:Int), Zs, _, hm, (fu 0 r0_0 z (fu 3 (.slice none 0 0) z (fu 4 (.int .i64 (0:Int)) z z))), (HL.le.refl _), hst⟩ ?_
 rintro n1199 _ w1194 ⟨I1191, z1187, z1190, v1188, σ1192, hm, rfl, hL1195, hst⟩
 obtain ⟨n1196, y1197, rfl, hm, hx1198⟩ := loopN_some hm
 dsimp only [ref11_Ats_l0] at hm
 replace f0_0 := f0_0.mono (rd_le hL1195)
 replace hI0 := hI0.trans hL1195
 refine wp_seq (wp_seq (wrl (wv (.int .i64 z1190) z z z (wv (r0_0) z z z (wv (.int .i64 ((a0).length : Int)) z z (x_len z underlying26 (rd_sliceV f0_0)) (wv (.bool (decide (z1190 < ((a0).length : Int)))) z z z (wl_nil (tn ?_))))))))
 refine bsplit (decide (z1190 < ((a0).length : Int))) (fun hc1200 => ?_) (fun hc1200 => ?_)
 {
 replace hm := bif_t hc1200 hm
 refine wp_ift (cvb hc1200) ?_
 refine wp_skip (tn (wp_seq (wp_block (wp_seq (wrl ?_)))))
 refine wv (.int .i64 (0:Int)) z z z (wl_nil (tn ?_))
 obtain ⟨y1283, hm, hx1284⟩ := bind_some hm
 refine wp_cut (fun a w => ∃ (z1280 : Int) (σ1281 : Nat → Value), (ref11_Ats_j1 z1187 a0 z1190) z1280 = some y1197 ∧ a = Fr 66 (upd (upd (upd (upd σ1281 0 (r0_0)) 3 (v1188)) 4 (.int .i64 z1190)) 5 (.int .i64 z1280)) ∧ St w0 w I1191 [ownS tyF64 v1188 z1187] R) ?_ ?_
 {
 refine wp_block ?_
 obtain ⟨n1250, hm⟩ := loopO_some hm
 refine wp_loop_n (fun n a w => ∃ (z1248 : Int) (σ1249 : Nat → Value), loopN (ref11_Ats_l2 z1187 a0 z1190) n z1248 = some y1283 ∧ a = Fr 66 (upd (upd (upd (upd σ1249 0 (r0_0)) 3 (v1188)) 4 (.int .i64 z1190)) 5 (.int .i64 z1248)) ∧ St w0 w I1191 [ownS tyF64 v1188 z1187] R) n1250 ⟨(0:Int), _, hm, (fu 0 r0_0 z (fu 3 v1188 z (fu 4 (.int .i64 z1190) z (fu 5 (.int .i64 (0:Int)) z z)))), hst⟩ ?_
 rintro n1256 _ w1251 ⟨z1248, σ1249, hm, rfl, hst⟩
 obtain ⟨n1253, y1254, rfl, hm, hx1255⟩ := loopN_some hm
 dsimp only [ref11_Ats_l2] at hm
 refine wp_seq (wp_seq ?_)
 refine wp_region_St hst 16 [0, 1, 2, 3, 4, 5, 6, 7, 8, 9, 10, 11, 12, 13, 14, 15] [0, 0, 2, 7, 15, 31, 31, 127, 255, 31, 31, 1567, 3615, 7711, 16383, 32767] [] z (by kernel_rfl) (by kernel_rfl) Try.mixed (by kernel_rfl) ?_
 refine wsr (.int .i64 z1248) 0 z z z (by kernel_rfl) (fun w hst => z) (wsr (v1188) 1 z z z (by kernel_rfl) (fun w hst => z) (wsr (.int .i64 ((z1187).length : Int)) 2 z z z (by kernel_rfl) (fun w hst => x_len z underlying44 hst.sv0) (wsr (.bool (decide (z1248 < ((z1187).length : Int)))) 3 z z z (by kernel_rfl) (fun w hst => z) (wsr (.bool (decide (z1248 < ((z1187).length : Int)))) 4 z z z (by kernel_rfl) (fun w hst => z) ?_))))
 refine bsplit (decide (z1248 < ((z1187).length : Int))) (fun hc1257 => ?_) (fun hc1257 => ?_)
 {
 replace hm := bif_t hc1257 hm
 refine ws_q (v := v1188) 5 [6, 7, 8, 9, 10, 11, 12, 13, 14, 15] (by kernel_rfl) z z (yi_run ((wanted_eq z z z (cvb hc1257)).trans z) (fun w hst => z)) (ws_q (v := .int .i64 z1248) 6 [7, 8, 9, 10, 11, 12, 13, 14, 15] (by kernel_rfl) z z (yi_run ((wanted_eq z z z (cvb hc1257)).trans z) (fun w hst => z)) ?_)
 obtain ⟨x1258, hx1259, hm⟩ := bind_some hm
 obtain ⟨h1260, h1261, hi1262⟩ := geto_some hx1259
 refine ws_q (v := .pointer (some (eAddr v1188 (z1248.toNat * 1 + 0)))) 7 [8, 9, 10, 11, 12, 13, 14, 15] (by kernel_rfl) z z (yi_run ((wanted_eq z z z (cvb hc1257)).trans z) (fun w hst => x_index z z underlying44 sizeOf23 hst.sv0 h1260 h1261)) (ws_q (v := .float .f64 x1258) 8 [9, 10, 11, 12, 13, 14, 15] (by kernel_rfl) z z (yi_run ((wanted_eq z z z (cvb hc1257)).trans z) (fun w hst => x_load z isAgg23 (hst.ol0 hi1262 (by rintro _ rfl; rfl)))) (ws_q (v := r0_0) 9 [10, 11, 12, 13, 14, 15] (by kernel_rfl) z z (yi_run ((wanted_eq z z z (cvb hc1257)).trans z) (fun w hst => z)) (ws_q (v := .int .i64 z1190) 10 [11, 12, 13, 14, 15] (by kernel_rfl) z z (yi_run ((wanted_eq z z z (cvb hc1257)).trans z) (fun w hst => z)) ?_)))
 obtain ⟨x1263, hx1264, hm⟩ := bind_some hm
 obtain ⟨h1265, h1266, hi1267⟩ := geto_some hx1264
 refine ws_q (v := .pointer (some (eAddr r0_0 (z1190.toNat * 5 + 0)))) 11 [12, 13, 14, 15] (by kernel_rfl) z z (yi_run ((wanted_eq z z z (cvb hc1257)).trans z) (fun w hst => x_index z z underlying26 sizeOf67 (rd_sliceV f0_0) h1265 h1266)) (ws_q (v := .pointer (some (eAddr r0_0 (z1190.toNat * 5 + 0)))) 12 [13, 14, 15] (by kernel_rfl) z z (yi_run ((wanted_eq z z z (cvb hc1257)).trans z) (fun w hst => x_field_e z underlying67 z sizeOf23 z)) ?_)
 obtain ⟨cs1268, hr1269, hc1270⟩ := Rd.getF f0_0 hi1267
 obtain ⟨v1271, rfl, f1272, -⟩ := hr1269
 refine ws_q (v := .float .f64 x1263.At) 13 [14, 15] (by kernel_rfl) z z (yi_run ((wanted_eq z z z (cvb hc1257)).trans z) (fun w hst => x_load z isAgg23 ((hc1270 (HL.le.refl _) hst) 0 _ z))) ?_
 refine ws_e1 14 (by kernel_rfl) ?_
 refine nxe [15] (by kernel_rfl) z ((wanted_eq z z z (cvb hc1257)).trans z) ?_
 clear hst
 intro w hst
 obtain ⟨t1274, ht1275, hm⟩ := bind_some hm
 refine wec call37 [F6 x1258, F6 x1263.At] z z ?_
 refine (ref01_Ahead_ref hst.to0 ht1275).mono ?_
 rintro _ w1276 ⟨rfl, hst⟩
 refine ⟨_, z, ?_⟩
 replace hst := hst.of0
 refine ws_next (pend' := []) hst (by kernel_rfl) pk_nil ?_
 refine wsr (.bool t1274) 15 z z z (by kernel_rfl) (fun w hst => x_pick_t hc1257 z z) ?_
 refine ws_nil ?_
 intro w hst
 refine tn ?_
 refine bsplit t1274 (fun hc1279 => ?_) (fun hc1279 => ?_)
 {
 replace hm := bif_t hc1279 hm
 refine wp_ift (cvb hc1279) ?_
 refine wp_skip (tn (wp_block (wrl ?_)))
 refine wv (.int .i64 z1248) z z z (wv (.int .i64 (i64.wrap (z1248 + (1:Int)))) z z z (wv (.int .i64 (i64.wrap (z1248 + (1:Int)))) z z z (wl_nil (blk_n (tn ?_)))))
 replace hst := hst.keep1
 obtain rfl := some_inj hm
 exact ⟨_, Nat.lt_succ_self _, (i64.wrap (z1248 + (1:Int))), _, hx1255, (fu 0 r0_0 z (fu 3 v1188 z (fu 4 (.int .i64 z1190) z (fu 5 (.int .i64 (i64.wrap (z1248 + (1:Int)))) z z)))), hst⟩
}
 {
 replace hm := bif_f hc1279 hm
 refine wp_iff (cvb hc1279) ?_
 refine wp_exit (then_x (then_x ?_))
 replace hm := inr_up hm hx1255
 refine blk_x (tn ?_)
 replace hst := hst.keep1
 obtain rfl := some_inj hm
 exact ⟨z1248, _, hx1284, (fu 0 r0_0 z (fu 3 v1188 z (fu 4 (.int .i64 z1190) z (fu 5 (.int .i64 z1248) z z)))), hst⟩
}
}
 {
 replace hm := bif_f hc1257 hm
 refine ws_q (v := undef) 5 [6, 7, 8, 9, 10, 11, 12, 13, 14, 15] (by kernel_rfl) z z (yi_off ((wanted_eq z z z (cvb hc1257)).trans z)) (ws_q (v := undef) 6 [7, 8, 9, 10, 11, 12, 13, 14, 15] (by kernel_rfl) z z (yi_off ((wanted_eq z z z (cvb hc1257)).trans z)) (ws_q (v := undef) 7 [8, 9, 10, 11, 12, 13, 14, 15] (by kernel_rfl) z z (yi_off ((wanted_eq z z z (cvb hc1257)).trans z)) (ws_q (v := undef) 8 [9, 10, 11, 12, 13, 14, 15] (by kernel_rfl) z z (yi_off ((wanted_eq z z z (cvb hc1257)).trans z)) (ws_q (v := undef) 9 [10, 11, 12, 13, 14, 15] (by kernel_rfl) z z (yi_off ((wanted_eq z z z (cvb hc1257)).trans z)) (ws_q (v := undef) 10 [11, 12, 13, 14, 15] (by kernel_rfl) z z (yi_off ((wanted_eq z z z (cvb hc1257)).trans z)) (ws_q (v := undef) 11 [12, 13, 14, 15] (by kernel_rfl) z z (yi_off ((wanted_eq z z z (cvb hc1257)).trans z)) (ws_q (v := undef) 12 [13, 14, 15] (by kernel_rfl) z z (yi_off ((wanted_eq z z z (cvb hc1257)).trans z)) (ws_q (v := undef) 13 [14, 15] (by kernel_rfl) z z (yi_off ((wanted_eq z z z (cvb hc1257)).trans z)) (ws_q (v := undef) 14 [15] (by kernel_rfl) z z (yi_off ((wanted_eq z z z (cvb hc1257)).trans z)) (wsr (.bool false) 15 z z z (by kernel_rfl) (fun w hst => x_pick_f hc1257 z z) ?_))))))))))
 refine ws_nil ?_
 intro w hst
 refine tn ?_
 refine wp_iff z ?_
 refine wp_exit (then_x (then_x ?_))
 replace hm := inr_up hm hx1255
 refine blk_x (tn ?_)
 replace hst := hst.keep1
 obtain rfl := some_inj hm
 exact ⟨z1248, _, hx1284, (fu 0 r0_0 z (fu 3 v1188 z (fu 4 (.int .i64 z1190) z (fu 5 (.int .i64 z1248) z z)))), hst⟩
}
}
 {
 clear hst
 rintro _ w1285 ⟨z1280, σ1281, hm, rfl, hst⟩
 dsimp only [ref11_Ats_j1] at hm
 refine wp_seq (wp_seq ?_)
 refine wp_region_St hst 16 [0, 1, 2, 3, 4, 5, 6, 7, 8, 9, 10, 11, 12, 13, 14, 15] [0, 0, 2, 7, 15, 31, 31, 127, 255, 31, 31, 1567, 3615, 7711, 16383, 32767] [] z (by kernel_rfl) (by kernel_rfl) Try.mixed (by kernel_rfl) ?_
 refine wsr (.int .i64 z1280) 0 z z z (by kernel_rfl) (fun w hst => z) (wsr (v1188) 1 z z z (by kernel_rfl) (fun w hst => z) (wsr (.int .i64 ((z1187).length : Int)) 2 z z z (by kernel_rfl) (fun w hst => x_len z underlying44 hst.sv0) (wsr (.bool (decide (z1280 < ((z1187).length : Int)))) 3 z z z (by kernel_rfl) (fun w hst => z) (wsr (.bool (decide (z1280 < ((z1187).length : Int)))) 4 z z z (by kernel_rfl) (fun w hst => z) ?_))))
 refine bsplit (decide (z1280 < ((z1187).length : Int))) (fun hc1286 => ?_) (fun hc1286 => ?_)
 {
 replace hm := bif_t hc1286 hm
 refine ws_q (v := v1188) 5 [6, 7, 8, 9, 10, 11, 12, 13, 14, 15] (by kernel_rfl) z z (yi_run ((wanted_eq z z z (cvb hc1286)).trans z) (fun w hst => z)) (ws_q (v := .int .i64 z1280) 6 [7, 8, 9, 10, 11, 12, 13, 14, 15] (by kernel_rfl) z z (yi_run ((wanted_eq z z z (cvb hc1286)).trans z) (fun w hst => z)) ?_)
 obtain ⟨x1287, hx1288, hm⟩ := bind_some hm
 obtain ⟨h1289, h1290, hi1291⟩ := geto_some hx1288
 refine ws_q (v := .pointer (some (eAddr v1188 (z1280.toNat * 1 + 0)))) 7 [8, 9, 10, 11, 12, 13, 14, 15] (by kernel_rfl) z z (yi_run ((wanted_eq z z z (cvb hc1286)).trans z) (fun w hst => x_index z z underlying44 sizeOf23 hst.sv0 h1289 h1290)) (ws_q (v := .float .f64 x1287) 8 [9, 10, 11, 12, 13, 14, 15] (by kernel_rfl) z z (yi_run ((wanted_eq z z z (cvb hc1286)).trans z) (fun w hst => x_load z isAgg23 (hst.ol0 hi1291 (by rintro _ rfl; rfl)))) (ws_q (v := r0_0) 9 [10, 11, 12, 13, 14, 15] (by kernel_rfl) z z (yi_run ((wanted_eq z z z (cvb hc1286)).trans z) (fun w hst => z)) (ws_q (v := .int .i64 z1190) 10 [11, 12, 13, 14, 15] (by kernel_rfl) z z (yi_run ((wanted_eq z z z (cvb hc1286)).trans z) (fun w hst => z)) ?_)))
 obtain ⟨x1292, hx1293, hm⟩ := bind_some hm
 obtain ⟨h1294, h1295, hi1296⟩ := geto_some hx1293
 refine ws_q (v := .pointer (some (eAddr r0_0 (z1190.toNat * 5 + 0)))) 11 [12, 13, 14, 15] (by kernel_rfl) z z (yi_run ((wanted_eq z z z (cvb hc1286)).trans z) (fun w hst => x_index z z underlying26 sizeOf67 (rd_sliceV f0_0) h1294 h1295)) (ws_q (v := .pointer (some (eAddr r0_0 (z1190.toNat * 5 + 0)))) 12 [13, 14, 15] (by kernel_rfl) z z (yi_run ((wanted_eq z z z (cvb hc1286)).trans z) (fun w hst => x_field_e z underlying67 z sizeOf23 z)) ?_)
 obtain ⟨cs1297, hr1298, hc1299⟩ := Rd.getF f0_0 hi1296
 obtain ⟨v1300, rfl, f1301, -⟩ := hr1298
 refine ws_q (v := .float .f64 x1292.At) 13 [14, 15] (by kernel_rfl) z z (yi_run ((wanted_eq z z z (cvb hc1286)).trans z) (fun w hst => x_load z isAgg23 ((hc1299 (HL.le.refl _) hst) 0 _ z))) ?_
 refine ws_e1 14 (by kernel_rfl) ?_
 refine nxe [15] (by kernel_rfl) z ((wanted_eq z z z (cvb hc1286)).trans z) ?_
 clear hst
 intro w hst
 obtain ⟨t1303, ht1304, hm⟩ := bind_some hm
 refine wec call30 [F6 x1287, F6 x1292.At] z z ?_
 refine (ref01_Same_ref hst.to0 ht1304).mono ?_
 rintro _ w1305 ⟨rfl, hst⟩
 refine ⟨_, z, ?_⟩
 replace hst := hst.of0
 refine ws_next (pend' := []) hst (by kernel_rfl) pk_nil ?_
 refine wsr (.bool t1303) 15 z z z (by kernel_rfl) (fun w hst => x_pick_t hc1286 z z) ?_
 refine ws_nil ?_
 intro w hst
 refine tn ?_
 refine bsplit t1303 (fun hc1308 => ?_) (fun hc1308 => ?_)
 {
 replace hm := bif_t hc1308 hm
 refine wp_ift (cvb hc1308) ?_
 refine wp_exit (then_x (blk_x (tn (wrl ?_))))
 refine wv (.int .i64 z1190) z z z (wv (.int .i64 (i64.wrap (z1190 + (1:Int)))) z z z (wv (.int .i64 (i64.wrap (z1190 + (1:Int)))) z z z (wl_nil (tn ?_))))
 replace hst := hst.keep1
 obtain rfl := some_inj hm
 exact ⟨_, Nat.lt_succ_self _, _, z1187, (i64.wrap (z1190 + (1:Int))), v1188, _, hx1198, (fu 0 r0_0 z (fu 3 v1188 z (fu 4 (.int .i64 (i64.wrap (z1190 + (1:Int)))) z z))), hL1195, hst⟩
}
 {
 replace hm := bif_f hc1308 hm
 refine wp_iff (cvb hc1308) ?_
 refine wp_skip (tn (wp_seq (wrl ?_)))
 refine wv ((.slice none 0 0)) z z z (wl_nil (tn (wp_seq (wrl (wv ((.slice none 0 0)) z z z (wv (v1188) z z z (wv (.int .i64 z1280) z z z ?_)))))))
 obtain ⟨I1310, hI1311, f1312, hst⟩ := hst.own_fix
 replace f0_0 := f0_0.mono (rd_le hI1311)
 replace f1301 := f1301.mono (rd_le hI1311)
 replace hI0 := hI0.trans hI1311
 replace hL1195 := hL1195.trans hI1311
 obtain ⟨hg1313, hm⟩ := gd_some hm
 obtain ⟨h1314, h1315, h1316⟩ := fits_of hg1313
 have f1318 : Ro tyF64 I1310 (slcV 1 v1188 (0:Int).toNat z1280.toNat) (subs z1187 (0:Int) z1280) := Ro.part f1312 h1315 h1316 h1314
 refine wv ((slcV 1 v1188 (0:Int).toNat z1280.toNat)) z z (x_slice underlying44 sizeOf23 z (ro_sliceV f1312) h1314 h1315 h1316 .i64 .i64 (.inr ⟨z, z⟩) (.inl z)) ?_
 replace hst := hst.own_nil tyF64
 obtain ⟨hg1319, hm⟩ := gd_some hm
 obtain ⟨v1320, w1321, hr1322, hst⟩ := run_append elem_44 underlying44 hst (Src.of_ro hst f1318) (room_of hg1319 z) 44
 replace hst := St.nil_app hst
 refine wl_run (v := v1320) (w' := w1321) z z (x_append z z hr1322) ?_
 refine wv (v1320) z z z (wl_nil (tn (wp_seq (wrl (wv (v1320) z z z (wv (r0_0) z z z (wv (.int .i64 z1190) z z z (wv (.pointer (some (eAddr r0_0 (z1190.toNat * 5 + 0)))) z z (x_index z z underlying26 sizeOf67 (rd_sliceV f0_0) h1294 h1295) (wv (.pointer (some (eAddr r0_0 (z1190.toNat * 5 + 0)))) z z (x_field_e z underlying67 z sizeOf23 z) ?_)))))))))
 obtain ⟨cs1324, hr1325, hc1326⟩ := Rd.getF f0_0 hi1296
 obtain ⟨v1327, rfl, f1328, -⟩ := hr1325
 refine wv (.float .f64 x1292.At) z z (x_load z isAgg23 ((hc1326 (HL.le.refl _) hst) 0 _ z)) ?_
 obtain ⟨b1330, w1331, ew1332, eb1333, hst⟩ := hst.lits (E := tyF64) (xs := [x1292.At]) [[F6 x1292.At]] 23 1 z (Reps.cons z Reps.nil)
 refine wl_run (v := (.slice (some ⟨b1330, 0, none⟩) 1 1)) (w' := w1331) z z (x_als (by kernel_rfl) ew1332 eb1333) ?_
 obtain ⟨hg1335, hm⟩ := gd_some hm
 replace hst := hst.pull1
 obtain ⟨v1336, w1337, hr1338, hst⟩ := run_append elem_44 underlying44 hst hst.src1 (room_of hg1335 z) 44
 refine wl_run (v := v1336) (w' := w1337) z z (x_append z z hr1338) ?_
 refine wv (v1336) z z z (wl_nil (tn (wrl (wv (v1336) z z z (wv (v1188) z z z (wv (.int .i64 z1280) z z z ?_))))))
 obtain ⟨hg1340, hm⟩ := gd_some hm
 obtain ⟨h1341, h1342, h1343⟩ := fits_of hg1340
 have f1345 : Ro tyF64 I1310 (slcV 1 v1188 z1280.toNat (((z1187).length : Nat) : Int).toNat) (subs z1187 z1280 (((z1187).length : Nat) : Int)) := Ro.part f1312 h1342 h1343 h1341
 refine wv ((slcV 1 v1188 z1280.toNat (((z1187).length : Nat) : Int).toNat)) z z (x_slice underlying44 sizeOf23 z (ro_sliceV f1312) h1341 h1342 h1343 .i64 .i64 (.inl z) (.inr ⟨z, z⟩)) ?_
 obtain ⟨hg1346, hm⟩ := gd_some hm
 obtain ⟨v1347, w1348, hr1349, hst⟩ := run_append elem_44 underlying44 hst (Src.of_ro hst f1345) (room_of hg1346 z) 44
 refine wl_run (v := v1347) (w' := w1348) z z (x_append z z hr1349) ?_
 refine wv (v1347) z z z (wl_nil (blk_n (tn (wrl (wv (.int .i64 z1190) z z z (wv (.int .i64 (i64.wrap (z1190 + (1:Int)))) z z z (wv (.int .i64 (i64.wrap (z1190 + (1:Int)))) z z z (wl_nil (tn ?_)))))))))
 replace hst := hst.keep1
 obtain rfl := some_inj hm
 exact ⟨_, Nat.lt_succ_self _, _, (((subs z1187 (0:Int) z1280) ++ ([x1292.At])) ++ (subs z1187 z1280 (((z1187).length : Nat) : Int))), (i64.wrap (z1190 + (1:Int))), v1347, _, hx1198, (fu 0 r0_0 z (fu 3 v1347 z (fu 4 (.int .i64 (i64.wrap (z1190 + (1:Int)))) z z))), hL1195, hst⟩
}
}
 {
 replace hm := bif_f hc1286 hm
 refine ws_q (v := undef) 5 [6, 7, 8, 9, 10, 11, 12, 13, 14, 15] (by kernel_rfl) z z (yi_off ((wanted_eq z z z (cvb hc1286)).trans z)) (ws_q (v := undef) 6 [7, 8, 9, 10, 11, 12, 13, 14, 15] (by kernel_rfl) z z (yi_off ((wanted_eq z z z (cvb hc1286)).trans z)) (ws_q (v := undef) 7 [8, 9, 10, 11, 12, 13, 14, 15] (by kernel_rfl) z z (yi_off ((wanted_eq z z z (cvb hc1286)).trans z)) (ws_q (v := undef) 8 [9, 10, 11, 12, 13, 14, 15] (by kernel_rfl) z z (yi_off ((wanted_eq z z z (cvb hc1286)).trans z)) (ws_q (v := undef) 9 [10, 11, 12, 13, 14, 15] (by kernel_rfl) z z (yi_off ((wanted_eq z z z (cvb hc1286)).trans z)) (ws_q (v := undef) 10 [11, 12, 13, 14, 15] (by kernel_rfl) z z (yi_off ((wanted_eq z z z (cvb hc1286)).trans z)) (ws_q (v := undef) 11 [12, 13, 14, 15] (by kernel_rfl) z z (yi_off ((wanted_eq z z z (cvb hc1286)).trans z)) (ws_q (v := undef) 12 [13, 14, 15] (by kernel_rfl) z z (yi_off ((wanted_eq z z z (cvb hc1286)).trans z)) (ws_q (v := undef) 13 [14, 15] (by kernel_rfl) z z (yi_off ((wanted_eq z z z (cvb hc1286)).trans z)) (ws_q (v := undef) 14 [15] (by kernel_rfl) z z (yi_off ((wanted_eq z z z (cvb hc1286)).trans z)) (wsr (.bool false) 15 z z z (by kernel_rfl) (fun w hst => x_pick_f hc1286 z z) ?_))))))))))
 refine ws_nil ?_
 intro w hst
 refine tn ?_
 refine wp_iff z ?_
 refine wp_skip (tn (wp_seq (wrl ?_)))
 refine wv ((.slice none 0 0)) z z z (wl_nil (tn (wp_seq (wrl (wv ((.slice none 0 0)) z z z (wv (v1188) z z z (wv (.int .i64 z1280) z z z ?_)))))))
 obtain ⟨I1352, hI1353, f1354, hst⟩ := hst.own_fix
 replace f0_0 := f0_0.mono (rd_le hI1353)
 replace hI0 := hI0.trans hI1353
 replace hL1195 := hL1195.trans hI1353
 obtain ⟨hg1355, hm⟩ := gd_some hm
 obtain ⟨h1356, h1357, h1358⟩ := fits_of hg1355
 have f1360 : Ro tyF64 I1352 (slcV 1 v1188 (0:Int).toNat z1280.toNat) (subs z1187 (0:Int) z1280) := Ro.part f1354 h1357 h1358 h1356
 refine wv ((slcV 1 v1188 (0:Int).toNat z1280.toNat)) z z (x_slice underlying44 sizeOf23 z (ro_sliceV f1354) h1356 h1357 h1358 .i64 .i64 (.inr ⟨z, z⟩) (.inl z)) ?_
 replace hst := hst.own_nil tyF64
 obtain ⟨hg1361, hm⟩ := gd_some hm
 obtain ⟨v1362, w1363, hr1364, hst⟩ := run_append elem_44 underlying44 hst (Src.of_ro hst f1360) (room_of hg1361 z) 44
 replace hst := St.nil_app hst
 refine wl_run (v := v1362) (w' := w1363) z z (x_append z z hr1364) ?_
 refine wv (v1362) z z z (wl_nil (tn (wp_seq (wrl (wv (v1362) z z z (wv (r0_0) z z z (wv (.int .i64 z1190) z z z ?_)))))))
 obtain ⟨x1366, hx1367, hm⟩ := bind_some hm
 obtain ⟨h1368, h1369, hi1370⟩ := geto_some hx1367
 refine wv (.pointer (some (eAddr r0_0 (z1190.toNat * 5 + 0)))) z z (x_index z z underlying26 sizeOf67 (rd_sliceV f0_0) h1368 h1369) (wv (.pointer (some (eAddr r0_0 (z1190.toNat * 5 + 0)))) z z (x_field_e z underlying67 z sizeOf23 z) ?_)
 obtain ⟨cs1371, hr1372, hc1373⟩ := Rd.getF f0_0 hi1370
 obtain ⟨v1374, rfl, f1375, -⟩ := hr1372
 refine wv (.float .f64 x1366.At) z z (x_load z isAgg23 ((hc1373 (HL.le.refl _) hst) 0 _ z)) ?_
 obtain ⟨b1377, w1378, ew1379, eb1380, hst⟩ := hst.lits (E := tyF64) (xs := [x1366.At]) [[F6 x1366.At]] 23 1 z (Reps.cons z Reps.nil)
 refine wl_run (v := (.slice (some ⟨b1377, 0, none⟩) 1 1)) (w' := w1378) z z (x_als (by kernel_rfl) ew1379 eb1380) ?_
 obtain ⟨hg1382, hm⟩ := gd_some hm
 replace hst := hst.pull1
 obtain ⟨v1383, w1384, hr1385, hst⟩ := run_append elem_44 underlying44 hst hst.src1 (room_of hg1382 z) 44
 refine wl_run (v := v1383) (w' := w1384) z z (x_append z z hr1385) ?_
 refine wv (v1383) z z z (wl_nil (tn (wrl (wv (v1383) z z z (wv (v1188) z z z (wv (.int .i64 z1280) z z z ?_))))))
 obtain ⟨hg1387, hm⟩ := gd_some hm
 obtain ⟨h1388, h1389, h1390⟩ := fits_of hg1387
 have f1392 : Ro tyF64 I1352 (slcV 1 v1188 z1280.toNat (((z1187).length : Nat) : Int).toNat) (subs z1187 z1280 (((z1187).length : Nat) : Int)) := Ro.part f1354 h1389 h1390 h1388
 refine wv ((slcV 1 v1188 z1280.toNat (((z1187).length : Nat) : Int).toNat)) z z (x_slice underlying44 sizeOf23 z (ro_sliceV f1354) h1388 h1389 h1390 .i64 .i64 (.inl z) (.inr ⟨z, z⟩)) ?_
 obtain ⟨hg1393, hm⟩ := gd_some hm
 obtain ⟨v1394, w1395, hr1396, hst⟩ := run_append elem_44 underlying44 hst (Src.of_ro hst f1392) (room_of hg1393 z) 44
 refine wl_run (v := v1394) (w' := w1395) z z (x_append z z hr1396) ?_
 refine wv (v1394) z z z (wl_nil (blk_n (tn (wrl (wv (.int .i64 z1190) z z z (wv (.int .i64 (i64.wrap (z1190 + (1:Int)))) z z z (wv (.int .i64 (i64.wrap (z1190 + (1:Int)))) z z z (wl_nil (tn ?_)))))))))
 replace hst := hst.keep1
 obtain rfl := some_inj hm
 exact ⟨_, Nat.lt_succ_self _, _, (((subs z1187 (0:Int) z1280) ++ ([x1366.At])) ++ (subs z1187 z1280 (((z1187).length : Nat) : Int))), (i64.wrap (z1190 + (1:Int))), v1394, _, hx1198, (fu 0 r0_0 z (fu 3 v1394 z (fu 4 (.int .i64 (i64.wrap (z1190 + (1:Int)))) z z))), hL1195, hst⟩
}
}
}
 {
 replace hm := bif_f hc1200 hm
 refine wp_iff (cvb hc1200) ?_
 refine wp_exit (then_x (then_x ?_))
 replace hm := inr_up hm hx1198
 refine blk_x (tn (wp_seq (wrl ?_)))
 refine wv (v1188) z z z (wv (v1188) z z z (wl_nil (tn (wp_ret ?_))))
 obtain rfl := some_inj hm
 refine post_ret (vs := [v1188]) results18 (rvs_cons (rv_tmp z) rvs_nil) ?_
 exact ⟨_, v1188, z, hI0, hst.keep1⟩
}
}

theorem ref11_last_ref {w0 w : World} {I : HL} {R : SP} {a0 : (List ref11_Version)} {r0_0 : Value} {a1 : Nat} {a2 : Int} (f0_0 : Rd ty_ref11_Version R I r0_0 a0) (hst : St w0 w I [] R) {r : (Int)} (hm : ref11_last a0 a1 a2 = some r) :
  Calls prog 34 #[r0_0, F6 a1, U6 a2] w fun e w' => e = .returned (.int .i64 r) ∧ St w0 w' I [] R := by {
 unfold ref11_last at hm
 refine calls_start (args := [r0_0, F6 a1, U6 a2]) func34 z ntmps34 (Nat.le_of_ble_eq_true z) ?_
 refine wp_seq (wrl (wv (.int .i64 (0:Int)) z z z (wl_nil (tn (wp_seq (wrl (wv (.int .i64 ((-1):Int)) z z z (wl_nil (tn (wp_seq (wp_seq (wrl (wv (.int .i64 (0:Int)) z z z (wl_nil (tn (wp_block ?_))))))))))))))))
 obtain ⟨n286, hm⟩ := loopO_some hm
 refine wp_loop_n (fun n a w => ∃ (z283 : Int) (z284 : Int) (σ285 : Nat → Value), loopN (ref11_last_l0 a0 a1 a2) n (z283, z284) = some r ∧ a = Fr 76 (upd (upd (upd (upd (upd σ285 0 (r0_0)) 1 (.float .f64 a1)) 2 (.int .u64 a2)) 7 (.int .i64 z283)) 8 (.int .i64 z284)) ∧ St w0 w I [] R) n286 ⟨((-1):Int), (0:Int), _, hm, (fu 0 r0_0 z (fu 1 (.float .f64 a1) z (fu 2 (.int .u64 a2) z (fu 7 (.int .i64 ((-1):Int)) z (fu 8 (.int .i64 (0:Int)) z z))))), hst⟩ ?_
 rintro n292 _ w287 ⟨z283, z284, σ285, hm, rfl, hst⟩
 obtain ⟨n289, y290, rfl, hm, hx291⟩ := loopN_some hm
 dsimp only [ref11_last_l0] at hm
 refine wp_seq (wp_seq (wrl (wv (.int .i64 z284) z z z (wv (r0_0) z z z (wv (.int .i64 ((a0).length : Int)) z z (x_len z underlying26 (rd_sliceV f0_0)) (wv (.bool (decide (z284 < ((a0).length : Int)))) z z z (wl_nil (tn ?_))))))))
 refine bsplit (decide (z284 < ((a0).length : Int))) (fun hc293 => ?_) (fun hc293 => ?_)
 {
 replace hm := bif_t hc293 hm
 refine wp_ift (cvb hc293) ?_
 refine wp_skip (tn (wp_seq (wp_block (wp_seq ?_))))
 refine wp_region_St hst 59 [0, 1, 2, 3, 4, 5, 6, 7, 8, 9, 10, 11, 12, 13, 14, 15, 16, 17, 18, 19, 20, 21, 22, 23, 24, 25, 26, 27, 28, 29, 30, 31, 32, 33, 34, 35, 36, 37, 38, 39, 40, 41, 42, 43, 44, 45, 46, 47, 48, 49, 50, 51, 52, 53, 54, 55, 56, 57, 58] [0, 0, 3, 7, 15, 0, 63, 127, 255, 255, 1023, 2047, 4095, 255, 16383, 32767, 65535, 131071, 262143, 524287, 1048575, 1048575, 4194303, 8388607, 16777215, 1048575, 1048575, 101711871, 235929599, 504365055, 1073741823, 2147483647, 4294967295, 8589934591, 8589934591, 34359738367, 68719476735, 137438953471, 8589934591, 8589934591, 833223655423, 1932735283199, 4131758538751, 8796093022207, 17592186044415, 35184372088831, 35184372088831, 140737488355327, 281474976710655, 562949953421311, 35184372088831, 35184372088831, 3412884092616703, 7916483719987199, 16923682974728191, 36028797018963967, 72057594037927935, 144115188075855871, 288230376151711743] [] z (by kernel_rfl) (by kernel_rfl) Try.mixed (by kernel_rfl) ?_
 refine wsr (r0_0) 0 z z z (by kernel_rfl) (fun w hst => z) (wsr (.int .i64 z284) 1 z z z (by kernel_rfl) (fun w hst => z) ?_)
 obtain ⟨x294, hx295, hm⟩ := bind_some hm
 obtain ⟨h296, h297, hi298⟩ := geto_some hx295
 refine wsr (.pointer (some (eAddr r0_0 (z284.toNat * 5 + 0)))) 2 z z z (by kernel_rfl) (fun w hst => x_index z z underlying26 sizeOf67 (rd_sliceV f0_0) h296 h297) (wsr (.pointer (some (eAddr r0_0 (z284.toNat * 5 + 0)))) 3 z z z (by kernel_rfl) (fun w hst => x_field_e z underlying67 z sizeOf23 z) ?_)
 obtain ⟨cs299, hr300, hc301⟩ := Rd.getF f0_0 hi298
 obtain ⟨v302, rfl, f303, -⟩ := hr300
 refine wsr (.float .f64 x294.At) 4 z z z (by kernel_rfl) (fun w hst => x_load z isAgg23 ((hc301 (HL.le.refl _) hst) 0 _ z)) (wsr (.float .f64 a1) 5 z z z (by kernel_rfl) (fun w hst => z) ?_)
 refine ws_e1 6 (by kernel_rfl) ?_
 refine nxe [7, 8, 9, 10, 11, 12, 13, 14, 15, 16, 17, 18, 19, 20, 21, 22, 23, 24, 25, 26, 27, 28, 29, 30, 31, 32, 33, 34, 35, 36, 37, 38, 39, 40, 41, 42, 43, 44, 45, 46, 47, 48, 49, 50, 51, 52, 53, 54, 55, 56, 57, 58] (by kernel_rfl) z z ?_
 clear hst
 intro w hst
 obtain ⟨t305, ht306, hm⟩ := bind_some hm
 refine wec call30 [F6 x294.At, F6 a1] z z ?_
 refine (ref01_Same_ref hst.to0 ht306).mono ?_
 rintro _ w307 ⟨rfl, hst⟩
 refine ⟨_, z, ?_⟩
 replace hst := hst.of0
 refine ws_next (pend' := []) hst (by kernel_rfl) pk_nil ?_
 refine wsr (.bool t305) 7 z z z (by kernel_rfl) (fun w hst => z) ?_
 refine bsplit t305 (fun hc310 => ?_) (fun hc310 => ?_)
 {
 replace hm := bif_t hc310 hm
 refine ws_q (v := r0_0) 8 [9, 10, 11, 12, 13, 14, 15, 16, 17, 18, 19, 20, 21, 22, 23, 24, 25, 26, 27, 28, 29, 30, 31, 32, 33, 34, 35, 36, 37, 38, 39, 40, 41, 42, 43, 44, 45, 46, 47, 48, 49, 50, 51, 52, 53, 54, 55, 56, 57, 58] (by kernel_rfl) z z (yi_run ((wanted_eq z z z (cvb hc310)).trans z) (fun w hst => z)) (ws_q (v := .int .i64 z284) 9 [10, 11, 12, 13, 14, 15, 16, 17, 18, 19, 20, 21, 22, 23, 24, 25, 26, 27, 28, 29, 30, 31, 32, 33, 34, 35, 36, 37, 38, 39, 40, 41, 42, 43, 44, 45, 46, 47, 48, 49, 50, 51, 52, 53, 54, 55, 56, 57, 58] (by kernel_rfl) z z (yi_run ((wanted_eq z z z (cvb hc310)).trans z) (fun w hst => z)) (ws_q (v := .pointer (some (eAddr r0_0 (z284.toNat * 5 + 0)))) 10 [11, 12, 13, 14, 15, 16, 17, 18, 19, 20, 21, 22, 23, 24, 25, 26, 27, 28, 29, 30, 31, 32, 33, 34, 35, 36, 37, 38, 39, 40, 41, 42, 43, 44, 45, 46, 47, 48, 49, 50, 51, 52, 53, 54, 55, 56, 57, 58] (by kernel_rfl) z z (yi_run ((wanted_eq z z z (cvb hc310)).trans z) (fun w hst => x_index z z underlying26 sizeOf67 (rd_sliceV f0_0) h296 h297)) (ws_q (v := .pointer (some (eAddr r0_0 (z284.toNat * 5 + 1)))) 11 [12, 13, 14, 15, 16, 17, 18, 19, 20, 21, 22, 23, 24, 25, 26, 27, 28, 29, 30, 31, 32, 33, 34, 35, 36, 37, 38, 39, 40, 41, 42, 43, 44, 45, 46, 47, 48, 49, 50, 51, 52, 53, 54, 55, 56, 57, 58] (by kernel_rfl) z z (yi_run ((wanted_eq z z z (cvb hc310)).trans z) (fun w hst => x_field_e z underlying67 z sizeOf24 z)) ?_)))
 obtain ⟨cs311, hr312, hc313⟩ := Rd.getF f0_0 hi298
 obtain ⟨v314, rfl, f315, -⟩ := hr312
 refine ws_q (v := .int .u64 x294.Epoch) 12 [13, 14, 15, 16, 17, 18, 19, 20, 21, 22, 23, 24, 25, 26, 27, 28, 29, 30, 31, 32, 33, 34, 35, 36, 37, 38, 39, 40, 41, 42, 43, 44, 45, 46, 47, 48, 49, 50, 51, 52, 53, 54, 55, 56, 57, 58] (by kernel_rfl) z z (yi_run ((wanted_eq z z z (cvb hc310)).trans z) (fun w hst => x_load z isAgg24 ((hc313 (HL.le.refl _) hst) 1 _ z))) (ws_q (v := .int .u64 a2) 13 [14, 15, 16, 17, 18, 19, 20, 21, 22, 23, 24, 25, 26, 27, 28, 29, 30, 31, 32, 33, 34, 35, 36, 37, 38, 39, 40, 41, 42, 43, 44, 45, 46, 47, 48, 49, 50, 51, 52, 53, 54, 55, 56, 57, 58] (by kernel_rfl) z z (yi_run ((wanted_eq z z z (cvb hc310)).trans z) (fun w hst => z)) (ws_q (v := .bool (decide (x294.Epoch ≤ a2))) 14 [15, 16, 17, 18, 19, 20, 21, 22, 23, 24, 25, 26, 27, 28, 29, 30, 31, 32, 33, 34, 35, 36, 37, 38, 39, 40, 41, 42, 43, 44, 45, 46, 47, 48, 49, 50, 51, 52, 53, 54, 55, 56, 57, 58] (by kernel_rfl) z z (yi_run ((wanted_eq z z z (cvb hc310)).trans z) (fun w hst => z)) (wsr (.bool (decide (x294.Epoch ≤ a2))) 15 z z z (by kernel_rfl) (fun w hst => x_pick_t hc310 z z) (wsr (.bool (decide (x294.Epoch ≤ a2))) 16 z z z (by kernel_rfl) (fun w hst => z) ?_))))
 refine bsplit (decide (x294.Epoch ≤ a2)) (fun hc317 => ?_) (fun hc317 => ?_)
 {
 replace hm := bif_t hc317 hm
 refine ws_q (v := .int .i64 z283) 17 [18, 19, 20, 21, 22, 23, 24, 25, 26, 27, 28, 29, 30, 31, 32, 33, 34, 35, 36, 37, 38, 39, 40, 41, 42, 43, 44, 45, 46, 47, 48, 49, 50, 51, 52, 53, 54, 55, 56, 57, 58] (by kernel_rfl) z z (yi_run ((wanted_eq z z z (cvb hc317)).trans z) (fun w hst => z)) (ws_q (v := .bool (decide (z283 < (0:Int)))) 18 [19, 20, 21, 22, 23, 24, 25, 26, 27, 28, 29, 30, 31, 32, 33, 34, 35, 36, 37, 38, 39, 40, 41, 42, 43, 44, 45, 46, 47, 48, 49, 50, 51, 52, 53, 54, 55, 56, 57, 58] (by kernel_rfl) z z (yi_run ((wanted_eq z z z (cvb hc317)).trans z) (fun w hst => z)) (ws_q (v := .bool (decide (z283 < (0:Int)))) 19 [20, 21, 22, 23, 24, 25, 26, 27, 28, 29, 30, 31, 32, 33, 34, 35, 36, 37, 38, 39, 40, 41, 42, 43, 44, 45, 46, 47, 48, 49, 50, 51, 52, 53, 54, 55, 56, 57, 58] (by kernel_rfl) z z (yi_run ((wanted_eq z z z (cvb hc317)).trans z) (fun w hst => z)) ?_))
 refine bsplit (decide (z283 < (0:Int))) (fun hc318 => ?_) (fun hc318 => ?_)
 {
 replace hm := bif_t hc318 hm
 refine ws_q (v := undef) 20 [21, 22, 23, 24, 25, 26, 27, 28, 29, 30, 31, 32, 33, 34, 35, 36, 37, 38, 39, 40, 41, 42, 43, 44, 45, 46, 47, 48, 49, 50, 51, 52, 53, 54, 55, 56, 57, 58] (by kernel_rfl) z z (yi_off ((wanted_eq z z z (cvb hc318)).trans z)) (ws_q (v := undef) 21 [22, 23, 24, 25, 26, 27, 28, 29, 30, 31, 32, 33, 34, 35, 36, 37, 38, 39, 40, 41, 42, 43, 44, 45, 46, 47, 48, 49, 50, 51, 52, 53, 54, 55, 56, 57, 58] (by kernel_rfl) z z (yi_off ((wanted_eq z z z (cvb hc318)).trans z)) (ws_q (v := undef) 22 [23, 24, 25, 26, 27, 28, 29, 30, 31, 32, 33, 34, 35, 36, 37, 38, 39, 40, 41, 42, 43, 44, 45, 46, 47, 48, 49, 50, 51, 52, 53, 54, 55, 56, 57, 58] (by kernel_rfl) z z (yi_off ((wanted_eq z z z (cvb hc318)).trans z)) (ws_q (v := undef) 23 [24, 25, 26, 27, 28, 29, 30, 31, 32, 33, 34, 35, 36, 37, 38, 39, 40, 41, 42, 43, 44, 45, 46, 47, 48, 49, 50, 51, 52, 53, 54, 55, 56, 57, 58] (by kernel_rfl) z z (yi_off ((wanted_eq z z z (cvb hc318)).trans z)) (ws_q (v := undef) 24 [25, 26, 27, 28, 29, 30, 31, 32, 33, 34, 35, 36, 37, 38, 39, 40, 41, 42, 43, 44, 45, 46, 47, 48, 49, 50, 51, 52, 53, 54, 55, 56, 57, 58] (by kernel_rfl) z z (yi_off ((wanted_eq z z z (cvb hc318)).trans z)) (ws_q (v := undef) 25 [26, 27, 28, 29, 30, 31, 32, 33, 34, 35, 36, 37, 38, 39, 40, 41, 42, 43, 44, 45, 46, 47, 48, 49, 50, 51, 52, 53, 54, 55, 56, 57, 58] (by kernel_rfl) z z (yi_off ((wanted_eq z z z (cvb hc318)).trans z)) (ws_q (v := undef) 26 [27, 28, 29, 30, 31, 32, 33, 34, 35, 36, 37, 38, 39, 40, 41, 42, 43, 44, 45, 46, 47, 48, 49, 50, 51, 52, 53, 54, 55, 56, 57, 58] (by kernel_rfl) z z (yi_off ((wanted_eq z z z (cvb hc318)).trans z)) (ws_q (v := undef) 27 [28, 29, 30, 31, 32, 33, 34, 35, 36, 37, 38, 39, 40, 41, 42, 43, 44, 45, 46, 47, 48, 49, 50, 51, 52, 53, 54, 55, 56, 57, 58] (by kernel_rfl) z z (yi_off ((wanted_eq z z z (cvb hc318)).trans z)) (ws_q (v := undef) 28 [29, 30, 31, 32, 33, 34, 35, 36, 37, 38, 39, 40, 41, 42, 43, 44, 45, 46, 47, 48, 49, 50, 51, 52, 53, 54, 55, 56, 57, 58] (by kernel_rfl) z z (yi_off ((wanted_eq z z z (cvb hc318)).trans z)) (ws_q (v := undef) 29 [30, 31, 32, 33, 34, 35, 36, 37, 38, 39, 40, 41, 42, 43, 44, 45, 46, 47, 48, 49, 50, 51, 52, 53, 54, 55, 56, 57, 58] (by kernel_rfl) z z (yi_off ((wanted_eq z z z (cvb hc318)).trans z)) (ws_q (v := undef) 30 [31, 32, 33, 34, 35, 36, 37, 38, 39, 40, 41, 42, 43, 44, 45, 46, 47, 48, 49, 50, 51, 52, 53, 54, 55, 56, 57, 58] (by kernel_rfl) z z (yi_off ((wanted_eq z z z (cvb hc318)).trans z)) (ws_q (v := .bool true) 31 [32, 33, 34, 35, 36, 37, 38, 39, 40, 41, 42, 43, 44, 45, 46, 47, 48, 49, 50, 51, 52, 53, 54, 55, 56, 57, 58] (by kernel_rfl) z z (yi_run ((wanted_eq z z z (cvb hc317)).trans z) (fun w hst => x_pick_t hc318 z z)) (ws_q (v := .bool true) 32 [33, 34, 35, 36, 37, 38, 39, 40, 41, 42, 43, 44, 45, 46, 47, 48, 49, 50, 51, 52, 53, 54, 55, 56, 57, 58] (by kernel_rfl) z z (yi_run ((wanted_eq z z z (cvb hc317)).trans z) (fun w hst => z)) ?_))))))))))))
 refine ws_q (v := undef) 33 [34, 35, 36, 37, 38, 39, 40, 41, 42, 43, 44, 45, 46, 47, 48, 49, 50, 51, 52, 53, 54, 55, 56, 57, 58] (by kernel_rfl) z z (yi_off ((wanted_eq z z z z).trans z)) (ws_q (v := undef) 34 [35, 36, 37, 38, 39, 40, 41, 42, 43, 44, 45, 46, 47, 48, 49, 50, 51, 52, 53, 54, 55, 56, 57, 58] (by kernel_rfl) z z (yi_off ((wanted_eq z z z z).trans z)) (ws_q (v := undef) 35 [36, 37, 38, 39, 40, 41, 42, 43, 44, 45, 46, 47, 48, 49, 50, 51, 52, 53, 54, 55, 56, 57, 58] (by kernel_rfl) z z (yi_off ((wanted_eq z z z z).trans z)) (ws_q (v := undef) 36 [37, 38, 39, 40, 41, 42, 43, 44, 45, 46, 47, 48, 49, 50, 51, 52, 53, 54, 55, 56, 57, 58] (by kernel_rfl) z z (yi_off ((wanted_eq z z z z).trans z)) (ws_q (v := undef) 37 [38, 39, 40, 41, 42, 43, 44, 45, 46, 47, 48, 49, 50, 51, 52, 53, 54, 55, 56, 57, 58] (by kernel_rfl) z z (yi_off ((wanted_eq z z z z).trans z)) (ws_q (v := undef) 38 [39, 40, 41, 42, 43, 44, 45, 46, 47, 48, 49, 50, 51, 52, 53, 54, 55, 56, 57, 58] (by kernel_rfl) z z (yi_off ((wanted_eq z z z z).trans z)) (ws_q (v := undef) 39 [40, 41, 42, 43, 44, 45, 46, 47, 48, 49, 50, 51, 52, 53, 54, 55, 56, 57, 58] (by kernel_rfl) z z (yi_off ((wanted_eq z z z z).trans z)) (ws_q (v := undef) 40 [41, 42, 43, 44, 45, 46, 47, 48, 49, 50, 51, 52, 53, 54, 55, 56, 57, 58] (by kernel_rfl) z z (yi_off ((wanted_eq z z z z).trans z)) (ws_q (v := undef) 41 [42, 43, 44, 45, 46, 47, 48, 49, 50, 51, 52, 53, 54, 55, 56, 57, 58] (by kernel_rfl) z z (yi_off ((wanted_eq z z z z).trans z)) (ws_q (v := undef) 42 [43, 44, 45, 46, 47, 48, 49, 50, 51, 52, 53, 54, 55, 56, 57, 58] (by kernel_rfl) z z (yi_off ((wanted_eq z z z z).trans z)) (ws_q (v := undef) 43 [44, 45, 46, 47, 48, 49, 50, 51, 52, 53, 54, 55, 56, 57, 58] (by kernel_rfl) z z (yi_off ((wanted_eq z z z z).trans z)) (ws_q (v := undef) 44 [45, 46, 47, 48, 49, 50, 51, 52, 53, 54, 55, 56, 57, 58] (by kernel_rfl) z z (yi_off ((wanted_eq z z z z).trans z)) (ws_q (v := undef) 45 [46, 47, 48, 49, 50, 51, 52, 53, 54, 55, 56, 57, 58] (by kernel_rfl) z z (yi_off (wanted_undef z z z z)) ?_))))))))))))
 refine ws_q (v := undef) 46 [47, 48, 49, 50, 51, 52, 53, 54, 55, 56, 57, 58] (by kernel_rfl) z z (yi_off (wanted_undef z z z z)) (ws_q (v := undef) 47 [48, 49, 50, 51, 52, 53, 54, 55, 56, 57, 58] (by kernel_rfl) z z (yi_off (wanted_undef z z z z)) (ws_q (v := undef) 48 [49, 50, 51, 52, 53, 54, 55, 56, 57, 58] (by kernel_rfl) z z (yi_off (wanted_undef z z z z)) (ws_q (v := undef) 49 [50, 51, 52, 53, 54, 55, 56, 57, 58] (by kernel_rfl) z z (yi_off (wanted_undef z z z z)) (ws_q (v := undef) 50 [51, 52, 53, 54, 55, 56, 57, 58] (by kernel_rfl) z z (yi_off (wanted_undef z z z z)) (ws_q (v := undef) 51 [52, 53, 54, 55, 56, 57, 58] (by kernel_rfl) z z (yi_off (wanted_undef z z z z)) (ws_q (v := undef) 52 [53, 54, 55, 56, 57, 58] (by kernel_rfl) z z (yi_off (wanted_undef z z z z)) (ws_q (v := undef) 53 [54, 55, 56, 57, 58] (by kernel_rfl) z z (yi_off (wanted_undef z z z z)) (ws_q (v := undef) 54 [55, 56, 57, 58] (by kernel_rfl) z z (yi_off (wanted_undef z z z z)) (ws_q (v := undef) 55 [56, 57, 58] (by kernel_rfl) z z (yi_off (wanted_undef z z z z)) (ws_q (v := undef) 56 [57, 58] (by kernel_rfl) z z (yi_off ((wanted_eq z z z z).trans z)) (ws_q (v := .bool true) 57 [58] (by kernel_rfl) z z (yi_run ((wanted_eq z z z (cvb hc317)).trans z) (fun w hst => x_pick_t z z z)) (wsr (.bool true) 58 z z z (by kernel_rfl) (fun w hst => x_pick_t hc317 z z) ?_))))))))))))
 refine ws_nil ?_
 intro w hst
 refine tn ?_
 refine wp_ift z ?_
 refine wrl (wv (.int .i64 z284) z z z (wv (.int .i64 z284) z z z (wl_nil (blk_n (tn (wrl (wv (.int .i64 z284) z z z (wv (.int .i64 (i64.wrap (z284 + (1:Int)))) z z z (wv (.int .i64 (i64.wrap (z284 + (1:Int)))) z z z (wl_nil (tn ?_)))))))))))
 replace hst := hst.keep0
 obtain rfl := some_inj hm
 exact ⟨_, Nat.lt_succ_self _, z284, (i64.wrap (z284 + (1:Int))), _, hx291, (fu 0 r0_0 z (fu 1 (.float .f64 a1) z (fu 2 (.int .u64 a2) z (fu 7 (.int .i64 z284) z (fu 8 (.int .i64 (i64.wrap (z284 + (1:Int)))) z z))))), hst⟩
}
 {
 replace hm := bif_f hc318 hm
 refine ws_q (v := r0_0) 20 [21, 22, 23, 24, 25, 26, 27, 28, 29, 30, 31, 32, 33, 34, 35, 36, 37, 38, 39, 40, 41, 42, 43, 44, 45, 46, 47, 48, 49, 50, 51, 52, 53, 54, 55, 56, 57, 58] (by kernel_rfl) z z (yi_run ((wanted_eq z z z (cvb hc318)).trans z) (fun w hst => z)) (ws_q (v := .int .i64 z283) 21 [22, 23, 24, 25, 26, 27, 28, 29, 30, 31, 32, 33, 34, 35, 36, 37, 38, 39, 40, 41, 42, 43, 44, 45, 46, 47, 48, 49, 50, 51, 52, 53, 54, 55, 56, 57, 58] (by kernel_rfl) z z (yi_run ((wanted_eq z z z (cvb hc318)).trans z) (fun w hst => z)) ?_)
 obtain ⟨x319, hx320, hm⟩ := bind_some hm
 obtain ⟨h321, h322, hi323⟩ := geto_some hx320
 refine ws_q (v := .pointer (some (eAddr r0_0 (z283.toNat * 5 + 0)))) 22 [23, 24, 25, 26, 27, 28, 29, 30, 31, 32, 33, 34, 35, 36, 37, 38, 39, 40, 41, 42, 43, 44, 45, 46, 47, 48, 49, 50, 51, 52, 53, 54, 55, 56, 57, 58] (by kernel_rfl) z z (yi_run ((wanted_eq z z z (cvb hc318)).trans z) (fun w hst => x_index z z underlying26 sizeOf67 (rd_sliceV f0_0) h321 h322)) (ws_q (v := .pointer (some (eAddr r0_0 (z283.toNat * 5 + 1)))) 23 [24, 25, 26, 27, 28, 29, 30, 31, 32, 33, 34, 35, 36, 37, 38, 39, 40, 41, 42, 43, 44, 45, 46, 47, 48, 49, 50, 51, 52, 53, 54, 55, 56, 57, 58] (by kernel_rfl) z z (yi_run ((wanted_eq z z z (cvb hc318)).trans z) (fun w hst => x_field_e z underlying67 z sizeOf24 z)) ?_)
 obtain ⟨cs324, hr325, hc326⟩ := Rd.getF f0_0 hi323
 obtain ⟨v327, rfl, f328, -⟩ := hr325
 refine ws_q (v := .int .u64 x319.Epoch) 24 [25, 26, 27, 28, 29, 30, 31, 32, 33, 34, 35, 36, 37, 38, 39, 40, 41, 42, 43, 44, 45, 46, 47, 48, 49, 50, 51, 52, 53, 54, 55, 56, 57, 58] (by kernel_rfl) z z (yi_run ((wanted_eq z z z (cvb hc318)).trans z) (fun w hst => x_load z isAgg24 ((hc326 (HL.le.refl _) hst) 1 _ z))) (ws_q (v := r0_0) 25 [26, 27, 28, 29, 30, 31, 32, 33, 34, 35, 36, 37, 38, 39, 40, 41, 42, 43, 44, 45, 46, 47, 48, 49, 50, 51, 52, 53, 54, 55, 56, 57, 58] (by kernel_rfl) z z (yi_run ((wanted_eq z z z (cvb hc318)).trans z) (fun w hst => z)) (ws_q (v := .int .i64 z284) 26 [27, 28, 29, 30, 31, 32, 33, 34, 35, 36, 37, 38, 39, 40, 41, 42, 43, 44, 45, 46, 47, 48, 49, 50, 51, 52, 53, 54, 55, 56, 57, 58] (by kernel_rfl) z z (yi_run ((wanted_eq z z z (cvb hc318)).trans z) (fun w hst => z)) (ws_q (v := .pointer (some (eAddr r0_0 (z284.toNat * 5 + 0)))) 27 [28, 29, 30, 31, 32, 33, 34, 35, 36, 37, 38, 39, 40, 41, 42, 43, 44, 45, 46, 47, 48, 49, 50, 51, 52, 53, 54, 55, 56, 57, 58] (by kernel_rfl) z z (yi_run ((wanted_eq z z z (cvb hc318)).trans z) (fun w hst => x_index z z underlying26 sizeOf67 (rd_sliceV f0_0) h296 h297)) (ws_q (v := .pointer (some (eAddr r0_0 (z284.toNat * 5 + 1)))) 28 [29, 30, 31, 32, 33, 34, 35, 36, 37, 38, 39, 40, 41, 42, 43, 44, 45, 46, 47, 48, 49, 50, 51, 52, 53, 54, 55, 56, 57, 58] (by kernel_rfl) z z (yi_run ((wanted_eq z z z (cvb hc318)).trans z) (fun w hst => x_field_e z underlying67 z sizeOf24 z)) (ws_q (v := .int .u64 x294.Epoch) 29 [30, 31, 32, 33, 34, 35, 36, 37, 38, 39, 40, 41, 42, 43, 44, 45, 46, 47, 48, 49, 50, 51, 52, 53, 54, 55, 56, 57, 58] (by kernel_rfl) z z (yi_run ((wanted_eq z z z (cvb hc318)).trans z) (fun w hst => x_load z isAgg24 ((hc313 (HL.le.refl _) hst) 1 _ z))) (ws_q (v := .bool (decide (x319.Epoch < x294.Epoch))) 30 [31, 32, 33, 34, 35, 36, 37, 38, 39, 40, 41, 42, 43, 44, 45, 46, 47, 48, 49, 50, 51, 52, 53, 54, 55, 56, 57, 58] (by kernel_rfl) z z (yi_run ((wanted_eq z z z (cvb hc318)).trans z) (fun w hst => z)) (ws_q (v := .bool (decide (x319.Epoch < x294.Epoch))) 31 [32, 33, 34, 35, 36, 37, 38, 39, 40, 41, 42, 43, 44, 45, 46, 47, 48, 49, 50, 51, 52, 53, 54, 55, 56, 57, 58] (by kernel_rfl) z z (yi_run ((wanted_eq z z z (cvb hc317)).trans z) (fun w hst => x_pick_f hc318 z z)) (ws_q (v := .bool (decide (x319.Epoch < x294.Epoch))) 32 [33, 34, 35, 36, 37, 38, 39, 40, 41, 42, 43, 44, 45, 46, 47, 48, 49, 50, 51, 52, 53, 54, 55, 56, 57, 58] (by kernel_rfl) z z (yi_run ((wanted_eq z z z (cvb hc317)).trans z) (fun w hst => z)) ?_))))))))
 refine bsplit (decide (x319.Epoch < x294.Epoch)) (fun hc330 => ?_) (fun hc330 => ?_)
 {
 replace hm := bif_t hc330 hm
 refine ws_q (v := undef) 33 [34, 35, 36, 37, 38, 39, 40, 41, 42, 43, 44, 45, 46, 47, 48, 49, 50, 51, 52, 53, 54, 55, 56, 57, 58] (by kernel_rfl) z z (yi_off ((wanted_eq z z z (cvb hc330)).trans z)) (ws_q (v := undef) 34 [35, 36, 37, 38, 39, 40, 41, 42, 43, 44, 45, 46, 47, 48, 49, 50, 51, 52, 53, 54, 55, 56, 57, 58] (by kernel_rfl) z z (yi_off ((wanted_eq z z z (cvb hc330)).trans z)) (ws_q (v := undef) 35 [36, 37, 38, 39, 40, 41, 42, 43, 44, 45, 46, 47, 48, 49, 50, 51, 52, 53, 54, 55, 56, 57, 58] (by kernel_rfl) z z (yi_off ((wanted_eq z z z (cvb hc330)).trans z)) (ws_q (v := undef) 36 [37, 38, 39, 40, 41, 42, 43, 44, 45, 46, 47, 48, 49, 50, 51, 52, 53, 54, 55, 56, 57, 58] (by kernel_rfl) z z (yi_off ((wanted_eq z z z (cvb hc330)).trans z)) (ws_q (v := undef) 37 [38, 39, 40, 41, 42, 43, 44, 45, 46, 47, 48, 49, 50, 51, 52, 53, 54, 55, 56, 57, 58] (by kernel_rfl) z z (yi_off ((wanted_eq z z z (cvb hc330)).trans z)) (ws_q (v := undef) 38 [39, 40, 41, 42, 43, 44, 45, 46, 47, 48, 49, 50, 51, 52, 53, 54, 55, 56, 57, 58] (by kernel_rfl) z z (yi_off ((wanted_eq z z z (cvb hc330)).trans z)) (ws_q (v := undef) 39 [40, 41, 42, 43, 44, 45, 46, 47, 48, 49, 50, 51, 52, 53, 54, 55, 56, 57, 58] (by kernel_rfl) z z (yi_off ((wanted_eq z z z (cvb hc330)).trans z)) (ws_q (v := undef) 40 [41, 42, 43, 44, 45, 46, 47, 48, 49, 50, 51, 52, 53, 54, 55, 56, 57, 58] (by kernel_rfl) z z (yi_off ((wanted_eq z z z (cvb hc330)).trans z)) (ws_q (v := undef) 41 [42, 43, 44, 45, 46, 47, 48, 49, 50, 51, 52, 53, 54, 55, 56, 57, 58] (by kernel_rfl) z z (yi_off ((wanted_eq z z z (cvb hc330)).trans z)) (ws_q (v := undef) 42 [43, 44, 45, 46, 47, 48, 49, 50, 51, 52, 53, 54, 55, 56, 57, 58] (by kernel_rfl) z z (yi_off ((wanted_eq z z z (cvb hc330)).trans z)) (ws_q (v := undef) 43 [44, 45, 46, 47, 48, 49, 50, 51, 52, 53, 54, 55, 56, 57, 58] (by kernel_rfl) z z (yi_off ((wanted_eq z z z (cvb hc330)).trans z)) (ws_q (v := undef) 44 [45, 46, 47, 48, 49, 50, 51, 52, 53, 54, 55, 56, 57, 58] (by kernel_rfl) z z (yi_off ((wanted_eq z z z (cvb hc330)).trans z)) (ws_q (v := undef) 45 [46, 47, 48, 49, 50, 51, 52, 53, 54, 55, 56, 57, 58] (by kernel_rfl) z z (yi_off (wanted_undef z z z z)) ?_))))))))))))
 refine ws_q (v := undef) 46 [47, 48, 49, 50, 51, 52, 53, 54, 55, 56, 57, 58] (by kernel_rfl) z z (yi_off (wanted_undef z z z z)) (ws_q (v := undef) 47 [48, 49, 50, 51, 52, 53, 54, 55, 56, 57, 58] (by kernel_rfl) z z (yi_off (wanted_undef z z z z)) (ws_q (v := undef) 48 [49, 50, 51, 52, 53, 54, 55, 56, 57, 58] (by kernel_rfl) z z (yi_off (wanted_undef z z z z)) (ws_q (v := undef) 49 [50, 51, 52, 53, 54, 55, 56, 57, 58] (by kernel_rfl) z z (yi_off (wanted_undef z z z z)) (ws_q (v := undef) 50 [51, 52, 53, 54, 55, 56, 57, 58] (by kernel_rfl) z z (yi_off (wanted_undef z z z z)) (ws_q (v := undef) 51 [52, 53, 54, 55, 56, 57, 58] (by kernel_rfl) z z (yi_off (wanted_undef z z z z)) (ws_q (v := undef) 52 [53, 54, 55, 56, 57, 58] (by kernel_rfl) z z (yi_off (wanted_undef z z z z)) (ws_q (v := undef) 53 [54, 55, 56, 57, 58] (by kernel_rfl) z z (yi_off (wanted_undef z z z z)) (ws_q (v := undef) 54 [55, 56, 57, 58] (by kernel_rfl) z z (yi_off (wanted_undef z z z z)) (ws_q (v := undef) 55 [56, 57, 58] (by kernel_rfl) z z (yi_off (wanted_undef z z z z)) (ws_q (v := undef) 56 [57, 58] (by kernel_rfl) z z (yi_off ((wanted_eq z z z (cvb hc330)).trans z)) (ws_q (v := .bool true) 57 [58] (by kernel_rfl) z z (yi_run ((wanted_eq z z z (cvb hc317)).trans z) (fun w hst => x_pick_t hc330 z z)) (wsr (.bool true) 58 z z z (by kernel_rfl) (fun w hst => x_pick_t hc317 z z) ?_))))))))))))
 refine ws_nil ?_
 intro w hst
 refine tn ?_
 refine wp_ift z ?_
 refine wrl (wv (.int .i64 z284) z z z (wv (.int .i64 z284) z z z (wl_nil (blk_n (tn (wrl (wv (.int .i64 z284) z z z (wv (.int .i64 (i64.wrap (z284 + (1:Int)))) z z z (wv (.int .i64 (i64.wrap (z284 + (1:Int)))) z z z (wl_nil (tn ?_)))))))))))
 replace hst := hst.keep0
 obtain rfl := some_inj hm
 exact ⟨_, Nat.lt_succ_self _, z284, (i64.wrap (z284 + (1:Int))), _, hx291, (fu 0 r0_0 z (fu 1 (.float .f64 a1) z (fu 2 (.int .u64 a2) z (fu 7 (.int .i64 z284) z (fu 8 (.int .i64 (i64.wrap (z284 + (1:Int)))) z z))))), hst⟩
}
 {
 replace hm := bif_f hc330 hm
 refine ws_q (v := r0_0) 33 [34, 35, 36, 37, 38, 39, 40, 41, 42, 43, 44, 45, 46, 47, 48, 49, 50, 51, 52, 53, 54, 55, 56, 57, 58] (by kernel_rfl) z z (yi_run ((wanted_eq z z z (cvb hc330)).trans z) (fun w hst => z)) (ws_q (v := .int .i64 z283) 34 [35, 36, 37, 38, 39, 40, 41, 42, 43, 44, 45, 46, 47, 48, 49, 50, 51, 52, 53, 54, 55, 56, 57, 58] (by kernel_rfl) z z (yi_run ((wanted_eq z z z (cvb hc330)).trans z) (fun w hst => z)) (ws_q (v := .pointer (some (eAddr r0_0 (z283.toNat * 5 + 0)))) 35 [36, 37, 38, 39, 40, 41, 42, 43, 44, 45, 46, 47, 48, 49, 50, 51, 52, 53, 54, 55, 56, 57, 58] (by kernel_rfl) z z (yi_run ((wanted_eq z z z (cvb hc330)).trans z) (fun w hst => x_index z z underlying26 sizeOf67 (rd_sliceV f0_0) h321 h322)) (ws_q (v := .pointer (some (eAddr r0_0 (z283.toNat * 5 + 1)))) 36 [37, 38, 39, 40, 41, 42, 43, 44, 45, 46, 47, 48, 49, 50, 51, 52, 53, 54, 55, 56, 57, 58] (by kernel_rfl) z z (yi_run ((wanted_eq z z z (cvb hc330)).trans z) (fun w hst => x_field_e z underlying67 z sizeOf24 z)) (ws_q (v := .int .u64 x319.Epoch) 37 [38, 39, 40, 41, 42, 43, 44, 45, 46, 47, 48, 49, 50, 51, 52, 53, 54, 55, 56, 57, 58] (by kernel_rfl) z z (yi_run ((wanted_eq z z z (cvb hc330)).trans z) (fun w hst => x_load z isAgg24 ((hc326 (HL.le.refl _) hst) 1 _ z))) (ws_q (v := r0_0) 38 [39, 40, 41, 42, 43, 44, 45, 46, 47, 48, 49, 50, 51, 52, 53, 54, 55, 56, 57, 58] (by kernel_rfl) z z (yi_run ((wanted_eq z z z (cvb hc330)).trans z) (fun w hst => z)) (ws_q (v := .int .i64 z284) 39 [40, 41, 42, 43, 44, 45, 46, 47, 48, 49, 50, 51, 52, 53, 54, 55, 56, 57, 58] (by kernel_rfl) z z (yi_run ((wanted_eq z z z (cvb hc330)).trans z) (fun w hst => z)) (ws_q (v := .pointer (some (eAddr r0_0 (z284.toNat * 5 + 0)))) 40 [41, 42, 43, 44, 45, 46, 47, 48, 49, 50, 51, 52, 53, 54, 55, 56, 57, 58] (by kernel_rfl) z z (yi_run ((wanted_eq z z z (cvb hc330)).trans z) (fun w hst => x_index z z underlying26 sizeOf67 (rd_sliceV f0_0) h296 h297)) (ws_q (v := .pointer (some (eAddr r0_0 (z284.toNat * 5 + 1)))) 41 [42, 43, 44, 45, 46, 47, 48, 49, 50, 51, 52, 53, 54, 55, 56, 57, 58] (by kernel_rfl) z z (yi_run ((wanted_eq z z z (cvb hc330)).trans z) (fun w hst => x_field_e z underlying67 z sizeOf24 z)) (ws_q (v := .int .u64 x294.Epoch) 42 [43, 44, 45, 46, 47, 48, 49, 50, 51, 52, 53, 54, 55, 56, 57, 58] (by kernel_rfl) z z (yi_run ((wanted_eq z z z (cvb hc330)).trans z) (fun w hst => x_load z isAgg24 ((hc313 (HL.le.refl _) hst) 1 _ z))) (ws_q (v := .bool (x319.Epoch == x294.Epoch)) 43 [44, 45, 46, 47, 48, 49, 50, 51, 52, 53, 54, 55, 56, 57, 58] (by kernel_rfl) z z (yi_run ((wanted_eq z z z (cvb hc330)).trans z) (fun w hst => z)) (ws_q (v := .bool (x319.Epoch == x294.Epoch)) 44 [45, 46, 47, 48, 49, 50, 51, 52, 53, 54, 55, 56, 57, 58] (by kernel_rfl) z z (yi_run ((wanted_eq z z z (cvb hc330)).trans z) (fun w hst => z)) ?_)))))))))))
 refine bsplit (x319.Epoch == x294.Epoch) (fun hc331 => ?_) (fun hc331 => ?_)
 {
 replace hm := bif_t hc331 hm
 refine ws_q (v := r0_0) 45 [46, 47, 48, 49, 50, 51, 52, 53, 54, 55, 56, 57, 58] (by kernel_rfl) z z (yi_run ((wanted_eq z z z (cvb hc331)).trans z) (fun w hst => z)) (ws_q (v := .int .i64 z283) 46 [47, 48, 49, 50, 51, 52, 53, 54, 55, 56, 57, 58] (by kernel_rfl) z z (yi_run ((wanted_eq z z z (cvb hc331)).trans z) (fun w hst => z)) (ws_q (v := .pointer (some (eAddr r0_0 (z283.toNat * 5 + 0)))) 47 [48, 49, 50, 51, 52, 53, 54, 55, 56, 57, 58] (by kernel_rfl) z z (yi_run ((wanted_eq z z z (cvb hc331)).trans z) (fun w hst => x_index z z underlying26 sizeOf67 (rd_sliceV f0_0) h321 h322)) (ws_q (v := .pointer (some (eAddr r0_0 (z283.toNat * 5 + 2)))) 48 [49, 50, 51, 52, 53, 54, 55, 56, 57, 58] (by kernel_rfl) z z (yi_run ((wanted_eq z z z (cvb hc331)).trans z) (fun w hst => x_field_e z underlying67 z sizeOf24 z)) (ws_q (v := .int .u64 x319.Index) 49 [50, 51, 52, 53, 54, 55, 56, 57, 58] (by kernel_rfl) z z (yi_run ((wanted_eq z z z (cvb hc331)).trans z) (fun w hst => x_load z isAgg24 ((hc326 (HL.le.refl _) hst) 2 _ z))) (ws_q (v := r0_0) 50 [51, 52, 53, 54, 55, 56, 57, 58] (by kernel_rfl) z z (yi_run ((wanted_eq z z z (cvb hc331)).trans z) (fun w hst => z)) (ws_q (v := .int .i64 z284) 51 [52, 53, 54, 55, 56, 57, 58] (by kernel_rfl) z z (yi_run ((wanted_eq z z z (cvb hc331)).trans z) (fun w hst => z)) (ws_q (v := .pointer (some (eAddr r0_0 (z284.toNat * 5 + 0)))) 52 [53, 54, 55, 56, 57, 58] (by kernel_rfl) z z (yi_run ((wanted_eq z z z (cvb hc331)).trans z) (fun w hst => x_index z z underlying26 sizeOf67 (rd_sliceV f0_0) h296 h297)) (ws_q (v := .pointer (some (eAddr r0_0 (z284.toNat * 5 + 2)))) 53 [54, 55, 56, 57, 58] (by kernel_rfl) z z (yi_run ((wanted_eq z z z (cvb hc331)).trans z) (fun w hst => x_field_e z underlying67 z sizeOf24 z)) (ws_q (v := .int .u64 x294.Index) 54 [55, 56, 57, 58] (by kernel_rfl) z z (yi_run ((wanted_eq z z z (cvb hc331)).trans z) (fun w hst => x_load z isAgg24 ((hc313 (HL.le.refl _) hst) 2 _ z))) (ws_q (v := .bool (decide (x319.Index < x294.Index))) 55 [56, 57, 58] (by kernel_rfl) z z (yi_run ((wanted_eq z z z (cvb hc331)).trans z) (fun w hst => z)) (ws_q (v := .bool (decide (x319.Index < x294.Index))) 56 [57, 58] (by kernel_rfl) z z (yi_run ((wanted_eq z z z (cvb hc330)).trans z) (fun w hst => x_pick_t hc331 z z)) (ws_q (v := .bool (decide (x319.Index < x294.Index))) 57 [58] (by kernel_rfl) z z (yi_run ((wanted_eq z z z (cvb hc317)).trans z) (fun w hst => x_pick_f hc330 z z)) ?_))))))))))))
 refine wsr (.bool (decide (x319.Index < x294.Index))) 58 z z z (by kernel_rfl) (fun w hst => x_pick_t hc317 z z) ?_
 refine ws_nil ?_
 intro w hst
 refine tn ?_
 refine bsplit (decide (x319.Index < x294.Index)) (fun hc332 => ?_) (fun hc332 => ?_)
 {
 replace hm := bif_t hc332 hm
 refine wp_ift (cvb hc332) ?_
 refine wrl (wv (.int .i64 z284) z z z (wv (.int .i64 z284) z z z (wl_nil (blk_n (tn (wrl (wv (.int .i64 z284) z z z (wv (.int .i64 (i64.wrap (z284 + (1:Int)))) z z z (wv (.int .i64 (i64.wrap (z284 + (1:Int)))) z z z (wl_nil (tn ?_)))))))))))
 replace hst := hst.keep0
 obtain rfl := some_inj hm
 exact ⟨_, Nat.lt_succ_self _, z284, (i64.wrap (z284 + (1:Int))), _, hx291, (fu 0 r0_0 z (fu 1 (.float .f64 a1) z (fu 2 (.int .u64 a2) z (fu 7 (.int .i64 z284) z (fu 8 (.int .i64 (i64.wrap (z284 + (1:Int)))) z z))))), hst⟩
}
 {
 replace hm := bif_f hc332 hm
 refine wp_iff (cvb hc332) ?_
 refine wp_skip (blk_n (tn (wrl ?_)))
 refine wv (.int .i64 z284) z z z (wv (.int .i64 (i64.wrap (z284 + (1:Int)))) z z z (wv (.int .i64 (i64.wrap (z284 + (1:Int)))) z z z (wl_nil (tn ?_))))
 replace hst := hst.keep0
 obtain rfl := some_inj hm
 exact ⟨_, Nat.lt_succ_self _, z283, (i64.wrap (z284 + (1:Int))), _, hx291, (fu 0 r0_0 z (fu 1 (.float .f64 a1) z (fu 2 (.int .u64 a2) z (fu 7 (.int .i64 z283) z (fu 8 (.int .i64 (i64.wrap (z284 + (1:Int)))) z z))))), hst⟩
}
}
 {
 replace hm := bif_f hc331 hm
 refine ws_q (v := undef) 45 [46, 47, 48, 49, 50, 51, 52, 53, 54, 55, 56, 57, 58] (by kernel_rfl) z z (yi_off ((wanted_eq z z z (cvb hc331)).trans z)) (ws_q (v := undef) 46 [47, 48, 49, 50, 51, 52, 53, 54, 55, 56, 57, 58] (by kernel_rfl) z z (yi_off ((wanted_eq z z z (cvb hc331)).trans z)) (ws_q (v := undef) 47 [48, 49, 50, 51, 52, 53, 54, 55, 56, 57, 58] (by kernel_rfl) z z (yi_off ((wanted_eq z z z (cvb hc331)).trans z)) (ws_q (v := undef) 48 [49, 50, 51, 52, 53, 54, 55, 56, 57, 58] (by kernel_rfl) z z (yi_off ((wanted_eq z z z (cvb hc331)).trans z)) (ws_q (v := undef) 49 [50, 51, 52, 53, 54, 55, 56, 57, 58] (by kernel_rfl) z z (yi_off ((wanted_eq z z z (cvb hc331)).trans z)) (ws_q (v := undef) 50 [51, 52, 53, 54, 55, 56, 57, 58] (by kernel_rfl) z z (yi_off ((wanted_eq z z z (cvb hc331)).trans z)) (ws_q (v := undef) 51 [52, 53, 54, 55, 56, 57, 58] (by kernel_rfl) z z (yi_off ((wanted_eq z z z (cvb hc331)).trans z)) (ws_q (v := undef) 52 [53, 54, 55, 56, 57, 58] (by kernel_rfl) z z (yi_off ((wanted_eq z z z (cvb hc331)).trans z)) (ws_q (v := undef) 53 [54, 55, 56, 57, 58] (by kernel_rfl) z z (yi_off ((wanted_eq z z z (cvb hc331)).trans z)) (ws_q (v := undef) 54 [55, 56, 57, 58] (by kernel_rfl) z z (yi_off ((wanted_eq z z z (cvb hc331)).trans z)) (ws_q (v := undef) 55 [56, 57, 58] (by kernel_rfl) z z (yi_off ((wanted_eq z z z (cvb hc331)).trans z)) (ws_q (v := .bool false) 56 [57, 58] (by kernel_rfl) z z (yi_run ((wanted_eq z z z (cvb hc330)).trans z) (fun w hst => x_pick_f hc331 z z)) (ws_q (v := .bool false) 57 [58] (by kernel_rfl) z z (yi_run ((wanted_eq z z z (cvb hc317)).trans z) (fun w hst => x_pick_f hc330 z z)) ?_))))))))))))
 refine wsr (.bool false) 58 z z z (by kernel_rfl) (fun w hst => x_pick_t hc317 z z) ?_
 refine ws_nil ?_
 intro w hst
 refine tn ?_
 refine wp_iff z ?_
 refine wp_skip (blk_n (tn (wrl ?_)))
 refine wv (.int .i64 z284) z z z (wv (.int .i64 (i64.wrap (z284 + (1:Int)))) z z z (wv (.int .i64 (i64.wrap (z284 + (1:Int)))) z z z (wl_nil (tn ?_))))
 replace hst := hst.keep0
 obtain rfl := some_inj hm
 exact ⟨_, Nat.lt_succ_self _, z283, (i64.wrap (z284 + (1:Int))), _, hx291, (fu 0 r0_0 z (fu 1 (.float .f64 a1) z (fu 2 (.int .u64 a2) z (fu 7 (.int .i64 z283) z (fu 8 (.int .i64 (i64.wrap (z284 + (1:Int)))) z z))))), hst⟩
}
}
}
}
 {
 replace hm := bif_f hc317 hm
 refine ws_q (v := undef) 17 [18, 19, 20, 21, 22, 23, 24, 25, 26, 27, 28, 29, 30, 31, 32, 33, 34, 35, 36, 37, 38, 39, 40, 41, 42, 43, 44, 45, 46, 47, 48, 49, 50, 51, 52, 53, 54, 55, 56, 57, 58] (by kernel_rfl) z z (yi_off ((wanted_eq z z z (cvb hc317)).trans z)) (ws_q (v := undef) 18 [19, 20, 21, 22, 23, 24, 25, 26, 27, 28, 29, 30, 31, 32, 33, 34, 35, 36, 37, 38, 39, 40, 41, 42, 43, 44, 45, 46, 47, 48, 49, 50, 51, 52, 53, 54, 55, 56, 57, 58] (by kernel_rfl) z z (yi_off ((wanted_eq z z z (cvb hc317)).trans z)) (ws_q (v := undef) 19 [20, 21, 22, 23, 24, 25, 26, 27, 28, 29, 30, 31, 32, 33, 34, 35, 36, 37, 38, 39, 40, 41, 42, 43, 44, 45, 46, 47, 48, 49, 50, 51, 52, 53, 54, 55, 56, 57, 58] (by kernel_rfl) z z (yi_off ((wanted_eq z z z (cvb hc317)).trans z)) (ws_q (v := undef) 20 [21, 22, 23, 24, 25, 26, 27, 28, 29, 30, 31, 32, 33, 34, 35, 36, 37, 38, 39, 40, 41, 42, 43, 44, 45, 46, 47, 48, 49, 50, 51, 52, 53, 54, 55, 56, 57, 58] (by kernel_rfl) z z (yi_off (wanted_undef z z z z)) (ws_q (v := undef) 21 [22, 23, 24, 25, 26, 27, 28, 29, 30, 31, 32, 33, 34, 35, 36, 37, 38, 39, 40, 41, 42, 43, 44, 45, 46, 47, 48, 49, 50, 51, 52, 53, 54, 55, 56, 57, 58] (by kernel_rfl) z z (yi_off (wanted_undef z z z z)) (ws_q (v := undef) 22 [23, 24, 25, 26, 27, 28, 29, 30, 31, 32, 33, 34, 35, 36, 37, 38, 39, 40, 41, 42, 43, 44, 45, 46, 47, 48, 49, 50, 51, 52, 53, 54, 55, 56, 57, 58] (by kernel_rfl) z z (yi_off (wanted_undef z z z z)) (ws_q (v := undef) 23 [24, 25, 26, 27, 28, 29, 30, 31, 32, 33, 34, 35, 36, 37, 38, 39, 40, 41, 42, 43, 44, 45, 46, 47, 48, 49, 50, 51, 52, 53, 54, 55, 56, 57, 58] (by kernel_rfl) z z (yi_off (wanted_undef z z z z)) (ws_q (v := undef) 24 [25, 26, 27, 28, 29, 30, 31, 32, 33, 34, 35, 36, 37, 38, 39, 40, 41, 42, 43, 44, 45, 46, 47, 48, 49, 50, 51, 52, 53, 54, 55, 56, 57, 58] (by kernel_rfl) z z (yi_off (wanted_undef z z z z)) (ws_q (v := undef) 25 [26, 27, 28, 29, 30, 31, 32, 33, 34, 35, 36, 37, 38, 39, 40, 41, 42, 43, 44, 45, 46, 47, 48, 49, 50, 51, 52, 53, 54, 55, 56, 57, 58] (by kernel_rfl) z z (yi_off (wanted_undef z z z z)) (ws_q (v := undef) 26 [27, 28, 29, 30, 31, 32, 33, 34, 35, 36, 37, 38, 39, 40, 41, 42, 43, 44, 45, 46, 47, 48, 49, 50, 51, 52, 53, 54, 55, 56, 57, 58] (by kernel_rfl) z z (yi_off (wanted_undef z z z z)) (ws_q (v := undef) 27 [28, 29, 30, 31, 32, 33, 34, 35, 36, 37, 38, 39, 40, 41, 42, 43, 44, 45, 46, 47, 48, 49, 50, 51, 52, 53, 54, 55, 56, 57, 58] (by kernel_rfl) z z (yi_off (wanted_undef z z z z)) (ws_q (v := undef) 28 [29, 30, 31, 32, 33, 34, 35, 36, 37, 38, 39, 40, 41, 42, 43, 44, 45, 46, 47, 48, 49, 50, 51, 52, 53, 54, 55, 56, 57, 58] (by kernel_rfl) z z (yi_off (wanted_undef z z z z)) (ws_q (v := undef) 29 [30, 31, 32, 33, 34, 35, 36, 37, 38, 39, 40, 41, 42, 43, 44, 45, 46, 47, 48, 49, 50, 51, 52, 53, 54, 55, 56, 57, 58] (by kernel_rfl) z z (yi_off (wanted_undef z z z z)) ?_))))))))))))
 refine ws_q (v := undef) 30 [31, 32, 33, 34, 35, 36, 37, 38, 39, 40, 41, 42, 43, 44, 45, 46, 47, 48, 49, 50, 51, 52, 53, 54, 55, 56, 57, 58] (by kernel_rfl) z z (yi_off (wanted_undef z z z z)) (ws_q (v := undef) 31 [32, 33, 34, 35, 36, 37, 38, 39, 40, 41, 42, 43, 44, 45, 46, 47, 48, 49, 50, 51, 52, 53, 54, 55, 56, 57, 58] (by kernel_rfl) z z (yi_off ((wanted_eq z z z (cvb hc317)).trans z)) (ws_q (v := undef) 32 [33, 34, 35, 36, 37, 38, 39, 40, 41, 42, 43, 44, 45, 46, 47, 48, 49, 50, 51, 52, 53, 54, 55, 56, 57, 58] (by kernel_rfl) z z (yi_off ((wanted_eq z z z (cvb hc317)).trans z)) (ws_q (v := undef) 33 [34, 35, 36, 37, 38, 39, 40, 41, 42, 43, 44, 45, 46, 47, 48, 49, 50, 51, 52, 53, 54, 55, 56, 57, 58] (by kernel_rfl) z z (yi_off (wanted_undef z z z z)) (ws_q (v := undef) 34 [35, 36, 37, 38, 39, 40, 41, 42, 43, 44, 45, 46, 47, 48, 49, 50, 51, 52, 53, 54, 55, 56, 57, 58] (by kernel_rfl) z z (yi_off (wanted_undef z z z z)) (ws_q (v := undef) 35 [36, 37, 38, 39, 40, 41, 42, 43, 44, 45, 46, 47, 48, 49, 50, 51, 52, 53, 54, 55, 56, 57, 58] (by kernel_rfl) z z (yi_off (wanted_undef z z z z)) (ws_q (v := undef) 36 [37, 38, 39, 40, 41, 42, 43, 44, 45, 46, 47, 48, 49, 50, 51, 52, 53, 54, 55, 56, 57, 58] (by kernel_rfl) z z (yi_off (wanted_undef z z z z)) (ws_q (v := undef) 37 [38, 39, 40, 41, 42, 43, 44, 45, 46, 47, 48, 49, 50, 51, 52, 53, 54, 55, 56, 57, 58] (by kernel_rfl) z z (yi_off (wanted_undef z z z z)) (ws_q (v := undef) 38 [39, 40, 41, 42, 43, 44, 45, 46, 47, 48, 49, 50, 51, 52, 53, 54, 55, 56, 57, 58] (by kernel_rfl) z z (yi_off (wanted_undef z z z z)) (ws_q (v := undef) 39 [40, 41, 42, 43, 44, 45, 46, 47, 48, 49, 50, 51, 52, 53, 54, 55, 56, 57, 58] (by kernel_rfl) z z (yi_off (wanted_undef z z z z)) (ws_q (v := undef) 40 [41, 42, 43, 44, 45, 46, 47, 48, 49, 50, 51, 52, 53, 54, 55, 56, 57, 58] (by kernel_rfl) z z (yi_off (wanted_undef z z z z)) (ws_q (v := undef) 41 [42, 43, 44, 45, 46, 47, 48, 49, 50, 51, 52, 53, 54, 55, 56, 57, 58] (by kernel_rfl) z z (yi_off (wanted_undef z z z z)) (ws_q (v := undef) 42 [43, 44, 45, 46, 47, 48, 49, 50, 51, 52, 53, 54, 55, 56, 57, 58] (by kernel_rfl) z z (yi_off (wanted_undef z z z z)) ?_))))))))))))
 refine ws_q (v := undef) 43 [44, 45, 46, 47, 48, 49, 50, 51, 52, 53, 54, 55, 56, 57, 58] (by kernel_rfl) z z (yi_off (wanted_undef z z z z)) (ws_q (v := undef) 44 [45, 46, 47, 48, 49, 50, 51, 52, 53, 54, 55, 56, 57, 58] (by kernel_rfl) z z (yi_off (wanted_undef z z z z)) (ws_q (v := undef) 45 [46, 47, 48, 49, 50, 51, 52, 53, 54, 55, 56, 57, 58] (by kernel_rfl) z z (yi_off (wanted_undef z z z z)) (ws_q (v := undef) 46 [47, 48, 49, 50, 51, 52, 53, 54, 55, 56, 57, 58] (by kernel_rfl) z z (yi_off (wanted_undef z z z z)) (ws_q (v := undef) 47 [48, 49, 50, 51, 52, 53, 54, 55, 56, 57, 58] (by kernel_rfl) z z (yi_off (wanted_undef z z z z)) (ws_q (v := undef) 48 [49, 50, 51, 52, 53, 54, 55, 56, 57, 58] (by kernel_rfl) z z (yi_off (wanted_undef z z z z)) (ws_q (v := undef) 49 [50, 51, 52, 53, 54, 55, 56, 57, 58] (by kernel_rfl) z z (yi_off (wanted_undef z z z z)) (ws_q (v := undef) 50 [51, 52, 53, 54, 55, 56, 57, 58] (by kernel_rfl) z z (yi_off (wanted_undef z z z z)) (ws_q (v := undef) 51 [52, 53, 54, 55, 56, 57, 58] (by kernel_rfl) z z (yi_off (wanted_undef z z z z)) (ws_q (v := undef) 52 [53, 54, 55, 56, 57, 58] (by kernel_rfl) z z (yi_off (wanted_undef z z z z)) (ws_q (v := undef) 53 [54, 55, 56, 57, 58] (by kernel_rfl) z z (yi_off (wanted_undef z z z z)) (ws_q (v := undef) 54 [55, 56, 57, 58] (by kernel_rfl) z z (yi_off (wanted_undef z z z z)) (ws_q (v := undef) 55 [56, 57, 58] (by kernel_rfl) z z (yi_off (wanted_undef z z z z)) ?_))))))))))))
 refine ws_q (v := undef) 56 [57, 58] (by kernel_rfl) z z (yi_off (wanted_undef z z z z)) (ws_q (v := undef) 57 [58] (by kernel_rfl) z z (yi_off ((wanted_eq z z z (cvb hc317)).trans z)) (wsr (.bool false) 58 z z z (by kernel_rfl) (fun w hst => x_pick_f hc317 z z) ?_))
 refine ws_nil ?_
 intro w hst
 refine tn ?_
 refine wp_iff z ?_
 refine wp_skip (blk_n (tn (wrl ?_)))
 refine wv (.int .i64 z284) z z z (wv (.int .i64 (i64.wrap (z284 + (1:Int)))) z z z (wv (.int .i64 (i64.wrap (z284 + (1:Int)))) z z z (wl_nil (tn ?_))))
 replace hst := hst.keep0
 obtain rfl := some_inj hm
 exact ⟨_, Nat.lt_succ_self _, z283, (i64.wrap (z284 + (1:Int))), _, hx291, (fu 0 r0_0 z (fu 1 (.float .f64 a1) z (fu 2 (.int .u64 a2) z (fu 7 (.int .i64 z283) z (fu 8 (.int .i64 (i64.wrap (z284 + (1:Int)))) z z))))), hst⟩
}
}
 {
 replace hm := bif_f hc310 hm
 refine ws_q (v := undef) 8 [9, 10, 11, 12, 13, 14, 15, 16, 17, 18, 19, 20, 21, 22, 23, 24, 25, 26, 27, 28, 29, 30, 31, 32, 33, 34, 35, 36, 37, 38, 39, 40, 41, 42, 43, 44, 45, 46, 47, 48, 49, 50, 51, 52, 53, 54, 55, 56, 57, 58] (by kernel_rfl) z z (yi_off ((wanted_eq z z z (cvb hc310)).trans z)) (ws_q (v := undef) 9 [10, 11, 12, 13, 14, 15, 16, 17, 18, 19, 20, 21, 22, 23, 24, 25, 26, 27, 28, 29, 30, 31, 32, 33, 34, 35, 36, 37, 38, 39, 40, 41, 42, 43, 44, 45, 46, 47, 48, 49, 50, 51, 52, 53, 54, 55, 56, 57, 58] (by kernel_rfl) z z (yi_off ((wanted_eq z z z (cvb hc310)).trans z)) (ws_q (v := undef) 10 [11, 12, 13, 14, 15, 16, 17, 18, 19, 20, 21, 22, 23, 24, 25, 26, 27, 28, 29, 30, 31, 32, 33, 34, 35, 36, 37, 38, 39, 40, 41, 42, 43, 44, 45, 46, 47, 48, 49, 50, 51, 52, 53, 54, 55, 56, 57, 58] (by kernel_rfl) z z (yi_off ((wanted_eq z z z (cvb hc310)).trans z)) (ws_q (v := undef) 11 [12, 13, 14, 15, 16, 17, 18, 19, 20, 21, 22, 23, 24, 25, 26, 27, 28, 29, 30, 31, 32, 33, 34, 35, 36, 37, 38, 39, 40, 41, 42, 43, 44, 45, 46, 47, 48, 49, 50, 51, 52, 53, 54, 55, 56, 57, 58] (by kernel_rfl) z z (yi_off ((wanted_eq z z z (cvb hc310)).trans z)) (ws_q (v := undef) 12 [13, 14, 15, 16, 17, 18, 19, 20, 21, 22, 23, 24, 25, 26, 27, 28, 29, 30, 31, 32, 33, 34, 35, 36, 37, 38, 39, 40, 41, 42, 43, 44, 45, 46, 47, 48, 49, 50, 51, 52, 53, 54, 55, 56, 57, 58] (by kernel_rfl) z z (yi_off ((wanted_eq z z z (cvb hc310)).trans z)) (ws_q (v := undef) 13 [14, 15, 16, 17, 18, 19, 20, 21, 22, 23, 24, 25, 26, 27, 28, 29, 30, 31, 32, 33, 34, 35, 36, 37, 38, 39, 40, 41, 42, 43, 44, 45, 46, 47, 48, 49, 50, 51, 52, 53, 54, 55, 56, 57, 58] (by kernel_rfl) z z (yi_off ((wanted_eq z z z (cvb hc310)).trans z)) (ws_q (v := undef) 14 [15, 16, 17, 18, 19, 20, 21, 22, 23, 24, 25, 26, 27, 28, 29, 30, 31, 32, 33, 34, 35, 36, 37, 38, 39, 40, 41, 42, 43, 44, 45, 46, 47, 48, 49, 50, 51, 52, 53, 54, 55, 56, 57, 58] (by kernel_rfl) z z (yi_off ((wanted_eq z z z (cvb hc310)).trans z)) (wsr (.bool false) 15 z z z (by kernel_rfl) (fun w hst => x_pick_f hc310 z z) (wsr (.bool false) 16 z z z (by kernel_rfl) (fun w hst => z) (ws_q (v := undef) 17 [18, 19, 20, 21, 22, 23, 24, 25, 26, 27, 28, 29, 30, 31, 32, 33, 34, 35, 36, 37, 38, 39, 40, 41, 42, 43, 44, 45, 46, 47, 48, 49, 50, 51, 52, 53, 54, 55, 56, 57, 58] (by kernel_rfl) z z (yi_off ((wanted_eq z z z z).trans z)) (ws_q (v := undef) 18 [19, 20, 21, 22, 23, 24, 25, 26, 27, 28, 29, 30, 31, 32, 33, 34, 35, 36, 37, 38, 39, 40, 41, 42, 43, 44, 45, 46, 47, 48, 49, 50, 51, 52, 53, 54, 55, 56, 57, 58] (by kernel_rfl) z z (yi_off ((wanted_eq z z z z).trans z)) (ws_q (v := undef) 19 [20, 21, 22, 23, 24, 25, 26, 27, 28, 29, 30, 31, 32, 33, 34, 35, 36, 37, 38, 39, 40, 41, 42, 43, 44, 45, 46, 47, 48, 49, 50, 51, 52, 53, 54, 55, 56, 57, 58] (by kernel_rfl) z z (yi_off ((wanted_eq z z z z).trans z)) (ws_q (v := undef) 20 [21, 22, 23, 24, 25, 26, 27, 28, 29, 30, 31, 32, 33, 34, 35, 36, 37, 38, 39, 40, 41, 42, 43, 44, 45, 46, 47, 48, 49, 50, 51, 52, 53, 54, 55, 56, 57, 58] (by kernel_rfl) z z (yi_off (wanted_undef z z z z)) ?_))))))))))))
 refine ws_q (v := undef) 21 [22, 23, 24, 25, 26, 27, 28, 29, 30, 31, 32, 33, 34, 35, 36, 37, 38, 39, 40, 41, 42, 43, 44, 45, 46, 47, 48, 49, 50, 51, 52, 53, 54, 55, 56, 57, 58] (by kernel_rfl) z z (yi_off (wanted_undef z z z z)) (ws_q (v := undef) 22 [23, 24, 25, 26, 27, 28, 29, 30, 31, 32, 33, 34, 35, 36, 37, 38, 39, 40, 41, 42, 43, 44, 45, 46, 47, 48, 49, 50, 51, 52, 53, 54, 55, 56, 57, 58] (by kernel_rfl) z z (yi_off (wanted_undef z z z z)) (ws_q (v := undef) 23 [24, 25, 26, 27, 28, 29, 30, 31, 32, 33, 34, 35, 36, 37, 38, 39, 40, 41, 42, 43, 44, 45, 46, 47, 48, 49, 50, 51, 52, 53, 54, 55, 56, 57, 58] (by kernel_rfl) z z (yi_off (wanted_undef z z z z)) (ws_q (v := undef) 24 [25, 26, 27, 28, 29, 30, 31, 32, 33, 34, 35, 36, 37, 38, 39, 40, 41, 42, 43, 44, 45, 46, 47, 48, 49, 50, 51, 52, 53, 54, 55, 56, 57, 58] (by kernel_rfl) z z (yi_off (wanted_undef z z z z)) (ws_q (v := undef) 25 [26, 27, 28, 29, 30, 31, 32, 33, 34, 35, 36, 37, 38, 39, 40, 41, 42, 43, 44, 45, 46, 47, 48, 49, 50, 51, 52, 53, 54, 55, 56, 57, 58] (by kernel_rfl) z z (yi_off (wanted_undef z z z z)) (ws_q (v := undef) 26 [27, 28, 29, 30, 31, 32, 33, 34, 35, 36, 37, 38, 39, 40, 41, 42, 43, 44, 45, 46, 47, 48, 49, 50, 51, 52, 53, 54, 55, 56, 57, 58] (by kernel_rfl) z z (yi_off (wanted_undef z z z z)) (ws_q (v := undef) 27 [28, 29, 30, 31, 32, 33, 34, 35, 36, 37, 38, 39, 40, 41, 42, 43, 44, 45, 46, 47, 48, 49, 50, 51, 52, 53, 54, 55, 56, 57, 58] (by kernel_rfl) z z (yi_off (wanted_undef z z z z)) (ws_q (v := undef) 28 [29, 30, 31, 32, 33, 34, 35, 36, 37, 38, 39, 40, 41, 42, 43, 44, 45, 46, 47, 48, 49, 50, 51, 52, 53, 54, 55, 56, 57, 58] (by kernel_rfl) z z (yi_off (wanted_undef z z z z)) (ws_q (v := undef) 29 [30, 31, 32, 33, 34, 35, 36, 37, 38, 39, 40, 41, 42, 43, 44, 45, 46, 47, 48, 49, 50, 51, 52, 53, 54, 55, 56, 57, 58] (by kernel_rfl) z z (yi_off (wanted_undef z z z z)) (ws_q (v := undef) 30 [31, 32, 33, 34, 35, 36, 37, 38, 39, 40, 41, 42, 43, 44, 45, 46, 47, 48, 49, 50, 51, 52, 53, 54, 55, 56, 57, 58] (by kernel_rfl) z z (yi_off (wanted_undef z z z z)) (ws_q (v := undef) 31 [32, 33, 34, 35, 36, 37, 38, 39, 40, 41, 42, 43, 44, 45, 46, 47, 48, 49, 50, 51, 52, 53, 54, 55, 56, 57, 58] (by kernel_rfl) z z (yi_off ((wanted_eq z z z z).trans z)) (ws_q (v := undef) 32 [33, 34, 35, 36, 37, 38, 39, 40, 41, 42, 43, 44, 45, 46, 47, 48, 49, 50, 51, 52, 53, 54, 55, 56, 57, 58] (by kernel_rfl) z z (yi_off ((wanted_eq z z z z).trans z)) (ws_q (v := undef) 33 [34, 35, 36, 37, 38, 39, 40, 41, 42, 43, 44, 45, 46, 47, 48, 49, 50, 51, 52, 53, 54, 55, 56, 57, 58] (by kernel_rfl) z z (yi_off (wanted_undef z z z z)) ?_))))))))))))
 refine ws_q (v := undef) 34 [35, 36, 37, 38, 39, 40, 41, 42, 43, 44, 45, 46, 47, 48, 49, 50, 51, 52, 53, 54, 55, 56, 57, 58] (by kernel_rfl) z z (yi_off (wanted_undef z z z z)) (ws_q (v := undef) 35 [36, 37, 38, 39, 40, 41, 42, 43, 44, 45, 46, 47, 48, 49, 50, 51, 52, 53, 54, 55, 56, 57, 58] (by kernel_rfl) z z (yi_off (wanted_undef z z z z)) (ws_q (v := undef) 36 [37, 38, 39, 40, 41, 42, 43, 44, 45, 46, 47, 48, 49, 50, 51, 52, 53, 54, 55, 56, 57, 58] (by kernel_rfl) z z (yi_off (wanted_undef z z z z)) (ws_q (v := undef) 37 [38, 39, 40, 41, 42, 43, 44, 45, 46, 47, 48, 49, 50, 51, 52, 53, 54, 55, 56, 57, 58] (by kernel_rfl) z z (yi_off (wanted_undef z z z z)) (ws_q (v := undef) 38 [39, 40, 41, 42, 43, 44, 45, 46, 47, 48, 49, 50, 51, 52, 53, 54, 55, 56, 57, 58] (by kernel_rfl) z z (yi_off (wanted_undef z z z z)) (ws_q (v := undef) 39 [40, 41, 42, 43, 44, 45, 46, 47, 48, 49, 50, 51, 52, 53, 54, 55, 56, 57, 58] (by kernel_rfl) z z (yi_off (wanted_undef z z z z)) (ws_q (v := undef) 40 [41, 42, 43, 44, 45, 46, 47, 48, 49, 50, 51, 52, 53, 54, 55, 56, 57, 58] (by kernel_rfl) z z (yi_off (wanted_undef z z z z)) (ws_q (v := undef) 41 [42, 43, 44, 45, 46, 47, 48, 49, 50, 51, 52, 53, 54, 55, 56, 57, 58] (by kernel_rfl) z z (yi_off (wanted_undef z z z z)) (ws_q (v := undef) 42 [43, 44, 45, 46, 47, 48, 49, 50, 51, 52, 53, 54, 55, 56, 57, 58] (by kernel_rfl) z z (yi_off (wanted_undef z z z z)) (ws_q (v := undef) 43 [44, 45, 46, 47, 48, 49, 50, 51, 52, 53, 54, 55, 56, 57, 58] (by kernel_rfl) z z (yi_off (wanted_undef z z z z)) (ws_q (v := undef) 44 [45, 46, 47, 48, 49, 50, 51, 52, 53, 54, 55, 56, 57, 58] (by kernel_rfl) z z (yi_off (wanted_undef z z z z)) (ws_q (v := undef) 45 [46, 47, 48, 49, 50, 51, 52, 53, 54, 55, 56, 57, 58] (by kernel_rfl) z z (yi_off (wanted_undef z z z z)) (ws_q (v := undef) 46 [47, 48, 49, 50, 51, 52, 53, 54, 55, 56, 57, 58] (by kernel_rfl) z z (yi_off (wanted_undef z z z z)) ?_))))))))))))
 refine ws_q (v := undef) 47 [48, 49, 50, 51, 52, 53, 54, 55, 56, 57, 58] (by kernel_rfl) z z (yi_off (wanted_undef z z z z)) (ws_q (v := undef) 48 [49, 50, 51, 52, 53, 54, 55, 56, 57, 58] (by kernel_rfl) z z (yi_off (wanted_undef z z z z)) (ws_q (v := undef) 49 [50, 51, 52, 53, 54, 55, 56, 57, 58] (by kernel_rfl) z z (yi_off (wanted_undef z z z z)) (ws_q (v := undef) 50 [51, 52, 53, 54, 55, 56, 57, 58] (by kernel_rfl) z z (yi_off (wanted_undef z z z z)) (ws_q (v := undef) 51 [52, 53, 54, 55, 56, 57, 58] (by kernel_rfl) z z (yi_off (wanted_undef z z z z)) (ws_q (v := undef) 52 [53, 54, 55, 56, 57, 58] (by kernel_rfl) z z (yi_off (wanted_undef z z z z)) (ws_q (v := undef) 53 [54, 55, 56, 57, 58] (by kernel_rfl) z z (yi_off (wanted_undef z z z z)) (ws_q (v := undef) 54 [55, 56, 57, 58] (by kernel_rfl) z z (yi_off (wanted_undef z z z z)) (ws_q (v := undef) 55 [56, 57, 58] (by kernel_rfl) z z (yi_off (wanted_undef z z z z)) (ws_q (v := undef) 56 [57, 58] (by kernel_rfl) z z (yi_off (wanted_undef z z z z)) (ws_q (v := undef) 57 [58] (by kernel_rfl) z z (yi_off ((wanted_eq z z z z).trans z)) (wsr (.bool false) 58 z z z (by kernel_rfl) (fun w hst => x_pick_f z z z) ?_)))))))))))
 refine ws_nil ?_
 intro w hst
 refine tn ?_
 refine wp_iff z ?_
 refine wp_skip (blk_n (tn (wrl ?_)))
 refine wv (.int .i64 z284) z z z (wv (.int .i64 (i64.wrap (z284 + (1:Int)))) z z z (wv (.int .i64 (i64.wrap (z284 + (1:Int)))) z z z (wl_nil (tn ?_))))
 replace hst := hst.keep0
 obtain rfl := some_inj hm
 exact ⟨_, Nat.lt_succ_self _, z283, (i64.wrap (z284 + (1:Int))), _, hx291, (fu 0 r0_0 z (fu 1 (.float .f64 a1) z (fu 2 (.int .u64 a2) z (fu 7 (.int .i64 z283) z (fu 8 (.int .i64 (i64.wrap (z284 + (1:Int)))) z z))))), hst⟩
}
}
 {
 replace hm := bif_f hc293 hm
 refine wp_iff (cvb hc293) ?_
 refine wp_exit (then_x (then_x ?_))
 replace hm := inr_up hm hx291
 refine blk_x (tn (wp_seq (wrl ?_)))
 refine wv (.int .i64 z283) z z z (wv (.int .i64 z283) z z z (wl_nil (tn (wp_ret ?_))))
 obtain rfl := some_inj hm
 refine post_ret (vs := [I6 z283]) results34 (rvs_cons (rv_tmp z) rvs_nil) ?_
 exact ⟨z, hst.keep0⟩
}
}

theorem ref11_Get_ref {w0 w : World} {I : HL} {R : SP} {a0 : (List ref11_Version)} {r0_0 : Value} {a1 : Nat} {a2 : Int} (f0_0 : Ro ty_ref11_Version I r0_0 a0) (hst : St w0 w I [] R) {r : (api_Got)} (hm : ref11_Get a0 a1 a2 = some r) :
  Calls prog 14 #[r0_0, F6 a1, U6 a2] w fun e w' => ∃ (I' : HL) (q0_0 : Value), e = .returned (.agg #[.bool r.Has, q0_0]) ∧ I.le I' ∧ Ro (tyInt .u8) I' q0_0 r.Val ∧ St w0 w' I' [] R := by {
 unfold ref11_Get at hm
 refine calls_start (args := [r0_0, F6 a1, U6 a2]) func14 z ntmps14 (Nat.le_of_ble_eq_true z) ?_
 have hI0 := HL.le.refl I
 refine wp_seq (wrl ?_)
 obtain ⟨b96, w97, ew98, eb99, hst⟩ := hst.box [.bool false, Zs] 34
 refine wl_run (v := Pt b96 0) (w' := w97) z z (x_al (by kernel_rfl) ew98 eb99) ?_
 refine wl_nil (tn (wp_seq (wrl (wv (r0_0) z z z (wv (.float .f64 a1) z z z (wv (.int .u64 a2) z z z ?_))))))
 obtain ⟨t101, ht102, hm⟩ := bind_some hm
 refine wc call34 [r0_0, F6 a1, U6 a2] z z z ?_
 refine (ref11_last_ref (f0_0.mono ro_rd) hst.to0 ht102).mono ?_
 rintro _ w103 ⟨rfl, hst⟩
 refine ⟨_, z, ?_⟩
 replace hst := hst.of0
 refine wv (.int .i64 t101) z z z (wl_nil (tn (wp_seq (wp_seq (wrl (wv (.int .i64 t101) z z z (wv (.bool (decide (t101 < (0:Int)))) z z z (wv (.bool (decide (t101 < (0:Int)))) z z z ?_))))))))
 refine bsplit (decide (t101 < (0:Int))) (fun hc106 => ?_) (fun hc106 => ?_)
 {
 replace hm := bif_t hc106 hm
 refine wo hc106 z z z z z z (wo hc106 z z z z z z (wo hc106 z z z z z z (wo hc106 z z z z z z (wo hc106 z z z z z z (wv (.bool true) z z (x_pick_t hc106 z z) (wl_nil (tn ?_)))))))
 refine wp_ift z ?_
 refine wp_seq (wrl (wv (.agg #[.bool false, Zs]) z z (by kernel_rfl) ?_))
 obtain ⟨w108, hr109, hst⟩ := hst.bx [.bool false, Zs] sizeOf34 z (oC z (oC z oN)) (by kernel_rfl)
 refine wl_unit z z (x_unit hr109) ?_
 refine wl_nil (tn (wp_ret (then_r ?_)))
 have f110 : Ro (tyInt .u8) I (.slice none 0 0) [] := ro_nil
 obtain rfl := some_inj hm
 refine post_ret (vs := [.agg #[.bool false, Zs]]) results14 (rvs_cons (rv_cell (cs := [.bool false, Zs]) z isAgg34 sizeOf34 (hst.bcs0 0 z)) rvs_nil) ?_
 exact ⟨_, Zs, z, hI0, f110, hst.keep0⟩
}
 {
 replace hm := bif_f hc106 hm
 refine wv (r0_0) ((wanted_eq z z z (cvb hc106)).trans z) z z (wv (.int .i64 t101) ((wanted_eq z z z (cvb hc106)).trans z) z z ?_)
 obtain ⟨x111, hx112, hm⟩ := bind_some hm
 obtain ⟨h113, h114, hi115⟩ := geto_some hx112
 refine wv (.pointer (some (eAddr r0_0 (t101.toNat * 5 + 0)))) ((wanted_eq z z z (cvb hc106)).trans z) z (x_index z z underlying26 sizeOf67 (ro_sliceV f0_0) h113 h114) (wv (.pointer (some (eAddr r0_0 (t101.toNat * 5 + 3)))) ((wanted_eq z z z (cvb hc106)).trans z) z (x_field_e z underlying67 z sizeOf4 z) ?_)
 obtain ⟨cs116, hr117, hc118⟩ := Ro.getF f0_0 hi115
 obtain ⟨v119, rfl, f120, -⟩ := hr117
 refine wv (.bool x111.Del) ((wanted_eq z z z (cvb hc106)).trans z) z (x_load z isAgg4 ((hc118 (HL.le.refl _) hst) 3 _ z)) (wv (.bool x111.Del) z z (x_pick_f hc106 z z) (wl_nil (tn ?_)))
 refine bsplit x111.Del (fun hc122 => ?_) (fun hc122 => ?_)
 {
 replace hm := bif_t hc122 hm
 refine wp_ift (cvb hc122) ?_
 refine wp_seq (wrl (wv (.agg #[.bool false, Zs]) z z (by kernel_rfl) ?_))
 obtain ⟨w124, hr125, hst⟩ := hst.bx [.bool false, Zs] sizeOf34 z (oC z (oC z oN)) (by kernel_rfl)
 refine wl_unit z z (x_unit hr125) ?_
 refine wl_nil (tn (wp_ret (then_r ?_)))
 have f126 : Ro (tyInt .u8) I (.slice none 0 0) [] := ro_nil
 obtain rfl := some_inj hm
 refine post_ret (vs := [.agg #[.bool false, Zs]]) results14 (rvs_cons (rv_cell (cs := [.bool false, Zs]) z isAgg34 sizeOf34 (hst.bcs0 0 z)) rvs_nil) ?_
 exact ⟨_, Zs, z, hI0, f126, hst.keep0⟩
}
 {
 replace hm := bif_f hc122 hm
 refine wp_iff (cvb hc122) ?_
 refine wp_skip (tn (wp_seq (wrl ?_)))
 refine wv (r0_0) z z z (wv (.int .i64 t101) z z z (wv (.pointer (some (eAddr r0_0 (t101.toNat * 5 + 0)))) z z (x_index z z underlying26 sizeOf67 (ro_sliceV f0_0) h113 h114) (wv (.pointer (some (eAddr r0_0 (t101.toNat * 5 + 4)))) z z (x_field_e z underlying67 z sizeOf32 z) (wv (v119) z z (x_load z isAgg32 ((hc118 (HL.le.refl _) hst) 4 _ z)) (wv (.agg #[.bool true, v119]) z z (by obtain ⟨_, _, hv_, _⟩ := (ro_sliceV f120); rw [hv_]; kernel_rfl) ?_)))))
 obtain ⟨w128, hr129, hst⟩ := hst.bx [.bool true, v119] sizeOf34 z (oC z (oC (one_of_sliceV (ro_sliceV f120)) oN)) (by kernel_rfl)
 refine wl_unit z z (x_unit hr129) ?_
 refine wl_nil (tn (wp_ret ?_))
 obtain rfl := some_inj hm
 refine post_ret (vs := [.agg #[.bool true, v119]]) results14 (rvs_cons (rv_cell (cs := [.bool true, v119]) z isAgg34 sizeOf34 (hst.bcs0 0 z)) rvs_nil) ?_
 exact ⟨_, v119, z, hI0, f120, hst.keep0⟩
}
}
}

theorem ref01_Within_ref {w0 w : World} {I : HL} {R : SP} {a0 : Nat} {a1 : Nat} {a2 : Nat}  (hst : St w0 w I [] R) {r : (Bool)} (hm : ref01_Within a0 a1 a2 = some r) :
  Calls prog 36 #[F6 a0, F6 a1, F6 a2] w fun e w' => e = .returned (.bool r) ∧ St w0 w' I [] R := by {
 unfold ref01_Within at hm
 refine calls_start (args := [F6 a0, F6 a1, F6 a2]) func36 z ntmps36 (Nat.le_of_ble_eq_true z) ?_
 refine wp_seq (wrl (wv (.bool false) z z z (wl_nil (tn (wp_seq (wrl (wv (.float .f64 a0) z z z (wv (.float .f64 a1) z z z ?_))))))))
 obtain ⟨t88, ht89, hm⟩ := bind_some hm
 refine wc call37 [F6 a0, F6 a1] z z z ?_
 refine (ref01_Ahead_ref hst.to0 ht89).mono ?_
 rintro _ w90 ⟨rfl, hst⟩
 refine ⟨_, z, ?_⟩
 replace hst := hst.of0
 refine wv (.bool (!t88)) z z z (wv (.bool (!t88)) z z z ?_)
 refine bsplit (!t88) (fun hc93 => ?_) (fun hc93 => ?_)
 {
 replace hm := bif_t hc93 hm
 refine wv (.float .f64 a2) ((wanted_eq z z z (cvb hc93)).trans z) z z (wv (.float .f64 a0) ((wanted_eq z z z (cvb hc93)).trans z) z z ?_)
 obtain ⟨t94, ht95, hm⟩ := bind_some hm
 refine wl_call ((wanted_eq z z z (cvb hc93)).trans z) z (x_call call37 z (vs := [F6 a2, F6 a0]) z) ?_
 refine (ref01_Ahead_ref hst.to0 ht95).mono ?_
 rintro _ w96 ⟨rfl, hst⟩
 refine ⟨_, z, ?_⟩
 replace hst := hst.of0
 refine wv (.bool (!t94)) ((wanted_eq z z z (cvb hc93)).trans z) z z (wv (.bool (!t94)) z z (x_pick_t hc93 z z) (wv (.bool (!t94)) z z z (wl_nil (tn (wp_ret ?_)))))
 obtain rfl := some_inj hm
 refine post_ret (vs := [.bool (!t94)]) results36 (rvs_cons (rv_tmp z) rvs_nil) ?_
 exact ⟨z, hst.keep0⟩
}
 {
 replace hm := bif_f hc93 hm
 refine wo hc93 z z z z z z (wo hc93 z z z z z z (wo hc93 z z z z z z (wo hc93 z z z z z z (wv (.bool false) z z (x_pick_f hc93 z z) (wv (.bool false) z z z (wl_nil (tn (wp_ret ?_))))))))
 obtain rfl := some_inj hm
 refine post_ret (vs := [.bool false]) results36 (rvs_cons (rv_tmp z) rvs_nil) ?_
 exact ⟨z, hst.keep0⟩
}
}

theorem ref11_Scan_ref {w0 w : World} {I : HL} {R : SP} {a0 : (List ref11_Version)} {r0_0 : Value} {a1 : Nat} {a2 : Nat} {a3 : Int} {a4 : Int} (f0_0 : Ro ty_ref11_Version I r0_0 a0) (hst : St w0 w I [] R) {r : ((List api_Pair))} (hm : ref11_Scan a0 a1 a2 a3 a4 = some r) :
  Calls prog 17 #[r0_0, F6 a1, F6 a2, U6 a3, I6 a4] w fun e w' => ∃ (I' : HL) (q0_0 : Value), e = .returned (q0_0) ∧ I.le I' ∧ St w0 w' I' [ownS ty_api_Pair q0_0 r] R := by {
 unfold ref11_Scan at hm
 refine calls_start (args := [r0_0, F6 a1, F6 a2, U6 a3, I6 a4]) func17 z ntmps17 (Nat.le_of_ble_eq_true z) ?_
 have hI0 := HL.le.refl I
 refine wp_seq (wrl (wv ((.slice none 0 0)) z z z (wl_nil (tn (wp_seq (wrl (wv ((.slice none 0 0)) z z z (wl_nil (tn (wp_seq (wrl (wv (r0_0) z z z ?_))))))))))))
 obtain ⟨t241, ht242, hm⟩ := bind_some hm
 refine wc call18 [r0_0] z z z ?_
 refine (ref11_Ats_ref (f0_0.mono ro_rd) hst.to0 ht242).mono ?_
 rintro _ w243 ⟨I244, v246, rfl, hI245, hst⟩
 refine ⟨_, z, ?_⟩
 replace hst := hst.of1
 replace f0_0 := f0_0.mono (ro_le hI245)
 replace hI0 := hI0.trans hI245
 refine wv (v246) z z z (wl_nil (tn (wp_seq (wp_seq (wrl (wv (.int .i64 (0:Int)) z z z (wl_nil (tn (wp_block ?_)))))))))
 replace hst := hst.own_nil ty_api_Pair
 obtain ⟨n384, hm⟩ := loopO_some hm
 refine wp_loop_n (fun n a w => ∃ (I382 : HL) (z378 : (List api_Pair)) (z381 : Int) (v379 : Value) (σ383 : Nat → Value), loopN (ref11_Scan_l0 t241 a4 a0 a3 a1 a2) n (z378, z381) = some r ∧ a = Fr 58 (upd (upd (upd (upd (upd (upd (upd (upd σ383 0 (r0_0)) 1 (.float .f64 a1)) 2 (.float .f64 a2)) 3 (.int .u64 a3)) 4 (.int .i64 a4)) 11 (v379)) 12 (v246)) 13 (.int .i64 z381)) ∧ I244.le I382 ∧ St w0 w I382 [ownS ty_api_Pair v379 z378, ownS tyF64 v246 t241] R) n384 ⟨_, [], (0:Int), Zs, _, hm, (fu 0 r0_0 z (fu 1 (.float .f64 a1) z (fu 2 (.float .f64 a2) z (fu 3 (.int .u64 a3) z (fu 4 (.int .i64 a4) z (fu 11 (.slice none 0 0) z (fu 12 v246 z (fu 13 (.int .i64 (0:Int)) z z)))))))), (HL.le.refl _), hst⟩ ?_
 rintro n390 _ w385 ⟨I382, z378, z381, v379, σ383, hm, rfl, hL386, hst⟩
 obtain ⟨n387, y388, rfl, hm, hx389⟩ := loopN_some hm
 dsimp only [ref11_Scan_l0] at hm
 replace f0_0 := f0_0.mono (ro_le hL386)
 replace hI0 := hI0.trans hL386
 refine wp_seq (wp_seq (wrl (wv (.int .i64 z381) z z z (wv (v246) z z z (wv (.int .i64 ((t241).length : Int)) z z (x_len z underlying44 hst.sv1) (wv (.bool (decide (z381 < ((t241).length : Int)))) z z z (wv (.bool (decide (z381 < ((t241).length : Int)))) z z z ?_)))))))
 refine bsplit (decide (z381 < ((t241).length : Int))) (fun hc391 => ?_) (fun hc391 => ?_)
 {
 replace hm := bif_t hc391 hm
 refine wv (v379) ((wanted_eq z z z (cvb hc391)).trans z) z z (wv (.int .i64 ((z378).length : Int)) ((wanted_eq z z z (cvb hc391)).trans z) z (x_len z underlying40 hst.sv0) (wv (.int .i64 a4) ((wanted_eq z z z (cvb hc391)).trans z) z z (wv (.bool (decide (((z378).length : Int) < a4))) ((wanted_eq z z z (cvb hc391)).trans z) z z (wv (.bool (decide (((z378).length : Int) < a4))) z z (x_pick_t hc391 z z) (wl_nil (tn ?_))))))
 refine bsplit (decide (((z378).length : Int) < a4)) (fun hc392 => ?_) (fun hc392 => ?_)
 {
 replace hm := bif_t hc392 hm
 refine wp_ift (cvb hc392) ?_
 refine wp_skip (tn (wp_seq (wp_block (wp_seq (wrl ?_)))))
 refine wv (r0_0) z z z (wv (v246) z z z (wv (.int .i64 z381) z z z ?_))
 obtain ⟨x393, hx394, hm⟩ := bind_some hm
 obtain ⟨h395, h396, hi397⟩ := geto_some hx394
 refine wv (.pointer (some (eAddr v246 (z381.toNat * 1 + 0)))) z z (x_index z z underlying44 sizeOf23 hst.sv1 h395 h396) (wv (.float .f64 x393) z z (x_load z isAgg23 (hst.ol1 hi397 (by rintro _ rfl; rfl))) (wv (.int .u64 a3) z z z ?_))
 obtain ⟨t398, ht399, hm⟩ := bind_some hm
 refine wc call14 [r0_0, F6 x393, U6 a3] z z z ?_
 refine (ref11_Get_ref f0_0 hst.to0 ht399).mono ?_
 rintro _ w400 ⟨I401, v403, rfl, hI402, f405, hst⟩
 refine ⟨_, z, ?_⟩
 replace hst := hst.of0
 replace f0_0 := f0_0.mono (ro_le hI402)
 replace hI0 := hI0.trans hI402
 replace hL386 := hL386.trans hI402
 obtain ⟨b407, w408, ew409, eb410, hst⟩ := hst.box [.bool false, Zs] 34
 refine wl_run (v := Pt b407 0) (w' := w408) z z (x_al (by kernel_rfl) ew409 eb410) ?_
 obtain ⟨w412, hr413, hst⟩ := hst.bx [.bool t398.Has, v403] sizeOf34 z (oC z (oC (one_of_sliceV (ro_sliceV f405)) oN)) (by kernel_rfl)
 refine wl_unit z z (x_unit hr413) ?_
 refine wl_nil (tn (wp_seq (wrl (wv (Pt b407 0) z z (x_field z underlying34 z sizeOf4 z) (wv (.bool t398.Has) z z (x_load z isAgg4 (hst.bc0 z)) (wv (.bool t398.Has) z z z ?_))))))
 refine bsplit t398.Has (fun hc414 => ?_) (fun hc414 => ?_)
 {
 replace hm := bif_t hc414 hm
 refine wv (v246) ((wanted_eq z z z (cvb hc414)).trans z) z z (wv (.int .i64 z381) ((wanted_eq z z z (cvb hc414)).trans z) z z (wv (.pointer (some (eAddr v246 (z381.toNat * 1 + 0)))) ((wanted_eq z z z (cvb hc414)).trans z) z (x_index z z underlying44 sizeOf23 hst.sv2 h395 h396) (wv (.float .f64 x393) ((wanted_eq z z z (cvb hc414)).trans z) z (x_load z isAgg23 (hst.ol2 hi397 (by rintro _ rfl; rfl))) (wv (.float .f64 a1) ((wanted_eq z z z (cvb hc414)).trans z) z z (wv (.float .f64 a2) ((wanted_eq z z z (cvb hc414)).trans z) z z ?_)))))
 obtain ⟨t415, ht416, hm⟩ := bind_some hm
 refine wl_call ((wanted_eq z z z (cvb hc414)).trans z) z (x_call call36 z (vs := [F6 x393, F6 a1, F6 a2]) z) ?_
 refine (ref01_Within_ref hst.to0 ht416).mono ?_
 rintro _ w417 ⟨rfl, hst⟩
 refine ⟨_, z, ?_⟩
 replace hst := hst.of0
 refine wv (.bool t415) z z (x_pick_t hc414 z z) (wl_nil (tn ?_))
 refine bsplit t415 (fun hc420 => ?_) (fun hc420 => ?_)
 {
 replace hm := bif_t hc420 hm
 refine wp_ift (cvb hc420) ?_
 refine wp_region_St hst 11 [0, 1, 2, 3, 4, 5, 6, 7, 8, 9, 10] [0, 0, 0, 6, 14, 0, 32, 126, 254, 511, 1023] [10] z (by kernel_rfl) (by kernel_rfl) Try.mixed (by kernel_rfl) ?_
 refine wsr (v379) 0 rfl rfl rfl (by kernel_rfl) (fun w hst => rfl) (wsr (v246) 1 rfl rfl rfl (by kernel_rfl) (fun w hst => rfl) (wsr (.int .i64 z381) 2 rfl rfl rfl (by kernel_rfl) (fun w hst => rfl) (wsr (.pointer (some (eAddr v246 (z381.toNat * 1 + 0)))) 3 rfl rfl rfl (by kernel_rfl) (fun w hst => x_index rfl rfl underlying44 sizeOf23 hst.sv2 h395 h396) (wsr (.float .f64 x393) 4 rfl rfl rfl (by kernel_rfl) (fun w hst => x_load rfl isAgg23 (hst.ol2 hi397 (by rintro _ rfl; rfl))) (wsr (Pt b407 1) 5 rfl rfl rfl (by kernel_rfl) (fun w hst => x_field rfl underlying34 rfl sizeOf32 rfl) (wsr (v403) 6 rfl rfl rfl (by kernel_rfl) (fun w hst => x_load rfl isAgg32 (hst.bc0 rfl)) (wsr (.agg #[F6 x393, v403]) 7 rfl rfl rfl (by kernel_rfl) (fun w hst => by obtain ⟨_, _, hv_, _⟩ := (ro_sliceV f405); rw [hv_]; kernel_rfl) ?_)))))))
 refine ws_e1 8 (by kernel_rfl) ?_
 refine nxe [9, 10] (by kernel_rfl) z z ?_
 clear hst
 intro w hst
 obtain ⟨b423, w424, ew425, eb426, hst⟩ := hst.lits (E := ty_api_Pair) (xs := [({ At := x393, Val := t398.Val } : api_Pair)]) [[F6 x393, v403]] 82 1 z (Reps.cons ⟨_, z, f405, one_of_sliceV (ro_sliceV f405)⟩ Reps.nil)
 refine we_run (v := (.slice (some ⟨b423, 0, none⟩) 1 1)) (w' := w424) z (x_als (by kernel_rfl) ew425 eb426) ?_
 refine ws_next (pend' := [(0, v379)]) hst (by kernel_rfl) (pkr z z (fun w hst => z) pk_nil) ?_
 refine ws_e1 9 (by kernel_rfl) ?_
 refine nxe [10] (by kernel_rfl) z z ?_
 clear hst
 intro w hst
 obtain ⟨hg428, hm⟩ := gd_some hm
 replace hst := hst.pull2
 obtain ⟨v429, w430, hr431, hst⟩ := run_append elem_40 underlying40 hst hst.src1 (room_of hg428 z) 40
 refine we_run (v := v429) (w' := w430) z (x_append z z hr431) ?_
 refine ws_next (pend' := []) hst (by kernel_rfl) pk_nil ?_
 refine ws_e1 10 (by kernel_rfl) ?_
 refine nxe [] (by kernel_rfl) z z ?_
 clear hst
 intro w hst
 refine we_run (v := v429) (w' := w) z z ?_
 refine ws_next (pend' := []) hst (by kernel_rfl) pk_nil ?_
 refine ws_nil ?_
 intro w hst
 refine blk_n (tn (wrl ?_))
 refine wv (.int .i64 z381) z z z (wv (.int .i64 (i64.wrap (z381 + (1:Int)))) z z z (wv (.int .i64 (i64.wrap (z381 + (1:Int)))) z z z (wl_nil (tn ?_))))
 replace hst := hst.pull3.pull1.keep2
 obtain rfl := some_inj hm
 exact ⟨_, Nat.lt_succ_self _, _, (z378 ++ ([({ At := x393, Val := t398.Val } : api_Pair)])), (i64.wrap (z381 + (1:Int))), v429, _, hx389, (fu 0 r0_0 z (fu 1 (.float .f64 a1) z (fu 2 (.float .f64 a2) z (fu 3 (.int .u64 a3) z (fu 4 (.int .i64 a4) z (fu 11 v429 z (fu 12 v246 z (fu 13 (.int .i64 (i64.wrap (z381 + (1:Int)))) z z)))))))), hL386, hst⟩
}
 {
 replace hm := bif_f hc420 hm
 refine wp_iff (cvb hc420) ?_
 refine wp_skip (blk_n (tn (wrl ?_)))
 refine wv (.int .i64 z381) z z z (wv (.int .i64 (i64.wrap (z381 + (1:Int)))) z z z (wv (.int .i64 (i64.wrap (z381 + (1:Int)))) z z z (wl_nil (tn ?_))))
 replace hst := hst.pull2.pull2.keep2
 obtain rfl := some_inj hm
 exact ⟨_, Nat.lt_succ_self _, _, z378, (i64.wrap (z381 + (1:Int))), v379, _, hx389, (fu 0 r0_0 z (fu 1 (.float .f64 a1) z (fu 2 (.float .f64 a2) z (fu 3 (.int .u64 a3) z (fu 4 (.int .i64 a4) z (fu 11 v379 z (fu 12 v246 z (fu 13 (.int .i64 (i64.wrap (z381 + (1:Int)))) z z)))))))), hL386, hst⟩
}
}
 {
 replace hm := bif_f hc414 hm
 refine wo hc414 z z z z z z (wo hc414 z z z z z z (wo hc414 z z z z z z (wo hc414 z z z z z z (wo hc414 z z z z z z (wo hc414 z z z z z z (wo hc414 z z z z z z (wv (.bool false) z z (x_pick_f hc414 z z) (wl_nil (tn ?_)))))))))
 refine wp_iff z ?_
 refine wp_skip (blk_n (tn (wrl ?_)))
 refine wv (.int .i64 z381) z z z (wv (.int .i64 (i64.wrap (z381 + (1:Int)))) z z z (wv (.int .i64 (i64.wrap (z381 + (1:Int)))) z z z (wl_nil (tn ?_))))
 replace hst := hst.pull2.pull2.keep2
 obtain rfl := some_inj hm
 exact ⟨_, Nat.lt_succ_self _, _, z378, (i64.wrap (z381 + (1:Int))), v379, _, hx389, (fu 0 r0_0 z (fu 1 (.float .f64 a1) z (fu 2 (.float .f64 a2) z (fu 3 (.int .u64 a3) z (fu 4 (.int .i64 a4) z (fu 11 v379 z (fu 12 v246 z (fu 13 (.int .i64 (i64.wrap (z381 + (1:Int)))) z z)))))))), hL386, hst⟩
}
}
 {
 replace hm := bif_f hc392 hm
 refine wp_iff (cvb hc392) ?_
 refine wp_exit (then_x (then_x ?_))
 replace hm := inr_up hm hx389
 refine blk_x (tn (wp_seq (wrl ?_)))
 refine wv (v379) z z z (wv (v379) z z z (wl_nil (tn (wp_ret ?_))))
 obtain rfl := some_inj hm
 refine post_ret (vs := [v379]) results17 (rvs_cons (rv_tmp z) rvs_nil) ?_
 exact ⟨_, v379, z, hI0, hst.keep1⟩
}
}
 {
 replace hm := bif_f hc391 hm
 refine wo hc391 z z z z z z (wo hc391 z z z z z z (wo hc391 z z z z z z (wo hc391 z z z z z z (wv (.bool false) z z (x_pick_f hc391 z z) (wl_nil (tn ?_))))))
 refine wp_iff z ?_
 refine wp_exit (then_x (then_x ?_))
 replace hm := inr_up hm hx389
 refine blk_x (tn (wp_seq (wrl ?_)))
 refine wv (v379) z z z (wv (v379) z z z (wl_nil (tn (wp_ret ?_))))
 obtain rfl := some_inj hm
 refine post_ret (vs := [v379]) results17 (rvs_cons (rv_tmp z) rvs_nil) ?_
 exact ⟨_, v379, z, hI0, hst.keep1⟩
}
}

theorem ref11_SamePairs_ref {w0 w : World} {I : HL} {R : SP} {a0 : (List api_Pair)} {r0_0 : Value} {a1 : (List api_Pair)} {r1_0 : Value} (f0_0 : Rd ty_api_Pair R I r0_0 a0) (f1_0 : Rd ty_api_Pair R I r1_0 a1) (hst : St w0 w I [] R) {r : (Bool)} (hm : ref11_SamePairs a0 a1 = some r) :
  Calls prog 15 #[r0_0, r1_0] w fun e w' => e = .returned (.bool r) ∧ St w0 w' I [] R := by {
 unfold ref11_SamePairs at hm
 refine calls_start (args := [r0_0, r1_0]) func15 z ntmps15 (Nat.le_of_ble_eq_true z) ?_
 refine wp_seq (wrl (wv (.bool false) z z z (wl_nil (tn (wp_seq (wp_seq (wrl (wv (r0_0) z z z (wv (.int .i64 ((a0).length : Int)) z z (x_len z underlying40 (rd_sliceV f0_0)) (wv (r1_0) z z z (wv (.int .i64 ((a1).length : Int)) z z (x_len z underlying40 (rd_sliceV f1_0)) (wv (.bool (((a0).length : Int) != ((a1).length : Int))) z z z (wl_nil (tn ?_))))))))))))))
 refine bsplit (((a0).length : Int) != ((a1).length : Int)) (fun hc194 => ?_) (fun hc194 => ?_)
 {
 replace hm := bif_t hc194 hm
 refine wp_ift (cvb hc194) ?_
 refine wp_seq (wrl (wv (.bool false) z z z (wl_nil (tn (wp_ret (then_r ?_))))))
 obtain rfl := some_inj hm
 refine post_ret (vs := [.bool false]) results15 (rvs_cons (rv_tmp z) rvs_nil) ?_
 exact ⟨z, hst.keep0⟩
}
 {
 replace hm := bif_f hc194 hm
 refine wp_iff (cvb hc194) ?_
 refine wp_skip (tn (wp_seq (wp_seq (wrl ?_))))
 refine wv (.int .i64 (0:Int)) z z z (wl_nil (tn (wp_block ?_)))
 obtain ⟨n282, hm⟩ := loopO_some hm
 refine wp_loop_n (fun n a w => ∃ (z280 : Int) (σ281 : Nat → Value), loopN (ref11_SamePairs_l0 a0 a1) n z280 = some r ∧ a = Fr 44 (upd (upd (upd σ281 0 (r0_0)) 1 (r1_0)) 5 (.int .i64 z280)) ∧ St w0 w I [] R) n282 ⟨(0:Int), _, hm, (fu 0 r0_0 z (fu 1 r1_0 z (fu 5 (.int .i64 (0:Int)) z z))), hst⟩ ?_
 rintro n288 _ w283 ⟨z280, σ281, hm, rfl, hst⟩
 obtain ⟨n285, y286, rfl, hm, hx287⟩ := loopN_some hm
 dsimp only [ref11_SamePairs_l0] at hm
 refine wp_seq (wp_seq (wrl (wv (.int .i64 z280) z z z (wv (r0_0) z z z (wv (.int .i64 ((a0).length : Int)) z z (x_len z underlying40 (rd_sliceV f0_0)) (wv (.bool (decide (z280 < ((a0).length : Int)))) z z z (wl_nil (tn ?_))))))))
 refine bsplit (decide (z280 < ((a0).length : Int))) (fun hc289 => ?_) (fun hc289 => ?_)
 {
 replace hm := bif_t hc289 hm
 refine wp_ift (cvb hc289) ?_
 refine wp_skip (tn (wp_seq (wp_block (wp_seq ?_))))
 refine wp_region_St hst 27 [0, 1, 2, 3, 4, 5, 6, 7, 8, 9, 10, 11, 12, 13, 14, 15, 16, 17, 18, 19, 20, 21, 22, 23, 24, 25, 26] [0, 0, 3, 7, 15, 0, 0, 96, 224, 480, 1023, 2047, 4095, 8191, 8191, 32767, 65535, 131071, 262143, 8191, 8191, 1581055, 3678207, 7872511, 16261119, 33554431, 67108863] [] z (by kernel_rfl) (by kernel_rfl) Try.mixed (by kernel_rfl) ?_
 refine wsr (r0_0) 0 z z z (by kernel_rfl) (fun w hst => z) (wsr (.int .i64 z280) 1 z z z (by kernel_rfl) (fun w hst => z) ?_)
 obtain ⟨x290, hx291, hm⟩ := bind_some hm
 obtain ⟨h292, h293, hi294⟩ := geto_some hx291
 refine wsr (.pointer (some (eAddr r0_0 (z280.toNat * 2 + 0)))) 2 z z z (by kernel_rfl) (fun w hst => x_index z z underlying40 sizeOf82 (rd_sliceV f0_0) h292 h293) (wsr (.pointer (some (eAddr r0_0 (z280.toNat * 2 + 0)))) 3 z z z (by kernel_rfl) (fun w hst => x_field_e z underlying82 z sizeOf23 z) ?_)
 obtain ⟨cs295, hr296, hc297⟩ := Rd.getF f0_0 hi294
 obtain ⟨v298, rfl, f299, -⟩ := hr296
 refine wsr (.float .f64 x290.At) 4 z z z (by kernel_rfl) (fun w hst => x_load z isAgg23 ((hc297 (HL.le.refl _) hst) 0 _ z)) (wsr (r1_0) 5 z z z (by kernel_rfl) (fun w hst => z) (wsr (.int .i64 z280) 6 z z z (by kernel_rfl) (fun w hst => z) ?_))
 obtain ⟨x301, hx302, hm⟩ := bind_some hm
 obtain ⟨h303, h304, hi305⟩ := geto_some hx302
 refine wsr (.pointer (some (eAddr r1_0 (z280.toNat * 2 + 0)))) 7 z z z (by kernel_rfl) (fun w hst => x_index z z underlying40 sizeOf82 (rd_sliceV f1_0) h303 h304) (wsr (.pointer (some (eAddr r1_0 (z280.toNat * 2 + 0)))) 8 z z z (by kernel_rfl) (fun w hst => x_field_e z underlying82 z sizeOf23 z) ?_)
 obtain ⟨cs306, hr307, hc308⟩ := Rd.getF f1_0 hi305
 obtain ⟨v309, rfl, f310, -⟩ := hr307
 refine wsr (.float .f64 x301.At) 9 z z z (by kernel_rfl) (fun w hst => x_load z isAgg23 ((hc308 (HL.le.refl _) hst) 0 _ z)) ?_
 refine ws_e1 10 (by kernel_rfl) ?_
 refine nxe [11, 12, 13, 14, 15, 16, 17, 18, 19, 20, 21, 22, 23, 24, 25, 26] (by kernel_rfl) z z ?_
 clear hst
 intro w hst
 obtain ⟨t312, ht313, hm⟩ := bind_some hm
 refine wec call30 [F6 x290.At, F6 x301.At] z z ?_
 refine (ref01_Same_ref hst.to0 ht313).mono ?_
 rintro _ w314 ⟨rfl, hst⟩
 refine ⟨_, z, ?_⟩
 replace hst := hst.of0
 refine ws_next (pend' := []) hst (by kernel_rfl) pk_nil ?_
 refine wsr (.bool (!t312)) 11 z z z (by kernel_rfl) (fun w hst => z) (wsr (.bool (!t312)) 12 z z z (by kernel_rfl) (fun w hst => z) ?_)
 refine bsplit (!t312) (fun hc317 => ?_) (fun hc317 => ?_)
 {
 replace hm := bif_t hc317 hm
 refine ws_q (v := undef) 13 [14, 15, 16, 17, 18, 19, 20, 21, 22, 23, 24, 25, 26] (by kernel_rfl) z z (yi_off ((wanted_eq z z z (cvb hc317)).trans z)) (ws_q (v := undef) 14 [15, 16, 17, 18, 19, 20, 21, 22, 23, 24, 25, 26] (by kernel_rfl) z z (yi_off ((wanted_eq z z z (cvb hc317)).trans z)) (ws_q (v := undef) 15 [16, 17, 18, 19, 20, 21, 22, 23, 24, 25, 26] (by kernel_rfl) z z (yi_off ((wanted_eq z z z (cvb hc317)).trans z)) (ws_q (v := undef) 16 [17, 18, 19, 20, 21, 22, 23, 24, 25, 26] (by kernel_rfl) z z (yi_off ((wanted_eq z z z (cvb hc317)).trans z)) (ws_q (v := undef) 17 [18, 19, 20, 21, 22, 23, 24, 25, 26] (by kernel_rfl) z z (yi_off ((wanted_eq z z z (cvb hc317)).trans z)) (ws_q (v := undef) 18 [19, 20, 21, 22, 23, 24, 25, 26] (by kernel_rfl) z z (yi_off ((wanted_eq z z z (cvb hc317)).trans z)) (ws_q (v := undef) 19 [20, 21, 22, 23, 24, 25, 26] (by kernel_rfl) z z (yi_off ((wanted_eq z z z (cvb hc317)).trans z)) (ws_q (v := undef) 20 [21, 22, 23, 24, 25, 26] (by kernel_rfl) z z (yi_off ((wanted_eq z z z (cvb hc317)).trans z)) (ws_q (v := undef) 21 [22, 23, 24, 25, 26] (by kernel_rfl) z z (yi_off ((wanted_eq z z z (cvb hc317)).trans z)) (ws_q (v := undef) 22 [23, 24, 25, 26] (by kernel_rfl) z z (yi_off ((wanted_eq z z z (cvb hc317)).trans z)) (ws_q (v := undef) 23 [24, 25, 26] (by kernel_rfl) z z (yi_off ((wanted_eq z z z (cvb hc317)).trans z)) (ws_q (v := undef) 24 [25, 26] (by kernel_rfl) z z (yi_off ((wanted_eq z z z (cvb hc317)).trans z)) (ws_q (v := undef) 25 [26] (by kernel_rfl) z z (yi_off ((wanted_eq z z z (cvb hc317)).trans z)) ?_))))))))))))
 refine wsr (.bool true) 26 z z z (by kernel_rfl) (fun w hst => x_pick_t hc317 z z) ?_
 refine ws_nil ?_
 intro w hst
 refine tn ?_
 refine wp_ift z ?_
 refine wp_seq (wrl (wv (.bool false) z z z (wl_nil (tn (wp_ret (blk_r (then_r (then_r ?_))))))))
 replace hm := inr_up hm hx287
 refine blk_r (then_r ?_)
 obtain rfl := some_inj hm
 refine post_ret (vs := [.bool false]) results15 (rvs_cons (rv_tmp z) rvs_nil) ?_
 exact ⟨z, hst.keep0⟩
}
 {
 replace hm := bif_f hc317 hm
 refine ws_q (v := r0_0) 13 [14, 15, 16, 17, 18, 19, 20, 21, 22, 23, 24, 25, 26] (by kernel_rfl) z z (yi_run ((wanted_eq z z z (cvb hc317)).trans z) (fun w hst => z)) (ws_q (v := .int .i64 z280) 14 [15, 16, 17, 18, 19, 20, 21, 22, 23, 24, 25, 26] (by kernel_rfl) z z (yi_run ((wanted_eq z z z (cvb hc317)).trans z) (fun w hst => z)) (ws_q (v := .pointer (some (eAddr r0_0 (z280.toNat * 2 + 0)))) 15 [16, 17, 18, 19, 20, 21, 22, 23, 24, 25, 26] (by kernel_rfl) z z (yi_run ((wanted_eq z z z (cvb hc317)).trans z) (fun w hst => x_index z z underlying40 sizeOf82 (rd_sliceV f0_0) h292 h293)) (ws_q (v := .pointer (some (eAddr r0_0 (z280.toNat * 2 + 1)))) 16 [17, 18, 19, 20, 21, 22, 23, 24, 25, 26] (by kernel_rfl) z z (yi_run ((wanted_eq z z z (cvb hc317)).trans z) (fun w hst => x_field_e z underlying82 z sizeOf32 z)) ?_)))
 obtain ⟨cs318, hr319, hc320⟩ := Rd.getF f0_0 hi294
 obtain ⟨v321, rfl, f322, -⟩ := hr319
 refine ws_q (v := v321) 17 [18, 19, 20, 21, 22, 23, 24, 25, 26] (by kernel_rfl) z z (yi_run ((wanted_eq z z z (cvb hc317)).trans z) (fun w hst => x_load z isAgg32 ((hc320 (HL.le.refl _) hst) 1 _ z))) (ws_q (v := .string (toStr x290.Val)) 18 [19, 20, 21, 22, 23, 24, 25, 26] (by kernel_rfl) z z (yi_run ((wanted_eq z z z (cvb hc317)).trans z) (fun w hst => x_tostr underlying32 underlying9 underlying5 z (Src.of_rd hst f322 flat_int))) (ws_q (v := r1_0) 19 [20, 21, 22, 23, 24, 25, 26] (by kernel_rfl) z z (yi_run ((wanted_eq z z z (cvb hc317)).trans z) (fun w hst => z)) (ws_q (v := .int .i64 z280) 20 [21, 22, 23, 24, 25, 26] (by kernel_rfl) z z (yi_run ((wanted_eq z z z (cvb hc317)).trans z) (fun w hst => z)) (ws_q (v := .pointer (some (eAddr r1_0 (z280.toNat * 2 + 0)))) 21 [22, 23, 24, 25, 26] (by kernel_rfl) z z (yi_run ((wanted_eq z z z (cvb hc317)).trans z) (fun w hst => x_index z z underlying40 sizeOf82 (rd_sliceV f1_0) h303 h304)) (ws_q (v := .pointer (some (eAddr r1_0 (z280.toNat * 2 + 1)))) 22 [23, 24, 25, 26] (by kernel_rfl) z z (yi_run ((wanted_eq z z z (cvb hc317)).trans z) (fun w hst => x_field_e z underlying82 z sizeOf32 z)) ?_)))))
 obtain ⟨cs324, hr325, hc326⟩ := Rd.getF f1_0 hi305
 obtain ⟨v327, rfl, f328, -⟩ := hr325
 refine ws_q (v := v327) 23 [24, 25, 26] (by kernel_rfl) z z (yi_run ((wanted_eq z z z (cvb hc317)).trans z) (fun w hst => x_load z isAgg32 ((hc326 (HL.le.refl _) hst) 1 _ z))) (ws_q (v := .string (toStr x301.Val)) 24 [25, 26] (by kernel_rfl) z z (yi_run ((wanted_eq z z z (cvb hc317)).trans z) (fun w hst => x_tostr underlying32 underlying9 underlying5 z (Src.of_rd hst f328 flat_int))) (ws_q (v := .bool (!(sEq (toStr x290.Val) (toStr x301.Val)))) 25 [26] (by kernel_rfl) z z (yi_run ((wanted_eq z z z (cvb hc317)).trans z) (fun w hst => by kernel_rfl)) (wsr (.bool (!(sEq (toStr x290.Val) (toStr x301.Val)))) 26 z z z (by kernel_rfl) (fun w hst => x_pick_f hc317 z z) ?_)))
 refine ws_nil ?_
 intro w hst
 refine tn ?_
 refine bsplit (!(sEq (toStr x290.Val) (toStr x301.Val))) (fun hc330 => ?_) (fun hc330 => ?_)
 {
 replace hm := bif_t hc330 hm
 refine wp_ift (cvb hc330) ?_
 refine wp_seq (wrl (wv (.bool false) z z z (wl_nil (tn (wp_ret (blk_r (then_r (then_r ?_))))))))
 replace hm := inr_up hm hx287
 refine blk_r (then_r ?_)
 obtain rfl := some_inj hm
 refine post_ret (vs := [.bool false]) results15 (rvs_cons (rv_tmp z) rvs_nil) ?_
 exact ⟨z, hst.keep0⟩
}
 {
 replace hm := bif_f hc330 hm
 refine wp_iff (cvb hc330) ?_
 refine wp_skip (blk_n (tn (wrl ?_)))
 refine wv (.int .i64 z280) z z z (wv (.int .i64 (i64.wrap (z280 + (1:Int)))) z z z (wv (.int .i64 (i64.wrap (z280 + (1:Int)))) z z z (wl_nil (tn ?_))))
 replace hst := hst.keep0
 obtain rfl := some_inj hm
 exact ⟨_, Nat.lt_succ_self _, (i64.wrap (z280 + (1:Int))), _, hx287, (fu 0 r0_0 z (fu 1 r1_0 z (fu 5 (.int .i64 (i64.wrap (z280 + (1:Int)))) z z))), hst⟩
}
}
}
 {
 replace hm := bif_f hc289 hm
 refine wp_iff (cvb hc289) ?_
 refine wp_exit (then_x (then_x ?_))
 replace hm := inr_up hm hx287
 refine blk_x (tn (wp_seq (wrl ?_)))
 refine wv (.bool true) z z z (wl_nil (tn (wp_ret ?_)))
 obtain rfl := some_inj hm
 refine post_ret (vs := [.bool true]) results15 (rvs_cons (rv_tmp z) rvs_nil) ?_
 exact ⟨z, hst.keep0⟩
}
}
}

theorem law11_MvccScans_ref {w0 w : World} {I : HL} {R : SP} {a0 : (List law11_Ver)} {r0_0 : Value} {a1 : Nat} {a2 : Nat} {a3 : Bool} {a4 : Int} {a5 : Int} (f0_0 : Ro ty_law11_Ver I r0_0 a0) (hst : St w0 w I [] R) {r : (Bool)} (hm : law11_MvccScans a0 a1 a2 a3 a4 a5 = some r) :
  Calls prog 4 #[r0_0, F6 a1, F6 a2, .bool a3, U6 a4, I6 a5] w fun e w' => ∃ (I' : HL), e = .returned (.bool r) ∧ I.le I' ∧ St w0 w' I' [] R := by {
 unfold law11_MvccScans at hm
 refine calls_start (args := [r0_0, F6 a1, F6 a2, .bool a3, U6 a4, I6 a5]) func4 z ntmps4 (Nat.le_of_ble_eq_true z) ?_
 have hI0 := HL.le.refl I
 refine wp_seq (wrl (wv (.bool false) z z z (wl_nil (tn (wp_seq (wrl (wv (r0_0) z z z ?_)))))))
 obtain ⟨t87, ht88, hm⟩ := bind_some hm
 refine wc call9 [r0_0] z z z ?_
 refine (law11_fill_ref f0_0 hst.to0 ht88).mono ?_
 rintro _ w89 ⟨I90, v92, v94, rfl, hI91, hst⟩
 refine ⟨_, z, ?_⟩
 replace hst := hst.of2
 replace f0_0 := f0_0.mono (ro_le hI91)
 replace hI0 := hI0.trans hI91
 refine wv (.tuple #[v92, v94, .bool t87.2.2]) z z z (wv (v92) z z z (wv (v94) z z z (wv (.bool t87.2.2) z z z (wv (v92) z z z (wv (v94) z z z (wv (.bool t87.2.2) z z z (wl_nil (tn (wp_seq (wp_seq (wrl ?_)))))))))))
 obtain ⟨t96, ht97, hm⟩ := bind_some hm
 refine wc call10 [] z z z ?_
 refine (law11_awake_ref hst.to0 ht97).mono ?_
 rintro _ w98 ⟨I99, rfl, hI100, hst⟩
 refine ⟨_, z, ?_⟩
 replace hst := hst.of0
 replace f0_0 := f0_0.mono (ro_le hI100)
 replace hI0 := hI0.trans hI100
 refine wv (.bool (!t96)) z z z (wv (.bool (!t96)) z z z ?_)
 refine bsplit (!t96) (fun hc101 => ?_) (fun hc101 => ?_)
 {
 replace hm := bif_t hc101 hm
 refine wo hc101 z z z z z z (wo hc101 z z z z z z (wv (.bool true) z z (x_pick_t hc101 z z) (wl_nil (tn ?_))))
 refine wp_ift z ?_
 refine wp_seq (wrl ?_)
 obtain ⟨t102, ht103, hm⟩ := bind_some hm
 refine wc call10 [] z z z ?_
 refine (law11_awake_ref hst.to0 ht103).mono ?_
 rintro _ w104 ⟨I105, rfl, hI106, hst⟩
 refine ⟨_, z, ?_⟩
 replace hst := hst.of0
 replace f0_0 := f0_0.mono (ro_le hI106)
 replace hI0 := hI0.trans hI106
 refine wv (.bool t102) z z z (wl_nil (tn (wp_ret (then_r ?_))))
 obtain rfl := some_inj hm
 refine post_ret (vs := [.bool t102]) results4 (rvs_cons (rv_tmp z) rvs_nil) ?_
 exact ⟨_, z, hI0, hst.keep0⟩
}
 {
 replace hm := bif_f hc101 hm
 refine wv (.bool t87.2.2) ((wanted_eq z z z (cvb hc101)).trans z) z z (wv (.bool (!t87.2.2)) ((wanted_eq z z z (cvb hc101)).trans z) z z (wv (.bool (!t87.2.2)) z z (x_pick_f hc101 z z) (wl_nil (tn ?_))))
 refine bsplit (!t87.2.2) (fun hc107 => ?_) (fun hc107 => ?_)
 {
 replace hm := bif_t hc107 hm
 refine wp_ift (cvb hc107) ?_
 refine wp_seq (wrl ?_)
 obtain ⟨t108, ht109, hm⟩ := bind_some hm
 refine wc call10 [] z z z ?_
 refine (law11_awake_ref hst.to0 ht109).mono ?_
 rintro _ w110 ⟨I111, rfl, hI112, hst⟩
 refine ⟨_, z, ?_⟩
 replace hst := hst.of0
 replace f0_0 := f0_0.mono (ro_le hI112)
 replace hI0 := hI0.trans hI112
 refine wv (.bool t108) z z z (wl_nil (tn (wp_ret (then_r ?_))))
 obtain rfl := some_inj hm
 refine post_ret (vs := [.bool t108]) results4 (rvs_cons (rv_tmp z) rvs_nil) ?_
 exact ⟨_, z, hI0, hst.keep0⟩
}
 {
 replace hm := bif_f hc107 hm
 refine wp_iff (cvb hc107) ?_
 refine wp_skip (tn ?_)
 obtain ⟨y118, hm, hx119⟩ := bind_some hm
 refine wp_cut (fun a w => ∃ (z114 : Nat) (z115 : Nat) (σ116 : Nat → Value), (law11_MvccScans_j0 t87 a4 a5) (z114, z115) = some r ∧ a = Fr 56 (upd (upd (upd (upd (upd (upd σ116 1 (.float .f64 z114)) 2 (.float .f64 z115)) 4 (.int .u64 a4)) 5 (.int .i64 a5)) 13 (v92)) 14 (v94)) ∧ St w0 w I99 [at_mvcc_Store v92 t87.1, ownS ty_ref11_Version v94 t87.2.1] R) ?_ ?_
 {
 refine wp_seq (wrl (wv (.bool a3) z z z (wl_nil (tn ?_))))
 refine bsplit a3 (fun hc113 => ?_) (fun hc113 => ?_)
 {
 replace hm := bif_t hc113 hm
 refine wp_ift (cvb hc113) ?_
 refine wp_seq (wrl (wv (.float .f64 (13830554455654793216:Nat)) z z z (wl_nil (tn (wrl (wv (.float .f64 (4607182418800017408:Nat)) z z z (wl_nil (tn ?_))))))))
 replace hst := hst.pull1.pull1.keep2
 obtain rfl := some_inj hm
 exact ⟨(13830554455654793216:Nat), (4607182418800017408:Nat), _, hx119, (fu 1 (.float .f64 (13830554455654793216:Nat)) z (fu 2 (.float .f64 (4607182418800017408:Nat)) z (fu 4 (.int .u64 a4) z (fu 5 (.int .i64 a5) z (fu 13 v92 z (fu 14 v94 z z)))))), hst⟩
}
 {
 replace hm := bif_f hc113 hm
 refine wp_iff (cvb hc113) ?_
 refine wp_skip (tn ?_)
 replace hst := hst.pull1.pull1.keep2
 obtain rfl := some_inj hm
 exact ⟨a1, a2, _, hx119, (fu 1 (.float .f64 a1) z (fu 2 (.float .f64 a2) z (fu 4 (.int .u64 a4) z (fu 5 (.int .i64 a5) z (fu 13 v92 z (fu 14 v94 z z)))))), hst⟩
}
}
 {
 clear hst
 rintro _ w120 ⟨z114, z115, σ116, hm, rfl, hst⟩
 dsimp only [law11_MvccScans_j0] at hm
 refine wp_seq (wrl (wv (.int .u64 a4) z z z (wv (.int .u64 (Int.tmod a4 (9:Int))) z z (x_rem (by decide) z z) (wv (.int .u64 (Int.tmod a4 (9:Int))) z z z (wl_nil (tn (wp_seq (wrl (wv (v92) z z z (wv (.float .f64 z114) z z z (wv (.float .f64 z115) z z z (wv (.int .u64 (Int.tmod a4 (9:Int))) z z z (wv (.int .i64 a5) z z z ?_)))))))))))))
 replace hst := objO_some hst
 obtain ⟨t121, ht122, hm⟩ := bind_some hm
 refine wc call16 [v92, F6 z114, F6 z115, U6 (Int.tmod a4 (9:Int)), I6 a5] z z z ?_
 refine (mvcc_Store_Scan_ref hst.to1 ht122).mono ?_
 rintro _ w123 ⟨I124, v126, rfl, hI125, hst⟩
 refine ⟨_, z, ?_⟩
 replace hst := hst.of2
 replace f0_0 := f0_0.mono (ro_le hI125)
 replace hI0 := hI0.trans hI125
 replace hst := hst.pull1
 replace hst := objO_get hst
 refine wv (v94) z z z (wv (.float .f64 z114) z z z (wv (.float .f64 z115) z z z (wv (.int .u64 (Int.tmod a4 (9:Int))) z z z (wv (.int .i64 a5) z z z ?_))))
 replace hst := hst.pull2
 obtain ⟨I128, hI129, f130, hst⟩ := hst.own_fix
 replace f0_0 := f0_0.mono (ro_le hI129)
 replace hI0 := hI0.trans hI129
 obtain ⟨t131, ht132, hm⟩ := bind_some hm
 refine wc call17 [v94, F6 z114, F6 z115, U6 (Int.tmod a4 (9:Int)), I6 a5] z z z ?_
 refine (ref11_Scan_ref f130 hst.to0 ht132).mono ?_
 rintro _ w133 ⟨I134, v136, rfl, hI135, hst⟩
 refine ⟨_, z, ?_⟩
 replace hst := hst.of1
 replace f0_0 := f0_0.mono (ro_le hI135)
 replace f130 := f130.mono (ro_le hI135)
 replace hI0 := hI0.trans hI135
 replace hst := hst.pull2
 obtain ⟨css138, hq139, hst⟩ := hst.own_open
 replace hst := hst.pull1
 obtain ⟨css140, hq141, hst⟩ := hst.own_open
 obtain ⟨t142, ht143, hm⟩ := bind_some hm
 refine wc call15 [v126, v136] z z z ?_
 refine (ref11_SamePairs_ref (hst.rdrow1 hq139) (hst.rdrow0 hq141) hst.to0 ht143).mono ?_
 rintro _ w144 ⟨rfl, hst⟩
 refine ⟨_, z, ?_⟩
 replace hst := hst.of0.pull1.own_close hq139
 replace hst := hst.pull1.own_close hq141
 refine wv (.bool t142) z z z ?_
 refine bsplit t142 (fun hc147 => ?_) (fun hc147 => ?_)
 {
 replace hm := bif_t hc147 hm
 refine wv (v92) ((wanted_eq z z z (cvb hc147)).trans z) z z (wv (.float .f64 z114) ((wanted_eq z z z (cvb hc147)).trans z) z z (wv (.float .f64 z115) ((wanted_eq z z z (cvb hc147)).trans z) z z ?_))
 replace hst := hst.pull2
 replace hst := objO_some hst
 obtain ⟨t148, ht149, hm⟩ := bind_some hm
 refine wl_call ((wanted_eq z z z (cvb hc147)).trans z) z (x_call call16 z (vs := [v92, F6 z114, F6 z115, U6 (18446744073709551615:Int), I6 (1000:Int)]) z) ?_
 refine (mvcc_Store_Scan_ref hst.to1 ht149).mono ?_
 rintro _ w150 ⟨I151, v153, rfl, hI152, hst⟩
 refine ⟨_, z, ?_⟩
 replace hst := hst.of2
 replace f0_0 := f0_0.mono (ro_le hI152)
 replace f130 := f130.mono (ro_le hI152)
 replace hI0 := hI0.trans hI152
 replace hst := hst.pull1
 replace hst := objO_get hst
 refine wv (v94) ((wanted_eq z z z (cvb hc147)).trans z) z z (wv (.float .f64 z114) ((wanted_eq z z z (cvb hc147)).trans z) z z (wv (.float .f64 z115) ((wanted_eq z z z (cvb hc147)).trans z) z z ?_))
 obtain ⟨t155, ht156, hm⟩ := bind_some hm
 refine wl_call ((wanted_eq z z z (cvb hc147)).trans z) z (x_call call17 z (vs := [v94, F6 z114, F6 z115, U6 (18446744073709551615:Int), I6 (1000:Int)]) z) ?_
 refine (ref11_Scan_ref f130 hst.to0 ht156).mono ?_
 rintro _ w157 ⟨I158, v160, rfl, hI159, hst⟩
 refine ⟨_, z, ?_⟩
 replace hst := hst.of1
 replace f0_0 := f0_0.mono (ro_le hI159)
 replace f130 := f130.mono (ro_le hI159)
 replace hI0 := hI0.trans hI159
 replace hst := hst.pull2
 obtain ⟨css162, hq163, hst⟩ := hst.own_open
 replace hst := hst.pull1
 obtain ⟨css164, hq165, hst⟩ := hst.own_open
 obtain ⟨t166, ht167, hm⟩ := bind_some hm
 refine wl_call ((wanted_eq z z z (cvb hc147)).trans z) z (x_call call15 z (vs := [v153, v160]) z) ?_
 refine (ref11_SamePairs_ref (hst.rdrow1 hq163) (hst.rdrow0 hq165) hst.to0 ht167).mono ?_
 rintro _ w168 ⟨rfl, hst⟩
 refine ⟨_, z, ?_⟩
 replace hst := hst.of0.pull1.own_close hq163
 replace hst := hst.pull1.own_close hq165
 refine wv (.bool t166) z z (x_pick_t hc147 z z) (wv (.bool t166) z z z (wl_nil (tn (wp_ret ?_))))
 obtain rfl := some_inj hm
 refine post_ret (vs := [.bool t166]) results4 (rvs_cons (rv_tmp z) rvs_nil) ?_
 exact ⟨_, z, hI0, hst.keep0⟩
}
 {
 replace hm := bif_f hc147 hm
 refine wo hc147 z z z z z z (wo hc147 z z z z z z (wo hc147 z z z z z z (wo hc147 z z z z z z (wo hc147 z z z z z z (wo hc147 z z z z z z (wo hc147 z z z z z z (wo hc147 z z z z z z (wo hc147 z z z z z z (wv (.bool false) z z (x_pick_f hc147 z z) (wv (.bool false) z z z (wl_nil (tn (wp_ret ?_)))))))))))))
 obtain rfl := some_inj hm
 refine post_ret (vs := [.bool false]) results4 (rvs_cons (rv_tmp z) rvs_nil) ?_
 exact ⟨_, z, hI0, hst.keep0⟩
}
}
}
}
}

end Go.Proofs.Ytbdnbohbmgmonaa
