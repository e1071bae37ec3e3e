/- The Go functions refine their models, part 1. -/
import Derived.Test.YtbdnbohbmgmonaaMvccBytesR0
set_option linter.unusedVariables false
set_option linter.unusedSimpArgs false
set_option maxRecDepth 100000
set_option maxHeartbeats 4000000
namespace Go.Proofs.Ytbdnbohbmgmonaa
open Go Go.V
open _root_.Go.Proofs.Try IntKind
attribute [local irreducible] wpList Code.wp wpQuiet Calls bodyPost Oper.wp wpS Nx PendOK YieldsIn
theorem law11_awake_ref {w0 w : World} {I : HL} {R : SP}   (hst : St w0 w I [] R) {r : (Bool)} (hm : law11_awake = some r) :
  Calls prog 10 #[] w fun e w' => ∃ (I' : HL), e = .returned (.bool r) ∧ I.le I' ∧ St w0 w' I' [] R := by {
 unfold law11_awake at hm
 refine calls_start (args := []) func10 z ntmps10 (Nat.le_of_ble_eq_true z) ?_
 have hI0 := HL.le.refl I
 refine wp_seq (wrl (wv (.bool false) z z z (wl_nil (tn (wp_seq (wrl ?_))))))
 obtain ⟨t67, ht68, hm⟩ := bind_some hm
 refine wc call21 [] z z z ?_
 refine (mvcc_New_ref hst.to0 ht68).mono ?_
 rintro _ w69 ⟨v72, rfl, hst⟩
 refine ⟨_, z, ?_⟩
 replace hst := hst.of1
 refine wv (v72) z z z (wl_nil (tn (wp_seq (wrl (wv (v72) z z z ?_)))))
 obtain ⟨b74, w75, ew76, eb77, hst⟩ := hst.lits (E := (tyInt .u8)) (xs := [(97:Int)]) [[U1 (97:Int)]] 5 1 z (Reps.cons z Reps.nil)
 refine wl_run (v := (.slice (some ⟨b74, 0, none⟩) 1 1)) (w' := w75) z z (x_als (by kernel_rfl) ew76 eb77) ?_
 obtain ⟨I79, w82, hI80, f81, hr83, hst⟩ := hst.own_mark (P := prog) underlying32 underlying5 (List.cons_ne_nil _ _)
 replace hI0 := hI0.trans hI80
 refine wl_run (v := (.slice (some ⟨b74, 0, none⟩) 1 1)) (w' := w82) z z (x_conv z hr83) ?_
 refine wv (.agg #[U6 (2:Int), Zu, .bool false, (.slice (some ⟨b74, 0, none⟩) 1 1)]) z z (by kernel_rfl) ?_
 replace hst := objO_some hst
 obtain ⟨t85, ht86, hm⟩ := bind_some hm
 refine wc call22 [v72, F6 (4607182418800017408:Nat), .agg #[U6 (2:Int), Zu, .bool false, (.slice (some ⟨b74, 0, none⟩) 1 1)]] z z z ?_
 refine (mvcc_Store_Put_ref (a2 := ({ Epoch := (2:Int), Index := (0:Int), Del := false, Val := [(97:Int)] } : mvcc_Version)) (f81.mono ro_rd) hst.to1 ht86).mono ?_
 rintro _ w87 ⟨I88, rfl, hI89, hst⟩
 refine ⟨_, z, ?_⟩
 replace hst := hst.of1
 replace f81 := f81.mono (ro_le hI89)
 replace hI0 := hI0.trans hI89
 rcases he91 : t85 with _ | y90
 · rw [he91] at hm; cases hm
 rw [he91] at hm hst; dsimp only at hm; replace hst := objO_get hst
 refine wl_nil (tn (wp_seq (wrl (wv (v72) z z z (wv (.agg #[U6 (3:Int), Zu, .bool true, Zs]) z z (by kernel_rfl) ?_)))))
 replace hst := objO_some hst
 have f93 : Ro (tyInt .u8) I88 (.slice none 0 0) [] := ro_nil
 obtain ⟨t94, ht95, hm⟩ := bind_some hm
 refine wc call22 [v72, F6 (4607182418800017408:Nat), .agg #[U6 (3:Int), Zu, .bool true, Zs]] z z z ?_
 refine (mvcc_Store_Put_ref (a2 := ({ Epoch := (3:Int), Index := (0:Int), Del := true, Val := [] } : mvcc_Version)) (f93.mono ro_rd) hst.to1 ht95).mono ?_
 rintro _ w96 ⟨I97, rfl, hI98, hst⟩
 refine ⟨_, z, ?_⟩
 replace hst := hst.of1
 replace f81 := f81.mono (ro_le hI98)
 replace f93 := f93.mono (ro_le hI98)
 replace hI0 := hI0.trans hI98
 rcases he100 : t94 with _ | y99
 · rw [he100] at hm; cases hm
 rw [he100] at hm hst; dsimp only at hm; replace hst := objO_get hst
 refine wl_nil (tn (wp_seq (wrl (wv (v72) z z z ?_))))
 replace hst := objO_some hst
 obtain ⟨t101, ht102, hm⟩ := bind_some hm
 refine wc call13 [v72, F6 (4607182418800017408:Nat), U6 (2:Int)] z z z ?_
 refine (mvcc_Store_Get_ref hst.to1 ht102).mono ?_
 rintro _ w103 ⟨v106, rfl, hst⟩
 refine ⟨_, z, ?_⟩
 replace hst := hst.of2.pull1
 replace hst := objO_get hst
 refine wv (v106) z z (by obtain ⟨_, _, hv_, _⟩ := hst.sv1; rw [hv_]; kernel_rfl) (wv (.string (toStr t101.Val)) z z (x_tostr underlying32 underlying9 underlying5 z hst.src1) (wv (.bool (sEq (toStr t101.Val) (ByteArray.mk #[97]))) z z (by kernel_rfl) (wv (.bool (sEq (toStr t101.Val) (ByteArray.mk #[97]))) z z z ?_)))
 refine bsplit (sEq (toStr t101.Val) (ByteArray.mk #[97])) (fun hc108 => ?_) (fun hc108 => ?_)
 {
 replace hm := bif_t hc108 hm
 refine wv (v72) ((wanted_eq z z z (cvb hc108)).trans z) z z ?_
 replace hst := objO_some hst
 obtain ⟨t109, ht110, hm⟩ := bind_some hm
 refine wl_call ((wanted_eq z z z (cvb hc108)).trans z) z (x_call call13 z (vs := [v72, F6 (4607182418800017408:Nat), U6 (3:Int)]) z) ?_
 refine (mvcc_Store_Get_ref hst.to1 ht110).mono ?_
 rintro _ w111 ⟨v114, rfl, hst⟩
 refine ⟨_, z, ?_⟩
 replace hst := hst.of2.pull1
 replace hst := objO_get hst
 refine wv (.bool t109.Has) ((wanted_eq z z z (cvb hc108)).trans z) z (by obtain ⟨_, _, hv_, _⟩ := hst.sv1; rw [hv_]; kernel_rfl) (wv (.bool (!t109.Has)) ((wanted_eq z z z (cvb hc108)).trans z) z z (wv (.bool (!t109.Has)) z z (x_pick_t hc108 z z) (wv (.bool (!t109.Has)) z z z ?_)))
 refine bsplit (!t109.Has) (fun hc116 => ?_) (fun hc116 => ?_)
 {
 replace hm := bif_t hc116 hm
 refine wv (v72) ((wanted_eq z z z (cvb hc116)).trans z) z z ?_
 replace hst := objO_some hst
 obtain ⟨t117, ht118, hm⟩ := bind_some hm
 refine wl_call ((wanted_eq z z z (cvb hc116)).trans z) z (x_call call25 z (vs := [v72]) z) ?_
 refine (mvcc_Store_Size_ref hst.to1 ht118).mono ?_
 rintro _ w119 ⟨rfl, hst⟩
 refine ⟨_, z, ?_⟩
 replace hst := hst.of1
 replace hst := objO_get hst
 refine wv (.bool (t117 == (2:Int))) ((wanted_eq z z z (cvb hc116)).trans z) z z (wv (.bool (t117 == (2:Int))) z z (x_pick_t hc116 z z) (wv (.bool (t117 == (2:Int))) z z z (wl_nil (tn (wp_ret ?_)))))
 obtain rfl := some_inj hm
 refine post_ret (vs := [.bool (t117 == (2:Int))]) results10 (rvs_cons (rv_tmp z) rvs_nil) ?_
 exact ⟨_, z, hI0, hst.keep0⟩
}
 {
 replace hm := bif_f hc116 hm
 refine wo hc116 z z z z z z (wo hc116 z z z z z z (wo hc116 z z z z z z (wv (.bool false) z z (x_pick_f hc116 z z) (wv (.bool false) z z z (wl_nil (tn (wp_ret ?_)))))))
 obtain rfl := some_inj hm
 refine post_ret (vs := [.bool false]) results10 (rvs_cons (rv_tmp z) rvs_nil) ?_
 exact ⟨_, z, hI0, hst.keep0⟩
}
}
 {
 replace hm := bif_f hc108 hm
 refine wo hc108 z z z z z z (wo hc108 z z z z z z (wo hc108 z z z z z z (wo hc108 z z z z z z (wv (.bool false) z z (x_pick_f hc108 z z) (wv (.bool false) z z z (wz z z z z z z (wz z z z z z z (wz z z z z z z (wv (.bool false) z z (x_pick_f z z z) (wv (.bool false) z z z (wl_nil (tn (wp_ret ?_)))))))))))))
 obtain rfl := some_inj hm
 refine post_ret (vs := [.bool false]) results10 (rvs_cons (rv_tmp z) rvs_nil) ?_
 exact ⟨_, z, hI0, hst.keep0⟩
}
}

theorem mvcc_Store_Len_ref {w0 w : World} {I : HL} {R : SP} {a0 : (Option mvcc_Store)} {p0 : Value}  (hst : St w0 w I [objO at_mvcc_Store p0 a0] R) {r : (Int)} (hm : mvcc_Store_Len a0 = some r) :
  Calls prog 24 #[p0] w fun e w' => e = .returned (.int .i64 r) ∧ St w0 w' I [objO at_mvcc_Store p0 a0] R := by {
 rcases a0 with _ | o0
 {
 obtain ⟨rfl, hst'⟩ := objO_none hst
 clear hst
 have hst := hst'
 clear hst'
 dsimp only [mvcc_Store_Len] at hm
 refine calls_start (args := [.pointer none]) func24 z ntmps24 (Nat.le_of_ble_eq_true z) ?_
 refine wp_seq (wrl (wv (.int .i64 (0:Int)) z z z (wl_nil (tn (wp_seq (wp_seq (wrl (wv (.pointer none) z z z (wv (.bool true) z z (by kernel_rfl) (wl_nil (tn ?_)))))))))))
 refine wp_ift z ?_
 refine wp_seq (wrl (wv (.int .i64 (0:Int)) z z z (wl_nil (tn (wp_ret (then_r ?_))))))
 replace hst := hst.objO_nil at_mvcc_Store
 obtain rfl := some_inj hm
 refine post_ret (vs := [Zi]) results24 (rvs_cons (rv_tmp z) rvs_nil) ?_
 exact ⟨z, hst.keep1⟩
}
 {
 replace hst := objO_get hst
 dsimp only [mvcc_Store_Len] at hm
 refine calls_start (args := [p0]) func24 z ntmps24 (Nat.le_of_ble_eq_true z) ?_
 refine wp_seq (wrl (wv (.int .i64 (0:Int)) z z z (wl_nil (tn (wp_seq (wp_seq (wrl (wv (p0) z z z ?_))))))))
 obtain ⟨b49, v50, rfl, hst'⟩ := at_mvcc_Store_open hst
 clear hst
 have hst := hst'
 clear hst'
 refine wv (.bool false) z z (by kernel_rfl) (wl_nil (tn ?_))
 refine wp_iff z ?_
 refine wp_skip (tn (wp_seq (wrl ?_)))
 refine wv (Pt b49 0) z z z (wv (Pt b49 0) z z z (wv (Pt b49 0) z z (x_field z underlying79 z sizeOf77 z) (wv (v50) z z (x_load z isAgg77 (hst.bc0 z)) (wv (.int .i64 ((o0.rows).length : Int)) z z (x_len z underlying77 (hst.nestsv 1 z)) (wv (.int .i64 ((o0.rows).length : Int)) z z z (wl_nil (tn (wp_ret ?_))))))))
 replace hst := hst.pull1.pull1
 replace hst := at_mvcc_Store_close (pv := Pt b49 0) (x := o0) hst z
 replace hst := objO_some hst
 obtain rfl := some_inj hm
 refine post_ret (vs := [I6 ((o0.rows).length : Int)]) results24 (rvs_cons (rv_tmp z) rvs_nil) ?_
 exact ⟨z, hst.keep1⟩
}
}

theorem octet_Writer_lay_ref {w0 w : World} {I : HL} {R : SP} {a0 : octet_Writer} {p0 : Value} {a1 : (List Int)} {r1_0 : Value} (f1_0 : Rd (tyInt .u8) R I r1_0 a1) (hst : St w0 w I [at_octet_Writer p0 a0] R) {r : (octet_Writer)} (hm : octet_Writer_lay a0 a1 = some r) :
  Calls prog 70 #[p0, r1_0] w fun e w' => e = .returned (p0) ∧ St w0 w' I [at_octet_Writer p0 r] R := by {
 unfold octet_Writer_lay at hm
 refine calls_start (args := [p0, r1_0]) func70 z ntmps70 (Nat.le_of_ble_eq_true z) ?_
 refine wp_seq (wrl (wv (.pointer none) z z z (wl_nil (tn (wp_seq (wrl (wv (p0) z z z (wv (p0) z z z ?_))))))))
 obtain ⟨b72, v73, rfl, hst'⟩ := at_octet_Writer_open hst
 clear hst
 have hst := hst'
 clear hst'
 refine wv (Pt b72 0) z z z (wv (Pt b72 0) z z (x_field z underlying99 z sizeOf32 z) (wv (v73) z z (x_load z isAgg32 (hst.bc0 z)) (wv (r1_0) z z z ?_)))
 obtain ⟨hg75, hm⟩ := gd_some hm
 replace hst := hst.pull1
 obtain ⟨v76, w77, hr78, hst⟩ := run_append elem_32 underlying32 hst (Src.of_rd hst f1_0 flat_int) (room_of hg75 z) 32
 refine wl_run (v := v76) (w' := w77) z z (x_append z z hr78) ?_
 refine wv (Pt b72 0) z z z (wv (Pt b72 0) z z (x_field z underlying99 z sizeOf32 z) ?_)
 replace hst := hst.pull1
 obtain ⟨w80, hr81, hst⟩ := hst.boxStore1 (P := prog) (t := 32) (cs' := [v76]) 0 v76 (one_of_sliceV hst.sv1) sizeOf32 z z
 refine wl_unit z z (x_unit hr81) ?_
 refine wl_nil (tn (wp_seq (wrl (wv (Pt b72 0) z z z (wv (Pt b72 0) z z z (wl_nil (tn (wp_ret ?_))))))))
 replace hst := hst.pull1.pull1
 replace hst := at_octet_Writer_close (pv := Pt b72 0) (x := ({ p := (a0.p ++ a1) } : octet_Writer)) hst z
 obtain rfl := some_inj hm
 refine post_ret (vs := [Pt b72 0]) results70 (rvs_cons (rv_tmp z) rvs_nil) ?_
 exact ⟨z, hst.keep1⟩
}

theorem octet_Writer_Num_ref {w0 w : World} {I : HL} {R : SP} {a0 : octet_Writer} {p0 : Value} {a1 : Int} {a2 : Int}  (hst : St w0 w I [at_octet_Writer p0 a0] R) {r : (octet_Writer)} (hm : octet_Writer_Num a0 a1 a2 = some r) :
  Calls prog 54 #[p0, U6 a1, I6 a2] w fun e w' => e = .returned (p0) ∧ St w0 w' I [at_octet_Writer p0 r] R := by {
 unfold octet_Writer_Num at hm
 refine calls_start (args := [p0, U6 a1, I6 a2]) func54 z ntmps54 (Nat.le_of_ble_eq_true z) ?_
 refine wp_seq (wrl (wv (.pointer none) z z z (wl_nil (tn (wp_seq (wp_seq (wrl (wv (.int .i64 a2) z z z (wv (.int .i64 (0:Int)) z z z (wl_nil (tn (wp_block ?_))))))))))))
 obtain ⟨n139, hm⟩ := loopO_some hm
 refine wp_loop_n (fun n a w => ∃ (z136 : octet_Writer) (z137 : Int) (σ138 : Nat → Value), loopN (octet_Writer_Num_l0 a2 a1) n (z136, z137) = some r ∧ a = Fr 22 (upd (upd (upd (upd σ138 0 (p0)) 1 (.int .u64 a1)) 8 (.int .i64 a2)) 9 (.int .i64 z137)) ∧ St w0 w I [at_octet_Writer p0 z136] R) n139 ⟨a0, (0:Int), _, hm, (fu 0 p0 z (fu 1 (.int .u64 a1) z (fu 8 (.int .i64 a2) z (fu 9 (.int .i64 (0:Int)) z z)))), hst⟩ ?_
 rintro n145 _ w140 ⟨z136, z137, σ138, hm, rfl, hst⟩
 obtain ⟨n142, y143, rfl, hm, hx144⟩ := loopN_some hm
 dsimp only [octet_Writer_Num_l0] at hm
 refine wp_seq (wrl (wv (.bool (decide (z137 < a2))) z z z (wl_nil (tn (wp_seq ?_)))))
 refine bsplit (decide (z137 < a2)) (fun hc146 => ?_) (fun hc146 => ?_)
 {
 replace hm := bif_t hc146 hm
 refine wp_ift (cvb hc146) ?_
 refine wp_skip (tn (wp_seq (wp_block (wp_seq (wrl ?_)))))
 refine wv (.int .i64 z137) z z z (wv (.int .i64 z137) z z z (wl_nil (tn (wrl (wv (p0) z z z (wv (.int .u64 a1) z z z (wv (.int .i64 z137) z z z (wv (.int .i64 (i64.wrap ((8:Int) * z137))) z z z ?_))))))))
 obtain ⟨hg147, hm⟩ := gd_some hm
 refine wv (.int .u64 (iShr .u64 a1 (i64.wrap ((8:Int) * z137)))) z z (x_shr (of_decide_eq_true hg147) z z) (wv (.int .u8 (u8.wrap (iShr .u64 a1 (i64.wrap ((8:Int) * z137))))) z z (by kernel_rfl) ?_)
 obtain ⟨b148, w149, ew150, eb151, hst⟩ := hst.lits (E := (tyInt .u8)) (xs := [(u8.wrap (iShr .u64 a1 (i64.wrap ((8:Int) * z137))))]) [[U1 (u8.wrap (iShr .u64 a1 (i64.wrap ((8:Int) * z137))))]] 5 1 z (Reps.cons z Reps.nil)
 refine wl_run (v := (.slice (some ⟨b148, 0, none⟩) 1 1)) (w' := w149) z z (x_als (by kernel_rfl) ew150 eb151) ?_
 obtain ⟨css153, hq154, hst⟩ := hst.own_open
 replace hst := hst.pull1
 obtain ⟨t155, ht156, hm⟩ := bind_some hm
 refine wc call70 [p0, (.slice (some ⟨b148, 0, none⟩) 1 1)] z z z ?_
 refine (octet_Writer_lay_ref (hst.sub.rdrow0 hq154) hst.to1 ht156).mono ?_
 rintro _ w157 ⟨rfl, hst⟩
 refine ⟨_, z, ?_⟩
 replace hst := hst.of1.pull1.own_close hq154
 refine wl_nil (blk_n (tn (wrl (wv (.int .i64 (i64.wrap (z137 + (1:Int)))) z z z (wv (.int .i64 (i64.wrap (z137 + (1:Int)))) z z z (wl_nil (tn ?_)))))))
 replace hst := hst.pull1.keep1
 obtain rfl := some_inj hm
 exact ⟨_, Nat.lt_succ_self _, t155, (i64.wrap (z137 + (1:Int))), _, hx144, (fu 0 p0 z (fu 1 (.int .u64 a1) z (fu 8 (.int .i64 a2) z (fu 9 (.int .i64 (i64.wrap (z137 + (1:Int)))) z z)))), hst⟩
}
 {
 replace hm := bif_f hc146 hm
 refine wp_iff (cvb hc146) ?_
 refine wp_exit (then_x (then_x ?_))
 replace hm := inr_up hm hx144
 refine blk_x (tn (wp_seq (wrl ?_)))
 refine wv (p0) z z z (wv (p0) z z z (wl_nil (tn (wp_ret ?_))))
 obtain rfl := some_inj hm
 refine post_ret (vs := [p0]) results54 (rvs_cons (rv_tmp z) rvs_nil) ?_
 exact ⟨z, hst.keep1⟩
}
}

theorem octet_Writer_Done_ref {w0 w : World} {I : HL} {R : SP} {a0 : octet_Writer} {p0 : Value}  (hst : St w0 w I [at_octet_Writer p0 a0] R) {r : ((List Int))} (hm : octet_Writer_Done a0 = some r) :
  Calls prog 55 #[p0] w fun e w' => ∃ (q0_0 : Value), e = .returned (q0_0) ∧ St w0 w' I [ownS (tyInt .u8) q0_0 r] R := by {
 unfold octet_Writer_Done at hm
 refine calls_start (args := [p0]) func55 z ntmps55 (Nat.le_of_ble_eq_true z) ?_
 refine wp_seq (wrl (wv ((.slice none 0 0)) z z z (wl_nil (tn (wp_seq (wrl (wv (p0) z z z ?_)))))))
 obtain ⟨b62, v63, rfl, hst'⟩ := at_octet_Writer_open hst
 clear hst
 have hst := hst'
 clear hst'
 refine wv (Pt b62 0) z z z (wv (Pt b62 0) z z (x_field z underlying99 z sizeOf32 z) (wv (v63) z z (x_load z isAgg32 (hst.bc0 z)) (wv (v63) z z z (wl_nil (tn (wp_ret ?_))))))
 obtain rfl := some_inj hm
 refine post_ret (vs := [v63]) results55 (rvs_cons (rv_tmp z) rvs_nil) ?_
 replace hst := hst.pull1
 exact ⟨v63, z, hst.keep1⟩
}

theorem octet_Writer_Flag_ref {w0 w : World} {I : HL} {R : SP} {a0 : octet_Writer} {p0 : Value} {a1 : Bool}  (hst : St w0 w I [at_octet_Writer p0 a0] R) {r : (octet_Writer)} (hm : octet_Writer_Flag a0 a1 = some r) :
  Calls prog 56 #[p0, .bool a1] w fun e w' => e = .returned (p0) ∧ St w0 w' I [at_octet_Writer p0 r] R := by {
 unfold octet_Writer_Flag at hm
 refine calls_start (args := [p0, .bool a1]) func56 z ntmps56 (Nat.le_of_ble_eq_true z) ?_
 refine wp_seq (wrl (wv (.pointer none) z z z (wl_nil (tn (wp_seq (wp_seq (wrl (wv (.bool a1) z z z (wl_nil (tn ?_))))))))))
 refine bsplit a1 (fun hc142 => ?_) (fun hc142 => ?_)
 {
 replace hm := bif_t hc142 hm
 refine wp_ift (cvb hc142) ?_
 refine wp_seq (wrl (wv (p0) z z z ?_))
 obtain ⟨t143, ht144, hm⟩ := bind_some hm
 refine wc call54 [p0, U6 (1:Int), I6 (1:Int)] z z z ?_
 refine (octet_Writer_Num_ref hst.to1 ht144).mono ?_
 rintro _ w145 ⟨rfl, hst⟩
 refine ⟨_, z, ?_⟩
 replace hst := hst.of1
 refine wv (p0) z z z (wl_nil (tn (wp_ret (then_r ?_))))
 obtain rfl := some_inj hm
 refine post_ret (vs := [p0]) results56 (rvs_cons (rv_tmp z) rvs_nil) ?_
 exact ⟨z, hst.keep1⟩
}
 {
 replace hm := bif_f hc142 hm
 refine wp_iff (cvb hc142) ?_
 refine wp_skip (tn (wp_seq (wrl ?_)))
 refine wv (p0) z z z ?_
 obtain ⟨t148, ht149, hm⟩ := bind_some hm
 refine wc call54 [p0, Zu, I6 (1:Int)] z z z ?_
 refine (octet_Writer_Num_ref hst.to1 ht149).mono ?_
 rintro _ w150 ⟨rfl, hst⟩
 refine ⟨_, z, ?_⟩
 replace hst := hst.of1
 refine wv (p0) z z z (wl_nil (tn (wp_ret ?_)))
 obtain rfl := some_inj hm
 refine post_ret (vs := [p0]) results56 (rvs_cons (rv_tmp z) rvs_nil) ?_
 exact ⟨z, hst.keep1⟩
}
}

theorem octet_Writer_Bytes_ref {w0 w : World} {I : HL} {R : SP} {a0 : octet_Writer} {p0 : Value} {a1 : (List Int)} {r1_0 : Value} (f1_0 : Rd (tyInt .u8) R I r1_0 a1) (hst : St w0 w I [at_octet_Writer p0 a0] R) {r : (octet_Writer)} (hm : octet_Writer_Bytes a0 a1 = some r) :
  Calls prog 57 #[p0, r1_0] w fun e w' => e = .returned (p0) ∧ St w0 w' I [at_octet_Writer p0 r] R := by {
 unfold octet_Writer_Bytes at hm
 refine calls_start (args := [p0, r1_0]) func57 z ntmps57 (Nat.le_of_ble_eq_true z) ?_
 refine wp_seq (wrl (wv (.pointer none) z z z (wl_nil (tn (wp_seq (wrl (wv (p0) z z z (wv (r1_0) z z z (wv (.int .i64 ((a1).length : Int)) z z (x_len z underlying32 (rd_sliceV f1_0)) (wv (.int .u64 (u64.wrap ((a1).length : Int))) z z (by kernel_rfl) ?_))))))))))
 obtain ⟨t143, ht144, hm⟩ := bind_some hm
 refine wc call54 [p0, U6 (u64.wrap ((a1).length : Int)), I6 (4:Int)] z z z ?_
 refine (octet_Writer_Num_ref hst.to1 ht144).mono ?_
 rintro _ w145 ⟨rfl, hst⟩
 refine ⟨_, z, ?_⟩
 replace hst := hst.of1
 refine wv (r1_0) z z z ?_
 obtain ⟨t148, ht149, hm⟩ := bind_some hm
 refine wc call70 [p0, r1_0] z z z ?_
 refine (octet_Writer_lay_ref (f1_0.mono (rd_weak _)) hst.to1 ht149).mono ?_
 rintro _ w150 ⟨rfl, hst⟩
 refine ⟨_, z, ?_⟩
 replace hst := hst.of1
 refine wv (p0) z z z (wl_nil (tn (wp_ret ?_)))
 obtain rfl := some_inj hm
 refine post_ret (vs := [p0]) results57 (rvs_cons (rv_tmp z) rvs_nil) ?_
 exact ⟨z, hst.keep1⟩
}

theorem mvcc_Store_Encode_ref {w0 w : World} {I : HL} {R : SP} {a0 : (Option mvcc_Store)} {p0 : Value}  (hst : St w0 w I [objO at_mvcc_Store p0 a0] R) {r : ((List Int))} (hm : mvcc_Store_Encode a0 = some r) :
  Calls prog 27 #[p0] w fun e w' => ∃ (q0_0 : Value), e = .returned (q0_0) ∧ St w0 w' I [ownS (tyInt .u8) q0_0 r, objO at_mvcc_Store p0 a0] R := by {
 rcases a0 with _ | o0
 {
 obtain ⟨rfl, hst'⟩ := objO_none hst
 clear hst
 have hst := hst'
 clear hst'
 dsimp only [mvcc_Store_Encode] at hm
 refine calls_start (args := [.pointer none]) func27 z ntmps27 (Nat.le_of_ble_eq_true z) ?_
 refine wp_seq (wrl (wv ((.slice none 0 0)) z z z (wl_nil (tn (wp_seq (wrl (wv (.agg #[Zs]) z z (by kernel_rfl) ?_)))))))
 obtain ⟨b579, w580, ew581, eb582, hst⟩ := hst.box [Zs] 99
 refine wl_run (v := Pt b579 0) (w' := w580) z z (x_al (by kernel_rfl) ew581 eb582) ?_
 refine wv (Pt b579 0) z z z (wl_nil (tn (wp_seq (wrl (wv (Pt b579 0) z z z (wv (.pointer none) z z z ?_))))))
 replace hst := hst.objO_nil at_mvcc_Store
 obtain ⟨t586, ht587, hm⟩ := bind_some hm
 refine wc call24 [.pointer none] z z z ?_
 refine (mvcc_Store_Len_ref hst.to1 ht587).mono ?_
 rintro _ w588 ⟨rfl, hst⟩
 refine ⟨_, z, ?_⟩
 replace hst := hst.of1
 refine wv (.int .u64 (u64.wrap t586)) z z (by kernel_rfl) ?_
 replace hst := hst.own_nil (tyInt .u8)
 replace hst := hst.pull2
 replace hst := at_octet_Writer_close (pv := Pt b579 0) (x := ({ p := [] } : octet_Writer)) hst z
 obtain ⟨t591, ht592, hm⟩ := bind_some hm
 refine wc call54 [Pt b579 0, U6 (u64.wrap t586), I6 (4:Int)] z z z ?_
 refine (octet_Writer_Num_ref hst.to1 ht592).mono ?_
 rintro _ w593 ⟨rfl, hst⟩
 refine ⟨_, z, ?_⟩
 replace hst := hst.of1
 refine wl_nil (tn (wp_seq (wp_seq (wrl (wv (.pointer none) z z z (wv (.bool true) z z (by kernel_rfl) (wl_nil (tn ?_))))))))
 refine wp_ift z ?_
 refine wp_seq (wrl (wv (Pt b579 0) z z z ?_))
 obtain ⟨t596, ht597, hm⟩ := bind_some hm
 refine wc call55 [Pt b579 0] z z z ?_
 refine (octet_Writer_Done_ref hst.to1 ht597).mono ?_
 rintro _ w598 ⟨v601, rfl, hst⟩
 refine ⟨_, z, ?_⟩
 replace hst := hst.of1
 refine wv (v601) z z z (wl_nil (tn (wp_ret (then_r ?_))))
 replace hst := hst.objO_nil at_mvcc_Store
 obtain rfl := some_inj hm
 refine post_ret (vs := [v601]) results27 (rvs_cons (rv_tmp z) rvs_nil) ?_
 replace hst := hst.pull1
 exact ⟨v601, z, hst.keep2⟩
}
 {
 replace hst := objO_get hst
 dsimp only [mvcc_Store_Encode] at hm
 refine calls_start (args := [p0]) func27 z ntmps27 (Nat.le_of_ble_eq_true z) ?_
 refine wp_seq (wrl (wv ((.slice none 0 0)) z z z (wl_nil (tn (wp_seq (wrl (wv (.agg #[Zs]) z z (by kernel_rfl) ?_)))))))
 obtain ⟨b605, w606, ew607, eb608, hst⟩ := hst.box [Zs] 99
 refine wl_run (v := Pt b605 0) (w' := w606) z z (x_al (by kernel_rfl) ew607 eb608) ?_
 refine wv (Pt b605 0) z z z (wl_nil (tn (wp_seq (wrl (wv (Pt b605 0) z z z (wv (p0) z z z ?_))))))
 replace hst := hst.pull1
 replace hst := objO_some hst
 obtain ⟨t611, ht612, hm⟩ := bind_some hm
 refine wc call24 [p0] z z z ?_
 refine (mvcc_Store_Len_ref hst.to1 ht612).mono ?_
 rintro _ w613 ⟨rfl, hst⟩
 refine ⟨_, z, ?_⟩
 replace hst := hst.of1
 replace hst := objO_get hst
 refine wv (.int .u64 (u64.wrap t611)) z z (by kernel_rfl) ?_
 replace hst := hst.own_nil (tyInt .u8)
 replace hst := hst.pull2
 replace hst := at_octet_Writer_close (pv := Pt b605 0) (x := ({ p := [] } : octet_Writer)) hst z
 obtain ⟨t616, ht617, hm⟩ := bind_some hm
 refine wc call54 [Pt b605 0, U6 (u64.wrap t611), I6 (4:Int)] z z z ?_
 refine (octet_Writer_Num_ref hst.to1 ht617).mono ?_
 rintro _ w618 ⟨rfl, hst⟩
 refine ⟨_, z, ?_⟩
 replace hst := hst.of1
 refine wl_nil (tn (wp_seq (wp_seq (wrl (wv (p0) z z z ?_)))))
 replace hst := hst.pull1
 obtain ⟨b621, v622, rfl, hst'⟩ := at_mvcc_Store_open hst
 clear hst
 have hst := hst'
 clear hst'
 refine wv (.bool false) z z (by kernel_rfl) (wl_nil (tn ?_))
 refine wp_iff z ?_
 refine wp_skip (tn (wp_seq (wp_seq (wrl ?_))))
 refine wv (Pt b621 0) z z z (wv (Pt b621 0) z z z (wv (Pt b621 0) z z (x_field z underlying79 z sizeOf77 z) (wv (v622) z z (x_load z isAgg77 (hst.bc0 z)) (wv (.int .i64 ((o0.rows).length : Int)) z z (x_len z underlying77 (hst.nestsv 1 z)) (wv (.int .i64 (0:Int)) z z z (wl_nil (tn (wp_block ?_))))))))
 obtain ⟨n945, hm⟩ := loopO_some hm
 refine wp_loop_n (fun n a w => ∃ (z942 : octet_Writer) (z943 : Int) (σ944 : Nat → Value), loopN (mvcc_Store_Encode_l0 o0) n (z942, z943) = some r ∧ a = Fr 61 (upd (upd (upd (upd σ944 3 (Pt b605 0)) 22 (v622)) 23 (.int .i64 ((o0.rows).length : Int))) 24 (.int .i64 z943)) ∧ St w0 w I [cells b621 [v622], ownN nest_mvcc_row v622 o0.rows, at_octet_Writer (Pt b605 0) z942] R) n945 ⟨t616, (0:Int), _, hm, (fu 3 (Pt b605 0) z (fu 22 v622 z (fu 23 (.int .i64 ((o0.rows).length : Int)) z (fu 24 (.int .i64 (0:Int)) z z)))), hst⟩ ?_
 rintro n951 _ w946 ⟨z942, z943, σ944, hm, rfl, hst⟩
 obtain ⟨n948, y949, rfl, hm, hx950⟩ := loopN_some hm
 dsimp only [mvcc_Store_Encode_l0] at hm
 refine wp_seq (wrl (wv (.bool (decide (z943 < ((o0.rows).length : Int)))) z z z (wl_nil (tn (wp_seq ?_)))))
 refine bsplit (decide (z943 < ((o0.rows).length : Int))) (fun hc952 => ?_) (fun hc952 => ?_)
 {
 replace hm := bif_t hc952 hm
 refine wp_ift (cvb hc952) ?_
 refine wp_skip (tn (wp_seq (wp_block (wp_seq (wrl ?_)))))
 obtain ⟨x953, hx954, hm⟩ := bind_some hm
 obtain ⟨h955, h956, hi957⟩ := geto_some hx954
 refine wv (.pointer (some (eAddr v622 (z943.toNat * 2 + 0)))) z z (x_index z z underlying77 sizeOf76 (hst.nestsv 1 z) h955 h956) ?_
 replace hst := hst.pull1
 obtain ⟨v958, hst⟩ := hst.nest_focus hi957
 refine wv (.agg #[U6 x953.rank, v958]) z z (x_loadN (cs := [U6 x953.rank, v958]) z isAgg76 sizeOf76 (eCells (o := 0) (hst.holeall (N := nest_mvcc_row) (i := z943.toNat) 1 z hi957) z)) ?_
 obtain ⟨b961, w962, ew963, eb964, hst⟩ := hst.box [Zu, Zs] 76
 refine wl_run (v := Pt b961 0) (w' := w962) z z (x_al (by kernel_rfl) ew963 eb964) ?_
 obtain ⟨w966, hr967, hst⟩ := hst.bx [U6 x953.rank, v958] sizeOf76 z (oC z (oC (one_of_sliceV hst.sv1) oN)) (by kernel_rfl)
 refine wl_unit z z (x_unit hr967) ?_
 refine wl_nil (tn (wp_seq ?_))
 refine wp_region_St hst 9 [0, 1, 2, 3, 4, 5, 6, 7, 8] [0, 0, 2, 7, 0, 16, 48, 112, 255] [] z (by kernel_rfl) (by kernel_rfl) Try.mixed (by kernel_rfl) ?_
 refine wsr (Pt b605 0) 0 z z z (by kernel_rfl) (fun w hst => z) (wsr (Pt b961 0) 1 z z z (by kernel_rfl) (fun w hst => x_field z underlying76 z sizeOf24 z) (wsr (.int .u64 x953.rank) 2 z z z (by kernel_rfl) (fun w hst => x_load z isAgg24 (hst.bc0 z)) (wsr (Pt b961 1) 4 z z z (by kernel_rfl) (fun w hst => x_field z underlying76 z sizeOf53 z) (wsr (v958) 5 z z z (by kernel_rfl) (fun w hst => x_load z isAgg53 (hst.bc0 z)) (wsr (.int .i64 ((x953.l).length : Int)) 6 z z z (by kernel_rfl) (fun w hst => x_len z underlying53 hst.sv1) (wsr (.int .u64 (u64.wrap ((x953.l).length : Int))) 7 z z z (by kernel_rfl) (fun w hst => by kernel_rfl) ?_))))))
 refine ws_e1 3 (by kernel_rfl) ?_
 refine nxe [8] (by kernel_rfl) z z ?_
 clear hst
 intro w hst
 replace hst := hst.pull4
 obtain ⟨t968, ht969, hm⟩ := bind_some hm
 refine wec call54 [Pt b605 0, U6 x953.rank, I6 (8:Int)] z z ?_
 refine (octet_Writer_Num_ref hst.to1 ht969).mono ?_
 rintro _ w970 ⟨rfl, hst⟩
 refine ⟨_, z, ?_⟩
 replace hst := hst.of1
 refine ws_next (pend' := [(7, U6 (u64.wrap ((x953.l).length : Int))), (6, I6 ((x953.l).length : Int)), (5, v958), (4, Pt b961 1)]) hst (by kernel_rfl) (pkr z z (fun w hst => by kernel_rfl) (pkr z z (fun w hst => x_len z underlying53 hst.sv2) (pkr z z (fun w hst => x_load z isAgg53 (hst.bc1 z)) (pkr z z (fun w hst => x_field z underlying76 z sizeOf53 z) pk_nil)))) ?_
 refine ws_e1 8 (by kernel_rfl) ?_
 refine nxe [] (by kernel_rfl) z z ?_
 clear hst
 intro w hst
 obtain ⟨t973, ht974, hm⟩ := bind_some hm
 refine wec call54 [Pt b605 0, U6 (u64.wrap ((x953.l).length : Int)), I6 (4:Int)] z z ?_
 refine (octet_Writer_Num_ref hst.to1 ht974).mono ?_
 rintro _ w975 ⟨rfl, hst⟩
 refine ⟨_, z, ?_⟩
 replace hst := hst.of1
 refine ws_next (pend' := []) hst (by kernel_rfl) pk_nil ?_
 refine ws_nil ?_
 intro w hst
 refine tn (wp_seq (wrl (wv (Pt b961 1) z z (x_field z underlying76 z sizeOf53 z) (wv (v958) z z (x_load z isAgg53 (hst.bc1 z)) (wv (.int .i64 ((x953.l).length : Int)) z z (x_len z underlying53 hst.sv2) (wv (.int .i64 (0:Int)) z z z (wl_nil (tn (wp_block ?_)))))))))
 replace hst := hst.pull1.sub
 obtain ⟨n1063, hm⟩ := loopO_some hm
 refine wp_loop_n (fun n a w => ∃ (z1060 : octet_Writer) (z1061 : Int) (σ1062 : Nat → Value), loopN (mvcc_Store_Encode_l1 x953 z943) n (z1060, z1061) = some y949 ∧ a = Fr 61 (upd (upd (upd (upd (upd (upd (upd σ1062 3 (Pt b605 0)) 22 (v622)) 23 (.int .i64 ((o0.rows).length : Int))) 24 (.int .i64 z943)) 38 (v958)) 39 (.int .i64 ((x953.l).length : Int))) 40 (.int .i64 z1061)) ∧ St w0 w I [at_octet_Writer (Pt b605 0) z1060, ownS ty_mvcc_Version v958 x953.l, holeN nest_mvcc_row v622 o0.rows z943.toNat v958, cells b621 [v622]] R) n1063 ⟨t973, (0:Int), _, hm, (fu 3 (Pt b605 0) z (fu 22 v622 z (fu 23 (.int .i64 ((o0.rows).length : Int)) z (fu 24 (.int .i64 z943) z (fu 38 v958 z (fu 39 (.int .i64 ((x953.l).length : Int)) z (fu 40 (.int .i64 (0:Int)) z z))))))), hst⟩ ?_
 rintro n1069 _ w1064 ⟨z1060, z1061, σ1062, hm, rfl, hst⟩
 obtain ⟨n1066, y1067, rfl, hm, hx1068⟩ := loopN_some hm
 dsimp only [mvcc_Store_Encode_l1] at hm
 refine wp_seq (wrl (wv (.bool (decide (z1061 < ((x953.l).length : Int)))) z z z (wl_nil (tn (wp_seq ?_)))))
 refine bsplit (decide (z1061 < ((x953.l).length : Int))) (fun hc1070 => ?_) (fun hc1070 => ?_)
 {
 replace hm := bif_t hc1070 hm
 refine wp_ift (cvb hc1070) ?_
 refine wp_skip (tn (wp_seq (wp_block (wp_seq (wrl ?_)))))
 obtain ⟨x1071, hx1072, hm⟩ := bind_some hm
 obtain ⟨h1073, h1074, hi1075⟩ := geto_some hx1072
 refine wv (.pointer (some (eAddr v958 (z1061.toNat * 4 + 0)))) z z (x_index z z underlying53 sizeOf52 hst.sv1 h1073 h1074) ?_
 obtain ⟨cs1076, hr1077, hc1078⟩ := hst.og1 hi1075
 obtain ⟨v1079, rfl, f1080, -⟩ := hr1077
 refine wv (.agg #[U6 x1071.Epoch, U6 x1071.Index, .bool x1071.Del, v1079]) z z (x_loadN (cs := [U6 x1071.Epoch, U6 x1071.Index, .bool x1071.Del, v1079]) z isAgg52 sizeOf52 (eCells (o := 0) hc1078 z)) ?_
 obtain ⟨b1083, w1084, ew1085, eb1086, hst⟩ := hst.box [Zu, Zu, .bool false, Zs] 52
 refine wl_run (v := Pt b1083 0) (w' := w1084) z z (x_al (by kernel_rfl) ew1085 eb1086) ?_
 obtain ⟨w1088, hr1089, hst⟩ := hst.bx [U6 x1071.Epoch, U6 x1071.Index, .bool x1071.Del, v1079] sizeOf52 z (oC z (oC z (oC z (oC (one_of_sliceV (ro_sliceV f1080)) oN)))) (by kernel_rfl)
 refine wl_unit z z (x_unit hr1089) ?_
 refine wl_nil (tn ?_)
 refine wp_region_St hst 13 [0, 1, 2, 3, 4, 5, 6, 7, 8, 9, 10, 11, 12] [0, 0, 2, 7, 0, 16, 63, 0, 128, 511, 0, 1024, 4095] [] z (by kernel_rfl) (by kernel_rfl) Try.mixed (by kernel_rfl) ?_
 refine wsr (Pt b605 0) 0 z z z (by kernel_rfl) (fun w hst => z) (wsr (Pt b1083 0) 1 z z z (by kernel_rfl) (fun w hst => x_field z underlying52 z sizeOf24 z) (wsr (.int .u64 x1071.Epoch) 2 z z z (by kernel_rfl) (fun w hst => x_load z isAgg24 (hst.bc0 z)) (wsr (Pt b1083 1) 4 z z z (by kernel_rfl) (fun w hst => x_field z underlying52 z sizeOf24 z) (wsr (.int .u64 x1071.Index) 5 z z z (by kernel_rfl) (fun w hst => x_load z isAgg24 (hst.bc0 z)) (wsr (Pt b1083 2) 7 z z z (by kernel_rfl) (fun w hst => x_field z underlying52 z sizeOf4 z) (wsr (.bool x1071.Del) 8 z z z (by kernel_rfl) (fun w hst => x_load z isAgg4 (hst.bc0 z)) (wsr (Pt b1083 3) 10 z z z (by kernel_rfl) (fun w hst => x_field z underlying52 z sizeOf32 z) (wsr (v1079) 11 z z z (by kernel_rfl) (fun w hst => x_load z isAgg32 (hst.bc0 z)) ?_))))))))
 refine ws_e1 3 (by kernel_rfl) ?_
 refine nxe [6, 9, 12] (by kernel_rfl) z z ?_
 clear hst
 intro w hst
 replace hst := hst.pull1
 obtain ⟨t1090, ht1091, hm⟩ := bind_some hm
 refine wec call54 [Pt b605 0, U6 x1071.Epoch, I6 (8:Int)] z z ?_
 refine (octet_Writer_Num_ref hst.to1 ht1091).mono ?_
 rintro _ w1092 ⟨rfl, hst⟩
 refine ⟨_, z, ?_⟩
 replace hst := hst.of1
 refine ws_next (pend' := [(11, v1079), (10, Pt b1083 3), (8, .bool x1071.Del), (7, Pt b1083 2), (5, U6 x1071.Index), (4, Pt b1083 1)]) hst (by kernel_rfl) (pkr z z (fun w hst => x_load z isAgg32 (hst.bc1 z)) (pkr z z (fun w hst => x_field z underlying52 z sizeOf32 z) (pkr z z (fun w hst => x_load z isAgg4 (hst.bc1 z)) (pkr z z (fun w hst => x_field z underlying52 z sizeOf4 z) (pkr z z (fun w hst => x_load z isAgg24 (hst.bc1 z)) (pkr z z (fun w hst => x_field z underlying52 z sizeOf24 z) pk_nil)))))) ?_
 refine ws_e1 6 (by kernel_rfl) ?_
 refine nxe [9, 12] (by kernel_rfl) z z ?_
 clear hst
 intro w hst
 obtain ⟨t1095, ht1096, hm⟩ := bind_some hm
 refine wec call54 [Pt b605 0, U6 x1071.Index, I6 (8:Int)] z z ?_
 refine (octet_Writer_Num_ref hst.to1 ht1096).mono ?_
 rintro _ w1097 ⟨rfl, hst⟩
 refine ⟨_, z, ?_⟩
 replace hst := hst.of1
 refine ws_next (pend' := [(11, v1079), (10, Pt b1083 3), (8, .bool x1071.Del), (7, Pt b1083 2)]) hst (by kernel_rfl) (pkr z z (fun w hst => x_load z isAgg32 (hst.bc1 z)) (pkr z z (fun w hst => x_field z underlying52 z sizeOf32 z) (pkr z z (fun w hst => x_load z isAgg4 (hst.bc1 z)) (pkr z z (fun w hst => x_field z underlying52 z sizeOf4 z) pk_nil)))) ?_
 refine ws_e1 9 (by kernel_rfl) ?_
 refine nxe [12] (by kernel_rfl) z z ?_
 clear hst
 intro w hst
 obtain ⟨t1100, ht1101, hm⟩ := bind_some hm
 refine wec call56 [Pt b605 0, .bool x1071.Del] z z ?_
 refine (octet_Writer_Flag_ref hst.to1 ht1101).mono ?_
 rintro _ w1102 ⟨rfl, hst⟩
 refine ⟨_, z, ?_⟩
 replace hst := hst.of1
 refine ws_next (pend' := [(11, v1079), (10, Pt b1083 3)]) hst (by kernel_rfl) (pkr z z (fun w hst => x_load z isAgg32 (hst.bc1 z)) (pkr z z (fun w hst => x_field z underlying52 z sizeOf32 z) pk_nil)) ?_
 refine ws_e1 12 (by kernel_rfl) ?_
 refine nxe [] (by kernel_rfl) z z ?_
 clear hst
 intro w hst
 obtain ⟨t1105, ht1106, hm⟩ := bind_some hm
 refine wec call57 [Pt b605 0, v1079] z z ?_
 refine (octet_Writer_Bytes_ref (f1080.mono ro_rd) hst.to1 ht1106).mono ?_
 rintro _ w1107 ⟨rfl, hst⟩
 refine ⟨_, z, ?_⟩
 replace hst := hst.of1
 refine ws_next (pend' := []) hst (by kernel_rfl) pk_nil ?_
 refine ws_nil ?_
 intro w hst
 refine blk_n (tn (wrl ?_))
 refine wv (.int .i64 (i64.wrap (z1061 + (1:Int)))) z z z (wv (.int .i64 (i64.wrap (z1061 + (1:Int)))) z z z (wl_nil (tn ?_)))
 replace hst := hst.pull4.pull4.pull4.pull3.keep4
 obtain rfl := some_inj hm
 exact ⟨_, Nat.lt_succ_self _, t1105, (i64.wrap (z1061 + (1:Int))), _, hx1068, (fu 3 (Pt b605 0) z (fu 22 v622 z (fu 23 (.int .i64 ((o0.rows).length : Int)) z (fu 24 (.int .i64 z943) z (fu 38 v958 z (fu 39 (.int .i64 ((x953.l).length : Int)) z (fu 40 (.int .i64 (i64.wrap (z1061 + (1:Int)))) z z))))))), hst⟩
}
 {
 replace hm := bif_f hc1070 hm
 refine wp_iff (cvb hc1070) ?_
 refine wp_exit (then_x (then_x ?_))
 replace hm := inr_up hm hx1068
 refine blk_x (blk_n (tn (wrl ?_)))
 refine wv (.int .i64 (i64.wrap (z943 + (1:Int)))) z z z (wv (.int .i64 (i64.wrap (z943 + (1:Int)))) z z z (wl_nil (tn ?_)))
 replace hst := hst.pull2.pull2
 replace hst := St.nest_close0 (N := nest_mvcc_row) hst hi957
 replace hst := hst.pull1.pull1.pull2.keep3
 obtain rfl := some_inj hm
 exact ⟨_, Nat.lt_succ_self _, z1060, (i64.wrap (z943 + (1:Int))), _, hx950, (fu 3 (Pt b605 0) z (fu 22 v622 z (fu 23 (.int .i64 ((o0.rows).length : Int)) z (fu 24 (.int .i64 (i64.wrap (z943 + (1:Int)))) z z)))), hst⟩
}
}
 {
 replace hm := bif_f hc952 hm
 refine wp_iff (cvb hc952) ?_
 refine wp_exit (then_x (then_x ?_))
 replace hm := inr_up hm hx950
 refine blk_x (tn (wp_seq (wrl ?_)))
 refine wv (Pt b605 0) z z z ?_
 replace hst := hst.pull2
 obtain ⟨t1110, ht1111, hm⟩ := bind_some hm
 refine wc call55 [Pt b605 0] z z z ?_
 refine (octet_Writer_Done_ref hst.to1 ht1111).mono ?_
 rintro _ w1112 ⟨v1115, rfl, hst⟩
 refine ⟨_, z, ?_⟩
 replace hst := hst.of1
 refine wv (v1115) z z z (wl_nil (tn (wp_ret ?_)))
 replace hst := hst.pull2.pull2
 replace hst := at_mvcc_Store_close (pv := Pt b621 0) (x := o0) hst z
 replace hst := objO_some hst
 obtain rfl := some_inj hm
 refine post_ret (vs := [v1115]) results27 (rvs_cons (rv_tmp z) rvs_nil) ?_
 replace hst := hst.pull1
 exact ⟨v1115, z, hst.keep2⟩
}
}
}

theorem octet_Read_ref {w0 w : World} {I : HL} {R : SP} {a0 : (List Int)} {r0_0 : Value} (f0_0 : Ro (tyInt .u8) I r0_0 a0) (hst : St w0 w I [] R) {r : (octet_Reader)} (hm : octet_Read a0 = some r) :
  Calls prog 46 #[r0_0] w fun e w' => ∃ (q0 : Value), e = .returned (q0) ∧ St w0 w' I [at_octet_Reader q0 r] R := by {
 unfold octet_Read at hm
 refine calls_start (args := [r0_0]) func46 z ntmps46 (Nat.le_of_ble_eq_true z) ?_
 refine wp_seq (wrl (wv (.pointer none) z z z (wl_nil (tn (wp_seq (wrl (wv (r0_0) z z z (wv (.agg #[r0_0, .bool false]) z z (by obtain ⟨_, _, hv_, _⟩ := (ro_sliceV f0_0); rw [hv_]; kernel_rfl) ?_))))))))
 obtain ⟨b52, w53, ew54, eb55, hst⟩ := hst.box [r0_0, .bool false] 110
 refine wl_run (v := Pt b52 0) (w' := w53) z z (x_al (by kernel_rfl) ew54 eb55) ?_
 refine wv (Pt b52 0) z z z (wl_nil (tn (wp_ret ?_)))
 replace hst := at_octet_Reader_close (pv := Pt b52 0) (x := ({ p := a0, bad := false } : octet_Reader)) hst ⟨z, f0_0⟩
 obtain rfl := some_inj hm
 refine post_ret (vs := [Pt b52 0]) results46 (rvs_cons (rv_tmp z) rvs_nil) ?_
 exact ⟨.pointer (some ⟨b52, 0, none⟩), z, hst.keep1⟩
}

theorem octet_Reader_Bad_ref {w0 w : World} {I : HL} {R : SP} {a0 : octet_Reader} {p0 : Value}  (hst : St w0 w I [at_octet_Reader p0 a0] R) {r : (Bool)} (hm : octet_Reader_Bad a0 = some r) :
  Calls prog 69 #[p0] w fun e w' => e = .returned (.bool r) ∧ St w0 w' I [at_octet_Reader p0 a0] R := by {
 unfold octet_Reader_Bad at hm
 refine calls_start (args := [p0]) func69 z ntmps69 (Nat.le_of_ble_eq_true z) ?_
 refine wp_seq (wrl (wv (.bool false) z z z (wl_nil (tn (wp_seq (wrl (wv (p0) z z z ?_)))))))
 obtain ⟨b64, v65, ⟨rfl, f67⟩, hst'⟩ := at_octet_Reader_open hst
 clear hst
 have hst := hst'
 clear hst'
 refine wv (.bool false) z z (by kernel_rfl) (wv (.bool false) z z z (wv (Pt b64 0) ((wanted_eq z z z z).trans z) z z (wv (Pt b64 0) ((wanted_eq z z z z).trans z) z z (wv (Pt b64 1) ((wanted_eq z z z z).trans z) z (x_field z underlying110 z sizeOf4 z) (wv (.bool a0.bad) ((wanted_eq z z z z).trans z) z (x_load z isAgg4 (hst.bc0 z)) (wv (.bool a0.bad) z z (x_pick_f z z z) (wv (.bool a0.bad) z z z (wl_nil (tn (wp_ret ?_))))))))))
 replace hst := at_octet_Reader_close (pv := Pt b64 0) (x := a0) hst ⟨z, f67⟩
 obtain rfl := some_inj hm
 refine post_ret (vs := [.bool a0.bad]) results69 (rvs_cons (rv_tmp z) rvs_nil) ?_
 exact ⟨z, hst.keep1⟩
}

theorem octet_Reader_Left_ref {w0 w : World} {I : HL} {R : SP} {a0 : octet_Reader} {p0 : Value}  (hst : St w0 w I [at_octet_Reader p0 a0] R) {r : (Int)} (hm : octet_Reader_Left a0 = some r) :
  Calls prog 48 #[p0] w fun e w' => e = .returned (.int .i64 r) ∧ St w0 w' I [at_octet_Reader p0 a0] R := by {
 unfold octet_Reader_Left at hm
 refine calls_start (args := [p0]) func48 z ntmps48 (Nat.le_of_ble_eq_true z) ?_
 refine wp_seq (wrl (wv (.int .i64 (0:Int)) z z z (wl_nil (tn (wp_seq (wp_seq (wrl (wv (p0) z z z ?_))))))))
 obtain ⟨t69, ht70, hm⟩ := bind_some hm
 refine wc call69 [p0] z z z ?_
 refine (octet_Reader_Bad_ref hst.to1 ht70).mono ?_
 rintro _ w71 ⟨rfl, hst⟩
 refine ⟨_, z, ?_⟩
 replace hst := hst.of1
 refine wl_nil (tn ?_)
 refine bsplit t69 (fun hc74 => ?_) (fun hc74 => ?_)
 {
 replace hm := bif_t hc74 hm
 refine wp_ift (cvb hc74) ?_
 refine wp_seq (wrl (wv (.int .i64 (0:Int)) z z z (wl_nil (tn (wp_ret (then_r ?_))))))
 obtain rfl := some_inj hm
 refine post_ret (vs := [Zi]) results48 (rvs_cons (rv_tmp z) rvs_nil) ?_
 exact ⟨z, hst.keep1⟩
}
 {
 replace hm := bif_f hc74 hm
 refine wp_iff (cvb hc74) ?_
 refine wp_skip (tn (wp_seq (wrl ?_)))
 refine wv (p0) z z z ?_
 obtain ⟨b75, v76, ⟨rfl, f78⟩, hst'⟩ := at_octet_Reader_open hst
 clear hst
 have hst := hst'
 clear hst'
 refine wv (Pt b75 0) z z z (wv (Pt b75 0) z z (x_field z underlying110 z sizeOf32 z) (wv (v76) z z (x_load z isAgg32 (hst.bc0 z)) (wv (.int .i64 ((a0.p).length : Int)) z z (x_len z underlying32 (ro_sliceV f78)) (wv (.int .i64 ((a0.p).length : Int)) z z z (wl_nil (tn (wp_ret ?_)))))))
 replace hst := at_octet_Reader_close (pv := Pt b75 0) (x := a0) hst ⟨z, f78⟩
 obtain rfl := some_inj hm
 refine post_ret (vs := [I6 ((a0.p).length : Int)]) results48 (rvs_cons (rv_tmp z) rvs_nil) ?_
 exact ⟨z, hst.keep1⟩
}
}

theorem octet_Reader_spoil_ref {w0 w : World} {I : HL} {R : SP} {a0 : octet_Reader} {p0 : Value}  (hst : St w0 w I [at_octet_Reader p0 a0] R) {r : (octet_Reader)} (hm : octet_Reader_spoil a0 = some r) :
  Calls prog 68 #[p0] w fun e w' => e = .returned (.tuple #[]) ∧ St w0 w' I [at_octet_Reader p0 r] R := by {
 unfold octet_Reader_spoil at hm
 refine calls_start (args := [p0]) func68 z ntmps68 (Nat.le_of_ble_eq_true z) ?_
 refine wp_seq (wrl (wv (p0) z z z ?_))
 obtain ⟨b77, v78, ⟨rfl, f80⟩, hst'⟩ := at_octet_Reader_open hst
 clear hst
 have hst := hst'
 clear hst'
 refine wv (.bool true) z z (by kernel_rfl) (wl_nil (tn ?_))
 refine wp_ift z ?_
 refine wrl (wv (Pt b77 0) z z z (wv (Pt b77 0) z z z (wv (Pt b77 1) z z (x_field z underlying110 z sizeOf4 z) ?_)))
 obtain ⟨w81, hr82, hst⟩ := hst.by_ [v78, .bool true] 1 (.bool true) sizeOf4 z (oC z oN) (by kernel_rfl)
 refine wl_unit z z (x_unit hr82) ?_
 refine wl_nil ?_
 replace hst := at_octet_Reader_close (pv := Pt b77 0) (x := ({ p := a0.p, bad := true } : octet_Reader)) hst ⟨z, f80⟩
 obtain rfl := some_inj hm
 refine post_end (vs := []) results68 rvs_nil ?_
 exact ⟨z, hst.keep1⟩
}

theorem octet_Reader_Num_ref {w0 w : World} {I : HL} {R : SP} {a0 : octet_Reader} {p0 : Value} {a1 : Int}  (hst : St w0 w I [at_octet_Reader p0 a0] R) {r : (Int × octet_Reader)} (hm : octet_Reader_Num a0 a1 = some r) :
  Calls prog 49 #[p0, I6 a1] w fun e w' => e = .returned (.int .u64 r.1) ∧ St w0 w' I [at_octet_Reader p0 r.2] R := by {
 unfold octet_Reader_Num at hm
 refine calls_start (args := [p0, I6 a1]) func49 z ntmps49 (Nat.le_of_ble_eq_true z) ?_
 refine wp_seq (wrl (wv (.int .u64 (0:Int)) z z z (wl_nil (tn (wp_seq (wp_seq (wrl (wv (p0) z z z ?_))))))))
 obtain ⟨b154, v155, ⟨rfl, f157⟩, hst'⟩ := at_octet_Reader_open hst
 clear hst
 have hst := hst'
 clear hst'
 refine wv (.bool false) z z (by kernel_rfl) (wv (.bool false) z z z (wv (Pt b154 0) ((wanted_eq z z z z).trans z) z z (wv (Pt b154 0) ((wanted_eq z z z z).trans z) z z (wv (Pt b154 1) ((wanted_eq z z z z).trans z) z (x_field z underlying110 z sizeOf4 z) (wv (.bool a0.bad) ((wanted_eq z z z z).trans z) z (x_load z isAgg4 (hst.bc0 z)) (wv (.bool a0.bad) z z (x_pick_f z z z) (wv (.bool a0.bad) z z z ?_)))))))
 refine bsplit a0.bad (fun hc158 => ?_) (fun hc158 => ?_)
 {
 replace hm := bif_t hc158 hm
 refine wo hc158 z z z z z z (wo hc158 z z z z z z (wv (.bool true) z z (x_pick_t hc158 z z) (wv (.bool true) z z z (wz z z z z z z (wz z z z z z z (wz z z z z z z (wz z z z z z z (wz z z z z z z (wz z z z z z z (wz z z z z z z (wv (.bool true) z z (x_pick_t z z z) (wl_nil (tn ?_)))))))))))))
 refine wp_ift z ?_
 refine wp_seq (wrl (wv (Pt b154 0) z z z ?_))
 replace hst := at_octet_Reader_close (pv := Pt b154 0) (x := a0) hst ⟨z, f157⟩
 obtain ⟨t159, ht160, hm⟩ := bind_some hm
 refine wc call68 [Pt b154 0] z z z ?_
 refine (octet_Reader_spoil_ref hst.to1 ht160).mono ?_
 rintro _ w161 ⟨rfl, hst⟩
 refine ⟨_, z, ?_⟩
 replace hst := hst.of1
 refine wl_nil (tn (wp_seq (wrl (wv (.int .u64 (0:Int)) z z z (wl_nil (tn (wp_ret (then_r ?_))))))))
 obtain rfl := some_inj hm
 refine post_ret (vs := [Zu]) results49 (rvs_cons (rv_tmp z) rvs_nil) ?_
 exact ⟨z, hst.keep1⟩
}
 {
 replace hm := bif_f hc158 hm
 refine wv (.int .i64 a1) ((wanted_eq z z z (cvb hc158)).trans z) z z (wv (.bool (decide (a1 < (0:Int)))) ((wanted_eq z z z (cvb hc158)).trans z) z z (wv (.bool (decide (a1 < (0:Int)))) z z (x_pick_f hc158 z z) (wv (.bool (decide (a1 < (0:Int)))) z z z ?_)))
 refine bsplit (decide (a1 < (0:Int))) (fun hc164 => ?_) (fun hc164 => ?_)
 {
 replace hm := bif_t hc164 hm
 refine wo hc164 z z z z z z (wo hc164 z z z z z z (wo hc164 z z z z z z (wo hc164 z z z z z z (wo hc164 z z z z z z (wo hc164 z z z z z z (wo hc164 z z z z z z (wv (.bool true) z z (x_pick_t hc164 z z) (wl_nil (tn ?_)))))))))
 refine wp_ift z ?_
 refine wp_seq (wrl (wv (Pt b154 0) z z z ?_))
 replace hst := at_octet_Reader_close (pv := Pt b154 0) (x := a0) hst ⟨z, f157⟩
 obtain ⟨t165, ht166, hm⟩ := bind_some hm
 refine wc call68 [Pt b154 0] z z z ?_
 refine (octet_Reader_spoil_ref hst.to1 ht166).mono ?_
 rintro _ w167 ⟨rfl, hst⟩
 refine ⟨_, z, ?_⟩
 replace hst := hst.of1
 refine wl_nil (tn (wp_seq (wrl (wv (.int .u64 (0:Int)) z z z (wl_nil (tn (wp_ret (then_r ?_))))))))
 obtain rfl := some_inj hm
 refine post_ret (vs := [Zu]) results49 (rvs_cons (rv_tmp z) rvs_nil) ?_
 exact ⟨z, hst.keep1⟩
}
 {
 replace hm := bif_f hc164 hm
 refine wv (Pt b154 0) ((wanted_eq z z z (cvb hc164)).trans z) z z (wv (Pt b154 0) ((wanted_eq z z z (cvb hc164)).trans z) z z (wv (Pt b154 0) ((wanted_eq z z z (cvb hc164)).trans z) z (x_field z underlying110 z sizeOf32 z) (wv (v155) ((wanted_eq z z z (cvb hc164)).trans z) z (x_load z isAgg32 (hst.bc0 z)) (wv (.int .i64 ((a0.p).length : Int)) ((wanted_eq z z z (cvb hc164)).trans z) z (x_len z underlying32 (ro_sliceV f157)) (wv (.int .i64 a1) ((wanted_eq z z z (cvb hc164)).trans z) z z (wv (.bool (decide (((a0.p).length : Int) < a1))) ((wanted_eq z z z (cvb hc164)).trans z) z z (wv (.bool (decide (((a0.p).length : Int) < a1))) z z (x_pick_f hc164 z z) (wl_nil (tn ?_)))))))))
 refine bsplit (decide (((a0.p).length : Int) < a1)) (fun hc170 => ?_) (fun hc170 => ?_)
 {
 replace hm := bif_t hc170 hm
 refine wp_ift (cvb hc170) ?_
 refine wp_seq (wrl (wv (Pt b154 0) z z z ?_))
 replace hst := at_octet_Reader_close (pv := Pt b154 0) (x := a0) hst ⟨z, f157⟩
 obtain ⟨t171, ht172, hm⟩ := bind_some hm
 refine wc call68 [Pt b154 0] z z z ?_
 refine (octet_Reader_spoil_ref hst.to1 ht172).mono ?_
 rintro _ w173 ⟨rfl, hst⟩
 refine ⟨_, z, ?_⟩
 replace hst := hst.of1
 refine wl_nil (tn (wp_seq (wrl (wv (.int .u64 (0:Int)) z z z (wl_nil (tn (wp_ret (then_r ?_))))))))
 obtain rfl := some_inj hm
 refine post_ret (vs := [Zu]) results49 (rvs_cons (rv_tmp z) rvs_nil) ?_
 exact ⟨z, hst.keep1⟩
}
 {
 replace hm := bif_f hc170 hm
 refine wp_iff (cvb hc170) ?_
 refine wp_skip (tn (wp_seq (wrl ?_)))
 refine wv (.int .u64 (0:Int)) z z z (wl_nil (tn ?_))
 obtain ⟨y227, hm, hx228⟩ := bind_some hm
 refine wp_cut (fun a w => ∃ (z224 : Int) (σ225 : Nat → Value), (octet_Reader_Num_j0 a0 a1) z224 = some r ∧ a = Fr 59 (upd (upd (upd σ225 0 (Pt b154 0)) 1 (.int .i64 a1)) 5 (.int .u64 z224)) ∧ St w0 w I [at_octet_Reader (Pt b154 0) a0] R) ?_ ?_
 {
 refine wp_seq (wrl (wv (.int .i64 a1) z z z (wv (.int .i64 (if (8:Int) < a1 then (8:Int) else a1)) z z (by kernel_rfl) (wv (.int .i64 (0:Int)) z z z (wl_nil (tn (wp_block ?_)))))))
 replace hst := at_octet_Reader_close (pv := Pt b154 0) (x := a0) hst ⟨z, f157⟩
 obtain ⟨n205, hm⟩ := loopO_some hm
 refine wp_loop_n (fun n a w => ∃ (z202 : Int) (z203 : Int) (σ204 : Nat → Value), loopN (octet_Reader_Num_l1 a1 a0) n (z202, z203) = some y227 ∧ a = Fr 59 (upd (upd (upd (upd (upd σ204 0 (Pt b154 0)) 1 (.int .i64 a1)) 5 (.int .u64 z203)) 31 (.int .i64 (if (8:Int) < a1 then (8:Int) else a1))) 32 (.int .i64 z202)) ∧ St w0 w I [at_octet_Reader (Pt b154 0) a0] R) n205 ⟨(0:Int), (0:Int), _, hm, (fu 0 (Pt b154 0) z (fu 1 (.int .i64 a1) z (fu 5 (.int .u64 (0:Int)) z (fu 31 (.int .i64 (if (8:Int) < a1 then (8:Int) else a1)) z (fu 32 (.int .i64 (0:Int)) z z))))), hst⟩ ?_
 rintro n211 _ w206 ⟨z202, z203, σ204, hm, rfl, hst⟩
 obtain ⟨n208, y209, rfl, hm, hx210⟩ := loopN_some hm
 dsimp only [octet_Reader_Num_l1] at hm
 refine wp_seq (wrl (wv (.bool (decide (z202 < (if (8:Int) < a1 then (8:Int) else a1)))) z z z (wl_nil (tn (wp_seq ?_)))))
 refine bsplit (decide (z202 < (if (8:Int) < a1 then (8:Int) else a1))) (fun hc212 => ?_) (fun hc212 => ?_)
 {
 replace hm := bif_t hc212 hm
 refine wp_ift (cvb hc212) ?_
 refine wp_skip (tn (wp_seq (wp_block (wp_seq (wrl ?_)))))
 refine wv (.int .i64 z202) z z z (wv (.int .i64 z202) z z z (wl_nil (tn (wrl (wv (.int .u64 z203) z z z (wv (Pt b154 0) z z z ?_))))))
 obtain ⟨b213, v214, ⟨e217, f216⟩, hst'⟩ := at_octet_Reader_open hst
 clear hst
 have e217 := ptr_inj e217
 subst e217
 have hst := hst'
 clear hst'
 refine wv (Pt b154 0) z z z (wv (Pt b154 0) z z (x_field z underlying110 z sizeOf32 z) (wv (v214) z z (x_load z isAgg32 (hst.bc0 z)) (wv (.int .i64 z202) z z z ?_)))
 obtain ⟨x218, hx219, hm⟩ := bind_some hm
 obtain ⟨h220, h221, hi222⟩ := geto_some hx219
 refine wv (.pointer (some (eAddr v214 (z202.toNat * 1 + 0)))) z z (x_index z z underlying32 sizeOf5 (ro_sliceV f216) h220 h221) (wv (.int .u8 x218) z z (x_load z isAgg5 (ro_load f216 hst hi222 (by rintro _ rfl; rfl))) (wv (.int .u64 (u64.wrap x218)) z z (by kernel_rfl) (wv (.int .i64 z202) z z z (wv (.int .i64 (i64.wrap ((8:Int) * z202))) z z z ?_))))
 obtain ⟨hg223, hm⟩ := gd_some hm
 refine wv (.int .u64 (iShl .u64 (u64.wrap x218) (i64.wrap ((8:Int) * z202)))) z z (x_shl (of_decide_eq_true hg223) z z) (wv (.int .u64 (bOr .u64 z203 (iShl .u64 (u64.wrap x218) (i64.wrap ((8:Int) * z202))))) z z z (wv (.int .u64 (bOr .u64 z203 (iShl .u64 (u64.wrap x218) (i64.wrap ((8:Int) * z202))))) z z z (wl_nil (blk_n (tn (wrl (wv (.int .i64 (i64.wrap (z202 + (1:Int)))) z z z (wv (.int .i64 (i64.wrap (z202 + (1:Int)))) z z z (wl_nil (tn ?_))))))))))
 replace hst := at_octet_Reader_close (pv := Pt b154 0) (x := a0) hst ⟨z, f216⟩
 replace hst := hst.keep1
 obtain rfl := some_inj hm
 exact ⟨_, Nat.lt_succ_self _, (i64.wrap (z202 + (1:Int))), (bOr .u64 z203 (iShl .u64 (u64.wrap x218) (i64.wrap ((8:Int) * z202)))), _, hx210, (fu 0 (Pt b154 0) z (fu 1 (.int .i64 a1) z (fu 5 (.int .u64 (bOr .u64 z203 (iShl .u64 (u64.wrap x218) (i64.wrap ((8:Int) * z202))))) z (fu 31 (.int .i64 (if (8:Int) < a1 then (8:Int) else a1)) z (fu 32 (.int .i64 (i64.wrap (z202 + (1:Int)))) z z))))), hst⟩
}
 {
 replace hm := bif_f hc212 hm
 refine wp_iff (cvb hc212) ?_
 refine wp_exit (then_x (then_x ?_))
 replace hm := inr_up hm hx210
 refine blk_x (tn ?_)
 replace hst := hst.keep1
 obtain rfl := some_inj hm
 exact ⟨z203, _, hx228, (fu 0 (Pt b154 0) z (fu 1 (.int .i64 a1) z (fu 5 (.int .u64 z203) z z))), hst⟩
}
}
 {
 clear hst
 rintro _ w229 ⟨z224, σ225, hm, rfl, hst⟩
 dsimp only [octet_Reader_Num_j0] at hm
 refine wp_seq (wrl (wv (Pt b154 0) z z z (wv (Pt b154 0) z z z ?_)))
 obtain ⟨b230, v231, ⟨e234, f233⟩, hst'⟩ := at_octet_Reader_open hst
 clear hst
 have e234 := ptr_inj e234
 subst e234
 have hst := hst'
 clear hst'
 refine wv (Pt b154 0) z z z (wv (Pt b154 0) z z (x_field z underlying110 z sizeOf32 z) (wv (v231) z z (x_load z isAgg32 (hst.bc0 z)) (wv (.int .i64 a1) z z z ?_)))
 obtain ⟨hg235, hm⟩ := gd_some hm
 obtain ⟨h236, h237, h238⟩ := fits_of hg235
 have f240 : Ro (tyInt .u8) I (slcV 1 v231 a1.toNat (((a0.p).length : Nat) : Int).toNat) (subs a0.p a1 (((a0.p).length : Nat) : Int)) := Ro.part f233 h237 h238 h236
 refine wv ((slcV 1 v231 a1.toNat (((a0.p).length : Nat) : Int).toNat)) z z (x_slice underlying32 sizeOf5 z (ro_sliceV f233) h236 h237 h238 .i64 .i64 (.inl z) (.inr ⟨z, z⟩)) (wv (Pt b154 0) z z z (wv (Pt b154 0) z z (x_field z underlying110 z sizeOf32 z) ?_))
 obtain ⟨w241, hr242, hst⟩ := hst.boxStore1 (P := prog) (t := 32) (cs' := [(slcV 1 v231 a1.toNat (((a0.p).length : Nat) : Int).toNat), .bool a0.bad]) 0 (slcV 1 v231 a1.toNat (((a0.p).length : Nat) : Int).toNat) (one_of_sliceV (ro_sliceV f240)) sizeOf32 z z
 refine wl_unit z z (x_unit hr242) ?_
 refine wl_nil (tn (wp_seq (wrl (wv (.int .u64 z224) z z z (wv (.int .u64 z224) z z z (wl_nil (tn (wp_ret ?_))))))))
 replace hst := at_octet_Reader_close (pv := Pt b154 0) (x := ({ p := (subs a0.p a1 (((a0.p).length : Nat) : Int)), bad := a0.bad } : octet_Reader)) hst ⟨z, f240⟩
 obtain rfl := some_inj hm
 refine post_ret (vs := [U6 z224]) results49 (rvs_cons (rv_tmp z) rvs_nil) ?_
 exact ⟨z, hst.keep1⟩
}
}
}
}
}

theorem octet_Reader_Count_ref {w0 w : World} {I : HL} {R : SP} {a0 : octet_Reader} {p0 : Value} {a1 : Int}  (hst : St w0 w I [at_octet_Reader p0 a0] R) {r : (Int × octet_Reader)} (hm : octet_Reader_Count a0 a1 = some r) :
  Calls prog 47 #[p0, I6 a1] w fun e w' => e = .returned (.int .i64 r.1) ∧ St w0 w' I [at_octet_Reader p0 r.2] R := by {
 unfold octet_Reader_Count at hm
 refine calls_start (args := [p0, I6 a1]) func47 z ntmps47 (Nat.le_of_ble_eq_true z) ?_
 refine wp_seq (wrl (wv (.int .i64 (0:Int)) z z z (wl_nil (tn (wp_seq (wrl (wv (p0) z z z ?_)))))))
 obtain ⟨t81, ht82, hm⟩ := bind_some hm
 refine wc call49 [p0, I6 (4:Int)] z z z ?_
 refine (octet_Reader_Num_ref hst.to1 ht82).mono ?_
 rintro _ w83 ⟨rfl, hst⟩
 refine ⟨_, z, ?_⟩
 replace hst := hst.of1
 refine wv (.int .u64 t81.1) z z z (wl_nil (tn (wp_seq (wp_seq (wrl (wv (.int .i64 a1) z z z (wv (.bool (decide (a1 < (0:Int)))) z z z (wv (.bool (decide (a1 < (0:Int)))) z z z ?_))))))))
 refine bsplit (decide (a1 < (0:Int))) (fun hc86 => ?_) (fun hc86 => ?_)
 {
 replace hm := bif_t hc86 hm
 refine wo hc86 z z z z z z (wo hc86 z z z z z z (wo hc86 z z z z z z (wo hc86 z z z z z z (wv (.bool true) z z (x_pick_t hc86 z z) (wl_nil (tn ?_))))))
 refine wp_ift z ?_
 refine wp_seq (wrl (wv (p0) z z z ?_))
 obtain ⟨t87, ht88, hm⟩ := bind_some hm
 refine wc call68 [p0] z z z ?_
 refine (octet_Reader_spoil_ref hst.to1 ht88).mono ?_
 rintro _ w89 ⟨rfl, hst⟩
 refine ⟨_, z, ?_⟩
 replace hst := hst.of1
 refine wl_nil (tn (wp_seq (wrl (wv (.int .i64 (0:Int)) z z z (wl_nil (tn (wp_ret (then_r ?_))))))))
 obtain rfl := some_inj hm
 refine post_ret (vs := [Zi]) results47 (rvs_cons (rv_tmp z) rvs_nil) ?_
 exact ⟨z, hst.keep1⟩
}
 {
 replace hm := bif_f hc86 hm
 refine wv (.int .u64 t81.1) ((wanted_eq z z z (cvb hc86)).trans z) z z (wv (.int .i64 a1) ((wanted_eq z z z (cvb hc86)).trans z) z z (wv (.int .u64 (u64.wrap a1)) ((wanted_eq z z z (cvb hc86)).trans z) z (by kernel_rfl) (wv (.bool (decide (t81.1 > (u64.wrap a1)))) ((wanted_eq z z z (cvb hc86)).trans z) z z (wv (.bool (decide (t81.1 > (u64.wrap a1)))) z z (x_pick_f hc86 z z) (wl_nil (tn ?_))))))
 refine bsplit (decide (t81.1 > (u64.wrap a1))) (fun hc92 => ?_) (fun hc92 => ?_)
 {
 replace hm := bif_t hc92 hm
 refine wp_ift (cvb hc92) ?_
 refine wp_seq (wrl (wv (p0) z z z ?_))
 obtain ⟨t93, ht94, hm⟩ := bind_some hm
 refine wc call68 [p0] z z z ?_
 refine (octet_Reader_spoil_ref hst.to1 ht94).mono ?_
 rintro _ w95 ⟨rfl, hst⟩
 refine ⟨_, z, ?_⟩
 replace hst := hst.of1
 refine wl_nil (tn (wp_seq (wrl (wv (.int .i64 (0:Int)) z z z (wl_nil (tn (wp_ret (then_r ?_))))))))
 obtain rfl := some_inj hm
 refine post_ret (vs := [Zi]) results47 (rvs_cons (rv_tmp z) rvs_nil) ?_
 exact ⟨z, hst.keep1⟩
}
 {
 replace hm := bif_f hc92 hm
 refine wp_iff (cvb hc92) ?_
 refine wp_skip (tn (wp_seq (wrl ?_)))
 refine wv (.int .u64 t81.1) z z z (wv (.int .i64 (i64.wrap t81.1)) z z (by kernel_rfl) (wv (.int .i64 (i64.wrap t81.1)) z z z (wl_nil (tn (wp_ret ?_)))))
 obtain rfl := some_inj hm
 refine post_ret (vs := [I6 (i64.wrap t81.1)]) results47 (rvs_cons (rv_tmp z) rvs_nil) ?_
 exact ⟨z, hst.keep1⟩
}
}
}

theorem octet_Reader_Flag_ref {w0 w : World} {I : HL} {R : SP} {a0 : octet_Reader} {p0 : Value}  (hst : St w0 w I [at_octet_Reader p0 a0] R) {r : (Bool × octet_Reader)} (hm : octet_Reader_Flag a0 = some r) :
  Calls prog 50 #[p0] w fun e w' => e = .returned (.bool r.1) ∧ St w0 w' I [at_octet_Reader p0 r.2] R := by {
 unfold octet_Reader_Flag at hm
 refine calls_start (args := [p0]) func50 z ntmps50 (Nat.le_of_ble_eq_true z) ?_
 refine wp_seq (wrl (wv (.bool false) z z z (wl_nil (tn (wp_seq (wrl (wv (p0) z z z ?_)))))))
 obtain ⟨t106, ht107, hm⟩ := bind_some hm
 refine wc call49 [p0, I6 (1:Int)] z z z ?_
 refine (octet_Reader_Num_ref hst.to1 ht107).mono ?_
 rintro _ w108 ⟨rfl, hst⟩
 refine ⟨_, z, ?_⟩
 replace hst := hst.of1
 refine wv (.int .u64 t106.1) z z z (wl_nil (tn (wp_seq (wp_seq (wrl (wv (.int .u64 t106.1) z z z (wv (.bool (decide (t106.1 > (1:Int)))) z z z (wl_nil (tn ?_)))))))))
 refine bsplit (decide (t106.1 > (1:Int))) (fun hc111 => ?_) (fun hc111 => ?_)
 {
 replace hm := bif_t hc111 hm
 refine wp_ift (cvb hc111) ?_
 refine wp_seq (wrl (wv (p0) z z z ?_))
 obtain ⟨t112, ht113, hm⟩ := bind_some hm
 refine wc call68 [p0] z z z ?_
 refine (octet_Reader_spoil_ref hst.to1 ht113).mono ?_
 rintro _ w114 ⟨rfl, hst⟩
 refine ⟨_, z, ?_⟩
 replace hst := hst.of1
 refine wl_nil (tn (wp_seq (wrl (wv (.bool false) z z z (wl_nil (tn (wp_ret (then_r ?_))))))))
 obtain rfl := some_inj hm
 refine post_ret (vs := [.bool false]) results50 (rvs_cons (rv_tmp z) rvs_nil) ?_
 exact ⟨z, hst.keep1⟩
}
 {
 replace hm := bif_f hc111 hm
 refine wp_iff (cvb hc111) ?_
 refine wp_skip (tn (wp_seq (wrl ?_)))
 refine wv (.int .u64 t106.1) z z z (wv (.bool (t106.1 == (1:Int))) z z z (wv (.bool (t106.1 == (1:Int))) z z z (wl_nil (tn (wp_ret ?_)))))
 obtain rfl := some_inj hm
 refine post_ret (vs := [.bool (t106.1 == (1:Int))]) results50 (rvs_cons (rv_tmp z) rvs_nil) ?_
 exact ⟨z, hst.keep1⟩
}
}

theorem octet_Reader_Bytes_ref {w0 w : World} {I : HL} {R : SP} {a0 : octet_Reader} {p0 : Value} {a1 : Int}  (hst : St w0 w I [at_octet_Reader p0 a0] R) {r : ((List Int) × octet_Reader)} (hm : octet_Reader_Bytes a0 a1 = some r) :
  Calls prog 51 #[p0, I6 a1] w fun e w' => ∃ (q0_0 : Value), e = .returned (q0_0) ∧ St w0 w' I [ownS (tyInt .u8) q0_0 r.1, at_octet_Reader p0 r.2] R := by {
 unfold octet_Reader_Bytes at hm
 refine calls_start (args := [p0, I6 a1]) func51 z ntmps51 (Nat.le_of_ble_eq_true z) ?_
 refine wp_seq (wrl (wv ((.slice none 0 0)) z z z (wl_nil (tn (wp_seq (wrl (wv (p0) z z z ?_)))))))
 obtain ⟨t154, ht155, hm⟩ := bind_some hm
 refine wc call49 [p0, I6 (4:Int)] z z z ?_
 refine (octet_Reader_Num_ref hst.to1 ht155).mono ?_
 rintro _ w156 ⟨rfl, hst⟩
 refine ⟨_, z, ?_⟩
 replace hst := hst.of1
 refine wv (.int .u64 t154.1) z z z (wl_nil (tn (wp_seq (wp_seq (wrl (wv (p0) z z z ?_))))))
 obtain ⟨b159, v160, ⟨rfl, f162⟩, hst'⟩ := at_octet_Reader_open hst
 clear hst
 have hst := hst'
 clear hst'
 refine wv (.bool false) z z (by kernel_rfl) (wv (.bool false) z z z (wv (Pt b159 0) ((wanted_eq z z z z).trans z) z z (wv (Pt b159 0) ((wanted_eq z z z z).trans z) z z (wv (Pt b159 1) ((wanted_eq z z z z).trans z) z (x_field z underlying110 z sizeOf4 z) (wv (.bool t154.2.bad) ((wanted_eq z z z z).trans z) z (x_load z isAgg4 (hst.bc0 z)) (wv (.bool t154.2.bad) z z (x_pick_f z z z) (wv (.bool t154.2.bad) z z z ?_)))))))
 refine bsplit t154.2.bad (fun hc163 => ?_) (fun hc163 => ?_)
 {
 replace hm := bif_t hc163 hm
 refine wo hc163 z z z z z z (wo hc163 z z z z z z (wv (.bool true) z z (x_pick_t hc163 z z) (wv (.bool true) z z z (wz z z z z z z (wz z z z z z z (wz z z z z z z (wz z z z z z z (wv (.bool true) z z (x_pick_t z z z) (wv (.bool true) z z z (wz z z z z z z (wz z z z z z z (wz z z z z z z ?_))))))))))))
 refine wz z z z z z z (wz z z z z z z (wz z z z z z z (wz z z z z z z (wz z z z z z z (wv (.bool true) z z (x_pick_t z z z) (wl_nil (tn ?_)))))))
 refine wp_ift z ?_
 refine wp_seq (wrl (wv (Pt b159 0) z z z ?_))
 replace hst := at_octet_Reader_close (pv := Pt b159 0) (x := t154.2) hst ⟨z, f162⟩
 obtain ⟨t164, ht165, hm⟩ := bind_some hm
 refine wc call68 [Pt b159 0] z z z ?_
 refine (octet_Reader_spoil_ref hst.to1 ht165).mono ?_
 rintro _ w166 ⟨rfl, hst⟩
 refine ⟨_, z, ?_⟩
 replace hst := hst.of1
 refine wl_nil (tn (wp_seq (wrl (wv ((.slice none 0 0)) z z z (wl_nil (tn (wp_ret (then_r ?_))))))))
 replace hst := hst.own_nil (tyInt .u8)
 obtain rfl := some_inj hm
 refine post_ret (vs := [Zs]) results51 (rvs_cons (rv_tmp z) rvs_nil) ?_
 replace hst := hst.pull1.pull1
 exact ⟨(.slice none 0 0), z, hst.keep2⟩
}
 {
 replace hm := bif_f hc163 hm
 refine wv (.int .i64 a1) ((wanted_eq z z z (cvb hc163)).trans z) z z (wv (.bool (decide (a1 < (0:Int)))) ((wanted_eq z z z (cvb hc163)).trans z) z z (wv (.bool (decide (a1 < (0:Int)))) z z (x_pick_f hc163 z z) (wv (.bool (decide (a1 < (0:Int)))) z z z ?_)))
 refine bsplit (decide (a1 < (0:Int))) (fun hc170 => ?_) (fun hc170 => ?_)
 {
 replace hm := bif_t hc170 hm
 refine wo hc170 z z z z z z (wo hc170 z z z z z z (wo hc170 z z z z z z (wo hc170 z z z z z z (wv (.bool true) z z (x_pick_t hc170 z z) (wv (.bool true) z z z (wz z z z z z z (wz z z z z z z (wz z z z z z z (wz z z z z z z (wz z z z z z z (wz z z z z z z (wz z z z z z z ?_))))))))))))
 refine wz z z z z z z (wv (.bool true) z z (x_pick_t z z z) (wl_nil (tn ?_)))
 refine wp_ift z ?_
 refine wp_seq (wrl (wv (Pt b159 0) z z z ?_))
 replace hst := at_octet_Reader_close (pv := Pt b159 0) (x := t154.2) hst ⟨z, f162⟩
 obtain ⟨t171, ht172, hm⟩ := bind_some hm
 refine wc call68 [Pt b159 0] z z z ?_
 refine (octet_Reader_spoil_ref hst.to1 ht172).mono ?_
 rintro _ w173 ⟨rfl, hst⟩
 refine ⟨_, z, ?_⟩
 replace hst := hst.of1
 refine wl_nil (tn (wp_seq (wrl (wv ((.slice none 0 0)) z z z (wl_nil (tn (wp_ret (then_r ?_))))))))
 replace hst := hst.own_nil (tyInt .u8)
 obtain rfl := some_inj hm
 refine post_ret (vs := [Zs]) results51 (rvs_cons (rv_tmp z) rvs_nil) ?_
 replace hst := hst.pull1.pull1
 exact ⟨(.slice none 0 0), z, hst.keep2⟩
}
 {
 replace hm := bif_f hc170 hm
 refine wv (.int .u64 t154.1) ((wanted_eq z z z (cvb hc170)).trans z) z z (wv (.int .i64 a1) ((wanted_eq z z z (cvb hc170)).trans z) z z (wv (.int .u64 (u64.wrap a1)) ((wanted_eq z z z (cvb hc170)).trans z) z (by kernel_rfl) (wv (.bool (decide (t154.1 > (u64.wrap a1)))) ((wanted_eq z z z (cvb hc170)).trans z) z z (wv (.bool (decide (t154.1 > (u64.wrap a1)))) z z (x_pick_f hc170 z z) (wv (.bool (decide (t154.1 > (u64.wrap a1)))) z z z ?_)))))
 refine bsplit (decide (t154.1 > (u64.wrap a1))) (fun hc177 => ?_) (fun hc177 => ?_)
 {
 replace hm := bif_t hc177 hm
 refine wo hc177 z z z z z z (wo hc177 z z z z z z (wo hc177 z z z z z z (wo hc177 z z z z z z (wo hc177 z z z z z z (wo hc177 z z z z z z (wo hc177 z z z z z z (wo hc177 z z z z z z (wv (.bool true) z z (x_pick_t hc177 z z) (wl_nil (tn ?_))))))))))
 refine wp_ift z ?_
 refine wp_seq (wrl (wv (Pt b159 0) z z z ?_))
 replace hst := at_octet_Reader_close (pv := Pt b159 0) (x := t154.2) hst ⟨z, f162⟩
 obtain ⟨t178, ht179, hm⟩ := bind_some hm
 refine wc call68 [Pt b159 0] z z z ?_
 refine (octet_Reader_spoil_ref hst.to1 ht179).mono ?_
 rintro _ w180 ⟨rfl, hst⟩
 refine ⟨_, z, ?_⟩
 replace hst := hst.of1
 refine wl_nil (tn (wp_seq (wrl (wv ((.slice none 0 0)) z z z (wl_nil (tn (wp_ret (then_r ?_))))))))
 replace hst := hst.own_nil (tyInt .u8)
 obtain rfl := some_inj hm
 refine post_ret (vs := [Zs]) results51 (rvs_cons (rv_tmp z) rvs_nil) ?_
 replace hst := hst.pull1.pull1
 exact ⟨(.slice none 0 0), z, hst.keep2⟩
}
 {
 replace hm := bif_f hc177 hm
 refine wv (.int .u64 t154.1) ((wanted_eq z z z (cvb hc177)).trans z) z z (wv (Pt b159 0) ((wanted_eq z z z (cvb hc177)).trans z) z z (wv (Pt b159 0) ((wanted_eq z z z (cvb hc177)).trans z) z z (wv (Pt b159 0) ((wanted_eq z z z (cvb hc177)).trans z) z (x_field z underlying110 z sizeOf32 z) (wv (v160) ((wanted_eq z z z (cvb hc177)).trans z) z (x_load z isAgg32 (hst.bc0 z)) (wv (.int .i64 ((t154.2.p).length : Int)) ((wanted_eq z z z (cvb hc177)).trans z) z (x_len z underlying32 (ro_sliceV f162)) (wv (.int .u64 (u64.wrap ((t154.2.p).length : Int))) ((wanted_eq z z z (cvb hc177)).trans z) z (by kernel_rfl) (wv (.bool (decide (t154.1 > (u64.wrap ((t154.2.p).length : Int))))) ((wanted_eq z z z (cvb hc177)).trans z) z z (wv (.bool (decide (t154.1 > (u64.wrap ((t154.2.p).length : Int))))) z z (x_pick_f hc177 z z) (wl_nil (tn ?_))))))))))
 refine bsplit (decide (t154.1 > (u64.wrap ((t154.2.p).length : Int)))) (fun hc184 => ?_) (fun hc184 => ?_)
 {
 replace hm := bif_t hc184 hm
 refine wp_ift (cvb hc184) ?_
 refine wp_seq (wrl (wv (Pt b159 0) z z z ?_))
 replace hst := at_octet_Reader_close (pv := Pt b159 0) (x := t154.2) hst ⟨z, f162⟩
 obtain ⟨t185, ht186, hm⟩ := bind_some hm
 refine wc call68 [Pt b159 0] z z z ?_
 refine (octet_Reader_spoil_ref hst.to1 ht186).mono ?_
 rintro _ w187 ⟨rfl, hst⟩
 refine ⟨_, z, ?_⟩
 replace hst := hst.of1
 refine wl_nil (tn (wp_seq (wrl (wv ((.slice none 0 0)) z z z (wl_nil (tn (wp_ret (then_r ?_))))))))
 replace hst := hst.own_nil (tyInt .u8)
 obtain rfl := some_inj hm
 refine post_ret (vs := [Zs]) results51 (rvs_cons (rv_tmp z) rvs_nil) ?_
 replace hst := hst.pull1.pull1
 exact ⟨(.slice none 0 0), z, hst.keep2⟩
}
 {
 replace hm := bif_f hc184 hm
 refine wp_iff (cvb hc184) ?_
 refine wp_skip (tn (wp_seq (wrl ?_)))
 refine wv (Pt b159 0) z z z (wv (Pt b159 0) z z z (wv (Pt b159 0) z z (x_field z underlying110 z sizeOf32 z) (wv (v160) z z (x_load z isAgg32 (hst.bc0 z)) (wv (.int .u64 t154.1) z z z ?_))))
 obtain ⟨hg191, hm⟩ := gd_some hm
 obtain ⟨h192, h193, h194⟩ := fits_of hg191
 have f196 : Ro (tyInt .u8) I (slcV 1 v160 (0:Int).toNat t154.1.toNat) (subs t154.2.p (0:Int) t154.1) := Ro.part f162 h193 h194 h192
 refine wv ((slcV 1 v160 (0:Int).toNat t154.1.toNat)) z z (x_slice underlying32 sizeOf5 z (ro_sliceV f162) h192 h193 h194 .i64 .u64 (.inr ⟨z, z⟩) (.inl z)) ?_
 replace hst := hst.own_nil (tyInt .u8)
 obtain ⟨hg198, hm⟩ := gd_some hm
 obtain ⟨v199, w200, hr201, hst⟩ := run_append elem_32 underlying32 hst (Src.of_ro hst f196) (room_of hg198 z) 32
 replace hst := St.nil_app hst
 refine wl_run (v := v199) (w' := w200) z z (x_append z z hr201) ?_
 refine wv (v199) z z z (wl_nil (tn (wp_seq (wrl (wv (Pt b159 0) z z z (wv (Pt b159 0) z z z (wv (Pt b159 0) z z z (wv (Pt b159 0) z z (x_field z underlying110 z sizeOf32 z) (wv (v160) z z (x_load z isAgg32 (hst.bc1 z)) (wv (.int .u64 t154.1) z z z ?_))))))))))
 obtain ⟨hg203, hm⟩ := gd_some hm
 obtain ⟨h204, h205, h206⟩ := fits_of hg203
 have f208 : Ro (tyInt .u8) I (slcV 1 v160 t154.1.toNat (((t154.2.p).length : Nat) : Int).toNat) (subs t154.2.p t154.1 (((t154.2.p).length : Nat) : Int)) := Ro.part f162 h205 h206 h204
 refine wv ((slcV 1 v160 t154.1.toNat (((t154.2.p).length : Nat) : Int).toNat)) z z (x_slice underlying32 sizeOf5 z (ro_sliceV f162) h204 h205 h206 .u64 .i64 (.inl z) (.inr ⟨z, z⟩)) (wv (Pt b159 0) z z z (wv (Pt b159 0) z z (x_field z underlying110 z sizeOf32 z) ?_))
 replace hst := hst.pull1
 obtain ⟨w209, hr210, hst⟩ := hst.boxStore1 (P := prog) (t := 32) (cs' := [(slcV 1 v160 t154.1.toNat (((t154.2.p).length : Nat) : Int).toNat), .bool t154.2.bad]) 0 (slcV 1 v160 t154.1.toNat (((t154.2.p).length : Nat) : Int).toNat) (one_of_sliceV (ro_sliceV f208)) sizeOf32 z z
 refine wl_unit z z (x_unit hr210) ?_
 refine wl_nil (tn (wp_seq (wrl (wv (v199) z z z (wv (v199) z z z (wl_nil (tn (wp_ret ?_))))))))
 replace hst := at_octet_Reader_close (pv := Pt b159 0) (x := ({ p := (subs t154.2.p t154.1 (((t154.2.p).length : Nat) : Int)), bad := t154.2.bad } : octet_Reader)) hst ⟨z, f208⟩
 obtain rfl := some_inj hm
 refine post_ret (vs := [v199]) results51 (rvs_cons (rv_tmp z) rvs_nil) ?_
 replace hst := hst.pull1
 exact ⟨v199, z, hst.keep2⟩
}
}
}
}
}

theorem octet_Reader_End_ref {w0 w : World} {I : HL} {R : SP} {a0 : octet_Reader} {p0 : Value}  (hst : St w0 w I [at_octet_Reader p0 a0] R) {r : (Bool)} (hm : octet_Reader_End a0 = some r) :
  Calls prog 52 #[p0] w fun e w' => e = .returned (.bool r) ∧ St w0 w' I [at_octet_Reader p0 a0] R := by {
 unfold octet_Reader_End at hm
 refine calls_start (args := [p0]) func52 z ntmps52 (Nat.le_of_ble_eq_true z) ?_
 refine wp_seq (wrl (wv (.bool false) z z z (wl_nil (tn (wp_seq (wrl (wv (p0) z z z ?_)))))))
 obtain ⟨t799, ht800, hm⟩ := bind_some hm
 refine wc call69 [p0] z z z ?_
 refine (octet_Reader_Bad_ref hst.to1 ht800).mono ?_
 rintro _ w801 ⟨rfl, hst⟩
 refine ⟨_, z, ?_⟩
 replace hst := hst.of1
 refine wv (.bool (!t799)) z z z (wv (.bool (!t799)) z z z ?_)
 refine bsplit (!t799) (fun hc804 => ?_) (fun hc804 => ?_)
 {
 replace hm := bif_t hc804 hm
 refine wv (p0) ((wanted_eq z z z (cvb hc804)).trans z) z z ?_
 obtain ⟨b805, v806, ⟨rfl, f808⟩, hst'⟩ := at_octet_Reader_open hst
 clear hst
 have hst := hst'
 clear hst'
 refine wv (Pt b805 0) ((wanted_eq z z z (cvb hc804)).trans z) z z (wv (Pt b805 0) ((wanted_eq z z z (cvb hc804)).trans z) z (x_field z underlying110 z sizeOf32 z) (wv (v806) ((wanted_eq z z z (cvb hc804)).trans z) z (x_load z isAgg32 (hst.bc0 z)) (wv (.int .i64 ((a0.p).length : Int)) ((wanted_eq z z z (cvb hc804)).trans z) z (x_len z underlying32 (ro_sliceV f808)) (wv (.bool (((a0.p).length : Int) == (0:Int))) ((wanted_eq z z z (cvb hc804)).trans z) z z (wv (.bool (((a0.p).length : Int) == (0:Int))) z z (x_pick_t hc804 z z) (wv (.bool (((a0.p).length : Int) == (0:Int))) z z z (wl_nil (tn (wp_ret ?_)))))))))
 replace hst := at_octet_Reader_close (pv := Pt b805 0) (x := a0) hst ⟨z, f808⟩
 obtain rfl := some_inj hm
 refine post_ret (vs := [.bool (((a0.p).length : Int) == (0:Int))]) results52 (rvs_cons (rv_tmp z) rvs_nil) ?_
 exact ⟨z, hst.keep1⟩
}
 {
 replace hm := bif_f hc804 hm
 refine wo hc804 z z z z z z (wo hc804 z z z z z z (wo hc804 z z z z z z (wo hc804 z z z z z z (wo hc804 z z z z z z (wo hc804 z z z z z z (wv (.bool false) z z (x_pick_f hc804 z z) (wv (.bool false) z z z (wl_nil (tn (wp_ret ?_))))))))))
 obtain rfl := some_inj hm
 refine post_ret (vs := [.bool false]) results52 (rvs_cons (rv_tmp z) rvs_nil) ?_
 exact ⟨z, hst.keep1⟩
}
}

theorem number_Back_ref {w0 w : World} {I : HL} {R : SP} {a0 : Int}  (hst : St w0 w I [] R) {r : (Nat)} (hm : number_Back a0 = some r) :
  Calls prog 35 #[U6 a0] w fun e w' => e = .returned (.float .f64 r) ∧ St w0 w' I [] R := by {
 unfold number_Back at hm
 refine calls_start (args := [U6 a0]) func35 z ntmps35 (Nat.le_of_ble_eq_true z) ?_
 refine wp_seq (wrl (wv (.float .f64 (0:Nat)) z z z (wl_nil (tn (wp_seq (wp_seq (wrl (wv (.int .u64 a0) z z z (wv (.int .u64 (iShr .u64 a0 (63:Int))) z z (x_shr (by decide) z z) (wv (.bool ((iShr .u64 a0 (63:Int)) == (1:Int))) z z z (wl_nil (tn ?_))))))))))))
 refine bsplit ((iShr .u64 a0 (63:Int)) == (1:Int)) (fun hc814 => ?_) (fun hc814 => ?_)
 {
 replace hm := bif_t hc814 hm
 refine wp_ift (cvb hc814) ?_
 refine wp_seq (wrl (wv (.int .u64 a0) z z z (wv (.int .u64 (bAndNot .u64 a0 (9223372036854775808:Int))) z z z (wv (.float .f64 (Int.toNat (bAndNot .u64 a0 (9223372036854775808:Int)))) z z (by kernel_rfl) (wv (.float .f64 (Int.toNat (bAndNot .u64 a0 (9223372036854775808:Int)))) z z z (wl_nil (tn (wp_ret (then_r ?_)))))))))
 obtain rfl := some_inj hm
 refine post_ret (vs := [F6 (Int.toNat (bAndNot .u64 a0 (9223372036854775808:Int)))]) results35 (rvs_cons (rv_tmp z) rvs_nil) ?_
 exact ⟨z, hst.keep0⟩
}
 {
 replace hm := bif_f hc814 hm
 refine wp_iff (cvb hc814) ?_
 refine wp_skip (tn (wp_seq (wrl ?_)))
 refine wv (.int .u64 a0) z z z (wv (.int .u64 (bXor .u64 ((18446744073709551615):Int) a0)) z z (by kernel_rfl) (wv (.float .f64 (Int.toNat (bXor .u64 ((18446744073709551615):Int) a0))) z z (by kernel_rfl) (wv (.float .f64 (Int.toNat (bXor .u64 ((18446744073709551615):Int) a0))) z z z (wl_nil (tn (wp_ret ?_))))))
 obtain rfl := some_inj hm
 refine post_ret (vs := [F6 (Int.toNat (bXor .u64 ((18446744073709551615):Int) a0))]) results35 (rvs_cons (rv_tmp z) rvs_nil) ?_
 exact ⟨z, hst.keep0⟩
}
}

theorem mvcc_Store_right_ref {w0 w : World} {I : HL} {R : SP} {a0 : (Option mvcc_Store)} {p0 : Value}  (hst : St w0 w I [objO at_mvcc_Store p0 a0] R) {r : (Bool)} (hm : mvcc_Store_right a0 = some r) :
  Calls prog 53 #[p0] w fun e w' => e = .returned (.bool r) ∧ St w0 w' I [objO at_mvcc_Store p0 a0] R := by {
 rcases a0 with _ | o0
 {
 obtain ⟨rfl, hst'⟩ := objO_none hst
 clear hst
 have hst := hst'
 clear hst'
 dsimp only [mvcc_Store_right] at hm
 refine calls_start (args := [.pointer none]) func53 z ntmps53 (Nat.le_of_ble_eq_true z) ?_
 refine wp_seq (wrl (wv (.bool false) z z z (wl_nil (tn (wp_seq (wp_seq (wrl (wv (.pointer none) z z z ?_))))))))
 cases hm
}
 {
 replace hst := objO_get hst
 dsimp only [mvcc_Store_right] at hm
 refine calls_start (args := [p0]) func53 z ntmps53 (Nat.le_of_ble_eq_true z) ?_
 refine wp_seq (wrl (wv (.bool false) z z z (wl_nil (tn (wp_seq (wp_seq (wrl (wv (p0) z z z ?_))))))))
 obtain ⟨b1390, v1391, rfl, hst'⟩ := at_mvcc_Store_open hst
 clear hst
 have hst := hst'
 clear hst'
 refine wv (Pt b1390 0) z z z (wv (Pt b1390 0) z z (x_field z underlying79 z sizeOf77 z) (wv (v1391) z z (x_load z isAgg77 (hst.bc0 z)) (wv (.int .i64 ((o0.rows).length : Int)) z z (x_len z underlying77 (hst.nestsv 1 z)) (wv (.int .i64 (0:Int)) z z z (wl_nil (tn (wp_block ?_)))))))
 obtain ⟨n1784, hm⟩ := loopO_some hm
 refine wp_loop_n (fun n a w => ∃ (z1782 : Int) (σ1783 : Nat → Value), loopN (mvcc_Store_right_l0 o0) n z1782 = some r ∧ a = Fr 84 (upd (upd (upd (upd σ1783 0 (Pt b1390 0)) 10 (v1391)) 11 (.int .i64 ((o0.rows).length : Int))) 12 (.int .i64 z1782)) ∧ St w0 w I [cells b1390 [v1391], ownN nest_mvcc_row v1391 o0.rows] R) n1784 ⟨(0:Int), _, hm, (fu 0 (Pt b1390 0) z (fu 10 v1391 z (fu 11 (.int .i64 ((o0.rows).length : Int)) z (fu 12 (.int .i64 (0:Int)) z z)))), hst⟩ ?_
 rintro n1790 _ w1785 ⟨z1782, σ1783, hm, rfl, hst⟩
 obtain ⟨n1787, y1788, rfl, hm, hx1789⟩ := loopN_some hm
 dsimp only [mvcc_Store_right_l0] at hm
 refine wp_seq (wrl (wv (.bool (decide (z1782 < ((o0.rows).length : Int)))) z z z (wl_nil (tn (wp_seq ?_)))))
 refine bsplit (decide (z1782 < ((o0.rows).length : Int))) (fun hc1791 => ?_) (fun hc1791 => ?_)
 {
 replace hm := bif_t hc1791 hm
 refine wp_ift (cvb hc1791) ?_
 refine wp_skip (tn (wp_seq (wp_block (wp_seq (wrl ?_)))))
 refine wv (.int .i64 z1782) z z z ?_
 obtain ⟨x1792, hx1793, hm⟩ := bind_some hm
 obtain ⟨h1794, h1795, hi1796⟩ := geto_some hx1793
 refine wv (.pointer (some (eAddr v1391 (z1782.toNat * 2 + 0)))) z z (x_index z z underlying77 sizeOf76 (hst.nestsv 1 z) h1794 h1795) ?_
 replace hst := hst.pull1
 obtain ⟨v1797, hst⟩ := hst.nest_focus hi1796
 refine wv (.agg #[U6 x1792.rank, v1797]) z z (x_loadN (cs := [U6 x1792.rank, v1797]) z isAgg76 sizeOf76 (eCells (o := 0) (hst.holeall (N := nest_mvcc_row) (i := z1782.toNat) 1 z hi1796) z)) ?_
 obtain ⟨b1800, w1801, ew1802, eb1803, hst⟩ := hst.box [Zu, Zs] 76
 refine wl_run (v := Pt b1800 0) (w' := w1801) z z (x_al (by kernel_rfl) ew1802 eb1803) ?_
 refine wv (.int .i64 z1782) z z z ?_
 obtain ⟨w1805, hr1806, hst⟩ := hst.bx [U6 x1792.rank, v1797] sizeOf76 z (oC z (oC (one_of_sliceV hst.sv1) oN)) (by kernel_rfl)
 refine wl_unit z z (x_unit hr1806) ?_
 refine wl_nil (tn ?_)
 obtain ⟨y1840, hm, hx1841⟩ := joinO_some hm
 refine wp_cut (fun a w => ∃ (σ1838 : Nat → Value), (mvcc_Store_right_j1 x1792 z1782) () = some y1788 ∧ a = Fr 84 (upd (upd (upd (upd (upd σ1838 0 (Pt b1390 0)) 4 (Pt b1800 0)) 10 (v1391)) 11 (.int .i64 ((o0.rows).length : Int))) 12 (.int .i64 z1782)) ∧ St w0 w I [cells b1390 [v1391], ownS ty_mvcc_Version v1797 x1792.l, holeN nest_mvcc_row v1391 o0.rows z1782.toNat v1797, cells b1800 [U6 x1792.rank, v1797]] R) ?_ ?_
 {
 refine wp_seq ?_
 refine wp_region_St hst 31 [0, 1, 2, 3, 4, 5, 6, 7, 8, 9, 10, 11, 12, 13, 14, 15, 16, 17, 18, 19, 20, 21, 22, 23, 24, 25, 26, 27, 28, 29, 30] [0, 1, 3, 7, 15, 31, 63, 7, 135, 511, 1023, 2047, 7, 4103, 16383, 32767, 65535, 131071, 262143, 524287, 1048575, 2097151, 4194303, 8388607, 16777215, 33554431, 67108863, 8388607, 142606335, 536870911, 1073741823] [] z (by kernel_rfl) (by kernel_rfl) Try.mixed (by kernel_rfl) ?_
 refine wsr (.int .i64 z1782) 0 z z z (by kernel_rfl) (fun w hst => z) (wsr (.bool (decide (z1782 > (0:Int)))) 1 z z z (by kernel_rfl) (fun w hst => z) (wsr (.bool (decide (z1782 > (0:Int)))) 2 z z z (by kernel_rfl) (fun w hst => z) ?_))
 refine bsplit (decide (z1782 > (0:Int))) (fun hc1807 => ?_) (fun hc1807 => ?_)
 {
 replace hm := bif_t hc1807 hm
 refine ws_q (v := Pt b1390 0) 3 [4, 5, 6, 7, 8, 9, 10, 11, 12, 13, 14, 15, 16, 17, 18, 19, 20, 21, 22, 23, 24, 25, 26, 27, 28, 29, 30] (by kernel_rfl) z z (yi_run ((wanted_eq z z z (cvb hc1807)).trans z) (fun w hst => z)) (ws_q (v := Pt b1390 0) 4 [5, 6, 7, 8, 9, 10, 11, 12, 13, 14, 15, 16, 17, 18, 19, 20, 21, 22, 23, 24, 25, 26, 27, 28, 29, 30] (by kernel_rfl) z z (yi_run ((wanted_eq z z z (cvb hc1807)).trans z) (fun w hst => z)) (ws_q (v := Pt b1390 0) 5 [6, 7, 8, 9, 10, 11, 12, 13, 14, 15, 16, 17, 18, 19, 20, 21, 22, 23, 24, 25, 26, 27, 28, 29, 30] (by kernel_rfl) z z (yi_run ((wanted_eq z z z (cvb hc1807)).trans z) (fun w hst => x_field z underlying79 z sizeOf77 z)) (ws_q (v := v1391) 6 [7, 8, 9, 10, 11, 12, 13, 14, 15, 16, 17, 18, 19, 20, 21, 22, 23, 24, 25, 26, 27, 28, 29, 30] (by kernel_rfl) z z (yi_run ((wanted_eq z z z (cvb hc1807)).trans z) (fun w hst => x_load z isAgg77 (hst.bc3 z))) (ws_q (v := .int .i64 z1782) 7 [8, 9, 10, 11, 12, 13, 14, 15, 16, 17, 18, 19, 20, 21, 22, 23, 24, 25, 26, 27, 28, 29, 30] (by kernel_rfl) z z (yi_run ((wanted_eq z z z (cvb hc1807)).trans z) (fun w hst => z)) (ws_q (v := .int .i64 (i64.wrap (z1782 - (1:Int)))) 8 [9, 10, 11, 12, 13, 14, 15, 16, 17, 18, 19, 20, 21, 22, 23, 24, 25, 26, 27, 28, 29, 30] (by kernel_rfl) z z (yi_run ((wanted_eq z z z (cvb hc1807)).trans z) (fun w hst => z)) ?_)))))
 obtain ⟨x1808, hx1809, hm⟩ := bind_some hm
 obtain ⟨h1810, h1811, hi1812⟩ := geto_some hx1809
 refine ws_q (v := .pointer (some (eAddr v1391 ((i64.wrap (z1782 - (1:Int))).toNat * 2 + 0)))) 9 [10, 11, 12, 13, 14, 15, 16, 17, 18, 19, 20, 21, 22, 23, 24, 25, 26, 27, 28, 29, 30] (by kernel_rfl) z z (yi_run ((wanted_eq z z z (cvb hc1807)).trans z) (fun w hst => x_index z z underlying77 sizeOf76 (hst.holesv 2 z) h1810 h1811)) (ws_q (v := .pointer (some (eAddr v1391 ((i64.wrap (z1782 - (1:Int))).toNat * 2 + 0)))) 10 [11, 12, 13, 14, 15, 16, 17, 18, 19, 20, 21, 22, 23, 24, 25, 26, 27, 28, 29, 30] (by kernel_rfl) z z (yi_run ((wanted_eq z z z (cvb hc1807)).trans z) (fun w hst => x_field_e z underlying76 z sizeOf24 z)) (ws_q (v := .int .u64 x1808.rank) 11 [12, 13, 14, 15, 16, 17, 18, 19, 20, 21, 22, 23, 24, 25, 26, 27, 28, 29, 30] (by kernel_rfl) z z (yi_run ((wanted_eq z z z (cvb hc1807)).trans z) (fun w hst => x_load z isAgg24 (hst.holec (N := nest_mvcc_row) (i := (i64.wrap (z1782 - (1:Int))).toNat) (o := 0) 2 z hi1812 (fun _ => z)))) (ws_q (v := Pt b1800 0) 12 [13, 14, 15, 16, 17, 18, 19, 20, 21, 22, 23, 24, 25, 26, 27, 28, 29, 30] (by kernel_rfl) z z (yi_run ((wanted_eq z z z (cvb hc1807)).trans z) (fun w hst => x_field z underlying76 z sizeOf24 z)) (ws_q (v := .int .u64 x1792.rank) 13 [14, 15, 16, 17, 18, 19, 20, 21, 22, 23, 24, 25, 26, 27, 28, 29, 30] (by kernel_rfl) z z (yi_run ((wanted_eq z z z (cvb hc1807)).trans z) (fun w hst => x_load z isAgg24 (hst.bc0 z))) (ws_q (v := .bool (decide (x1808.rank ≥ x1792.rank))) 14 [15, 16, 17, 18, 19, 20, 21, 22, 23, 24, 25, 26, 27, 28, 29, 30] (by kernel_rfl) z z (yi_run ((wanted_eq z z z (cvb hc1807)).trans z) (fun w hst => z)) (wsr (.bool (decide (x1808.rank ≥ x1792.rank))) 15 z z z (by kernel_rfl) (fun w hst => x_pick_t hc1807 z z) (wsr (.bool (decide (x1808.rank ≥ x1792.rank))) 16 z z z (by kernel_rfl) (fun w hst => z) ?_)))))))
 refine bsplit (decide (x1808.rank ≥ x1792.rank)) (fun hc1813 => ?_) (fun hc1813 => ?_)
 {
 replace hm := bif_t hc1813 hm
 refine ws_q (v := undef) 17 [18, 19, 20, 21, 22, 23, 24, 25, 26, 27, 28, 29, 30] (by kernel_rfl) z z (yi_off ((wanted_eq z z z (cvb hc1813)).trans z)) (ws_q (v := undef) 18 [19, 20, 21, 22, 23, 24, 25, 26, 27, 28, 29, 30] (by kernel_rfl) z z (yi_off ((wanted_eq z z z (cvb hc1813)).trans z)) (ws_q (v := undef) 19 [20, 21, 22, 23, 24, 25, 26, 27, 28, 29, 30] (by kernel_rfl) z z (yi_off ((wanted_eq z z z (cvb hc1813)).trans z)) (ws_q (v := undef) 20 [21, 22, 23, 24, 25, 26, 27, 28, 29, 30] (by kernel_rfl) z z (yi_off ((wanted_eq z z z (cvb hc1813)).trans z)) (wsr (.bool true) 21 z z z (by kernel_rfl) (fun w hst => x_pick_t hc1813 z z) (wsr (.bool true) 22 z z z (by kernel_rfl) (fun w hst => z) (ws_q (v := undef) 23 [24, 25, 26, 27, 28, 29, 30] (by kernel_rfl) z z (yi_off ((wanted_eq z z z z).trans z)) (ws_q (v := undef) 24 [25, 26, 27, 28, 29, 30] (by kernel_rfl) z z (yi_off ((wanted_eq z z z z).trans z)) (ws_q (v := undef) 25 [26, 27, 28, 29, 30] (by kernel_rfl) z z (yi_off ((wanted_eq z z z z).trans z)) (ws_q (v := undef) 26 [27, 28, 29, 30] (by kernel_rfl) z z (yi_off ((wanted_eq z z z z).trans z)) (ws_q (v := undef) 27 [28, 29, 30] (by kernel_rfl) z z (yi_off ((wanted_eq z z z z).trans z)) (ws_q (v := undef) 28 [29, 30] (by kernel_rfl) z z (yi_off ((wanted_eq z z z z).trans z)) (ws_q (v := undef) 29 [30] (by kernel_rfl) z z (yi_off ((wanted_eq z z z z).trans z)) ?_))))))))))))
 refine wsr (.bool true) 30 z z z (by kernel_rfl) (fun w hst => x_pick_t z z z) ?_
 refine ws_nil ?_
 intro w hst
 refine tn ?_
 refine wp_ift z ?_
 refine wp_seq (wrl (wv (.bool false) z z z (wl_nil (tn (wp_ret (then_r ?_))))))
 replace hm := inr_up hm hx1841
 refine blk_r (then_r (then_r ?_))
 replace hm := inr_up hm hx1789
 refine blk_r (then_r ?_)
 replace hst := hst.pull2.pull2
 replace hst := St.nest_close0 (N := nest_mvcc_row) hst hi1796
 replace hst := hst.pull2
 replace hst := at_mvcc_Store_close (pv := Pt b1390 0) (x := o0) hst z
 replace hst := objO_some hst
 obtain rfl := some_inj hm
 refine post_ret (vs := [.bool false]) results53 (rvs_cons (rv_tmp z) rvs_nil) ?_
 exact ⟨z, hst.keep1⟩
}
 {
 replace hm := bif_f hc1813 hm
 refine ws_q (v := Pt b1800 1) 17 [18, 19, 20, 21, 22, 23, 24, 25, 26, 27, 28, 29, 30] (by kernel_rfl) z z (yi_run ((wanted_eq z z z (cvb hc1813)).trans z) (fun w hst => x_field z underlying76 z sizeOf53 z)) (ws_q (v := v1797) 18 [19, 20, 21, 22, 23, 24, 25, 26, 27, 28, 29, 30] (by kernel_rfl) z z (yi_run ((wanted_eq z z z (cvb hc1813)).trans z) (fun w hst => x_load z isAgg53 (hst.bc0 z))) (ws_q (v := .int .i64 ((x1792.l).length : Int)) 19 [20, 21, 22, 23, 24, 25, 26, 27, 28, 29, 30] (by kernel_rfl) z z (yi_run ((wanted_eq z z z (cvb hc1813)).trans z) (fun w hst => x_len z underlying53 hst.sv1)) (ws_q (v := .bool (((x1792.l).length : Int) == (0:Int))) 20 [21, 22, 23, 24, 25, 26, 27, 28, 29, 30] (by kernel_rfl) z z (yi_run ((wanted_eq z z z (cvb hc1813)).trans z) (fun w hst => z)) (wsr (.bool (((x1792.l).length : Int) == (0:Int))) 21 z z z (by kernel_rfl) (fun w hst => x_pick_f hc1813 z z) (wsr (.bool (((x1792.l).length : Int) == (0:Int))) 22 z z z (by kernel_rfl) (fun w hst => z) ?_)))))
 refine bsplit (((x1792.l).length : Int) == (0:Int)) (fun hc1814 => ?_) (fun hc1814 => ?_)
 {
 replace hm := bif_t hc1814 hm
 refine ws_q (v := undef) 23 [24, 25, 26, 27, 28, 29, 30] (by kernel_rfl) z z (yi_off ((wanted_eq z z z (cvb hc1814)).trans z)) (ws_q (v := undef) 24 [25, 26, 27, 28, 29, 30] (by kernel_rfl) z z (yi_off ((wanted_eq z z z (cvb hc1814)).trans z)) (ws_q (v := undef) 25 [26, 27, 28, 29, 30] (by kernel_rfl) z z (yi_off ((wanted_eq z z z (cvb hc1814)).trans z)) (ws_q (v := undef) 26 [27, 28, 29, 30] (by kernel_rfl) z z (yi_off ((wanted_eq z z z (cvb hc1814)).trans z)) (ws_q (v := undef) 27 [28, 29, 30] (by kernel_rfl) z z (yi_off ((wanted_eq z z z (cvb hc1814)).trans z)) (ws_q (v := undef) 28 [29, 30] (by kernel_rfl) z z (yi_off ((wanted_eq z z z (cvb hc1814)).trans z)) (ws_q (v := undef) 29 [30] (by kernel_rfl) z z (yi_off ((wanted_eq z z z (cvb hc1814)).trans z)) (wsr (.bool true) 30 z z z (by kernel_rfl) (fun w hst => x_pick_t hc1814 z z) ?_)))))))
 refine ws_nil ?_
 intro w hst
 refine tn ?_
 refine wp_ift z ?_
 refine wp_seq (wrl (wv (.bool false) z z z (wl_nil (tn (wp_ret (then_r ?_))))))
 replace hm := inr_up hm hx1841
 refine blk_r (then_r (then_r ?_))
 replace hm := inr_up hm hx1789
 refine blk_r (then_r ?_)
 replace hst := hst.pull2.pull2
 replace hst := St.nest_close0 (N := nest_mvcc_row) hst hi1796
 replace hst := hst.pull2
 replace hst := at_mvcc_Store_close (pv := Pt b1390 0) (x := o0) hst z
 replace hst := objO_some hst
 obtain rfl := some_inj hm
 refine post_ret (vs := [.bool false]) results53 (rvs_cons (rv_tmp z) rvs_nil) ?_
 exact ⟨z, hst.keep1⟩
}
 {
 replace hm := bif_f hc1814 hm
 refine ws_q (v := Pt b1800 0) 23 [24, 25, 26, 27, 28, 29, 30] (by kernel_rfl) z z (yi_run ((wanted_eq z z z (cvb hc1814)).trans z) (fun w hst => x_field z underlying76 z sizeOf24 z)) (ws_q (v := .int .u64 x1792.rank) 24 [25, 26, 27, 28, 29, 30] (by kernel_rfl) z z (yi_run ((wanted_eq z z z (cvb hc1814)).trans z) (fun w hst => x_load z isAgg24 (hst.bc0 z))) (ws_q (v := Pt b1800 0) 27 [25, 26, 28, 29, 30] (by kernel_rfl) z z (yi_run ((wanted_eq z z z (cvb hc1814)).trans z) (fun w hst => x_field z underlying76 z sizeOf24 z)) (ws_q (v := .int .u64 x1792.rank) 28 [25, 26, 29, 30] (by kernel_rfl) z z (yi_run ((wanted_eq z z z (cvb hc1814)).trans z) (fun w hst => x_load z isAgg24 (hst.bc0 z))) ?_)))
 refine ws_e1 25 (by kernel_rfl) ?_
 refine nxe [26, 29, 30] (by kernel_rfl) z ((wanted_eq z z z (cvb hc1814)).trans z) ?_
 clear hst
 intro w hst
 obtain ⟨t1815, ht1816, hm⟩ := bind_some hm
 refine wec call35 [U6 x1792.rank] z z ?_
 refine (number_Back_ref hst.to0 ht1816).mono ?_
 rintro _ w1817 ⟨rfl, hst⟩
 refine ⟨_, z, ?_⟩
 replace hst := hst.of0
 refine ws_next (pend' := [(28, U6 x1792.rank), (27, Pt b1800 0)]) hst (by kernel_rfl) (pk_cons z (yi_run ((wanted_eq z z z (cvb hc1814)).trans z) (fun w hst => x_load z isAgg24 (hst.bc0 z))) (pk_cons z (yi_run ((wanted_eq z z z (cvb hc1814)).trans z) (fun w hst => x_field z underlying76 z sizeOf24 z)) pk_nil)) ?_
 refine ws_e1 26 (by kernel_rfl) ?_
 refine nxe [29, 30] (by kernel_rfl) z ((wanted_eq z z z (cvb hc1814)).trans z) ?_
 clear hst
 intro w hst
 obtain ⟨t1820, ht1821, hm⟩ := bind_some hm
 refine wec call32 [F6 t1815] z z ?_
 refine (number_Rank_ref hst.to0 ht1821).mono ?_
 rintro _ w1822 ⟨rfl, hst⟩
 refine ⟨_, z, ?_⟩
 replace hst := hst.of0
 refine ws_next (pend' := [(28, U6 x1792.rank), (27, Pt b1800 0)]) hst (by kernel_rfl) (pk_cons z (yi_run ((wanted_eq z z z (cvb hc1814)).trans z) (fun w hst => x_load z isAgg24 (hst.bc0 z))) (pk_cons z (yi_run ((wanted_eq z z z (cvb hc1814)).trans z) (fun w hst => x_field z underlying76 z sizeOf24 z)) pk_nil)) ?_
 refine ws_q (v := .bool (t1820 != x1792.rank)) 29 [30] (by kernel_rfl) z z (yi_run ((wanted_eq z z z (cvb hc1814)).trans z) (fun w hst => z)) (wsr (.bool (t1820 != x1792.rank)) 30 z z z (by kernel_rfl) (fun w hst => x_pick_f hc1814 z z) ?_)
 refine ws_nil ?_
 intro w hst
 refine tn ?_
 refine bsplit (t1820 != x1792.rank) (fun hc1825 => ?_) (fun hc1825 => ?_)
 {
 replace hm := bif_t hc1825 hm
 refine wp_ift (cvb hc1825) ?_
 refine wp_seq (wrl (wv (.bool false) z z z (wl_nil (tn (wp_ret (then_r ?_))))))
 replace hm := inr_up hm hx1841
 refine blk_r (then_r (then_r ?_))
 replace hm := inr_up hm hx1789
 refine blk_r (then_r ?_)
 replace hst := hst.pull2.pull2
 replace hst := St.nest_close0 (N := nest_mvcc_row) hst hi1796
 replace hst := hst.pull2
 replace hst := at_mvcc_Store_close (pv := Pt b1390 0) (x := o0) hst z
 replace hst := objO_some hst
 obtain rfl := some_inj hm
 refine post_ret (vs := [.bool false]) results53 (rvs_cons (rv_tmp z) rvs_nil) ?_
 exact ⟨z, hst.keep1⟩
}
 {
 replace hm := bif_f hc1825 hm
 refine wp_iff (cvb hc1825) ?_
 refine wp_skip (tn ?_)
 replace hst := hst.pull2.pull2.pull3.keep4
 obtain rfl := some_inj hm
 exact ⟨_, hx1841, (fu 0 (Pt b1390 0) z (fu 4 (Pt b1800 0) z (fu 10 v1391 z (fu 11 (.int .i64 ((o0.rows).length : Int)) z (fu 12 (.int .i64 z1782) z z))))), hst⟩
}
}
}
}
 {
 replace hm := bif_f hc1807 hm
 refine ws_q (v := undef) 3 [4, 5, 6, 7, 8, 9, 10, 11, 12, 13, 14, 15, 16, 17, 18, 19, 20, 21, 22, 23, 24, 25, 26, 27, 28, 29, 30] (by kernel_rfl) z z (yi_off ((wanted_eq z z z (cvb hc1807)).trans z)) (ws_q (v := undef) 4 [5, 6, 7, 8, 9, 10, 11, 12, 13, 14, 15, 16, 17, 18, 19, 20, 21, 22, 23, 24, 25, 26, 27, 28, 29, 30] (by kernel_rfl) z z (yi_off ((wanted_eq z z z (cvb hc1807)).trans z)) (ws_q (v := undef) 5 [6, 7, 8, 9, 10, 11, 12, 13, 14, 15, 16, 17, 18, 19, 20, 21, 22, 23, 24, 25, 26, 27, 28, 29, 30] (by kernel_rfl) z z (yi_off ((wanted_eq z z z (cvb hc1807)).trans z)) (ws_q (v := undef) 6 [7, 8, 9, 10, 11, 12, 13, 14, 15, 16, 17, 18, 19, 20, 21, 22, 23, 24, 25, 26, 27, 28, 29, 30] (by kernel_rfl) z z (yi_off ((wanted_eq z z z (cvb hc1807)).trans z)) (ws_q (v := undef) 7 [8, 9, 10, 11, 12, 13, 14, 15, 16, 17, 18, 19, 20, 21, 22, 23, 24, 25, 26, 27, 28, 29, 30] (by kernel_rfl) z z (yi_off ((wanted_eq z z z (cvb hc1807)).trans z)) (ws_q (v := undef) 8 [9, 10, 11, 12, 13, 14, 15, 16, 17, 18, 19, 20, 21, 22, 23, 24, 25, 26, 27, 28, 29, 30] (by kernel_rfl) z z (yi_off ((wanted_eq z z z (cvb hc1807)).trans z)) (ws_q (v := undef) 9 [10, 11, 12, 13, 14, 15, 16, 17, 18, 19, 20, 21, 22, 23, 24, 25, 26, 27, 28, 29, 30] (by kernel_rfl) z z (yi_off ((wanted_eq z z z (cvb hc1807)).trans z)) (ws_q (v := undef) 10 [11, 12, 13, 14, 15, 16, 17, 18, 19, 20, 21, 22, 23, 24, 25, 26, 27, 28, 29, 30] (by kernel_rfl) z z (yi_off ((wanted_eq z z z (cvb hc1807)).trans z)) (ws_q (v := undef) 11 [12, 13, 14, 15, 16, 17, 18, 19, 20, 21, 22, 23, 24, 25, 26, 27, 28, 29, 30] (by kernel_rfl) z z (yi_off ((wanted_eq z z z (cvb hc1807)).trans z)) (ws_q (v := undef) 12 [13, 14, 15, 16, 17, 18, 19, 20, 21, 22, 23, 24, 25, 26, 27, 28, 29, 30] (by kernel_rfl) z z (yi_off ((wanted_eq z z z (cvb hc1807)).trans z)) (ws_q (v := undef) 13 [14, 15, 16, 17, 18, 19, 20, 21, 22, 23, 24, 25, 26, 27, 28, 29, 30] (by kernel_rfl) z z (yi_off ((wanted_eq z z z (cvb hc1807)).trans z)) (ws_q (v := undef) 14 [15, 16, 17, 18, 19, 20, 21, 22, 23, 24, 25, 26, 27, 28, 29, 30] (by kernel_rfl) z z (yi_off ((wanted_eq z z z (cvb hc1807)).trans z)) (wsr (.bool false) 15 z z z (by kernel_rfl) (fun w hst => x_pick_f hc1807 z z) ?_))))))))))))
 refine wsr (.bool false) 16 z z z (by kernel_rfl) (fun w hst => z) (ws_q (v := Pt b1800 1) 17 [18, 19, 20, 21, 22, 23, 24, 25, 26, 27, 28, 29, 30] (by kernel_rfl) z z (yi_run ((wanted_eq z z z z).trans z) (fun w hst => x_field z underlying76 z sizeOf53 z)) (ws_q (v := v1797) 18 [19, 20, 21, 22, 23, 24, 25, 26, 27, 28, 29, 30] (by kernel_rfl) z z (yi_run ((wanted_eq z z z z).trans z) (fun w hst => x_load z isAgg53 (hst.bc0 z))) (ws_q (v := .int .i64 ((x1792.l).length : Int)) 19 [20, 21, 22, 23, 24, 25, 26, 27, 28, 29, 30] (by kernel_rfl) z z (yi_run ((wanted_eq z z z z).trans z) (fun w hst => x_len z underlying53 hst.sv1)) (ws_q (v := .bool (((x1792.l).length : Int) == (0:Int))) 20 [21, 22, 23, 24, 25, 26, 27, 28, 29, 30] (by kernel_rfl) z z (yi_run ((wanted_eq z z z z).trans z) (fun w hst => z)) (wsr (.bool (((x1792.l).length : Int) == (0:Int))) 21 z z z (by kernel_rfl) (fun w hst => x_pick_f z z z) (wsr (.bool (((x1792.l).length : Int) == (0:Int))) 22 z z z (by kernel_rfl) (fun w hst => z) ?_))))))
 refine bsplit (((x1792.l).length : Int) == (0:Int)) (fun hc1826 => ?_) (fun hc1826 => ?_)
 {
 replace hm := bif_t hc1826 hm
 refine ws_q (v := undef) 23 [24, 25, 26, 27, 28, 29, 30] (by kernel_rfl) z z (yi_off ((wanted_eq z z z (cvb hc1826)).trans z)) (ws_q (v := undef) 24 [25, 26, 27, 28, 29, 30] (by kernel_rfl) z z (yi_off ((wanted_eq z z z (cvb hc1826)).trans z)) (ws_q (v := undef) 25 [26, 27, 28, 29, 30] (by kernel_rfl) z z (yi_off ((wanted_eq z z z (cvb hc1826)).trans z)) (ws_q (v := undef) 26 [27, 28, 29, 30] (by kernel_rfl) z z (yi_off ((wanted_eq z z z (cvb hc1826)).trans z)) (ws_q (v := undef) 27 [28, 29, 30] (by kernel_rfl) z z (yi_off ((wanted_eq z z z (cvb hc1826)).trans z)) (ws_q (v := undef) 28 [29, 30] (by kernel_rfl) z z (yi_off ((wanted_eq z z z (cvb hc1826)).trans z)) (ws_q (v := undef) 29 [30] (by kernel_rfl) z z (yi_off ((wanted_eq z z z (cvb hc1826)).trans z)) (wsr (.bool true) 30 z z z (by kernel_rfl) (fun w hst => x_pick_t hc1826 z z) ?_)))))))
 refine ws_nil ?_
 intro w hst
 refine tn ?_
 refine wp_ift z ?_
 refine wp_seq (wrl (wv (.bool false) z z z (wl_nil (tn (wp_ret (then_r ?_))))))
 replace hm := inr_up hm hx1841
 refine blk_r (then_r (then_r ?_))
 replace hm := inr_up hm hx1789
 refine blk_r (then_r ?_)
 replace hst := hst.pull2.pull2
 replace hst := St.nest_close0 (N := nest_mvcc_row) hst hi1796
 replace hst := hst.pull2
 replace hst := at_mvcc_Store_close (pv := Pt b1390 0) (x := o0) hst z
 replace hst := objO_some hst
 obtain rfl := some_inj hm
 refine post_ret (vs := [.bool false]) results53 (rvs_cons (rv_tmp z) rvs_nil) ?_
 exact ⟨z, hst.keep1⟩
}
 {
 replace hm := bif_f hc1826 hm
 refine ws_q (v := Pt b1800 0) 23 [24, 25, 26, 27, 28, 29, 30] (by kernel_rfl) z z (yi_run ((wanted_eq z z z (cvb hc1826)).trans z) (fun w hst => x_field z underlying76 z sizeOf24 z)) (ws_q (v := .int .u64 x1792.rank) 24 [25, 26, 27, 28, 29, 30] (by kernel_rfl) z z (yi_run ((wanted_eq z z z (cvb hc1826)).trans z) (fun w hst => x_load z isAgg24 (hst.bc0 z))) (ws_q (v := Pt b1800 0) 27 [25, 26, 28, 29, 30] (by kernel_rfl) z z (yi_run ((wanted_eq z z z (cvb hc1826)).trans z) (fun w hst => x_field z underlying76 z sizeOf24 z)) (ws_q (v := .int .u64 x1792.rank) 28 [25, 26, 29, 30] (by kernel_rfl) z z (yi_run ((wanted_eq z z z (cvb hc1826)).trans z) (fun w hst => x_load z isAgg24 (hst.bc0 z))) ?_)))
 refine ws_e1 25 (by kernel_rfl) ?_
 refine nxe [26, 29, 30] (by kernel_rfl) z ((wanted_eq z z z (cvb hc1826)).trans z) ?_
 clear hst
 intro w hst
 obtain ⟨t1827, ht1828, hm⟩ := bind_some hm
 refine wec call35 [U6 x1792.rank] z z ?_
 refine (number_Back_ref hst.to0 ht1828).mono ?_
 rintro _ w1829 ⟨rfl, hst⟩
 refine ⟨_, z, ?_⟩
 replace hst := hst.of0
 refine ws_next (pend' := [(28, U6 x1792.rank), (27, Pt b1800 0)]) hst (by kernel_rfl) (pk_cons z (yi_run ((wanted_eq z z z (cvb hc1826)).trans z) (fun w hst => x_load z isAgg24 (hst.bc0 z))) (pk_cons z (yi_run ((wanted_eq z z z (cvb hc1826)).trans z) (fun w hst => x_field z underlying76 z sizeOf24 z)) pk_nil)) ?_
 refine ws_e1 26 (by kernel_rfl) ?_
 refine nxe [29, 30] (by kernel_rfl) z ((wanted_eq z z z (cvb hc1826)).trans z) ?_
 clear hst
 intro w hst
 obtain ⟨t1832, ht1833, hm⟩ := bind_some hm
 refine wec call32 [F6 t1827] z z ?_
 refine (number_Rank_ref hst.to0 ht1833).mono ?_
 rintro _ w1834 ⟨rfl, hst⟩
 refine ⟨_, z, ?_⟩
 replace hst := hst.of0
 refine ws_next (pend' := [(28, U6 x1792.rank), (27, Pt b1800 0)]) hst (by kernel_rfl) (pk_cons z (yi_run ((wanted_eq z z z (cvb hc1826)).trans z) (fun w hst => x_load z isAgg24 (hst.bc0 z))) (pk_cons z (yi_run ((wanted_eq z z z (cvb hc1826)).trans z) (fun w hst => x_field z underlying76 z sizeOf24 z)) pk_nil)) ?_
 refine ws_q (v := .bool (t1832 != x1792.rank)) 29 [30] (by kernel_rfl) z z (yi_run ((wanted_eq z z z (cvb hc1826)).trans z) (fun w hst => z)) (wsr (.bool (t1832 != x1792.rank)) 30 z z z (by kernel_rfl) (fun w hst => x_pick_f hc1826 z z) ?_)
 refine ws_nil ?_
 intro w hst
 refine tn ?_
 refine bsplit (t1832 != x1792.rank) (fun hc1837 => ?_) (fun hc1837 => ?_)
 {
 replace hm := bif_t hc1837 hm
 refine wp_ift (cvb hc1837) ?_
 refine wp_seq (wrl (wv (.bool false) z z z (wl_nil (tn (wp_ret (then_r ?_))))))
 replace hm := inr_up hm hx1841
 refine blk_r (then_r (then_r ?_))
 replace hm := inr_up hm hx1789
 refine blk_r (then_r ?_)
 replace hst := hst.pull2.pull2
 replace hst := St.nest_close0 (N := nest_mvcc_row) hst hi1796
 replace hst := hst.pull2
 replace hst := at_mvcc_Store_close (pv := Pt b1390 0) (x := o0) hst z
 replace hst := objO_some hst
 obtain rfl := some_inj hm
 refine post_ret (vs := [.bool false]) results53 (rvs_cons (rv_tmp z) rvs_nil) ?_
 exact ⟨z, hst.keep1⟩
}
 {
 replace hm := bif_f hc1837 hm
 refine wp_iff (cvb hc1837) ?_
 refine wp_skip (tn ?_)
 replace hst := hst.pull2.pull2.pull3.keep4
 obtain rfl := some_inj hm
 exact ⟨_, hx1841, (fu 0 (Pt b1390 0) z (fu 4 (Pt b1800 0) z (fu 10 v1391 z (fu 11 (.int .i64 ((o0.rows).length : Int)) z (fu 12 (.int .i64 z1782) z z))))), hst⟩
}
}
}
}
 {
 clear hst
 rintro _ w1842 ⟨σ1838, hm, rfl, hst⟩
 dsimp only [mvcc_Store_right_j1] at hm
 refine wp_seq (wrl (wv (Pt b1800 1) z z (x_field z underlying76 z sizeOf53 z) (wv (v1797) z z (x_load z isAgg53 (hst.bc3 z)) (wv (.int .i64 ((x1792.l).length : Int)) z z (x_len z underlying53 hst.sv1) (wv (.int .i64 (0:Int)) z z z (wl_nil (tn (wp_block ?_))))))))
 obtain ⟨n1934, hm⟩ := loopO_some hm
 refine wp_loop_n (fun n a w => ∃ (z1932 : Int) (σ1933 : Nat → Value), loopN (mvcc_Store_right_l2 x1792 z1782) n z1932 = some y1788 ∧ a = Fr 84 (upd (upd (upd (upd (upd (upd (upd (upd σ1933 0 (Pt b1390 0)) 4 (Pt b1800 0)) 10 (v1391)) 11 (.int .i64 ((o0.rows).length : Int))) 12 (.int .i64 z1782)) 49 (v1797)) 50 (.int .i64 ((x1792.l).length : Int))) 51 (.int .i64 z1932)) ∧ St w0 w I [cells b1390 [v1391], ownS ty_mvcc_Version v1797 x1792.l, holeN nest_mvcc_row v1391 o0.rows z1782.toNat v1797, cells b1800 [U6 x1792.rank, v1797]] R) n1934 ⟨(0:Int), _, hm, (fu 0 (Pt b1390 0) z (fu 4 (Pt b1800 0) z (fu 10 v1391 z (fu 11 (.int .i64 ((o0.rows).length : Int)) z (fu 12 (.int .i64 z1782) z (fu 49 v1797 z (fu 50 (.int .i64 ((x1792.l).length : Int)) z (fu 51 (.int .i64 (0:Int)) z z)))))))), hst⟩ ?_
 rintro n1940 _ w1935 ⟨z1932, σ1933, hm, rfl, hst⟩
 obtain ⟨n1937, y1938, rfl, hm, hx1939⟩ := loopN_some hm
 dsimp only [mvcc_Store_right_l2] at hm
 refine wp_seq (wrl (wv (.bool (decide (z1932 < ((x1792.l).length : Int)))) z z z (wl_nil (tn (wp_seq ?_)))))
 refine bsplit (decide (z1932 < ((x1792.l).length : Int))) (fun hc1941 => ?_) (fun hc1941 => ?_)
 {
 replace hm := bif_t hc1941 hm
 refine wp_ift (cvb hc1941) ?_
 refine wp_skip (tn (wp_seq (wp_block (wp_seq (wrl ?_)))))
 refine wv (.int .i64 z1932) z z z ?_
 obtain ⟨x1942, hx1943, hm⟩ := bind_some hm
 obtain ⟨h1944, h1945, hi1946⟩ := geto_some hx1943
 refine wv (.pointer (some (eAddr v1797 (z1932.toNat * 4 + 0)))) z z (x_index z z underlying53 sizeOf52 hst.sv1 h1944 h1945) ?_
 obtain ⟨cs1947, hr1948, hc1949⟩ := hst.og1 hi1946
 obtain ⟨v1950, rfl, f1951, -⟩ := hr1948
 refine wv (.agg #[U6 x1942.Epoch, U6 x1942.Index, .bool x1942.Del, v1950]) z z (x_loadN (cs := [U6 x1942.Epoch, U6 x1942.Index, .bool x1942.Del, v1950]) z isAgg52 sizeOf52 (eCells (o := 0) hc1949 z)) ?_
 obtain ⟨b1954, w1955, ew1956, eb1957, hst⟩ := hst.box [Zu, Zu, .bool false, Zs] 52
 refine wl_run (v := Pt b1954 0) (w' := w1955) z z (x_al (by kernel_rfl) ew1956 eb1957) ?_
 refine wv (.int .i64 z1932) z z z ?_
 obtain ⟨w1959, hr1960, hst⟩ := hst.bx [U6 x1942.Epoch, U6 x1942.Index, .bool x1942.Del, v1950] sizeOf52 z (oC z (oC z (oC z (oC (one_of_sliceV (ro_sliceV f1951)) oN)))) (by kernel_rfl)
 refine wl_unit z z (x_unit hr1960) ?_
 refine wl_nil (tn (wp_seq ?_))
 replace hst := hst.pull2
 obtain ⟨css1961, hq1962, hst⟩ := hst.own_open
 refine wp_region_St hst 26 [0, 1, 2, 3, 4, 5, 6, 7, 8, 9, 10, 11, 12, 13, 14, 15, 16, 17, 18, 19, 20, 21, 22, 23, 24, 25] [0, 1, 3, 7, 15, 7, 39, 127, 255, 7, 519, 7, 2055, 8191, 16383, 32767, 65535, 131071, 262143, 524287, 1048575, 2097151, 4194303, 8388607, 16777215, 33554431] [] z (by kernel_rfl) (by kernel_rfl) Try.mixed (by kernel_rfl) ?_
 refine wsr (.int .i64 z1932) 0 z z z (by kernel_rfl) (fun w hst => z) (wsr (.bool (decide (z1932 > (0:Int)))) 1 z z z (by kernel_rfl) (fun w hst => z) (wsr (.bool (decide (z1932 > (0:Int)))) 2 z z z (by kernel_rfl) (fun w hst => z) ?_))
 refine bsplit (decide (z1932 > (0:Int))) (fun hc1963 => ?_) (fun hc1963 => ?_)
 {
 replace hm := bif_t hc1963 hm
 refine ws_q (v := Pt b1800 1) 3 [4, 5, 6, 7, 8, 9, 10, 11, 12, 13, 14, 15, 16, 17, 18, 19, 20, 21, 22, 23, 24, 25] (by kernel_rfl) z z (yi_run ((wanted_eq z z z (cvb hc1963)).trans z) (fun w hst => x_field z underlying76 z sizeOf53 z)) (ws_q (v := v1797) 4 [5, 6, 7, 8, 9, 10, 11, 12, 13, 14, 15, 16, 17, 18, 19, 20, 21, 22, 23, 24, 25] (by kernel_rfl) z z (yi_run ((wanted_eq z z z (cvb hc1963)).trans z) (fun w hst => x_load z isAgg53 (hst.bc4 z))) (ws_q (v := .int .i64 z1932) 5 [6, 7, 8, 9, 10, 11, 12, 13, 14, 15, 16, 17, 18, 19, 20, 21, 22, 23, 24, 25] (by kernel_rfl) z z (yi_run ((wanted_eq z z z (cvb hc1963)).trans z) (fun w hst => z)) (ws_q (v := .int .i64 (i64.wrap (z1932 - (1:Int)))) 6 [7, 8, 9, 10, 11, 12, 13, 14, 15, 16, 17, 18, 19, 20, 21, 22, 23, 24, 25] (by kernel_rfl) z z (yi_run ((wanted_eq z z z (cvb hc1963)).trans z) (fun w hst => z)) ?_)))
 obtain ⟨x1964, hx1965, hm⟩ := bind_some hm
 obtain ⟨h1966, h1967, hi1968⟩ := geto_some hx1965
 refine ws_q (v := .pointer (some (eAddr v1797 ((i64.wrap (z1932 - (1:Int))).toNat * 4 + 0)))) 7 [8, 9, 10, 11, 12, 13, 14, 15, 16, 17, 18, 19, 20, 21, 22, 23, 24, 25] (by kernel_rfl) z z (yi_run ((wanted_eq z z z (cvb hc1963)).trans z) (fun w hst => x_index z z underlying53 sizeOf52 (hst.rsv 0 z hq1962) h1966 h1967)) ?_
 obtain ⟨cs1969, hc1971, hr1970⟩ := Reps.get hq1962 hi1968
 obtain ⟨v1972, rfl, f1973, -⟩ := hr1970
 refine ws_q (v := .agg #[U6 x1964.Epoch, U6 x1964.Index, .bool x1964.Del, v1972]) 8 [9, 10, 11, 12, 13, 14, 15, 16, 17, 18, 19, 20, 21, 22, 23, 24, 25] (by kernel_rfl) z z (yi_run ((wanted_eq z z z (cvb hc1963)).trans z) (fun w hst => x_loadN (cs := [U6 x1964.Epoch, U6 x1964.Index, .bool x1964.Del, v1972]) z isAgg52 sizeOf52 (eCells (o := 0) (hst.rcell 0 z hc1971) z))) (ws_q (v := Pt b1954 0) 9 [10, 11, 12, 13, 14, 15, 16, 17, 18, 19, 20, 21, 22, 23, 24, 25] (by kernel_rfl) z z (yi_run ((wanted_eq z z z (cvb hc1963)).trans z) (fun w hst => x_field z underlying52 z sizeOf24 z)) (ws_q (v := .int .u64 x1942.Epoch) 10 [11, 12, 13, 14, 15, 16, 17, 18, 19, 20, 21, 22, 23, 24, 25] (by kernel_rfl) z z (yi_run ((wanted_eq z z z (cvb hc1963)).trans z) (fun w hst => x_load z isAgg24 (hst.bc1 z))) (ws_q (v := Pt b1954 1) 11 [12, 13, 14, 15, 16, 17, 18, 19, 20, 21, 22, 23, 24, 25] (by kernel_rfl) z z (yi_run ((wanted_eq z z z (cvb hc1963)).trans z) (fun w hst => x_field z underlying52 z sizeOf24 z)) (ws_q (v := .int .u64 x1942.Index) 12 [13, 14, 15, 16, 17, 18, 19, 20, 21, 22, 23, 24, 25] (by kernel_rfl) z z (yi_run ((wanted_eq z z z (cvb hc1963)).trans z) (fun w hst => x_load z isAgg24 (hst.bc1 z))) ?_))))
 refine ws_e1 13 (by kernel_rfl) ?_
 refine nxe [14, 15, 16, 17, 18, 19, 20, 21, 22, 23, 24, 25] (by kernel_rfl) z ((wanted_eq z z z (cvb hc1963)).trans z) ?_
 clear hst
 intro w hst
 obtain ⟨t1975, ht1976, hm⟩ := bind_some hm
 refine wec call44 [.agg #[U6 x1964.Epoch, U6 x1964.Index, .bool x1964.Del, v1972], U6 x1942.Epoch, U6 x1942.Index] z z ?_
 refine (mvcc_ahead_ref (f1973.mono ro_rd) hst.to0 ht1976).mono ?_
 rintro _ w1977 ⟨rfl, hst⟩
 refine ⟨_, z, ?_⟩
 replace hst := hst.of0
 refine ws_next (pend' := []) hst (by kernel_rfl) pk_nil ?_
 refine ws_q (v := .bool (!t1975)) 14 [15, 16, 17, 18, 19, 20, 21, 22, 23, 24, 25] (by kernel_rfl) z z (yi_run ((wanted_eq z z z (cvb hc1963)).trans z) (fun w hst => z)) (wsr (.bool (!t1975)) 15 z z z (by kernel_rfl) (fun w hst => x_pick_t hc1963 z z) (wsr (.bool (!t1975)) 16 z z z (by kernel_rfl) (fun w hst => z) ?_))
 refine bsplit (!t1975) (fun hc1980 => ?_) (fun hc1980 => ?_)
 {
 replace hm := bif_t hc1980 hm
 refine ws_q (v := undef) 17 [18, 19, 20, 21, 22, 23, 24, 25] (by kernel_rfl) z z (yi_off ((wanted_eq z z z (cvb hc1980)).trans z)) (ws_q (v := undef) 18 [19, 20, 21, 22, 23, 24, 25] (by kernel_rfl) z z (yi_off ((wanted_eq z z z (cvb hc1980)).trans z)) (ws_q (v := undef) 19 [20, 21, 22, 23, 24, 25] (by kernel_rfl) z z (yi_off ((wanted_eq z z z (cvb hc1980)).trans z)) (ws_q (v := undef) 20 [21, 22, 23, 24, 25] (by kernel_rfl) z z (yi_off (wanted_undef z z z z)) (ws_q (v := undef) 21 [22, 23, 24, 25] (by kernel_rfl) z z (yi_off (wanted_undef z z z z)) (ws_q (v := undef) 22 [23, 24, 25] (by kernel_rfl) z z (yi_off (wanted_undef z z z z)) (ws_q (v := undef) 23 [24, 25] (by kernel_rfl) z z (yi_off (wanted_undef z z z z)) (ws_q (v := undef) 24 [25] (by kernel_rfl) z z (yi_off ((wanted_eq z z z (cvb hc1980)).trans z)) (wsr (.bool true) 25 z z z (by kernel_rfl) (fun w hst => x_pick_t hc1980 z z) ?_))))))))
 refine ws_nil ?_
 intro w hst
 replace hst := hst.own_close hq1962
 refine tn ?_
 refine wp_ift z ?_
 refine wp_seq (wrl (wv (.bool false) z z z (wl_nil (tn (wp_ret (blk_r (then_r (then_r ?_))))))))
 replace hm := inr_up hm hx1939
 refine blk_r (blk_r (then_r (then_r ?_)))
 replace hm := inr_up hm hx1789
 refine blk_r (then_r ?_)
 replace hst := hst.pull3.pull1
 replace hst := St.nest_close0 (N := nest_mvcc_row) hst hi1796
 replace hst := hst.pull2
 replace hst := at_mvcc_Store_close (pv := Pt b1390 0) (x := o0) hst z
 replace hst := objO_some hst
 obtain rfl := some_inj hm
 refine post_ret (vs := [.bool false]) results53 (rvs_cons (rv_tmp z) rvs_nil) ?_
 exact ⟨z, hst.keep1⟩
}
 {
 replace hm := bif_f hc1980 hm
 refine ws_q (v := Pt b1954 2) 17 [18, 19, 20, 21, 22, 23, 24, 25] (by kernel_rfl) z z (yi_run ((wanted_eq z z z (cvb hc1980)).trans z) (fun w hst => x_field z underlying52 z sizeOf4 z)) (ws_q (v := .bool x1942.Del) 18 [19, 20, 21, 22, 23, 24, 25] (by kernel_rfl) z z (yi_run ((wanted_eq z z z (cvb hc1980)).trans z) (fun w hst => x_load z isAgg4 (hst.bc1 z))) (ws_q (v := .bool x1942.Del) 19 [20, 21, 22, 23, 24, 25] (by kernel_rfl) z z (yi_run ((wanted_eq z z z (cvb hc1980)).trans z) (fun w hst => z)) ?_))
 refine bsplit x1942.Del (fun hc1981 => ?_) (fun hc1981 => ?_)
 {
 replace hm := bif_t hc1981 hm
 refine ws_q (v := Pt b1954 3) 20 [21, 22, 23, 24, 25] (by kernel_rfl) z z (yi_run ((wanted_eq z z z (cvb hc1981)).trans z) (fun w hst => x_field z underlying52 z sizeOf32 z)) (ws_q (v := v1950) 21 [22, 23, 24, 25] (by kernel_rfl) z z (yi_run ((wanted_eq z z z (cvb hc1981)).trans z) (fun w hst => x_load z isAgg32 (hst.bc1 z))) (ws_q (v := .int .i64 ((x1942.Val).length : Int)) 22 [23, 24, 25] (by kernel_rfl) z z (yi_run ((wanted_eq z z z (cvb hc1981)).trans z) (fun w hst => x_len z underlying32 (ro_sliceV f1951))) (ws_q (v := .bool (decide (((x1942.Val).length : Int) > (0:Int)))) 23 [24, 25] (by kernel_rfl) z z (yi_run ((wanted_eq z z z (cvb hc1981)).trans z) (fun w hst => z)) (ws_q (v := .bool (decide (((x1942.Val).length : Int) > (0:Int)))) 24 [25] (by kernel_rfl) z z (yi_run ((wanted_eq z z z (cvb hc1980)).trans z) (fun w hst => x_pick_t hc1981 z z)) (wsr (.bool (decide (((x1942.Val).length : Int) > (0:Int)))) 25 z z z (by kernel_rfl) (fun w hst => x_pick_f hc1980 z z) ?_)))))
 refine ws_nil ?_
 intro w hst
 replace hst := hst.own_close hq1962
 refine tn ?_
 refine bsplit (decide (((x1942.Val).length : Int) > (0:Int))) (fun hc1982 => ?_) (fun hc1982 => ?_)
 {
 replace hm := bif_t hc1982 hm
 refine wp_ift (cvb hc1982) ?_
 refine wp_seq (wrl (wv (.bool false) z z z (wl_nil (tn (wp_ret (blk_r (then_r (then_r ?_))))))))
 replace hm := inr_up hm hx1939
 refine blk_r (blk_r (then_r (then_r ?_)))
 replace hm := inr_up hm hx1789
 refine blk_r (then_r ?_)
 replace hst := hst.pull3.pull1
 replace hst := St.nest_close0 (N := nest_mvcc_row) hst hi1796
 replace hst := hst.pull2
 replace hst := at_mvcc_Store_close (pv := Pt b1390 0) (x := o0) hst z
 replace hst := objO_some hst
 obtain rfl := some_inj hm
 refine post_ret (vs := [.bool false]) results53 (rvs_cons (rv_tmp z) rvs_nil) ?_
 exact ⟨z, hst.keep1⟩
}
 {
 replace hm := bif_f hc1982 hm
 refine wp_iff (cvb hc1982) ?_
 refine wp_skip (blk_n (tn (wrl ?_)))
 refine wv (.int .i64 (i64.wrap (z1932 + (1:Int)))) z z z (wv (.int .i64 (i64.wrap (z1932 + (1:Int)))) z z z (wl_nil (tn ?_)))
 replace hst := hst.pull4.pull4.pull2.pull4.keep4
 obtain rfl := some_inj hm
 exact ⟨_, Nat.lt_succ_self _, (i64.wrap (z1932 + (1:Int))), _, hx1939, (fu 0 (Pt b1390 0) z (fu 4 (Pt b1800 0) z (fu 10 v1391 z (fu 11 (.int .i64 ((o0.rows).length : Int)) z (fu 12 (.int .i64 z1782) z (fu 49 v1797 z (fu 50 (.int .i64 ((x1792.l).length : Int)) z (fu 51 (.int .i64 (i64.wrap (z1932 + (1:Int)))) z z)))))))), hst⟩
}
}
 {
 replace hm := bif_f hc1981 hm
 refine ws_q (v := undef) 20 [21, 22, 23, 24, 25] (by kernel_rfl) z z (yi_off ((wanted_eq z z z (cvb hc1981)).trans z)) (ws_q (v := undef) 21 [22, 23, 24, 25] (by kernel_rfl) z z (yi_off ((wanted_eq z z z (cvb hc1981)).trans z)) (ws_q (v := undef) 22 [23, 24, 25] (by kernel_rfl) z z (yi_off ((wanted_eq z z z (cvb hc1981)).trans z)) (ws_q (v := undef) 23 [24, 25] (by kernel_rfl) z z (yi_off ((wanted_eq z z z (cvb hc1981)).trans z)) (ws_q (v := .bool false) 24 [25] (by kernel_rfl) z z (yi_run ((wanted_eq z z z (cvb hc1980)).trans z) (fun w hst => x_pick_f hc1981 z z)) (wsr (.bool false) 25 z z z (by kernel_rfl) (fun w hst => x_pick_f hc1980 z z) ?_)))))
 refine ws_nil ?_
 intro w hst
 replace hst := hst.own_close hq1962
 refine tn ?_
 refine wp_iff z ?_
 refine wp_skip (blk_n (tn (wrl ?_)))
 refine wv (.int .i64 (i64.wrap (z1932 + (1:Int)))) z z z (wv (.int .i64 (i64.wrap (z1932 + (1:Int)))) z z z (wl_nil (tn ?_)))
 replace hst := hst.pull4.pull4.pull2.pull4.keep4
 obtain rfl := some_inj hm
 exact ⟨_, Nat.lt_succ_self _, (i64.wrap (z1932 + (1:Int))), _, hx1939, (fu 0 (Pt b1390 0) z (fu 4 (Pt b1800 0) z (fu 10 v1391 z (fu 11 (.int .i64 ((o0.rows).length : Int)) z (fu 12 (.int .i64 z1782) z (fu 49 v1797 z (fu 50 (.int .i64 ((x1792.l).length : Int)) z (fu 51 (.int .i64 (i64.wrap (z1932 + (1:Int)))) z z)))))))), hst⟩
}
}
}
 {
 replace hm := bif_f hc1963 hm
 refine ws_q (v := undef) 3 [4, 5, 6, 7, 8, 9, 10, 11, 12, 13, 14, 15, 16, 17, 18, 19, 20, 21, 22, 23, 24, 25] (by kernel_rfl) z z (yi_off ((wanted_eq z z z (cvb hc1963)).trans z)) (ws_q (v := undef) 4 [5, 6, 7, 8, 9, 10, 11, 12, 13, 14, 15, 16, 17, 18, 19, 20, 21, 22, 23, 24, 25] (by kernel_rfl) z z (yi_off ((wanted_eq z z z (cvb hc1963)).trans z)) (ws_q (v := undef) 5 [6, 7, 8, 9, 10, 11, 12, 13, 14, 15, 16, 17, 18, 19, 20, 21, 22, 23, 24, 25] (by kernel_rfl) z z (yi_off ((wanted_eq z z z (cvb hc1963)).trans z)) (ws_q (v := undef) 6 [7, 8, 9, 10, 11, 12, 13, 14, 15, 16, 17, 18, 19, 20, 21, 22, 23, 24, 25] (by kernel_rfl) z z (yi_off ((wanted_eq z z z (cvb hc1963)).trans z)) (ws_q (v := undef) 7 [8, 9, 10, 11, 12, 13, 14, 15, 16, 17, 18, 19, 20, 21, 22, 23, 24, 25] (by kernel_rfl) z z (yi_off ((wanted_eq z z z (cvb hc1963)).trans z)) (ws_q (v := undef) 8 [9, 10, 11, 12, 13, 14, 15, 16, 17, 18, 19, 20, 21, 22, 23, 24, 25] (by kernel_rfl) z z (yi_off ((wanted_eq z z z (cvb hc1963)).trans z)) (ws_q (v := undef) 9 [10, 11, 12, 13, 14, 15, 16, 17, 18, 19, 20, 21, 22, 23, 24, 25] (by kernel_rfl) z z (yi_off ((wanted_eq z z z (cvb hc1963)).trans z)) (ws_q (v := undef) 10 [11, 12, 13, 14, 15, 16, 17, 18, 19, 20, 21, 22, 23, 24, 25] (by kernel_rfl) z z (yi_off ((wanted_eq z z z (cvb hc1963)).trans z)) (ws_q (v := undef) 11 [12, 13, 14, 15, 16, 17, 18, 19, 20, 21, 22, 23, 24, 25] (by kernel_rfl) z z (yi_off ((wanted_eq z z z (cvb hc1963)).trans z)) (ws_q (v := undef) 12 [13, 14, 15, 16, 17, 18, 19, 20, 21, 22, 23, 24, 25] (by kernel_rfl) z z (yi_off ((wanted_eq z z z (cvb hc1963)).trans z)) (ws_q (v := undef) 13 [14, 15, 16, 17, 18, 19, 20, 21, 22, 23, 24, 25] (by kernel_rfl) z z (yi_off ((wanted_eq z z z (cvb hc1963)).trans z)) (ws_q (v := undef) 14 [15, 16, 17, 18, 19, 20, 21, 22, 23, 24, 25] (by kernel_rfl) z z (yi_off ((wanted_eq z z z (cvb hc1963)).trans z)) (wsr (.bool false) 15 z z z (by kernel_rfl) (fun w hst => x_pick_f hc1963 z z) ?_))))))))))))
 refine wsr (.bool false) 16 z z z (by kernel_rfl) (fun w hst => z) (ws_q (v := Pt b1954 2) 17 [18, 19, 20, 21, 22, 23, 24, 25] (by kernel_rfl) z z (yi_run ((wanted_eq z z z z).trans z) (fun w hst => x_field z underlying52 z sizeOf4 z)) (ws_q (v := .bool x1942.Del) 18 [19, 20, 21, 22, 23, 24, 25] (by kernel_rfl) z z (yi_run ((wanted_eq z z z z).trans z) (fun w hst => x_load z isAgg4 (hst.bc1 z))) (ws_q (v := .bool x1942.Del) 19 [20, 21, 22, 23, 24, 25] (by kernel_rfl) z z (yi_run ((wanted_eq z z z z).trans z) (fun w hst => z)) ?_)))
 refine bsplit x1942.Del (fun hc1983 => ?_) (fun hc1983 => ?_)
 {
 replace hm := bif_t hc1983 hm
 refine ws_q (v := Pt b1954 3) 20 [21, 22, 23, 24, 25] (by kernel_rfl) z z (yi_run ((wanted_eq z z z (cvb hc1983)).trans z) (fun w hst => x_field z underlying52 z sizeOf32 z)) (ws_q (v := v1950) 21 [22, 23, 24, 25] (by kernel_rfl) z z (yi_run ((wanted_eq z z z (cvb hc1983)).trans z) (fun w hst => x_load z isAgg32 (hst.bc1 z))) (ws_q (v := .int .i64 ((x1942.Val).length : Int)) 22 [23, 24, 25] (by kernel_rfl) z z (yi_run ((wanted_eq z z z (cvb hc1983)).trans z) (fun w hst => x_len z underlying32 (ro_sliceV f1951))) (ws_q (v := .bool (decide (((x1942.Val).length : Int) > (0:Int)))) 23 [24, 25] (by kernel_rfl) z z (yi_run ((wanted_eq z z z (cvb hc1983)).trans z) (fun w hst => z)) (ws_q (v := .bool (decide (((x1942.Val).length : Int) > (0:Int)))) 24 [25] (by kernel_rfl) z z (yi_run ((wanted_eq z z z z).trans z) (fun w hst => x_pick_t hc1983 z z)) (wsr (.bool (decide (((x1942.Val).length : Int) > (0:Int)))) 25 z z z (by kernel_rfl) (fun w hst => x_pick_f z z z) ?_)))))
 refine ws_nil ?_
 intro w hst
 replace hst := hst.own_close hq1962
 refine tn ?_
 refine bsplit (decide (((x1942.Val).length : Int) > (0:Int))) (fun hc1984 => ?_) (fun hc1984 => ?_)
 {
 replace hm := bif_t hc1984 hm
 refine wp_ift (cvb hc1984) ?_
 refine wp_seq (wrl (wv (.bool false) z z z (wl_nil (tn (wp_ret (blk_r (then_r (then_r ?_))))))))
 replace hm := inr_up hm hx1939
 refine blk_r (blk_r (then_r (then_r ?_)))
 replace hm := inr_up hm hx1789
 refine blk_r (then_r ?_)
 replace hst := hst.pull3.pull1
 replace hst := St.nest_close0 (N := nest_mvcc_row) hst hi1796
 replace hst := hst.pull2
 replace hst := at_mvcc_Store_close (pv := Pt b1390 0) (x := o0) hst z
 replace hst := objO_some hst
 obtain rfl := some_inj hm
 refine post_ret (vs := [.bool false]) results53 (rvs_cons (rv_tmp z) rvs_nil) ?_
 exact ⟨z, hst.keep1⟩
}
 {
 replace hm := bif_f hc1984 hm
 refine wp_iff (cvb hc1984) ?_
 refine wp_skip (blk_n (tn (wrl ?_)))
 refine wv (.int .i64 (i64.wrap (z1932 + (1:Int)))) z z z (wv (.int .i64 (i64.wrap (z1932 + (1:Int)))) z z z (wl_nil (tn ?_)))
 replace hst := hst.pull4.pull4.pull2.pull4.keep4
 obtain rfl := some_inj hm
 exact ⟨_, Nat.lt_succ_self _, (i64.wrap (z1932 + (1:Int))), _, hx1939, (fu 0 (Pt b1390 0) z (fu 4 (Pt b1800 0) z (fu 10 v1391 z (fu 11 (.int .i64 ((o0.rows).length : Int)) z (fu 12 (.int .i64 z1782) z (fu 49 v1797 z (fu 50 (.int .i64 ((x1792.l).length : Int)) z (fu 51 (.int .i64 (i64.wrap (z1932 + (1:Int)))) z z)))))))), hst⟩
}
}
 {
 replace hm := bif_f hc1983 hm
 refine ws_q (v := undef) 20 [21, 22, 23, 24, 25] (by kernel_rfl) z z (yi_off ((wanted_eq z z z (cvb hc1983)).trans z)) (ws_q (v := undef) 21 [22, 23, 24, 25] (by kernel_rfl) z z (yi_off ((wanted_eq z z z (cvb hc1983)).trans z)) (ws_q (v := undef) 22 [23, 24, 25] (by kernel_rfl) z z (yi_off ((wanted_eq z z z (cvb hc1983)).trans z)) (ws_q (v := undef) 23 [24, 25] (by kernel_rfl) z z (yi_off ((wanted_eq z z z (cvb hc1983)).trans z)) (ws_q (v := .bool false) 24 [25] (by kernel_rfl) z z (yi_run ((wanted_eq z z z z).trans z) (fun w hst => x_pick_f hc1983 z z)) (wsr (.bool false) 25 z z z (by kernel_rfl) (fun w hst => x_pick_f z z z) ?_)))))
 refine ws_nil ?_
 intro w hst
 replace hst := hst.own_close hq1962
 refine tn ?_
 refine wp_iff z ?_
 refine wp_skip (blk_n (tn (wrl ?_)))
 refine wv (.int .i64 (i64.wrap (z1932 + (1:Int)))) z z z (wv (.int .i64 (i64.wrap (z1932 + (1:Int)))) z z z (wl_nil (tn ?_)))
 replace hst := hst.pull4.pull4.pull2.pull4.keep4
 obtain rfl := some_inj hm
 exact ⟨_, Nat.lt_succ_self _, (i64.wrap (z1932 + (1:Int))), _, hx1939, (fu 0 (Pt b1390 0) z (fu 4 (Pt b1800 0) z (fu 10 v1391 z (fu 11 (.int .i64 ((o0.rows).length : Int)) z (fu 12 (.int .i64 z1782) z (fu 49 v1797 z (fu 50 (.int .i64 ((x1792.l).length : Int)) z (fu 51 (.int .i64 (i64.wrap (z1932 + (1:Int)))) z z)))))))), hst⟩
}
}
}
 {
 replace hm := bif_f hc1941 hm
 refine wp_iff (cvb hc1941) ?_
 refine wp_exit (then_x (then_x ?_))
 replace hm := inr_up hm hx1939
 refine blk_x (blk_n (tn (wrl ?_)))
 refine wv (.int .i64 (i64.wrap (z1782 + (1:Int)))) z z z (wv (.int .i64 (i64.wrap (z1782 + (1:Int)))) z z z (wl_nil (tn ?_)))
 replace hst := hst.pull2.pull2
 replace hst := St.nest_close0 (N := nest_mvcc_row) hst hi1796
 replace hst := hst.pull1.keep2
 obtain rfl := some_inj hm
 exact ⟨_, Nat.lt_succ_self _, (i64.wrap (z1782 + (1:Int))), _, hx1789, (fu 0 (Pt b1390 0) z (fu 10 v1391 z (fu 11 (.int .i64 ((o0.rows).length : Int)) z (fu 12 (.int .i64 (i64.wrap (z1782 + (1:Int)))) z z)))), hst⟩
}
}
}
 {
 replace hm := bif_f hc1791 hm
 refine wp_iff (cvb hc1791) ?_
 refine wp_exit (then_x (then_x ?_))
 replace hm := inr_up hm hx1789
 refine blk_x (tn (wp_seq (wrl ?_)))
 refine wv (.bool true) z z z (wl_nil (tn (wp_ret ?_)))
 replace hst := hst.pull1.pull1
 replace hst := at_mvcc_Store_close (pv := Pt b1390 0) (x := o0) hst z
 replace hst := objO_some hst
 obtain rfl := some_inj hm
 refine post_ret (vs := [.bool true]) results53 (rvs_cons (rv_tmp z) rvs_nil) ?_
 exact ⟨z, hst.keep1⟩
}
}
}

theorem mvcc_Decode_ref {w0 w : World} {I : HL} {R : SP} {a0 : (List Int)} {r0_0 : Value} (f0_0 : Ro (tyInt .u8) I r0_0 a0) (hst : St w0 w I [] R) {r : (Option mvcc_Store × Int)} (hm : mvcc_Decode a0 = some r) :
  Calls prog 26 #[r0_0] w fun e w' => ∃ (I' : HL) (q0 : Value), e = .returned (.tuple #[q0, I6 r.2]) ∧ I.le I' ∧ St w0 w' I' [objO at_mvcc_Store q0 r.1] R := by {
 unfold mvcc_Decode at hm
 refine calls_start (args := [r0_0]) func26 z ntmps26 (Nat.le_of_ble_eq_true z) ?_
 have hI0 := HL.le.refl I
 refine wp_seq (wrl (wv (.pointer none) z z z (wv (.int .i64 (0:Int)) z z z (wl_nil (tn (wp_seq (wrl (wv (r0_0) z z z ?_))))))))
 obtain ⟨t800, ht801, hm⟩ := bind_some hm
 refine wc call46 [r0_0] z z z ?_
 refine (octet_Read_ref f0_0 hst.to0 ht801).mono ?_
 rintro _ w802 ⟨v805, rfl, hst⟩
 refine ⟨_, z, ?_⟩
 replace hst := hst.of1
 refine wv (v805) z z z (wl_nil (tn (wp_seq (wrl ?_))))
 obtain ⟨t807, ht808, hm⟩ := bind_some hm
 refine wc call21 [] z z z ?_
 refine (mvcc_New_ref hst.to0 ht808).mono ?_
 rintro _ w809 ⟨v812, rfl, hst⟩
 refine ⟨_, z, ?_⟩
 replace hst := hst.of1
 refine wv (v812) z z z (wl_nil (tn (wp_seq (wrl (wv (v805) z z z (wv (v805) z z z ?_))))))
 replace hst := hst.pull1
 obtain ⟨t814, ht815, hm⟩ := bind_some hm
 refine wc call48 [v805] z z z ?_
 refine (octet_Reader_Left_ref hst.to1 ht815).mono ?_
 rintro _ w816 ⟨rfl, hst⟩
 refine ⟨_, z, ?_⟩
 replace hst := hst.of1
 obtain ⟨t819, ht820, hm⟩ := bind_some hm
 refine wc call47 [v805, I6 t814] z z z ?_
 refine (octet_Reader_Count_ref hst.to1 ht820).mono ?_
 rintro _ w821 ⟨rfl, hst⟩
 refine ⟨_, z, ?_⟩
 replace hst := hst.of1
 refine wv (.int .i64 t819.1) z z z (wl_nil (tn ?_))
 obtain ⟨y1540, hm, hx1541⟩ := bind_some hm
 refine wp_cut (fun a w => ∃ (I1537 : HL) (z1535 : octet_Reader) (z1536 : mvcc_Store) (σ1538 : Nat → Value), (mvcc_Decode_j0) (z1535, z1536) = some r ∧ a = Fr 64 (upd (upd σ1538 4 (v805)) 5 (v812)) ∧ I.le I1537 ∧ St w0 w I1537 [at_octet_Reader v805 z1535, at_mvcc_Store v812 z1536] R) ?_ ?_
 {
 have hL1542 := HL.le.refl I
 refine wp_seq (wrl (wv (.int .i64 t819.1) z z z (wv (.int .i64 (0:Int)) z z z (wl_nil (tn (wp_block ?_))))))
 obtain ⟨n1296, hm⟩ := loopO_some hm
 refine wp_loop_n (fun n a w => ∃ (I1294 : HL) (z1291 : octet_Reader) (z1292 : mvcc_Store) (z1293 : Int) (σ1295 : Nat → Value), loopN (mvcc_Decode_l1 t819) n (z1291, z1292, z1293) = some y1540 ∧ a = Fr 64 (upd (upd (upd (upd σ1295 4 (v805)) 5 (v812)) 16 (.int .i64 t819.1)) 17 (.int .i64 z1293)) ∧ I.le I1294 ∧ St w0 w I1294 [at_octet_Reader v805 z1291, at_mvcc_Store v812 z1292] R) n1296 ⟨_, t819.2, t807, (0:Int), _, hm, (fu 4 v805 z (fu 5 v812 z (fu 16 (.int .i64 t819.1) z (fu 17 (.int .i64 (0:Int)) z z)))), (HL.le.refl _), hst⟩ ?_
 rintro n1302 _ w1297 ⟨I1294, z1291, z1292, z1293, σ1295, hm, rfl, hL1298, hst⟩
 obtain ⟨n1299, y1300, rfl, hm, hx1301⟩ := loopN_some hm
 dsimp only [mvcc_Decode_l1] at hm
 replace f0_0 := f0_0.mono (ro_le hL1298)
 replace hI0 := hI0.trans hL1298
 replace hL1542 := hL1542.trans hL1298
 refine wp_seq (wrl (wv (.bool (decide (z1293 < t819.1))) z z z (wl_nil (tn (wp_seq ?_)))))
 refine bsplit (decide (z1293 < t819.1)) (fun hc1303 => ?_) (fun hc1303 => ?_)
 {
 replace hm := bif_t hc1303 hm
 refine wp_ift (cvb hc1303) ?_
 refine wp_skip (tn (wp_seq (wp_block (wp_seq (wrl ?_)))))
 refine wv (v805) z z z ?_
 obtain ⟨t1304, ht1305, hm⟩ := bind_some hm
 refine wc call49 [v805, I6 (8:Int)] z z z ?_
 refine (octet_Reader_Num_ref hst.to1 ht1305).mono ?_
 rintro _ w1306 ⟨rfl, hst⟩
 refine ⟨_, z, ?_⟩
 replace hst := hst.of1
 refine wv (.agg #[U6 t1304.1, Zs]) z z (by kernel_rfl) ?_
 obtain ⟨b1311, w1312, ew1313, eb1314, hst⟩ := hst.box [Zu, Zs] 76
 refine wl_run (v := Pt b1311 0) (w' := w1312) z z (x_al (by kernel_rfl) ew1313 eb1314) ?_
 obtain ⟨w1316, hr1317, hst⟩ := hst.bx [U6 t1304.1, Zs] sizeOf76 z (oC z (oC z oN)) (by kernel_rfl)
 refine wl_unit z z (x_unit hr1317) ?_
 refine wl_nil (tn (wp_seq (wrl (wv (v805) z z z (wv (v805) z z z ?_)))))
 replace hst := hst.pull1
 obtain ⟨t1318, ht1319, hm⟩ := bind_some hm
 refine wc call48 [v805] z z z ?_
 refine (octet_Reader_Left_ref hst.to1 ht1319).mono ?_
 rintro _ w1320 ⟨rfl, hst⟩
 refine ⟨_, z, ?_⟩
 replace hst := hst.of1
 obtain ⟨t1323, ht1324, hm⟩ := bind_some hm
 refine wc call47 [v805, I6 t1318] z z z ?_
 refine (octet_Reader_Count_ref hst.to1 ht1324).mono ?_
 rintro _ w1325 ⟨rfl, hst⟩
 refine ⟨_, z, ?_⟩
 replace hst := hst.of1
 refine wv (.int .i64 t1323.1) z z z (wl_nil (tn ?_))
 obtain ⟨y1514, hm, hx1515⟩ := bind_some hm
 refine wp_cut (fun a w => ∃ (I1511 : HL) (z1507 : octet_Reader) (z1510 : (List mvcc_Version)) (v1509 : Value) (σ1512 : Nat → Value), (mvcc_Decode_j2 z1292 t1304 z1293) (z1507, z1510) = some y1300 ∧ a = Fr 64 (upd (upd (upd (upd (upd σ1512 4 (v805)) 5 (v812)) 7 (Pt b1311 0)) 16 (.int .i64 t819.1)) 17 (.int .i64 z1293)) ∧ I1294.le I1511 ∧ St w0 w I1511 [at_octet_Reader v805 z1507, at_mvcc_Store v812 z1292, cells b1311 [U6 t1304.1, v1509], ownS ty_mvcc_Version v1509 z1510] R) ?_ ?_
 {
 have hL1516 := HL.le.refl I1294
 refine wp_seq (wrl (wv (.int .i64 t1323.1) z z z (wv (.int .i64 (0:Int)) z z z (wl_nil (tn (wp_block ?_))))))
 replace hst := hst.own_nil ty_mvcc_Version
 obtain ⟨n1460, hm⟩ := loopO_some hm
 refine wp_loop_n (fun n a w => ∃ (I1458 : HL) (z1453 : (List mvcc_Version)) (z1456 : octet_Reader) (z1457 : Int) (v1454 : Value) (σ1459 : Nat → Value), loopN (mvcc_Decode_l3 t1323) n (z1453, z1456, z1457) = some y1514 ∧ a = Fr 64 (upd (upd (upd (upd (upd (upd (upd σ1459 4 (v805)) 5 (v812)) 7 (Pt b1311 0)) 16 (.int .i64 t819.1)) 17 (.int .i64 z1293)) 26 (.int .i64 t1323.1)) 27 (.int .i64 z1457)) ∧ I1294.le I1458 ∧ St w0 w I1458 [ownS ty_mvcc_Version v1454 z1453, at_octet_Reader v805 z1456, cells b1311 [U6 t1304.1, v1454], at_mvcc_Store v812 z1292] R) n1460 ⟨_, [], t1323.2, (0:Int), Zs, _, hm, (fu 4 v805 z (fu 5 v812 z (fu 7 (Pt b1311 0) z (fu 16 (.int .i64 t819.1) z (fu 17 (.int .i64 z1293) z (fu 26 (.int .i64 t1323.1) z (fu 27 (.int .i64 (0:Int)) z z))))))), (HL.le.refl _), hst⟩ ?_
 rintro n1466 _ w1461 ⟨I1458, z1453, z1456, z1457, v1454, σ1459, hm, rfl, hL1462, hst⟩
 obtain ⟨n1463, y1464, rfl, hm, hx1465⟩ := loopN_some hm
 dsimp only [mvcc_Decode_l3] at hm
 replace f0_0 := f0_0.mono (ro_le hL1462)
 replace hI0 := hI0.trans hL1462
 replace hL1542 := hL1542.trans hL1462
 replace hL1298 := hL1298.trans hL1462
 replace hL1516 := hL1516.trans hL1462
 refine wp_seq (wrl (wv (.bool (decide (z1457 < t1323.1))) z z z (wl_nil (tn (wp_seq ?_)))))
 refine bsplit (decide (z1457 < t1323.1)) (fun hc1467 => ?_) (fun hc1467 => ?_)
 {
 replace hm := bif_t hc1467 hm
 refine wp_ift (cvb hc1467) ?_
 refine wp_skip (tn (wp_seq (wp_block ?_)))
 refine wp_region_St hst 15 [0, 1, 2, 3, 4, 5, 6, 7, 8, 9, 10, 11, 12, 13, 14] [0, 1, 0, 4, 0, 28, 0, 124, 0, 508, 1020, 2044, 4095, 8191, 16383] [] z (by kernel_rfl) (by kernel_rfl) Try.mixed (by kernel_rfl) ?_
 refine wsr (Pt b1311 1) 0 z z z (by kernel_rfl) (fun w hst => x_field z underlying76 z sizeOf53 z) (wsr (v1454) 1 z z z (by kernel_rfl) (fun w hst => x_load z isAgg53 (hst.bc2 z)) (wsr (v805) 2 z z z (by kernel_rfl) (fun w hst => z) (wsr (v805) 4 z z z (by kernel_rfl) (fun w hst => z) (wsr (v805) 6 z z z (by kernel_rfl) (fun w hst => z) (wsr (v805) 8 z z z (by kernel_rfl) (fun w hst => z) ?_)))))
 refine ws_e1 3 (by kernel_rfl) ?_
 refine nxe [5, 7, 9, 10, 11, 12, 13, 14] (by kernel_rfl) z z ?_
 clear hst
 intro w hst
 replace hst := hst.pull1
 obtain ⟨t1468, ht1469, hm⟩ := bind_some hm
 refine wec call49 [v805, I6 (8:Int)] z z ?_
 refine (octet_Reader_Num_ref hst.to1 ht1469).mono ?_
 rintro _ w1470 ⟨rfl, hst⟩
 refine ⟨_, z, ?_⟩
 replace hst := hst.of1
 refine ws_next (pend' := [(8, v805), (6, v805), (4, v805), (1, v1454), (0, Pt b1311 1)]) hst (by kernel_rfl) (pkr z z (fun w hst => z) (pkr z z (fun w hst => z) (pkr z z (fun w hst => z) (pkr z z (fun w hst => x_load z isAgg53 (hst.bc2 z)) (pkr z z (fun w hst => x_field z underlying76 z sizeOf53 z) pk_nil))))) ?_
 refine ws_e1 5 (by kernel_rfl) ?_
 refine nxe [7, 9, 10, 11, 12, 13, 14] (by kernel_rfl) z z ?_
 clear hst
 intro w hst
 obtain ⟨t1473, ht1474, hm⟩ := bind_some hm
 refine wec call49 [v805, I6 (8:Int)] z z ?_
 refine (octet_Reader_Num_ref hst.to1 ht1474).mono ?_
 rintro _ w1475 ⟨rfl, hst⟩
 refine ⟨_, z, ?_⟩
 replace hst := hst.of1
 refine ws_next (pend' := [(8, v805), (6, v805), (1, v1454), (0, Pt b1311 1)]) hst (by kernel_rfl) (pkr z z (fun w hst => z) (pkr z z (fun w hst => z) (pkr z z (fun w hst => x_load z isAgg53 (hst.bc2 z)) (pkr z z (fun w hst => x_field z underlying76 z sizeOf53 z) pk_nil)))) ?_
 refine ws_e1 7 (by kernel_rfl) ?_
 refine nxe [9, 10, 11, 12, 13, 14] (by kernel_rfl) z z ?_
 clear hst
 intro w hst
 obtain ⟨t1478, ht1479, hm⟩ := bind_some hm
 refine wec call50 [v805] z z ?_
 refine (octet_Reader_Flag_ref hst.to1 ht1479).mono ?_
 rintro _ w1480 ⟨rfl, hst⟩
 refine ⟨_, z, ?_⟩
 replace hst := hst.of1
 refine ws_next (pend' := [(8, v805), (1, v1454), (0, Pt b1311 1)]) hst (by kernel_rfl) (pkr z z (fun w hst => z) (pkr z z (fun w hst => x_load z isAgg53 (hst.bc2 z)) (pkr z z (fun w hst => x_field z underlying76 z sizeOf53 z) pk_nil))) ?_
 refine ws_e1 9 (by kernel_rfl) ?_
 refine nxe [10, 11, 12, 13, 14] (by kernel_rfl) z z ?_
 clear hst
 intro w hst
 obtain ⟨t1483, ht1484, hm⟩ := bind_some hm
 refine wec call51 [v805, I6 (256:Int)] z z ?_
 refine (octet_Reader_Bytes_ref hst.to1 ht1484).mono ?_
 rintro _ w1485 ⟨v1488, rfl, hst⟩
 refine ⟨_, z, ?_⟩
 replace hst := hst.of2
 refine ws_next (pend' := [(1, v1454), (0, Pt b1311 1)]) hst (by kernel_rfl) (pkr z z (fun w hst => x_load z isAgg53 (hst.bc3 z)) (pkr z z (fun w hst => x_field z underlying76 z sizeOf53 z) pk_nil)) ?_
 refine wsr (.agg #[U6 t1468.1, U6 t1473.1, .bool t1478.1, v1488]) 10 rfl rfl rfl (by kernel_rfl) (fun w hst => by obtain ⟨_, _, hv_, _⟩ := hst.sv0; rw [hv_]; kernel_rfl) ?_
 refine ws_e1 11 (by kernel_rfl) ?_
 refine nxe [12, 13, 14] (by kernel_rfl) z z ?_
 clear hst
 intro w hst
 obtain ⟨I1492, hI1493, f1494, hst⟩ := hst.own_fix
 replace f0_0 := f0_0.mono (ro_le hI1493)
 replace hI0 := hI0.trans hI1493
 replace hL1542 := hL1542.trans hI1493
 replace hL1298 := hL1298.trans hI1493
 replace hL1516 := hL1516.trans hI1493
 replace hL1462 := hL1462.trans hI1493
 obtain ⟨b1495, w1496, ew1497, eb1498, hst⟩ := hst.lits (E := ty_mvcc_Version) (xs := [({ Epoch := t1468.1, Index := t1473.1, Del := t1478.1, Val := t1483.1 } : mvcc_Version)]) [[U6 t1468.1, U6 t1473.1, .bool t1478.1, v1488]] 52 1 z (Reps.cons ⟨_, z, f1494, one_of_sliceV (ro_sliceV f1494)⟩ Reps.nil)
 refine we_run (v := (.slice (some ⟨b1495, 0, none⟩) 1 1)) (w' := w1496) z (x_als (by kernel_rfl) ew1497 eb1498) ?_
 refine ws_next (pend' := [(1, v1454), (0, Pt b1311 1)]) hst (by kernel_rfl) (pkr z z (fun w hst => x_load z isAgg53 (hst.bc3 z)) (pkr z z (fun w hst => x_field z underlying76 z sizeOf53 z) pk_nil)) ?_
 refine ws_e1 12 (by kernel_rfl) ?_
 refine nxe [13, 14] (by kernel_rfl) z z ?_
 clear hst
 intro w hst
 obtain ⟨hg1500, hm⟩ := gd_some hm
 replace hst := hst.pull2
 obtain ⟨v1501, w1502, hr1503, hst⟩ := run_append elem_53 underlying53 hst hst.src1 (room_of hg1500 z) 53
 refine we_run (v := v1501) (w' := w1502) z (x_append z z hr1503) ?_
 refine ws_next (pend' := []) hst (by kernel_rfl) pk_nil ?_
 refine wsr (Pt b1311 1) 13 z z z (by kernel_rfl) (fun w hst => x_field z underlying76 z sizeOf53 z) ?_
 refine ws_e1 14 (by kernel_rfl) ?_
 refine nxe [] (by kernel_rfl) z z ?_
 clear hst
 intro w hst
 replace hst := hst.pull3
 obtain ⟨w1505, hr1506, hst⟩ := hst.boxStore1 (P := prog) (t := 53) (cs' := [U6 t1304.1, v1501]) 1 v1501 (one_of_sliceV hst.sv1) sizeOf53 z z
 refine we_unit z (x_unit hr1506) ?_
 refine ws_next (pend' := []) hst (by kernel_rfl) pk_nil ?_
 refine ws_nil ?_
 intro w hst
 refine blk_n (tn (wrl ?_))
 refine wv (.int .i64 (i64.wrap (z1457 + (1:Int)))) z z z (wv (.int .i64 (i64.wrap (z1457 + (1:Int)))) z z z (wl_nil (tn ?_)))
 replace hst := hst.pull4.pull1.pull4.pull3.keep4
 obtain rfl := some_inj hm
 exact ⟨_, Nat.lt_succ_self _, _, (z1453 ++ ([({ Epoch := t1468.1, Index := t1473.1, Del := t1478.1, Val := t1483.1 } : mvcc_Version)])), t1483.2, (i64.wrap (z1457 + (1:Int))), v1501, _, hx1465, (fu 4 v805 z (fu 5 v812 z (fu 7 (Pt b1311 0) z (fu 16 (.int .i64 t819.1) z (fu 17 (.int .i64 z1293) z (fu 26 (.int .i64 t1323.1) z (fu 27 (.int .i64 (i64.wrap (z1457 + (1:Int)))) z z))))))), hL1462, hst⟩
}
 {
 replace hm := bif_f hc1467 hm
 refine wp_iff (cvb hc1467) ?_
 refine wp_exit (then_x (then_x ?_))
 replace hm := inr_up hm hx1465
 refine blk_x (tn ?_)
 replace hst := hst.pull2.pull3.pull3.keep4
 obtain rfl := some_inj hm
 exact ⟨_, z1456, z1453, v1454, _, hx1515, (fu 4 v805 z (fu 5 v812 z (fu 7 (Pt b1311 0) z (fu 16 (.int .i64 t819.1) z (fu 17 (.int .i64 z1293) z z))))), hL1516, hst⟩
}
}
 {
 clear hst
 rintro _ w1517 ⟨I1511, z1507, z1510, v1509, σ1512, hm, rfl, hL1513, hst⟩
 dsimp only [mvcc_Decode_j2] at hm
 replace f0_0 := f0_0.mono (ro_le hL1513)
 replace hI0 := hI0.trans hL1513
 replace hL1542 := hL1542.trans hL1513
 replace hL1298 := hL1298.trans hL1513
 replace hst := hst.pull1
 obtain ⟨b1518, v1519, rfl, hst'⟩ := at_mvcc_Store_open hst
 clear hst
 have hst := hst'
 clear hst'
 refine wp_region_St hst 11 [0, 1, 2, 3, 4, 5, 6, 7, 8, 9, 10] [0, 0, 2, 6, 14, 0, 32, 126, 255, 511, 1023] [] z (by kernel_rfl) (by kernel_rfl) Try.mixed (by kernel_rfl) ?_
 refine wsr (Pt b1518 0) 0 z z z (by kernel_rfl) (fun w hst => z) (wsr (Pt b1518 0) 1 z z z (by kernel_rfl) (fun w hst => z) (wsr (Pt b1518 0) 2 z z z (by kernel_rfl) (fun w hst => z) (wsr (Pt b1518 0) 3 z z z (by kernel_rfl) (fun w hst => x_field z underlying79 z sizeOf77 z) (wsr (v1519) 4 z z z (by kernel_rfl) (fun w hst => x_load z isAgg77 (hst.bc0 z)) (wsr (.agg #[U6 t1304.1, v1509]) 5 z z z (by kernel_rfl) (fun w hst => x_loadN (cs := [U6 t1304.1, v1509]) z isAgg76 sizeOf76 (hst.bcs3 0 z)) ?_)))))
 refine ws_e1 6 (by kernel_rfl) ?_
 refine nxe [7, 8, 9, 10] (by kernel_rfl) z z ?_
 clear hst
 intro w hst
 replace hst := hst.pull4
 have hv1527 := hst.sv0
 obtain ⟨b1522, w1523, ew1524, eb1525, hst⟩ := hst.nest_one (N := nest_mvcc_row) (x := ({ rank := t1304.1, l := z1510 } : mvcc_row)) 76
 refine we_run (v := (.slice (some ⟨b1522, 0, none⟩) 1 1)) (w' := w1523) z (x_als (by obtain ⟨_, _, hv_, _⟩ := hv1527; rw [hv_]; kernel_rfl) ew1524 eb1525) ?_
 refine ws_next (pend' := [(4, v1519), (3, Pt b1518 0), (2, Pt b1518 0), (1, Pt b1518 0), (0, Pt b1518 0)]) hst (by kernel_rfl) (pkr z z (fun w hst => x_load z isAgg77 (hst.bc1 z)) (pkr z z (fun w hst => x_field z underlying79 z sizeOf77 z) (pkr z z (fun w hst => z) (pkr z z (fun w hst => z) (pkr z z (fun w hst => z) pk_nil))))) ?_
 refine ws_e1 7 (by kernel_rfl) ?_
 refine nxe [8, 9, 10] (by kernel_rfl) z z ?_
 clear hst
 intro w hst
 obtain ⟨hg1528, hm⟩ := gd_some hm
 replace hst := hst.pull2.pull1.pull1
 obtain ⟨v1529, w1530, hr1531, hst⟩ := run_appN (N := nest_mvcc_row) elemN_77 underlying77 hst (room_of hg1528 z) 77
 refine we_run (v := v1529) (w' := w1530) z (x_append z z hr1531) ?_
 refine ws_next (pend' := [(0, Pt b1518 0)]) hst (by kernel_rfl) (pkr z z (fun w hst => z) pk_nil) ?_
 refine wsr (Pt b1518 0) 8 z z z (by kernel_rfl) (fun w hst => z) (wsr (Pt b1518 0) 9 z z z (by kernel_rfl) (fun w hst => x_field z underlying79 z sizeOf77 z) ?_)
 refine ws_e1 10 (by kernel_rfl) ?_
 refine nxe [] (by kernel_rfl) z z ?_
 clear hst
 intro w hst
 replace hst := hst.pull1
 obtain ⟨w1533, hr1534, hst⟩ := hst.boxStore1 (P := prog) (t := 77) (cs' := [v1529]) 0 v1529 (one_of_sliceV (hst.nestsv 1 z)) sizeOf77 z z
 refine we_unit z (x_unit hr1534) ?_
 refine ws_next (pend' := []) hst (by kernel_rfl) pk_nil ?_
 refine ws_nil ?_
 intro w hst
 refine blk_n (tn (wrl ?_))
 refine wv (.int .i64 (i64.wrap (z1293 + (1:Int)))) z z z (wv (.int .i64 (i64.wrap (z1293 + (1:Int)))) z z z (wl_nil (tn ?_)))
 replace hst := hst.pull1.pull1
 replace hst := at_mvcc_Store_close (pv := Pt b1518 0) (x := ({ rows := (z1292.rows ++ ([({ rank := t1304.1, l := z1510 } : mvcc_row)])) } : mvcc_Store)) hst z
 replace hst := hst.pull1.keep2
 obtain rfl := some_inj hm
 exact ⟨_, Nat.lt_succ_self _, _, z1507, ({ rows := (z1292.rows ++ ([({ rank := t1304.1, l := z1510 } : mvcc_row)])) } : mvcc_Store), (i64.wrap (z1293 + (1:Int))), _, hx1301, (fu 4 v805 z (fu 5 (Pt b1518 0) z (fu 16 (.int .i64 t819.1) z (fu 17 (.int .i64 (i64.wrap (z1293 + (1:Int)))) z z)))), hL1298, hst⟩
}
}
 {
 replace hm := bif_f hc1303 hm
 refine wp_iff (cvb hc1303) ?_
 refine wp_exit (then_x (then_x ?_))
 replace hm := inr_up hm hx1301
 refine blk_x (tn ?_)
 replace hst := hst.pull1.pull1.keep2
 obtain rfl := some_inj hm
 exact ⟨_, z1291, z1292, _, hx1541, (fu 4 v805 z (fu 5 v812 z z)), hL1542, hst⟩
}
}
 {
 clear hst
 rintro _ w1543 ⟨I1537, z1535, z1536, σ1538, hm, rfl, hL1539, hst⟩
 dsimp only [mvcc_Decode_j0] at hm
 replace f0_0 := f0_0.mono (ro_le hL1539)
 replace hI0 := hI0.trans hL1539
 refine wp_seq (wp_seq (wrl (wv (v805) z z z ?_)))
 obtain ⟨t1544, ht1545, hm⟩ := bind_some hm
 refine wc call52 [v805] z z z ?_
 refine (octet_Reader_End_ref hst.to1 ht1545).mono ?_
 rintro _ w1546 ⟨rfl, hst⟩
 refine ⟨_, z, ?_⟩
 replace hst := hst.of1
 refine wv (.bool (!t1544)) z z z (wv (.bool (!t1544)) z z z ?_)
 refine bsplit (!t1544) (fun hc1549 => ?_) (fun hc1549 => ?_)
 {
 replace hm := bif_t hc1549 hm
 refine wo hc1549 z z z z z z (wo hc1549 z z z z z z (wo hc1549 z z z z z z (wv (.bool true) z z (x_pick_t hc1549 z z) (wl_nil (tn ?_)))))
 refine wp_ift z ?_
 refine wp_seq (wrl (wv (.pointer none) z z z (wv (.int .i64 (5:Int)) z z z (wl_nil (tn (wp_ret (then_r ?_)))))))
 replace hst := hst.objO_nil at_mvcc_Store
 obtain rfl := some_inj hm
 refine post_ret (vs := [.pointer none, I6 (5:Int)]) results26 (rvs_cons (rv_tmp z) (rvs_cons (rv_tmp z) rvs_nil)) ?_
 exact ⟨_, .pointer none, z, hI0, hst.keep1⟩
}
 {
 replace hm := bif_f hc1549 hm
 refine wv (v812) ((wanted_eq z z z (cvb hc1549)).trans z) z z ?_
 replace hst := hst.pull1
 replace hst := objO_some hst
 obtain ⟨t1551, ht1552, hm⟩ := bind_some hm
 refine wl_call ((wanted_eq z z z (cvb hc1549)).trans z) z (x_call call53 z (vs := [v812]) z) ?_
 refine (mvcc_Store_right_ref hst.to1 ht1552).mono ?_
 rintro _ w1553 ⟨rfl, hst⟩
 refine ⟨_, z, ?_⟩
 replace hst := hst.of1
 replace hst := objO_get hst
 refine wv (.bool (!t1551)) ((wanted_eq z z z (cvb hc1549)).trans z) z z (wv (.bool (!t1551)) z z (x_pick_f hc1549 z z) (wl_nil (tn ?_)))
 refine bsplit (!t1551) (fun hc1556 => ?_) (fun hc1556 => ?_)
 {
 replace hm := bif_t hc1556 hm
 refine wp_ift (cvb hc1556) ?_
 refine wp_seq (wrl (wv (.pointer none) z z z (wv (.int .i64 (5:Int)) z z z (wl_nil (tn (wp_ret (then_r ?_)))))))
 replace hst := hst.objO_nil at_mvcc_Store
 obtain rfl := some_inj hm
 refine post_ret (vs := [.pointer none, I6 (5:Int)]) results26 (rvs_cons (rv_tmp z) (rvs_cons (rv_tmp z) rvs_nil)) ?_
 exact ⟨_, .pointer none, z, hI0, hst.keep1⟩
}
 {
 replace hm := bif_f hc1556 hm
 refine wp_iff (cvb hc1556) ?_
 refine wp_skip (tn (wp_seq (wrl ?_)))
 refine wv (v812) z z z (wv (v812) z z z (wv (.int .i64 (0:Int)) z z z (wl_nil (tn (wp_ret ?_)))))
 replace hst := objO_some hst
 obtain rfl := some_inj hm
 refine post_ret (vs := [v812, Zi]) results26 (rvs_cons (rv_tmp z) (rvs_cons (rv_tmp z) rvs_nil)) ?_
 exact ⟨_, v812, z, hI0, hst.keep1⟩
}
}
}
}

theorem ref11_Ats_ref {w0 w : World} {I : HL} {R : SP} {a0 : (List ref11_Version)} {r0_0 : Value} (f0_0 : Rd ty_ref11_Version R I r0_0 a0) (hst : St w0 w I [] R) {r : ((List Nat))} (hm : ref11_Ats a0 = some r) :
  Calls prog 18 #[r0_0] w fun e w' => ∃ (I' : HL) (q0_0 : Value), e = .returned (q0_0) ∧ I.le I' ∧ St w0 w' I' [ownS tyF64 q0_0 r] R := by {
 unfold ref11_Ats at hm
 refine calls_start (args := [r0_0]) func18 z ntmps18 (Nat.le_of_ble_eq_true z) ?_
 have hI0 := HL.le.refl I
 refine wp_seq (wrl (wv ((.slice none 0 0)) z z z (wl_nil (tn (wp_seq (wrl (wv ((.slice none 0 0)) z z z (wl_nil (tn (wp_seq (wp_seq (wrl (wv (.int .i64 (0:Int)) z z z (wl_nil (tn (wp_block ?_))))))))))))))))
 replace hst := hst.own_nil tyF64
 obtain ⟨n1442, hm⟩ := loopO_some hm
 refine wp_loop_n (fun n a w => ∃ (I1440 : HL) (z1436 : (List Nat)) (z1439 : Int) (v1437 : Value) (σ1441 : Nat → Value), loopN (ref11_Ats_l0 a0) n (z1436, z1439) = some r ∧ a = Fr 66 (upd (upd (upd σ1441 0 (r0_0)) 3 (v1437)) 4 (.int .i64 z1439)) ∧ I.le I1440 ∧ St w0 w I1440 [ownS tyF64 v1437 z1436] R) n1442 ⟨_, [], (0:Int), Zs, _, hm, (fu 0 r0_0 z (fu 3 (.slice none 0 0) z (fu 4 (.int .i64 (0:Int)) z z))), (HL.le.refl _), hst⟩ ?_
 rintro n1448 _ w1443 ⟨I1440, z1436, z1439, v1437, σ1441, hm, rfl, hL1444, hst⟩
 obtain ⟨n1445, y1446, rfl, hm, hx1447⟩ := loopN_some hm
 dsimp only [ref11_Ats_l0] at hm
 replace f0_0 := f0_0.mono (rd_le hL1444)
 replace hI0 := hI0.trans hL1444
 refine wp_seq (wp_seq (wrl (wv (.int .i64 z1439) z z z (wv (r0_0) z z z (wv (.int .i64 ((a0).length : Int)) z z (x_len z underlying26 (rd_sliceV f0_0)) (wv (.bool (decide (z1439 < ((a0).length : Int)))) z z z (wl_nil (tn ?_))))))))
 refine bsplit (decide (z1439 < ((a0).length : Int))) (fun hc1449 => ?_) (fun hc1449 => ?_)
 {
 replace hm := bif_t hc1449 hm
 refine wp_ift (cvb hc1449) ?_
 refine wp_skip (tn (wp_seq (wp_block (wp_seq (wrl ?_)))))
 refine wv (.int .i64 (0:Int)) z z z (wl_nil (tn ?_))
 obtain ⟨y1532, hm, hx1533⟩ := bind_some hm
 refine wp_cut (fun a w => ∃ (z1529 : Int) (σ1530 : Nat → Value), (ref11_Ats_j1 z1436 a0 z1439) z1529 = some y1446 ∧ a = Fr 66 (upd (upd (upd (upd σ1530 0 (r0_0)) 3 (v1437)) 4 (.int .i64 z1439)) 5 (.int .i64 z1529)) ∧ St w0 w I1440 [ownS tyF64 v1437 z1436] R) ?_ ?_
 {
 refine wp_block ?_
 obtain ⟨n1499, hm⟩ := loopO_some hm
 refine wp_loop_n (fun n a w => ∃ (z1497 : Int) (σ1498 : Nat → Value), loopN (ref11_Ats_l2 z1436 a0 z1439) n z1497 = some y1532 ∧ a = Fr 66 (upd (upd (upd (upd σ1498 0 (r0_0)) 3 (v1437)) 4 (.int .i64 z1439)) 5 (.int .i64 z1497)) ∧ St w0 w I1440 [ownS tyF64 v1437 z1436] R) n1499 ⟨(0:Int), _, hm, (fu 0 r0_0 z (fu 3 v1437 z (fu 4 (.int .i64 z1439) z (fu 5 (.int .i64 (0:Int)) z z)))), hst⟩ ?_
 rintro n1505 _ w1500 ⟨z1497, σ1498, hm, rfl, hst⟩
 obtain ⟨n1502, y1503, rfl, hm, hx1504⟩ := loopN_some hm
 dsimp only [ref11_Ats_l2] at hm
 refine wp_seq (wp_seq ?_)
 refine wp_region_St hst 16 [0, 1, 2, 3, 4, 5, 6, 7, 8, 9, 10, 11, 12, 13, 14, 15] [0, 0, 2, 7, 15, 31, 31, 127, 255, 31, 31, 1567, 3615, 7711, 16383, 32767] [] z (by kernel_rfl) (by kernel_rfl) Try.mixed (by kernel_rfl) ?_
 refine wsr (.int .i64 z1497) 0 z z z (by kernel_rfl) (fun w hst => z) (wsr (v1437) 1 z z z (by kernel_rfl) (fun w hst => z) (wsr (.int .i64 ((z1436).length : Int)) 2 z z z (by kernel_rfl) (fun w hst => x_len z underlying44 hst.sv0) (wsr (.bool (decide (z1497 < ((z1436).length : Int)))) 3 z z z (by kernel_rfl) (fun w hst => z) (wsr (.bool (decide (z1497 < ((z1436).length : Int)))) 4 z z z (by kernel_rfl) (fun w hst => z) ?_))))
 refine bsplit (decide (z1497 < ((z1436).length : Int))) (fun hc1506 => ?_) (fun hc1506 => ?_)
 {
 replace hm := bif_t hc1506 hm
 refine ws_q (v := v1437) 5 [6, 7, 8, 9, 10, 11, 12, 13, 14, 15] (by kernel_rfl) z z (yi_run ((wanted_eq z z z (cvb hc1506)).trans z) (fun w hst => z)) (ws_q (v := .int .i64 z1497) 6 [7, 8, 9, 10, 11, 12, 13, 14, 15] (by kernel_rfl) z z (yi_run ((wanted_eq z z z (cvb hc1506)).trans z) (fun w hst => z)) ?_)
 obtain ⟨x1507, hx1508, hm⟩ := bind_some hm
 obtain ⟨h1509, h1510, hi1511⟩ := geto_some hx1508
 refine ws_q (v := .pointer (some (eAddr v1437 (z1497.toNat * 1 + 0)))) 7 [8, 9, 10, 11, 12, 13, 14, 15] (by kernel_rfl) z z (yi_run ((wanted_eq z z z (cvb hc1506)).trans z) (fun w hst => x_index z z underlying44 sizeOf23 hst.sv0 h1509 h1510)) (ws_q (v := .float .f64 x1507) 8 [9, 10, 11, 12, 13, 14, 15] (by kernel_rfl) z z (yi_run ((wanted_eq z z z (cvb hc1506)).trans z) (fun w hst => x_load z isAgg23 (hst.ol0 hi1511 (by rintro _ rfl; rfl)))) (ws_q (v := r0_0) 9 [10, 11, 12, 13, 14, 15] (by kernel_rfl) z z (yi_run ((wanted_eq z z z (cvb hc1506)).trans z) (fun w hst => z)) (ws_q (v := .int .i64 z1439) 10 [11, 12, 13, 14, 15] (by kernel_rfl) z z (yi_run ((wanted_eq z z z (cvb hc1506)).trans z) (fun w hst => z)) ?_)))
 obtain ⟨x1512, hx1513, hm⟩ := bind_some hm
 obtain ⟨h1514, h1515, hi1516⟩ := geto_some hx1513
 refine ws_q (v := .pointer (some (eAddr r0_0 (z1439.toNat * 5 + 0)))) 11 [12, 13, 14, 15] (by kernel_rfl) z z (yi_run ((wanted_eq z z z (cvb hc1506)).trans z) (fun w hst => x_index z z underlying26 sizeOf67 (rd_sliceV f0_0) h1514 h1515)) (ws_q (v := .pointer (some (eAddr r0_0 (z1439.toNat * 5 + 0)))) 12 [13, 14, 15] (by kernel_rfl) z z (yi_run ((wanted_eq z z z (cvb hc1506)).trans z) (fun w hst => x_field_e z underlying67 z sizeOf23 z)) ?_)
 obtain ⟨cs1517, hr1518, hc1519⟩ := Rd.getF f0_0 hi1516
 obtain ⟨v1520, rfl, f1521, -⟩ := hr1518
 refine ws_q (v := .float .f64 x1512.At) 13 [14, 15] (by kernel_rfl) z z (yi_run ((wanted_eq z z z (cvb hc1506)).trans z) (fun w hst => x_load z isAgg23 ((hc1519 (HL.le.refl _) hst) 0 _ z))) ?_
 refine ws_e1 14 (by kernel_rfl) ?_
 refine nxe [15] (by kernel_rfl) z ((wanted_eq z z z (cvb hc1506)).trans z) ?_
 clear hst
 intro w hst
 obtain ⟨t1523, ht1524, hm⟩ := bind_some hm
 refine wec call37 [F6 x1507, F6 x1512.At] z z ?_
 refine (ref01_Ahead_ref hst.to0 ht1524).mono ?_
 rintro _ w1525 ⟨rfl, hst⟩
 refine ⟨_, z, ?_⟩
 replace hst := hst.of0
 refine ws_next (pend' := []) hst (by kernel_rfl) pk_nil ?_
 refine wsr (.bool t1523) 15 z z z (by kernel_rfl) (fun w hst => x_pick_t hc1506 z z) ?_
 refine ws_nil ?_
 intro w hst
 refine tn ?_
 refine bsplit t1523 (fun hc1528 => ?_) (fun hc1528 => ?_)
 {
 replace hm := bif_t hc1528 hm
 refine wp_ift (cvb hc1528) ?_
 refine wp_skip (tn (wp_block (wrl ?_)))
 refine wv (.int .i64 z1497) z z z (wv (.int .i64 (i64.wrap (z1497 + (1:Int)))) z z z (wv (.int .i64 (i64.wrap (z1497 + (1:Int)))) z z z (wl_nil (blk_n (tn ?_)))))
 replace hst := hst.keep1
 obtain rfl := some_inj hm
 exact ⟨_, Nat.lt_succ_self _, (i64.wrap (z1497 + (1:Int))), _, hx1504, (fu 0 r0_0 z (fu 3 v1437 z (fu 4 (.int .i64 z1439) z (fu 5 (.int .i64 (i64.wrap (z1497 + (1:Int)))) z z)))), hst⟩
}
 {
 replace hm := bif_f hc1528 hm
 refine wp_iff (cvb hc1528) ?_
 refine wp_exit (then_x (then_x ?_))
 replace hm := inr_up hm hx1504
 refine blk_x (tn ?_)
 replace hst := hst.keep1
 obtain rfl := some_inj hm
 exact ⟨z1497, _, hx1533, (fu 0 r0_0 z (fu 3 v1437 z (fu 4 (.int .i64 z1439) z (fu 5 (.int .i64 z1497) z z)))), hst⟩
}
}
 {
 replace hm := bif_f hc1506 hm
 refine ws_q (v := undef) 5 [6, 7, 8, 9, 10, 11, 12, 13, 14, 15] (by kernel_rfl) z z (yi_off ((wanted_eq z z z (cvb hc1506)).trans z)) (ws_q (v := undef) 6 [7, 8, 9, 10, 11, 12, 13, 14, 15] (by kernel_rfl) z z (yi_off ((wanted_eq z z z (cvb hc1506)).trans z)) (ws_q (v := undef) 7 [8, 9, 10, 11, 12, 13, 14, 15] (by kernel_rfl) z z (yi_off ((wanted_eq z z z (cvb hc1506)).trans z)) (ws_q (v := undef) 8 [9, 10, 11, 12, 13, 14, 15] (by kernel_rfl) z z (yi_off ((wanted_eq z z z (cvb hc1506)).trans z)) (ws_q (v := undef) 9 [10, 11, 12, 13, 14, 15] (by kernel_rfl) z z (yi_off ((wanted_eq z z z (cvb hc1506)).trans z)) (ws_q (v := undef) 10 [11, 12, 13, 14, 15] (by kernel_rfl) z z (yi_off ((wanted_eq z z z (cvb hc1506)).trans z)) (ws_q (v := undef) 11 [12, 13, 14, 15] (by kernel_rfl) z z (yi_off ((wanted_eq z z z (cvb hc1506)).trans z)) (ws_q (v := undef) 12 [13, 14, 15] (by kernel_rfl) z z (yi_off ((wanted_eq z z z (cvb hc1506)).trans z)) (ws_q (v := undef) 13 [14, 15] (by kernel_rfl) z z (yi_off ((wanted_eq z z z (cvb hc1506)).trans z)) (ws_q (v := undef) 14 [15] (by kernel_rfl) z z (yi_off ((wanted_eq z z z (cvb hc1506)).trans z)) (wsr (.bool false) 15 z z z (by kernel_rfl) (fun w hst => x_pick_f hc1506 z z) ?_))))))))))
 refine ws_nil ?_
 intro w hst
 refine tn ?_
 refine wp_iff z ?_
 refine wp_exit (then_x (then_x ?_))
 replace hm := inr_up hm hx1504
 refine blk_x (tn ?_)
 replace hst := hst.keep1
 obtain rfl := some_inj hm
 exact ⟨z1497, _, hx1533, (fu 0 r0_0 z (fu 3 v1437 z (fu 4 (.int .i64 z1439) z (fu 5 (.int .i64 z1497) z z)))), hst⟩
}
}
 {
 clear hst
 rintro _ w1534 ⟨z1529, σ1530, hm, rfl, hst⟩
 dsimp only [ref11_Ats_j1] at hm
 refine wp_seq (wp_seq ?_)
 refine wp_region_St hst 16 [0, 1, 2, 3, 4, 5, 6, 7, 8, 9, 10, 11, 12, 13, 14, 15] [0, 0, 2, 7, 15, 31, 31, 127, 255, 31, 31, 1567, 3615, 7711, 16383, 32767] [] z (by kernel_rfl) (by kernel_rfl) Try.mixed (by kernel_rfl) ?_
 refine wsr (.int .i64 z1529) 0 z z z (by kernel_rfl) (fun w hst => z) (wsr (v1437) 1 z z z (by kernel_rfl) (fun w hst => z) (wsr (.int .i64 ((z1436).length : Int)) 2 z z z (by kernel_rfl) (fun w hst => x_len z underlying44 hst.sv0) (wsr (.bool (decide (z1529 < ((z1436).length : Int)))) 3 z z z (by kernel_rfl) (fun w hst => z) (wsr (.bool (decide (z1529 < ((z1436).length : Int)))) 4 z z z (by kernel_rfl) (fun w hst => z) ?_))))
 refine bsplit (decide (z1529 < ((z1436).length : Int))) (fun hc1535 => ?_) (fun hc1535 => ?_)
 {
 replace hm := bif_t hc1535 hm
 refine ws_q (v := v1437) 5 [6, 7, 8, 9, 10, 11, 12, 13, 14, 15] (by kernel_rfl) z z (yi_run ((wanted_eq z z z (cvb hc1535)).trans z) (fun w hst => z)) (ws_q (v := .int .i64 z1529) 6 [7, 8, 9, 10, 11, 12, 13, 14, 15] (by kernel_rfl) z z (yi_run ((wanted_eq z z z (cvb hc1535)).trans z) (fun w hst => z)) ?_)
 obtain ⟨x1536, hx1537, hm⟩ := bind_some hm
 obtain ⟨h1538, h1539, hi1540⟩ := geto_some hx1537
 refine ws_q (v := .pointer (some (eAddr v1437 (z1529.toNat * 1 + 0)))) 7 [8, 9, 10, 11, 12, 13, 14, 15] (by kernel_rfl) z z (yi_run ((wanted_eq z z z (cvb hc1535)).trans z) (fun w hst => x_index z z underlying44 sizeOf23 hst.sv0 h1538 h1539)) (ws_q (v := .float .f64 x1536) 8 [9, 10, 11, 12, 13, 14, 15] (by kernel_rfl) z z (yi_run ((wanted_eq z z z (cvb hc1535)).trans z) (fun w hst => x_load z isAgg23 (hst.ol0 hi1540 (by rintro _ rfl; rfl)))) (ws_q (v := r0_0) 9 [10, 11, 12, 13, 14, 15] (by kernel_rfl) z z (yi_run ((wanted_eq z z z (cvb hc1535)).trans z) (fun w hst => z)) (ws_q (v := .int .i64 z1439) 10 [11, 12, 13, 14, 15] (by kernel_rfl) z z (yi_run ((wanted_eq z z z (cvb hc1535)).trans z) (fun w hst => z)) ?_)))
 obtain ⟨x1541, hx1542, hm⟩ := bind_some hm
 obtain ⟨h1543, h1544, hi1545⟩ := geto_some hx1542
 refine ws_q (v := .pointer (some (eAddr r0_0 (z1439.toNat * 5 + 0)))) 11 [12, 13, 14, 15] (by kernel_rfl) z z (yi_run ((wanted_eq z z z (cvb hc1535)).trans z) (fun w hst => x_index z z underlying26 sizeOf67 (rd_sliceV f0_0) h1543 h1544)) (ws_q (v := .pointer (some (eAddr r0_0 (z1439.toNat * 5 + 0)))) 12 [13, 14, 15] (by kernel_rfl) z z (yi_run ((wanted_eq z z z (cvb hc1535)).trans z) (fun w hst => x_field_e z underlying67 z sizeOf23 z)) ?_)
 obtain ⟨cs1546, hr1547, hc1548⟩ := Rd.getF f0_0 hi1545
 obtain ⟨v1549, rfl, f1550, -⟩ := hr1547
 refine ws_q (v := .float .f64 x1541.At) 13 [14, 15] (by kernel_rfl) z z (yi_run ((wanted_eq z z z (cvb hc1535)).trans z) (fun w hst => x_load z isAgg23 ((hc1548 (HL.le.refl _) hst) 0 _ z))) ?_
 refine ws_e1 14 (by kernel_rfl) ?_
 refine nxe [15] (by kernel_rfl) z ((wanted_eq z z z (cvb hc1535)).trans z) ?_
 clear hst
 intro w hst
 obtain ⟨t1552, ht1553, hm⟩ := bind_some hm
 refine wec call30 [F6 x1536, F6 x1541.At] z z ?_
 refine (ref01_Same_ref hst.to0 ht1553).mono ?_
 rintro _ w1554 ⟨rfl, hst⟩
 refine ⟨_, z, ?_⟩
 replace hst := hst.of0
 refine ws_next (pend' := []) hst (by kernel_rfl) pk_nil ?_
 refine wsr (.bool t1552) 15 z z z (by kernel_rfl) (fun w hst => x_pick_t hc1535 z z) ?_
 refine ws_nil ?_
 intro w hst
 refine tn ?_
 refine bsplit t1552 (fun hc1557 => ?_) (fun hc1557 => ?_)
 {
 replace hm := bif_t hc1557 hm
 refine wp_ift (cvb hc1557) ?_
 refine wp_exit (then_x (blk_x (tn (wrl ?_))))
 refine wv (.int .i64 z1439) z z z (wv (.int .i64 (i64.wrap (z1439 + (1:Int)))) z z z (wv (.int .i64 (i64.wrap (z1439 + (1:Int)))) z z z (wl_nil (tn ?_))))
 replace hst := hst.keep1
 obtain rfl := some_inj hm
 exact ⟨_, Nat.lt_succ_self _, _, z1436, (i64.wrap (z1439 + (1:Int))), v1437, _, hx1447, (fu 0 r0_0 z (fu 3 v1437 z (fu 4 (.int .i64 (i64.wrap (z1439 + (1:Int)))) z z))), hL1444, hst⟩
}
 {
 replace hm := bif_f hc1557 hm
 refine wp_iff (cvb hc1557) ?_
 refine wp_skip (tn (wp_seq (wrl ?_)))
 refine wv ((.slice none 0 0)) z z z (wl_nil (tn (wp_seq (wrl (wv ((.slice none 0 0)) z z z (wv (v1437) z z z (wv (.int .i64 z1529) z z z ?_)))))))
 obtain ⟨I1559, hI1560, f1561, hst⟩ := hst.own_fix
 replace f0_0 := f0_0.mono (rd_le hI1560)
 replace f1550 := f1550.mono (rd_le hI1560)
 replace hI0 := hI0.trans hI1560
 replace hL1444 := hL1444.trans hI1560
 obtain ⟨hg1562, hm⟩ := gd_some hm
 obtain ⟨h1563, h1564, h1565⟩ := fits_of hg1562
 have f1567 : Ro tyF64 I1559 (slcV 1 v1437 (0:Int).toNat z1529.toNat) (subs z1436 (0:Int) z1529) := Ro.part f1561 h1564 h1565 h1563
 refine wv ((slcV 1 v1437 (0:Int).toNat z1529.toNat)) z z (x_slice underlying44 sizeOf23 z (ro_sliceV f1561) h1563 h1564 h1565 .i64 .i64 (.inr ⟨z, z⟩) (.inl z)) ?_
 replace hst := hst.own_nil tyF64
 obtain ⟨hg1568, hm⟩ := gd_some hm
 obtain ⟨v1569, w1570, hr1571, hst⟩ := run_append elem_44 underlying44 hst (Src.of_ro hst f1567) (room_of hg1568 z) 44
 replace hst := St.nil_app hst
 refine wl_run (v := v1569) (w' := w1570) z z (x_append z z hr1571) ?_
 refine wv (v1569) z z z (wl_nil (tn (wp_seq (wrl (wv (v1569) z z z (wv (r0_0) z z z (wv (.int .i64 z1439) z z z (wv (.pointer (some (eAddr r0_0 (z1439.toNat * 5 + 0)))) z z (x_index z z underlying26 sizeOf67 (rd_sliceV f0_0) h1543 h1544) (wv (.pointer (some (eAddr r0_0 (z1439.toNat * 5 + 0)))) z z (x_field_e z underlying67 z sizeOf23 z) ?_)))))))))
 obtain ⟨cs1573, hr1574, hc1575⟩ := Rd.getF f0_0 hi1545
 obtain ⟨v1576, rfl, f1577, -⟩ := hr1574
 refine wv (.float .f64 x1541.At) z z (x_load z isAgg23 ((hc1575 (HL.le.refl _) hst) 0 _ z)) ?_
 obtain ⟨b1579, w1580, ew1581, eb1582, hst⟩ := hst.lits (E := tyF64) (xs := [x1541.At]) [[F6 x1541.At]] 23 1 z (Reps.cons z Reps.nil)
 refine wl_run (v := (.slice (some ⟨b1579, 0, none⟩) 1 1)) (w' := w1580) z z (x_als (by kernel_rfl) ew1581 eb1582) ?_
 obtain ⟨hg1584, hm⟩ := gd_some hm
 replace hst := hst.pull1
 obtain ⟨v1585, w1586, hr1587, hst⟩ := run_append elem_44 underlying44 hst hst.src1 (room_of hg1584 z) 44
 refine wl_run (v := v1585) (w' := w1586) z z (x_append z z hr1587) ?_
 refine wv (v1585) z z z (wl_nil (tn (wrl (wv (v1585) z z z (wv (v1437) z z z (wv (.int .i64 z1529) z z z ?_))))))
 obtain ⟨hg1589, hm⟩ := gd_some hm
 obtain ⟨h1590, h1591, h1592⟩ := fits_of hg1589
 have f1594 : Ro tyF64 I1559 (slcV 1 v1437 z1529.toNat (((z1436).length : Nat) : Int).toNat) (subs z1436 z1529 (((z1436).length : Nat) : Int)) := Ro.part f1561 h1591 h1592 h1590
 refine wv ((slcV 1 v1437 z1529.toNat (((z1436).length : Nat) : Int).toNat)) z z (x_slice underlying44 sizeOf23 z (ro_sliceV f1561) h1590 h1591 h1592 .i64 .i64 (.inl z) (.inr ⟨z, z⟩)) ?_
 obtain ⟨hg1595, hm⟩ := gd_some hm
 obtain ⟨v1596, w1597, hr1598, hst⟩ := run_append elem_44 underlying44 hst (Src.of_ro hst f1594) (room_of hg1595 z) 44
 refine wl_run (v := v1596) (w' := w1597) z z (x_append z z hr1598) ?_
 refine wv (v1596) z z z (wl_nil (blk_n (tn (wrl (wv (.int .i64 z1439) z z z (wv (.int .i64 (i64.wrap (z1439 + (1:Int)))) z z z (wv (.int .i64 (i64.wrap (z1439 + (1:Int)))) z z z (wl_nil (tn ?_)))))))))
 replace hst := hst.keep1
 obtain rfl := some_inj hm
 exact ⟨_, Nat.lt_succ_self _, _, (((subs z1436 (0:Int) z1529) ++ ([x1541.At])) ++ (subs z1436 z1529 (((z1436).length : Nat) : Int))), (i64.wrap (z1439 + (1:Int))), v1596, _, hx1447, (fu 0 r0_0 z (fu 3 v1596 z (fu 4 (.int .i64 (i64.wrap (z1439 + (1:Int)))) z z))), hL1444, hst⟩
}
}
 {
 replace hm := bif_f hc1535 hm
 refine ws_q (v := undef) 5 [6, 7, 8, 9, 10, 11, 12, 13, 14, 15] (by kernel_rfl) z z (yi_off ((wanted_eq z z z (cvb hc1535)).trans z)) (ws_q (v := undef) 6 [7, 8, 9, 10, 11, 12, 13, 14, 15] (by kernel_rfl) z z (yi_off ((wanted_eq z z z (cvb hc1535)).trans z)) (ws_q (v := undef) 7 [8, 9, 10, 11, 12, 13, 14, 15] (by kernel_rfl) z z (yi_off ((wanted_eq z z z (cvb hc1535)).trans z)) (ws_q (v := undef) 8 [9, 10, 11, 12, 13, 14, 15] (by kernel_rfl) z z (yi_off ((wanted_eq z z z (cvb hc1535)).trans z)) (ws_q (v := undef) 9 [10, 11, 12, 13, 14, 15] (by kernel_rfl) z z (yi_off ((wanted_eq z z z (cvb hc1535)).trans z)) (ws_q (v := undef) 10 [11, 12, 13, 14, 15] (by kernel_rfl) z z (yi_off ((wanted_eq z z z (cvb hc1535)).trans z)) (ws_q (v := undef) 11 [12, 13, 14, 15] (by kernel_rfl) z z (yi_off ((wanted_eq z z z (cvb hc1535)).trans z)) (ws_q (v := undef) 12 [13, 14, 15] (by kernel_rfl) z z (yi_off ((wanted_eq z z z (cvb hc1535)).trans z)) (ws_q (v := undef) 13 [14, 15] (by kernel_rfl) z z (yi_off ((wanted_eq z z z (cvb hc1535)).trans z)) (ws_q (v := undef) 14 [15] (by kernel_rfl) z z (yi_off ((wanted_eq z z z (cvb hc1535)).trans z)) (wsr (.bool false) 15 z z z (by kernel_rfl) (fun w hst => x_pick_f hc1535 z z) ?_))))))))))
 refine ws_nil ?_
 intro w hst
 refine tn ?_
 refine wp_iff z ?_
 refine wp_skip (tn (wp_seq (wrl ?_)))
 refine wv ((.slice none 0 0)) z z z (wl_nil (tn (wp_seq (wrl (wv ((.slice none 0 0)) z z z (wv (v1437) z z z (wv (.int .i64 z1529) z z z ?_)))))))
 obtain ⟨I1601, hI1602, f1603, hst⟩ := hst.own_fix
 replace f0_0 := f0_0.mono (rd_le hI1602)
 replace hI0 := hI0.trans hI1602
 replace hL1444 := hL1444.trans hI1602
 obtain ⟨hg1604, hm⟩ := gd_some hm
 obtain ⟨h1605, h1606, h1607⟩ := fits_of hg1604
 have f1609 : Ro tyF64 I1601 (slcV 1 v1437 (0:Int).toNat z1529.toNat) (subs z1436 (0:Int) z1529) := Ro.part f1603 h1606 h1607 h1605
 refine wv ((slcV 1 v1437 (0:Int).toNat z1529.toNat)) z z (x_slice underlying44 sizeOf23 z (ro_sliceV f1603) h1605 h1606 h1607 .i64 .i64 (.inr ⟨z, z⟩) (.inl z)) ?_
 replace hst := hst.own_nil tyF64
 obtain ⟨hg1610, hm⟩ := gd_some hm
 obtain ⟨v1611, w1612, hr1613, hst⟩ := run_append elem_44 underlying44 hst (Src.of_ro hst f1609) (room_of hg1610 z) 44
 replace hst := St.nil_app hst
 refine wl_run (v := v1611) (w' := w1612) z z (x_append z z hr1613) ?_
 refine wv (v1611) z z z (wl_nil (tn (wp_seq (wrl (wv (v1611) z z z (wv (r0_0) z z z (wv (.int .i64 z1439) z z z ?_)))))))
 obtain ⟨x1615, hx1616, hm⟩ := bind_some hm
 obtain ⟨h1617, h1618, hi1619⟩ := geto_some hx1616
 refine wv (.pointer (some (eAddr r0_0 (z1439.toNat * 5 + 0)))) z z (x_index z z underlying26 sizeOf67 (rd_sliceV f0_0) h1617 h1618) (wv (.pointer (some (eAddr r0_0 (z1439.toNat * 5 + 0)))) z z (x_field_e z underlying67 z sizeOf23 z) ?_)
 obtain ⟨cs1620, hr1621, hc1622⟩ := Rd.getF f0_0 hi1619
 obtain ⟨v1623, rfl, f1624, -⟩ := hr1621
 refine wv (.float .f64 x1615.At) z z (x_load z isAgg23 ((hc1622 (HL.le.refl _) hst) 0 _ z)) ?_
 obtain ⟨b1626, w1627, ew1628, eb1629, hst⟩ := hst.lits (E := tyF64) (xs := [x1615.At]) [[F6 x1615.At]] 23 1 z (Reps.cons z Reps.nil)
 refine wl_run (v := (.slice (some ⟨b1626, 0, none⟩) 1 1)) (w' := w1627) z z (x_als (by kernel_rfl) ew1628 eb1629) ?_
 obtain ⟨hg1631, hm⟩ := gd_some hm
 replace hst := hst.pull1
 obtain ⟨v1632, w1633, hr1634, hst⟩ := run_append elem_44 underlying44 hst hst.src1 (room_of hg1631 z) 44
 refine wl_run (v := v1632) (w' := w1633) z z (x_append z z hr1634) ?_
 refine wv (v1632) z z z (wl_nil (tn (wrl (wv (v1632) z z z (wv (v1437) z z z (wv (.int .i64 z1529) z z z ?_))))))
 obtain ⟨hg1636, hm⟩ := gd_some hm
 obtain ⟨h1637, h1638, h1639⟩ := fits_of hg1636
 have f1641 : Ro tyF64 I1601 (slcV 1 v1437 z1529.toNat (((z1436).length : Nat) : Int).toNat) (subs z1436 z1529 (((z1436).length : Nat) : Int)) := Ro.part f1603 h1638 h1639 h1637
 refine wv ((slcV 1 v1437 z1529.toNat (((z1436).length : Nat) : Int).toNat)) z z (x_slice underlying44 sizeOf23 z (ro_sliceV f1603) h1637 h1638 h1639 .i64 .i64 (.inl z) (.inr ⟨z, z⟩)) ?_
 obtain ⟨hg1642, hm⟩ := gd_some hm
 obtain ⟨v1643, w1644, hr1645, hst⟩ := run_append elem_44 underlying44 hst (Src.of_ro hst f1641) (room_of hg1642 z) 44
 refine wl_run (v := v1643) (w' := w1644) z z (x_append z z hr1645) ?_
 refine wv (v1643) z z z (wl_nil (blk_n (tn (wrl (wv (.int .i64 z1439) z z z (wv (.int .i64 (i64.wrap (z1439 + (1:Int)))) z z z (wv (.int .i64 (i64.wrap (z1439 + (1:Int)))) z z z (wl_nil (tn ?_)))))))))
 replace hst := hst.keep1
 obtain rfl := some_inj hm
 exact ⟨_, Nat.lt_succ_self _, _, (((subs z1436 (0:Int) z1529) ++ ([x1615.At])) ++ (subs z1436 z1529 (((z1436).length : Nat) : Int))), (i64.wrap (z1439 + (1:Int))), v1643, _, hx1447, (fu 0 r0_0 z (fu 3 v1643 z (fu 4 (.int .i64 (i64.wrap (z1439 + (1:Int)))) z z))), hL1444, hst⟩
}
}
}
 {
 replace hm := bif_f hc1449 hm
 refine wp_iff (cvb hc1449) ?_
 refine wp_exit (then_x (then_x ?_))
 replace hm := inr_up hm hx1447
 refine blk_x (tn (wp_seq (wrl ?_)))
 refine wv (v1437) z z z (wv (v1437) z z z (wl_nil (tn (wp_ret ?_))))
 obtain rfl := some_inj hm
 refine post_ret (vs := [v1437]) results18 (rvs_cons (rv_tmp z) rvs_nil) ?_
 exact ⟨_, v1437, z, hI0, hst.keep1⟩
}
}

end Go.Proofs.Ytbdnbohbmgmonaa
