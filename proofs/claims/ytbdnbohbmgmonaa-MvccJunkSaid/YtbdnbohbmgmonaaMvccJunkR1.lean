/- The Go functions refine their models, part 1. -/
import Derived.Test.YtbdnbohbmgmonaaMvccJunkR0
set_option linter.unusedVariables false
set_option linter.unusedSimpArgs false
set_option maxRecDepth 100000
set_option maxHeartbeats 4000000
namespace Go.Proofs.Ytbdnbohbmgmonaa
open Go Go.V
open _root_.Go.Proofs.Try IntKind
attribute [local irreducible] wpList Code.wp wpQuiet Calls bodyPost Oper.wp wpS Nx PendOK YieldsIn
theorem law11_awake_ref {w0 w : World} {I : HL} {R : SP}   (hst : St w0 w I [] R) {r : (Bool)} (hm : law11_awake = some r) :
  Calls prog 10 #[] w fun e w' => ∃ (I' : HL), e = .returned (.bool r) ∧ I.le I' ∧ St w0 w' I' [] R := by {
 unfold law11_awake at hm
 refine calls_start (args := []) func10 z ntmps10 (Nat.le_of_ble_eq_true z) ?_
 have hI0 := HL.le.refl I
 refine wp_seq (wrl (wv (.bool false) z z z (wl_nil (tn (wp_seq (wrl ?_))))))
 obtain ⟨t67, ht68, hm⟩ := bind_some hm
 refine wc call21 [] z z z ?_
 refine (mvcc_New_ref hst.to0 ht68).mono ?_
 rintro _ w69 ⟨v72, rfl, hst⟩
 refine ⟨_, z, ?_⟩
 replace hst := hst.of1
 refine wv (v72) z z z (wl_nil (tn (wp_seq (wrl (wv (v72) z z z ?_)))))
 obtain ⟨b74, w75, ew76, eb77, hst⟩ := hst.lits (E := (tyInt .u8)) (xs := [(97:Int)]) [[U1 (97:Int)]] 5 1 z (Reps.cons z Reps.nil)
 refine wl_run (v := (.slice (some ⟨b74, 0, none⟩) 1 1)) (w' := w75) z z (x_als (by kernel_rfl) ew76 eb77) ?_
 obtain ⟨I79, w82, hI80, f81, hr83, hst⟩ := hst.own_mark (P := prog) underlying32 underlying5 (List.cons_ne_nil _ _)
 replace hI0 := hI0.trans hI80
 refine wl_run (v := (.slice (some ⟨b74, 0, none⟩) 1 1)) (w' := w82) z z (x_conv z hr83) ?_
 refine wv (.agg #[U6 (2:Int), Zu, .bool false, (.slice (some ⟨b74, 0, none⟩) 1 1)]) z z (by kernel_rfl) ?_
 replace hst := objO_some hst
 obtain ⟨t85, ht86, hm⟩ := bind_some hm
 refine wc call22 [v72, F6 (4607182418800017408:Nat), .agg #[U6 (2:Int), Zu, .bool false, (.slice (some ⟨b74, 0, none⟩) 1 1)]] z z z ?_
 refine (mvcc_Store_Put_ref (a2 := ({ Epoch := (2:Int), Index := (0:Int), Del := false, Val := [(97:Int)] } : mvcc_Version)) (f81.mono ro_rd) hst.to1 ht86).mono ?_
 rintro _ w87 ⟨I88, rfl, hI89, hst⟩
 refine ⟨_, z, ?_⟩
 replace hst := hst.of1
 replace f81 := f81.mono (ro_le hI89)
 replace hI0 := hI0.trans hI89
 rcases he91 : t85 with _ | y90
 · rw [he91] at hm; cases hm
 rw [he91] at hm hst; dsimp only at hm; replace hst := objO_get hst
 refine wl_nil (tn (wp_seq (wrl (wv (v72) z z z (wv (.agg #[U6 (3:Int), Zu, .bool true, Zs]) z z (by kernel_rfl) ?_)))))
 replace hst := objO_some hst
 have f93 : Ro (tyInt .u8) I88 (.slice none 0 0) [] := ro_nil
 obtain ⟨t94, ht95, hm⟩ := bind_some hm
 refine wc call22 [v72, F6 (4607182418800017408:Nat), .agg #[U6 (3:Int), Zu, .bool true, Zs]] z z z ?_
 refine (mvcc_Store_Put_ref (a2 := ({ Epoch := (3:Int), Index := (0:Int), Del := true, Val := [] } : mvcc_Version)) (f93.mono ro_rd) hst.to1 ht95).mono ?_
 rintro _ w96 ⟨I97, rfl, hI98, hst⟩
 refine ⟨_, z, ?_⟩
 replace hst := hst.of1
 replace f81 := f81.mono (ro_le hI98)
 replace f93 := f93.mono (ro_le hI98)
 replace hI0 := hI0.trans hI98
 rcases he100 : t94 with _ | y99
 · rw [he100] at hm; cases hm
 rw [he100] at hm hst; dsimp only at hm; replace hst := objO_get hst
 refine wl_nil (tn (wp_seq (wrl (wv (v72) z z z ?_))))
 replace hst := objO_some hst
 obtain ⟨t101, ht102, hm⟩ := bind_some hm
 refine wc call13 [v72, F6 (4607182418800017408:Nat), U6 (2:Int)] z z z ?_
 refine (mvcc_Store_Get_ref hst.to1 ht102).mono ?_
 rintro _ w103 ⟨v106, rfl, hst⟩
 refine ⟨_, z, ?_⟩
 replace hst := hst.of2.pull1
 replace hst := objO_get hst
 refine wv (v106) z z (by obtain ⟨_, _, hv_, _⟩ := hst.sv1; rw [hv_]; kernel_rfl) (wv (.string (toStr t101.Val)) z z (x_tostr underlying32 underlying9 underlying5 z hst.src1) (wv (.bool (sEq (toStr t101.Val) (ByteArray.mk #[97]))) z z (by kernel_rfl) (wv (.bool (sEq (toStr t101.Val) (ByteArray.mk #[97]))) z z z ?_)))
 refine bsplit (sEq (toStr t101.Val) (ByteArray.mk #[97])) (fun hc108 => ?_) (fun hc108 => ?_)
 {
 replace hm := bif_t hc108 hm
 refine wv (v72) ((wanted_eq z z z (cvb hc108)).trans z) z z ?_
 replace hst := objO_some hst
 obtain ⟨t109, ht110, hm⟩ := bind_some hm
 refine wl_call ((wanted_eq z z z (cvb hc108)).trans z) z (x_call call13 z (vs := [v72, F6 (4607182418800017408:Nat), U6 (3:Int)]) z) ?_
 refine (mvcc_Store_Get_ref hst.to1 ht110).mono ?_
 rintro _ w111 ⟨v114, rfl, hst⟩
 refine ⟨_, z, ?_⟩
 replace hst := hst.of2.pull1
 replace hst := objO_get hst
 refine wv (.bool t109.Has) ((wanted_eq z z z (cvb hc108)).trans z) z (by obtain ⟨_, _, hv_, _⟩ := hst.sv1; rw [hv_]; kernel_rfl) (wv (.bool (!t109.Has)) ((wanted_eq z z z (cvb hc108)).trans z) z z (wv (.bool (!t109.Has)) z z (x_pick_t hc108 z z) (wv (.bool (!t109.Has)) z z z ?_)))
 refine bsplit (!t109.Has) (fun hc116 => ?_) (fun hc116 => ?_)
 {
 replace hm := bif_t hc116 hm
 refine wv (v72) ((wanted_eq z z z (cvb hc116)).trans z) z z ?_
 replace hst := objO_some hst
 obtain ⟨t117, ht118, hm⟩ := bind_some hm
 refine wl_call ((wanted_eq z z z (cvb hc116)).trans z) z (x_call call25 z (vs := [v72]) z) ?_
 refine (mvcc_Store_Size_ref hst.to1 ht118).mono ?_
 rintro _ w119 ⟨rfl, hst⟩
 refine ⟨_, z, ?_⟩
 replace hst := hst.of1
 replace hst := objO_get hst
 refine wv (.bool (t117 == (2:Int))) ((wanted_eq z z z (cvb hc116)).trans z) z z (wv (.bool (t117 == (2:Int))) z z (x_pick_t hc116 z z) (wv (.bool (t117 == (2:Int))) z z z (wl_nil (tn (wp_ret ?_)))))
 obtain rfl := some_inj hm
 refine post_ret (vs := [.bool (t117 == (2:Int))]) results10 (rvs_cons (rv_tmp z) rvs_nil) ?_
 exact ⟨_, z, hI0, hst.keep0⟩
}
 {
 replace hm := bif_f hc116 hm
 refine wo hc116 z z z z z z (wo hc116 z z z z z z (wo hc116 z z z z z z (wv (.bool false) z z (x_pick_f hc116 z z) (wv (.bool false) z z z (wl_nil (tn (wp_ret ?_)))))))
 obtain rfl := some_inj hm
 refine post_ret (vs := [.bool false]) results10 (rvs_cons (rv_tmp z) rvs_nil) ?_
 exact ⟨_, z, hI0, hst.keep0⟩
}
}
 {
 replace hm := bif_f hc108 hm
 refine wo hc108 z z z z z z (wo hc108 z z z z z z (wo hc108 z z z z z z (wo hc108 z z z z z z (wv (.bool false) z z (x_pick_f hc108 z z) (wv (.bool false) z z z (wz z z z z z z (wz z z z z z z (wz z z z z z z (wv (.bool false) z z (x_pick_f z z z) (wv (.bool false) z z z (wl_nil (tn (wp_ret ?_)))))))))))))
 obtain rfl := some_inj hm
 refine post_ret (vs := [.bool false]) results10 (rvs_cons (rv_tmp z) rvs_nil) ?_
 exact ⟨_, z, hI0, hst.keep0⟩
}
}

theorem octet_Read_ref {w0 w : World} {I : HL} {R : SP} {a0 : (List Int)} {r0_0 : Value} (f0_0 : Ro (tyInt .u8) I r0_0 a0) (hst : St w0 w I [] R) {r : (octet_Reader)} (hm : octet_Read a0 = some r) :
  Calls prog 46 #[r0_0] w fun e w' => ∃ (q0 : Value), e = .returned (q0) ∧ St w0 w' I [at_octet_Reader q0 r] R := by {
 unfold octet_Read at hm
 refine calls_start (args := [r0_0]) func46 z ntmps46 (Nat.le_of_ble_eq_true z) ?_
 refine wp_seq (wrl (wv (.pointer none) z z z (wl_nil (tn (wp_seq (wrl (wv (r0_0) z z z (wv (.agg #[r0_0, .bool false]) z z (by obtain ⟨_, _, hv_, _⟩ := (ro_sliceV f0_0); rw [hv_]; kernel_rfl) ?_))))))))
 obtain ⟨b45, w46, ew47, eb48, hst⟩ := hst.box [r0_0, .bool false] 110
 refine wl_run (v := Pt b45 0) (w' := w46) z z (x_al (by kernel_rfl) ew47 eb48) ?_
 refine wv (Pt b45 0) z z z (wl_nil (tn (wp_ret ?_)))
 replace hst := at_octet_Reader_close (pv := Pt b45 0) (x := ({ p := a0, bad := false } : octet_Reader)) hst ⟨z, f0_0⟩
 obtain rfl := some_inj hm
 refine post_ret (vs := [Pt b45 0]) results46 (rvs_cons (rv_tmp z) rvs_nil) ?_
 exact ⟨.pointer (some ⟨b45, 0, none⟩), z, hst.keep1⟩
}

theorem octet_Reader_Bad_ref {w0 w : World} {I : HL} {R : SP} {a0 : octet_Reader} {p0 : Value}  (hst : St w0 w I [at_octet_Reader p0 a0] R) {r : (Bool)} (hm : octet_Reader_Bad a0 = some r) :
  Calls prog 69 #[p0] w fun e w' => e = .returned (.bool r) ∧ St w0 w' I [at_octet_Reader p0 a0] R := by {
 unfold octet_Reader_Bad at hm
 refine calls_start (args := [p0]) func69 z ntmps69 (Nat.le_of_ble_eq_true z) ?_
 refine wp_seq (wrl (wv (.bool false) z z z (wl_nil (tn (wp_seq (wrl (wv (p0) z z z ?_)))))))
 obtain ⟨b57, v58, ⟨rfl, f60⟩, hst'⟩ := at_octet_Reader_open hst
 clear hst
 have hst := hst'
 clear hst'
 refine wv (.bool false) z z (by kernel_rfl) (wv (.bool false) z z z (wv (Pt b57 0) ((wanted_eq z z z z).trans z) z z (wv (Pt b57 0) ((wanted_eq z z z z).trans z) z z (wv (Pt b57 1) ((wanted_eq z z z z).trans z) z (x_field z underlying110 z sizeOf4 z) (wv (.bool a0.bad) ((wanted_eq z z z z).trans z) z (x_load z isAgg4 (hst.bc0 z)) (wv (.bool a0.bad) z z (x_pick_f z z z) (wv (.bool a0.bad) z z z (wl_nil (tn (wp_ret ?_))))))))))
 replace hst := at_octet_Reader_close (pv := Pt b57 0) (x := a0) hst ⟨z, f60⟩
 obtain rfl := some_inj hm
 refine post_ret (vs := [.bool a0.bad]) results69 (rvs_cons (rv_tmp z) rvs_nil) ?_
 exact ⟨z, hst.keep1⟩
}

theorem octet_Reader_Left_ref {w0 w : World} {I : HL} {R : SP} {a0 : octet_Reader} {p0 : Value}  (hst : St w0 w I [at_octet_Reader p0 a0] R) {r : (Int)} (hm : octet_Reader_Left a0 = some r) :
  Calls prog 48 #[p0] w fun e w' => e = .returned (.int .i64 r) ∧ St w0 w' I [at_octet_Reader p0 a0] R := by {
 unfold octet_Reader_Left at hm
 refine calls_start (args := [p0]) func48 z ntmps48 (Nat.le_of_ble_eq_true z) ?_
 refine wp_seq (wrl (wv (.int .i64 (0:Int)) z z z (wl_nil (tn (wp_seq (wp_seq (wrl (wv (p0) z z z ?_))))))))
 obtain ⟨t62, ht63, hm⟩ := bind_some hm
 refine wc call69 [p0] z z z ?_
 refine (octet_Reader_Bad_ref hst.to1 ht63).mono ?_
 rintro _ w64 ⟨rfl, hst⟩
 refine ⟨_, z, ?_⟩
 replace hst := hst.of1
 refine wl_nil (tn ?_)
 refine bsplit t62 (fun hc67 => ?_) (fun hc67 => ?_)
 {
 replace hm := bif_t hc67 hm
 refine wp_ift (cvb hc67) ?_
 refine wp_seq (wrl (wv (.int .i64 (0:Int)) z z z (wl_nil (tn (wp_ret (then_r ?_))))))
 obtain rfl := some_inj hm
 refine post_ret (vs := [Zi]) results48 (rvs_cons (rv_tmp z) rvs_nil) ?_
 exact ⟨z, hst.keep1⟩
}
 {
 replace hm := bif_f hc67 hm
 refine wp_iff (cvb hc67) ?_
 refine wp_skip (tn (wp_seq (wrl ?_)))
 refine wv (p0) z z z ?_
 obtain ⟨b68, v69, ⟨rfl, f71⟩, hst'⟩ := at_octet_Reader_open hst
 clear hst
 have hst := hst'
 clear hst'
 refine wv (Pt b68 0) z z z (wv (Pt b68 0) z z (x_field z underlying110 z sizeOf32 z) (wv (v69) z z (x_load z isAgg32 (hst.bc0 z)) (wv (.int .i64 ((a0.p).length : Int)) z z (x_len z underlying32 (ro_sliceV f71)) (wv (.int .i64 ((a0.p).length : Int)) z z z (wl_nil (tn (wp_ret ?_)))))))
 replace hst := at_octet_Reader_close (pv := Pt b68 0) (x := a0) hst ⟨z, f71⟩
 obtain rfl := some_inj hm
 refine post_ret (vs := [I6 ((a0.p).length : Int)]) results48 (rvs_cons (rv_tmp z) rvs_nil) ?_
 exact ⟨z, hst.keep1⟩
}
}

theorem octet_Reader_spoil_ref {w0 w : World} {I : HL} {R : SP} {a0 : octet_Reader} {p0 : Value}  (hst : St w0 w I [at_octet_Reader p0 a0] R) {r : (octet_Reader)} (hm : octet_Reader_spoil a0 = some r) :
  Calls prog 68 #[p0] w fun e w' => e = .returned (.tuple #[]) ∧ St w0 w' I [at_octet_Reader p0 r] R := by {
 unfold octet_Reader_spoil at hm
 refine calls_start (args := [p0]) func68 z ntmps68 (Nat.le_of_ble_eq_true z) ?_
 refine wp_seq (wrl (wv (p0) z z z ?_))
 obtain ⟨b70, v71, ⟨rfl, f73⟩, hst'⟩ := at_octet_Reader_open hst
 clear hst
 have hst := hst'
 clear hst'
 refine wv (.bool true) z z (by kernel_rfl) (wl_nil (tn ?_))
 refine wp_ift z ?_
 refine wrl (wv (Pt b70 0) z z z (wv (Pt b70 0) z z z (wv (Pt b70 1) z z (x_field z underlying110 z sizeOf4 z) ?_)))
 obtain ⟨w74, hr75, hst⟩ := hst.by_ [v71, .bool true] 1 (.bool true) sizeOf4 z (oC z oN) (by kernel_rfl)
 refine wl_unit z z (x_unit hr75) ?_
 refine wl_nil ?_
 replace hst := at_octet_Reader_close (pv := Pt b70 0) (x := ({ p := a0.p, bad := true } : octet_Reader)) hst ⟨z, f73⟩
 obtain rfl := some_inj hm
 refine post_end (vs := []) results68 rvs_nil ?_
 exact ⟨z, hst.keep1⟩
}

theorem octet_Reader_Num_ref {w0 w : World} {I : HL} {R : SP} {a0 : octet_Reader} {p0 : Value} {a1 : Int}  (hst : St w0 w I [at_octet_Reader p0 a0] R) {r : (Int × octet_Reader)} (hm : octet_Reader_Num a0 a1 = some r) :
  Calls prog 49 #[p0, I6 a1] w fun e w' => e = .returned (.int .u64 r.1) ∧ St w0 w' I [at_octet_Reader p0 r.2] R := by {
 unfold octet_Reader_Num at hm
 refine calls_start (args := [p0, I6 a1]) func49 z ntmps49 (Nat.le_of_ble_eq_true z) ?_
 refine wp_seq (wrl (wv (.int .u64 (0:Int)) z z z (wl_nil (tn (wp_seq (wp_seq (wrl (wv (p0) z z z ?_))))))))
 obtain ⟨b147, v148, ⟨rfl, f150⟩, hst'⟩ := at_octet_Reader_open hst
 clear hst
 have hst := hst'
 clear hst'
 refine wv (.bool false) z z (by kernel_rfl) (wv (.bool false) z z z (wv (Pt b147 0) ((wanted_eq z z z z).trans z) z z (wv (Pt b147 0) ((wanted_eq z z z z).trans z) z z (wv (Pt b147 1) ((wanted_eq z z z z).trans z) z (x_field z underlying110 z sizeOf4 z) (wv (.bool a0.bad) ((wanted_eq z z z z).trans z) z (x_load z isAgg4 (hst.bc0 z)) (wv (.bool a0.bad) z z (x_pick_f z z z) (wv (.bool a0.bad) z z z ?_)))))))
 refine bsplit a0.bad (fun hc151 => ?_) (fun hc151 => ?_)
 {
 replace hm := bif_t hc151 hm
 refine wo hc151 z z z z z z (wo hc151 z z z z z z (wv (.bool true) z z (x_pick_t hc151 z z) (wv (.bool true) z z z (wz z z z z z z (wz z z z z z z (wz z z z z z z (wz z z z z z z (wz z z z z z z (wz z z z z z z (wz z z z z z z (wv (.bool true) z z (x_pick_t z z z) (wl_nil (tn ?_)))))))))))))
 refine wp_ift z ?_
 refine wp_seq (wrl (wv (Pt b147 0) z z z ?_))
 replace hst := at_octet_Reader_close (pv := Pt b147 0) (x := a0) hst ⟨z, f150⟩
 obtain ⟨t152, ht153, hm⟩ := bind_some hm
 refine wc call68 [Pt b147 0] z z z ?_
 refine (octet_Reader_spoil_ref hst.to1 ht153).mono ?_
 rintro _ w154 ⟨rfl, hst⟩
 refine ⟨_, z, ?_⟩
 replace hst := hst.of1
 refine wl_nil (tn (wp_seq (wrl (wv (.int .u64 (0:Int)) z z z (wl_nil (tn (wp_ret (then_r ?_))))))))
 obtain rfl := some_inj hm
 refine post_ret (vs := [Zu]) results49 (rvs_cons (rv_tmp z) rvs_nil) ?_
 exact ⟨z, hst.keep1⟩
}
 {
 replace hm := bif_f hc151 hm
 refine wv (.int .i64 a1) ((wanted_eq z z z (cvb hc151)).trans z) z z (wv (.bool (decide (a1 < (0:Int)))) ((wanted_eq z z z (cvb hc151)).trans z) z z (wv (.bool (decide (a1 < (0:Int)))) z z (x_pick_f hc151 z z) (wv (.bool (decide (a1 < (0:Int)))) z z z ?_)))
 refine bsplit (decide (a1 < (0:Int))) (fun hc157 => ?_) (fun hc157 => ?_)
 {
 replace hm := bif_t hc157 hm
 refine wo hc157 z z z z z z (wo hc157 z z z z z z (wo hc157 z z z z z z (wo hc157 z z z z z z (wo hc157 z z z z z z (wo hc157 z z z z z z (wo hc157 z z z z z z (wv (.bool true) z z (x_pick_t hc157 z z) (wl_nil (tn ?_)))))))))
 refine wp_ift z ?_
 refine wp_seq (wrl (wv (Pt b147 0) z z z ?_))
 replace hst := at_octet_Reader_close (pv := Pt b147 0) (x := a0) hst ⟨z, f150⟩
 obtain ⟨t158, ht159, hm⟩ := bind_some hm
 refine wc call68 [Pt b147 0] z z z ?_
 refine (octet_Reader_spoil_ref hst.to1 ht159).mono ?_
 rintro _ w160 ⟨rfl, hst⟩
 refine ⟨_, z, ?_⟩
 replace hst := hst.of1
 refine wl_nil (tn (wp_seq (wrl (wv (.int .u64 (0:Int)) z z z (wl_nil (tn (wp_ret (then_r ?_))))))))
 obtain rfl := some_inj hm
 refine post_ret (vs := [Zu]) results49 (rvs_cons (rv_tmp z) rvs_nil) ?_
 exact ⟨z, hst.keep1⟩
}
 {
 replace hm := bif_f hc157 hm
 refine wv (Pt b147 0) ((wanted_eq z z z (cvb hc157)).trans z) z z (wv (Pt b147 0) ((wanted_eq z z z (cvb hc157)).trans z) z z (wv (Pt b147 0) ((wanted_eq z z z (cvb hc157)).trans z) z (x_field z underlying110 z sizeOf32 z) (wv (v148) ((wanted_eq z z z (cvb hc157)).trans z) z (x_load z isAgg32 (hst.bc0 z)) (wv (.int .i64 ((a0.p).length : Int)) ((wanted_eq z z z (cvb hc157)).trans z) z (x_len z underlying32 (ro_sliceV f150)) (wv (.int .i64 a1) ((wanted_eq z z z (cvb hc157)).trans z) z z (wv (.bool (decide (((a0.p).length : Int) < a1))) ((wanted_eq z z z (cvb hc157)).trans z) z z (wv (.bool (decide (((a0.p).length : Int) < a1))) z z (x_pick_f hc157 z z) (wl_nil (tn ?_)))))))))
 refine bsplit (decide (((a0.p).length : Int) < a1)) (fun hc163 => ?_) (fun hc163 => ?_)
 {
 replace hm := bif_t hc163 hm
 refine wp_ift (cvb hc163) ?_
 refine wp_seq (wrl (wv (Pt b147 0) z z z ?_))
 replace hst := at_octet_Reader_close (pv := Pt b147 0) (x := a0) hst ⟨z, f150⟩
 obtain ⟨t164, ht165, hm⟩ := bind_some hm
 refine wc call68 [Pt b147 0] z z z ?_
 refine (octet_Reader_spoil_ref hst.to1 ht165).mono ?_
 rintro _ w166 ⟨rfl, hst⟩
 refine ⟨_, z, ?_⟩
 replace hst := hst.of1
 refine wl_nil (tn (wp_seq (wrl (wv (.int .u64 (0:Int)) z z z (wl_nil (tn (wp_ret (then_r ?_))))))))
 obtain rfl := some_inj hm
 refine post_ret (vs := [Zu]) results49 (rvs_cons (rv_tmp z) rvs_nil) ?_
 exact ⟨z, hst.keep1⟩
}
 {
 replace hm := bif_f hc163 hm
 refine wp_iff (cvb hc163) ?_
 refine wp_skip (tn (wp_seq (wrl ?_)))
 refine wv (.int .u64 (0:Int)) z z z (wl_nil (tn ?_))
 obtain ⟨y220, hm, hx221⟩ := bind_some hm
 refine wp_cut (fun a w => ∃ (z217 : Int) (σ218 : Nat → Value), (octet_Reader_Num_j0 a0 a1) z217 = some r ∧ a = Fr 59 (upd (upd (upd σ218 0 (Pt b147 0)) 1 (.int .i64 a1)) 5 (.int .u64 z217)) ∧ St w0 w I [at_octet_Reader (Pt b147 0) a0] R) ?_ ?_
 {
 refine wp_seq (wrl (wv (.int .i64 a1) z z z (wv (.int .i64 (if (8:Int) < a1 then (8:Int) else a1)) z z (by kernel_rfl) (wv (.int .i64 (0:Int)) z z z (wl_nil (tn (wp_block ?_)))))))
 replace hst := at_octet_Reader_close (pv := Pt b147 0) (x := a0) hst ⟨z, f150⟩
 obtain ⟨n198, hm⟩ := loopO_some hm
 refine wp_loop_n (fun n a w => ∃ (z195 : Int) (z196 : Int) (σ197 : Nat → Value), loopN (octet_Reader_Num_l1 a1 a0) n (z195, z196) = some y220 ∧ a = Fr 59 (upd (upd (upd (upd (upd σ197 0 (Pt b147 0)) 1 (.int .i64 a1)) 5 (.int .u64 z196)) 31 (.int .i64 (if (8:Int) < a1 then (8:Int) else a1))) 32 (.int .i64 z195)) ∧ St w0 w I [at_octet_Reader (Pt b147 0) a0] R) n198 ⟨(0:Int), (0:Int), _, hm, (fu 0 (Pt b147 0) z (fu 1 (.int .i64 a1) z (fu 5 (.int .u64 (0:Int)) z (fu 31 (.int .i64 (if (8:Int) < a1 then (8:Int) else a1)) z (fu 32 (.int .i64 (0:Int)) z z))))), hst⟩ ?_
 rintro n204 _ w199 ⟨z195, z196, σ197, hm, rfl, hst⟩
 obtain ⟨n201, y202, rfl, hm, hx203⟩ := loopN_some hm
 dsimp only [octet_Reader_Num_l1] at hm
 refine wp_seq (wrl (wv (.bool (decide (z195 < (if (8:Int) < a1 then (8:Int) else a1)))) z z z (wl_nil (tn (wp_seq ?_)))))
 refine bsplit (decide (z195 < (if (8:Int) < a1 then (8:Int) else a1))) (fun hc205 => ?_) (fun hc205 => ?_)
 {
 replace hm := bif_t hc205 hm
 refine wp_ift (cvb hc205) ?_
 refine wp_skip (tn (wp_seq (wp_block (wp_seq (wrl ?_)))))
 refine wv (.int .i64 z195) z z z (wv (.int .i64 z195) z z z (wl_nil (tn (wrl (wv (.int .u64 z196) z z z (wv (Pt b147 0) z z z ?_))))))
 obtain ⟨b206, v207, ⟨e210, f209⟩, hst'⟩ := at_octet_Reader_open hst
 clear hst
 have e210 := ptr_inj e210
 subst e210
 have hst := hst'
 clear hst'
 refine wv (Pt b147 0) z z z (wv (Pt b147 0) z z (x_field z underlying110 z sizeOf32 z) (wv (v207) z z (x_load z isAgg32 (hst.bc0 z)) (wv (.int .i64 z195) z z z ?_)))
 obtain ⟨x211, hx212, hm⟩ := bind_some hm
 obtain ⟨h213, h214, hi215⟩ := geto_some hx212
 refine wv (.pointer (some (eAddr v207 (z195.toNat * 1 + 0)))) z z (x_index z z underlying32 sizeOf5 (ro_sliceV f209) h213 h214) (wv (.int .u8 x211) z z (x_load z isAgg5 (ro_load f209 hst hi215 (by rintro _ rfl; rfl))) (wv (.int .u64 (u64.wrap x211)) z z (by kernel_rfl) (wv (.int .i64 z195) z z z (wv (.int .i64 (i64.wrap ((8:Int) * z195))) z z z ?_))))
 obtain ⟨hg216, hm⟩ := gd_some hm
 refine wv (.int .u64 (iShl .u64 (u64.wrap x211) (i64.wrap ((8:Int) * z195)))) z z (x_shl (of_decide_eq_true hg216) z z) (wv (.int .u64 (bOr .u64 z196 (iShl .u64 (u64.wrap x211) (i64.wrap ((8:Int) * z195))))) z z z (wv (.int .u64 (bOr .u64 z196 (iShl .u64 (u64.wrap x211) (i64.wrap ((8:Int) * z195))))) z z z (wl_nil (blk_n (tn (wrl (wv (.int .i64 (i64.wrap (z195 + (1:Int)))) z z z (wv (.int .i64 (i64.wrap (z195 + (1:Int)))) z z z (wl_nil (tn ?_))))))))))
 replace hst := at_octet_Reader_close (pv := Pt b147 0) (x := a0) hst ⟨z, f209⟩
 replace hst := hst.keep1
 obtain rfl := some_inj hm
 exact ⟨_, Nat.lt_succ_self _, (i64.wrap (z195 + (1:Int))), (bOr .u64 z196 (iShl .u64 (u64.wrap x211) (i64.wrap ((8:Int) * z195)))), _, hx203, (fu 0 (Pt b147 0) z (fu 1 (.int .i64 a1) z (fu 5 (.int .u64 (bOr .u64 z196 (iShl .u64 (u64.wrap x211) (i64.wrap ((8:Int) * z195))))) z (fu 31 (.int .i64 (if (8:Int) < a1 then (8:Int) else a1)) z (fu 32 (.int .i64 (i64.wrap (z195 + (1:Int)))) z z))))), hst⟩
}
 {
 replace hm := bif_f hc205 hm
 refine wp_iff (cvb hc205) ?_
 refine wp_exit (then_x (then_x ?_))
 replace hm := inr_up hm hx203
 refine blk_x (tn ?_)
 replace hst := hst.keep1
 obtain rfl := some_inj hm
 exact ⟨z196, _, hx221, (fu 0 (Pt b147 0) z (fu 1 (.int .i64 a1) z (fu 5 (.int .u64 z196) z z))), hst⟩
}
}
 {
 clear hst
 rintro _ w222 ⟨z217, σ218, hm, rfl, hst⟩
 dsimp only [octet_Reader_Num_j0] at hm
 refine wp_seq (wrl (wv (Pt b147 0) z z z (wv (Pt b147 0) z z z ?_)))
 obtain ⟨b223, v224, ⟨e227, f226⟩, hst'⟩ := at_octet_Reader_open hst
 clear hst
 have e227 := ptr_inj e227
 subst e227
 have hst := hst'
 clear hst'
 refine wv (Pt b147 0) z z z (wv (Pt b147 0) z z (x_field z underlying110 z sizeOf32 z) (wv (v224) z z (x_load z isAgg32 (hst.bc0 z)) (wv (.int .i64 a1) z z z ?_)))
 obtain ⟨hg228, hm⟩ := gd_some hm
 obtain ⟨h229, h230, h231⟩ := fits_of hg228
 have f233 : Ro (tyInt .u8) I (slcV 1 v224 a1.toNat (((a0.p).length : Nat) : Int).toNat) (subs a0.p a1 (((a0.p).length : Nat) : Int)) := Ro.part f226 h230 h231 h229
 refine wv ((slcV 1 v224 a1.toNat (((a0.p).length : Nat) : Int).toNat)) z z (x_slice underlying32 sizeOf5 z (ro_sliceV f226) h229 h230 h231 .i64 .i64 (.inl z) (.inr ⟨z, z⟩)) (wv (Pt b147 0) z z z (wv (Pt b147 0) z z (x_field z underlying110 z sizeOf32 z) ?_))
 obtain ⟨w234, hr235, hst⟩ := hst.boxStore1 (P := prog) (t := 32) (cs' := [(slcV 1 v224 a1.toNat (((a0.p).length : Nat) : Int).toNat), .bool a0.bad]) 0 (slcV 1 v224 a1.toNat (((a0.p).length : Nat) : Int).toNat) (one_of_sliceV (ro_sliceV f233)) sizeOf32 z z
 refine wl_unit z z (x_unit hr235) ?_
 refine wl_nil (tn (wp_seq (wrl (wv (.int .u64 z217) z z z (wv (.int .u64 z217) z z z (wl_nil (tn (wp_ret ?_))))))))
 replace hst := at_octet_Reader_close (pv := Pt b147 0) (x := ({ p := (subs a0.p a1 (((a0.p).length : Nat) : Int)), bad := a0.bad } : octet_Reader)) hst ⟨z, f233⟩
 obtain rfl := some_inj hm
 refine post_ret (vs := [U6 z217]) results49 (rvs_cons (rv_tmp z) rvs_nil) ?_
 exact ⟨z, hst.keep1⟩
}
}
}
}
}

theorem octet_Reader_Count_ref {w0 w : World} {I : HL} {R : SP} {a0 : octet_Reader} {p0 : Value} {a1 : Int}  (hst : St w0 w I [at_octet_Reader p0 a0] R) {r : (Int × octet_Reader)} (hm : octet_Reader_Count a0 a1 = some r) :
  Calls prog 47 #[p0, I6 a1] w fun e w' => e = .returned (.int .i64 r.1) ∧ St w0 w' I [at_octet_Reader p0 r.2] R := by {
 unfold octet_Reader_Count at hm
 refine calls_start (args := [p0, I6 a1]) func47 z ntmps47 (Nat.le_of_ble_eq_true z) ?_
 refine wp_seq (wrl (wv (.int .i64 (0:Int)) z z z (wl_nil (tn (wp_seq (wrl (wv (p0) z z z ?_)))))))
 obtain ⟨t74, ht75, hm⟩ := bind_some hm
 refine wc call49 [p0, I6 (4:Int)] z z z ?_
 refine (octet_Reader_Num_ref hst.to1 ht75).mono ?_
 rintro _ w76 ⟨rfl, hst⟩
 refine ⟨_, z, ?_⟩
 replace hst := hst.of1
 refine wv (.int .u64 t74.1) z z z (wl_nil (tn (wp_seq (wp_seq (wrl (wv (.int .i64 a1) z z z (wv (.bool (decide (a1 < (0:Int)))) z z z (wv (.bool (decide (a1 < (0:Int)))) z z z ?_))))))))
 refine bsplit (decide (a1 < (0:Int))) (fun hc79 => ?_) (fun hc79 => ?_)
 {
 replace hm := bif_t hc79 hm
 refine wo hc79 z z z z z z (wo hc79 z z z z z z (wo hc79 z z z z z z (wo hc79 z z z z z z (wv (.bool true) z z (x_pick_t hc79 z z) (wl_nil (tn ?_))))))
 refine wp_ift z ?_
 refine wp_seq (wrl (wv (p0) z z z ?_))
 obtain ⟨t80, ht81, hm⟩ := bind_some hm
 refine wc call68 [p0] z z z ?_
 refine (octet_Reader_spoil_ref hst.to1 ht81).mono ?_
 rintro _ w82 ⟨rfl, hst⟩
 refine ⟨_, z, ?_⟩
 replace hst := hst.of1
 refine wl_nil (tn (wp_seq (wrl (wv (.int .i64 (0:Int)) z z z (wl_nil (tn (wp_ret (then_r ?_))))))))
 obtain rfl := some_inj hm
 refine post_ret (vs := [Zi]) results47 (rvs_cons (rv_tmp z) rvs_nil) ?_
 exact ⟨z, hst.keep1⟩
}
 {
 replace hm := bif_f hc79 hm
 refine wv (.int .u64 t74.1) ((wanted_eq z z z (cvb hc79)).trans z) z z (wv (.int .i64 a1) ((wanted_eq z z z (cvb hc79)).trans z) z z (wv (.int .u64 (u64.wrap a1)) ((wanted_eq z z z (cvb hc79)).trans z) z (by kernel_rfl) (wv (.bool (decide (t74.1 > (u64.wrap a1)))) ((wanted_eq z z z (cvb hc79)).trans z) z z (wv (.bool (decide (t74.1 > (u64.wrap a1)))) z z (x_pick_f hc79 z z) (wl_nil (tn ?_))))))
 refine bsplit (decide (t74.1 > (u64.wrap a1))) (fun hc85 => ?_) (fun hc85 => ?_)
 {
 replace hm := bif_t hc85 hm
 refine wp_ift (cvb hc85) ?_
 refine wp_seq (wrl (wv (p0) z z z ?_))
 obtain ⟨t86, ht87, hm⟩ := bind_some hm
 refine wc call68 [p0] z z z ?_
 refine (octet_Reader_spoil_ref hst.to1 ht87).mono ?_
 rintro _ w88 ⟨rfl, hst⟩
 refine ⟨_, z, ?_⟩
 replace hst := hst.of1
 refine wl_nil (tn (wp_seq (wrl (wv (.int .i64 (0:Int)) z z z (wl_nil (tn (wp_ret (then_r ?_))))))))
 obtain rfl := some_inj hm
 refine post_ret (vs := [Zi]) results47 (rvs_cons (rv_tmp z) rvs_nil) ?_
 exact ⟨z, hst.keep1⟩
}
 {
 replace hm := bif_f hc85 hm
 refine wp_iff (cvb hc85) ?_
 refine wp_skip (tn (wp_seq (wrl ?_)))
 refine wv (.int .u64 t74.1) z z z (wv (.int .i64 (i64.wrap t74.1)) z z (by kernel_rfl) (wv (.int .i64 (i64.wrap t74.1)) z z z (wl_nil (tn (wp_ret ?_)))))
 obtain rfl := some_inj hm
 refine post_ret (vs := [I6 (i64.wrap t74.1)]) results47 (rvs_cons (rv_tmp z) rvs_nil) ?_
 exact ⟨z, hst.keep1⟩
}
}
}

theorem octet_Reader_Flag_ref {w0 w : World} {I : HL} {R : SP} {a0 : octet_Reader} {p0 : Value}  (hst : St w0 w I [at_octet_Reader p0 a0] R) {r : (Bool × octet_Reader)} (hm : octet_Reader_Flag a0 = some r) :
  Calls prog 50 #[p0] w fun e w' => e = .returned (.bool r.1) ∧ St w0 w' I [at_octet_Reader p0 r.2] R := by {
 unfold octet_Reader_Flag at hm
 refine calls_start (args := [p0]) func50 z ntmps50 (Nat.le_of_ble_eq_true z) ?_
 refine wp_seq (wrl (wv (.bool false) z z z (wl_nil (tn (wp_seq (wrl (wv (p0) z z z ?_)))))))
 obtain ⟨t99, ht100, hm⟩ := bind_some hm
 refine wc call49 [p0, I6 (1:Int)] z z z ?_
 refine (octet_Reader_Num_ref hst.to1 ht100).mono ?_
 rintro _ w101 ⟨rfl, hst⟩
 refine ⟨_, z, ?_⟩
 replace hst := hst.of1
 refine wv (.int .u64 t99.1) z z z (wl_nil (tn (wp_seq (wp_seq (wrl (wv (.int .u64 t99.1) z z z (wv (.bool (decide (t99.1 > (1:Int)))) z z z (wl_nil (tn ?_)))))))))
 refine bsplit (decide (t99.1 > (1:Int))) (fun hc104 => ?_) (fun hc104 => ?_)
 {
 replace hm := bif_t hc104 hm
 refine wp_ift (cvb hc104) ?_
 refine wp_seq (wrl (wv (p0) z z z ?_))
 obtain ⟨t105, ht106, hm⟩ := bind_some hm
 refine wc call68 [p0] z z z ?_
 refine (octet_Reader_spoil_ref hst.to1 ht106).mono ?_
 rintro _ w107 ⟨rfl, hst⟩
 refine ⟨_, z, ?_⟩
 replace hst := hst.of1
 refine wl_nil (tn (wp_seq (wrl (wv (.bool false) z z z (wl_nil (tn (wp_ret (then_r ?_))))))))
 obtain rfl := some_inj hm
 refine post_ret (vs := [.bool false]) results50 (rvs_cons (rv_tmp z) rvs_nil) ?_
 exact ⟨z, hst.keep1⟩
}
 {
 replace hm := bif_f hc104 hm
 refine wp_iff (cvb hc104) ?_
 refine wp_skip (tn (wp_seq (wrl ?_)))
 refine wv (.int .u64 t99.1) z z z (wv (.bool (t99.1 == (1:Int))) z z z (wv (.bool (t99.1 == (1:Int))) z z z (wl_nil (tn (wp_ret ?_)))))
 obtain rfl := some_inj hm
 refine post_ret (vs := [.bool (t99.1 == (1:Int))]) results50 (rvs_cons (rv_tmp z) rvs_nil) ?_
 exact ⟨z, hst.keep1⟩
}
}

theorem octet_Reader_Bytes_ref {w0 w : World} {I : HL} {R : SP} {a0 : octet_Reader} {p0 : Value} {a1 : Int}  (hst : St w0 w I [at_octet_Reader p0 a0] R) {r : ((List Int) × octet_Reader)} (hm : octet_Reader_Bytes a0 a1 = some r) :
  Calls prog 51 #[p0, I6 a1] w fun e w' => ∃ (q0_0 : Value), e = .returned (q0_0) ∧ St w0 w' I [ownS (tyInt .u8) q0_0 r.1, at_octet_Reader p0 r.2] R := by {
 unfold octet_Reader_Bytes at hm
 refine calls_start (args := [p0, I6 a1]) func51 z ntmps51 (Nat.le_of_ble_eq_true z) ?_
 refine wp_seq (wrl (wv ((.slice none 0 0)) z z z (wl_nil (tn (wp_seq (wrl (wv (p0) z z z ?_)))))))
 obtain ⟨t147, ht148, hm⟩ := bind_some hm
 refine wc call49 [p0, I6 (4:Int)] z z z ?_
 refine (octet_Reader_Num_ref hst.to1 ht148).mono ?_
 rintro _ w149 ⟨rfl, hst⟩
 refine ⟨_, z, ?_⟩
 replace hst := hst.of1
 refine wv (.int .u64 t147.1) z z z (wl_nil (tn (wp_seq (wp_seq (wrl (wv (p0) z z z ?_))))))
 obtain ⟨b152, v153, ⟨rfl, f155⟩, hst'⟩ := at_octet_Reader_open hst
 clear hst
 have hst := hst'
 clear hst'
 refine wv (.bool false) z z (by kernel_rfl) (wv (.bool false) z z z (wv (Pt b152 0) ((wanted_eq z z z z).trans z) z z (wv (Pt b152 0) ((wanted_eq z z z z).trans z) z z (wv (Pt b152 1) ((wanted_eq z z z z).trans z) z (x_field z underlying110 z sizeOf4 z) (wv (.bool t147.2.bad) ((wanted_eq z z z z).trans z) z (x_load z isAgg4 (hst.bc0 z)) (wv (.bool t147.2.bad) z z (x_pick_f z z z) (wv (.bool t147.2.bad) z z z ?_)))))))
 refine bsplit t147.2.bad (fun hc156 => ?_) (fun hc156 => ?_)
 {
 replace hm := bif_t hc156 hm
 refine wo hc156 z z z z z z (wo hc156 z z z z z z (wv (.bool true) z z (x_pick_t hc156 z z) (wv (.bool true) z z z (wz z z z z z z (wz z z z z z z (wz z z z z z z (wz z z z z z z (wv (.bool true) z z (x_pick_t z z z) (wv (.bool true) z z z (wz z z z z z z (wz z z z z z z (wz z z z z z z ?_))))))))))))
 refine wz z z z z z z (wz z z z z z z (wz z z z z z z (wz z z z z z z (wz z z z z z z (wv (.bool true) z z (x_pick_t z z z) (wl_nil (tn ?_)))))))
 refine wp_ift z ?_
 refine wp_seq (wrl (wv (Pt b152 0) z z z ?_))
 replace hst := at_octet_Reader_close (pv := Pt b152 0) (x := t147.2) hst ⟨z, f155⟩
 obtain ⟨t157, ht158, hm⟩ := bind_some hm
 refine wc call68 [Pt b152 0] z z z ?_
 refine (octet_Reader_spoil_ref hst.to1 ht158).mono ?_
 rintro _ w159 ⟨rfl, hst⟩
 refine ⟨_, z, ?_⟩
 replace hst := hst.of1
 refine wl_nil (tn (wp_seq (wrl (wv ((.slice none 0 0)) z z z (wl_nil (tn (wp_ret (then_r ?_))))))))
 replace hst := hst.own_nil (tyInt .u8)
 obtain rfl := some_inj hm
 refine post_ret (vs := [Zs]) results51 (rvs_cons (rv_tmp z) rvs_nil) ?_
 replace hst := hst.pull1.pull1
 exact ⟨(.slice none 0 0), z, hst.keep2⟩
}
 {
 replace hm := bif_f hc156 hm
 refine wv (.int .i64 a1) ((wanted_eq z z z (cvb hc156)).trans z) z z (wv (.bool (decide (a1 < (0:Int)))) ((wanted_eq z z z (cvb hc156)).trans z) z z (wv (.bool (decide (a1 < (0:Int)))) z z (x_pick_f hc156 z z) (wv (.bool (decide (a1 < (0:Int)))) z z z ?_)))
 refine bsplit (decide (a1 < (0:Int))) (fun hc163 => ?_) (fun hc163 => ?_)
 {
 replace hm := bif_t hc163 hm
 refine wo hc163 z z z z z z (wo hc163 z z z z z z (wo hc163 z z z z z z (wo hc163 z z z z z z (wv (.bool true) z z (x_pick_t hc163 z z) (wv (.bool true) z z z (wz z z z z z z (wz z z z z z z (wz z z z z z z (wz z z z z z z (wz z z z z z z (wz z z z z z z (wz z z z z z z ?_))))))))))))
 refine wz z z z z z z (wv (.bool true) z z (x_pick_t z z z) (wl_nil (tn ?_)))
 refine wp_ift z ?_
 refine wp_seq (wrl (wv (Pt b152 0) z z z ?_))
 replace hst := at_octet_Reader_close (pv := Pt b152 0) (x := t147.2) hst ⟨z, f155⟩
 obtain ⟨t164, ht165, hm⟩ := bind_some hm
 refine wc call68 [Pt b152 0] z z z ?_
 refine (octet_Reader_spoil_ref hst.to1 ht165).mono ?_
 rintro _ w166 ⟨rfl, hst⟩
 refine ⟨_, z, ?_⟩
 replace hst := hst.of1
 refine wl_nil (tn (wp_seq (wrl (wv ((.slice none 0 0)) z z z (wl_nil (tn (wp_ret (then_r ?_))))))))
 replace hst := hst.own_nil (tyInt .u8)
 obtain rfl := some_inj hm
 refine post_ret (vs := [Zs]) results51 (rvs_cons (rv_tmp z) rvs_nil) ?_
 replace hst := hst.pull1.pull1
 exact ⟨(.slice none 0 0), z, hst.keep2⟩
}
 {
 replace hm := bif_f hc163 hm
 refine wv (.int .u64 t147.1) ((wanted_eq z z z (cvb hc163)).trans z) z z (wv (.int .i64 a1) ((wanted_eq z z z (cvb hc163)).trans z) z z (wv (.int .u64 (u64.wrap a1)) ((wanted_eq z z z (cvb hc163)).trans z) z (by kernel_rfl) (wv (.bool (decide (t147.1 > (u64.wrap a1)))) ((wanted_eq z z z (cvb hc163)).trans z) z z (wv (.bool (decide (t147.1 > (u64.wrap a1)))) z z (x_pick_f hc163 z z) (wv (.bool (decide (t147.1 > (u64.wrap a1)))) z z z ?_)))))
 refine bsplit (decide (t147.1 > (u64.wrap a1))) (fun hc170 => ?_) (fun hc170 => ?_)
 {
 replace hm := bif_t hc170 hm
 refine wo hc170 z z z z z z (wo hc170 z z z z z z (wo hc170 z z z z z z (wo hc170 z z z z z z (wo hc170 z z z z z z (wo hc170 z z z z z z (wo hc170 z z z z z z (wo hc170 z z z z z z (wv (.bool true) z z (x_pick_t hc170 z z) (wl_nil (tn ?_))))))))))
 refine wp_ift z ?_
 refine wp_seq (wrl (wv (Pt b152 0) z z z ?_))
 replace hst := at_octet_Reader_close (pv := Pt b152 0) (x := t147.2) hst ⟨z, f155⟩
 obtain ⟨t171, ht172, hm⟩ := bind_some hm
 refine wc call68 [Pt b152 0] z z z ?_
 refine (octet_Reader_spoil_ref hst.to1 ht172).mono ?_
 rintro _ w173 ⟨rfl, hst⟩
 refine ⟨_, z, ?_⟩
 replace hst := hst.of1
 refine wl_nil (tn (wp_seq (wrl (wv ((.slice none 0 0)) z z z (wl_nil (tn (wp_ret (then_r ?_))))))))
 replace hst := hst.own_nil (tyInt .u8)
 obtain rfl := some_inj hm
 refine post_ret (vs := [Zs]) results51 (rvs_cons (rv_tmp z) rvs_nil) ?_
 replace hst := hst.pull1.pull1
 exact ⟨(.slice none 0 0), z, hst.keep2⟩
}
 {
 replace hm := bif_f hc170 hm
 refine wv (.int .u64 t147.1) ((wanted_eq z z z (cvb hc170)).trans z) z z (wv (Pt b152 0) ((wanted_eq z z z (cvb hc170)).trans z) z z (wv (Pt b152 0) ((wanted_eq z z z (cvb hc170)).trans z) z z (wv (Pt b152 0) ((wanted_eq z z z (cvb hc170)).trans z) z (x_field z underlying110 z sizeOf32 z) (wv (v153) ((wanted_eq z z z (cvb hc170)).trans z) z (x_load z isAgg32 (hst.bc0 z)) (wv (.int .i64 ((t147.2.p).length : Int)) ((wanted_eq z z z (cvb hc170)).trans z) z (x_len z underlying32 (ro_sliceV f155)) (wv (.int .u64 (u64.wrap ((t147.2.p).length : Int))) ((wanted_eq z z z (cvb hc170)).trans z) z (by kernel_rfl) (wv (.bool (decide (t147.1 > (u64.wrap ((t147.2.p).length : Int))))) ((wanted_eq z z z (cvb hc170)).trans z) z z (wv (.bool (decide (t147.1 > (u64.wrap ((t147.2.p).length : Int))))) z z (x_pick_f hc170 z z) (wl_nil (tn ?_))))))))))
 refine bsplit (decide (t147.1 > (u64.wrap ((t147.2.p).length : Int)))) (fun hc177 => ?_) (fun hc177 => ?_)
 {
 replace hm := bif_t hc177 hm
 refine wp_ift (cvb hc177) ?_
 refine wp_seq (wrl (wv (Pt b152 0) z z z ?_))
 replace hst := at_octet_Reader_close (pv := Pt b152 0) (x := t147.2) hst ⟨z, f155⟩
 obtain ⟨t178, ht179, hm⟩ := bind_some hm
 refine wc call68 [Pt b152 0] z z z ?_
 refine (octet_Reader_spoil_ref hst.to1 ht179).mono ?_
 rintro _ w180 ⟨rfl, hst⟩
 refine ⟨_, z, ?_⟩
 replace hst := hst.of1
 refine wl_nil (tn (wp_seq (wrl (wv ((.slice none 0 0)) z z z (wl_nil (tn (wp_ret (then_r ?_))))))))
 replace hst := hst.own_nil (tyInt .u8)
 obtain rfl := some_inj hm
 refine post_ret (vs := [Zs]) results51 (rvs_cons (rv_tmp z) rvs_nil) ?_
 replace hst := hst.pull1.pull1
 exact ⟨(.slice none 0 0), z, hst.keep2⟩
}
 {
 replace hm := bif_f hc177 hm
 refine wp_iff (cvb hc177) ?_
 refine wp_skip (tn (wp_seq (wrl ?_)))
 refine wv (Pt b152 0) z z z (wv (Pt b152 0) z z z (wv (Pt b152 0) z z (x_field z underlying110 z sizeOf32 z) (wv (v153) z z (x_load z isAgg32 (hst.bc0 z)) (wv (.int .u64 t147.1) z z z ?_))))
 obtain ⟨hg184, hm⟩ := gd_some hm
 obtain ⟨h185, h186, h187⟩ := fits_of hg184
 have f189 : Ro (tyInt .u8) I (slcV 1 v153 (0:Int).toNat t147.1.toNat) (subs t147.2.p (0:Int) t147.1) := Ro.part f155 h186 h187 h185
 refine wv ((slcV 1 v153 (0:Int).toNat t147.1.toNat)) z z (x_slice underlying32 sizeOf5 z (ro_sliceV f155) h185 h186 h187 .i64 .u64 (.inr ⟨z, z⟩) (.inl z)) ?_
 replace hst := hst.own_nil (tyInt .u8)
 obtain ⟨hg191, hm⟩ := gd_some hm
 obtain ⟨v192, w193, hr194, hst⟩ := run_append elem_32 underlying32 hst (Src.of_ro hst f189) (room_of hg191 z) 32
 replace hst := St.nil_app hst
 refine wl_run (v := v192) (w' := w193) z z (x_append z z hr194) ?_
 refine wv (v192) z z z (wl_nil (tn (wp_seq (wrl (wv (Pt b152 0) z z z (wv (Pt b152 0) z z z (wv (Pt b152 0) z z z (wv (Pt b152 0) z z (x_field z underlying110 z sizeOf32 z) (wv (v153) z z (x_load z isAgg32 (hst.bc1 z)) (wv (.int .u64 t147.1) z z z ?_))))))))))
 obtain ⟨hg196, hm⟩ := gd_some hm
 obtain ⟨h197, h198, h199⟩ := fits_of hg196
 have f201 : Ro (tyInt .u8) I (slcV 1 v153 t147.1.toNat (((t147.2.p).length : Nat) : Int).toNat) (subs t147.2.p t147.1 (((t147.2.p).length : Nat) : Int)) := Ro.part f155 h198 h199 h197
 refine wv ((slcV 1 v153 t147.1.toNat (((t147.2.p).length : Nat) : Int).toNat)) z z (x_slice underlying32 sizeOf5 z (ro_sliceV f155) h197 h198 h199 .u64 .i64 (.inl z) (.inr ⟨z, z⟩)) (wv (Pt b152 0) z z z (wv (Pt b152 0) z z (x_field z underlying110 z sizeOf32 z) ?_))
 replace hst := hst.pull1
 obtain ⟨w202, hr203, hst⟩ := hst.boxStore1 (P := prog) (t := 32) (cs' := [(slcV 1 v153 t147.1.toNat (((t147.2.p).length : Nat) : Int).toNat), .bool t147.2.bad]) 0 (slcV 1 v153 t147.1.toNat (((t147.2.p).length : Nat) : Int).toNat) (one_of_sliceV (ro_sliceV f201)) sizeOf32 z z
 refine wl_unit z z (x_unit hr203) ?_
 refine wl_nil (tn (wp_seq (wrl (wv (v192) z z z (wv (v192) z z z (wl_nil (tn (wp_ret ?_))))))))
 replace hst := at_octet_Reader_close (pv := Pt b152 0) (x := ({ p := (subs t147.2.p t147.1 (((t147.2.p).length : Nat) : Int)), bad := t147.2.bad } : octet_Reader)) hst ⟨z, f201⟩
 obtain rfl := some_inj hm
 refine post_ret (vs := [v192]) results51 (rvs_cons (rv_tmp z) rvs_nil) ?_
 replace hst := hst.pull1
 exact ⟨v192, z, hst.keep2⟩
}
}
}
}
}

theorem octet_Reader_End_ref {w0 w : World} {I : HL} {R : SP} {a0 : octet_Reader} {p0 : Value}  (hst : St w0 w I [at_octet_Reader p0 a0] R) {r : (Bool)} (hm : octet_Reader_End a0 = some r) :
  Calls prog 52 #[p0] w fun e w' => e = .returned (.bool r) ∧ St w0 w' I [at_octet_Reader p0 a0] R := by {
 unfold octet_Reader_End at hm
 refine calls_start (args := [p0]) func52 z ntmps52 (Nat.le_of_ble_eq_true z) ?_
 refine wp_seq (wrl (wv (.bool false) z z z (wl_nil (tn (wp_seq (wrl (wv (p0) z z z ?_)))))))
 obtain ⟨t792, ht793, hm⟩ := bind_some hm
 refine wc call69 [p0] z z z ?_
 refine (octet_Reader_Bad_ref hst.to1 ht793).mono ?_
 rintro _ w794 ⟨rfl, hst⟩
 refine ⟨_, z, ?_⟩
 replace hst := hst.of1
 refine wv (.bool (!t792)) z z z (wv (.bool (!t792)) z z z ?_)
 refine bsplit (!t792) (fun hc797 => ?_) (fun hc797 => ?_)
 {
 replace hm := bif_t hc797 hm
 refine wv (p0) ((wanted_eq z z z (cvb hc797)).trans z) z z ?_
 obtain ⟨b798, v799, ⟨rfl, f801⟩, hst'⟩ := at_octet_Reader_open hst
 clear hst
 have hst := hst'
 clear hst'
 refine wv (Pt b798 0) ((wanted_eq z z z (cvb hc797)).trans z) z z (wv (Pt b798 0) ((wanted_eq z z z (cvb hc797)).trans z) z (x_field z underlying110 z sizeOf32 z) (wv (v799) ((wanted_eq z z z (cvb hc797)).trans z) z (x_load z isAgg32 (hst.bc0 z)) (wv (.int .i64 ((a0.p).length : Int)) ((wanted_eq z z z (cvb hc797)).trans z) z (x_len z underlying32 (ro_sliceV f801)) (wv (.bool (((a0.p).length : Int) == (0:Int))) ((wanted_eq z z z (cvb hc797)).trans z) z z (wv (.bool (((a0.p).length : Int) == (0:Int))) z z (x_pick_t hc797 z z) (wv (.bool (((a0.p).length : Int) == (0:Int))) z z z (wl_nil (tn (wp_ret ?_)))))))))
 replace hst := at_octet_Reader_close (pv := Pt b798 0) (x := a0) hst ⟨z, f801⟩
 obtain rfl := some_inj hm
 refine post_ret (vs := [.bool (((a0.p).length : Int) == (0:Int))]) results52 (rvs_cons (rv_tmp z) rvs_nil) ?_
 exact ⟨z, hst.keep1⟩
}
 {
 replace hm := bif_f hc797 hm
 refine wo hc797 z z z z z z (wo hc797 z z z z z z (wo hc797 z z z z z z (wo hc797 z z z z z z (wo hc797 z z z z z z (wo hc797 z z z z z z (wv (.bool false) z z (x_pick_f hc797 z z) (wv (.bool false) z z z (wl_nil (tn (wp_ret ?_))))))))))
 obtain rfl := some_inj hm
 refine post_ret (vs := [.bool false]) results52 (rvs_cons (rv_tmp z) rvs_nil) ?_
 exact ⟨z, hst.keep1⟩
}
}

theorem number_Back_ref {w0 w : World} {I : HL} {R : SP} {a0 : Int}  (hst : St w0 w I [] R) {r : (Nat)} (hm : number_Back a0 = some r) :
  Calls prog 35 #[U6 a0] w fun e w' => e = .returned (.float .f64 r) ∧ St w0 w' I [] R := by {
 unfold number_Back at hm
 refine calls_start (args := [U6 a0]) func35 z ntmps35 (Nat.le_of_ble_eq_true z) ?_
 refine wp_seq (wrl (wv (.float .f64 (0:Nat)) z z z (wl_nil (tn (wp_seq (wp_seq (wrl (wv (.int .u64 a0) z z z (wv (.int .u64 (iShr .u64 a0 (63:Int))) z z (x_shr (by decide) z z) (wv (.bool ((iShr .u64 a0 (63:Int)) == (1:Int))) z z z (wl_nil (tn ?_))))))))))))
 refine bsplit ((iShr .u64 a0 (63:Int)) == (1:Int)) (fun hc807 => ?_) (fun hc807 => ?_)
 {
 replace hm := bif_t hc807 hm
 refine wp_ift (cvb hc807) ?_
 refine wp_seq (wrl (wv (.int .u64 a0) z z z (wv (.int .u64 (bAndNot .u64 a0 (9223372036854775808:Int))) z z z (wv (.float .f64 (Int.toNat (bAndNot .u64 a0 (9223372036854775808:Int)))) z z (by kernel_rfl) (wv (.float .f64 (Int.toNat (bAndNot .u64 a0 (9223372036854775808:Int)))) z z z (wl_nil (tn (wp_ret (then_r ?_)))))))))
 obtain rfl := some_inj hm
 refine post_ret (vs := [F6 (Int.toNat (bAndNot .u64 a0 (9223372036854775808:Int)))]) results35 (rvs_cons (rv_tmp z) rvs_nil) ?_
 exact ⟨z, hst.keep0⟩
}
 {
 replace hm := bif_f hc807 hm
 refine wp_iff (cvb hc807) ?_
 refine wp_skip (tn (wp_seq (wrl ?_)))
 refine wv (.int .u64 a0) z z z (wv (.int .u64 (bXor .u64 ((18446744073709551615):Int) a0)) z z (by kernel_rfl) (wv (.float .f64 (Int.toNat (bXor .u64 ((18446744073709551615):Int) a0))) z z (by kernel_rfl) (wv (.float .f64 (Int.toNat (bXor .u64 ((18446744073709551615):Int) a0))) z z z (wl_nil (tn (wp_ret ?_))))))
 obtain rfl := some_inj hm
 refine post_ret (vs := [F6 (Int.toNat (bXor .u64 ((18446744073709551615):Int) a0))]) results35 (rvs_cons (rv_tmp z) rvs_nil) ?_
 exact ⟨z, hst.keep0⟩
}
}

theorem mvcc_Store_right_ref {w0 w : World} {I : HL} {R : SP} {a0 : (Option mvcc_Store)} {p0 : Value}  (hst : St w0 w I [objO at_mvcc_Store p0 a0] R) {r : (Bool)} (hm : mvcc_Store_right a0 = some r) :
  Calls prog 53 #[p0] w fun e w' => e = .returned (.bool r) ∧ St w0 w' I [objO at_mvcc_Store p0 a0] R := by {
 rcases a0 with _ | o0
 {
 obtain ⟨rfl, hst'⟩ := objO_none hst
 clear hst
 have hst := hst'
 clear hst'
 dsimp only [mvcc_Store_right] at hm
 refine calls_start (args := [.pointer none]) func53 z ntmps53 (Nat.le_of_ble_eq_true z) ?_
 refine wp_seq (wrl (wv (.bool false) z z z (wl_nil (tn (wp_seq (wp_seq (wrl (wv (.pointer none) z z z ?_))))))))
 cases hm
}
 {
 replace hst := objO_get hst
 dsimp only [mvcc_Store_right] at hm
 refine calls_start (args := [p0]) func53 z ntmps53 (Nat.le_of_ble_eq_true z) ?_
 refine wp_seq (wrl (wv (.bool false) z z z (wl_nil (tn (wp_seq (wp_seq (wrl (wv (p0) z z z ?_))))))))
 obtain ⟨b1383, v1384, rfl, hst'⟩ := at_mvcc_Store_open hst
 clear hst
 have hst := hst'
 clear hst'
 refine wv (Pt b1383 0) z z z (wv (Pt b1383 0) z z (x_field z underlying79 z sizeOf77 z) (wv (v1384) z z (x_load z isAgg77 (hst.bc0 z)) (wv (.int .i64 ((o0.rows).length : Int)) z z (x_len z underlying77 (hst.nestsv 1 z)) (wv (.int .i64 (0:Int)) z z z (wl_nil (tn (wp_block ?_)))))))
 obtain ⟨n1777, hm⟩ := loopO_some hm
 refine wp_loop_n (fun n a w => ∃ (z1775 : Int) (σ1776 : Nat → Value), loopN (mvcc_Store_right_l0 o0) n z1775 = some r ∧ a = Fr 84 (upd (upd (upd (upd σ1776 0 (Pt b1383 0)) 10 (v1384)) 11 (.int .i64 ((o0.rows).length : Int))) 12 (.int .i64 z1775)) ∧ St w0 w I [cells b1383 [v1384], ownN nest_mvcc_row v1384 o0.rows] R) n1777 ⟨(0:Int), _, hm, (fu 0 (Pt b1383 0) z (fu 10 v1384 z (fu 11 (.int .i64 ((o0.rows).length : Int)) z (fu 12 (.int .i64 (0:Int)) z z)))), hst⟩ ?_
 rintro n1783 _ w1778 ⟨z1775, σ1776, hm, rfl, hst⟩
 obtain ⟨n1780, y1781, rfl, hm, hx1782⟩ := loopN_some hm
 dsimp only [mvcc_Store_right_l0] at hm
 refine wp_seq (wrl (wv (.bool (decide (z1775 < ((o0.rows).length : Int)))) z z z (wl_nil (tn (wp_seq ?_)))))
 refine bsplit (decide (z1775 < ((o0.rows).length : Int))) (fun hc1784 => ?_) (fun hc1784 => ?_)
 {
 replace hm := bif_t hc1784 hm
 refine wp_ift (cvb hc1784) ?_
 refine wp_skip (tn (wp_seq (wp_block (wp_seq (wrl ?_)))))
 refine wv (.int .i64 z1775) z z z ?_
 obtain ⟨x1785, hx1786, hm⟩ := bind_some hm
 obtain ⟨h1787, h1788, hi1789⟩ := geto_some hx1786
 refine wv (.pointer (some (eAddr v1384 (z1775.toNat * 2 + 0)))) z z (x_index z z underlying77 sizeOf76 (hst.nestsv 1 z) h1787 h1788) ?_
 replace hst := hst.pull1
 obtain ⟨v1790, hst⟩ := hst.nest_focus hi1789
 refine wv (.agg #[U6 x1785.rank, v1790]) z z (x_loadN (cs := [U6 x1785.rank, v1790]) z isAgg76 sizeOf76 (eCells (o := 0) (hst.holeall (N := nest_mvcc_row) (i := z1775.toNat) 1 z hi1789) z)) ?_
 obtain ⟨b1793, w1794, ew1795, eb1796, hst⟩ := hst.box [Zu, Zs] 76
 refine wl_run (v := Pt b1793 0) (w' := w1794) z z (x_al (by kernel_rfl) ew1795 eb1796) ?_
 refine wv (.int .i64 z1775) z z z ?_
 obtain ⟨w1798, hr1799, hst⟩ := hst.bx [U6 x1785.rank, v1790] sizeOf76 z (oC z (oC (one_of_sliceV hst.sv1) oN)) (by kernel_rfl)
 refine wl_unit z z (x_unit hr1799) ?_
 refine wl_nil (tn ?_)
 obtain ⟨y1833, hm, hx1834⟩ := joinO_some hm
 refine wp_cut (fun a w => ∃ (σ1831 : Nat → Value), (mvcc_Store_right_j1 x1785 z1775) () = some y1781 ∧ a = Fr 84 (upd (upd (upd (upd (upd σ1831 0 (Pt b1383 0)) 4 (Pt b1793 0)) 10 (v1384)) 11 (.int .i64 ((o0.rows).length : Int))) 12 (.int .i64 z1775)) ∧ St w0 w I [cells b1383 [v1384], ownS ty_mvcc_Version v1790 x1785.l, holeN nest_mvcc_row v1384 o0.rows z1775.toNat v1790, cells b1793 [U6 x1785.rank, v1790]] R) ?_ ?_
 {
 refine wp_seq ?_
 refine wp_region_St hst 31 [0, 1, 2, 3, 4, 5, 6, 7, 8, 9, 10, 11, 12, 13, 14, 15, 16, 17, 18, 19, 20, 21, 22, 23, 24, 25, 26, 27, 28, 29, 30] [0, 1, 3, 7, 15, 31, 63, 7, 135, 511, 1023, 2047, 7, 4103, 16383, 32767, 65535, 131071, 262143, 524287, 1048575, 2097151, 4194303, 8388607, 16777215, 33554431, 67108863, 8388607, 142606335, 536870911, 1073741823] [] z (by kernel_rfl) (by kernel_rfl) Try.mixed (by kernel_rfl) ?_
 refine wsr (.int .i64 z1775) 0 z z z (by kernel_rfl) (fun w hst => z) (wsr (.bool (decide (z1775 > (0:Int)))) 1 z z z (by kernel_rfl) (fun w hst => z) (wsr (.bool (decide (z1775 > (0:Int)))) 2 z z z (by kernel_rfl) (fun w hst => z) ?_))
 refine bsplit (decide (z1775 > (0:Int))) (fun hc1800 => ?_) (fun hc1800 => ?_)
 {
 replace hm := bif_t hc1800 hm
 refine ws_q (v := Pt b1383 0) 3 [4, 5, 6, 7, 8, 9, 10, 11, 12, 13, 14, 15, 16, 17, 18, 19, 20, 21, 22, 23, 24, 25, 26, 27, 28, 29, 30] (by kernel_rfl) z z (yi_run ((wanted_eq z z z (cvb hc1800)).trans z) (fun w hst => z)) (ws_q (v := Pt b1383 0) 4 [5, 6, 7, 8, 9, 10, 11, 12, 13, 14, 15, 16, 17, 18, 19, 20, 21, 22, 23, 24, 25, 26, 27, 28, 29, 30] (by kernel_rfl) z z (yi_run ((wanted_eq z z z (cvb hc1800)).trans z) (fun w hst => z)) (ws_q (v := Pt b1383 0) 5 [6, 7, 8, 9, 10, 11, 12, 13, 14, 15, 16, 17, 18, 19, 20, 21, 22, 23, 24, 25, 26, 27, 28, 29, 30] (by kernel_rfl) z z (yi_run ((wanted_eq z z z (cvb hc1800)).trans z) (fun w hst => x_field z underlying79 z sizeOf77 z)) (ws_q (v := v1384) 6 [7, 8, 9, 10, 11, 12, 13, 14, 15, 16, 17, 18, 19, 20, 21, 22, 23, 24, 25, 26, 27, 28, 29, 30] (by kernel_rfl) z z (yi_run ((wanted_eq z z z (cvb hc1800)).trans z) (fun w hst => x_load z isAgg77 (hst.bc3 z))) (ws_q (v := .int .i64 z1775) 7 [8, 9, 10, 11, 12, 13, 14, 15, 16, 17, 18, 19, 20, 21, 22, 23, 24, 25, 26, 27, 28, 29, 30] (by kernel_rfl) z z (yi_run ((wanted_eq z z z (cvb hc1800)).trans z) (fun w hst => z)) (ws_q (v := .int .i64 (i64.wrap (z1775 - (1:Int)))) 8 [9, 10, 11, 12, 13, 14, 15, 16, 17, 18, 19, 20, 21, 22, 23, 24, 25, 26, 27, 28, 29, 30] (by kernel_rfl) z z (yi_run ((wanted_eq z z z (cvb hc1800)).trans z) (fun w hst => z)) ?_)))))
 obtain ⟨x1801, hx1802, hm⟩ := bind_some hm
 obtain ⟨h1803, h1804, hi1805⟩ := geto_some hx1802
 refine ws_q (v := .pointer (some (eAddr v1384 ((i64.wrap (z1775 - (1:Int))).toNat * 2 + 0)))) 9 [10, 11, 12, 13, 14, 15, 16, 17, 18, 19, 20, 21, 22, 23, 24, 25, 26, 27, 28, 29, 30] (by kernel_rfl) z z (yi_run ((wanted_eq z z z (cvb hc1800)).trans z) (fun w hst => x_index z z underlying77 sizeOf76 (hst.holesv 2 z) h1803 h1804)) (ws_q (v := .pointer (some (eAddr v1384 ((i64.wrap (z1775 - (1:Int))).toNat * 2 + 0)))) 10 [11, 12, 13, 14, 15, 16, 17, 18, 19, 20, 21, 22, 23, 24, 25, 26, 27, 28, 29, 30] (by kernel_rfl) z z (yi_run ((wanted_eq z z z (cvb hc1800)).trans z) (fun w hst => x_field_e z underlying76 z sizeOf24 z)) (ws_q (v := .int .u64 x1801.rank) 11 [12, 13, 14, 15, 16, 17, 18, 19, 20, 21, 22, 23, 24, 25, 26, 27, 28, 29, 30] (by kernel_rfl) z z (yi_run ((wanted_eq z z z (cvb hc1800)).trans z) (fun w hst => x_load z isAgg24 (hst.holec (N := nest_mvcc_row) (i := (i64.wrap (z1775 - (1:Int))).toNat) (o := 0) 2 z hi1805 (fun _ => z)))) (ws_q (v := Pt b1793 0) 12 [13, 14, 15, 16, 17, 18, 19, 20, 21, 22, 23, 24, 25, 26, 27, 28, 29, 30] (by kernel_rfl) z z (yi_run ((wanted_eq z z z (cvb hc1800)).trans z) (fun w hst => x_field z underlying76 z sizeOf24 z)) (ws_q (v := .int .u64 x1785.rank) 13 [14, 15, 16, 17, 18, 19, 20, 21, 22, 23, 24, 25, 26, 27, 28, 29, 30] (by kernel_rfl) z z (yi_run ((wanted_eq z z z (cvb hc1800)).trans z) (fun w hst => x_load z isAgg24 (hst.bc0 z))) (ws_q (v := .bool (decide (x1801.rank ≥ x1785.rank))) 14 [15, 16, 17, 18, 19, 20, 21, 22, 23, 24, 25, 26, 27, 28, 29, 30] (by kernel_rfl) z z (yi_run ((wanted_eq z z z (cvb hc1800)).trans z) (fun w hst => z)) (wsr (.bool (decide (x1801.rank ≥ x1785.rank))) 15 z z z (by kernel_rfl) (fun w hst => x_pick_t hc1800 z z) (wsr (.bool (decide (x1801.rank ≥ x1785.rank))) 16 z z z (by kernel_rfl) (fun w hst => z) ?_)))))))
 refine bsplit (decide (x1801.rank ≥ x1785.rank)) (fun hc1806 => ?_) (fun hc1806 => ?_)
 {
 replace hm := bif_t hc1806 hm
 refine ws_q (v := undef) 17 [18, 19, 20, 21, 22, 23, 24, 25, 26, 27, 28, 29, 30] (by kernel_rfl) z z (yi_off ((wanted_eq z z z (cvb hc1806)).trans z)) (ws_q (v := undef) 18 [19, 20, 21, 22, 23, 24, 25, 26, 27, 28, 29, 30] (by kernel_rfl) z z (yi_off ((wanted_eq z z z (cvb hc1806)).trans z)) (ws_q (v := undef) 19 [20, 21, 22, 23, 24, 25, 26, 27, 28, 29, 30] (by kernel_rfl) z z (yi_off ((wanted_eq z z z (cvb hc1806)).trans z)) (ws_q (v := undef) 20 [21, 22, 23, 24, 25, 26, 27, 28, 29, 30] (by kernel_rfl) z z (yi_off ((wanted_eq z z z (cvb hc1806)).trans z)) (wsr (.bool true) 21 z z z (by kernel_rfl) (fun w hst => x_pick_t hc1806 z z) (wsr (.bool true) 22 z z z (by kernel_rfl) (fun w hst => z) (ws_q (v := undef) 23 [24, 25, 26, 27, 28, 29, 30] (by kernel_rfl) z z (yi_off ((wanted_eq z z z z).trans z)) (ws_q (v := undef) 24 [25, 26, 27, 28, 29, 30] (by kernel_rfl) z z (yi_off ((wanted_eq z z z z).trans z)) (ws_q (v := undef) 25 [26, 27, 28, 29, 30] (by kernel_rfl) z z (yi_off ((wanted_eq z z z z).trans z)) (ws_q (v := undef) 26 [27, 28, 29, 30] (by kernel_rfl) z z (yi_off ((wanted_eq z z z z).trans z)) (ws_q (v := undef) 27 [28, 29, 30] (by kernel_rfl) z z (yi_off ((wanted_eq z z z z).trans z)) (ws_q (v := undef) 28 [29, 30] (by kernel_rfl) z z (yi_off ((wanted_eq z z z z).trans z)) (ws_q (v := undef) 29 [30] (by kernel_rfl) z z (yi_off ((wanted_eq z z z z).trans z)) ?_))))))))))))
 refine wsr (.bool true) 30 z z z (by kernel_rfl) (fun w hst => x_pick_t z z z) ?_
 refine ws_nil ?_
 intro w hst
 refine tn ?_
 refine wp_ift z ?_
 refine wp_seq (wrl (wv (.bool false) z z z (wl_nil (tn (wp_ret (then_r ?_))))))
 replace hm := inr_up hm hx1834
 refine blk_r (then_r (then_r ?_))
 replace hm := inr_up hm hx1782
 refine blk_r (then_r ?_)
 replace hst := hst.pull2.pull2
 replace hst := St.nest_close0 (N := nest_mvcc_row) hst hi1789
 replace hst := hst.pull2
 replace hst := at_mvcc_Store_close (pv := Pt b1383 0) (x := o0) hst z
 replace hst := objO_some hst
 obtain rfl := some_inj hm
 refine post_ret (vs := [.bool false]) results53 (rvs_cons (rv_tmp z) rvs_nil) ?_
 exact ⟨z, hst.keep1⟩
}
 {
 replace hm := bif_f hc1806 hm
 refine ws_q (v := Pt b1793 1) 17 [18, 19, 20, 21, 22, 23, 24, 25, 26, 27, 28, 29, 30] (by kernel_rfl) z z (yi_run ((wanted_eq z z z (cvb hc1806)).trans z) (fun w hst => x_field z underlying76 z sizeOf53 z)) (ws_q (v := v1790) 18 [19, 20, 21, 22, 23, 24, 25, 26, 27, 28, 29, 30] (by kernel_rfl) z z (yi_run ((wanted_eq z z z (cvb hc1806)).trans z) (fun w hst => x_load z isAgg53 (hst.bc0 z))) (ws_q (v := .int .i64 ((x1785.l).length : Int)) 19 [20, 21, 22, 23, 24, 25, 26, 27, 28, 29, 30] (by kernel_rfl) z z (yi_run ((wanted_eq z z z (cvb hc1806)).trans z) (fun w hst => x_len z underlying53 hst.sv1)) (ws_q (v := .bool (((x1785.l).length : Int) == (0:Int))) 20 [21, 22, 23, 24, 25, 26, 27, 28, 29, 30] (by kernel_rfl) z z (yi_run ((wanted_eq z z z (cvb hc1806)).trans z) (fun w hst => z)) (wsr (.bool (((x1785.l).length : Int) == (0:Int))) 21 z z z (by kernel_rfl) (fun w hst => x_pick_f hc1806 z z) (wsr (.bool (((x1785.l).length : Int) == (0:Int))) 22 z z z (by kernel_rfl) (fun w hst => z) ?_)))))
 refine bsplit (((x1785.l).length : Int) == (0:Int)) (fun hc1807 => ?_) (fun hc1807 => ?_)
 {
 replace hm := bif_t hc1807 hm
 refine ws_q (v := undef) 23 [24, 25, 26, 27, 28, 29, 30] (by kernel_rfl) z z (yi_off ((wanted_eq z z z (cvb hc1807)).trans z)) (ws_q (v := undef) 24 [25, 26, 27, 28, 29, 30] (by kernel_rfl) z z (yi_off ((wanted_eq z z z (cvb hc1807)).trans z)) (ws_q (v := undef) 25 [26, 27, 28, 29, 30] (by kernel_rfl) z z (yi_off ((wanted_eq z z z (cvb hc1807)).trans z)) (ws_q (v := undef) 26 [27, 28, 29, 30] (by kernel_rfl) z z (yi_off ((wanted_eq z z z (cvb hc1807)).trans z)) (ws_q (v := undef) 27 [28, 29, 30] (by kernel_rfl) z z (yi_off ((wanted_eq z z z (cvb hc1807)).trans z)) (ws_q (v := undef) 28 [29, 30] (by kernel_rfl) z z (yi_off ((wanted_eq z z z (cvb hc1807)).trans z)) (ws_q (v := undef) 29 [30] (by kernel_rfl) z z (yi_off ((wanted_eq z z z (cvb hc1807)).trans z)) (wsr (.bool true) 30 z z z (by kernel_rfl) (fun w hst => x_pick_t hc1807 z z) ?_)))))))
 refine ws_nil ?_
 intro w hst
 refine tn ?_
 refine wp_ift z ?_
 refine wp_seq (wrl (wv (.bool false) z z z (wl_nil (tn (wp_ret (then_r ?_))))))
 replace hm := inr_up hm hx1834
 refine blk_r (then_r (then_r ?_))
 replace hm := inr_up hm hx1782
 refine blk_r (then_r ?_)
 replace hst := hst.pull2.pull2
 replace hst := St.nest_close0 (N := nest_mvcc_row) hst hi1789
 replace hst := hst.pull2
 replace hst := at_mvcc_Store_close (pv := Pt b1383 0) (x := o0) hst z
 replace hst := objO_some hst
 obtain rfl := some_inj hm
 refine post_ret (vs := [.bool false]) results53 (rvs_cons (rv_tmp z) rvs_nil) ?_
 exact ⟨z, hst.keep1⟩
}
 {
 replace hm := bif_f hc1807 hm
 refine ws_q (v := Pt b1793 0) 23 [24, 25, 26, 27, 28, 29, 30] (by kernel_rfl) z z (yi_run ((wanted_eq z z z (cvb hc1807)).trans z) (fun w hst => x_field z underlying76 z sizeOf24 z)) (ws_q (v := .int .u64 x1785.rank) 24 [25, 26, 27, 28, 29, 30] (by kernel_rfl) z z (yi_run ((wanted_eq z z z (cvb hc1807)).trans z) (fun w hst => x_load z isAgg24 (hst.bc0 z))) (ws_q (v := Pt b1793 0) 27 [25, 26, 28, 29, 30] (by kernel_rfl) z z (yi_run ((wanted_eq z z z (cvb hc1807)).trans z) (fun w hst => x_field z underlying76 z sizeOf24 z)) (ws_q (v := .int .u64 x1785.rank) 28 [25, 26, 29, 30] (by kernel_rfl) z z (yi_run ((wanted_eq z z z (cvb hc1807)).trans z) (fun w hst => x_load z isAgg24 (hst.bc0 z))) ?_)))
 refine ws_e1 25 (by kernel_rfl) ?_
 refine nxe [26, 29, 30] (by kernel_rfl) z ((wanted_eq z z z (cvb hc1807)).trans z) ?_
 clear hst
 intro w hst
 obtain ⟨t1808, ht1809, hm⟩ := bind_some hm
 refine wec call35 [U6 x1785.rank] z z ?_
 refine (number_Back_ref hst.to0 ht1809).mono ?_
 rintro _ w1810 ⟨rfl, hst⟩
 refine ⟨_, z, ?_⟩
 replace hst := hst.of0
 refine ws_next (pend' := [(28, U6 x1785.rank), (27, Pt b1793 0)]) hst (by kernel_rfl) (pk_cons z (yi_run ((wanted_eq z z z (cvb hc1807)).trans z) (fun w hst => x_load z isAgg24 (hst.bc0 z))) (pk_cons z (yi_run ((wanted_eq z z z (cvb hc1807)).trans z) (fun w hst => x_field z underlying76 z sizeOf24 z)) pk_nil)) ?_
 refine ws_e1 26 (by kernel_rfl) ?_
 refine nxe [29, 30] (by kernel_rfl) z ((wanted_eq z z z (cvb hc1807)).trans z) ?_
 clear hst
 intro w hst
 obtain ⟨t1813, ht1814, hm⟩ := bind_some hm
 refine wec call32 [F6 t1808] z z ?_
 refine (number_Rank_ref hst.to0 ht1814).mono ?_
 rintro _ w1815 ⟨rfl, hst⟩
 refine ⟨_, z, ?_⟩
 replace hst := hst.of0
 refine ws_next (pend' := [(28, U6 x1785.rank), (27, Pt b1793 0)]) hst (by kernel_rfl) (pk_cons z (yi_run ((wanted_eq z z z (cvb hc1807)).trans z) (fun w hst => x_load z isAgg24 (hst.bc0 z))) (pk_cons z (yi_run ((wanted_eq z z z (cvb hc1807)).trans z) (fun w hst => x_field z underlying76 z sizeOf24 z)) pk_nil)) ?_
 refine ws_q (v := .bool (t1813 != x1785.rank)) 29 [30] (by kernel_rfl) z z (yi_run ((wanted_eq z z z (cvb hc1807)).trans z) (fun w hst => z)) (wsr (.bool (t1813 != x1785.rank)) 30 z z z (by kernel_rfl) (fun w hst => x_pick_f hc1807 z z) ?_)
 refine ws_nil ?_
 intro w hst
 refine tn ?_
 refine bsplit (t1813 != x1785.rank) (fun hc1818 => ?_) (fun hc1818 => ?_)
 {
 replace hm := bif_t hc1818 hm
 refine wp_ift (cvb hc1818) ?_
 refine wp_seq (wrl (wv (.bool false) z z z (wl_nil (tn (wp_ret (then_r ?_))))))
 replace hm := inr_up hm hx1834
 refine blk_r (then_r (then_r ?_))
 replace hm := inr_up hm hx1782
 refine blk_r (then_r ?_)
 replace hst := hst.pull2.pull2
 replace hst := St.nest_close0 (N := nest_mvcc_row) hst hi1789
 replace hst := hst.pull2
 replace hst := at_mvcc_Store_close (pv := Pt b1383 0) (x := o0) hst z
 replace hst := objO_some hst
 obtain rfl := some_inj hm
 refine post_ret (vs := [.bool false]) results53 (rvs_cons (rv_tmp z) rvs_nil) ?_
 exact ⟨z, hst.keep1⟩
}
 {
 replace hm := bif_f hc1818 hm
 refine wp_iff (cvb hc1818) ?_
 refine wp_skip (tn ?_)
 replace hst := hst.pull2.pull2.pull3.keep4
 obtain rfl := some_inj hm
 exact ⟨_, hx1834, (fu 0 (Pt b1383 0) z (fu 4 (Pt b1793 0) z (fu 10 v1384 z (fu 11 (.int .i64 ((o0.rows).length : Int)) z (fu 12 (.int .i64 z1775) z z))))), hst⟩
}
}
}
}
 {
 replace hm := bif_f hc1800 hm
 refine ws_q (v := undef) 3 [4, 5, 6, 7, 8, 9, 10, 11, 12, 13, 14, 15, 16, 17, 18, 19, 20, 21, 22, 23, 24, 25, 26, 27, 28, 29, 30] (by kernel_rfl) z z (yi_off ((wanted_eq z z z (cvb hc1800)).trans z)) (ws_q (v := undef) 4 [5, 6, 7, 8, 9, 10, 11, 12, 13, 14, 15, 16, 17, 18, 19, 20, 21, 22, 23, 24, 25, 26, 27, 28, 29, 30] (by kernel_rfl) z z (yi_off ((wanted_eq z z z (cvb hc1800)).trans z)) (ws_q (v := undef) 5 [6, 7, 8, 9, 10, 11, 12, 13, 14, 15, 16, 17, 18, 19, 20, 21, 22, 23, 24, 25, 26, 27, 28, 29, 30] (by kernel_rfl) z z (yi_off ((wanted_eq z z z (cvb hc1800)).trans z)) (ws_q (v := undef) 6 [7, 8, 9, 10, 11, 12, 13, 14, 15, 16, 17, 18, 19, 20, 21, 22, 23, 24, 25, 26, 27, 28, 29, 30] (by kernel_rfl) z z (yi_off ((wanted_eq z z z (cvb hc1800)).trans z)) (ws_q (v := undef) 7 [8, 9, 10, 11, 12, 13, 14, 15, 16, 17, 18, 19, 20, 21, 22, 23, 24, 25, 26, 27, 28, 29, 30] (by kernel_rfl) z z (yi_off ((wanted_eq z z z (cvb hc1800)).trans z)) (ws_q (v := undef) 8 [9, 10, 11, 12, 13, 14, 15, 16, 17, 18, 19, 20, 21, 22, 23, 24, 25, 26, 27, 28, 29, 30] (by kernel_rfl) z z (yi_off ((wanted_eq z z z (cvb hc1800)).trans z)) (ws_q (v := undef) 9 [10, 11, 12, 13, 14, 15, 16, 17, 18, 19, 20, 21, 22, 23, 24, 25, 26, 27, 28, 29, 30] (by kernel_rfl) z z (yi_off ((wanted_eq z z z (cvb hc1800)).trans z)) (ws_q (v := undef) 10 [11, 12, 13, 14, 15, 16, 17, 18, 19, 20, 21, 22, 23, 24, 25, 26, 27, 28, 29, 30] (by kernel_rfl) z z (yi_off ((wanted_eq z z z (cvb hc1800)).trans z)) (ws_q (v := undef) 11 [12, 13, 14, 15, 16, 17, 18, 19, 20, 21, 22, 23, 24, 25, 26, 27, 28, 29, 30] (by kernel_rfl) z z (yi_off ((wanted_eq z z z (cvb hc1800)).trans z)) (ws_q (v := undef) 12 [13, 14, 15, 16, 17, 18, 19, 20, 21, 22, 23, 24, 25, 26, 27, 28, 29, 30] (by kernel_rfl) z z (yi_off ((wanted_eq z z z (cvb hc1800)).trans z)) (ws_q (v := undef) 13 [14, 15, 16, 17, 18, 19, 20, 21, 22, 23, 24, 25, 26, 27, 28, 29, 30] (by kernel_rfl) z z (yi_off ((wanted_eq z z z (cvb hc1800)).trans z)) (ws_q (v := undef) 14 [15, 16, 17, 18, 19, 20, 21, 22, 23, 24, 25, 26, 27, 28, 29, 30] (by kernel_rfl) z z (yi_off ((wanted_eq z z z (cvb hc1800)).trans z)) (wsr (.bool false) 15 z z z (by kernel_rfl) (fun w hst => x_pick_f hc1800 z z) ?_))))))))))))
 refine wsr (.bool false) 16 z z z (by kernel_rfl) (fun w hst => z) (ws_q (v := Pt b1793 1) 17 [18, 19, 20, 21, 22, 23, 24, 25, 26, 27, 28, 29, 30] (by kernel_rfl) z z (yi_run ((wanted_eq z z z z).trans z) (fun w hst => x_field z underlying76 z sizeOf53 z)) (ws_q (v := v1790) 18 [19, 20, 21, 22, 23, 24, 25, 26, 27, 28, 29, 30] (by kernel_rfl) z z (yi_run ((wanted_eq z z z z).trans z) (fun w hst => x_load z isAgg53 (hst.bc0 z))) (ws_q (v := .int .i64 ((x1785.l).length : Int)) 19 [20, 21, 22, 23, 24, 25, 26, 27, 28, 29, 30] (by kernel_rfl) z z (yi_run ((wanted_eq z z z z).trans z) (fun w hst => x_len z underlying53 hst.sv1)) (ws_q (v := .bool (((x1785.l).length : Int) == (0:Int))) 20 [21, 22, 23, 24, 25, 26, 27, 28, 29, 30] (by kernel_rfl) z z (yi_run ((wanted_eq z z z z).trans z) (fun w hst => z)) (wsr (.bool (((x1785.l).length : Int) == (0:Int))) 21 z z z (by kernel_rfl) (fun w hst => x_pick_f z z z) (wsr (.bool (((x1785.l).length : Int) == (0:Int))) 22 z z z (by kernel_rfl) (fun w hst => z) ?_))))))
 refine bsplit (((x1785.l).length : Int) == (0:Int)) (fun hc1819 => ?_) (fun hc1819 => ?_)
 {
 replace hm := bif_t hc1819 hm
 refine ws_q (v := undef) 23 [24, 25, 26, 27, 28, 29, 30] (by kernel_rfl) z z (yi_off ((wanted_eq z z z (cvb hc1819)).trans z)) (ws_q (v := undef) 24 [25, 26, 27, 28, 29, 30] (by kernel_rfl) z z (yi_off ((wanted_eq z z z (cvb hc1819)).trans z)) (ws_q (v := undef) 25 [26, 27, 28, 29, 30] (by kernel_rfl) z z (yi_off ((wanted_eq z z z (cvb hc1819)).trans z)) (ws_q (v := undef) 26 [27, 28, 29, 30] (by kernel_rfl) z z (yi_off ((wanted_eq z z z (cvb hc1819)).trans z)) (ws_q (v := undef) 27 [28, 29, 30] (by kernel_rfl) z z (yi_off ((wanted_eq z z z (cvb hc1819)).trans z)) (ws_q (v := undef) 28 [29, 30] (by kernel_rfl) z z (yi_off ((wanted_eq z z z (cvb hc1819)).trans z)) (ws_q (v := undef) 29 [30] (by kernel_rfl) z z (yi_off ((wanted_eq z z z (cvb hc1819)).trans z)) (wsr (.bool true) 30 z z z (by kernel_rfl) (fun w hst => x_pick_t hc1819 z z) ?_)))))))
 refine ws_nil ?_
 intro w hst
 refine tn ?_
 refine wp_ift z ?_
 refine wp_seq (wrl (wv (.bool false) z z z (wl_nil (tn (wp_ret (then_r ?_))))))
 replace hm := inr_up hm hx1834
 refine blk_r (then_r (then_r ?_))
 replace hm := inr_up hm hx1782
 refine blk_r (then_r ?_)
 replace hst := hst.pull2.pull2
 replace hst := St.nest_close0 (N := nest_mvcc_row) hst hi1789
 replace hst := hst.pull2
 replace hst := at_mvcc_Store_close (pv := Pt b1383 0) (x := o0) hst z
 replace hst := objO_some hst
 obtain rfl := some_inj hm
 refine post_ret (vs := [.bool false]) results53 (rvs_cons (rv_tmp z) rvs_nil) ?_
 exact ⟨z, hst.keep1⟩
}
 {
 replace hm := bif_f hc1819 hm
 refine ws_q (v := Pt b1793 0) 23 [24, 25, 26, 27, 28, 29, 30] (by kernel_rfl) z z (yi_run ((wanted_eq z z z (cvb hc1819)).trans z) (fun w hst => x_field z underlying76 z sizeOf24 z)) (ws_q (v := .int .u64 x1785.rank) 24 [25, 26, 27, 28, 29, 30] (by kernel_rfl) z z (yi_run ((wanted_eq z z z (cvb hc1819)).trans z) (fun w hst => x_load z isAgg24 (hst.bc0 z))) (ws_q (v := Pt b1793 0) 27 [25, 26, 28, 29, 30] (by kernel_rfl) z z (yi_run ((wanted_eq z z z (cvb hc1819)).trans z) (fun w hst => x_field z underlying76 z sizeOf24 z)) (ws_q (v := .int .u64 x1785.rank) 28 [25, 26, 29, 30] (by kernel_rfl) z z (yi_run ((wanted_eq z z z (cvb hc1819)).trans z) (fun w hst => x_load z isAgg24 (hst.bc0 z))) ?_)))
 refine ws_e1 25 (by kernel_rfl) ?_
 refine nxe [26, 29, 30] (by kernel_rfl) z ((wanted_eq z z z (cvb hc1819)).trans z) ?_
 clear hst
 intro w hst
 obtain ⟨t1820, ht1821, hm⟩ := bind_some hm
 refine wec call35 [U6 x1785.rank] z z ?_
 refine (number_Back_ref hst.to0 ht1821).mono ?_
 rintro _ w1822 ⟨rfl, hst⟩
 refine ⟨_, z, ?_⟩
 replace hst := hst.of0
 refine ws_next (pend' := [(28, U6 x1785.rank), (27, Pt b1793 0)]) hst (by kernel_rfl) (pk_cons z (yi_run ((wanted_eq z z z (cvb hc1819)).trans z) (fun w hst => x_load z isAgg24 (hst.bc0 z))) (pk_cons z (yi_run ((wanted_eq z z z (cvb hc1819)).trans z) (fun w hst => x_field z underlying76 z sizeOf24 z)) pk_nil)) ?_
 refine ws_e1 26 (by kernel_rfl) ?_
 refine nxe [29, 30] (by kernel_rfl) z ((wanted_eq z z z (cvb hc1819)).trans z) ?_
 clear hst
 intro w hst
 obtain ⟨t1825, ht1826, hm⟩ := bind_some hm
 refine wec call32 [F6 t1820] z z ?_
 refine (number_Rank_ref hst.to0 ht1826).mono ?_
 rintro _ w1827 ⟨rfl, hst⟩
 refine ⟨_, z, ?_⟩
 replace hst := hst.of0
 refine ws_next (pend' := [(28, U6 x1785.rank), (27, Pt b1793 0)]) hst (by kernel_rfl) (pk_cons z (yi_run ((wanted_eq z z z (cvb hc1819)).trans z) (fun w hst => x_load z isAgg24 (hst.bc0 z))) (pk_cons z (yi_run ((wanted_eq z z z (cvb hc1819)).trans z) (fun w hst => x_field z underlying76 z sizeOf24 z)) pk_nil)) ?_
 refine ws_q (v := .bool (t1825 != x1785.rank)) 29 [30] (by kernel_rfl) z z (yi_run ((wanted_eq z z z (cvb hc1819)).trans z) (fun w hst => z)) (wsr (.bool (t1825 != x1785.rank)) 30 z z z (by kernel_rfl) (fun w hst => x_pick_f hc1819 z z) ?_)
 refine ws_nil ?_
 intro w hst
 refine tn ?_
 refine bsplit (t1825 != x1785.rank) (fun hc1830 => ?_) (fun hc1830 => ?_)
 {
 replace hm := bif_t hc1830 hm
 refine wp_ift (cvb hc1830) ?_
 refine wp_seq (wrl (wv (.bool false) z z z (wl_nil (tn (wp_ret (then_r ?_))))))
 replace hm := inr_up hm hx1834
 refine blk_r (then_r (then_r ?_))
 replace hm := inr_up hm hx1782
 refine blk_r (then_r ?_)
 replace hst := hst.pull2.pull2
 replace hst := St.nest_close0 (N := nest_mvcc_row) hst hi1789
 replace hst := hst.pull2
 replace hst := at_mvcc_Store_close (pv := Pt b1383 0) (x := o0) hst z
 replace hst := objO_some hst
 obtain rfl := some_inj hm
 refine post_ret (vs := [.bool false]) results53 (rvs_cons (rv_tmp z) rvs_nil) ?_
 exact ⟨z, hst.keep1⟩
}
 {
 replace hm := bif_f hc1830 hm
 refine wp_iff (cvb hc1830) ?_
 refine wp_skip (tn ?_)
 replace hst := hst.pull2.pull2.pull3.keep4
 obtain rfl := some_inj hm
 exact ⟨_, hx1834, (fu 0 (Pt b1383 0) z (fu 4 (Pt b1793 0) z (fu 10 v1384 z (fu 11 (.int .i64 ((o0.rows).length : Int)) z (fu 12 (.int .i64 z1775) z z))))), hst⟩
}
}
}
}
 {
 clear hst
 rintro _ w1835 ⟨σ1831, hm, rfl, hst⟩
 dsimp only [mvcc_Store_right_j1] at hm
 refine wp_seq (wrl (wv (Pt b1793 1) z z (x_field z underlying76 z sizeOf53 z) (wv (v1790) z z (x_load z isAgg53 (hst.bc3 z)) (wv (.int .i64 ((x1785.l).length : Int)) z z (x_len z underlying53 hst.sv1) (wv (.int .i64 (0:Int)) z z z (wl_nil (tn (wp_block ?_))))))))
 obtain ⟨n1927, hm⟩ := loopO_some hm
 refine wp_loop_n (fun n a w => ∃ (z1925 : Int) (σ1926 : Nat → Value), loopN (mvcc_Store_right_l2 x1785 z1775) n z1925 = some y1781 ∧ a = Fr 84 (upd (upd (upd (upd (upd (upd (upd (upd σ1926 0 (Pt b1383 0)) 4 (Pt b1793 0)) 10 (v1384)) 11 (.int .i64 ((o0.rows).length : Int))) 12 (.int .i64 z1775)) 49 (v1790)) 50 (.int .i64 ((x1785.l).length : Int))) 51 (.int .i64 z1925)) ∧ St w0 w I [cells b1383 [v1384], ownS ty_mvcc_Version v1790 x1785.l, holeN nest_mvcc_row v1384 o0.rows z1775.toNat v1790, cells b1793 [U6 x1785.rank, v1790]] R) n1927 ⟨(0:Int), _, hm, (fu 0 (Pt b1383 0) z (fu 4 (Pt b1793 0) z (fu 10 v1384 z (fu 11 (.int .i64 ((o0.rows).length : Int)) z (fu 12 (.int .i64 z1775) z (fu 49 v1790 z (fu 50 (.int .i64 ((x1785.l).length : Int)) z (fu 51 (.int .i64 (0:Int)) z z)))))))), hst⟩ ?_
 rintro n1933 _ w1928 ⟨z1925, σ1926, hm, rfl, hst⟩
 obtain ⟨n1930, y1931, rfl, hm, hx1932⟩ := loopN_some hm
 dsimp only [mvcc_Store_right_l2] at hm
 refine wp_seq (wrl (wv (.bool (decide (z1925 < ((x1785.l).length : Int)))) z z z (wl_nil (tn (wp_seq ?_)))))
 refine bsplit (decide (z1925 < ((x1785.l).length : Int))) (fun hc1934 => ?_) (fun hc1934 => ?_)
 {
 replace hm := bif_t hc1934 hm
 refine wp_ift (cvb hc1934) ?_
 refine wp_skip (tn (wp_seq (wp_block (wp_seq (wrl ?_)))))
 refine wv (.int .i64 z1925) z z z ?_
 obtain ⟨x1935, hx1936, hm⟩ := bind_some hm
 obtain ⟨h1937, h1938, hi1939⟩ := geto_some hx1936
 refine wv (.pointer (some (eAddr v1790 (z1925.toNat * 4 + 0)))) z z (x_index z z underlying53 sizeOf52 hst.sv1 h1937 h1938) ?_
 obtain ⟨cs1940, hr1941, hc1942⟩ := hst.og1 hi1939
 obtain ⟨v1943, rfl, f1944, -⟩ := hr1941
 refine wv (.agg #[U6 x1935.Epoch, U6 x1935.Index, .bool x1935.Del, v1943]) z z (x_loadN (cs := [U6 x1935.Epoch, U6 x1935.Index, .bool x1935.Del, v1943]) z isAgg52 sizeOf52 (eCells (o := 0) hc1942 z)) ?_
 obtain ⟨b1947, w1948, ew1949, eb1950, hst⟩ := hst.box [Zu, Zu, .bool false, Zs] 52
 refine wl_run (v := Pt b1947 0) (w' := w1948) z z (x_al (by kernel_rfl) ew1949 eb1950) ?_
 refine wv (.int .i64 z1925) z z z ?_
 obtain ⟨w1952, hr1953, hst⟩ := hst.bx [U6 x1935.Epoch, U6 x1935.Index, .bool x1935.Del, v1943] sizeOf52 z (oC z (oC z (oC z (oC (one_of_sliceV (ro_sliceV f1944)) oN)))) (by kernel_rfl)
 refine wl_unit z z (x_unit hr1953) ?_
 refine wl_nil (tn (wp_seq ?_))
 replace hst := hst.pull2
 obtain ⟨css1954, hq1955, hst⟩ := hst.own_open
 refine wp_region_St hst 26 [0, 1, 2, 3, 4, 5, 6, 7, 8, 9, 10, 11, 12, 13, 14, 15, 16, 17, 18, 19, 20, 21, 22, 23, 24, 25] [0, 1, 3, 7, 15, 7, 39, 127, 255, 7, 519, 7, 2055, 8191, 16383, 32767, 65535, 131071, 262143, 524287, 1048575, 2097151, 4194303, 8388607, 16777215, 33554431] [] z (by kernel_rfl) (by kernel_rfl) Try.mixed (by kernel_rfl) ?_
 refine wsr (.int .i64 z1925) 0 z z z (by kernel_rfl) (fun w hst => z) (wsr (.bool (decide (z1925 > (0:Int)))) 1 z z z (by kernel_rfl) (fun w hst => z) (wsr (.bool (decide (z1925 > (0:Int)))) 2 z z z (by kernel_rfl) (fun w hst => z) ?_))
 refine bsplit (decide (z1925 > (0:Int))) (fun hc1956 => ?_) (fun hc1956 => ?_)
 {
 replace hm := bif_t hc1956 hm
 refine ws_q (v := Pt b1793 1) 3 [4, 5, 6, 7, 8, 9, 10, 11, 12, 13, 14, 15, 16, 17, 18, 19, 20, 21, 22, 23, 24, 25] (by kernel_rfl) z z (yi_run ((wanted_eq z z z (cvb hc1956)).trans z) (fun w hst => x_field z underlying76 z sizeOf53 z)) (ws_q (v := v1790) 4 [5, 6, 7, 8, 9, 10, 11, 12, 13, 14, 15, 16, 17, 18, 19, 20, 21, 22, 23, 24, 25] (by kernel_rfl) z z (yi_run ((wanted_eq z z z (cvb hc1956)).trans z) (fun w hst => x_load z isAgg53 (hst.bc4 z))) (ws_q (v := .int .i64 z1925) 5 [6, 7, 8, 9, 10, 11, 12, 13, 14, 15, 16, 17, 18, 19, 20, 21, 22, 23, 24, 25] (by kernel_rfl) z z (yi_run ((wanted_eq z z z (cvb hc1956)).trans z) (fun w hst => z)) (ws_q (v := .int .i64 (i64.wrap (z1925 - (1:Int)))) 6 [7, 8, 9, 10, 11, 12, 13, 14, 15, 16, 17, 18, 19, 20, 21, 22, 23, 24, 25] (by kernel_rfl) z z (yi_run ((wanted_eq z z z (cvb hc1956)).trans z) (fun w hst => z)) ?_)))
 obtain ⟨x1957, hx1958, hm⟩ := bind_some hm
 obtain ⟨h1959, h1960, hi1961⟩ := geto_some hx1958
 refine ws_q (v := .pointer (some (eAddr v1790 ((i64.wrap (z1925 - (1:Int))).toNat * 4 + 0)))) 7 [8, 9, 10, 11, 12, 13, 14, 15, 16, 17, 18, 19, 20, 21, 22, 23, 24, 25] (by kernel_rfl) z z (yi_run ((wanted_eq z z z (cvb hc1956)).trans z) (fun w hst => x_index z z underlying53 sizeOf52 (hst.rsv 0 z hq1955) h1959 h1960)) ?_
 obtain ⟨cs1962, hc1964, hr1963⟩ := Reps.get hq1955 hi1961
 obtain ⟨v1965, rfl, f1966, -⟩ := hr1963
 refine ws_q (v := .agg #[U6 x1957.Epoch, U6 x1957.Index, .bool x1957.Del, v1965]) 8 [9, 10, 11, 12, 13, 14, 15, 16, 17, 18, 19, 20, 21, 22, 23, 24, 25] (by kernel_rfl) z z (yi_run ((wanted_eq z z z (cvb hc1956)).trans z) (fun w hst => x_loadN (cs := [U6 x1957.Epoch, U6 x1957.Index, .bool x1957.Del, v1965]) z isAgg52 sizeOf52 (eCells (o := 0) (hst.rcell 0 z hc1964) z))) (ws_q (v := Pt b1947 0) 9 [10, 11, 12, 13, 14, 15, 16, 17, 18, 19, 20, 21, 22, 23, 24, 25] (by kernel_rfl) z z (yi_run ((wanted_eq z z z (cvb hc1956)).trans z) (fun w hst => x_field z underlying52 z sizeOf24 z)) (ws_q (v := .int .u64 x1935.Epoch) 10 [11, 12, 13, 14, 15, 16, 17, 18, 19, 20, 21, 22, 23, 24, 25] (by kernel_rfl) z z (yi_run ((wanted_eq z z z (cvb hc1956)).trans z) (fun w hst => x_load z isAgg24 (hst.bc1 z))) (ws_q (v := Pt b1947 1) 11 [12, 13, 14, 15, 16, 17, 18, 19, 20, 21, 22, 23, 24, 25] (by kernel_rfl) z z (yi_run ((wanted_eq z z z (cvb hc1956)).trans z) (fun w hst => x_field z underlying52 z sizeOf24 z)) (ws_q (v := .int .u64 x1935.Index) 12 [13, 14, 15, 16, 17, 18, 19, 20, 21, 22, 23, 24, 25] (by kernel_rfl) z z (yi_run ((wanted_eq z z z (cvb hc1956)).trans z) (fun w hst => x_load z isAgg24 (hst.bc1 z))) ?_))))
 refine ws_e1 13 (by kernel_rfl) ?_
 refine nxe [14, 15, 16, 17, 18, 19, 20, 21, 22, 23, 24, 25] (by kernel_rfl) z ((wanted_eq z z z (cvb hc1956)).trans z) ?_
 clear hst
 intro w hst
 obtain ⟨t1968, ht1969, hm⟩ := bind_some hm
 refine wec call44 [.agg #[U6 x1957.Epoch, U6 x1957.Index, .bool x1957.Del, v1965], U6 x1935.Epoch, U6 x1935.Index] z z ?_
 refine (mvcc_ahead_ref (f1966.mono ro_rd) hst.to0 ht1969).mono ?_
 rintro _ w1970 ⟨rfl, hst⟩
 refine ⟨_, z, ?_⟩
 replace hst := hst.of0
 refine ws_next (pend' := []) hst (by kernel_rfl) pk_nil ?_
 refine ws_q (v := .bool (!t1968)) 14 [15, 16, 17, 18, 19, 20, 21, 22, 23, 24, 25] (by kernel_rfl) z z (yi_run ((wanted_eq z z z (cvb hc1956)).trans z) (fun w hst => z)) (wsr (.bool (!t1968)) 15 z z z (by kernel_rfl) (fun w hst => x_pick_t hc1956 z z) (wsr (.bool (!t1968)) 16 z z z (by kernel_rfl) (fun w hst => z) ?_))
 refine bsplit (!t1968) (fun hc1973 => ?_) (fun hc1973 => ?_)
 {
 replace hm := bif_t hc1973 hm
 refine ws_q (v := undef) 17 [18, 19, 20, 21, 22, 23, 24, 25] (by kernel_rfl) z z (yi_off ((wanted_eq z z z (cvb hc1973)).trans z)) (ws_q (v := undef) 18 [19, 20, 21, 22, 23, 24, 25] (by kernel_rfl) z z (yi_off ((wanted_eq z z z (cvb hc1973)).trans z)) (ws_q (v := undef) 19 [20, 21, 22, 23, 24, 25] (by kernel_rfl) z z (yi_off ((wanted_eq z z z (cvb hc1973)).trans z)) (ws_q (v := undef) 20 [21, 22, 23, 24, 25] (by kernel_rfl) z z (yi_off (wanted_undef z z z z)) (ws_q (v := undef) 21 [22, 23, 24, 25] (by kernel_rfl) z z (yi_off (wanted_undef z z z z)) (ws_q (v := undef) 22 [23, 24, 25] (by kernel_rfl) z z (yi_off (wanted_undef z z z z)) (ws_q (v := undef) 23 [24, 25] (by kernel_rfl) z z (yi_off (wanted_undef z z z z)) (ws_q (v := undef) 24 [25] (by kernel_rfl) z z (yi_off ((wanted_eq z z z (cvb hc1973)).trans z)) (wsr (.bool true) 25 z z z (by kernel_rfl) (fun w hst => x_pick_t hc1973 z z) ?_))))))))
 refine ws_nil ?_
 intro w hst
 replace hst := hst.own_close hq1955
 refine tn ?_
 refine wp_ift z ?_
 refine wp_seq (wrl (wv (.bool false) z z z (wl_nil (tn (wp_ret (blk_r (then_r (then_r ?_))))))))
 replace hm := inr_up hm hx1932
 refine blk_r (blk_r (then_r (then_r ?_)))
 replace hm := inr_up hm hx1782
 refine blk_r (then_r ?_)
 replace hst := hst.pull3.pull1
 replace hst := St.nest_close0 (N := nest_mvcc_row) hst hi1789
 replace hst := hst.pull2
 replace hst := at_mvcc_Store_close (pv := Pt b1383 0) (x := o0) hst z
 replace hst := objO_some hst
 obtain rfl := some_inj hm
 refine post_ret (vs := [.bool false]) results53 (rvs_cons (rv_tmp z) rvs_nil) ?_
 exact ⟨z, hst.keep1⟩
}
 {
 replace hm := bif_f hc1973 hm
 refine ws_q (v := Pt b1947 2) 17 [18, 19, 20, 21, 22, 23, 24, 25] (by kernel_rfl) z z (yi_run ((wanted_eq z z z (cvb hc1973)).trans z) (fun w hst => x_field z underlying52 z sizeOf4 z)) (ws_q (v := .bool x1935.Del) 18 [19, 20, 21, 22, 23, 24, 25] (by kernel_rfl) z z (yi_run ((wanted_eq z z z (cvb hc1973)).trans z) (fun w hst => x_load z isAgg4 (hst.bc1 z))) (ws_q (v := .bool x1935.Del) 19 [20, 21, 22, 23, 24, 25] (by kernel_rfl) z z (yi_run ((wanted_eq z z z (cvb hc1973)).trans z) (fun w hst => z)) ?_))
 refine bsplit x1935.Del (fun hc1974 => ?_) (fun hc1974 => ?_)
 {
 replace hm := bif_t hc1974 hm
 refine ws_q (v := Pt b1947 3) 20 [21, 22, 23, 24, 25] (by kernel_rfl) z z (yi_run ((wanted_eq z z z (cvb hc1974)).trans z) (fun w hst => x_field z underlying52 z sizeOf32 z)) (ws_q (v := v1943) 21 [22, 23, 24, 25] (by kernel_rfl) z z (yi_run ((wanted_eq z z z (cvb hc1974)).trans z) (fun w hst => x_load z isAgg32 (hst.bc1 z))) (ws_q (v := .int .i64 ((x1935.Val).length : Int)) 22 [23, 24, 25] (by kernel_rfl) z z (yi_run ((wanted_eq z z z (cvb hc1974)).trans z) (fun w hst => x_len z underlying32 (ro_sliceV f1944))) (ws_q (v := .bool (decide (((x1935.Val).length : Int) > (0:Int)))) 23 [24, 25] (by kernel_rfl) z z (yi_run ((wanted_eq z z z (cvb hc1974)).trans z) (fun w hst => z)) (ws_q (v := .bool (decide (((x1935.Val).length : Int) > (0:Int)))) 24 [25] (by kernel_rfl) z z (yi_run ((wanted_eq z z z (cvb hc1973)).trans z) (fun w hst => x_pick_t hc1974 z z)) (wsr (.bool (decide (((x1935.Val).length : Int) > (0:Int)))) 25 z z z (by kernel_rfl) (fun w hst => x_pick_f hc1973 z z) ?_)))))
 refine ws_nil ?_
 intro w hst
 replace hst := hst.own_close hq1955
 refine tn ?_
 refine bsplit (decide (((x1935.Val).length : Int) > (0:Int))) (fun hc1975 => ?_) (fun hc1975 => ?_)
 {
 replace hm := bif_t hc1975 hm
 refine wp_ift (cvb hc1975) ?_
 refine wp_seq (wrl (wv (.bool false) z z z (wl_nil (tn (wp_ret (blk_r (then_r (then_r ?_))))))))
 replace hm := inr_up hm hx1932
 refine blk_r (blk_r (then_r (then_r ?_)))
 replace hm := inr_up hm hx1782
 refine blk_r (then_r ?_)
 replace hst := hst.pull3.pull1
 replace hst := St.nest_close0 (N := nest_mvcc_row) hst hi1789
 replace hst := hst.pull2
 replace hst := at_mvcc_Store_close (pv := Pt b1383 0) (x := o0) hst z
 replace hst := objO_some hst
 obtain rfl := some_inj hm
 refine post_ret (vs := [.bool false]) results53 (rvs_cons (rv_tmp z) rvs_nil) ?_
 exact ⟨z, hst.keep1⟩
}
 {
 replace hm := bif_f hc1975 hm
 refine wp_iff (cvb hc1975) ?_
 refine wp_skip (blk_n (tn (wrl ?_)))
 refine wv (.int .i64 (i64.wrap (z1925 + (1:Int)))) z z z (wv (.int .i64 (i64.wrap (z1925 + (1:Int)))) z z z (wl_nil (tn ?_)))
 replace hst := hst.pull4.pull4.pull2.pull4.keep4
 obtain rfl := some_inj hm
 exact ⟨_, Nat.lt_succ_self _, (i64.wrap (z1925 + (1:Int))), _, hx1932, (fu 0 (Pt b1383 0) z (fu 4 (Pt b1793 0) z (fu 10 v1384 z (fu 11 (.int .i64 ((o0.rows).length : Int)) z (fu 12 (.int .i64 z1775) z (fu 49 v1790 z (fu 50 (.int .i64 ((x1785.l).length : Int)) z (fu 51 (.int .i64 (i64.wrap (z1925 + (1:Int)))) z z)))))))), hst⟩
}
}
 {
 replace hm := bif_f hc1974 hm
 refine ws_q (v := undef) 20 [21, 22, 23, 24, 25] (by kernel_rfl) z z (yi_off ((wanted_eq z z z (cvb hc1974)).trans z)) (ws_q (v := undef) 21 [22, 23, 24, 25] (by kernel_rfl) z z (yi_off ((wanted_eq z z z (cvb hc1974)).trans z)) (ws_q (v := undef) 22 [23, 24, 25] (by kernel_rfl) z z (yi_off ((wanted_eq z z z (cvb hc1974)).trans z)) (ws_q (v := undef) 23 [24, 25] (by kernel_rfl) z z (yi_off ((wanted_eq z z z (cvb hc1974)).trans z)) (ws_q (v := .bool false) 24 [25] (by kernel_rfl) z z (yi_run ((wanted_eq z z z (cvb hc1973)).trans z) (fun w hst => x_pick_f hc1974 z z)) (wsr (.bool false) 25 z z z (by kernel_rfl) (fun w hst => x_pick_f hc1973 z z) ?_)))))
 refine ws_nil ?_
 intro w hst
 replace hst := hst.own_close hq1955
 refine tn ?_
 refine wp_iff z ?_
 refine wp_skip (blk_n (tn (wrl ?_)))
 refine wv (.int .i64 (i64.wrap (z1925 + (1:Int)))) z z z (wv (.int .i64 (i64.wrap (z1925 + (1:Int)))) z z z (wl_nil (tn ?_)))
 replace hst := hst.pull4.pull4.pull2.pull4.keep4
 obtain rfl := some_inj hm
 exact ⟨_, Nat.lt_succ_self _, (i64.wrap (z1925 + (1:Int))), _, hx1932, (fu 0 (Pt b1383 0) z (fu 4 (Pt b1793 0) z (fu 10 v1384 z (fu 11 (.int .i64 ((o0.rows).length : Int)) z (fu 12 (.int .i64 z1775) z (fu 49 v1790 z (fu 50 (.int .i64 ((x1785.l).length : Int)) z (fu 51 (.int .i64 (i64.wrap (z1925 + (1:Int)))) z z)))))))), hst⟩
}
}
}
 {
 replace hm := bif_f hc1956 hm
 refine ws_q (v := undef) 3 [4, 5, 6, 7, 8, 9, 10, 11, 12, 13, 14, 15, 16, 17, 18, 19, 20, 21, 22, 23, 24, 25] (by kernel_rfl) z z (yi_off ((wanted_eq z z z (cvb hc1956)).trans z)) (ws_q (v := undef) 4 [5, 6, 7, 8, 9, 10, 11, 12, 13, 14, 15, 16, 17, 18, 19, 20, 21, 22, 23, 24, 25] (by kernel_rfl) z z (yi_off ((wanted_eq z z z (cvb hc1956)).trans z)) (ws_q (v := undef) 5 [6, 7, 8, 9, 10, 11, 12, 13, 14, 15, 16, 17, 18, 19, 20, 21, 22, 23, 24, 25] (by kernel_rfl) z z (yi_off ((wanted_eq z z z (cvb hc1956)).trans z)) (ws_q (v := undef) 6 [7, 8, 9, 10, 11, 12, 13, 14, 15, 16, 17, 18, 19, 20, 21, 22, 23, 24, 25] (by kernel_rfl) z z (yi_off ((wanted_eq z z z (cvb hc1956)).trans z)) (ws_q (v := undef) 7 [8, 9, 10, 11, 12, 13, 14, 15, 16, 17, 18, 19, 20, 21, 22, 23, 24, 25] (by kernel_rfl) z z (yi_off ((wanted_eq z z z (cvb hc1956)).trans z)) (ws_q (v := undef) 8 [9, 10, 11, 12, 13, 14, 15, 16, 17, 18, 19, 20, 21, 22, 23, 24, 25] (by kernel_rfl) z z (yi_off ((wanted_eq z z z (cvb hc1956)).trans z)) (ws_q (v := undef) 9 [10, 11, 12, 13, 14, 15, 16, 17, 18, 19, 20, 21, 22, 23, 24, 25] (by kernel_rfl) z z (yi_off ((wanted_eq z z z (cvb hc1956)).trans z)) (ws_q (v := undef) 10 [11, 12, 13, 14, 15, 16, 17, 18, 19, 20, 21, 22, 23, 24, 25] (by kernel_rfl) z z (yi_off ((wanted_eq z z z (cvb hc1956)).trans z)) (ws_q (v := undef) 11 [12, 13, 14, 15, 16, 17, 18, 19, 20, 21, 22, 23, 24, 25] (by kernel_rfl) z z (yi_off ((wanted_eq z z z (cvb hc1956)).trans z)) (ws_q (v := undef) 12 [13, 14, 15, 16, 17, 18, 19, 20, 21, 22, 23, 24, 25] (by kernel_rfl) z z (yi_off ((wanted_eq z z z (cvb hc1956)).trans z)) (ws_q (v := undef) 13 [14, 15, 16, 17, 18, 19, 20, 21, 22, 23, 24, 25] (by kernel_rfl) z z (yi_off ((wanted_eq z z z (cvb hc1956)).trans z)) (ws_q (v := undef) 14 [15, 16, 17, 18, 19, 20, 21, 22, 23, 24, 25] (by kernel_rfl) z z (yi_off ((wanted_eq z z z (cvb hc1956)).trans z)) (wsr (.bool false) 15 z z z (by kernel_rfl) (fun w hst => x_pick_f hc1956 z z) ?_))))))))))))
 refine wsr (.bool false) 16 z z z (by kernel_rfl) (fun w hst => z) (ws_q (v := Pt b1947 2) 17 [18, 19, 20, 21, 22, 23, 24, 25] (by kernel_rfl) z z (yi_run ((wanted_eq z z z z).trans z) (fun w hst => x_field z underlying52 z sizeOf4 z)) (ws_q (v := .bool x1935.Del) 18 [19, 20, 21, 22, 23, 24, 25] (by kernel_rfl) z z (yi_run ((wanted_eq z z z z).trans z) (fun w hst => x_load z isAgg4 (hst.bc1 z))) (ws_q (v := .bool x1935.Del) 19 [20, 21, 22, 23, 24, 25] (by kernel_rfl) z z (yi_run ((wanted_eq z z z z).trans z) (fun w hst => z)) ?_)))
 refine bsplit x1935.Del (fun hc1976 => ?_) (fun hc1976 => ?_)
 {
 replace hm := bif_t hc1976 hm
 refine ws_q (v := Pt b1947 3) 20 [21, 22, 23, 24, 25] (by kernel_rfl) z z (yi_run ((wanted_eq z z z (cvb hc1976)).trans z) (fun w hst => x_field z underlying52 z sizeOf32 z)) (ws_q (v := v1943) 21 [22, 23, 24, 25] (by kernel_rfl) z z (yi_run ((wanted_eq z z z (cvb hc1976)).trans z) (fun w hst => x_load z isAgg32 (hst.bc1 z))) (ws_q (v := .int .i64 ((x1935.Val).length : Int)) 22 [23, 24, 25] (by kernel_rfl) z z (yi_run ((wanted_eq z z z (cvb hc1976)).trans z) (fun w hst => x_len z underlying32 (ro_sliceV f1944))) (ws_q (v := .bool (decide (((x1935.Val).length : Int) > (0:Int)))) 23 [24, 25] (by kernel_rfl) z z (yi_run ((wanted_eq z z z (cvb hc1976)).trans z) (fun w hst => z)) (ws_q (v := .bool (decide (((x1935.Val).length : Int) > (0:Int)))) 24 [25] (by kernel_rfl) z z (yi_run ((wanted_eq z z z z).trans z) (fun w hst => x_pick_t hc1976 z z)) (wsr (.bool (decide (((x1935.Val).length : Int) > (0:Int)))) 25 z z z (by kernel_rfl) (fun w hst => x_pick_f z z z) ?_)))))
 refine ws_nil ?_
 intro w hst
 replace hst := hst.own_close hq1955
 refine tn ?_
 refine bsplit (decide (((x1935.Val).length : Int) > (0:Int))) (fun hc1977 => ?_) (fun hc1977 => ?_)
 {
 replace hm := bif_t hc1977 hm
 refine wp_ift (cvb hc1977) ?_
 refine wp_seq (wrl (wv (.bool false) z z z (wl_nil (tn (wp_ret (blk_r (then_r (then_r ?_))))))))
 replace hm := inr_up hm hx1932
 refine blk_r (blk_r (then_r (then_r ?_)))
 replace hm := inr_up hm hx1782
 refine blk_r (then_r ?_)
 replace hst := hst.pull3.pull1
 replace hst := St.nest_close0 (N := nest_mvcc_row) hst hi1789
 replace hst := hst.pull2
 replace hst := at_mvcc_Store_close (pv := Pt b1383 0) (x := o0) hst z
 replace hst := objO_some hst
 obtain rfl := some_inj hm
 refine post_ret (vs := [.bool false]) results53 (rvs_cons (rv_tmp z) rvs_nil) ?_
 exact ⟨z, hst.keep1⟩
}
 {
 replace hm := bif_f hc1977 hm
 refine wp_iff (cvb hc1977) ?_
 refine wp_skip (blk_n (tn (wrl ?_)))
 refine wv (.int .i64 (i64.wrap (z1925 + (1:Int)))) z z z (wv (.int .i64 (i64.wrap (z1925 + (1:Int)))) z z z (wl_nil (tn ?_)))
 replace hst := hst.pull4.pull4.pull2.pull4.keep4
 obtain rfl := some_inj hm
 exact ⟨_, Nat.lt_succ_self _, (i64.wrap (z1925 + (1:Int))), _, hx1932, (fu 0 (Pt b1383 0) z (fu 4 (Pt b1793 0) z (fu 10 v1384 z (fu 11 (.int .i64 ((o0.rows).length : Int)) z (fu 12 (.int .i64 z1775) z (fu 49 v1790 z (fu 50 (.int .i64 ((x1785.l).length : Int)) z (fu 51 (.int .i64 (i64.wrap (z1925 + (1:Int)))) z z)))))))), hst⟩
}
}
 {
 replace hm := bif_f hc1976 hm
 refine ws_q (v := undef) 20 [21, 22, 23, 24, 25] (by kernel_rfl) z z (yi_off ((wanted_eq z z z (cvb hc1976)).trans z)) (ws_q (v := undef) 21 [22, 23, 24, 25] (by kernel_rfl) z z (yi_off ((wanted_eq z z z (cvb hc1976)).trans z)) (ws_q (v := undef) 22 [23, 24, 25] (by kernel_rfl) z z (yi_off ((wanted_eq z z z (cvb hc1976)).trans z)) (ws_q (v := undef) 23 [24, 25] (by kernel_rfl) z z (yi_off ((wanted_eq z z z (cvb hc1976)).trans z)) (ws_q (v := .bool false) 24 [25] (by kernel_rfl) z z (yi_run ((wanted_eq z z z z).trans z) (fun w hst => x_pick_f hc1976 z z)) (wsr (.bool false) 25 z z z (by kernel_rfl) (fun w hst => x_pick_f z z z) ?_)))))
 refine ws_nil ?_
 intro w hst
 replace hst := hst.own_close hq1955
 refine tn ?_
 refine wp_iff z ?_
 refine wp_skip (blk_n (tn (wrl ?_)))
 refine wv (.int .i64 (i64.wrap (z1925 + (1:Int)))) z z z (wv (.int .i64 (i64.wrap (z1925 + (1:Int)))) z z z (wl_nil (tn ?_)))
 replace hst := hst.pull4.pull4.pull2.pull4.keep4
 obtain rfl := some_inj hm
 exact ⟨_, Nat.lt_succ_self _, (i64.wrap (z1925 + (1:Int))), _, hx1932, (fu 0 (Pt b1383 0) z (fu 4 (Pt b1793 0) z (fu 10 v1384 z (fu 11 (.int .i64 ((o0.rows).length : Int)) z (fu 12 (.int .i64 z1775) z (fu 49 v1790 z (fu 50 (.int .i64 ((x1785.l).length : Int)) z (fu 51 (.int .i64 (i64.wrap (z1925 + (1:Int)))) z z)))))))), hst⟩
}
}
}
 {
 replace hm := bif_f hc1934 hm
 refine wp_iff (cvb hc1934) ?_
 refine wp_exit (then_x (then_x ?_))
 replace hm := inr_up hm hx1932
 refine blk_x (blk_n (tn (wrl ?_)))
 refine wv (.int .i64 (i64.wrap (z1775 + (1:Int)))) z z z (wv (.int .i64 (i64.wrap (z1775 + (1:Int)))) z z z (wl_nil (tn ?_)))
 replace hst := hst.pull2.pull2
 replace hst := St.nest_close0 (N := nest_mvcc_row) hst hi1789
 replace hst := hst.pull1.keep2
 obtain rfl := some_inj hm
 exact ⟨_, Nat.lt_succ_self _, (i64.wrap (z1775 + (1:Int))), _, hx1782, (fu 0 (Pt b1383 0) z (fu 10 v1384 z (fu 11 (.int .i64 ((o0.rows).length : Int)) z (fu 12 (.int .i64 (i64.wrap (z1775 + (1:Int)))) z z)))), hst⟩
}
}
}
 {
 replace hm := bif_f hc1784 hm
 refine wp_iff (cvb hc1784) ?_
 refine wp_exit (then_x (then_x ?_))
 replace hm := inr_up hm hx1782
 refine blk_x (tn (wp_seq (wrl ?_)))
 refine wv (.bool true) z z z (wl_nil (tn (wp_ret ?_)))
 replace hst := hst.pull1.pull1
 replace hst := at_mvcc_Store_close (pv := Pt b1383 0) (x := o0) hst z
 replace hst := objO_some hst
 obtain rfl := some_inj hm
 refine post_ret (vs := [.bool true]) results53 (rvs_cons (rv_tmp z) rvs_nil) ?_
 exact ⟨z, hst.keep1⟩
}
}
}

theorem mvcc_Decode_ref {w0 w : World} {I : HL} {R : SP} {a0 : (List Int)} {r0_0 : Value} (f0_0 : Ro (tyInt .u8) I r0_0 a0) (hst : St w0 w I [] R) {r : (Option mvcc_Store × Int)} (hm : mvcc_Decode a0 = some r) :
  Calls prog 26 #[r0_0] w fun e w' => ∃ (I' : HL) (q0 : Value), e = .returned (.tuple #[q0, I6 r.2]) ∧ I.le I' ∧ St w0 w' I' [objO at_mvcc_Store q0 r.1] R := by {
 unfold mvcc_Decode at hm
 refine calls_start (args := [r0_0]) func26 z ntmps26 (Nat.le_of_ble_eq_true z) ?_
 have hI0 := HL.le.refl I
 refine wp_seq (wrl (wv (.pointer none) z z z (wv (.int .i64 (0:Int)) z z z (wl_nil (tn (wp_seq (wrl (wv (r0_0) z z z ?_))))))))
 obtain ⟨t793, ht794, hm⟩ := bind_some hm
 refine wc call46 [r0_0] z z z ?_
 refine (octet_Read_ref f0_0 hst.to0 ht794).mono ?_
 rintro _ w795 ⟨v798, rfl, hst⟩
 refine ⟨_, z, ?_⟩
 replace hst := hst.of1
 refine wv (v798) z z z (wl_nil (tn (wp_seq (wrl ?_))))
 obtain ⟨t800, ht801, hm⟩ := bind_some hm
 refine wc call21 [] z z z ?_
 refine (mvcc_New_ref hst.to0 ht801).mono ?_
 rintro _ w802 ⟨v805, rfl, hst⟩
 refine ⟨_, z, ?_⟩
 replace hst := hst.of1
 refine wv (v805) z z z (wl_nil (tn (wp_seq (wrl (wv (v798) z z z (wv (v798) z z z ?_))))))
 replace hst := hst.pull1
 obtain ⟨t807, ht808, hm⟩ := bind_some hm
 refine wc call48 [v798] z z z ?_
 refine (octet_Reader_Left_ref hst.to1 ht808).mono ?_
 rintro _ w809 ⟨rfl, hst⟩
 refine ⟨_, z, ?_⟩
 replace hst := hst.of1
 obtain ⟨t812, ht813, hm⟩ := bind_some hm
 refine wc call47 [v798, I6 t807] z z z ?_
 refine (octet_Reader_Count_ref hst.to1 ht813).mono ?_
 rintro _ w814 ⟨rfl, hst⟩
 refine ⟨_, z, ?_⟩
 replace hst := hst.of1
 refine wv (.int .i64 t812.1) z z z (wl_nil (tn ?_))
 obtain ⟨y1533, hm, hx1534⟩ := bind_some hm
 refine wp_cut (fun a w => ∃ (I1530 : HL) (z1528 : octet_Reader) (z1529 : mvcc_Store) (σ1531 : Nat → Value), (mvcc_Decode_j0) (z1528, z1529) = some r ∧ a = Fr 64 (upd (upd σ1531 4 (v798)) 5 (v805)) ∧ I.le I1530 ∧ St w0 w I1530 [at_octet_Reader v798 z1528, at_mvcc_Store v805 z1529] R) ?_ ?_
 {
 have hL1535 := HL.le.refl I
 refine wp_seq (wrl (wv (.int .i64 t812.1) z z z (wv (.int .i64 (0:Int)) z z z (wl_nil (tn (wp_block ?_))))))
 obtain ⟨n1289, hm⟩ := loopO_some hm
 refine wp_loop_n (fun n a w => ∃ (I1287 : HL) (z1284 : octet_Reader) (z1285 : mvcc_Store) (z1286 : Int) (σ1288 : Nat → Value), loopN (mvcc_Decode_l1 t812) n (z1284, z1285, z1286) = some y1533 ∧ a = Fr 64 (upd (upd (upd (upd σ1288 4 (v798)) 5 (v805)) 16 (.int .i64 t812.1)) 17 (.int .i64 z1286)) ∧ I.le I1287 ∧ St w0 w I1287 [at_octet_Reader v798 z1284, at_mvcc_Store v805 z1285] R) n1289 ⟨_, t812.2, t800, (0:Int), _, hm, (fu 4 v798 z (fu 5 v805 z (fu 16 (.int .i64 t812.1) z (fu 17 (.int .i64 (0:Int)) z z)))), (HL.le.refl _), hst⟩ ?_
 rintro n1295 _ w1290 ⟨I1287, z1284, z1285, z1286, σ1288, hm, rfl, hL1291, hst⟩
 obtain ⟨n1292, y1293, rfl, hm, hx1294⟩ := loopN_some hm
 dsimp only [mvcc_Decode_l1] at hm
 replace f0_0 := f0_0.mono (ro_le hL1291)
 replace hI0 := hI0.trans hL1291
 replace hL1535 := hL1535.trans hL1291
 refine wp_seq (wrl (wv (.bool (decide (z1286 < t812.1))) z z z (wl_nil (tn (wp_seq ?_)))))
 refine bsplit (decide (z1286 < t812.1)) (fun hc1296 => ?_) (fun hc1296 => ?_)
 {
 replace hm := bif_t hc1296 hm
 refine wp_ift (cvb hc1296) ?_
 refine wp_skip (tn (wp_seq (wp_block (wp_seq (wrl ?_)))))
 refine wv (v798) z z z ?_
 obtain ⟨t1297, ht1298, hm⟩ := bind_some hm
 refine wc call49 [v798, I6 (8:Int)] z z z ?_
 refine (octet_Reader_Num_ref hst.to1 ht1298).mono ?_
 rintro _ w1299 ⟨rfl, hst⟩
 refine ⟨_, z, ?_⟩
 replace hst := hst.of1
 refine wv (.agg #[U6 t1297.1, Zs]) z z (by kernel_rfl) ?_
 obtain ⟨b1304, w1305, ew1306, eb1307, hst⟩ := hst.box [Zu, Zs] 76
 refine wl_run (v := Pt b1304 0) (w' := w1305) z z (x_al (by kernel_rfl) ew1306 eb1307) ?_
 obtain ⟨w1309, hr1310, hst⟩ := hst.bx [U6 t1297.1, Zs] sizeOf76 z (oC z (oC z oN)) (by kernel_rfl)
 refine wl_unit z z (x_unit hr1310) ?_
 refine wl_nil (tn (wp_seq (wrl (wv (v798) z z z (wv (v798) z z z ?_)))))
 replace hst := hst.pull1
 obtain ⟨t1311, ht1312, hm⟩ := bind_some hm
 refine wc call48 [v798] z z z ?_
 refine (octet_Reader_Left_ref hst.to1 ht1312).mono ?_
 rintro _ w1313 ⟨rfl, hst⟩
 refine ⟨_, z, ?_⟩
 replace hst := hst.of1
 obtain ⟨t1316, ht1317, hm⟩ := bind_some hm
 refine wc call47 [v798, I6 t1311] z z z ?_
 refine (octet_Reader_Count_ref hst.to1 ht1317).mono ?_
 rintro _ w1318 ⟨rfl, hst⟩
 refine ⟨_, z, ?_⟩
 replace hst := hst.of1
 refine wv (.int .i64 t1316.1) z z z (wl_nil (tn ?_))
 obtain ⟨y1507, hm, hx1508⟩ := bind_some hm
 refine wp_cut (fun a w => ∃ (I1504 : HL) (z1500 : octet_Reader) (z1503 : (List mvcc_Version)) (v1502 : Value) (σ1505 : Nat → Value), (mvcc_Decode_j2 z1285 t1297 z1286) (z1500, z1503) = some y1293 ∧ a = Fr 64 (upd (upd (upd (upd (upd σ1505 4 (v798)) 5 (v805)) 7 (Pt b1304 0)) 16 (.int .i64 t812.1)) 17 (.int .i64 z1286)) ∧ I1287.le I1504 ∧ St w0 w I1504 [at_octet_Reader v798 z1500, at_mvcc_Store v805 z1285, cells b1304 [U6 t1297.1, v1502], ownS ty_mvcc_Version v1502 z1503] R) ?_ ?_
 {
 have hL1509 := HL.le.refl I1287
 refine wp_seq (wrl (wv (.int .i64 t1316.1) z z z (wv (.int .i64 (0:Int)) z z z (wl_nil (tn (wp_block ?_))))))
 replace hst := hst.own_nil ty_mvcc_Version
 obtain ⟨n1453, hm⟩ := loopO_some hm
 refine wp_loop_n (fun n a w => ∃ (I1451 : HL) (z1446 : (List mvcc_Version)) (z1449 : octet_Reader) (z1450 : Int) (v1447 : Value) (σ1452 : Nat → Value), loopN (mvcc_Decode_l3 t1316) n (z1446, z1449, z1450) = some y1507 ∧ a = Fr 64 (upd (upd (upd (upd (upd (upd (upd σ1452 4 (v798)) 5 (v805)) 7 (Pt b1304 0)) 16 (.int .i64 t812.1)) 17 (.int .i64 z1286)) 26 (.int .i64 t1316.1)) 27 (.int .i64 z1450)) ∧ I1287.le I1451 ∧ St w0 w I1451 [ownS ty_mvcc_Version v1447 z1446, at_octet_Reader v798 z1449, cells b1304 [U6 t1297.1, v1447], at_mvcc_Store v805 z1285] R) n1453 ⟨_, [], t1316.2, (0:Int), Zs, _, hm, (fu 4 v798 z (fu 5 v805 z (fu 7 (Pt b1304 0) z (fu 16 (.int .i64 t812.1) z (fu 17 (.int .i64 z1286) z (fu 26 (.int .i64 t1316.1) z (fu 27 (.int .i64 (0:Int)) z z))))))), (HL.le.refl _), hst⟩ ?_
 rintro n1459 _ w1454 ⟨I1451, z1446, z1449, z1450, v1447, σ1452, hm, rfl, hL1455, hst⟩
 obtain ⟨n1456, y1457, rfl, hm, hx1458⟩ := loopN_some hm
 dsimp only [mvcc_Decode_l3] at hm
 replace f0_0 := f0_0.mono (ro_le hL1455)
 replace hI0 := hI0.trans hL1455
 replace hL1535 := hL1535.trans hL1455
 replace hL1291 := hL1291.trans hL1455
 replace hL1509 := hL1509.trans hL1455
 refine wp_seq (wrl (wv (.bool (decide (z1450 < t1316.1))) z z z (wl_nil (tn (wp_seq ?_)))))
 refine bsplit (decide (z1450 < t1316.1)) (fun hc1460 => ?_) (fun hc1460 => ?_)
 {
 replace hm := bif_t hc1460 hm
 refine wp_ift (cvb hc1460) ?_
 refine wp_skip (tn (wp_seq (wp_block ?_)))
 refine wp_region_St hst 15 [0, 1, 2, 3, 4, 5, 6, 7, 8, 9, 10, 11, 12, 13, 14] [0, 1, 0, 4, 0, 28, 0, 124, 0, 508, 1020, 2044, 4095, 8191, 16383] [] z (by kernel_rfl) (by kernel_rfl) Try.mixed (by kernel_rfl) ?_
 refine wsr (Pt b1304 1) 0 z z z (by kernel_rfl) (fun w hst => x_field z underlying76 z sizeOf53 z) (wsr (v1447) 1 z z z (by kernel_rfl) (fun w hst => x_load z isAgg53 (hst.bc2 z)) (wsr (v798) 2 z z z (by kernel_rfl) (fun w hst => z) (wsr (v798) 4 z z z (by kernel_rfl) (fun w hst => z) (wsr (v798) 6 z z z (by kernel_rfl) (fun w hst => z) (wsr (v798) 8 z z z (by kernel_rfl) (fun w hst => z) ?_)))))
 refine ws_e1 3 (by kernel_rfl) ?_
 refine nxe [5, 7, 9, 10, 11, 12, 13, 14] (by kernel_rfl) z z ?_
 clear hst
 intro w hst
 replace hst := hst.pull1
 obtain ⟨t1461, ht1462, hm⟩ := bind_some hm
 refine wec call49 [v798, I6 (8:Int)] z z ?_
 refine (octet_Reader_Num_ref hst.to1 ht1462).mono ?_
 rintro _ w1463 ⟨rfl, hst⟩
 refine ⟨_, z, ?_⟩
 replace hst := hst.of1
 refine ws_next (pend' := [(8, v798), (6, v798), (4, v798), (1, v1447), (0, Pt b1304 1)]) hst (by kernel_rfl) (pkr z z (fun w hst => z) (pkr z z (fun w hst => z) (pkr z z (fun w hst => z) (pkr z z (fun w hst => x_load z isAgg53 (hst.bc2 z)) (pkr z z (fun w hst => x_field z underlying76 z sizeOf53 z) pk_nil))))) ?_
 refine ws_e1 5 (by kernel_rfl) ?_
 refine nxe [7, 9, 10, 11, 12, 13, 14] (by kernel_rfl) z z ?_
 clear hst
 intro w hst
 obtain ⟨t1466, ht1467, hm⟩ := bind_some hm
 refine wec call49 [v798, I6 (8:Int)] z z ?_
 refine (octet_Reader_Num_ref hst.to1 ht1467).mono ?_
 rintro _ w1468 ⟨rfl, hst⟩
 refine ⟨_, z, ?_⟩
 replace hst := hst.of1
 refine ws_next (pend' := [(8, v798), (6, v798), (1, v1447), (0, Pt b1304 1)]) hst (by kernel_rfl) (pkr z z (fun w hst => z) (pkr z z (fun w hst => z) (pkr z z (fun w hst => x_load z isAgg53 (hst.bc2 z)) (pkr z z (fun w hst => x_field z underlying76 z sizeOf53 z) pk_nil)))) ?_
 refine ws_e1 7 (by kernel_rfl) ?_
 refine nxe [9, 10, 11, 12, 13, 14] (by kernel_rfl) z z ?_
 clear hst
 intro w hst
 obtain ⟨t1471, ht1472, hm⟩ := bind_some hm
 refine wec call50 [v798] z z ?_
 refine (octet_Reader_Flag_ref hst.to1 ht1472).mono ?_
 rintro _ w1473 ⟨rfl, hst⟩
 refine ⟨_, z, ?_⟩
 replace hst := hst.of1
 refine ws_next (pend' := [(8, v798), (1, v1447), (0, Pt b1304 1)]) hst (by kernel_rfl) (pkr z z (fun w hst => z) (pkr z z (fun w hst => x_load z isAgg53 (hst.bc2 z)) (pkr z z (fun w hst => x_field z underlying76 z sizeOf53 z) pk_nil))) ?_
 refine ws_e1 9 (by kernel_rfl) ?_
 refine nxe [10, 11, 12, 13, 14] (by kernel_rfl) z z ?_
 clear hst
 intro w hst
 obtain ⟨t1476, ht1477, hm⟩ := bind_some hm
 refine wec call51 [v798, I6 (256:Int)] z z ?_
 refine (octet_Reader_Bytes_ref hst.to1 ht1477).mono ?_
 rintro _ w1478 ⟨v1481, rfl, hst⟩
 refine ⟨_, z, ?_⟩
 replace hst := hst.of2
 refine ws_next (pend' := [(1, v1447), (0, Pt b1304 1)]) hst (by kernel_rfl) (pkr z z (fun w hst => x_load z isAgg53 (hst.bc3 z)) (pkr z z (fun w hst => x_field z underlying76 z sizeOf53 z) pk_nil)) ?_
 refine wsr (.agg #[U6 t1461.1, U6 t1466.1, .bool t1471.1, v1481]) 10 rfl rfl rfl (by kernel_rfl) (fun w hst => by obtain ⟨_, _, hv_, _⟩ := hst.sv0; rw [hv_]; kernel_rfl) ?_
 refine ws_e1 11 (by kernel_rfl) ?_
 refine nxe [12, 13, 14] (by kernel_rfl) z z ?_
 clear hst
 intro w hst
 obtain ⟨I1485, hI1486, f1487, hst⟩ := hst.own_fix
 replace f0_0 := f0_0.mono (ro_le hI1486)
 replace hI0 := hI0.trans hI1486
 replace hL1535 := hL1535.trans hI1486
 replace hL1291 := hL1291.trans hI1486
 replace hL1509 := hL1509.trans hI1486
 replace hL1455 := hL1455.trans hI1486
 obtain ⟨b1488, w1489, ew1490, eb1491, hst⟩ := hst.lits (E := ty_mvcc_Version) (xs := [({ Epoch := t1461.1, Index := t1466.1, Del := t1471.1, Val := t1476.1 } : mvcc_Version)]) [[U6 t1461.1, U6 t1466.1, .bool t1471.1, v1481]] 52 1 z (Reps.cons ⟨_, z, f1487, one_of_sliceV (ro_sliceV f1487)⟩ Reps.nil)
 refine we_run (v := (.slice (some ⟨b1488, 0, none⟩) 1 1)) (w' := w1489) z (x_als (by kernel_rfl) ew1490 eb1491) ?_
 refine ws_next (pend' := [(1, v1447), (0, Pt b1304 1)]) hst (by kernel_rfl) (pkr z z (fun w hst => x_load z isAgg53 (hst.bc3 z)) (pkr z z (fun w hst => x_field z underlying76 z sizeOf53 z) pk_nil)) ?_
 refine ws_e1 12 (by kernel_rfl) ?_
 refine nxe [13, 14] (by kernel_rfl) z z ?_
 clear hst
 intro w hst
 obtain ⟨hg1493, hm⟩ := gd_some hm
 replace hst := hst.pull2
 obtain ⟨v1494, w1495, hr1496, hst⟩ := run_append elem_53 underlying53 hst hst.src1 (room_of hg1493 z) 53
 refine we_run (v := v1494) (w' := w1495) z (x_append z z hr1496) ?_
 refine ws_next (pend' := []) hst (by kernel_rfl) pk_nil ?_
 refine wsr (Pt b1304 1) 13 z z z (by kernel_rfl) (fun w hst => x_field z underlying76 z sizeOf53 z) ?_
 refine ws_e1 14 (by kernel_rfl) ?_
 refine nxe [] (by kernel_rfl) z z ?_
 clear hst
 intro w hst
 replace hst := hst.pull3
 obtain ⟨w1498, hr1499, hst⟩ := hst.boxStore1 (P := prog) (t := 53) (cs' := [U6 t1297.1, v1494]) 1 v1494 (one_of_sliceV hst.sv1) sizeOf53 z z
 refine we_unit z (x_unit hr1499) ?_
 refine ws_next (pend' := []) hst (by kernel_rfl) pk_nil ?_
 refine ws_nil ?_
 intro w hst
 refine blk_n (tn (wrl ?_))
 refine wv (.int .i64 (i64.wrap (z1450 + (1:Int)))) z z z (wv (.int .i64 (i64.wrap (z1450 + (1:Int)))) z z z (wl_nil (tn ?_)))
 replace hst := hst.pull4.pull1.pull4.pull3.keep4
 obtain rfl := some_inj hm
 exact ⟨_, Nat.lt_succ_self _, _, (z1446 ++ ([({ Epoch := t1461.1, Index := t1466.1, Del := t1471.1, Val := t1476.1 } : mvcc_Version)])), t1476.2, (i64.wrap (z1450 + (1:Int))), v1494, _, hx1458, (fu 4 v798 z (fu 5 v805 z (fu 7 (Pt b1304 0) z (fu 16 (.int .i64 t812.1) z (fu 17 (.int .i64 z1286) z (fu 26 (.int .i64 t1316.1) z (fu 27 (.int .i64 (i64.wrap (z1450 + (1:Int)))) z z))))))), hL1455, hst⟩
}
 {
 replace hm := bif_f hc1460 hm
 refine wp_iff (cvb hc1460) ?_
 refine wp_exit (then_x (then_x ?_))
 replace hm := inr_up hm hx1458
 refine blk_x (tn ?_)
 replace hst := hst.pull2.pull3.pull3.keep4
 obtain rfl := some_inj hm
 exact ⟨_, z1449, z1446, v1447, _, hx1508, (fu 4 v798 z (fu 5 v805 z (fu 7 (Pt b1304 0) z (fu 16 (.int .i64 t812.1) z (fu 17 (.int .i64 z1286) z z))))), hL1509, hst⟩
}
}
 {
 clear hst
 rintro _ w1510 ⟨I1504, z1500, z1503, v1502, σ1505, hm, rfl, hL1506, hst⟩
 dsimp only [mvcc_Decode_j2] at hm
 replace f0_0 := f0_0.mono (ro_le hL1506)
 replace hI0 := hI0.trans hL1506
 replace hL1535 := hL1535.trans hL1506
 replace hL1291 := hL1291.trans hL1506
 replace hst := hst.pull1
 obtain ⟨b1511, v1512, rfl, hst'⟩ := at_mvcc_Store_open hst
 clear hst
 have hst := hst'
 clear hst'
 refine wp_region_St hst 11 [0, 1, 2, 3, 4, 5, 6, 7, 8, 9, 10] [0, 0, 2, 6, 14, 0, 32, 126, 255, 511, 1023] [] z (by kernel_rfl) (by kernel_rfl) Try.mixed (by kernel_rfl) ?_
 refine wsr (Pt b1511 0) 0 z z z (by kernel_rfl) (fun w hst => z) (wsr (Pt b1511 0) 1 z z z (by kernel_rfl) (fun w hst => z) (wsr (Pt b1511 0) 2 z z z (by kernel_rfl) (fun w hst => z) (wsr (Pt b1511 0) 3 z z z (by kernel_rfl) (fun w hst => x_field z underlying79 z sizeOf77 z) (wsr (v1512) 4 z z z (by kernel_rfl) (fun w hst => x_load z isAgg77 (hst.bc0 z)) (wsr (.agg #[U6 t1297.1, v1502]) 5 z z z (by kernel_rfl) (fun w hst => x_loadN (cs := [U6 t1297.1, v1502]) z isAgg76 sizeOf76 (hst.bcs3 0 z)) ?_)))))
 refine ws_e1 6 (by kernel_rfl) ?_
 refine nxe [7, 8, 9, 10] (by kernel_rfl) z z ?_
 clear hst
 intro w hst
 replace hst := hst.pull4
 have hv1520 := hst.sv0
 obtain ⟨b1515, w1516, ew1517, eb1518, hst⟩ := hst.nest_one (N := nest_mvcc_row) (x := ({ rank := t1297.1, l := z1503 } : mvcc_row)) 76
 refine we_run (v := (.slice (some ⟨b1515, 0, none⟩) 1 1)) (w' := w1516) z (x_als (by obtain ⟨_, _, hv_, _⟩ := hv1520; rw [hv_]; kernel_rfl) ew1517 eb1518) ?_
 refine ws_next (pend' := [(4, v1512), (3, Pt b1511 0), (2, Pt b1511 0), (1, Pt b1511 0), (0, Pt b1511 0)]) hst (by kernel_rfl) (pkr z z (fun w hst => x_load z isAgg77 (hst.bc1 z)) (pkr z z (fun w hst => x_field z underlying79 z sizeOf77 z) (pkr z z (fun w hst => z) (pkr z z (fun w hst => z) (pkr z z (fun w hst => z) pk_nil))))) ?_
 refine ws_e1 7 (by kernel_rfl) ?_
 refine nxe [8, 9, 10] (by kernel_rfl) z z ?_
 clear hst
 intro w hst
 obtain ⟨hg1521, hm⟩ := gd_some hm
 replace hst := hst.pull2.pull1.pull1
 obtain ⟨v1522, w1523, hr1524, hst⟩ := run_appN (N := nest_mvcc_row) elemN_77 underlying77 hst (room_of hg1521 z) 77
 refine we_run (v := v1522) (w' := w1523) z (x_append z z hr1524) ?_
 refine ws_next (pend' := [(0, Pt b1511 0)]) hst (by kernel_rfl) (pkr z z (fun w hst => z) pk_nil) ?_
 refine wsr (Pt b1511 0) 8 z z z (by kernel_rfl) (fun w hst => z) (wsr (Pt b1511 0) 9 z z z (by kernel_rfl) (fun w hst => x_field z underlying79 z sizeOf77 z) ?_)
 refine ws_e1 10 (by kernel_rfl) ?_
 refine nxe [] (by kernel_rfl) z z ?_
 clear hst
 intro w hst
 replace hst := hst.pull1
 obtain ⟨w1526, hr1527, hst⟩ := hst.boxStore1 (P := prog) (t := 77) (cs' := [v1522]) 0 v1522 (one_of_sliceV (hst.nestsv 1 z)) sizeOf77 z z
 refine we_unit z (x_unit hr1527) ?_
 refine ws_next (pend' := []) hst (by kernel_rfl) pk_nil ?_
 refine ws_nil ?_
 intro w hst
 refine blk_n (tn (wrl ?_))
 refine wv (.int .i64 (i64.wrap (z1286 + (1:Int)))) z z z (wv (.int .i64 (i64.wrap (z1286 + (1:Int)))) z z z (wl_nil (tn ?_)))
 replace hst := hst.pull1.pull1
 replace hst := at_mvcc_Store_close (pv := Pt b1511 0) (x := ({ rows := (z1285.rows ++ ([({ rank := t1297.1, l := z1503 } : mvcc_row)])) } : mvcc_Store)) hst z
 replace hst := hst.pull1.keep2
 obtain rfl := some_inj hm
 exact ⟨_, Nat.lt_succ_self _, _, z1500, ({ rows := (z1285.rows ++ ([({ rank := t1297.1, l := z1503 } : mvcc_row)])) } : mvcc_Store), (i64.wrap (z1286 + (1:Int))), _, hx1294, (fu 4 v798 z (fu 5 (Pt b1511 0) z (fu 16 (.int .i64 t812.1) z (fu 17 (.int .i64 (i64.wrap (z1286 + (1:Int)))) z z)))), hL1291, hst⟩
}
}
 {
 replace hm := bif_f hc1296 hm
 refine wp_iff (cvb hc1296) ?_
 refine wp_exit (then_x (then_x ?_))
 replace hm := inr_up hm hx1294
 refine blk_x (tn ?_)
 replace hst := hst.pull1.pull1.keep2
 obtain rfl := some_inj hm
 exact ⟨_, z1284, z1285, _, hx1534, (fu 4 v798 z (fu 5 v805 z z)), hL1535, hst⟩
}
}
 {
 clear hst
 rintro _ w1536 ⟨I1530, z1528, z1529, σ1531, hm, rfl, hL1532, hst⟩
 dsimp only [mvcc_Decode_j0] at hm
 replace f0_0 := f0_0.mono (ro_le hL1532)
 replace hI0 := hI0.trans hL1532
 refine wp_seq (wp_seq (wrl (wv (v798) z z z ?_)))
 obtain ⟨t1537, ht1538, hm⟩ := bind_some hm
 refine wc call52 [v798] z z z ?_
 refine (octet_Reader_End_ref hst.to1 ht1538).mono ?_
 rintro _ w1539 ⟨rfl, hst⟩
 refine ⟨_, z, ?_⟩
 replace hst := hst.of1
 refine wv (.bool (!t1537)) z z z (wv (.bool (!t1537)) z z z ?_)
 refine bsplit (!t1537) (fun hc1542 => ?_) (fun hc1542 => ?_)
 {
 replace hm := bif_t hc1542 hm
 refine wo hc1542 z z z z z z (wo hc1542 z z z z z z (wo hc1542 z z z z z z (wv (.bool true) z z (x_pick_t hc1542 z z) (wl_nil (tn ?_)))))
 refine wp_ift z ?_
 refine wp_seq (wrl (wv (.pointer none) z z z (wv (.int .i64 (5:Int)) z z z (wl_nil (tn (wp_ret (then_r ?_)))))))
 replace hst := hst.objO_nil at_mvcc_Store
 obtain rfl := some_inj hm
 refine post_ret (vs := [.pointer none, I6 (5:Int)]) results26 (rvs_cons (rv_tmp z) (rvs_cons (rv_tmp z) rvs_nil)) ?_
 exact ⟨_, .pointer none, z, hI0, hst.keep1⟩
}
 {
 replace hm := bif_f hc1542 hm
 refine wv (v805) ((wanted_eq z z z (cvb hc1542)).trans z) z z ?_
 replace hst := hst.pull1
 replace hst := objO_some hst
 obtain ⟨t1544, ht1545, hm⟩ := bind_some hm
 refine wl_call ((wanted_eq z z z (cvb hc1542)).trans z) z (x_call call53 z (vs := [v805]) z) ?_
 refine (mvcc_Store_right_ref hst.to1 ht1545).mono ?_
 rintro _ w1546 ⟨rfl, hst⟩
 refine ⟨_, z, ?_⟩
 replace hst := hst.of1
 replace hst := objO_get hst
 refine wv (.bool (!t1544)) ((wanted_eq z z z (cvb hc1542)).trans z) z z (wv (.bool (!t1544)) z z (x_pick_f hc1542 z z) (wl_nil (tn ?_)))
 refine bsplit (!t1544) (fun hc1549 => ?_) (fun hc1549 => ?_)
 {
 replace hm := bif_t hc1549 hm
 refine wp_ift (cvb hc1549) ?_
 refine wp_seq (wrl (wv (.pointer none) z z z (wv (.int .i64 (5:Int)) z z z (wl_nil (tn (wp_ret (then_r ?_)))))))
 replace hst := hst.objO_nil at_mvcc_Store
 obtain rfl := some_inj hm
 refine post_ret (vs := [.pointer none, I6 (5:Int)]) results26 (rvs_cons (rv_tmp z) (rvs_cons (rv_tmp z) rvs_nil)) ?_
 exact ⟨_, .pointer none, z, hI0, hst.keep1⟩
}
 {
 replace hm := bif_f hc1549 hm
 refine wp_iff (cvb hc1549) ?_
 refine wp_skip (tn (wp_seq (wrl ?_)))
 refine wv (v805) z z z (wv (v805) z z z (wv (.int .i64 (0:Int)) z z z (wl_nil (tn (wp_ret ?_)))))
 replace hst := objO_some hst
 obtain rfl := some_inj hm
 refine post_ret (vs := [v805, Zi]) results26 (rvs_cons (rv_tmp z) (rvs_cons (rv_tmp z) rvs_nil)) ?_
 exact ⟨_, v805, z, hI0, hst.keep1⟩
}
}
}
}

theorem mvcc_Store_Len_ref {w0 w : World} {I : HL} {R : SP} {a0 : (Option mvcc_Store)} {p0 : Value}  (hst : St w0 w I [objO at_mvcc_Store p0 a0] R) {r : (Int)} (hm : mvcc_Store_Len a0 = some r) :
  Calls prog 24 #[p0] w fun e w' => e = .returned (.int .i64 r) ∧ St w0 w' I [objO at_mvcc_Store p0 a0] R := by {
 rcases a0 with _ | o0
 {
 obtain ⟨rfl, hst'⟩ := objO_none hst
 clear hst
 have hst := hst'
 clear hst'
 dsimp only [mvcc_Store_Len] at hm
 refine calls_start (args := [.pointer none]) func24 z ntmps24 (Nat.le_of_ble_eq_true z) ?_
 refine wp_seq (wrl (wv (.int .i64 (0:Int)) z z z (wl_nil (tn (wp_seq (wp_seq (wrl (wv (.pointer none) z z z (wv (.bool true) z z (by kernel_rfl) (wl_nil (tn ?_)))))))))))
 refine wp_ift z ?_
 refine wp_seq (wrl (wv (.int .i64 (0:Int)) z z z (wl_nil (tn (wp_ret (then_r ?_))))))
 replace hst := hst.objO_nil at_mvcc_Store
 obtain rfl := some_inj hm
 refine post_ret (vs := [Zi]) results24 (rvs_cons (rv_tmp z) rvs_nil) ?_
 exact ⟨z, hst.keep1⟩
}
 {
 replace hst := objO_get hst
 dsimp only [mvcc_Store_Len] at hm
 refine calls_start (args := [p0]) func24 z ntmps24 (Nat.le_of_ble_eq_true z) ?_
 refine wp_seq (wrl (wv (.int .i64 (0:Int)) z z z (wl_nil (tn (wp_seq (wp_seq (wrl (wv (p0) z z z ?_))))))))
 obtain ⟨b56, v57, rfl, hst'⟩ := at_mvcc_Store_open hst
 clear hst
 have hst := hst'
 clear hst'
 refine wv (.bool false) z z (by kernel_rfl) (wl_nil (tn ?_))
 refine wp_iff z ?_
 refine wp_skip (tn (wp_seq (wrl ?_)))
 refine wv (Pt b56 0) z z z (wv (Pt b56 0) z z z (wv (Pt b56 0) z z (x_field z underlying79 z sizeOf77 z) (wv (v57) z z (x_load z isAgg77 (hst.bc0 z)) (wv (.int .i64 ((o0.rows).length : Int)) z z (x_len z underlying77 (hst.nestsv 1 z)) (wv (.int .i64 ((o0.rows).length : Int)) z z z (wl_nil (tn (wp_ret ?_))))))))
 replace hst := hst.pull1.pull1
 replace hst := at_mvcc_Store_close (pv := Pt b56 0) (x := o0) hst z
 replace hst := objO_some hst
 obtain rfl := some_inj hm
 refine post_ret (vs := [I6 ((o0.rows).length : Int)]) results24 (rvs_cons (rv_tmp z) rvs_nil) ?_
 exact ⟨z, hst.keep1⟩
}
}

theorem octet_Writer_lay_ref {w0 w : World} {I : HL} {R : SP} {a0 : octet_Writer} {p0 : Value} {a1 : (List Int)} {r1_0 : Value} (f1_0 : Rd (tyInt .u8) R I r1_0 a1) (hst : St w0 w I [at_octet_Writer p0 a0] R) {r : (octet_Writer)} (hm : octet_Writer_lay a0 a1 = some r) :
  Calls prog 70 #[p0, r1_0] w fun e w' => e = .returned (p0) ∧ St w0 w' I [at_octet_Writer p0 r] R := by {
 unfold octet_Writer_lay at hm
 refine calls_start (args := [p0, r1_0]) func70 z ntmps70 (Nat.le_of_ble_eq_true z) ?_
 refine wp_seq (wrl (wv (.pointer none) z z z (wl_nil (tn (wp_seq (wrl (wv (p0) z z z (wv (p0) z z z ?_))))))))
 obtain ⟨b79, v80, rfl, hst'⟩ := at_octet_Writer_open hst
 clear hst
 have hst := hst'
 clear hst'
 refine wv (Pt b79 0) z z z (wv (Pt b79 0) z z (x_field z underlying99 z sizeOf32 z) (wv (v80) z z (x_load z isAgg32 (hst.bc0 z)) (wv (r1_0) z z z ?_)))
 obtain ⟨hg82, hm⟩ := gd_some hm
 replace hst := hst.pull1
 obtain ⟨v83, w84, hr85, hst⟩ := run_append elem_32 underlying32 hst (Src.of_rd hst f1_0 flat_int) (room_of hg82 z) 32
 refine wl_run (v := v83) (w' := w84) z z (x_append z z hr85) ?_
 refine wv (Pt b79 0) z z z (wv (Pt b79 0) z z (x_field z underlying99 z sizeOf32 z) ?_)
 replace hst := hst.pull1
 obtain ⟨w87, hr88, hst⟩ := hst.boxStore1 (P := prog) (t := 32) (cs' := [v83]) 0 v83 (one_of_sliceV hst.sv1) sizeOf32 z z
 refine wl_unit z z (x_unit hr88) ?_
 refine wl_nil (tn (wp_seq (wrl (wv (Pt b79 0) z z z (wv (Pt b79 0) z z z (wl_nil (tn (wp_ret ?_))))))))
 replace hst := hst.pull1.pull1
 replace hst := at_octet_Writer_close (pv := Pt b79 0) (x := ({ p := (a0.p ++ a1) } : octet_Writer)) hst z
 obtain rfl := some_inj hm
 refine post_ret (vs := [Pt b79 0]) results70 (rvs_cons (rv_tmp z) rvs_nil) ?_
 exact ⟨z, hst.keep1⟩
}

theorem octet_Writer_Num_ref {w0 w : World} {I : HL} {R : SP} {a0 : octet_Writer} {p0 : Value} {a1 : Int} {a2 : Int}  (hst : St w0 w I [at_octet_Writer p0 a0] R) {r : (octet_Writer)} (hm : octet_Writer_Num a0 a1 a2 = some r) :
  Calls prog 54 #[p0, U6 a1, I6 a2] w fun e w' => e = .returned (p0) ∧ St w0 w' I [at_octet_Writer p0 r] R := by {
 unfold octet_Writer_Num at hm
 refine calls_start (args := [p0, U6 a1, I6 a2]) func54 z ntmps54 (Nat.le_of_ble_eq_true z) ?_
 refine wp_seq (wrl (wv (.pointer none) z z z (wl_nil (tn (wp_seq (wp_seq (wrl (wv (.int .i64 a2) z z z (wv (.int .i64 (0:Int)) z z z (wl_nil (tn (wp_block ?_))))))))))))
 obtain ⟨n146, hm⟩ := loopO_some hm
 refine wp_loop_n (fun n a w => ∃ (z143 : octet_Writer) (z144 : Int) (σ145 : Nat → Value), loopN (octet_Writer_Num_l0 a2 a1) n (z143, z144) = some r ∧ a = Fr 22 (upd (upd (upd (upd σ145 0 (p0)) 1 (.int .u64 a1)) 8 (.int .i64 a2)) 9 (.int .i64 z144)) ∧ St w0 w I [at_octet_Writer p0 z143] R) n146 ⟨a0, (0:Int), _, hm, (fu 0 p0 z (fu 1 (.int .u64 a1) z (fu 8 (.int .i64 a2) z (fu 9 (.int .i64 (0:Int)) z z)))), hst⟩ ?_
 rintro n152 _ w147 ⟨z143, z144, σ145, hm, rfl, hst⟩
 obtain ⟨n149, y150, rfl, hm, hx151⟩ := loopN_some hm
 dsimp only [octet_Writer_Num_l0] at hm
 refine wp_seq (wrl (wv (.bool (decide (z144 < a2))) z z z (wl_nil (tn (wp_seq ?_)))))
 refine bsplit (decide (z144 < a2)) (fun hc153 => ?_) (fun hc153 => ?_)
 {
 replace hm := bif_t hc153 hm
 refine wp_ift (cvb hc153) ?_
 refine wp_skip (tn (wp_seq (wp_block (wp_seq (wrl ?_)))))
 refine wv (.int .i64 z144) z z z (wv (.int .i64 z144) z z z (wl_nil (tn (wrl (wv (p0) z z z (wv (.int .u64 a1) z z z (wv (.int .i64 z144) z z z (wv (.int .i64 (i64.wrap ((8:Int) * z144))) z z z ?_))))))))
 obtain ⟨hg154, hm⟩ := gd_some hm
 refine wv (.int .u64 (iShr .u64 a1 (i64.wrap ((8:Int) * z144)))) z z (x_shr (of_decide_eq_true hg154) z z) (wv (.int .u8 (u8.wrap (iShr .u64 a1 (i64.wrap ((8:Int) * z144))))) z z (by kernel_rfl) ?_)
 obtain ⟨b155, w156, ew157, eb158, hst⟩ := hst.lits (E := (tyInt .u8)) (xs := [(u8.wrap (iShr .u64 a1 (i64.wrap ((8:Int) * z144))))]) [[U1 (u8.wrap (iShr .u64 a1 (i64.wrap ((8:Int) * z144))))]] 5 1 z (Reps.cons z Reps.nil)
 refine wl_run (v := (.slice (some ⟨b155, 0, none⟩) 1 1)) (w' := w156) z z (x_als (by kernel_rfl) ew157 eb158) ?_
 obtain ⟨css160, hq161, hst⟩ := hst.own_open
 replace hst := hst.pull1
 obtain ⟨t162, ht163, hm⟩ := bind_some hm
 refine wc call70 [p0, (.slice (some ⟨b155, 0, none⟩) 1 1)] z z z ?_
 refine (octet_Writer_lay_ref (hst.sub.rdrow0 hq161) hst.to1 ht163).mono ?_
 rintro _ w164 ⟨rfl, hst⟩
 refine ⟨_, z, ?_⟩
 replace hst := hst.of1.pull1.own_close hq161
 refine wl_nil (blk_n (tn (wrl (wv (.int .i64 (i64.wrap (z144 + (1:Int)))) z z z (wv (.int .i64 (i64.wrap (z144 + (1:Int)))) z z z (wl_nil (tn ?_)))))))
 replace hst := hst.pull1.keep1
 obtain rfl := some_inj hm
 exact ⟨_, Nat.lt_succ_self _, t162, (i64.wrap (z144 + (1:Int))), _, hx151, (fu 0 p0 z (fu 1 (.int .u64 a1) z (fu 8 (.int .i64 a2) z (fu 9 (.int .i64 (i64.wrap (z144 + (1:Int)))) z z)))), hst⟩
}
 {
 replace hm := bif_f hc153 hm
 refine wp_iff (cvb hc153) ?_
 refine wp_exit (then_x (then_x ?_))
 replace hm := inr_up hm hx151
 refine blk_x (tn (wp_seq (wrl ?_)))
 refine wv (p0) z z z (wv (p0) z z z (wl_nil (tn (wp_ret ?_))))
 obtain rfl := some_inj hm
 refine post_ret (vs := [p0]) results54 (rvs_cons (rv_tmp z) rvs_nil) ?_
 exact ⟨z, hst.keep1⟩
}
}

theorem octet_Writer_Done_ref {w0 w : World} {I : HL} {R : SP} {a0 : octet_Writer} {p0 : Value}  (hst : St w0 w I [at_octet_Writer p0 a0] R) {r : ((List Int))} (hm : octet_Writer_Done a0 = some r) :
  Calls prog 55 #[p0] w fun e w' => ∃ (q0_0 : Value), e = .returned (q0_0) ∧ St w0 w' I [ownS (tyInt .u8) q0_0 r] R := by {
 unfold octet_Writer_Done at hm
 refine calls_start (args := [p0]) func55 z ntmps55 (Nat.le_of_ble_eq_true z) ?_
 refine wp_seq (wrl (wv ((.slice none 0 0)) z z z (wl_nil (tn (wp_seq (wrl (wv (p0) z z z ?_)))))))
 obtain ⟨b69, v70, rfl, hst'⟩ := at_octet_Writer_open hst
 clear hst
 have hst := hst'
 clear hst'
 refine wv (Pt b69 0) z z z (wv (Pt b69 0) z z (x_field z underlying99 z sizeOf32 z) (wv (v70) z z (x_load z isAgg32 (hst.bc0 z)) (wv (v70) z z z (wl_nil (tn (wp_ret ?_))))))
 obtain rfl := some_inj hm
 refine post_ret (vs := [v70]) results55 (rvs_cons (rv_tmp z) rvs_nil) ?_
 replace hst := hst.pull1
 exact ⟨v70, z, hst.keep1⟩
}

theorem octet_Writer_Flag_ref {w0 w : World} {I : HL} {R : SP} {a0 : octet_Writer} {p0 : Value} {a1 : Bool}  (hst : St w0 w I [at_octet_Writer p0 a0] R) {r : (octet_Writer)} (hm : octet_Writer_Flag a0 a1 = some r) :
  Calls prog 56 #[p0, .bool a1] w fun e w' => e = .returned (p0) ∧ St w0 w' I [at_octet_Writer p0 r] R := by {
 unfold octet_Writer_Flag at hm
 refine calls_start (args := [p0, .bool a1]) func56 z ntmps56 (Nat.le_of_ble_eq_true z) ?_
 refine wp_seq (wrl (wv (.pointer none) z z z (wl_nil (tn (wp_seq (wp_seq (wrl (wv (.bool a1) z z z (wl_nil (tn ?_))))))))))
 refine bsplit a1 (fun hc149 => ?_) (fun hc149 => ?_)
 {
 replace hm := bif_t hc149 hm
 refine wp_ift (cvb hc149) ?_
 refine wp_seq (wrl (wv (p0) z z z ?_))
 obtain ⟨t150, ht151, hm⟩ := bind_some hm
 refine wc call54 [p0, U6 (1:Int), I6 (1:Int)] z z z ?_
 refine (octet_Writer_Num_ref hst.to1 ht151).mono ?_
 rintro _ w152 ⟨rfl, hst⟩
 refine ⟨_, z, ?_⟩
 replace hst := hst.of1
 refine wv (p0) z z z (wl_nil (tn (wp_ret (then_r ?_))))
 obtain rfl := some_inj hm
 refine post_ret (vs := [p0]) results56 (rvs_cons (rv_tmp z) rvs_nil) ?_
 exact ⟨z, hst.keep1⟩
}
 {
 replace hm := bif_f hc149 hm
 refine wp_iff (cvb hc149) ?_
 refine wp_skip (tn (wp_seq (wrl ?_)))
 refine wv (p0) z z z ?_
 obtain ⟨t155, ht156, hm⟩ := bind_some hm
 refine wc call54 [p0, Zu, I6 (1:Int)] z z z ?_
 refine (octet_Writer_Num_ref hst.to1 ht156).mono ?_
 rintro _ w157 ⟨rfl, hst⟩
 refine ⟨_, z, ?_⟩
 replace hst := hst.of1
 refine wv (p0) z z z (wl_nil (tn (wp_ret ?_)))
 obtain rfl := some_inj hm
 refine post_ret (vs := [p0]) results56 (rvs_cons (rv_tmp z) rvs_nil) ?_
 exact ⟨z, hst.keep1⟩
}
}

theorem octet_Writer_Bytes_ref {w0 w : World} {I : HL} {R : SP} {a0 : octet_Writer} {p0 : Value} {a1 : (List Int)} {r1_0 : Value} (f1_0 : Rd (tyInt .u8) R I r1_0 a1) (hst : St w0 w I [at_octet_Writer p0 a0] R) {r : (octet_Writer)} (hm : octet_Writer_Bytes a0 a1 = some r) :
  Calls prog 57 #[p0, r1_0] w fun e w' => e = .returned (p0) ∧ St w0 w' I [at_octet_Writer p0 r] R := by {
 unfold octet_Writer_Bytes at hm
 refine calls_start (args := [p0, r1_0]) func57 z ntmps57 (Nat.le_of_ble_eq_true z) ?_
 refine wp_seq (wrl (wv (.pointer none) z z z (wl_nil (tn (wp_seq (wrl (wv (p0) z z z (wv (r1_0) z z z (wv (.int .i64 ((a1).length : Int)) z z (x_len z underlying32 (rd_sliceV f1_0)) (wv (.int .u64 (u64.wrap ((a1).length : Int))) z z (by kernel_rfl) ?_))))))))))
 obtain ⟨t150, ht151, hm⟩ := bind_some hm
 refine wc call54 [p0, U6 (u64.wrap ((a1).length : Int)), I6 (4:Int)] z z z ?_
 refine (octet_Writer_Num_ref hst.to1 ht151).mono ?_
 rintro _ w152 ⟨rfl, hst⟩
 refine ⟨_, z, ?_⟩
 replace hst := hst.of1
 refine wv (r1_0) z z z ?_
 obtain ⟨t155, ht156, hm⟩ := bind_some hm
 refine wc call70 [p0, r1_0] z z z ?_
 refine (octet_Writer_lay_ref (f1_0.mono (rd_weak _)) hst.to1 ht156).mono ?_
 rintro _ w157 ⟨rfl, hst⟩
 refine ⟨_, z, ?_⟩
 replace hst := hst.of1
 refine wv (p0) z z z (wl_nil (tn (wp_ret ?_)))
 obtain rfl := some_inj hm
 refine post_ret (vs := [p0]) results57 (rvs_cons (rv_tmp z) rvs_nil) ?_
 exact ⟨z, hst.keep1⟩
}

theorem mvcc_Store_Encode_ref {w0 w : World} {I : HL} {R : SP} {a0 : (Option mvcc_Store)} {p0 : Value}  (hst : St w0 w I [objO at_mvcc_Store p0 a0] R) {r : ((List Int))} (hm : mvcc_Store_Encode a0 = some r) :
  Calls prog 27 #[p0] w fun e w' => ∃ (q0_0 : Value), e = .returned (q0_0) ∧ St w0 w' I [ownS (tyInt .u8) q0_0 r, objO at_mvcc_Store p0 a0] R := by {
 rcases a0 with _ | o0
 {
 obtain ⟨rfl, hst'⟩ := objO_none hst
 clear hst
 have hst := hst'
 clear hst'
 dsimp only [mvcc_Store_Encode] at hm
 refine calls_start (args := [.pointer none]) func27 z ntmps27 (Nat.le_of_ble_eq_true z) ?_
 refine wp_seq (wrl (wv ((.slice none 0 0)) z z z (wl_nil (tn (wp_seq (wrl (wv (.agg #[Zs]) z z (by kernel_rfl) ?_)))))))
 obtain ⟨b586, w587, ew588, eb589, hst⟩ := hst.box [Zs] 99
 refine wl_run (v := Pt b586 0) (w' := w587) z z (x_al (by kernel_rfl) ew588 eb589) ?_
 refine wv (Pt b586 0) z z z (wl_nil (tn (wp_seq (wrl (wv (Pt b586 0) z z z (wv (.pointer none) z z z ?_))))))
 replace hst := hst.objO_nil at_mvcc_Store
 obtain ⟨t593, ht594, hm⟩ := bind_some hm
 refine wc call24 [.pointer none] z z z ?_
 refine (mvcc_Store_Len_ref hst.to1 ht594).mono ?_
 rintro _ w595 ⟨rfl, hst⟩
 refine ⟨_, z, ?_⟩
 replace hst := hst.of1
 refine wv (.int .u64 (u64.wrap t593)) z z (by kernel_rfl) ?_
 replace hst := hst.own_nil (tyInt .u8)
 replace hst := hst.pull2
 replace hst := at_octet_Writer_close (pv := Pt b586 0) (x := ({ p := [] } : octet_Writer)) hst z
 obtain ⟨t598, ht599, hm⟩ := bind_some hm
 refine wc call54 [Pt b586 0, U6 (u64.wrap t593), I6 (4:Int)] z z z ?_
 refine (octet_Writer_Num_ref hst.to1 ht599).mono ?_
 rintro _ w600 ⟨rfl, hst⟩
 refine ⟨_, z, ?_⟩
 replace hst := hst.of1
 refine wl_nil (tn (wp_seq (wp_seq (wrl (wv (.pointer none) z z z (wv (.bool true) z z (by kernel_rfl) (wl_nil (tn ?_))))))))
 refine wp_ift z ?_
 refine wp_seq (wrl (wv (Pt b586 0) z z z ?_))
 obtain ⟨t603, ht604, hm⟩ := bind_some hm
 refine wc call55 [Pt b586 0] z z z ?_
 refine (octet_Writer_Done_ref hst.to1 ht604).mono ?_
 rintro _ w605 ⟨v608, rfl, hst⟩
 refine ⟨_, z, ?_⟩
 replace hst := hst.of1
 refine wv (v608) z z z (wl_nil (tn (wp_ret (then_r ?_))))
 replace hst := hst.objO_nil at_mvcc_Store
 obtain rfl := some_inj hm
 refine post_ret (vs := [v608]) results27 (rvs_cons (rv_tmp z) rvs_nil) ?_
 replace hst := hst.pull1
 exact ⟨v608, z, hst.keep2⟩
}
 {
 replace hst := objO_get hst
 dsimp only [mvcc_Store_Encode] at hm
 refine calls_start (args := [p0]) func27 z ntmps27 (Nat.le_of_ble_eq_true z) ?_
 refine wp_seq (wrl (wv ((.slice none 0 0)) z z z (wl_nil (tn (wp_seq (wrl (wv (.agg #[Zs]) z z (by kernel_rfl) ?_)))))))
 obtain ⟨b612, w613, ew614, eb615, hst⟩ := hst.box [Zs] 99
 refine wl_run (v := Pt b612 0) (w' := w613) z z (x_al (by kernel_rfl) ew614 eb615) ?_
 refine wv (Pt b612 0) z z z (wl_nil (tn (wp_seq (wrl (wv (Pt b612 0) z z z (wv (p0) z z z ?_))))))
 replace hst := hst.pull1
 replace hst := objO_some hst
 obtain ⟨t618, ht619, hm⟩ := bind_some hm
 refine wc call24 [p0] z z z ?_
 refine (mvcc_Store_Len_ref hst.to1 ht619).mono ?_
 rintro _ w620 ⟨rfl, hst⟩
 refine ⟨_, z, ?_⟩
 replace hst := hst.of1
 replace hst := objO_get hst
 refine wv (.int .u64 (u64.wrap t618)) z z (by kernel_rfl) ?_
 replace hst := hst.own_nil (tyInt .u8)
 replace hst := hst.pull2
 replace hst := at_octet_Writer_close (pv := Pt b612 0) (x := ({ p := [] } : octet_Writer)) hst z
 obtain ⟨t623, ht624, hm⟩ := bind_some hm
 refine wc call54 [Pt b612 0, U6 (u64.wrap t618), I6 (4:Int)] z z z ?_
 refine (octet_Writer_Num_ref hst.to1 ht624).mono ?_
 rintro _ w625 ⟨rfl, hst⟩
 refine ⟨_, z, ?_⟩
 replace hst := hst.of1
 refine wl_nil (tn (wp_seq (wp_seq (wrl (wv (p0) z z z ?_)))))
 replace hst := hst.pull1
 obtain ⟨b628, v629, rfl, hst'⟩ := at_mvcc_Store_open hst
 clear hst
 have hst := hst'
 clear hst'
 refine wv (.bool false) z z (by kernel_rfl) (wl_nil (tn ?_))
 refine wp_iff z ?_
 refine wp_skip (tn (wp_seq (wp_seq (wrl ?_))))
 refine wv (Pt b628 0) z z z (wv (Pt b628 0) z z z (wv (Pt b628 0) z z (x_field z underlying79 z sizeOf77 z) (wv (v629) z z (x_load z isAgg77 (hst.bc0 z)) (wv (.int .i64 ((o0.rows).length : Int)) z z (x_len z underlying77 (hst.nestsv 1 z)) (wv (.int .i64 (0:Int)) z z z (wl_nil (tn (wp_block ?_))))))))
 obtain ⟨n952, hm⟩ := loopO_some hm
 refine wp_loop_n (fun n a w => ∃ (z949 : octet_Writer) (z950 : Int) (σ951 : Nat → Value), loopN (mvcc_Store_Encode_l0 o0) n (z949, z950) = some r ∧ a = Fr 61 (upd (upd (upd (upd σ951 3 (Pt b612 0)) 22 (v629)) 23 (.int .i64 ((o0.rows).length : Int))) 24 (.int .i64 z950)) ∧ St w0 w I [cells b628 [v629], ownN nest_mvcc_row v629 o0.rows, at_octet_Writer (Pt b612 0) z949] R) n952 ⟨t623, (0:Int), _, hm, (fu 3 (Pt b612 0) z (fu 22 v629 z (fu 23 (.int .i64 ((o0.rows).length : Int)) z (fu 24 (.int .i64 (0:Int)) z z)))), hst⟩ ?_
 rintro n958 _ w953 ⟨z949, z950, σ951, hm, rfl, hst⟩
 obtain ⟨n955, y956, rfl, hm, hx957⟩ := loopN_some hm
 dsimp only [mvcc_Store_Encode_l0] at hm
 refine wp_seq (wrl (wv (.bool (decide (z950 < ((o0.rows).length : Int)))) z z z (wl_nil (tn (wp_seq ?_)))))
 refine bsplit (decide (z950 < ((o0.rows).length : Int))) (fun hc959 => ?_) (fun hc959 => ?_)
 {
 replace hm := bif_t hc959 hm
 refine wp_ift (cvb hc959) ?_
 refine wp_skip (tn (wp_seq (wp_block (wp_seq (wrl ?_)))))
 obtain ⟨x960, hx961, hm⟩ := bind_some hm
 obtain ⟨h962, h963, hi964⟩ := geto_some hx961
 refine wv (.pointer (some (eAddr v629 (z950.toNat * 2 + 0)))) z z (x_index z z underlying77 sizeOf76 (hst.nestsv 1 z) h962 h963) ?_
 replace hst := hst.pull1
 obtain ⟨v965, hst⟩ := hst.nest_focus hi964
 refine wv (.agg #[U6 x960.rank, v965]) z z (x_loadN (cs := [U6 x960.rank, v965]) z isAgg76 sizeOf76 (eCells (o := 0) (hst.holeall (N := nest_mvcc_row) (i := z950.toNat) 1 z hi964) z)) ?_
 obtain ⟨b968, w969, ew970, eb971, hst⟩ := hst.box [Zu, Zs] 76
 refine wl_run (v := Pt b968 0) (w' := w969) z z (x_al (by kernel_rfl) ew970 eb971) ?_
 obtain ⟨w973, hr974, hst⟩ := hst.bx [U6 x960.rank, v965] sizeOf76 z (oC z (oC (one_of_sliceV hst.sv1) oN)) (by kernel_rfl)
 refine wl_unit z z (x_unit hr974) ?_
 refine wl_nil (tn (wp_seq ?_))
 refine wp_region_St hst 9 [0, 1, 2, 3, 4, 5, 6, 7, 8] [0, 0, 2, 7, 0, 16, 48, 112, 255] [] z (by kernel_rfl) (by kernel_rfl) Try.mixed (by kernel_rfl) ?_
 refine wsr (Pt b612 0) 0 z z z (by kernel_rfl) (fun w hst => z) (wsr (Pt b968 0) 1 z z z (by kernel_rfl) (fun w hst => x_field z underlying76 z sizeOf24 z) (wsr (.int .u64 x960.rank) 2 z z z (by kernel_rfl) (fun w hst => x_load z isAgg24 (hst.bc0 z)) (wsr (Pt b968 1) 4 z z z (by kernel_rfl) (fun w hst => x_field z underlying76 z sizeOf53 z) (wsr (v965) 5 z z z (by kernel_rfl) (fun w hst => x_load z isAgg53 (hst.bc0 z)) (wsr (.int .i64 ((x960.l).length : Int)) 6 z z z (by kernel_rfl) (fun w hst => x_len z underlying53 hst.sv1) (wsr (.int .u64 (u64.wrap ((x960.l).length : Int))) 7 z z z (by kernel_rfl) (fun w hst => by kernel_rfl) ?_))))))
 refine ws_e1 3 (by kernel_rfl) ?_
 refine nxe [8] (by kernel_rfl) z z ?_
 clear hst
 intro w hst
 replace hst := hst.pull4
 obtain ⟨t975, ht976, hm⟩ := bind_some hm
 refine wec call54 [Pt b612 0, U6 x960.rank, I6 (8:Int)] z z ?_
 refine (octet_Writer_Num_ref hst.to1 ht976).mono ?_
 rintro _ w977 ⟨rfl, hst⟩
 refine ⟨_, z, ?_⟩
 replace hst := hst.of1
 refine ws_next (pend' := [(7, U6 (u64.wrap ((x960.l).length : Int))), (6, I6 ((x960.l).length : Int)), (5, v965), (4, Pt b968 1)]) hst (by kernel_rfl) (pkr z z (fun w hst => by kernel_rfl) (pkr z z (fun w hst => x_len z underlying53 hst.sv2) (pkr z z (fun w hst => x_load z isAgg53 (hst.bc1 z)) (pkr z z (fun w hst => x_field z underlying76 z sizeOf53 z) pk_nil)))) ?_
 refine ws_e1 8 (by kernel_rfl) ?_
 refine nxe [] (by kernel_rfl) z z ?_
 clear hst
 intro w hst
 obtain ⟨t980, ht981, hm⟩ := bind_some hm
 refine wec call54 [Pt b612 0, U6 (u64.wrap ((x960.l).length : Int)), I6 (4:Int)] z z ?_
 refine (octet_Writer_Num_ref hst.to1 ht981).mono ?_
 rintro _ w982 ⟨rfl, hst⟩
 refine ⟨_, z, ?_⟩
 replace hst := hst.of1
 refine ws_next (pend' := []) hst (by kernel_rfl) pk_nil ?_
 refine ws_nil ?_
 intro w hst
 refine tn (wp_seq (wrl (wv (Pt b968 1) z z (x_field z underlying76 z sizeOf53 z) (wv (v965) z z (x_load z isAgg53 (hst.bc1 z)) (wv (.int .i64 ((x960.l).length : Int)) z z (x_len z underlying53 hst.sv2) (wv (.int .i64 (0:Int)) z z z (wl_nil (tn (wp_block ?_)))))))))
 replace hst := hst.pull1.sub
 obtain ⟨n1070, hm⟩ := loopO_some hm
 refine wp_loop_n (fun n a w => ∃ (z1067 : octet_Writer) (z1068 : Int) (σ1069 : Nat → Value), loopN (mvcc_Store_Encode_l1 x960 z950) n (z1067, z1068) = some y956 ∧ a = Fr 61 (upd (upd (upd (upd (upd (upd (upd σ1069 3 (Pt b612 0)) 22 (v629)) 23 (.int .i64 ((o0.rows).length : Int))) 24 (.int .i64 z950)) 38 (v965)) 39 (.int .i64 ((x960.l).length : Int))) 40 (.int .i64 z1068)) ∧ St w0 w I [at_octet_Writer (Pt b612 0) z1067, ownS ty_mvcc_Version v965 x960.l, holeN nest_mvcc_row v629 o0.rows z950.toNat v965, cells b628 [v629]] R) n1070 ⟨t980, (0:Int), _, hm, (fu 3 (Pt b612 0) z (fu 22 v629 z (fu 23 (.int .i64 ((o0.rows).length : Int)) z (fu 24 (.int .i64 z950) z (fu 38 v965 z (fu 39 (.int .i64 ((x960.l).length : Int)) z (fu 40 (.int .i64 (0:Int)) z z))))))), hst⟩ ?_
 rintro n1076 _ w1071 ⟨z1067, z1068, σ1069, hm, rfl, hst⟩
 obtain ⟨n1073, y1074, rfl, hm, hx1075⟩ := loopN_some hm
 dsimp only [mvcc_Store_Encode_l1] at hm
 refine wp_seq (wrl (wv (.bool (decide (z1068 < ((x960.l).length : Int)))) z z z (wl_nil (tn (wp_seq ?_)))))
 refine bsplit (decide (z1068 < ((x960.l).length : Int))) (fun hc1077 => ?_) (fun hc1077 => ?_)
 {
 replace hm := bif_t hc1077 hm
 refine wp_ift (cvb hc1077) ?_
 refine wp_skip (tn (wp_seq (wp_block (wp_seq (wrl ?_)))))
 obtain ⟨x1078, hx1079, hm⟩ := bind_some hm
 obtain ⟨h1080, h1081, hi1082⟩ := geto_some hx1079
 refine wv (.pointer (some (eAddr v965 (z1068.toNat * 4 + 0)))) z z (x_index z z underlying53 sizeOf52 hst.sv1 h1080 h1081) ?_
 obtain ⟨cs1083, hr1084, hc1085⟩ := hst.og1 hi1082
 obtain ⟨v1086, rfl, f1087, -⟩ := hr1084
 refine wv (.agg #[U6 x1078.Epoch, U6 x1078.Index, .bool x1078.Del, v1086]) z z (x_loadN (cs := [U6 x1078.Epoch, U6 x1078.Index, .bool x1078.Del, v1086]) z isAgg52 sizeOf52 (eCells (o := 0) hc1085 z)) ?_
 obtain ⟨b1090, w1091, ew1092, eb1093, hst⟩ := hst.box [Zu, Zu, .bool false, Zs] 52
 refine wl_run (v := Pt b1090 0) (w' := w1091) z z (x_al (by kernel_rfl) ew1092 eb1093) ?_
 obtain ⟨w1095, hr1096, hst⟩ := hst.bx [U6 x1078.Epoch, U6 x1078.Index, .bool x1078.Del, v1086] sizeOf52 z (oC z (oC z (oC z (oC (one_of_sliceV (ro_sliceV f1087)) oN)))) (by kernel_rfl)
 refine wl_unit z z (x_unit hr1096) ?_
 refine wl_nil (tn ?_)
 refine wp_region_St hst 13 [0, 1, 2, 3, 4, 5, 6, 7, 8, 9, 10, 11, 12] [0, 0, 2, 7, 0, 16, 63, 0, 128, 511, 0, 1024, 4095] [] z (by kernel_rfl) (by kernel_rfl) Try.mixed (by kernel_rfl) ?_
 refine wsr (Pt b612 0) 0 z z z (by kernel_rfl) (fun w hst => z) (wsr (Pt b1090 0) 1 z z z (by kernel_rfl) (fun w hst => x_field z underlying52 z sizeOf24 z) (wsr (.int .u64 x1078.Epoch) 2 z z z (by kernel_rfl) (fun w hst => x_load z isAgg24 (hst.bc0 z)) (wsr (Pt b1090 1) 4 z z z (by kernel_rfl) (fun w hst => x_field z underlying52 z sizeOf24 z) (wsr (.int .u64 x1078.Index) 5 z z z (by kernel_rfl) (fun w hst => x_load z isAgg24 (hst.bc0 z)) (wsr (Pt b1090 2) 7 z z z (by kernel_rfl) (fun w hst => x_field z underlying52 z sizeOf4 z) (wsr (.bool x1078.Del) 8 z z z (by kernel_rfl) (fun w hst => x_load z isAgg4 (hst.bc0 z)) (wsr (Pt b1090 3) 10 z z z (by kernel_rfl) (fun w hst => x_field z underlying52 z sizeOf32 z) (wsr (v1086) 11 z z z (by kernel_rfl) (fun w hst => x_load z isAgg32 (hst.bc0 z)) ?_))))))))
 refine ws_e1 3 (by kernel_rfl) ?_
 refine nxe [6, 9, 12] (by kernel_rfl) z z ?_
 clear hst
 intro w hst
 replace hst := hst.pull1
 obtain ⟨t1097, ht1098, hm⟩ := bind_some hm
 refine wec call54 [Pt b612 0, U6 x1078.Epoch, I6 (8:Int)] z z ?_
 refine (octet_Writer_Num_ref hst.to1 ht1098).mono ?_
 rintro _ w1099 ⟨rfl, hst⟩
 refine ⟨_, z, ?_⟩
 replace hst := hst.of1
 refine ws_next (pend' := [(11, v1086), (10, Pt b1090 3), (8, .bool x1078.Del), (7, Pt b1090 2), (5, U6 x1078.Index), (4, Pt b1090 1)]) hst (by kernel_rfl) (pkr z z (fun w hst => x_load z isAgg32 (hst.bc1 z)) (pkr z z (fun w hst => x_field z underlying52 z sizeOf32 z) (pkr z z (fun w hst => x_load z isAgg4 (hst.bc1 z)) (pkr z z (fun w hst => x_field z underlying52 z sizeOf4 z) (pkr z z (fun w hst => x_load z isAgg24 (hst.bc1 z)) (pkr z z (fun w hst => x_field z underlying52 z sizeOf24 z) pk_nil)))))) ?_
 refine ws_e1 6 (by kernel_rfl) ?_
 refine nxe [9, 12] (by kernel_rfl) z z ?_
 clear hst
 intro w hst
 obtain ⟨t1102, ht1103, hm⟩ := bind_some hm
 refine wec call54 [Pt b612 0, U6 x1078.Index, I6 (8:Int)] z z ?_
 refine (octet_Writer_Num_ref hst.to1 ht1103).mono ?_
 rintro _ w1104 ⟨rfl, hst⟩
 refine ⟨_, z, ?_⟩
 replace hst := hst.of1
 refine ws_next (pend' := [(11, v1086), (10, Pt b1090 3), (8, .bool x1078.Del), (7, Pt b1090 2)]) hst (by kernel_rfl) (pkr z z (fun w hst => x_load z isAgg32 (hst.bc1 z)) (pkr z z (fun w hst => x_field z underlying52 z sizeOf32 z) (pkr z z (fun w hst => x_load z isAgg4 (hst.bc1 z)) (pkr z z (fun w hst => x_field z underlying52 z sizeOf4 z) pk_nil)))) ?_
 refine ws_e1 9 (by kernel_rfl) ?_
 refine nxe [12] (by kernel_rfl) z z ?_
 clear hst
 intro w hst
 obtain ⟨t1107, ht1108, hm⟩ := bind_some hm
 refine wec call56 [Pt b612 0, .bool x1078.Del] z z ?_
 refine (octet_Writer_Flag_ref hst.to1 ht1108).mono ?_
 rintro _ w1109 ⟨rfl, hst⟩
 refine ⟨_, z, ?_⟩
 replace hst := hst.of1
 refine ws_next (pend' := [(11, v1086), (10, Pt b1090 3)]) hst (by kernel_rfl) (pkr z z (fun w hst => x_load z isAgg32 (hst.bc1 z)) (pkr z z (fun w hst => x_field z underlying52 z sizeOf32 z) pk_nil)) ?_
 refine ws_e1 12 (by kernel_rfl) ?_
 refine nxe [] (by kernel_rfl) z z ?_
 clear hst
 intro w hst
 obtain ⟨t1112, ht1113, hm⟩ := bind_some hm
 refine wec call57 [Pt b612 0, v1086] z z ?_
 refine (octet_Writer_Bytes_ref (f1087.mono ro_rd) hst.to1 ht1113).mono ?_
 rintro _ w1114 ⟨rfl, hst⟩
 refine ⟨_, z, ?_⟩
 replace hst := hst.of1
 refine ws_next (pend' := []) hst (by kernel_rfl) pk_nil ?_
 refine ws_nil ?_
 intro w hst
 refine blk_n (tn (wrl ?_))
 refine wv (.int .i64 (i64.wrap (z1068 + (1:Int)))) z z z (wv (.int .i64 (i64.wrap (z1068 + (1:Int)))) z z z (wl_nil (tn ?_)))
 replace hst := hst.pull4.pull4.pull4.pull3.keep4
 obtain rfl := some_inj hm
 exact ⟨_, Nat.lt_succ_self _, t1112, (i64.wrap (z1068 + (1:Int))), _, hx1075, (fu 3 (Pt b612 0) z (fu 22 v629 z (fu 23 (.int .i64 ((o0.rows).length : Int)) z (fu 24 (.int .i64 z950) z (fu 38 v965 z (fu 39 (.int .i64 ((x960.l).length : Int)) z (fu 40 (.int .i64 (i64.wrap (z1068 + (1:Int)))) z z))))))), hst⟩
}
 {
 replace hm := bif_f hc1077 hm
 refine wp_iff (cvb hc1077) ?_
 refine wp_exit (then_x (then_x ?_))
 replace hm := inr_up hm hx1075
 refine blk_x (blk_n (tn (wrl ?_)))
 refine wv (.int .i64 (i64.wrap (z950 + (1:Int)))) z z z (wv (.int .i64 (i64.wrap (z950 + (1:Int)))) z z z (wl_nil (tn ?_)))
 replace hst := hst.pull2.pull2
 replace hst := St.nest_close0 (N := nest_mvcc_row) hst hi964
 replace hst := hst.pull1.pull1.pull2.keep3
 obtain rfl := some_inj hm
 exact ⟨_, Nat.lt_succ_self _, z1067, (i64.wrap (z950 + (1:Int))), _, hx957, (fu 3 (Pt b612 0) z (fu 22 v629 z (fu 23 (.int .i64 ((o0.rows).length : Int)) z (fu 24 (.int .i64 (i64.wrap (z950 + (1:Int)))) z z)))), hst⟩
}
}
 {
 replace hm := bif_f hc959 hm
 refine wp_iff (cvb hc959) ?_
 refine wp_exit (then_x (then_x ?_))
 replace hm := inr_up hm hx957
 refine blk_x (tn (wp_seq (wrl ?_)))
 refine wv (Pt b612 0) z z z ?_
 replace hst := hst.pull2
 obtain ⟨t1117, ht1118, hm⟩ := bind_some hm
 refine wc call55 [Pt b612 0] z z z ?_
 refine (octet_Writer_Done_ref hst.to1 ht1118).mono ?_
 rintro _ w1119 ⟨v1122, rfl, hst⟩
 refine ⟨_, z, ?_⟩
 replace hst := hst.of1
 refine wv (v1122) z z z (wl_nil (tn (wp_ret ?_)))
 replace hst := hst.pull2.pull2
 replace hst := at_mvcc_Store_close (pv := Pt b628 0) (x := o0) hst z
 replace hst := objO_some hst
 obtain rfl := some_inj hm
 refine post_ret (vs := [v1122]) results27 (rvs_cons (rv_tmp z) rvs_nil) ?_
 replace hst := hst.pull1
 exact ⟨v1122, z, hst.keep2⟩
}
}
}

theorem law11_MvccJunk_ref {w0 w : World} {I : HL} {R : SP} {a0 : (List Int)} {r0_0 : Value} {a1 : (List law11_Ver)} {r1_0 : Value} {a2 : Int} {a3 : Int} (f0_0 : Ro (tyInt .u8) I r0_0 a0) (f1_0 : Ro ty_law11_Ver I r1_0 a1) (hst : St w0 w I [] R) {r : (Bool)} (hm : law11_MvccJunk a0 a1 a2 a3 = some r) :
  Calls prog 7 #[r0_0, r1_0, .int .u16 a2, U1 a3] w fun e w' => ∃ (I' : HL), e = .returned (.bool r) ∧ I.le I' ∧ St w0 w' I' [] R := by {
 unfold law11_MvccJunk at hm
 refine calls_start (args := [r0_0, r1_0, .int .u16 a2, U1 a3]) func7 z ntmps7 (Nat.le_of_ble_eq_true z) ?_
 have hI0 := HL.le.refl I
 refine wp_seq (wrl (wv (.bool false) z z z (wl_nil (tn (wp_seq (wrl (wv (r1_0) z z z ?_)))))))
 obtain ⟨t102, ht103, hm⟩ := bind_some hm
 refine wc call9 [r1_0] z z z ?_
 refine (law11_fill_ref f1_0 hst.to0 ht103).mono ?_
 rintro _ w104 ⟨I105, v107, v109, rfl, hI106, hst⟩
 refine ⟨_, z, ?_⟩
 replace hst := hst.of2
 replace f0_0 := f0_0.mono (ro_le hI106)
 replace f1_0 := f1_0.mono (ro_le hI106)
 replace hI0 := hI0.trans hI106
 refine wv (.tuple #[v107, v109, .bool t102.2.2]) z z z (wv (v107) z z z (wv (v109) z z z (wv (.bool t102.2.2) z z z (wv (v107) z z z (wv (v109) z z z (wv (.bool t102.2.2) z z z (wl_nil (tn (wp_seq (wp_seq (wrl ?_)))))))))))
 obtain ⟨t111, ht112, hm⟩ := bind_some hm
 refine wc call10 [] z z z ?_
 refine (law11_awake_ref hst.to0 ht112).mono ?_
 rintro _ w113 ⟨I114, rfl, hI115, hst⟩
 refine ⟨_, z, ?_⟩
 replace hst := hst.of0
 replace f0_0 := f0_0.mono (ro_le hI115)
 replace f1_0 := f1_0.mono (ro_le hI115)
 replace hI0 := hI0.trans hI115
 refine wv (.bool (!t111)) z z z (wv (.bool (!t111)) z z z ?_)
 refine bsplit (!t111) (fun hc116 => ?_) (fun hc116 => ?_)
 {
 replace hm := bif_t hc116 hm
 refine wo hc116 z z z z z z (wo hc116 z z z z z z (wv (.bool true) z z (x_pick_t hc116 z z) (wv (.bool true) z z z (wz z z z z z z (wz z z z z z z (wz z z z z z z (wv (.bool true) z z (x_pick_t z z z) (wl_nil (tn ?_)))))))))
 refine wp_ift z ?_
 refine wp_seq (wrl ?_)
 obtain ⟨t117, ht118, hm⟩ := bind_some hm
 refine wc call10 [] z z z ?_
 refine (law11_awake_ref hst.to0 ht118).mono ?_
 rintro _ w119 ⟨I120, rfl, hI121, hst⟩
 refine ⟨_, z, ?_⟩
 replace hst := hst.of0
 replace f0_0 := f0_0.mono (ro_le hI121)
 replace f1_0 := f1_0.mono (ro_le hI121)
 replace hI0 := hI0.trans hI121
 refine wv (.bool t117) z z z (wl_nil (tn (wp_ret (then_r ?_))))
 obtain rfl := some_inj hm
 refine post_ret (vs := [.bool t117]) results7 (rvs_cons (rv_tmp z) rvs_nil) ?_
 exact ⟨_, z, hI0, hst.keep0⟩
}
 {
 replace hm := bif_f hc116 hm
 refine wv (.bool t102.2.2) ((wanted_eq z z z (cvb hc116)).trans z) z z (wv (.bool (!t102.2.2)) ((wanted_eq z z z (cvb hc116)).trans z) z z (wv (.bool (!t102.2.2)) z z (x_pick_f hc116 z z) (wv (.bool (!t102.2.2)) z z z ?_)))
 refine bsplit (!t102.2.2) (fun hc122 => ?_) (fun hc122 => ?_)
 {
 replace hm := bif_t hc122 hm
 refine wo hc122 z z z z z z (wo hc122 z z z z z z (wo hc122 z z z z z z (wv (.bool true) z z (x_pick_t hc122 z z) (wl_nil (tn ?_)))))
 refine wp_ift z ?_
 refine wp_seq (wrl ?_)
 obtain ⟨t123, ht124, hm⟩ := bind_some hm
 refine wc call10 [] z z z ?_
 refine (law11_awake_ref hst.to0 ht124).mono ?_
 rintro _ w125 ⟨I126, rfl, hI127, hst⟩
 refine ⟨_, z, ?_⟩
 replace hst := hst.of0
 replace f0_0 := f0_0.mono (ro_le hI127)
 replace f1_0 := f1_0.mono (ro_le hI127)
 replace hI0 := hI0.trans hI127
 refine wv (.bool t123) z z z (wl_nil (tn (wp_ret (then_r ?_))))
 obtain rfl := some_inj hm
 refine post_ret (vs := [.bool t123]) results7 (rvs_cons (rv_tmp z) rvs_nil) ?_
 exact ⟨_, z, hI0, hst.keep0⟩
}
 {
 replace hm := bif_f hc122 hm
 refine wv (r0_0) ((wanted_eq z z z (cvb hc122)).trans z) z z (wv (.int .i64 ((a0).length : Int)) ((wanted_eq z z z (cvb hc122)).trans z) z (x_len z underlying32 (ro_sliceV f0_0)) (wv (.bool (decide (((a0).length : Int) > (2000:Int)))) ((wanted_eq z z z (cvb hc122)).trans z) z z (wv (.bool (decide (((a0).length : Int) > (2000:Int)))) z z (x_pick_f hc122 z z) (wl_nil (tn ?_)))))
 refine bsplit (decide (((a0).length : Int) > (2000:Int))) (fun hc128 => ?_) (fun hc128 => ?_)
 {
 replace hm := bif_t hc128 hm
 refine wp_ift (cvb hc128) ?_
 refine wp_seq (wrl ?_)
 obtain ⟨t129, ht130, hm⟩ := bind_some hm
 refine wc call10 [] z z z ?_
 refine (law11_awake_ref hst.to0 ht130).mono ?_
 rintro _ w131 ⟨I132, rfl, hI133, hst⟩
 refine ⟨_, z, ?_⟩
 replace hst := hst.of0
 replace f0_0 := f0_0.mono (ro_le hI133)
 replace f1_0 := f1_0.mono (ro_le hI133)
 replace hI0 := hI0.trans hI133
 refine wv (.bool t129) z z z (wl_nil (tn (wp_ret (then_r ?_))))
 obtain rfl := some_inj hm
 refine post_ret (vs := [.bool t129]) results7 (rvs_cons (rv_tmp z) rvs_nil) ?_
 exact ⟨_, z, hI0, hst.keep0⟩
}
 {
 replace hm := bif_f hc128 hm
 refine wp_iff (cvb hc128) ?_
 refine wp_skip (tn (wp_seq (wrl ?_)))
 refine wv (r0_0) z z z ?_
 obtain ⟨t134, ht135, hm⟩ := bind_some hm
 refine wc call26 [r0_0] z z z ?_
 refine (mvcc_Decode_ref f0_0 hst.to0 ht135).mono ?_
 rintro _ w136 ⟨I137, v139, rfl, hI138, hst⟩
 refine ⟨_, z, ?_⟩
 replace hst := hst.of1
 replace f0_0 := f0_0.mono (ro_le hI138)
 replace f1_0 := f1_0.mono (ro_le hI138)
 replace hI0 := hI0.trans hI138
 refine wv (.tuple #[v139, I6 t134.2]) z z z (wv (v139) z z z (wv (.int .i64 t134.2) z z z (wv (v139) z z z (wv (.int .i64 t134.2) z z z (wl_nil (tn ?_))))))
 obtain ⟨y158, hm, hx159⟩ := joinO_some hm
 refine wp_cut (fun a w => ∃ (σ156 : Nat → Value), (law11_MvccJunk_j0 t102 a2 a3) () = some r ∧ a = Fr 102 (upd (upd (upd σ156 2 (.int .u16 a2)) 3 (.int .u8 a3)) 9 (v107)) ∧ St w0 w I137 [at_mvcc_Store v107 t102.1] R) ?_ ?_
 {
 refine wp_seq ?_
 refine wp_region_St hst 22 [0, 1, 2, 3, 4, 5, 6, 7, 8, 9, 10, 11, 12, 13, 14, 15, 16, 17, 18, 19, 20, 21] [0, 1, 3, 7, 15, 31, 7, 71, 255, 511, 1023, 2047, 4095, 8191, 16383, 32767, 65535, 131071, 262143, 524287, 1048575, 2097151] [] z (by kernel_rfl) (by kernel_rfl) Try.mixed (by kernel_rfl) ?_
 refine wsr (.int .i64 t134.2) 0 z z z (by kernel_rfl) (fun w hst => z) (wsr (.bool (t134.2 == (0:Int))) 1 z z z (by kernel_rfl) (fun w hst => z) (wsr (.bool (t134.2 == (0:Int))) 2 z z z (by kernel_rfl) (fun w hst => z) ?_))
 refine bsplit (t134.2 == (0:Int)) (fun hc141 => ?_) (fun hc141 => ?_)
 {
 replace hm := bif_t hc141 hm
 refine ws_q (v := v139) 3 [4, 5, 6, 7, 8, 9, 10, 11, 12, 13, 14, 15, 16, 17, 18, 19, 20, 21] (by kernel_rfl) z z (yi_run ((wanted_eq z z z (cvb hc141)).trans z) (fun w hst => z)) (ws_q (v := r0_0) 6 [4, 5, 7, 8, 9, 10, 11, 12, 13, 14, 15, 16, 17, 18, 19, 20, 21] (by kernel_rfl) z z (yi_run ((wanted_eq z z z (cvb hc141)).trans z) (fun w hst => z)) (ws_q (v := .string (toStr a0)) 7 [4, 5, 8, 9, 10, 11, 12, 13, 14, 15, 16, 17, 18, 19, 20, 21] (by kernel_rfl) z z (yi_run ((wanted_eq z z z (cvb hc141)).trans z) (fun w hst => x_tostr underlying32 underlying9 underlying5 z (Src.of_ro hst f0_0))) ?_))
 refine ws_e1 4 (by kernel_rfl) ?_
 refine nxe [5, 8, 9, 10, 11, 12, 13, 14, 15, 16, 17, 18, 19, 20, 21] (by kernel_rfl) z ((wanted_eq z z z (cvb hc141)).trans z) ?_
 clear hst
 intro w hst
 obtain ⟨t142, ht143, hm⟩ := bind_some hm
 refine wec call27 [v139] z z ?_
 refine (mvcc_Store_Encode_ref hst.to1 ht143).mono ?_
 rintro _ w144 ⟨v147, rfl, hst⟩
 refine ⟨_, z, ?_⟩
 replace hst := hst.of2
 refine ws_next (pend' := [(7, .string (toStr a0)), (6, r0_0)]) hst (by kernel_rfl) (pk_cons z (yi_run ((wanted_eq z z z (cvb hc141)).trans z) (fun w hst => x_tostr underlying32 underlying9 underlying5 z (Src.of_ro hst f0_0))) (pk_cons z (yi_run ((wanted_eq z z z (cvb hc141)).trans z) (fun w hst => z)) pk_nil)) ?_
 refine ws_q (v := .string (toStr t142)) 5 [8, 9, 10, 11, 12, 13, 14, 15, 16, 17, 18, 19, 20, 21] (by kernel_rfl) z z (yi_run ((wanted_eq z z z (cvb hc141)).trans z) (fun w hst => x_tostr underlying32 underlying9 underlying5 z hst.src0)) (ws_q (v := .bool (!(sEq (toStr t142) (toStr a0)))) 8 [9, 10, 11, 12, 13, 14, 15, 16, 17, 18, 19, 20, 21] (by kernel_rfl) z z (yi_run ((wanted_eq z z z (cvb hc141)).trans z) (fun w hst => by kernel_rfl)) (wsr (.bool (!(sEq (toStr t142) (toStr a0)))) 9 z z z (by kernel_rfl) (fun w hst => x_pick_t hc141 z z) (wsr (.bool (!(sEq (toStr t142) (toStr a0)))) 10 z z z (by kernel_rfl) (fun w hst => z) ?_)))
 refine bsplit (!(sEq (toStr t142) (toStr a0))) (fun hc149 => ?_) (fun hc149 => ?_)
 {
 replace hm := bif_t hc149 hm
 refine ws_q (v := undef) 11 [12, 13, 14, 15, 16, 17, 18, 19, 20, 21] (by kernel_rfl) z z (yi_off ((wanted_eq z z z (cvb hc149)).trans z)) (ws_q (v := undef) 12 [13, 14, 15, 16, 17, 18, 19, 20, 21] (by kernel_rfl) z z (yi_off ((wanted_eq z z z (cvb hc149)).trans z)) (ws_q (v := undef) 13 [14, 15, 16, 17, 18, 19, 20, 21] (by kernel_rfl) z z (yi_off ((wanted_eq z z z (cvb hc149)).trans z)) (ws_q (v := undef) 14 [15, 16, 17, 18, 19, 20, 21] (by kernel_rfl) z z (yi_off (wanted_undef z z z z)) (ws_q (v := undef) 15 [16, 17, 18, 19, 20, 21] (by kernel_rfl) z z (yi_off (wanted_undef z z z z)) (ws_q (v := undef) 16 [17, 18, 19, 20, 21] (by kernel_rfl) z z (yi_off (wanted_undef z z z z)) (ws_q (v := undef) 17 [18, 19, 20, 21] (by kernel_rfl) z z (yi_off (wanted_undef z z z z)) (ws_q (v := undef) 18 [19, 20, 21] (by kernel_rfl) z z (yi_off (wanted_undef z z z z)) (ws_q (v := undef) 19 [20, 21] (by kernel_rfl) z z (yi_off (wanted_undef z z z z)) (ws_q (v := undef) 20 [21] (by kernel_rfl) z z (yi_off ((wanted_eq z z z (cvb hc149)).trans z)) (wsr (.bool true) 21 z z z (by kernel_rfl) (fun w hst => x_pick_t hc149 z z) ?_))))))))))
 refine ws_nil ?_
 intro w hst
 refine tn ?_
 refine wp_ift z ?_
 refine wp_seq (wrl (wv (.bool false) z z z (wl_nil (tn (wp_ret (then_r ?_))))))
 replace hm := inr_up hm hx159
 obtain rfl := some_inj hm
 refine post_ret (vs := [.bool false]) results7 (rvs_cons (rv_tmp z) rvs_nil) ?_
 exact ⟨_, z, hI0, hst.keep0⟩
}
 {
 replace hm := bif_f hc149 hm
 refine ws_q (v := .int .i64 t134.2) 11 [12, 13, 14, 15, 16, 17, 18, 19, 20, 21] (by kernel_rfl) z z (yi_run ((wanted_eq z z z (cvb hc149)).trans z) (fun w hst => z)) (ws_q (v := .bool (t134.2 != (0:Int))) 12 [13, 14, 15, 16, 17, 18, 19, 20, 21] (by kernel_rfl) z z (yi_run ((wanted_eq z z z (cvb hc149)).trans z) (fun w hst => z)) (ws_q (v := .bool (t134.2 != (0:Int))) 13 [14, 15, 16, 17, 18, 19, 20, 21] (by kernel_rfl) z z (yi_run ((wanted_eq z z z (cvb hc149)).trans z) (fun w hst => z)) ?_))
 refine bsplit (t134.2 != (0:Int)) (fun hc150 => ?_) (fun hc150 => ?_)
 {
 replace hm := bif_t hc150 hm
 refine ws_q (v := .int .i64 t134.2) 14 [15, 16, 17, 18, 19, 20, 21] (by kernel_rfl) z z (yi_run ((wanted_eq z z z (cvb hc150)).trans z) (fun w hst => z)) (ws_q (v := .bool (t134.2 != (5:Int))) 15 [16, 17, 18, 19, 20, 21] (by kernel_rfl) z z (yi_run ((wanted_eq z z z (cvb hc150)).trans z) (fun w hst => z)) (ws_q (v := .bool (t134.2 != (5:Int))) 16 [17, 18, 19, 20, 21] (by kernel_rfl) z z (yi_run ((wanted_eq z z z (cvb hc150)).trans z) (fun w hst => z)) ?_))
 refine bsplit (t134.2 != (5:Int)) (fun hc151 => ?_) (fun hc151 => ?_)
 {
 replace hm := bif_t hc151 hm
 refine ws_q (v := undef) 17 [18, 19, 20, 21] (by kernel_rfl) z z (yi_off ((wanted_eq z z z (cvb hc151)).trans z)) (ws_q (v := undef) 18 [19, 20, 21] (by kernel_rfl) z z (yi_off ((wanted_eq z z z (cvb hc151)).trans z)) (ws_q (v := .bool true) 19 [20, 21] (by kernel_rfl) z z (yi_run ((wanted_eq z z z (cvb hc150)).trans z) (fun w hst => x_pick_t hc151 z z)) (ws_q (v := .bool true) 20 [21] (by kernel_rfl) z z (yi_run ((wanted_eq z z z (cvb hc149)).trans z) (fun w hst => x_pick_t hc150 z z)) (wsr (.bool true) 21 z z z (by kernel_rfl) (fun w hst => x_pick_f hc149 z z) ?_))))
 refine ws_nil ?_
 intro w hst
 refine tn ?_
 refine wp_ift z ?_
 refine wp_seq (wrl (wv (.bool false) z z z (wl_nil (tn (wp_ret (then_r ?_))))))
 replace hm := inr_up hm hx159
 obtain rfl := some_inj hm
 refine post_ret (vs := [.bool false]) results7 (rvs_cons (rv_tmp z) rvs_nil) ?_
 exact ⟨_, z, hI0, hst.keep0⟩
}
 {
 replace hm := bif_f hc151 hm
 refine ws_q (v := v139) 17 [18, 19, 20, 21] (by kernel_rfl) rfl rfl (yi_run ((wanted_eq rfl rfl rfl (cvb hc151)).trans rfl) (fun w hst => rfl)) (ws_q (v := .bool (!(t134.1.isNone))) 18 [19, 20, 21] (by kernel_rfl) rfl rfl (yi_run ((wanted_eq rfl rfl rfl (cvb hc151)).trans rfl) (fun w hst => by obtain ⟨a_, ha_, hb_⟩ := at_mvcc_Store_isnil hst.pull1; subst ha_; rw [← hb_]; cases a_ <;> kernel_rfl)) (ws_q (v := .bool (!(t134.1.isNone))) 19 [20, 21] (by kernel_rfl) rfl rfl (yi_run ((wanted_eq rfl rfl rfl (cvb hc150)).trans rfl) (fun w hst => x_pick_f hc151 rfl rfl)) (ws_q (v := .bool (!(t134.1.isNone))) 20 [21] (by kernel_rfl) rfl rfl (yi_run ((wanted_eq rfl rfl rfl (cvb hc149)).trans rfl) (fun w hst => x_pick_t hc150 rfl rfl)) (wsr (.bool (!(t134.1.isNone))) 21 rfl rfl rfl (by kernel_rfl) (fun w hst => x_pick_f hc149 rfl rfl) ?_))))
 refine ws_nil ?_
 intro w hst
 refine tn ?_
 refine bsplit (!(t134.1.isNone)) (fun hc152 => ?_) (fun hc152 => ?_)
 {
 replace hm := bif_t hc152 hm
 refine wp_ift (cvb hc152) ?_
 refine wp_seq (wrl (wv (.bool false) z z z (wl_nil (tn (wp_ret (then_r ?_))))))
 replace hm := inr_up hm hx159
 obtain rfl := some_inj hm
 refine post_ret (vs := [.bool false]) results7 (rvs_cons (rv_tmp z) rvs_nil) ?_
 exact ⟨_, z, hI0, hst.keep0⟩
}
 {
 replace hm := bif_f hc152 hm
 refine wp_iff (cvb hc152) ?_
 refine wp_skip (tn ?_)
 replace hst := hst.pull2.keep1
 obtain rfl := some_inj hm
 exact ⟨_, hx159, (fu 2 (.int .u16 a2) z (fu 3 (.int .u8 a3) z (fu 9 v107 z z))), hst⟩
}
}
}
 {
 replace hm := bif_f hc150 hm
 refine ws_q (v := undef) 14 [15, 16, 17, 18, 19, 20, 21] (by kernel_rfl) z z (yi_off ((wanted_eq z z z (cvb hc150)).trans z)) (ws_q (v := undef) 15 [16, 17, 18, 19, 20, 21] (by kernel_rfl) z z (yi_off ((wanted_eq z z z (cvb hc150)).trans z)) (ws_q (v := undef) 16 [17, 18, 19, 20, 21] (by kernel_rfl) z z (yi_off ((wanted_eq z z z (cvb hc150)).trans z)) (ws_q (v := undef) 17 [18, 19, 20, 21] (by kernel_rfl) z z (yi_off (wanted_undef z z z z)) (ws_q (v := undef) 18 [19, 20, 21] (by kernel_rfl) z z (yi_off (wanted_undef z z z z)) (ws_q (v := undef) 19 [20, 21] (by kernel_rfl) z z (yi_off ((wanted_eq z z z (cvb hc150)).trans z)) (ws_q (v := .bool false) 20 [21] (by kernel_rfl) z z (yi_run ((wanted_eq z z z (cvb hc149)).trans z) (fun w hst => x_pick_f hc150 z z)) (wsr (.bool false) 21 z z z (by kernel_rfl) (fun w hst => x_pick_f hc149 z z) ?_)))))))
 refine ws_nil ?_
 intro w hst
 refine tn ?_
 refine wp_iff z ?_
 refine wp_skip (tn ?_)
 replace hst := hst.pull2.keep1
 obtain rfl := some_inj hm
 exact ⟨_, hx159, (fu 2 (.int .u16 a2) z (fu 3 (.int .u8 a3) z (fu 9 v107 z z))), hst⟩
}
}
}
 {
 replace hm := bif_f hc141 hm
 refine ws_q (v := undef) 3 [4, 5, 6, 7, 8, 9, 10, 11, 12, 13, 14, 15, 16, 17, 18, 19, 20, 21] (by kernel_rfl) z z (yi_off ((wanted_eq z z z (cvb hc141)).trans z)) (ws_q (v := undef) 4 [5, 6, 7, 8, 9, 10, 11, 12, 13, 14, 15, 16, 17, 18, 19, 20, 21] (by kernel_rfl) z z (yi_off ((wanted_eq z z z (cvb hc141)).trans z)) (ws_q (v := undef) 5 [6, 7, 8, 9, 10, 11, 12, 13, 14, 15, 16, 17, 18, 19, 20, 21] (by kernel_rfl) z z (yi_off ((wanted_eq z z z (cvb hc141)).trans z)) (ws_q (v := undef) 6 [7, 8, 9, 10, 11, 12, 13, 14, 15, 16, 17, 18, 19, 20, 21] (by kernel_rfl) z z (yi_off ((wanted_eq z z z (cvb hc141)).trans z)) (ws_q (v := undef) 7 [8, 9, 10, 11, 12, 13, 14, 15, 16, 17, 18, 19, 20, 21] (by kernel_rfl) z z (yi_off ((wanted_eq z z z (cvb hc141)).trans z)) (ws_q (v := undef) 8 [9, 10, 11, 12, 13, 14, 15, 16, 17, 18, 19, 20, 21] (by kernel_rfl) z z (yi_off ((wanted_eq z z z (cvb hc141)).trans z)) (wsr (.bool false) 9 z z z (by kernel_rfl) (fun w hst => x_pick_f hc141 z z) (wsr (.bool false) 10 z z z (by kernel_rfl) (fun w hst => z) (ws_q (v := .int .i64 t134.2) 11 [12, 13, 14, 15, 16, 17, 18, 19, 20, 21] (by kernel_rfl) z z (yi_run ((wanted_eq z z z z).trans z) (fun w hst => z)) (ws_q (v := .bool (t134.2 != (0:Int))) 12 [13, 14, 15, 16, 17, 18, 19, 20, 21] (by kernel_rfl) z z (yi_run ((wanted_eq z z z z).trans z) (fun w hst => z)) (ws_q (v := .bool (t134.2 != (0:Int))) 13 [14, 15, 16, 17, 18, 19, 20, 21] (by kernel_rfl) z z (yi_run ((wanted_eq z z z z).trans z) (fun w hst => z)) ?_))))))))))
 refine bsplit (t134.2 != (0:Int)) (fun hc153 => ?_) (fun hc153 => ?_)
 {
 replace hm := bif_t hc153 hm
 refine ws_q (v := .int .i64 t134.2) 14 [15, 16, 17, 18, 19, 20, 21] (by kernel_rfl) z z (yi_run ((wanted_eq z z z (cvb hc153)).trans z) (fun w hst => z)) (ws_q (v := .bool (t134.2 != (5:Int))) 15 [16, 17, 18, 19, 20, 21] (by kernel_rfl) z z (yi_run ((wanted_eq z z z (cvb hc153)).trans z) (fun w hst => z)) (ws_q (v := .bool (t134.2 != (5:Int))) 16 [17, 18, 19, 20, 21] (by kernel_rfl) z z (yi_run ((wanted_eq z z z (cvb hc153)).trans z) (fun w hst => z)) ?_))
 refine bsplit (t134.2 != (5:Int)) (fun hc154 => ?_) (fun hc154 => ?_)
 {
 replace hm := bif_t hc154 hm
 refine ws_q (v := undef) 17 [18, 19, 20, 21] (by kernel_rfl) z z (yi_off ((wanted_eq z z z (cvb hc154)).trans z)) (ws_q (v := undef) 18 [19, 20, 21] (by kernel_rfl) z z (yi_off ((wanted_eq z z z (cvb hc154)).trans z)) (ws_q (v := .bool true) 19 [20, 21] (by kernel_rfl) z z (yi_run ((wanted_eq z z z (cvb hc153)).trans z) (fun w hst => x_pick_t hc154 z z)) (ws_q (v := .bool true) 20 [21] (by kernel_rfl) z z (yi_run ((wanted_eq z z z z).trans z) (fun w hst => x_pick_t hc153 z z)) (wsr (.bool true) 21 z z z (by kernel_rfl) (fun w hst => x_pick_f z z z) ?_))))
 refine ws_nil ?_
 intro w hst
 refine tn ?_
 refine wp_ift z ?_
 refine wp_seq (wrl (wv (.bool false) z z z (wl_nil (tn (wp_ret (then_r ?_))))))
 replace hm := inr_up hm hx159
 obtain rfl := some_inj hm
 refine post_ret (vs := [.bool false]) results7 (rvs_cons (rv_tmp z) rvs_nil) ?_
 exact ⟨_, z, hI0, hst.keep0⟩
}
 {
 replace hm := bif_f hc154 hm
 refine ws_q (v := v139) 17 [18, 19, 20, 21] (by kernel_rfl) rfl rfl (yi_run ((wanted_eq rfl rfl rfl (cvb hc154)).trans rfl) (fun w hst => rfl)) (ws_q (v := .bool (!(t134.1.isNone))) 18 [19, 20, 21] (by kernel_rfl) rfl rfl (yi_run ((wanted_eq rfl rfl rfl (cvb hc154)).trans rfl) (fun w hst => by obtain ⟨a_, ha_, hb_⟩ := at_mvcc_Store_isnil hst; subst ha_; rw [← hb_]; cases a_ <;> kernel_rfl)) (ws_q (v := .bool (!(t134.1.isNone))) 19 [20, 21] (by kernel_rfl) rfl rfl (yi_run ((wanted_eq rfl rfl rfl (cvb hc153)).trans rfl) (fun w hst => x_pick_f hc154 rfl rfl)) (ws_q (v := .bool (!(t134.1.isNone))) 20 [21] (by kernel_rfl) rfl rfl (yi_run ((wanted_eq rfl rfl rfl rfl).trans rfl) (fun w hst => x_pick_t hc153 rfl rfl)) (wsr (.bool (!(t134.1.isNone))) 21 rfl rfl rfl (by kernel_rfl) (fun w hst => x_pick_f rfl rfl rfl) ?_))))
 refine ws_nil ?_
 intro w hst
 refine tn ?_
 refine bsplit (!(t134.1.isNone)) (fun hc155 => ?_) (fun hc155 => ?_)
 {
 replace hm := bif_t hc155 hm
 refine wp_ift (cvb hc155) ?_
 refine wp_seq (wrl (wv (.bool false) z z z (wl_nil (tn (wp_ret (then_r ?_))))))
 replace hm := inr_up hm hx159
 obtain rfl := some_inj hm
 refine post_ret (vs := [.bool false]) results7 (rvs_cons (rv_tmp z) rvs_nil) ?_
 exact ⟨_, z, hI0, hst.keep0⟩
}
 {
 replace hm := bif_f hc155 hm
 refine wp_iff (cvb hc155) ?_
 refine wp_skip (tn ?_)
 replace hst := hst.pull1.keep1
 obtain rfl := some_inj hm
 exact ⟨_, hx159, (fu 2 (.int .u16 a2) z (fu 3 (.int .u8 a3) z (fu 9 v107 z z))), hst⟩
}
}
}
 {
 replace hm := bif_f hc153 hm
 refine ws_q (v := undef) 14 [15, 16, 17, 18, 19, 20, 21] (by kernel_rfl) z z (yi_off ((wanted_eq z z z (cvb hc153)).trans z)) (ws_q (v := undef) 15 [16, 17, 18, 19, 20, 21] (by kernel_rfl) z z (yi_off ((wanted_eq z z z (cvb hc153)).trans z)) (ws_q (v := undef) 16 [17, 18, 19, 20, 21] (by kernel_rfl) z z (yi_off ((wanted_eq z z z (cvb hc153)).trans z)) (ws_q (v := undef) 17 [18, 19, 20, 21] (by kernel_rfl) z z (yi_off (wanted_undef z z z z)) (ws_q (v := undef) 18 [19, 20, 21] (by kernel_rfl) z z (yi_off (wanted_undef z z z z)) (ws_q (v := undef) 19 [20, 21] (by kernel_rfl) z z (yi_off ((wanted_eq z z z (cvb hc153)).trans z)) (ws_q (v := .bool false) 20 [21] (by kernel_rfl) z z (yi_run ((wanted_eq z z z z).trans z) (fun w hst => x_pick_f hc153 z z)) (wsr (.bool false) 21 z z z (by kernel_rfl) (fun w hst => x_pick_f z z z) ?_)))))))
 refine ws_nil ?_
 intro w hst
 refine tn ?_
 refine wp_iff z ?_
 refine wp_skip (tn ?_)
 replace hst := hst.pull1.keep1
 obtain rfl := some_inj hm
 exact ⟨_, hx159, (fu 2 (.int .u16 a2) z (fu 3 (.int .u8 a3) z (fu 9 v107 z z))), hst⟩
}
}
}
 {
 clear hst
 rintro _ w160 ⟨σ156, hm, rfl, hst⟩
 dsimp only [law11_MvccJunk_j0] at hm
 refine wp_seq (wrl (wv (v107) z z z ?_))
 replace hst := objO_some hst
 obtain ⟨t161, ht162, hm⟩ := bind_some hm
 refine wc call27 [v107] z z z ?_
 refine (mvcc_Store_Encode_ref hst.to1 ht162).mono ?_
 rintro _ w163 ⟨v166, rfl, hst⟩
 refine ⟨_, z, ?_⟩
 replace hst := hst.of2.pull1
 replace hst := objO_get hst
 refine wv (v166) z z z (wl_nil (tn (wp_seq (wrl (wv (.int .u16 a2) z z z (wv (.int .i64 (i64.wrap a2)) z z (by kernel_rfl) (wv (v166) z z z (wv (.int .i64 ((t161).length : Int)) z z (x_len z underlying32 hst.sv1) ?_))))))))
 obtain ⟨hg168, hm⟩ := gd_some hm
 refine wv (.int .i64 (Int.tmod (i64.wrap a2) ((t161).length : Int))) z z (x_rem (not_t hg168) z z) (wv (.int .i64 (Int.tmod (i64.wrap a2) ((t161).length : Int))) z z z (wl_nil (tn (wp_seq (wrl (wv (v166) z z z (wv (.int .i64 (Int.tmod (i64.wrap a2) ((t161).length : Int))) z z z (wv (v166) z z z (wv (.int .i64 (Int.tmod (i64.wrap a2) ((t161).length : Int))) z z z ?_)))))))))
 obtain ⟨x169, hx170, hm⟩ := bind_some hm
 obtain ⟨h171, h172, hi173⟩ := geto_some hx170
 refine wv (.pointer (some (eAddr v166 ((Int.tmod (i64.wrap a2) ((t161).length : Int)).toNat * 1 + 0)))) z z (x_index z z underlying32 sizeOf5 hst.sv1 h171 h172) (wv (.int .u8 x169) z z (x_load z isAgg5 (hst.ol1 hi173 (by rintro _ rfl; rfl))) (wv (.int .u8 a3) z z z (wv (.int .u8 (bXor .u8 x169 a3)) z z z (wv (.pointer (some (eAddr v166 ((Int.tmod (i64.wrap a2) ((t161).length : Int)).toNat * 1 + 0)))) z z (x_index z z underlying32 sizeOf5 hst.sv1 h171 h172) ?_))))
 replace hst := hst.pull1
 obtain ⟨w174, hr175, hst⟩ := hst.own_store (P := prog) (t := 5) (y := (bXor .u8 x169 a3)) hi173 0 (.int .u8 (bXor .u8 x169 a3)) sizeOf5 (Nat.le_of_ble_eq_true z) (oC z oN) (by rintro _ rfl; rfl)
 have hi176 := set_get hi173 (bXor .u8 x169 a3)
 have h177 := set_lt h172 (Int.tmod (i64.wrap a2) ((t161).length : Int)).toNat (bXor .u8 x169 a3)
 refine wl_unit z z (x_unit hr175) ?_
 refine wl_nil (tn (wp_seq (wrl (wv (v166) z z z ?_))))
 obtain ⟨I178, hI179, f180, hst⟩ := hst.own_fix
 replace f0_0 := f0_0.mono (ro_le hI179)
 replace f1_0 := f1_0.mono (ro_le hI179)
 replace hI0 := hI0.trans hI179
 obtain ⟨t181, ht182, hm⟩ := bind_some hm
 refine wc call26 [v166] z z z ?_
 refine (mvcc_Decode_ref f180 hst.to0 ht182).mono ?_
 rintro _ w183 ⟨I184, v186, rfl, hI185, hst⟩
 refine ⟨_, z, ?_⟩
 replace hst := hst.of1
 replace f0_0 := f0_0.mono (ro_le hI185)
 replace f1_0 := f1_0.mono (ro_le hI185)
 replace f180 := f180.mono (ro_le hI185)
 replace hI0 := hI0.trans hI185
 refine wv (.tuple #[v186, I6 t181.2]) z z z (wv (v186) z z z (wv (.int .i64 t181.2) z z z (wv (v186) z z z (wv (.int .i64 t181.2) z z z (wl_nil (tn (wp_seq ?_)))))))
 refine wp_region_St hst 19 [0, 1, 2, 3, 4, 5, 6, 7, 8, 9, 10, 11, 12, 13, 14, 15, 16, 17, 18] [0, 1, 3, 7, 15, 31, 7, 71, 255, 511, 1023, 2047, 4095, 8191, 16383, 32767, 65535, 131071, 262143] [] z (by kernel_rfl) (by kernel_rfl) Try.mixed (by kernel_rfl) ?_
 refine wsr (.int .i64 t181.2) 0 z z z (by kernel_rfl) (fun w hst => z) (wsr (.bool (t181.2 == (0:Int))) 1 z z z (by kernel_rfl) (fun w hst => z) (wsr (.bool (t181.2 == (0:Int))) 2 z z z (by kernel_rfl) (fun w hst => z) ?_))
 refine bsplit (t181.2 == (0:Int)) (fun hc188 => ?_) (fun hc188 => ?_)
 {
 replace hm := bif_t hc188 hm
 refine ws_q (v := v186) 3 [4, 5, 6, 7, 8, 9, 10, 11, 12, 13, 14, 15, 16, 17, 18] (by kernel_rfl) z z (yi_run ((wanted_eq z z z (cvb hc188)).trans z) (fun w hst => z)) (ws_q (v := v166) 6 [4, 5, 7, 8, 9, 10, 11, 12, 13, 14, 15, 16, 17, 18] (by kernel_rfl) z z (yi_run ((wanted_eq z z z (cvb hc188)).trans z) (fun w hst => z)) (ws_q (v := .string (toStr (t161.set (Int.tmod (i64.wrap a2) ((t161).length : Int)).toNat (bXor .u8 x169 a3)))) 7 [4, 5, 8, 9, 10, 11, 12, 13, 14, 15, 16, 17, 18] (by kernel_rfl) z z (yi_run ((wanted_eq z z z (cvb hc188)).trans z) (fun w hst => x_tostr underlying32 underlying9 underlying5 z (Src.of_ro hst f180))) ?_))
 refine ws_e1 4 (by kernel_rfl) ?_
 refine nxe [5, 8, 9, 10, 11, 12, 13, 14, 15, 16, 17, 18] (by kernel_rfl) z ((wanted_eq z z z (cvb hc188)).trans z) ?_
 clear hst
 intro w hst
 obtain ⟨t189, ht190, hm⟩ := bind_some hm
 refine wec call27 [v186] z z ?_
 refine (mvcc_Store_Encode_ref hst.to1 ht190).mono ?_
 rintro _ w191 ⟨v194, rfl, hst⟩
 refine ⟨_, z, ?_⟩
 replace hst := hst.of2
 refine ws_next (pend' := [(7, .string (toStr (t161.set (Int.tmod (i64.wrap a2) ((t161).length : Int)).toNat (bXor .u8 x169 a3)))), (6, v166)]) hst (by kernel_rfl) (pk_cons z (yi_run ((wanted_eq z z z (cvb hc188)).trans z) (fun w hst => x_tostr underlying32 underlying9 underlying5 z (Src.of_ro hst f180))) (pk_cons z (yi_run ((wanted_eq z z z (cvb hc188)).trans z) (fun w hst => z)) pk_nil)) ?_
 refine ws_q (v := .string (toStr t189)) 5 [8, 9, 10, 11, 12, 13, 14, 15, 16, 17, 18] (by kernel_rfl) z z (yi_run ((wanted_eq z z z (cvb hc188)).trans z) (fun w hst => x_tostr underlying32 underlying9 underlying5 z hst.src0)) (ws_q (v := .bool (sEq (toStr t189) (toStr (t161.set (Int.tmod (i64.wrap a2) ((t161).length : Int)).toNat (bXor .u8 x169 a3))))) 8 [9, 10, 11, 12, 13, 14, 15, 16, 17, 18] (by kernel_rfl) z z (yi_run ((wanted_eq z z z (cvb hc188)).trans z) (fun w hst => by kernel_rfl)) (wsr (.bool (sEq (toStr t189) (toStr (t161.set (Int.tmod (i64.wrap a2) ((t161).length : Int)).toNat (bXor .u8 x169 a3))))) 9 z z z (by kernel_rfl) (fun w hst => x_pick_t hc188 z z) (wsr (.bool (sEq (toStr t189) (toStr (t161.set (Int.tmod (i64.wrap a2) ((t161).length : Int)).toNat (bXor .u8 x169 a3))))) 10 z z z (by kernel_rfl) (fun w hst => z) ?_)))
 refine bsplit (sEq (toStr t189) (toStr (t161.set (Int.tmod (i64.wrap a2) ((t161).length : Int)).toNat (bXor .u8 x169 a3)))) (fun hc196 => ?_) (fun hc196 => ?_)
 {
 replace hm := bif_t hc196 hm
 refine ws_q (v := undef) 11 [12, 13, 14, 15, 16, 17, 18] (by kernel_rfl) z z (yi_off ((wanted_eq z z z (cvb hc196)).trans z)) (ws_q (v := undef) 12 [13, 14, 15, 16, 17, 18] (by kernel_rfl) z z (yi_off ((wanted_eq z z z (cvb hc196)).trans z)) (ws_q (v := undef) 13 [14, 15, 16, 17, 18] (by kernel_rfl) z z (yi_off ((wanted_eq z z z (cvb hc196)).trans z)) (ws_q (v := undef) 14 [15, 16, 17, 18] (by kernel_rfl) z z (yi_off (wanted_undef z z z z)) (ws_q (v := undef) 15 [16, 17, 18] (by kernel_rfl) z z (yi_off (wanted_undef z z z z)) (ws_q (v := undef) 16 [17, 18] (by kernel_rfl) z z (yi_off ((wanted_eq z z z (cvb hc196)).trans z)) (wsr (.bool true) 17 z z z (by kernel_rfl) (fun w hst => x_pick_t hc196 z z) (wsr (.bool true) 18 z z z (by kernel_rfl) (fun w hst => z) ?_)))))))
 refine ws_nil ?_
 intro w hst
 refine tn (wp_ret ?_)
 obtain rfl := some_inj hm
 refine post_ret (vs := [.bool true]) results7 (rvs_cons (rv_tmp z) rvs_nil) ?_
 exact ⟨_, z, hI0, hst.keep0⟩
}
 {
 replace hm := bif_f hc196 hm
 refine ws_q (v := .int .i64 t181.2) 11 [12, 13, 14, 15, 16, 17, 18] (by kernel_rfl) z z (yi_run ((wanted_eq z z z (cvb hc196)).trans z) (fun w hst => z)) (ws_q (v := .bool (t181.2 == (5:Int))) 12 [13, 14, 15, 16, 17, 18] (by kernel_rfl) z z (yi_run ((wanted_eq z z z (cvb hc196)).trans z) (fun w hst => z)) (ws_q (v := .bool (t181.2 == (5:Int))) 13 [14, 15, 16, 17, 18] (by kernel_rfl) z z (yi_run ((wanted_eq z z z (cvb hc196)).trans z) (fun w hst => z)) ?_))
 refine bsplit (t181.2 == (5:Int)) (fun hc197 => ?_) (fun hc197 => ?_)
 {
 replace hm := bif_t hc197 hm
 refine ws_q (v := v186) 14 [15, 16, 17, 18] (by kernel_rfl) rfl rfl (yi_run ((wanted_eq rfl rfl rfl (cvb hc197)).trans rfl) (fun w hst => rfl)) (ws_q (v := .bool (t181.1.isNone)) 15 [16, 17, 18] (by kernel_rfl) rfl rfl (yi_run ((wanted_eq rfl rfl rfl (cvb hc197)).trans rfl) (fun w hst => by obtain ⟨a_, ha_, hb_⟩ := at_mvcc_Store_isnil hst.pull1; subst ha_; rw [← hb_]; cases a_ <;> kernel_rfl)) (ws_q (v := .bool (t181.1.isNone)) 16 [17, 18] (by kernel_rfl) rfl rfl (yi_run ((wanted_eq rfl rfl rfl (cvb hc196)).trans rfl) (fun w hst => x_pick_t hc197 rfl rfl)) (wsr (.bool (t181.1.isNone)) 17 rfl rfl rfl (by kernel_rfl) (fun w hst => x_pick_f hc196 rfl rfl) (wsr (.bool (t181.1.isNone)) 18 rfl rfl rfl (by kernel_rfl) (fun w hst => rfl) ?_))))
 refine ws_nil ?_
 intro w hst
 refine tn (wp_ret ?_)
 obtain rfl := some_inj hm
 refine post_ret (vs := [.bool (t181.1.isNone)]) results7 (rvs_cons (rv_tmp z) rvs_nil) ?_
 exact ⟨_, z, hI0, hst.keep0⟩
}
 {
 replace hm := bif_f hc197 hm
 refine ws_q (v := undef) 14 [15, 16, 17, 18] (by kernel_rfl) z z (yi_off ((wanted_eq z z z (cvb hc197)).trans z)) (ws_q (v := undef) 15 [16, 17, 18] (by kernel_rfl) z z (yi_off ((wanted_eq z z z (cvb hc197)).trans z)) (ws_q (v := .bool false) 16 [17, 18] (by kernel_rfl) z z (yi_run ((wanted_eq z z z (cvb hc196)).trans z) (fun w hst => x_pick_f hc197 z z)) (wsr (.bool false) 17 z z z (by kernel_rfl) (fun w hst => x_pick_f hc196 z z) (wsr (.bool false) 18 z z z (by kernel_rfl) (fun w hst => z) ?_))))
 refine ws_nil ?_
 intro w hst
 refine tn (wp_ret ?_)
 obtain rfl := some_inj hm
 refine post_ret (vs := [.bool false]) results7 (rvs_cons (rv_tmp z) rvs_nil) ?_
 exact ⟨_, z, hI0, hst.keep0⟩
}
}
}
 {
 replace hm := bif_f hc188 hm
 refine ws_q (v := undef) 3 [4, 5, 6, 7, 8, 9, 10, 11, 12, 13, 14, 15, 16, 17, 18] (by kernel_rfl) z z (yi_off ((wanted_eq z z z (cvb hc188)).trans z)) (ws_q (v := undef) 4 [5, 6, 7, 8, 9, 10, 11, 12, 13, 14, 15, 16, 17, 18] (by kernel_rfl) z z (yi_off ((wanted_eq z z z (cvb hc188)).trans z)) (ws_q (v := undef) 5 [6, 7, 8, 9, 10, 11, 12, 13, 14, 15, 16, 17, 18] (by kernel_rfl) z z (yi_off ((wanted_eq z z z (cvb hc188)).trans z)) (ws_q (v := undef) 6 [7, 8, 9, 10, 11, 12, 13, 14, 15, 16, 17, 18] (by kernel_rfl) z z (yi_off ((wanted_eq z z z (cvb hc188)).trans z)) (ws_q (v := undef) 7 [8, 9, 10, 11, 12, 13, 14, 15, 16, 17, 18] (by kernel_rfl) z z (yi_off ((wanted_eq z z z (cvb hc188)).trans z)) (ws_q (v := undef) 8 [9, 10, 11, 12, 13, 14, 15, 16, 17, 18] (by kernel_rfl) z z (yi_off ((wanted_eq z z z (cvb hc188)).trans z)) (wsr (.bool false) 9 z z z (by kernel_rfl) (fun w hst => x_pick_f hc188 z z) (wsr (.bool false) 10 z z z (by kernel_rfl) (fun w hst => z) (ws_q (v := .int .i64 t181.2) 11 [12, 13, 14, 15, 16, 17, 18] (by kernel_rfl) z z (yi_run ((wanted_eq z z z z).trans z) (fun w hst => z)) (ws_q (v := .bool (t181.2 == (5:Int))) 12 [13, 14, 15, 16, 17, 18] (by kernel_rfl) z z (yi_run ((wanted_eq z z z z).trans z) (fun w hst => z)) (ws_q (v := .bool (t181.2 == (5:Int))) 13 [14, 15, 16, 17, 18] (by kernel_rfl) z z (yi_run ((wanted_eq z z z z).trans z) (fun w hst => z)) ?_))))))))))
 refine bsplit (t181.2 == (5:Int)) (fun hc198 => ?_) (fun hc198 => ?_)
 {
 replace hm := bif_t hc198 hm
 refine ws_q (v := v186) 14 [15, 16, 17, 18] (by kernel_rfl) rfl rfl (yi_run ((wanted_eq rfl rfl rfl (cvb hc198)).trans rfl) (fun w hst => rfl)) (ws_q (v := .bool (t181.1.isNone)) 15 [16, 17, 18] (by kernel_rfl) rfl rfl (yi_run ((wanted_eq rfl rfl rfl (cvb hc198)).trans rfl) (fun w hst => by obtain ⟨a_, ha_, hb_⟩ := at_mvcc_Store_isnil hst; subst ha_; rw [← hb_]; cases a_ <;> kernel_rfl)) (ws_q (v := .bool (t181.1.isNone)) 16 [17, 18] (by kernel_rfl) rfl rfl (yi_run ((wanted_eq rfl rfl rfl rfl).trans rfl) (fun w hst => x_pick_t hc198 rfl rfl)) (wsr (.bool (t181.1.isNone)) 17 rfl rfl rfl (by kernel_rfl) (fun w hst => x_pick_f rfl rfl rfl) (wsr (.bool (t181.1.isNone)) 18 rfl rfl rfl (by kernel_rfl) (fun w hst => rfl) ?_))))
 refine ws_nil ?_
 intro w hst
 refine tn (wp_ret ?_)
 obtain rfl := some_inj hm
 refine post_ret (vs := [.bool (t181.1.isNone)]) results7 (rvs_cons (rv_tmp z) rvs_nil) ?_
 exact ⟨_, z, hI0, hst.keep0⟩
}
 {
 replace hm := bif_f hc198 hm
 refine ws_q (v := undef) 14 [15, 16, 17, 18] (by kernel_rfl) z z (yi_off ((wanted_eq z z z (cvb hc198)).trans z)) (ws_q (v := undef) 15 [16, 17, 18] (by kernel_rfl) z z (yi_off ((wanted_eq z z z (cvb hc198)).trans z)) (ws_q (v := .bool false) 16 [17, 18] (by kernel_rfl) z z (yi_run ((wanted_eq z z z z).trans z) (fun w hst => x_pick_f hc198 z z)) (wsr (.bool false) 17 z z z (by kernel_rfl) (fun w hst => x_pick_f z z z) (wsr (.bool false) 18 z z z (by kernel_rfl) (fun w hst => z) ?_))))
 refine ws_nil ?_
 intro w hst
 refine tn (wp_ret ?_)
 obtain rfl := some_inj hm
 refine post_ret (vs := [.bool false]) results7 (rvs_cons (rv_tmp z) rvs_nil) ?_
 exact ⟨_, z, hI0, hst.keep0⟩
}
}
}
}
}
}
}

end Go.Proofs.Ytbdnbohbmgmonaa
