/- The Go functions refine their models, part 2. -/
import Derived.Test.YtbdhhmnncknhhaaLocksMeetR1
set_option linter.unusedVariables false
set_option linter.unusedSimpArgs false
set_option maxRecDepth 100000
set_option maxHeartbeats 4000000
namespace Go.Proofs.Ytbdhhmnncknhhaa
open Go Go.V
open _root_.Go.Proofs.Try IntKind
attribute [local irreducible] wpList Code.wp wpQuiet Calls bodyPost Oper.wp wpS Nx PendOK YieldsIn
theorem law12_LocksMeet_ref {w0 w : World} {I : HL} {R : SP} {a0 : api_Hold} {r0_0 : Value} {r0_1 : Value} {r0_2 : Value} {r0_3 : Value} {a1 : api_Hold} {r1_0 : Value} {r1_1 : Value} {r1_2 : Value} {r1_3 : Value} {a2 : (List Int)} {r2_0 : Value} (f0_0 : Rd tyF64 R I r0_0 a0.Gets) (f0_1 : Rd tyF2 R I r0_1 a0.Scans) (f0_2 : Rd tyF64 R I r0_2 a0.Puts) (f0_3 : Rd (tyInt .u8) R I r0_3 a0.Data) (f1_0 : Rd tyF64 R I r1_0 a1.Gets) (f1_1 : Rd tyF2 R I r1_1 a1.Scans) (f1_2 : Rd tyF64 R I r1_2 a1.Puts) (f1_3 : Rd (tyInt .u8) R I r1_3 a1.Data) (f2_0 : Ro (tyInt .u8) I r2_0 a2) (hst : St w0 w I [] R) {r : (Bool)} (hm : law12_LocksMeet a0 a1 a2 = some r) :
  Calls prog 4 #[.agg #[U6 a0.ID.Session, U6 a0.ID.Seq, U6 a0.Epoch, r0_0, r0_1, r0_2, r0_3], .agg #[U6 a1.ID.Session, U6 a1.ID.Seq, U6 a1.Epoch, r1_0, r1_1, r1_2, r1_3], r2_0] w fun e w' => ∃ (I' : HL), e = .returned (.bool r) ∧ I.le I' ∧ St w0 w' I' [] R := by {
 unfold law12_LocksMeet at hm
 refine calls_start (args := [.agg #[U6 a0.ID.Session, U6 a0.ID.Seq, U6 a0.Epoch, r0_0, r0_1, r0_2, r0_3], .agg #[U6 a1.ID.Session, U6 a1.ID.Seq, U6 a1.Epoch, r1_0, r1_1, r1_2, r1_3], r2_0]) func4 z ntmps4 (Nat.le_of_ble_eq_true z) ?_
 have hI0 := HL.le.refl I
 refine wp_seq (wrl ?_)
 obtain ⟨b284, w285, ew286, eb287, hst⟩ := hst.box [U6 a0.ID.Session, U6 a0.ID.Seq, U6 a0.Epoch, r0_0, r0_1, r0_2, r0_3] 34
 refine wl_run (v := Pt b284 0) (w' := w285) z z (x_al (by kernel_rfl) ew286 eb287) ?_
 obtain ⟨b289, w290, ew291, eb292, hst⟩ := hst.box [U6 a1.ID.Session, U6 a1.ID.Seq, U6 a1.Epoch, r1_0, r1_1, r1_2, r1_3] 34
 refine wl_run (v := Pt b289 0) (w' := w290) z z (x_al (by kernel_rfl) ew291 eb292) ?_
 refine wv (.bool false) z z z (wl_nil (tn (wp_seq (wp_seq (wrl ?_)))))
 obtain ⟨t294, ht295, hm⟩ := bind_some hm
 refine wc call9 [] z z z ?_
 refine (law12_awake_ref hst.to0 ht295).mono ?_
 rintro _ w296 ⟨I297, rfl, hI298, hst⟩
 refine ⟨_, z, ?_⟩
 replace hst := hst.of0
 replace f0_0 := f0_0.mono (rd_le hI298)
 replace f0_1 := f0_1.mono (rd_le hI298)
 replace f0_2 := f0_2.mono (rd_le hI298)
 replace f0_3 := f0_3.mono (rd_le hI298)
 replace f1_0 := f1_0.mono (rd_le hI298)
 replace f1_1 := f1_1.mono (rd_le hI298)
 replace f1_2 := f1_2.mono (rd_le hI298)
 replace f1_3 := f1_3.mono (rd_le hI298)
 replace f2_0 := f2_0.mono (ro_le hI298)
 replace hI0 := hI0.trans hI298
 refine wv (.bool (!t294)) z z z (wv (.bool (!t294)) z z z ?_)
 refine bsplit (!t294) (fun hc299 => ?_) (fun hc299 => ?_)
 {
 replace hm := bif_t hc299 hm
 refine wo hc299 z z z z z z (wo hc299 z z z z z z (wo hc299 z z z z z z (wv (.bool true) z z (x_pick_t hc299 z z) (wv (.bool true) z z z (wz z z z z z z (wz z z z z z z (wz z z z z z z (wv (.bool true) z z (x_pick_t z z z) (wv (.bool true) z z z (wz z z z z z z (wz z z z z z z (wz z z z z z z ?_))))))))))))
 refine wv (.bool true) z z (x_pick_t z z z) (wl_nil (tn ?_))
 refine wp_ift z ?_
 refine wp_seq (wrl ?_)
 obtain ⟨t300, ht301, hm⟩ := bind_some hm
 refine wc call9 [] z z z ?_
 refine (law12_awake_ref hst.to0 ht301).mono ?_
 rintro _ w302 ⟨I303, rfl, hI304, hst⟩
 refine ⟨_, z, ?_⟩
 replace hst := hst.of0
 replace f0_0 := f0_0.mono (rd_le hI304)
 replace f0_1 := f0_1.mono (rd_le hI304)
 replace f0_2 := f0_2.mono (rd_le hI304)
 replace f0_3 := f0_3.mono (rd_le hI304)
 replace f1_0 := f1_0.mono (rd_le hI304)
 replace f1_1 := f1_1.mono (rd_le hI304)
 replace f1_2 := f1_2.mono (rd_le hI304)
 replace f1_3 := f1_3.mono (rd_le hI304)
 replace f2_0 := f2_0.mono (ro_le hI304)
 replace hI0 := hI0.trans hI304
 refine wv (.bool t300) z z z (wl_nil (tn (wp_ret (then_r ?_))))
 obtain rfl := some_inj hm
 refine post_ret (vs := [.bool t300]) results4 (rvs_cons (rv_tmp z) rvs_nil) ?_
 exact ⟨_, z, hI0, hst.keep0⟩
}
 {
 replace hm := bif_f hc299 hm
 refine wv (.agg #[U6 a0.ID.Session, U6 a0.ID.Seq, U6 a0.Epoch, r0_0, r0_1, r0_2, r0_3]) ((wanted_eq z z z (cvb hc299)).trans z) z (x_loadN (cs := [U6 a0.ID.Session, U6 a0.ID.Seq, U6 a0.Epoch, r0_0, r0_1, r0_2, r0_3]) z isAgg34 sizeOf34 (hst.bcs1 0 z)) ?_
 obtain ⟨t305, ht306, hm⟩ := bind_some hm
 refine wl_call ((wanted_eq z z z (cvb hc299)).trans z) z (x_call call11 z (vs := [.agg #[U6 a0.ID.Session, U6 a0.ID.Seq, U6 a0.Epoch, r0_0, r0_1, r0_2, r0_3]]) z) ?_
 refine (law12_short_ref (f0_0.mono (rd_weak _)) (f0_1.mono (rd_weak _)) (f0_2.mono (rd_weak _)) (f0_3.mono (rd_weak _)) hst.to0 ht306).mono ?_
 rintro _ w307 ⟨rfl, hst⟩
 refine ⟨_, z, ?_⟩
 replace hst := hst.of0
 refine wv (.bool (!t305)) ((wanted_eq z z z (cvb hc299)).trans z) z z (wv (.bool (!t305)) z z (x_pick_f hc299 z z) (wv (.bool (!t305)) z z z ?_))
 refine bsplit (!t305) (fun hc310 => ?_) (fun hc310 => ?_)
 {
 replace hm := bif_t hc310 hm
 refine wo hc310 z z z z z z (wo hc310 z z z z z z (wo hc310 z z z z z z (wv (.bool true) z z (x_pick_t hc310 z z) (wv (.bool true) z z z (wz z z z z z z (wz z z z z z z (wz z z z z z z (wv (.bool true) z z (x_pick_t z z z) (wl_nil (tn ?_))))))))))
 refine wp_ift z ?_
 refine wp_seq (wrl ?_)
 obtain ⟨t311, ht312, hm⟩ := bind_some hm
 refine wc call9 [] z z z ?_
 refine (law12_awake_ref hst.to0 ht312).mono ?_
 rintro _ w313 ⟨I314, rfl, hI315, hst⟩
 refine ⟨_, z, ?_⟩
 replace hst := hst.of0
 replace f0_0 := f0_0.mono (rd_le hI315)
 replace f0_1 := f0_1.mono (rd_le hI315)
 replace f0_2 := f0_2.mono (rd_le hI315)
 replace f0_3 := f0_3.mono (rd_le hI315)
 replace f1_0 := f1_0.mono (rd_le hI315)
 replace f1_1 := f1_1.mono (rd_le hI315)
 replace f1_2 := f1_2.mono (rd_le hI315)
 replace f1_3 := f1_3.mono (rd_le hI315)
 replace f2_0 := f2_0.mono (ro_le hI315)
 replace hI0 := hI0.trans hI315
 refine wv (.bool t311) z z z (wl_nil (tn (wp_ret (then_r ?_))))
 obtain rfl := some_inj hm
 refine post_ret (vs := [.bool t311]) results4 (rvs_cons (rv_tmp z) rvs_nil) ?_
 exact ⟨_, z, hI0, hst.keep0⟩
}
 {
 replace hm := bif_f hc310 hm
 refine wv (.agg #[U6 a1.ID.Session, U6 a1.ID.Seq, U6 a1.Epoch, r1_0, r1_1, r1_2, r1_3]) ((wanted_eq z z z (cvb hc310)).trans z) z (x_loadN (cs := [U6 a1.ID.Session, U6 a1.ID.Seq, U6 a1.Epoch, r1_0, r1_1, r1_2, r1_3]) z isAgg34 sizeOf34 (hst.bcs0 0 z)) ?_
 obtain ⟨t316, ht317, hm⟩ := bind_some hm
 refine wl_call ((wanted_eq z z z (cvb hc310)).trans z) z (x_call call11 z (vs := [.agg #[U6 a1.ID.Session, U6 a1.ID.Seq, U6 a1.Epoch, r1_0, r1_1, r1_2, r1_3]]) z) ?_
 refine (law12_short_ref (f1_0.mono (rd_weak _)) (f1_1.mono (rd_weak _)) (f1_2.mono (rd_weak _)) (f1_3.mono (rd_weak _)) hst.to0 ht317).mono ?_
 rintro _ w318 ⟨rfl, hst⟩
 refine ⟨_, z, ?_⟩
 replace hst := hst.of0
 refine wv (.bool (!t316)) ((wanted_eq z z z (cvb hc310)).trans z) z z (wv (.bool (!t316)) z z (x_pick_f hc310 z z) (wv (.bool (!t316)) z z z ?_))
 refine bsplit (!t316) (fun hc321 => ?_) (fun hc321 => ?_)
 {
 replace hm := bif_t hc321 hm
 refine wo hc321 z z z z z z (wo hc321 z z z z z z (wo hc321 z z z z z z (wv (.bool true) z z (x_pick_t hc321 z z) (wl_nil (tn ?_)))))
 refine wp_ift z ?_
 refine wp_seq (wrl ?_)
 obtain ⟨t322, ht323, hm⟩ := bind_some hm
 refine wc call9 [] z z z ?_
 refine (law12_awake_ref hst.to0 ht323).mono ?_
 rintro _ w324 ⟨I325, rfl, hI326, hst⟩
 refine ⟨_, z, ?_⟩
 replace hst := hst.of0
 replace f0_0 := f0_0.mono (rd_le hI326)
 replace f0_1 := f0_1.mono (rd_le hI326)
 replace f0_2 := f0_2.mono (rd_le hI326)
 replace f0_3 := f0_3.mono (rd_le hI326)
 replace f1_0 := f1_0.mono (rd_le hI326)
 replace f1_1 := f1_1.mono (rd_le hI326)
 replace f1_2 := f1_2.mono (rd_le hI326)
 replace f1_3 := f1_3.mono (rd_le hI326)
 replace f2_0 := f2_0.mono (ro_le hI326)
 replace hI0 := hI0.trans hI326
 refine wv (.bool t322) z z z (wl_nil (tn (wp_ret (then_r ?_))))
 obtain rfl := some_inj hm
 refine post_ret (vs := [.bool t322]) results4 (rvs_cons (rv_tmp z) rvs_nil) ?_
 exact ⟨_, z, hI0, hst.keep0⟩
}
 {
 replace hm := bif_f hc321 hm
 refine wv (r2_0) ((wanted_eq z z z (cvb hc321)).trans z) z z (wv (.int .i64 ((a2).length : Int)) ((wanted_eq z z z (cvb hc321)).trans z) z (x_len z underlying32 (ro_sliceV f2_0)) (wv (.bool (decide (((a2).length : Int) > (100:Int)))) ((wanted_eq z z z (cvb hc321)).trans z) z z (wv (.bool (decide (((a2).length : Int) > (100:Int)))) z z (x_pick_f hc321 z z) (wl_nil (tn ?_)))))
 refine bsplit (decide (((a2).length : Int) > (100:Int))) (fun hc327 => ?_) (fun hc327 => ?_)
 {
 replace hm := bif_t hc327 hm
 refine wp_ift (cvb hc327) ?_
 refine wp_seq (wrl ?_)
 obtain ⟨t328, ht329, hm⟩ := bind_some hm
 refine wc call9 [] z z z ?_
 refine (law12_awake_ref hst.to0 ht329).mono ?_
 rintro _ w330 ⟨I331, rfl, hI332, hst⟩
 refine ⟨_, z, ?_⟩
 replace hst := hst.of0
 replace f0_0 := f0_0.mono (rd_le hI332)
 replace f0_1 := f0_1.mono (rd_le hI332)
 replace f0_2 := f0_2.mono (rd_le hI332)
 replace f0_3 := f0_3.mono (rd_le hI332)
 replace f1_0 := f1_0.mono (rd_le hI332)
 replace f1_1 := f1_1.mono (rd_le hI332)
 replace f1_2 := f1_2.mono (rd_le hI332)
 replace f1_3 := f1_3.mono (rd_le hI332)
 replace f2_0 := f2_0.mono (ro_le hI332)
 replace hI0 := hI0.trans hI332
 refine wv (.bool t328) z z z (wl_nil (tn (wp_ret (then_r ?_))))
 obtain rfl := some_inj hm
 refine post_ret (vs := [.bool t328]) results4 (rvs_cons (rv_tmp z) rvs_nil) ?_
 exact ⟨_, z, hI0, hst.keep0⟩
}
 {
 replace hm := bif_f hc327 hm
 refine wp_iff (cvb hc327) ?_
 refine wp_skip (tn (wp_seq (wrl ?_)))
 refine wv (r2_0) z z z (wv (.agg #[r2_0, Zi]) z z (by obtain ⟨_, _, hv_, _⟩ := (ro_sliceV f2_0); rw [hv_]; kernel_rfl) ?_)
 obtain ⟨b334, w335, ew336, eb337, hst⟩ := hst.box [r2_0, Zi] 45
 refine wl_run (v := Pt b334 0) (w' := w335) z z (x_al (by kernel_rfl) ew336 eb337) ?_
 refine wv (Pt b334 0) z z z (wl_nil (tn (wp_seq (wrl (wv (Pt b334 0) z z z ?_)))))
 replace hst := at_ref12_Tape_close (pv := Pt b334 0) (x := ({ L := a2, I := (0:Int) } : ref12_Tape)) hst ⟨z, f2_0⟩
 obtain ⟨t339, ht340, hm⟩ := bind_some hm
 refine wc call16 [Pt b334 0] z z z ?_
 refine (ref12_Tape_Hold_ref hst.to1 ht340).mono ?_
 rintro _ w341 ⟨v344, v346, v348, v350, rfl, hst⟩
 refine ⟨_, z, ?_⟩
 replace hst := hst.of5
 obtain ⟨b356, w357, ew358, eb359, hst⟩ := hst.box [Zu, Zu, Zu, Zs, Zs, Zs, Zs] 34
 refine wl_run (v := Pt b356 0) (w' := w357) z z (x_al (by kernel_rfl) ew358 eb359) ?_
 obtain ⟨w361, hr362, hst⟩ := hst.bx [U6 t339.1.ID.Session, U6 t339.1.ID.Seq, U6 t339.1.Epoch, v344, v346, v348, v350] sizeOf34 z (oC z (oC z (oC z (oC (one_of_sliceV hst.sv1) (oC (one_of_sliceV hst.sv2) (oC (one_of_sliceV hst.sv3) (oC (one_of_sliceV hst.sv4) oN))))))) (by kernel_rfl)
 refine wl_unit z z (x_unit hr362) ?_
 refine wl_nil (tn (wp_seq (wrl (wv (Pt b334 0) z z z ?_))))
 replace hst := hst.pull5
 obtain ⟨t363, ht364, hm⟩ := bind_some hm
 refine wc call16 [Pt b334 0] z z z ?_
 refine (ref12_Tape_Hold_ref hst.to1 ht364).mono ?_
 rintro _ w365 ⟨v368, v370, v372, v374, rfl, hst⟩
 refine ⟨_, z, ?_⟩
 replace hst := hst.of5
 obtain ⟨b380, w381, ew382, eb383, hst⟩ := hst.box [Zu, Zu, Zu, Zs, Zs, Zs, Zs] 34
 refine wl_run (v := Pt b380 0) (w' := w381) z z (x_al (by kernel_rfl) ew382 eb383) ?_
 obtain ⟨w385, hr386, hst⟩ := hst.bx [U6 t363.1.ID.Session, U6 t363.1.ID.Seq, U6 t363.1.Epoch, v368, v370, v372, v374] sizeOf34 z (oC z (oC z (oC z (oC (one_of_sliceV hst.sv1) (oC (one_of_sliceV hst.sv2) (oC (one_of_sliceV hst.sv3) (oC (one_of_sliceV hst.sv4) oN))))))) (by kernel_rfl)
 refine wl_unit z z (x_unit hr386) ?_
 refine wl_nil (tn (wp_seq (wp_seq ?_)))
 refine wp_region_St hst 22 [0, 1, 2, 3, 4, 5, 6, 7, 8, 9, 10, 11, 12, 13, 14, 15, 16, 17, 18, 19, 20, 21] [0, 0, 3, 0, 0, 31, 63, 127, 255, 255, 1023, 2047, 4095, 8191, 16383, 16383, 65535, 16383, 16383, 524287, 1048575, 2097151] [] z (by kernel_rfl) (by kernel_rfl) Try.mixed (by kernel_rfl) ?_
 refine wsr (.agg #[U6 a0.ID.Session, U6 a0.ID.Seq, U6 a0.Epoch, r0_0, r0_1, r0_2, r0_3]) 0 z z z (by kernel_rfl) (fun w hst => x_loadN (cs := [U6 a0.ID.Session, U6 a0.ID.Seq, U6 a0.Epoch, r0_0, r0_1, r0_2, r0_3]) z isAgg34 sizeOf34 (hst.bcs12 0 z)) (wsr (.agg #[U6 a1.ID.Session, U6 a1.ID.Seq, U6 a1.Epoch, r1_0, r1_1, r1_2, r1_3]) 1 z z z (by kernel_rfl) (fun w hst => x_loadN (cs := [U6 a1.ID.Session, U6 a1.ID.Seq, U6 a1.Epoch, r1_0, r1_1, r1_2, r1_3]) z isAgg34 sizeOf34 (hst.bcs11 0 z)) (wsr (.agg #[U6 a0.ID.Session, U6 a0.ID.Seq, U6 a0.Epoch, r0_0, r0_1, r0_2, r0_3]) 3 z z z (by kernel_rfl) (fun w hst => x_loadN (cs := [U6 a0.ID.Session, U6 a0.ID.Seq, U6 a0.Epoch, r0_0, r0_1, r0_2, r0_3]) z isAgg34 sizeOf34 (hst.bcs12 0 z)) (wsr (.agg #[U6 a1.ID.Session, U6 a1.ID.Seq, U6 a1.Epoch, r1_0, r1_1, r1_2, r1_3]) 4 z z z (by kernel_rfl) (fun w hst => x_loadN (cs := [U6 a1.ID.Session, U6 a1.ID.Seq, U6 a1.Epoch, r1_0, r1_1, r1_2, r1_3]) z isAgg34 sizeOf34 (hst.bcs11 0 z)) ?_)))
 refine ws_e1 2 (by kernel_rfl) ?_
 refine nxe [5, 6, 7, 8, 9, 10, 11, 12, 13, 14, 15, 16, 17, 18, 19, 20, 21] (by kernel_rfl) z z ?_
 clear hst
 intro w hst
 obtain ⟨t387, ht388, hm⟩ := bind_some hm
 refine wec call17 [.agg #[U6 a0.ID.Session, U6 a0.ID.Seq, U6 a0.Epoch, r0_0, r0_1, r0_2, r0_3], .agg #[U6 a1.ID.Session, U6 a1.ID.Seq, U6 a1.Epoch, r1_0, r1_1, r1_2, r1_3]] z z ?_
 refine (locks_Same_ref (f0_0.mono (rd_weak _)) (f0_1.mono (rd_weak _)) (f0_2.mono (rd_weak _)) (f0_3.mono (rd_weak _)) (f1_0.mono (rd_weak _)) (f1_1.mono (rd_weak _)) (f1_2.mono (rd_weak _)) (f1_3.mono (rd_weak _)) hst.to0 ht388).mono ?_
 rintro _ w389 ⟨rfl, hst⟩
 refine ⟨_, z, ?_⟩
 replace hst := hst.of0
 refine ws_next (pend' := [(4, .agg #[U6 a1.ID.Session, U6 a1.ID.Seq, U6 a1.Epoch, r1_0, r1_1, r1_2, r1_3]), (3, .agg #[U6 a0.ID.Session, U6 a0.ID.Seq, U6 a0.Epoch, r0_0, r0_1, r0_2, r0_3])]) hst (by kernel_rfl) (pkr z z (fun w hst => x_loadN (cs := [U6 a1.ID.Session, U6 a1.ID.Seq, U6 a1.Epoch, r1_0, r1_1, r1_2, r1_3]) z isAgg34 sizeOf34 (hst.bcs11 0 z)) (pkr z z (fun w hst => x_loadN (cs := [U6 a0.ID.Session, U6 a0.ID.Seq, U6 a0.Epoch, r0_0, r0_1, r0_2, r0_3]) z isAgg34 sizeOf34 (hst.bcs12 0 z)) pk_nil)) ?_
 refine ws_e1 5 (by kernel_rfl) ?_
 refine nxe [6, 7, 8, 9, 10, 11, 12, 13, 14, 15, 16, 17, 18, 19, 20, 21] (by kernel_rfl) z z ?_
 clear hst
 intro w hst
 obtain ⟨t392, ht393, hm⟩ := bind_some hm
 refine wec call18 [.agg #[U6 a0.ID.Session, U6 a0.ID.Seq, U6 a0.Epoch, r0_0, r0_1, r0_2, r0_3], .agg #[U6 a1.ID.Session, U6 a1.ID.Seq, U6 a1.Epoch, r1_0, r1_1, r1_2, r1_3]] z z ?_
 refine (ref11_SameHold_ref (f0_0.mono (rd_weak _)) (f0_1.mono (rd_weak _)) (f0_2.mono (rd_weak _)) (f0_3.mono (rd_weak _)) (f1_0.mono (rd_weak _)) (f1_1.mono (rd_weak _)) (f1_2.mono (rd_weak _)) (f1_3.mono (rd_weak _)) hst.to0 ht393).mono ?_
 rintro _ w394 ⟨rfl, hst⟩
 refine ⟨_, z, ?_⟩
 replace hst := hst.of0
 refine ws_next (pend' := []) hst (by kernel_rfl) pk_nil ?_
 refine wsr (.bool (!(t387 == t392))) 6 z z z (by kernel_rfl) (fun w hst => by kernel_rfl) (wsr (.bool (!(t387 == t392))) 7 z z z (by kernel_rfl) (fun w hst => z) ?_)
 refine bsplit (!(t387 == t392)) (fun hc397 => ?_) (fun hc397 => ?_)
 {
 replace hm := bif_t hc397 hm
 refine ws_q (v := undef) 8 [9, 10, 11, 12, 13, 14, 15, 16, 17, 18, 19, 20, 21] (by kernel_rfl) z z (yi_off ((wanted_eq z z z (cvb hc397)).trans z)) (ws_q (v := undef) 9 [10, 11, 12, 13, 14, 15, 16, 17, 18, 19, 20, 21] (by kernel_rfl) z z (yi_off ((wanted_eq z z z (cvb hc397)).trans z)) (ws_q (v := undef) 10 [11, 12, 13, 14, 15, 16, 17, 18, 19, 20, 21] (by kernel_rfl) z z (yi_off ((wanted_eq z z z (cvb hc397)).trans z)) (ws_q (v := undef) 11 [12, 13, 14, 15, 16, 17, 18, 19, 20, 21] (by kernel_rfl) z z (yi_off ((wanted_eq z z z (cvb hc397)).trans z)) (wsr (.bool true) 12 z z z (by kernel_rfl) (fun w hst => x_pick_t hc397 z z) (wsr (.bool true) 13 z z z (by kernel_rfl) (fun w hst => z) (ws_q (v := undef) 14 [15, 16, 17, 18, 19, 20, 21] (by kernel_rfl) z z (yi_off ((wanted_eq z z z z).trans z)) (ws_q (v := undef) 15 [16, 17, 18, 19, 20, 21] (by kernel_rfl) z z (yi_off ((wanted_eq z z z z).trans z)) (ws_q (v := undef) 16 [17, 18, 19, 20, 21] (by kernel_rfl) z z (yi_off ((wanted_eq z z z z).trans z)) (ws_q (v := undef) 17 [18, 19, 20, 21] (by kernel_rfl) z z (yi_off ((wanted_eq z z z z).trans z)) (ws_q (v := undef) 18 [19, 20, 21] (by kernel_rfl) z z (yi_off ((wanted_eq z z z z).trans z)) (ws_q (v := undef) 19 [20, 21] (by kernel_rfl) z z (yi_off ((wanted_eq z z z z).trans z)) (ws_q (v := undef) 20 [21] (by kernel_rfl) z z (yi_off ((wanted_eq z z z z).trans z)) ?_))))))))))))
 refine wsr (.bool true) 21 z z z (by kernel_rfl) (fun w hst => x_pick_t z z z) ?_
 refine ws_nil ?_
 intro w hst
 refine tn ?_
 refine wp_ift z ?_
 refine wp_seq (wrl (wv (.bool false) z z z (wl_nil (tn (wp_ret (then_r ?_))))))
 obtain rfl := some_inj hm
 refine post_ret (vs := [.bool false]) results4 (rvs_cons (rv_tmp z) rvs_nil) ?_
 exact ⟨_, z, hI0, hst.keep0⟩
}
 {
 replace hm := bif_f hc397 hm
 refine ws_q (v := .agg #[U6 a0.ID.Session, U6 a0.ID.Seq, U6 a0.Epoch, r0_0, r0_1, r0_2, r0_3]) 8 [9, 10, 11, 12, 13, 14, 15, 16, 17, 18, 19, 20, 21] (by kernel_rfl) z z (yi_run ((wanted_eq z z z (cvb hc397)).trans z) (fun w hst => x_loadN (cs := [U6 a0.ID.Session, U6 a0.ID.Seq, U6 a0.Epoch, r0_0, r0_1, r0_2, r0_3]) z isAgg34 sizeOf34 (hst.bcs12 0 z))) (ws_q (v := .agg #[U6 a0.ID.Session, U6 a0.ID.Seq, U6 a0.Epoch, r0_0, r0_1, r0_2, r0_3]) 9 [10, 11, 12, 13, 14, 15, 16, 17, 18, 19, 20, 21] (by kernel_rfl) z z (yi_run ((wanted_eq z z z (cvb hc397)).trans z) (fun w hst => x_loadN (cs := [U6 a0.ID.Session, U6 a0.ID.Seq, U6 a0.Epoch, r0_0, r0_1, r0_2, r0_3]) z isAgg34 sizeOf34 (hst.bcs12 0 z))) ?_)
 refine ws_e1 10 (by kernel_rfl) ?_
 refine nxe [11, 12, 13, 14, 15, 16, 17, 18, 19, 20, 21] (by kernel_rfl) z ((wanted_eq z z z (cvb hc397)).trans z) ?_
 clear hst
 intro w hst
 obtain ⟨t398, ht399, hm⟩ := bind_some hm
 refine wec call17 [.agg #[U6 a0.ID.Session, U6 a0.ID.Seq, U6 a0.Epoch, r0_0, r0_1, r0_2, r0_3], .agg #[U6 a0.ID.Session, U6 a0.ID.Seq, U6 a0.Epoch, r0_0, r0_1, r0_2, r0_3]] z z ?_
 refine (locks_Same_ref (f0_0.mono (rd_weak _)) (f0_1.mono (rd_weak _)) (f0_2.mono (rd_weak _)) (f0_3.mono (rd_weak _)) (f0_0.mono (rd_weak _)) (f0_1.mono (rd_weak _)) (f0_2.mono (rd_weak _)) (f0_3.mono (rd_weak _)) hst.to0 ht399).mono ?_
 rintro _ w400 ⟨rfl, hst⟩
 refine ⟨_, z, ?_⟩
 replace hst := hst.of0
 refine ws_next (pend' := []) hst (by kernel_rfl) pk_nil ?_
 refine ws_q (v := .bool (!t398)) 11 [12, 13, 14, 15, 16, 17, 18, 19, 20, 21] (by kernel_rfl) z z (yi_run ((wanted_eq z z z (cvb hc397)).trans z) (fun w hst => z)) (wsr (.bool (!t398)) 12 z z z (by kernel_rfl) (fun w hst => x_pick_f hc397 z z) (wsr (.bool (!t398)) 13 z z z (by kernel_rfl) (fun w hst => z) ?_))
 refine bsplit (!t398) (fun hc403 => ?_) (fun hc403 => ?_)
 {
 replace hm := bif_t hc403 hm
 refine ws_q (v := undef) 14 [15, 16, 17, 18, 19, 20, 21] (by kernel_rfl) z z (yi_off ((wanted_eq z z z (cvb hc403)).trans z)) (ws_q (v := undef) 15 [16, 17, 18, 19, 20, 21] (by kernel_rfl) z z (yi_off ((wanted_eq z z z (cvb hc403)).trans z)) (ws_q (v := undef) 16 [17, 18, 19, 20, 21] (by kernel_rfl) z z (yi_off ((wanted_eq z z z (cvb hc403)).trans z)) (ws_q (v := undef) 17 [18, 19, 20, 21] (by kernel_rfl) z z (yi_off ((wanted_eq z z z (cvb hc403)).trans z)) (ws_q (v := undef) 18 [19, 20, 21] (by kernel_rfl) z z (yi_off ((wanted_eq z z z (cvb hc403)).trans z)) (ws_q (v := undef) 19 [20, 21] (by kernel_rfl) z z (yi_off ((wanted_eq z z z (cvb hc403)).trans z)) (ws_q (v := undef) 20 [21] (by kernel_rfl) z z (yi_off ((wanted_eq z z z (cvb hc403)).trans z)) (wsr (.bool true) 21 z z z (by kernel_rfl) (fun w hst => x_pick_t hc403 z z) ?_)))))))
 refine ws_nil ?_
 intro w hst
 refine tn ?_
 refine wp_ift z ?_
 refine wp_seq (wrl (wv (.bool false) z z z (wl_nil (tn (wp_ret (then_r ?_))))))
 obtain rfl := some_inj hm
 refine post_ret (vs := [.bool false]) results4 (rvs_cons (rv_tmp z) rvs_nil) ?_
 exact ⟨_, z, hI0, hst.keep0⟩
}
 {
 replace hm := bif_f hc403 hm
 refine ws_q (v := .agg #[U6 t339.1.ID.Session, U6 t339.1.ID.Seq, U6 t339.1.Epoch, v344, v346, v348, v350]) 14 [15, 16, 17, 18, 19, 20, 21] (by kernel_rfl) z z (yi_run ((wanted_eq z z z (cvb hc403)).trans z) (fun w hst => x_loadN (cs := [U6 t339.1.ID.Session, U6 t339.1.ID.Seq, U6 t339.1.Epoch, v344, v346, v348, v350]) z isAgg34 sizeOf34 (hst.bcs6 0 z))) (ws_q (v := .agg #[U6 t363.1.ID.Session, U6 t363.1.ID.Seq, U6 t363.1.Epoch, v368, v370, v372, v374]) 15 [16, 17, 18, 19, 20, 21] (by kernel_rfl) z z (yi_run ((wanted_eq z z z (cvb hc403)).trans z) (fun w hst => x_loadN (cs := [U6 t363.1.ID.Session, U6 t363.1.ID.Seq, U6 t363.1.Epoch, v368, v370, v372, v374]) z isAgg34 sizeOf34 (hst.bcs0 0 z))) (ws_q (v := .agg #[U6 t339.1.ID.Session, U6 t339.1.ID.Seq, U6 t339.1.Epoch, v344, v346, v348, v350]) 17 [16, 18, 19, 20, 21] (by kernel_rfl) z z (yi_run ((wanted_eq z z z (cvb hc403)).trans z) (fun w hst => x_loadN (cs := [U6 t339.1.ID.Session, U6 t339.1.ID.Seq, U6 t339.1.Epoch, v344, v346, v348, v350]) z isAgg34 sizeOf34 (hst.bcs6 0 z))) (ws_q (v := .agg #[U6 t363.1.ID.Session, U6 t363.1.ID.Seq, U6 t363.1.Epoch, v368, v370, v372, v374]) 18 [16, 19, 20, 21] (by kernel_rfl) z z (yi_run ((wanted_eq z z z (cvb hc403)).trans z) (fun w hst => x_loadN (cs := [U6 t363.1.ID.Session, U6 t363.1.ID.Seq, U6 t363.1.Epoch, v368, v370, v372, v374]) z isAgg34 sizeOf34 (hst.bcs0 0 z))) ?_)))
 refine ws_e1 16 (by kernel_rfl) ?_
 refine nxe [19, 20, 21] (by kernel_rfl) z ((wanted_eq z z z (cvb hc403)).trans z) ?_
 clear hst
 intro w hst
 replace hst := hst.pull7
 obtain ⟨css404, hq405, hst⟩ := hst.own_open
 replace hst := hst.pull8
 obtain ⟨css406, hq407, hst⟩ := hst.own_open
 replace hst := hst.pull9
 obtain ⟨css408, hq409, hst⟩ := hst.own_open
 replace hst := hst.pull10
 obtain ⟨css410, hq411, hst⟩ := hst.own_open
 replace hst := hst.pull5
 obtain ⟨css412, hq413, hst⟩ := hst.own_open
 replace hst := hst.pull6
 obtain ⟨css414, hq415, hst⟩ := hst.own_open
 replace hst := hst.pull7
 obtain ⟨css416, hq417, hst⟩ := hst.own_open
 replace hst := hst.pull8
 obtain ⟨css418, hq419, hst⟩ := hst.own_open
 obtain ⟨t420, ht421, hm⟩ := bind_some hm
 refine wec call17 [.agg #[U6 t339.1.ID.Session, U6 t339.1.ID.Seq, U6 t339.1.Epoch, v344, v346, v348, v350], .agg #[U6 t363.1.ID.Session, U6 t363.1.ID.Seq, U6 t363.1.Epoch, v368, v370, v372, v374]] z z ?_
 refine (locks_Same_ref (hst.rdrow7 hq405) (hst.rdrow6 hq407) (hst.rdrow5 hq409) (hst.rdrow4 hq411) (hst.rdrow3 hq413) (hst.rdrow2 hq415) (hst.rdrow1 hq417) (hst.rdrow0 hq419) hst.to0 ht421).mono ?_
 rintro _ w422 ⟨rfl, hst⟩
 refine ⟨_, z, ?_⟩
 replace hst := hst.of0.pull7.own_close hq405
 replace hst := hst.pull7.own_close hq407
 replace hst := hst.pull7.own_close hq409
 replace hst := hst.pull7.own_close hq411
 replace hst := hst.pull7.own_close hq413
 replace hst := hst.pull7.own_close hq415
 replace hst := hst.pull7.own_close hq417
 replace hst := hst.pull7.own_close hq419
 refine ws_next (pend' := [(18, .agg #[U6 t363.1.ID.Session, U6 t363.1.ID.Seq, U6 t363.1.Epoch, v368, v370, v372, v374]), (17, .agg #[U6 t339.1.ID.Session, U6 t339.1.ID.Seq, U6 t339.1.Epoch, v344, v346, v348, v350])]) hst (by kernel_rfl) (pk_cons z (yi_run ((wanted_eq z z z (cvb hc403)).trans z) (fun w hst => x_loadN (cs := [U6 t363.1.ID.Session, U6 t363.1.ID.Seq, U6 t363.1.Epoch, v368, v370, v372, v374]) z isAgg34 sizeOf34 (hst.bcs8 0 z))) (pk_cons z (yi_run ((wanted_eq z z z (cvb hc403)).trans z) (fun w hst => x_loadN (cs := [U6 t339.1.ID.Session, U6 t339.1.ID.Seq, U6 t339.1.Epoch, v344, v346, v348, v350]) z isAgg34 sizeOf34 (hst.bcs10 0 z))) pk_nil)) ?_
 refine ws_e1 19 (by kernel_rfl) ?_
 refine nxe [20, 21] (by kernel_rfl) z ((wanted_eq z z z (cvb hc403)).trans z) ?_
 clear hst
 intro w hst
 replace hst := hst.pull7
 obtain ⟨css425, hq426, hst⟩ := hst.own_open
 replace hst := hst.pull7
 obtain ⟨css427, hq428, hst⟩ := hst.own_open
 replace hst := hst.pull7
 obtain ⟨css429, hq430, hst⟩ := hst.own_open
 replace hst := hst.pull7
 obtain ⟨css431, hq432, hst⟩ := hst.own_open
 replace hst := hst.pull7
 obtain ⟨css433, hq434, hst⟩ := hst.own_open
 replace hst := hst.pull7
 obtain ⟨css435, hq436, hst⟩ := hst.own_open
 replace hst := hst.pull7
 obtain ⟨css437, hq438, hst⟩ := hst.own_open
 replace hst := hst.pull7
 obtain ⟨css439, hq440, hst⟩ := hst.own_open
 obtain ⟨t441, ht442, hm⟩ := bind_some hm
 refine wec call18 [.agg #[U6 t339.1.ID.Session, U6 t339.1.ID.Seq, U6 t339.1.Epoch, v344, v346, v348, v350], .agg #[U6 t363.1.ID.Session, U6 t363.1.ID.Seq, U6 t363.1.Epoch, v368, v370, v372, v374]] z z ?_
 refine (ref11_SameHold_ref (hst.rdrow7 hq426) (hst.rdrow6 hq428) (hst.rdrow5 hq430) (hst.rdrow4 hq432) (hst.rdrow3 hq434) (hst.rdrow2 hq436) (hst.rdrow1 hq438) (hst.rdrow0 hq440) hst.to0 ht442).mono ?_
 rintro _ w443 ⟨rfl, hst⟩
 refine ⟨_, z, ?_⟩
 replace hst := hst.of0.pull7.own_close hq426
 replace hst := hst.pull7.own_close hq428
 replace hst := hst.pull7.own_close hq430
 replace hst := hst.pull7.own_close hq432
 replace hst := hst.pull7.own_close hq434
 replace hst := hst.pull7.own_close hq436
 replace hst := hst.pull7.own_close hq438
 replace hst := hst.pull7.own_close hq440
 refine ws_next (pend' := []) hst (by kernel_rfl) pk_nil ?_
 refine ws_q (v := .bool (!(t420 == t441))) 20 [21] (by kernel_rfl) z z (yi_run ((wanted_eq z z z (cvb hc403)).trans z) (fun w hst => by kernel_rfl)) (wsr (.bool (!(t420 == t441))) 21 z z z (by kernel_rfl) (fun w hst => x_pick_f hc403 z z) ?_)
 refine ws_nil ?_
 intro w hst
 refine tn ?_
 refine bsplit (!(t420 == t441)) (fun hc446 => ?_) (fun hc446 => ?_)
 {
 replace hm := bif_t hc446 hm
 refine wp_ift (cvb hc446) ?_
 refine wp_seq (wrl (wv (.bool false) z z z (wl_nil (tn (wp_ret (then_r ?_))))))
 obtain rfl := some_inj hm
 refine post_ret (vs := [.bool false]) results4 (rvs_cons (rv_tmp z) rvs_nil) ?_
 exact ⟨_, z, hI0, hst.keep0⟩
}
 {
 replace hm := bif_f hc446 hm
 refine wp_iff (cvb hc446) ?_
 refine wp_skip (tn (wp_seq ?_))
 refine wp_region_St hst 44 [0, 1, 2, 3, 4, 5, 6, 7, 8, 9, 10, 11, 12, 13, 14, 15, 16, 17, 18, 19, 20, 21, 22, 23, 24, 25, 26, 27, 28, 29, 30, 31, 32, 33, 34, 35, 36, 37, 38, 39, 40, 41, 42, 43] [0, 0, 3, 0, 0, 31, 63, 127, 255, 255, 1023, 255, 255, 8191, 16383, 32767, 65535, 131071, 131071, 524287, 131071, 131071, 4194303, 8388607, 16777215, 33554431, 67108863, 67108863, 268435455, 67108863, 67108863, 2147483647, 4294967295, 8589934591, 17179869183, 34359738367, 34359738367, 137438953471, 34359738367, 34359738367, 1099511627775, 2199023255551, 4398046511103, 8796093022207] [] z (by kernel_rfl) (by kernel_rfl) Try.mixed (by kernel_rfl) ?_
 refine wsr (.agg #[U6 a0.ID.Session, U6 a0.ID.Seq, U6 a0.Epoch, r0_0, r0_1, r0_2, r0_3]) 0 z z z (by kernel_rfl) (fun w hst => x_loadN (cs := [U6 a0.ID.Session, U6 a0.ID.Seq, U6 a0.Epoch, r0_0, r0_1, r0_2, r0_3]) z isAgg34 sizeOf34 (hst.bcs12 0 z)) (wsr (.agg #[U6 a1.ID.Session, U6 a1.ID.Seq, U6 a1.Epoch, r1_0, r1_1, r1_2, r1_3]) 1 z z z (by kernel_rfl) (fun w hst => x_loadN (cs := [U6 a1.ID.Session, U6 a1.ID.Seq, U6 a1.Epoch, r1_0, r1_1, r1_2, r1_3]) z isAgg34 sizeOf34 (hst.bcs11 0 z)) (wsr (.agg #[U6 a0.ID.Session, U6 a0.ID.Seq, U6 a0.Epoch, r0_0, r0_1, r0_2, r0_3]) 3 z z z (by kernel_rfl) (fun w hst => x_loadN (cs := [U6 a0.ID.Session, U6 a0.ID.Seq, U6 a0.Epoch, r0_0, r0_1, r0_2, r0_3]) z isAgg34 sizeOf34 (hst.bcs12 0 z)) (wsr (.agg #[U6 a1.ID.Session, U6 a1.ID.Seq, U6 a1.Epoch, r1_0, r1_1, r1_2, r1_3]) 4 z z z (by kernel_rfl) (fun w hst => x_loadN (cs := [U6 a1.ID.Session, U6 a1.ID.Seq, U6 a1.Epoch, r1_0, r1_1, r1_2, r1_3]) z isAgg34 sizeOf34 (hst.bcs11 0 z)) ?_)))
 refine ws_e1 2 (by kernel_rfl) ?_
 refine nxe [5, 6, 7, 8, 9, 10, 11, 12, 13, 14, 15, 16, 17, 18, 19, 20, 21, 22, 23, 24, 25, 26, 27, 28, 29, 30, 31, 32, 33, 34, 35, 36, 37, 38, 39, 40, 41, 42, 43] (by kernel_rfl) z z ?_
 clear hst
 intro w hst
 obtain ⟨t447, ht448, hm⟩ := bind_some hm
 refine wec call19 [.agg #[U6 a0.ID.Session, U6 a0.ID.Seq, U6 a0.Epoch, r0_0, r0_1, r0_2, r0_3], .agg #[U6 a1.ID.Session, U6 a1.ID.Seq, U6 a1.Epoch, r1_0, r1_1, r1_2, r1_3]] z z ?_
 refine (locks_Meet_ref (f0_0.mono (rd_weak _)) (f0_1.mono (rd_weak _)) (f0_2.mono (rd_weak _)) (f0_3.mono (rd_weak _)) (f1_0.mono (rd_weak _)) (f1_1.mono (rd_weak _)) (f1_2.mono (rd_weak _)) (f1_3.mono (rd_weak _)) hst.to0 ht448).mono ?_
 rintro _ w449 ⟨rfl, hst⟩
 refine ⟨_, z, ?_⟩
 replace hst := hst.of0
 refine ws_next (pend' := [(4, .agg #[U6 a1.ID.Session, U6 a1.ID.Seq, U6 a1.Epoch, r1_0, r1_1, r1_2, r1_3]), (3, .agg #[U6 a0.ID.Session, U6 a0.ID.Seq, U6 a0.Epoch, r0_0, r0_1, r0_2, r0_3])]) hst (by kernel_rfl) (pkr z z (fun w hst => x_loadN (cs := [U6 a1.ID.Session, U6 a1.ID.Seq, U6 a1.Epoch, r1_0, r1_1, r1_2, r1_3]) z isAgg34 sizeOf34 (hst.bcs11 0 z)) (pkr z z (fun w hst => x_loadN (cs := [U6 a0.ID.Session, U6 a0.ID.Seq, U6 a0.Epoch, r0_0, r0_1, r0_2, r0_3]) z isAgg34 sizeOf34 (hst.bcs12 0 z)) pk_nil)) ?_
 refine ws_e1 5 (by kernel_rfl) ?_
 refine nxe [6, 7, 8, 9, 10, 11, 12, 13, 14, 15, 16, 17, 18, 19, 20, 21, 22, 23, 24, 25, 26, 27, 28, 29, 30, 31, 32, 33, 34, 35, 36, 37, 38, 39, 40, 41, 42, 43] (by kernel_rfl) z z ?_
 clear hst
 intro w hst
 obtain ⟨t452, ht453, hm⟩ := bind_some hm
 refine wec call15 [.agg #[U6 a0.ID.Session, U6 a0.ID.Seq, U6 a0.Epoch, r0_0, r0_1, r0_2, r0_3], .agg #[U6 a1.ID.Session, U6 a1.ID.Seq, U6 a1.Epoch, r1_0, r1_1, r1_2, r1_3]] z z ?_
 refine (ref11_Meet_ref (f0_0.mono (rd_weak _)) (f0_1.mono (rd_weak _)) (f0_2.mono (rd_weak _)) (f0_3.mono (rd_weak _)) (f1_0.mono (rd_weak _)) (f1_1.mono (rd_weak _)) (f1_2.mono (rd_weak _)) (f1_3.mono (rd_weak _)) hst.to0 ht453).mono ?_
 rintro _ w454 ⟨rfl, hst⟩
 refine ⟨_, z, ?_⟩
 replace hst := hst.of0
 refine ws_next (pend' := []) hst (by kernel_rfl) pk_nil ?_
 refine wsr (.bool (t447 == t452)) 6 z z z (by kernel_rfl) (fun w hst => by kernel_rfl) (wsr (.bool (t447 == t452)) 7 z z z (by kernel_rfl) (fun w hst => z) ?_)
 refine bsplit (t447 == t452) (fun hc457 => ?_) (fun hc457 => ?_)
 {
 replace hm := bif_t hc457 hm
 refine ws_q (v := .agg #[U6 a1.ID.Session, U6 a1.ID.Seq, U6 a1.Epoch, r1_0, r1_1, r1_2, r1_3]) 8 [9, 10, 11, 12, 13, 14, 15, 16, 17, 18, 19, 20, 21, 22, 23, 24, 25, 26, 27, 28, 29, 30, 31, 32, 33, 34, 35, 36, 37, 38, 39, 40, 41, 42, 43] (by kernel_rfl) z z (yi_run ((wanted_eq z z z (cvb hc457)).trans z) (fun w hst => x_loadN (cs := [U6 a1.ID.Session, U6 a1.ID.Seq, U6 a1.Epoch, r1_0, r1_1, r1_2, r1_3]) z isAgg34 sizeOf34 (hst.bcs11 0 z))) (ws_q (v := .agg #[U6 a0.ID.Session, U6 a0.ID.Seq, U6 a0.Epoch, r0_0, r0_1, r0_2, r0_3]) 9 [10, 11, 12, 13, 14, 15, 16, 17, 18, 19, 20, 21, 22, 23, 24, 25, 26, 27, 28, 29, 30, 31, 32, 33, 34, 35, 36, 37, 38, 39, 40, 41, 42, 43] (by kernel_rfl) z z (yi_run ((wanted_eq z z z (cvb hc457)).trans z) (fun w hst => x_loadN (cs := [U6 a0.ID.Session, U6 a0.ID.Seq, U6 a0.Epoch, r0_0, r0_1, r0_2, r0_3]) z isAgg34 sizeOf34 (hst.bcs12 0 z))) (ws_q (v := .agg #[U6 a1.ID.Session, U6 a1.ID.Seq, U6 a1.Epoch, r1_0, r1_1, r1_2, r1_3]) 11 [10, 12, 13, 14, 15, 16, 17, 18, 19, 20, 21, 22, 23, 24, 25, 26, 27, 28, 29, 30, 31, 32, 33, 34, 35, 36, 37, 38, 39, 40, 41, 42, 43] (by kernel_rfl) z z (yi_run ((wanted_eq z z z (cvb hc457)).trans z) (fun w hst => x_loadN (cs := [U6 a1.ID.Session, U6 a1.ID.Seq, U6 a1.Epoch, r1_0, r1_1, r1_2, r1_3]) z isAgg34 sizeOf34 (hst.bcs11 0 z))) (ws_q (v := .agg #[U6 a0.ID.Session, U6 a0.ID.Seq, U6 a0.Epoch, r0_0, r0_1, r0_2, r0_3]) 12 [10, 13, 14, 15, 16, 17, 18, 19, 20, 21, 22, 23, 24, 25, 26, 27, 28, 29, 30, 31, 32, 33, 34, 35, 36, 37, 38, 39, 40, 41, 42, 43] (by kernel_rfl) z z (yi_run ((wanted_eq z z z (cvb hc457)).trans z) (fun w hst => x_loadN (cs := [U6 a0.ID.Session, U6 a0.ID.Seq, U6 a0.Epoch, r0_0, r0_1, r0_2, r0_3]) z isAgg34 sizeOf34 (hst.bcs12 0 z))) ?_)))
 refine ws_e1 10 (by kernel_rfl) ?_
 refine nxe [13, 14, 15, 16, 17, 18, 19, 20, 21, 22, 23, 24, 25, 26, 27, 28, 29, 30, 31, 32, 33, 34, 35, 36, 37, 38, 39, 40, 41, 42, 43] (by kernel_rfl) z ((wanted_eq z z z (cvb hc457)).trans z) ?_
 clear hst
 intro w hst
 obtain ⟨t458, ht459, hm⟩ := bind_some hm
 refine wec call19 [.agg #[U6 a1.ID.Session, U6 a1.ID.Seq, U6 a1.Epoch, r1_0, r1_1, r1_2, r1_3], .agg #[U6 a0.ID.Session, U6 a0.ID.Seq, U6 a0.Epoch, r0_0, r0_1, r0_2, r0_3]] z z ?_
 refine (locks_Meet_ref (f1_0.mono (rd_weak _)) (f1_1.mono (rd_weak _)) (f1_2.mono (rd_weak _)) (f1_3.mono (rd_weak _)) (f0_0.mono (rd_weak _)) (f0_1.mono (rd_weak _)) (f0_2.mono (rd_weak _)) (f0_3.mono (rd_weak _)) hst.to0 ht459).mono ?_
 rintro _ w460 ⟨rfl, hst⟩
 refine ⟨_, z, ?_⟩
 replace hst := hst.of0
 refine ws_next (pend' := [(12, .agg #[U6 a0.ID.Session, U6 a0.ID.Seq, U6 a0.Epoch, r0_0, r0_1, r0_2, r0_3]), (11, .agg #[U6 a1.ID.Session, U6 a1.ID.Seq, U6 a1.Epoch, r1_0, r1_1, r1_2, r1_3])]) hst (by kernel_rfl) (pk_cons z (yi_run ((wanted_eq z z z (cvb hc457)).trans z) (fun w hst => x_loadN (cs := [U6 a0.ID.Session, U6 a0.ID.Seq, U6 a0.Epoch, r0_0, r0_1, r0_2, r0_3]) z isAgg34 sizeOf34 (hst.bcs12 0 z))) (pk_cons z (yi_run ((wanted_eq z z z (cvb hc457)).trans z) (fun w hst => x_loadN (cs := [U6 a1.ID.Session, U6 a1.ID.Seq, U6 a1.Epoch, r1_0, r1_1, r1_2, r1_3]) z isAgg34 sizeOf34 (hst.bcs11 0 z))) pk_nil)) ?_
 refine ws_e1 13 (by kernel_rfl) ?_
 refine nxe [14, 15, 16, 17, 18, 19, 20, 21, 22, 23, 24, 25, 26, 27, 28, 29, 30, 31, 32, 33, 34, 35, 36, 37, 38, 39, 40, 41, 42, 43] (by kernel_rfl) z ((wanted_eq z z z (cvb hc457)).trans z) ?_
 clear hst
 intro w hst
 obtain ⟨t463, ht464, hm⟩ := bind_some hm
 refine wec call15 [.agg #[U6 a1.ID.Session, U6 a1.ID.Seq, U6 a1.Epoch, r1_0, r1_1, r1_2, r1_3], .agg #[U6 a0.ID.Session, U6 a0.ID.Seq, U6 a0.Epoch, r0_0, r0_1, r0_2, r0_3]] z z ?_
 refine (ref11_Meet_ref (f1_0.mono (rd_weak _)) (f1_1.mono (rd_weak _)) (f1_2.mono (rd_weak _)) (f1_3.mono (rd_weak _)) (f0_0.mono (rd_weak _)) (f0_1.mono (rd_weak _)) (f0_2.mono (rd_weak _)) (f0_3.mono (rd_weak _)) hst.to0 ht464).mono ?_
 rintro _ w465 ⟨rfl, hst⟩
 refine ⟨_, z, ?_⟩
 replace hst := hst.of0
 refine ws_next (pend' := []) hst (by kernel_rfl) pk_nil ?_
 refine ws_q (v := .bool (t458 == t463)) 14 [15, 16, 17, 18, 19, 20, 21, 22, 23, 24, 25, 26, 27, 28, 29, 30, 31, 32, 33, 34, 35, 36, 37, 38, 39, 40, 41, 42, 43] (by kernel_rfl) z z (yi_run ((wanted_eq z z z (cvb hc457)).trans z) (fun w hst => by kernel_rfl)) (wsr (.bool (t458 == t463)) 15 z z z (by kernel_rfl) (fun w hst => x_pick_t hc457 z z) (wsr (.bool (t458 == t463)) 16 z z z (by kernel_rfl) (fun w hst => z) ?_))
 refine bsplit (t458 == t463) (fun hc468 => ?_) (fun hc468 => ?_)
 {
 replace hm := bif_t hc468 hm
 refine ws_q (v := .agg #[U6 a0.ID.Session, U6 a0.ID.Seq, U6 a0.Epoch, r0_0, r0_1, r0_2, r0_3]) 17 [18, 19, 20, 21, 22, 23, 24, 25, 26, 27, 28, 29, 30, 31, 32, 33, 34, 35, 36, 37, 38, 39, 40, 41, 42, 43] (by kernel_rfl) z z (yi_run ((wanted_eq z z z (cvb hc468)).trans z) (fun w hst => x_loadN (cs := [U6 a0.ID.Session, U6 a0.ID.Seq, U6 a0.Epoch, r0_0, r0_1, r0_2, r0_3]) z isAgg34 sizeOf34 (hst.bcs12 0 z))) (ws_q (v := .agg #[U6 a1.ID.Session, U6 a1.ID.Seq, U6 a1.Epoch, r1_0, r1_1, r1_2, r1_3]) 18 [19, 20, 21, 22, 23, 24, 25, 26, 27, 28, 29, 30, 31, 32, 33, 34, 35, 36, 37, 38, 39, 40, 41, 42, 43] (by kernel_rfl) z z (yi_run ((wanted_eq z z z (cvb hc468)).trans z) (fun w hst => x_loadN (cs := [U6 a1.ID.Session, U6 a1.ID.Seq, U6 a1.Epoch, r1_0, r1_1, r1_2, r1_3]) z isAgg34 sizeOf34 (hst.bcs11 0 z))) (ws_q (v := .agg #[U6 a1.ID.Session, U6 a1.ID.Seq, U6 a1.Epoch, r1_0, r1_1, r1_2, r1_3]) 20 [19, 21, 22, 23, 24, 25, 26, 27, 28, 29, 30, 31, 32, 33, 34, 35, 36, 37, 38, 39, 40, 41, 42, 43] (by kernel_rfl) z z (yi_run ((wanted_eq z z z (cvb hc468)).trans z) (fun w hst => x_loadN (cs := [U6 a1.ID.Session, U6 a1.ID.Seq, U6 a1.Epoch, r1_0, r1_1, r1_2, r1_3]) z isAgg34 sizeOf34 (hst.bcs11 0 z))) (ws_q (v := .agg #[U6 a0.ID.Session, U6 a0.ID.Seq, U6 a0.Epoch, r0_0, r0_1, r0_2, r0_3]) 21 [19, 22, 23, 24, 25, 26, 27, 28, 29, 30, 31, 32, 33, 34, 35, 36, 37, 38, 39, 40, 41, 42, 43] (by kernel_rfl) z z (yi_run ((wanted_eq z z z (cvb hc468)).trans z) (fun w hst => x_loadN (cs := [U6 a0.ID.Session, U6 a0.ID.Seq, U6 a0.Epoch, r0_0, r0_1, r0_2, r0_3]) z isAgg34 sizeOf34 (hst.bcs12 0 z))) ?_)))
 refine ws_e1 19 (by kernel_rfl) ?_
 refine nxe [22, 23, 24, 25, 26, 27, 28, 29, 30, 31, 32, 33, 34, 35, 36, 37, 38, 39, 40, 41, 42, 43] (by kernel_rfl) z ((wanted_eq z z z (cvb hc468)).trans z) ?_
 clear hst
 intro w hst
 obtain ⟨t469, ht470, hm⟩ := bind_some hm
 refine wec call19 [.agg #[U6 a0.ID.Session, U6 a0.ID.Seq, U6 a0.Epoch, r0_0, r0_1, r0_2, r0_3], .agg #[U6 a1.ID.Session, U6 a1.ID.Seq, U6 a1.Epoch, r1_0, r1_1, r1_2, r1_3]] z z ?_
 refine (locks_Meet_ref (f0_0.mono (rd_weak _)) (f0_1.mono (rd_weak _)) (f0_2.mono (rd_weak _)) (f0_3.mono (rd_weak _)) (f1_0.mono (rd_weak _)) (f1_1.mono (rd_weak _)) (f1_2.mono (rd_weak _)) (f1_3.mono (rd_weak _)) hst.to0 ht470).mono ?_
 rintro _ w471 ⟨rfl, hst⟩
 refine ⟨_, z, ?_⟩
 replace hst := hst.of0
 refine ws_next (pend' := [(21, .agg #[U6 a0.ID.Session, U6 a0.ID.Seq, U6 a0.Epoch, r0_0, r0_1, r0_2, r0_3]), (20, .agg #[U6 a1.ID.Session, U6 a1.ID.Seq, U6 a1.Epoch, r1_0, r1_1, r1_2, r1_3])]) hst (by kernel_rfl) (pk_cons z (yi_run ((wanted_eq z z z (cvb hc468)).trans z) (fun w hst => x_loadN (cs := [U6 a0.ID.Session, U6 a0.ID.Seq, U6 a0.Epoch, r0_0, r0_1, r0_2, r0_3]) z isAgg34 sizeOf34 (hst.bcs12 0 z))) (pk_cons z (yi_run ((wanted_eq z z z (cvb hc468)).trans z) (fun w hst => x_loadN (cs := [U6 a1.ID.Session, U6 a1.ID.Seq, U6 a1.Epoch, r1_0, r1_1, r1_2, r1_3]) z isAgg34 sizeOf34 (hst.bcs11 0 z))) pk_nil)) ?_
 refine ws_e1 22 (by kernel_rfl) ?_
 refine nxe [23, 24, 25, 26, 27, 28, 29, 30, 31, 32, 33, 34, 35, 36, 37, 38, 39, 40, 41, 42, 43] (by kernel_rfl) z ((wanted_eq z z z (cvb hc468)).trans z) ?_
 clear hst
 intro w hst
 obtain ⟨t474, ht475, hm⟩ := bind_some hm
 refine wec call19 [.agg #[U6 a1.ID.Session, U6 a1.ID.Seq, U6 a1.Epoch, r1_0, r1_1, r1_2, r1_3], .agg #[U6 a0.ID.Session, U6 a0.ID.Seq, U6 a0.Epoch, r0_0, r0_1, r0_2, r0_3]] z z ?_
 refine (locks_Meet_ref (f1_0.mono (rd_weak _)) (f1_1.mono (rd_weak _)) (f1_2.mono (rd_weak _)) (f1_3.mono (rd_weak _)) (f0_0.mono (rd_weak _)) (f0_1.mono (rd_weak _)) (f0_2.mono (rd_weak _)) (f0_3.mono (rd_weak _)) hst.to0 ht475).mono ?_
 rintro _ w476 ⟨rfl, hst⟩
 refine ⟨_, z, ?_⟩
 replace hst := hst.of0
 refine ws_next (pend' := []) hst (by kernel_rfl) pk_nil ?_
 refine ws_q (v := .bool (t469 == t474)) 23 [24, 25, 26, 27, 28, 29, 30, 31, 32, 33, 34, 35, 36, 37, 38, 39, 40, 41, 42, 43] (by kernel_rfl) z z (yi_run ((wanted_eq z z z (cvb hc468)).trans z) (fun w hst => by kernel_rfl)) (wsr (.bool (t469 == t474)) 24 z z z (by kernel_rfl) (fun w hst => x_pick_t hc468 z z) (wsr (.bool (t469 == t474)) 25 z z z (by kernel_rfl) (fun w hst => z) ?_))
 refine bsplit (t469 == t474) (fun hc479 => ?_) (fun hc479 => ?_)
 {
 replace hm := bif_t hc479 hm
 refine ws_q (v := .agg #[U6 t339.1.ID.Session, U6 t339.1.ID.Seq, U6 t339.1.Epoch, v344, v346, v348, v350]) 26 [27, 28, 29, 30, 31, 32, 33, 34, 35, 36, 37, 38, 39, 40, 41, 42, 43] (by kernel_rfl) z z (yi_run ((wanted_eq z z z (cvb hc479)).trans z) (fun w hst => x_loadN (cs := [U6 t339.1.ID.Session, U6 t339.1.ID.Seq, U6 t339.1.Epoch, v344, v346, v348, v350]) z isAgg34 sizeOf34 (hst.bcs10 0 z))) (ws_q (v := .agg #[U6 t363.1.ID.Session, U6 t363.1.ID.Seq, U6 t363.1.Epoch, v368, v370, v372, v374]) 27 [28, 29, 30, 31, 32, 33, 34, 35, 36, 37, 38, 39, 40, 41, 42, 43] (by kernel_rfl) z z (yi_run ((wanted_eq z z z (cvb hc479)).trans z) (fun w hst => x_loadN (cs := [U6 t363.1.ID.Session, U6 t363.1.ID.Seq, U6 t363.1.Epoch, v368, v370, v372, v374]) z isAgg34 sizeOf34 (hst.bcs8 0 z))) (ws_q (v := .agg #[U6 t339.1.ID.Session, U6 t339.1.ID.Seq, U6 t339.1.Epoch, v344, v346, v348, v350]) 29 [28, 30, 31, 32, 33, 34, 35, 36, 37, 38, 39, 40, 41, 42, 43] (by kernel_rfl) z z (yi_run ((wanted_eq z z z (cvb hc479)).trans z) (fun w hst => x_loadN (cs := [U6 t339.1.ID.Session, U6 t339.1.ID.Seq, U6 t339.1.Epoch, v344, v346, v348, v350]) z isAgg34 sizeOf34 (hst.bcs10 0 z))) (ws_q (v := .agg #[U6 t363.1.ID.Session, U6 t363.1.ID.Seq, U6 t363.1.Epoch, v368, v370, v372, v374]) 30 [28, 31, 32, 33, 34, 35, 36, 37, 38, 39, 40, 41, 42, 43] (by kernel_rfl) z z (yi_run ((wanted_eq z z z (cvb hc479)).trans z) (fun w hst => x_loadN (cs := [U6 t363.1.ID.Session, U6 t363.1.ID.Seq, U6 t363.1.Epoch, v368, v370, v372, v374]) z isAgg34 sizeOf34 (hst.bcs8 0 z))) ?_)))
 refine ws_e1 28 (by kernel_rfl) ?_
 refine nxe [31, 32, 33, 34, 35, 36, 37, 38, 39, 40, 41, 42, 43] (by kernel_rfl) z ((wanted_eq z z z (cvb hc479)).trans z) ?_
 clear hst
 intro w hst
 replace hst := hst.pull7
 obtain ⟨css480, hq481, hst⟩ := hst.own_open
 replace hst := hst.pull7
 obtain ⟨css482, hq483, hst⟩ := hst.own_open
 replace hst := hst.pull7
 obtain ⟨css484, hq485, hst⟩ := hst.own_open
 replace hst := hst.pull7
 obtain ⟨css486, hq487, hst⟩ := hst.own_open
 replace hst := hst.pull7
 obtain ⟨css488, hq489, hst⟩ := hst.own_open
 replace hst := hst.pull7
 obtain ⟨css490, hq491, hst⟩ := hst.own_open
 replace hst := hst.pull7
 obtain ⟨css492, hq493, hst⟩ := hst.own_open
 replace hst := hst.pull7
 obtain ⟨css494, hq495, hst⟩ := hst.own_open
 obtain ⟨t496, ht497, hm⟩ := bind_some hm
 refine wec call19 [.agg #[U6 t339.1.ID.Session, U6 t339.1.ID.Seq, U6 t339.1.Epoch, v344, v346, v348, v350], .agg #[U6 t363.1.ID.Session, U6 t363.1.ID.Seq, U6 t363.1.Epoch, v368, v370, v372, v374]] z z ?_
 refine (locks_Meet_ref (hst.rdrow7 hq481) (hst.rdrow6 hq483) (hst.rdrow5 hq485) (hst.rdrow4 hq487) (hst.rdrow3 hq489) (hst.rdrow2 hq491) (hst.rdrow1 hq493) (hst.rdrow0 hq495) hst.to0 ht497).mono ?_
 rintro _ w498 ⟨rfl, hst⟩
 refine ⟨_, z, ?_⟩
 replace hst := hst.of0.pull7.own_close hq481
 replace hst := hst.pull7.own_close hq483
 replace hst := hst.pull7.own_close hq485
 replace hst := hst.pull7.own_close hq487
 replace hst := hst.pull7.own_close hq489
 replace hst := hst.pull7.own_close hq491
 replace hst := hst.pull7.own_close hq493
 replace hst := hst.pull7.own_close hq495
 refine ws_next (pend' := [(30, .agg #[U6 t363.1.ID.Session, U6 t363.1.ID.Seq, U6 t363.1.Epoch, v368, v370, v372, v374]), (29, .agg #[U6 t339.1.ID.Session, U6 t339.1.ID.Seq, U6 t339.1.Epoch, v344, v346, v348, v350])]) hst (by kernel_rfl) (pk_cons z (yi_run ((wanted_eq z z z (cvb hc479)).trans z) (fun w hst => x_loadN (cs := [U6 t363.1.ID.Session, U6 t363.1.ID.Seq, U6 t363.1.Epoch, v368, v370, v372, v374]) z isAgg34 sizeOf34 (hst.bcs8 0 z))) (pk_cons z (yi_run ((wanted_eq z z z (cvb hc479)).trans z) (fun w hst => x_loadN (cs := [U6 t339.1.ID.Session, U6 t339.1.ID.Seq, U6 t339.1.Epoch, v344, v346, v348, v350]) z isAgg34 sizeOf34 (hst.bcs10 0 z))) pk_nil)) ?_
 refine ws_e1 31 (by kernel_rfl) ?_
 refine nxe [32, 33, 34, 35, 36, 37, 38, 39, 40, 41, 42, 43] (by kernel_rfl) z ((wanted_eq z z z (cvb hc479)).trans z) ?_
 clear hst
 intro w hst
 replace hst := hst.pull7
 obtain ⟨css501, hq502, hst⟩ := hst.own_open
 replace hst := hst.pull7
 obtain ⟨css503, hq504, hst⟩ := hst.own_open
 replace hst := hst.pull7
 obtain ⟨css505, hq506, hst⟩ := hst.own_open
 replace hst := hst.pull7
 obtain ⟨css507, hq508, hst⟩ := hst.own_open
 replace hst := hst.pull7
 obtain ⟨css509, hq510, hst⟩ := hst.own_open
 replace hst := hst.pull7
 obtain ⟨css511, hq512, hst⟩ := hst.own_open
 replace hst := hst.pull7
 obtain ⟨css513, hq514, hst⟩ := hst.own_open
 replace hst := hst.pull7
 obtain ⟨css515, hq516, hst⟩ := hst.own_open
 obtain ⟨t517, ht518, hm⟩ := bind_some hm
 refine wec call15 [.agg #[U6 t339.1.ID.Session, U6 t339.1.ID.Seq, U6 t339.1.Epoch, v344, v346, v348, v350], .agg #[U6 t363.1.ID.Session, U6 t363.1.ID.Seq, U6 t363.1.Epoch, v368, v370, v372, v374]] z z ?_
 refine (ref11_Meet_ref (hst.rdrow7 hq502) (hst.rdrow6 hq504) (hst.rdrow5 hq506) (hst.rdrow4 hq508) (hst.rdrow3 hq510) (hst.rdrow2 hq512) (hst.rdrow1 hq514) (hst.rdrow0 hq516) hst.to0 ht518).mono ?_
 rintro _ w519 ⟨rfl, hst⟩
 refine ⟨_, z, ?_⟩
 replace hst := hst.of0.pull7.own_close hq502
 replace hst := hst.pull7.own_close hq504
 replace hst := hst.pull7.own_close hq506
 replace hst := hst.pull7.own_close hq508
 replace hst := hst.pull7.own_close hq510
 replace hst := hst.pull7.own_close hq512
 replace hst := hst.pull7.own_close hq514
 replace hst := hst.pull7.own_close hq516
 refine ws_next (pend' := []) hst (by kernel_rfl) pk_nil ?_
 refine ws_q (v := .bool (t496 == t517)) 32 [33, 34, 35, 36, 37, 38, 39, 40, 41, 42, 43] (by kernel_rfl) z z (yi_run ((wanted_eq z z z (cvb hc479)).trans z) (fun w hst => by kernel_rfl)) (wsr (.bool (t496 == t517)) 33 z z z (by kernel_rfl) (fun w hst => x_pick_t hc479 z z) (wsr (.bool (t496 == t517)) 34 z z z (by kernel_rfl) (fun w hst => z) ?_))
 refine bsplit (t496 == t517) (fun hc522 => ?_) (fun hc522 => ?_)
 {
 replace hm := bif_t hc522 hm
 refine ws_q (v := .agg #[U6 a0.ID.Session, U6 a0.ID.Seq, U6 a0.Epoch, r0_0, r0_1, r0_2, r0_3]) 35 [36, 37, 38, 39, 40, 41, 42, 43] (by kernel_rfl) z z (yi_run ((wanted_eq z z z (cvb hc522)).trans z) (fun w hst => x_loadN (cs := [U6 a0.ID.Session, U6 a0.ID.Seq, U6 a0.Epoch, r0_0, r0_1, r0_2, r0_3]) z isAgg34 sizeOf34 (hst.bcs12 0 z))) (ws_q (v := .agg #[U6 t339.1.ID.Session, U6 t339.1.ID.Seq, U6 t339.1.Epoch, v344, v346, v348, v350]) 36 [37, 38, 39, 40, 41, 42, 43] (by kernel_rfl) z z (yi_run ((wanted_eq z z z (cvb hc522)).trans z) (fun w hst => x_loadN (cs := [U6 t339.1.ID.Session, U6 t339.1.ID.Seq, U6 t339.1.Epoch, v344, v346, v348, v350]) z isAgg34 sizeOf34 (hst.bcs10 0 z))) (ws_q (v := .agg #[U6 a0.ID.Session, U6 a0.ID.Seq, U6 a0.Epoch, r0_0, r0_1, r0_2, r0_3]) 38 [37, 39, 40, 41, 42, 43] (by kernel_rfl) z z (yi_run ((wanted_eq z z z (cvb hc522)).trans z) (fun w hst => x_loadN (cs := [U6 a0.ID.Session, U6 a0.ID.Seq, U6 a0.Epoch, r0_0, r0_1, r0_2, r0_3]) z isAgg34 sizeOf34 (hst.bcs12 0 z))) (ws_q (v := .agg #[U6 t339.1.ID.Session, U6 t339.1.ID.Seq, U6 t339.1.Epoch, v344, v346, v348, v350]) 39 [37, 40, 41, 42, 43] (by kernel_rfl) z z (yi_run ((wanted_eq z z z (cvb hc522)).trans z) (fun w hst => x_loadN (cs := [U6 t339.1.ID.Session, U6 t339.1.ID.Seq, U6 t339.1.Epoch, v344, v346, v348, v350]) z isAgg34 sizeOf34 (hst.bcs10 0 z))) ?_)))
 refine ws_e1 37 (by kernel_rfl) ?_
 refine nxe [40, 41, 42, 43] (by kernel_rfl) z ((wanted_eq z z z (cvb hc522)).trans z) ?_
 clear hst
 intro w hst
 replace hst := hst.pull7
 obtain ⟨css523, hq524, hst⟩ := hst.own_open
 replace hst := hst.pull7
 obtain ⟨css525, hq526, hst⟩ := hst.own_open
 replace hst := hst.pull7
 obtain ⟨css527, hq528, hst⟩ := hst.own_open
 replace hst := hst.pull7
 obtain ⟨css529, hq530, hst⟩ := hst.own_open
 obtain ⟨t531, ht532, hm⟩ := bind_some hm
 refine wec call19 [.agg #[U6 a0.ID.Session, U6 a0.ID.Seq, U6 a0.Epoch, r0_0, r0_1, r0_2, r0_3], .agg #[U6 t339.1.ID.Session, U6 t339.1.ID.Seq, U6 t339.1.Epoch, v344, v346, v348, v350]] z z ?_
 refine (locks_Meet_ref (f0_0.mono (rd_weak _)) (f0_1.mono (rd_weak _)) (f0_2.mono (rd_weak _)) (f0_3.mono (rd_weak _)) (hst.rdrow3 hq524) (hst.rdrow2 hq526) (hst.rdrow1 hq528) (hst.rdrow0 hq530) hst.to0 ht532).mono ?_
 rintro _ w533 ⟨rfl, hst⟩
 refine ⟨_, z, ?_⟩
 replace hst := hst.of0.pull3.own_close hq524
 replace hst := hst.pull3.own_close hq526
 replace hst := hst.pull3.own_close hq528
 replace hst := hst.pull3.own_close hq530
 refine ws_next (pend' := [(39, .agg #[U6 t339.1.ID.Session, U6 t339.1.ID.Seq, U6 t339.1.Epoch, v344, v346, v348, v350]), (38, .agg #[U6 a0.ID.Session, U6 a0.ID.Seq, U6 a0.Epoch, r0_0, r0_1, r0_2, r0_3])]) hst (by kernel_rfl) (pk_cons z (yi_run ((wanted_eq z z z (cvb hc522)).trans z) (fun w hst => x_loadN (cs := [U6 t339.1.ID.Session, U6 t339.1.ID.Seq, U6 t339.1.Epoch, v344, v346, v348, v350]) z isAgg34 sizeOf34 (hst.bcs10 0 z))) (pk_cons z (yi_run ((wanted_eq z z z (cvb hc522)).trans z) (fun w hst => x_loadN (cs := [U6 a0.ID.Session, U6 a0.ID.Seq, U6 a0.Epoch, r0_0, r0_1, r0_2, r0_3]) z isAgg34 sizeOf34 (hst.bcs12 0 z))) pk_nil)) ?_
 refine ws_e1 40 (by kernel_rfl) ?_
 refine nxe [41, 42, 43] (by kernel_rfl) z ((wanted_eq z z z (cvb hc522)).trans z) ?_
 clear hst
 intro w hst
 replace hst := hst.pull3
 obtain ⟨css536, hq537, hst⟩ := hst.own_open
 replace hst := hst.pull3
 obtain ⟨css538, hq539, hst⟩ := hst.own_open
 replace hst := hst.pull3
 obtain ⟨css540, hq541, hst⟩ := hst.own_open
 replace hst := hst.pull3
 obtain ⟨css542, hq543, hst⟩ := hst.own_open
 obtain ⟨t544, ht545, hm⟩ := bind_some hm
 refine wec call15 [.agg #[U6 a0.ID.Session, U6 a0.ID.Seq, U6 a0.Epoch, r0_0, r0_1, r0_2, r0_3], .agg #[U6 t339.1.ID.Session, U6 t339.1.ID.Seq, U6 t339.1.Epoch, v344, v346, v348, v350]] z z ?_
 refine (ref11_Meet_ref (f0_0.mono (rd_weak _)) (f0_1.mono (rd_weak _)) (f0_2.mono (rd_weak _)) (f0_3.mono (rd_weak _)) (hst.rdrow3 hq537) (hst.rdrow2 hq539) (hst.rdrow1 hq541) (hst.rdrow0 hq543) hst.to0 ht545).mono ?_
 rintro _ w546 ⟨rfl, hst⟩
 refine ⟨_, z, ?_⟩
 replace hst := hst.of0.pull3.own_close hq537
 replace hst := hst.pull3.own_close hq539
 replace hst := hst.pull3.own_close hq541
 replace hst := hst.pull3.own_close hq543
 refine ws_next (pend' := []) hst (by kernel_rfl) pk_nil ?_
 refine ws_q (v := .bool (t531 == t544)) 41 [42, 43] (by kernel_rfl) z z (yi_run ((wanted_eq z z z (cvb hc522)).trans z) (fun w hst => by kernel_rfl)) (wsr (.bool (t531 == t544)) 42 z z z (by kernel_rfl) (fun w hst => x_pick_t hc522 z z) (wsr (.bool (t531 == t544)) 43 z z z (by kernel_rfl) (fun w hst => z) ?_))
 refine ws_nil ?_
 intro w hst
 refine tn (wp_ret ?_)
 obtain rfl := some_inj hm
 refine post_ret (vs := [.bool (t531 == t544)]) results4 (rvs_cons (rv_tmp z) rvs_nil) ?_
 exact ⟨_, z, hI0, hst.keep0⟩
}
 {
 replace hm := bif_f hc522 hm
 refine ws_q (v := undef) 35 [36, 37, 38, 39, 40, 41, 42, 43] (by kernel_rfl) z z (yi_off ((wanted_eq z z z (cvb hc522)).trans z)) (ws_q (v := undef) 36 [37, 38, 39, 40, 41, 42, 43] (by kernel_rfl) z z (yi_off ((wanted_eq z z z (cvb hc522)).trans z)) (ws_q (v := undef) 37 [38, 39, 40, 41, 42, 43] (by kernel_rfl) z z (yi_off ((wanted_eq z z z (cvb hc522)).trans z)) (ws_q (v := undef) 38 [39, 40, 41, 42, 43] (by kernel_rfl) z z (yi_off ((wanted_eq z z z (cvb hc522)).trans z)) (ws_q (v := undef) 39 [40, 41, 42, 43] (by kernel_rfl) z z (yi_off ((wanted_eq z z z (cvb hc522)).trans z)) (ws_q (v := undef) 40 [41, 42, 43] (by kernel_rfl) z z (yi_off ((wanted_eq z z z (cvb hc522)).trans z)) (ws_q (v := undef) 41 [42, 43] (by kernel_rfl) z z (yi_off ((wanted_eq z z z (cvb hc522)).trans z)) (wsr (.bool false) 42 z z z (by kernel_rfl) (fun w hst => x_pick_f hc522 z z) (wsr (.bool false) 43 z z z (by kernel_rfl) (fun w hst => z) ?_))))))))
 refine ws_nil ?_
 intro w hst
 refine tn (wp_ret ?_)
 obtain rfl := some_inj hm
 refine post_ret (vs := [.bool false]) results4 (rvs_cons (rv_tmp z) rvs_nil) ?_
 exact ⟨_, z, hI0, hst.keep0⟩
}
}
 {
 replace hm := bif_f hc479 hm
 refine ws_q (v := undef) 26 [27, 28, 29, 30, 31, 32, 33, 34, 35, 36, 37, 38, 39, 40, 41, 42, 43] (by kernel_rfl) z z (yi_off ((wanted_eq z z z (cvb hc479)).trans z)) (ws_q (v := undef) 27 [28, 29, 30, 31, 32, 33, 34, 35, 36, 37, 38, 39, 40, 41, 42, 43] (by kernel_rfl) z z (yi_off ((wanted_eq z z z (cvb hc479)).trans z)) (ws_q (v := undef) 28 [29, 30, 31, 32, 33, 34, 35, 36, 37, 38, 39, 40, 41, 42, 43] (by kernel_rfl) z z (yi_off ((wanted_eq z z z (cvb hc479)).trans z)) (ws_q (v := undef) 29 [30, 31, 32, 33, 34, 35, 36, 37, 38, 39, 40, 41, 42, 43] (by kernel_rfl) z z (yi_off ((wanted_eq z z z (cvb hc479)).trans z)) (ws_q (v := undef) 30 [31, 32, 33, 34, 35, 36, 37, 38, 39, 40, 41, 42, 43] (by kernel_rfl) z z (yi_off ((wanted_eq z z z (cvb hc479)).trans z)) (ws_q (v := undef) 31 [32, 33, 34, 35, 36, 37, 38, 39, 40, 41, 42, 43] (by kernel_rfl) z z (yi_off ((wanted_eq z z z (cvb hc479)).trans z)) (ws_q (v := undef) 32 [33, 34, 35, 36, 37, 38, 39, 40, 41, 42, 43] (by kernel_rfl) z z (yi_off ((wanted_eq z z z (cvb hc479)).trans z)) (wsr (.bool false) 33 z z z (by kernel_rfl) (fun w hst => x_pick_f hc479 z z) (wsr (.bool false) 34 z z z (by kernel_rfl) (fun w hst => z) (ws_q (v := undef) 35 [36, 37, 38, 39, 40, 41, 42, 43] (by kernel_rfl) z z (yi_off ((wanted_eq z z z z).trans z)) (ws_q (v := undef) 36 [37, 38, 39, 40, 41, 42, 43] (by kernel_rfl) z z (yi_off ((wanted_eq z z z z).trans z)) (ws_q (v := undef) 37 [38, 39, 40, 41, 42, 43] (by kernel_rfl) z z (yi_off ((wanted_eq z z z z).trans z)) (ws_q (v := undef) 38 [39, 40, 41, 42, 43] (by kernel_rfl) z z (yi_off ((wanted_eq z z z z).trans z)) ?_))))))))))))
 refine ws_q (v := undef) 39 [40, 41, 42, 43] (by kernel_rfl) z z (yi_off ((wanted_eq z z z z).trans z)) (ws_q (v := undef) 40 [41, 42, 43] (by kernel_rfl) z z (yi_off ((wanted_eq z z z z).trans z)) (ws_q (v := undef) 41 [42, 43] (by kernel_rfl) z z (yi_off ((wanted_eq z z z z).trans z)) (wsr (.bool false) 42 z z z (by kernel_rfl) (fun w hst => x_pick_f z z z) (wsr (.bool false) 43 z z z (by kernel_rfl) (fun w hst => z) ?_))))
 refine ws_nil ?_
 intro w hst
 refine tn (wp_ret ?_)
 obtain rfl := some_inj hm
 refine post_ret (vs := [.bool false]) results4 (rvs_cons (rv_tmp z) rvs_nil) ?_
 exact ⟨_, z, hI0, hst.keep0⟩
}
}
 {
 replace hm := bif_f hc468 hm
 refine ws_q (v := undef) 17 [18, 19, 20, 21, 22, 23, 24, 25, 26, 27, 28, 29, 30, 31, 32, 33, 34, 35, 36, 37, 38, 39, 40, 41, 42, 43] (by kernel_rfl) z z (yi_off ((wanted_eq z z z (cvb hc468)).trans z)) (ws_q (v := undef) 18 [19, 20, 21, 22, 23, 24, 25, 26, 27, 28, 29, 30, 31, 32, 33, 34, 35, 36, 37, 38, 39, 40, 41, 42, 43] (by kernel_rfl) z z (yi_off ((wanted_eq z z z (cvb hc468)).trans z)) (ws_q (v := undef) 19 [20, 21, 22, 23, 24, 25, 26, 27, 28, 29, 30, 31, 32, 33, 34, 35, 36, 37, 38, 39, 40, 41, 42, 43] (by kernel_rfl) z z (yi_off ((wanted_eq z z z (cvb hc468)).trans z)) (ws_q (v := undef) 20 [21, 22, 23, 24, 25, 26, 27, 28, 29, 30, 31, 32, 33, 34, 35, 36, 37, 38, 39, 40, 41, 42, 43] (by kernel_rfl) z z (yi_off ((wanted_eq z z z (cvb hc468)).trans z)) (ws_q (v := undef) 21 [22, 23, 24, 25, 26, 27, 28, 29, 30, 31, 32, 33, 34, 35, 36, 37, 38, 39, 40, 41, 42, 43] (by kernel_rfl) z z (yi_off ((wanted_eq z z z (cvb hc468)).trans z)) (ws_q (v := undef) 22 [23, 24, 25, 26, 27, 28, 29, 30, 31, 32, 33, 34, 35, 36, 37, 38, 39, 40, 41, 42, 43] (by kernel_rfl) z z (yi_off ((wanted_eq z z z (cvb hc468)).trans z)) (ws_q (v := undef) 23 [24, 25, 26, 27, 28, 29, 30, 31, 32, 33, 34, 35, 36, 37, 38, 39, 40, 41, 42, 43] (by kernel_rfl) z z (yi_off ((wanted_eq z z z (cvb hc468)).trans z)) (wsr (.bool false) 24 z z z (by kernel_rfl) (fun w hst => x_pick_f hc468 z z) (wsr (.bool false) 25 z z z (by kernel_rfl) (fun w hst => z) (ws_q (v := undef) 26 [27, 28, 29, 30, 31, 32, 33, 34, 35, 36, 37, 38, 39, 40, 41, 42, 43] (by kernel_rfl) z z (yi_off ((wanted_eq z z z z).trans z)) (ws_q (v := undef) 27 [28, 29, 30, 31, 32, 33, 34, 35, 36, 37, 38, 39, 40, 41, 42, 43] (by kernel_rfl) z z (yi_off ((wanted_eq z z z z).trans z)) (ws_q (v := undef) 28 [29, 30, 31, 32, 33, 34, 35, 36, 37, 38, 39, 40, 41, 42, 43] (by kernel_rfl) z z (yi_off ((wanted_eq z z z z).trans z)) (ws_q (v := undef) 29 [30, 31, 32, 33, 34, 35, 36, 37, 38, 39, 40, 41, 42, 43] (by kernel_rfl) z z (yi_off ((wanted_eq z z z z).trans z)) ?_))))))))))))
 refine ws_q (v := undef) 30 [31, 32, 33, 34, 35, 36, 37, 38, 39, 40, 41, 42, 43] (by kernel_rfl) z z (yi_off ((wanted_eq z z z z).trans z)) (ws_q (v := undef) 31 [32, 33, 34, 35, 36, 37, 38, 39, 40, 41, 42, 43] (by kernel_rfl) z z (yi_off ((wanted_eq z z z z).trans z)) (ws_q (v := undef) 32 [33, 34, 35, 36, 37, 38, 39, 40, 41, 42, 43] (by kernel_rfl) z z (yi_off ((wanted_eq z z z z).trans z)) (wsr (.bool false) 33 z z z (by kernel_rfl) (fun w hst => x_pick_f z z z) (wsr (.bool false) 34 z z z (by kernel_rfl) (fun w hst => z) (ws_q (v := undef) 35 [36, 37, 38, 39, 40, 41, 42, 43] (by kernel_rfl) z z (yi_off ((wanted_eq z z z z).trans z)) (ws_q (v := undef) 36 [37, 38, 39, 40, 41, 42, 43] (by kernel_rfl) z z (yi_off ((wanted_eq z z z z).trans z)) (ws_q (v := undef) 37 [38, 39, 40, 41, 42, 43] (by kernel_rfl) z z (yi_off ((wanted_eq z z z z).trans z)) (ws_q (v := undef) 38 [39, 40, 41, 42, 43] (by kernel_rfl) z z (yi_off ((wanted_eq z z z z).trans z)) (ws_q (v := undef) 39 [40, 41, 42, 43] (by kernel_rfl) z z (yi_off ((wanted_eq z z z z).trans z)) (ws_q (v := undef) 40 [41, 42, 43] (by kernel_rfl) z z (yi_off ((wanted_eq z z z z).trans z)) (ws_q (v := undef) 41 [42, 43] (by kernel_rfl) z z (yi_off ((wanted_eq z z z z).trans z)) (wsr (.bool false) 42 z z z (by kernel_rfl) (fun w hst => x_pick_f z z z) ?_))))))))))))
 refine wsr (.bool false) 43 z z z (by kernel_rfl) (fun w hst => z) ?_
 refine ws_nil ?_
 intro w hst
 refine tn (wp_ret ?_)
 obtain rfl := some_inj hm
 refine post_ret (vs := [.bool false]) results4 (rvs_cons (rv_tmp z) rvs_nil) ?_
 exact ⟨_, z, hI0, hst.keep0⟩
}
}
 {
 replace hm := bif_f hc457 hm
 refine ws_q (v := undef) 8 [9, 10, 11, 12, 13, 14, 15, 16, 17, 18, 19, 20, 21, 22, 23, 24, 25, 26, 27, 28, 29, 30, 31, 32, 33, 34, 35, 36, 37, 38, 39, 40, 41, 42, 43] (by kernel_rfl) z z (yi_off ((wanted_eq z z z (cvb hc457)).trans z)) (ws_q (v := undef) 9 [10, 11, 12, 13, 14, 15, 16, 17, 18, 19, 20, 21, 22, 23, 24, 25, 26, 27, 28, 29, 30, 31, 32, 33, 34, 35, 36, 37, 38, 39, 40, 41, 42, 43] (by kernel_rfl) z z (yi_off ((wanted_eq z z z (cvb hc457)).trans z)) (ws_q (v := undef) 10 [11, 12, 13, 14, 15, 16, 17, 18, 19, 20, 21, 22, 23, 24, 25, 26, 27, 28, 29, 30, 31, 32, 33, 34, 35, 36, 37, 38, 39, 40, 41, 42, 43] (by kernel_rfl) z z (yi_off ((wanted_eq z z z (cvb hc457)).trans z)) (ws_q (v := undef) 11 [12, 13, 14, 15, 16, 17, 18, 19, 20, 21, 22, 23, 24, 25, 26, 27, 28, 29, 30, 31, 32, 33, 34, 35, 36, 37, 38, 39, 40, 41, 42, 43] (by kernel_rfl) z z (yi_off ((wanted_eq z z z (cvb hc457)).trans z)) (ws_q (v := undef) 12 [13, 14, 15, 16, 17, 18, 19, 20, 21, 22, 23, 24, 25, 26, 27, 28, 29, 30, 31, 32, 33, 34, 35, 36, 37, 38, 39, 40, 41, 42, 43] (by kernel_rfl) z z (yi_off ((wanted_eq z z z (cvb hc457)).trans z)) (ws_q (v := undef) 13 [14, 15, 16, 17, 18, 19, 20, 21, 22, 23, 24, 25, 26, 27, 28, 29, 30, 31, 32, 33, 34, 35, 36, 37, 38, 39, 40, 41, 42, 43] (by kernel_rfl) z z (yi_off ((wanted_eq z z z (cvb hc457)).trans z)) (ws_q (v := undef) 14 [15, 16, 17, 18, 19, 20, 21, 22, 23, 24, 25, 26, 27, 28, 29, 30, 31, 32, 33, 34, 35, 36, 37, 38, 39, 40, 41, 42, 43] (by kernel_rfl) z z (yi_off ((wanted_eq z z z (cvb hc457)).trans z)) (wsr (.bool false) 15 z z z (by kernel_rfl) (fun w hst => x_pick_f hc457 z z) (wsr (.bool false) 16 z z z (by kernel_rfl) (fun w hst => z) (ws_q (v := undef) 17 [18, 19, 20, 21, 22, 23, 24, 25, 26, 27, 28, 29, 30, 31, 32, 33, 34, 35, 36, 37, 38, 39, 40, 41, 42, 43] (by kernel_rfl) z z (yi_off ((wanted_eq z z z z).trans z)) (ws_q (v := undef) 18 [19, 20, 21, 22, 23, 24, 25, 26, 27, 28, 29, 30, 31, 32, 33, 34, 35, 36, 37, 38, 39, 40, 41, 42, 43] (by kernel_rfl) z z (yi_off ((wanted_eq z z z z).trans z)) (ws_q (v := undef) 19 [20, 21, 22, 23, 24, 25, 26, 27, 28, 29, 30, 31, 32, 33, 34, 35, 36, 37, 38, 39, 40, 41, 42, 43] (by kernel_rfl) z z (yi_off ((wanted_eq z z z z).trans z)) (ws_q (v := undef) 20 [21, 22, 23, 24, 25, 26, 27, 28, 29, 30, 31, 32, 33, 34, 35, 36, 37, 38, 39, 40, 41, 42, 43] (by kernel_rfl) z z (yi_off ((wanted_eq z z z z).trans z)) ?_))))))))))))
 refine ws_q (v := undef) 21 [22, 23, 24, 25, 26, 27, 28, 29, 30, 31, 32, 33, 34, 35, 36, 37, 38, 39, 40, 41, 42, 43] (by kernel_rfl) z z (yi_off ((wanted_eq z z z z).trans z)) (ws_q (v := undef) 22 [23, 24, 25, 26, 27, 28, 29, 30, 31, 32, 33, 34, 35, 36, 37, 38, 39, 40, 41, 42, 43] (by kernel_rfl) z z (yi_off ((wanted_eq z z z z).trans z)) (ws_q (v := undef) 23 [24, 25, 26, 27, 28, 29, 30, 31, 32, 33, 34, 35, 36, 37, 38, 39, 40, 41, 42, 43] (by kernel_rfl) z z (yi_off ((wanted_eq z z z z).trans z)) (wsr (.bool false) 24 z z z (by kernel_rfl) (fun w hst => x_pick_f z z z) (wsr (.bool false) 25 z z z (by kernel_rfl) (fun w hst => z) (ws_q (v := undef) 26 [27, 28, 29, 30, 31, 32, 33, 34, 35, 36, 37, 38, 39, 40, 41, 42, 43] (by kernel_rfl) z z (yi_off ((wanted_eq z z z z).trans z)) (ws_q (v := undef) 27 [28, 29, 30, 31, 32, 33, 34, 35, 36, 37, 38, 39, 40, 41, 42, 43] (by kernel_rfl) z z (yi_off ((wanted_eq z z z z).trans z)) (ws_q (v := undef) 28 [29, 30, 31, 32, 33, 34, 35, 36, 37, 38, 39, 40, 41, 42, 43] (by kernel_rfl) z z (yi_off ((wanted_eq z z z z).trans z)) (ws_q (v := undef) 29 [30, 31, 32, 33, 34, 35, 36, 37, 38, 39, 40, 41, 42, 43] (by kernel_rfl) z z (yi_off ((wanted_eq z z z z).trans z)) (ws_q (v := undef) 30 [31, 32, 33, 34, 35, 36, 37, 38, 39, 40, 41, 42, 43] (by kernel_rfl) z z (yi_off ((wanted_eq z z z z).trans z)) (ws_q (v := undef) 31 [32, 33, 34, 35, 36, 37, 38, 39, 40, 41, 42, 43] (by kernel_rfl) z z (yi_off ((wanted_eq z z z z).trans z)) (ws_q (v := undef) 32 [33, 34, 35, 36, 37, 38, 39, 40, 41, 42, 43] (by kernel_rfl) z z (yi_off ((wanted_eq z z z z).trans z)) (wsr (.bool false) 33 z z z (by kernel_rfl) (fun w hst => x_pick_f z z z) ?_))))))))))))
 refine wsr (.bool false) 34 z z z (by kernel_rfl) (fun w hst => z) (ws_q (v := undef) 35 [36, 37, 38, 39, 40, 41, 42, 43] (by kernel_rfl) z z (yi_off ((wanted_eq z z z z).trans z)) (ws_q (v := undef) 36 [37, 38, 39, 40, 41, 42, 43] (by kernel_rfl) z z (yi_off ((wanted_eq z z z z).trans z)) (ws_q (v := undef) 37 [38, 39, 40, 41, 42, 43] (by kernel_rfl) z z (yi_off ((wanted_eq z z z z).trans z)) (ws_q (v := undef) 38 [39, 40, 41, 42, 43] (by kernel_rfl) z z (yi_off ((wanted_eq z z z z).trans z)) (ws_q (v := undef) 39 [40, 41, 42, 43] (by kernel_rfl) z z (yi_off ((wanted_eq z z z z).trans z)) (ws_q (v := undef) 40 [41, 42, 43] (by kernel_rfl) z z (yi_off ((wanted_eq z z z z).trans z)) (ws_q (v := undef) 41 [42, 43] (by kernel_rfl) z z (yi_off ((wanted_eq z z z z).trans z)) (wsr (.bool false) 42 z z z (by kernel_rfl) (fun w hst => x_pick_f z z z) (wsr (.bool false) 43 z z z (by kernel_rfl) (fun w hst => z) ?_)))))))))
 refine ws_nil ?_
 intro w hst
 refine tn (wp_ret ?_)
 obtain rfl := some_inj hm
 refine post_ret (vs := [.bool false]) results4 (rvs_cons (rv_tmp z) rvs_nil) ?_
 exact ⟨_, z, hI0, hst.keep0⟩
}
}
}
}
}
}
}
}
}

end Go.Proofs.Ytbdhhmnncknhhaa
