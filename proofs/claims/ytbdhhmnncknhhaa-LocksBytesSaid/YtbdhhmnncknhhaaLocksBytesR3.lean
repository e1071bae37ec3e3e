/- The Go functions refine their models, part 3. -/
import Derived.Test.YtbdhhmnncknhhaaLocksBytesR2
set_option linter.unusedVariables false
set_option linter.unusedSimpArgs false
set_option maxRecDepth 100000
set_option maxHeartbeats 4000000
namespace Go.Proofs.Ytbdhhmnncknhhaa
open Go Go.V
open _root_.Go.Proofs.Try IntKind
attribute [local irreducible] wpList Code.wp wpQuiet Calls bodyPost Oper.wp wpS Nx PendOK YieldsIn
theorem law12_LocksBytes_ref {w0 w : World} {I : HL} {R : SP} {a0 : api_Hold} {r0_0 : Value} {r0_1 : Value} {r0_2 : Value} {r0_3 : Value} {a1 : (List Int)} {r1_0 : Value} (f0_0 : Rd tyF64 R I r0_0 a0.Gets) (f0_1 : Rd tyF2 R I r0_1 a0.Scans) (f0_2 : Rd tyF64 R I r0_2 a0.Puts) (f0_3 : Rd (tyInt .u8) R I r0_3 a0.Data) (f1_0 : Ro (tyInt .u8) I r1_0 a1) (hst : St w0 w I [] R) {r : (Bool)} (hm : law12_LocksBytes a0 a1 = some r) :
  Calls prog 8 #[.agg #[U6 a0.ID.Session, U6 a0.ID.Seq, U6 a0.Epoch, r0_0, r0_1, r0_2, r0_3], r1_0] w fun e w' => ∃ (I' : HL), e = .returned (.bool r) ∧ I.le I' ∧ St w0 w' I' [] R := by {
 unfold law12_LocksBytes at hm
 refine calls_start (args := [.agg #[U6 a0.ID.Session, U6 a0.ID.Seq, U6 a0.Epoch, r0_0, r0_1, r0_2, r0_3], r1_0]) func8 z ntmps8 (Nat.le_of_ble_eq_true z) ?_
 have hI0 := HL.le.refl I
 refine wp_seq (wrl ?_)
 obtain ⟨b525, w526, ew527, eb528, hst⟩ := hst.box [U6 a0.ID.Session, U6 a0.ID.Seq, U6 a0.Epoch, r0_0, r0_1, r0_2, r0_3] 34
 refine wl_run (v := Pt b525 0) (w' := w526) z z (x_al (by kernel_rfl) ew527 eb528) ?_
 refine wv (.bool false) z z z (wl_nil (tn (wp_seq (wp_seq (wrl ?_)))))
 obtain ⟨t530, ht531, hm⟩ := bind_some hm
 refine wc call9 [] z z z ?_
 refine (law12_awake_ref hst.to0 ht531).mono ?_
 rintro _ w532 ⟨I533, rfl, hI534, hst⟩
 refine ⟨_, z, ?_⟩
 replace hst := hst.of0
 replace f0_0 := f0_0.mono (rd_le hI534)
 replace f0_1 := f0_1.mono (rd_le hI534)
 replace f0_2 := f0_2.mono (rd_le hI534)
 replace f0_3 := f0_3.mono (rd_le hI534)
 replace f1_0 := f1_0.mono (ro_le hI534)
 replace hI0 := hI0.trans hI534
 refine wv (.bool (!t530)) z z z (wv (.bool (!t530)) z z z ?_)
 refine bsplit (!t530) (fun hc535 => ?_) (fun hc535 => ?_)
 {
 replace hm := bif_t hc535 hm
 refine wo hc535 z z z z z z (wo hc535 z z z z z z (wo hc535 z z z z z z (wv (.bool true) z z (x_pick_t hc535 z z) (wv (.bool true) z z z (wz z z z z z z (wz z z z z z z (wz z z z z z z (wv (.bool true) z z (x_pick_t z z z) (wl_nil (tn ?_))))))))))
 refine wp_ift z ?_
 refine wp_seq (wrl ?_)
 obtain ⟨t536, ht537, hm⟩ := bind_some hm
 refine wc call9 [] z z z ?_
 refine (law12_awake_ref hst.to0 ht537).mono ?_
 rintro _ w538 ⟨I539, rfl, hI540, hst⟩
 refine ⟨_, z, ?_⟩
 replace hst := hst.of0
 replace f0_0 := f0_0.mono (rd_le hI540)
 replace f0_1 := f0_1.mono (rd_le hI540)
 replace f0_2 := f0_2.mono (rd_le hI540)
 replace f0_3 := f0_3.mono (rd_le hI540)
 replace f1_0 := f1_0.mono (ro_le hI540)
 replace hI0 := hI0.trans hI540
 refine wv (.bool t536) z z z (wl_nil (tn (wp_ret (then_r ?_))))
 obtain rfl := some_inj hm
 refine post_ret (vs := [.bool t536]) results8 (rvs_cons (rv_tmp z) rvs_nil) ?_
 exact ⟨_, z, hI0, hst.keep0⟩
}
 {
 replace hm := bif_f hc535 hm
 refine wv (.agg #[U6 a0.ID.Session, U6 a0.ID.Seq, U6 a0.Epoch, r0_0, r0_1, r0_2, r0_3]) ((wanted_eq z z z (cvb hc535)).trans z) z (x_loadN (cs := [U6 a0.ID.Session, U6 a0.ID.Seq, U6 a0.Epoch, r0_0, r0_1, r0_2, r0_3]) z isAgg34 sizeOf34 (hst.bcs0 0 z)) ?_
 obtain ⟨t541, ht542, hm⟩ := bind_some hm
 refine wl_call ((wanted_eq z z z (cvb hc535)).trans z) z (x_call call11 z (vs := [.agg #[U6 a0.ID.Session, U6 a0.ID.Seq, U6 a0.Epoch, r0_0, r0_1, r0_2, r0_3]]) z) ?_
 refine (law12_short_ref (f0_0.mono (rd_weak _)) (f0_1.mono (rd_weak _)) (f0_2.mono (rd_weak _)) (f0_3.mono (rd_weak _)) hst.to0 ht542).mono ?_
 rintro _ w543 ⟨rfl, hst⟩
 refine ⟨_, z, ?_⟩
 replace hst := hst.of0
 refine wv (.bool (!t541)) ((wanted_eq z z z (cvb hc535)).trans z) z z (wv (.bool (!t541)) z z (x_pick_f hc535 z z) (wv (.bool (!t541)) z z z ?_))
 refine bsplit (!t541) (fun hc546 => ?_) (fun hc546 => ?_)
 {
 replace hm := bif_t hc546 hm
 refine wo hc546 z z z z z z (wo hc546 z z z z z z (wo hc546 z z z z z z (wv (.bool true) z z (x_pick_t hc546 z z) (wl_nil (tn ?_)))))
 refine wp_ift z ?_
 refine wp_seq (wrl ?_)
 obtain ⟨t547, ht548, hm⟩ := bind_some hm
 refine wc call9 [] z z z ?_
 refine (law12_awake_ref hst.to0 ht548).mono ?_
 rintro _ w549 ⟨I550, rfl, hI551, hst⟩
 refine ⟨_, z, ?_⟩
 replace hst := hst.of0
 replace f0_0 := f0_0.mono (rd_le hI551)
 replace f0_1 := f0_1.mono (rd_le hI551)
 replace f0_2 := f0_2.mono (rd_le hI551)
 replace f0_3 := f0_3.mono (rd_le hI551)
 replace f1_0 := f1_0.mono (ro_le hI551)
 replace hI0 := hI0.trans hI551
 refine wv (.bool t547) z z z (wl_nil (tn (wp_ret (then_r ?_))))
 obtain rfl := some_inj hm
 refine post_ret (vs := [.bool t547]) results8 (rvs_cons (rv_tmp z) rvs_nil) ?_
 exact ⟨_, z, hI0, hst.keep0⟩
}
 {
 replace hm := bif_f hc546 hm
 refine wv (r1_0) ((wanted_eq z z z (cvb hc546)).trans z) z z (wv (.int .i64 ((a1).length : Int)) ((wanted_eq z z z (cvb hc546)).trans z) z (x_len z underlying32 (ro_sliceV f1_0)) (wv (.bool (decide (((a1).length : Int) > (300:Int)))) ((wanted_eq z z z (cvb hc546)).trans z) z z (wv (.bool (decide (((a1).length : Int) > (300:Int)))) z z (x_pick_f hc546 z z) (wl_nil (tn ?_)))))
 refine bsplit (decide (((a1).length : Int) > (300:Int))) (fun hc552 => ?_) (fun hc552 => ?_)
 {
 replace hm := bif_t hc552 hm
 refine wp_ift (cvb hc552) ?_
 refine wp_seq (wrl ?_)
 obtain ⟨t553, ht554, hm⟩ := bind_some hm
 refine wc call9 [] z z z ?_
 refine (law12_awake_ref hst.to0 ht554).mono ?_
 rintro _ w555 ⟨I556, rfl, hI557, hst⟩
 refine ⟨_, z, ?_⟩
 replace hst := hst.of0
 replace f0_0 := f0_0.mono (rd_le hI557)
 replace f0_1 := f0_1.mono (rd_le hI557)
 replace f0_2 := f0_2.mono (rd_le hI557)
 replace f0_3 := f0_3.mono (rd_le hI557)
 replace f1_0 := f1_0.mono (ro_le hI557)
 replace hI0 := hI0.trans hI557
 refine wv (.bool t553) z z z (wl_nil (tn (wp_ret (then_r ?_))))
 obtain rfl := some_inj hm
 refine post_ret (vs := [.bool t553]) results8 (rvs_cons (rv_tmp z) rvs_nil) ?_
 exact ⟨_, z, hI0, hst.keep0⟩
}
 {
 replace hm := bif_f hc552 hm
 refine wp_iff (cvb hc552) ?_
 refine wp_skip (tn (wp_seq (wrl ?_)))
 refine wv (.agg #[Zs]) z z (by kernel_rfl) ?_
 obtain ⟨b559, w560, ew561, eb562, hst⟩ := hst.box [Zs] 68
 refine wl_run (v := Pt b559 0) (w' := w560) z z (x_al (by kernel_rfl) ew561 eb562) ?_
 refine wv (Pt b559 0) z z z (wl_nil (tn (wp_seq (wrl (wv (Pt b559 0) z z z (wv (.agg #[U6 a0.ID.Session, U6 a0.ID.Seq, U6 a0.Epoch, r0_0, r0_1, r0_2, r0_3]) z z (x_loadN (cs := [U6 a0.ID.Session, U6 a0.ID.Seq, U6 a0.Epoch, r0_0, r0_1, r0_2, r0_3]) z isAgg34 sizeOf34 (hst.bcs1 0 z)) ?_))))))
 replace hst := hst.own_nil (tyInt .u8)
 replace hst := hst.pull1
 replace hst := at_octet_Writer_close (pv := Pt b559 0) (x := ({ p := [] } : octet_Writer)) hst z
 obtain ⟨t565, ht566, hm⟩ := bind_some hm
 refine wc call31 [Pt b559 0, .agg #[U6 a0.ID.Session, U6 a0.ID.Seq, U6 a0.Epoch, r0_0, r0_1, r0_2, r0_3]] z z z ?_
 refine (locks_Lay_ref (f0_0.mono (rd_weak _)) (f0_1.mono (rd_weak _)) (f0_2.mono (rd_weak _)) (f0_3.mono (rd_weak _)) hst.to1 ht566).mono ?_
 rintro _ w567 ⟨rfl, hst⟩
 refine ⟨_, z, ?_⟩
 replace hst := hst.of1
 refine wl_nil (tn (wp_seq (wrl (wv (Pt b559 0) z z z ?_))))
 obtain ⟨t570, ht571, hm⟩ := bind_some hm
 refine wc call32 [Pt b559 0] z z z ?_
 refine (octet_Writer_Done_ref hst.to1 ht571).mono ?_
 rintro _ w572 ⟨v575, rfl, hst⟩
 refine ⟨_, z, ?_⟩
 replace hst := hst.of1
 refine wv (v575) z z z (wl_nil (tn (wp_seq (wrl (wv (v575) z z z ?_)))))
 obtain ⟨I577, hI578, f579, hst⟩ := hst.own_fix
 replace f0_0 := f0_0.mono (rd_le hI578)
 replace f0_1 := f0_1.mono (rd_le hI578)
 replace f0_2 := f0_2.mono (rd_le hI578)
 replace f0_3 := f0_3.mono (rd_le hI578)
 replace f1_0 := f1_0.mono (ro_le hI578)
 replace hI0 := hI0.trans hI578
 obtain ⟨t580, ht581, hm⟩ := bind_some hm
 refine wc call33 [v575] z z z ?_
 refine (octet_Read_ref f579 hst.to0 ht581).mono ?_
 rintro _ w582 ⟨v585, rfl, hst⟩
 refine ⟨_, z, ?_⟩
 replace hst := hst.of1
 refine wv (v585) z z z (wl_nil (tn (wp_seq (wrl (wv (v585) z z z ?_)))))
 obtain ⟨t587, ht588, hm⟩ := bind_some hm
 refine wc call34 [v585] z z z ?_
 refine (locks_Read_ref hst.to1 ht588).mono ?_
 rintro _ w589 ⟨v592, v594, v596, v598, rfl, hst⟩
 refine ⟨_, z, ?_⟩
 replace hst := hst.of5
 obtain ⟨b604, w605, ew606, eb607, hst⟩ := hst.box [Zu, Zu, Zu, Zs, Zs, Zs, Zs] 34
 refine wl_run (v := Pt b604 0) (w' := w605) z z (x_al (by kernel_rfl) ew606 eb607) ?_
 obtain ⟨w609, hr610, hst⟩ := hst.bx [U6 t587.1.ID.Session, U6 t587.1.ID.Seq, U6 t587.1.Epoch, v592, v594, v596, v598] sizeOf34 z (oC z (oC z (oC z (oC (one_of_sliceV hst.sv1) (oC (one_of_sliceV hst.sv2) (oC (one_of_sliceV hst.sv3) (oC (one_of_sliceV hst.sv4) oN))))))) (by kernel_rfl)
 refine wl_unit z z (x_unit hr610) ?_
 refine wl_nil (tn (wp_seq (wp_seq ?_)))
 refine wp_region_St hst 17 [0, 1, 2, 3, 4, 5, 6, 7, 8, 9, 10, 11, 12, 13, 14, 15, 16] [0, 1, 0, 4, 12, 31, 63, 127, 255, 511, 1023, 2047, 4095, 4095, 16383, 32767, 65535] [] z (by kernel_rfl) (by kernel_rfl) Try.mixed (by kernel_rfl) ?_
 refine wsr (v575) 0 z z z (by kernel_rfl) (fun w hst => z) (wsr (.string (toStr t570)) 1 z z z (by kernel_rfl) (fun w hst => x_tostr underlying32 underlying9 underlying5 z (Src.of_ro hst f579)) (wsr (.agg #[U6 a0.ID.Session, U6 a0.ID.Seq, U6 a0.Epoch, r0_0, r0_1, r0_2, r0_3]) 2 z z z (by kernel_rfl) (fun w hst => x_loadN (cs := [U6 a0.ID.Session, U6 a0.ID.Seq, U6 a0.Epoch, r0_0, r0_1, r0_2, r0_3]) z isAgg34 sizeOf34 (hst.bcs6 0 z)) ?_))
 refine ws_e1 3 (by kernel_rfl) ?_
 refine nxe [4, 5, 6, 7, 8, 9, 10, 11, 12, 13, 14, 15, 16] (by kernel_rfl) z z ?_
 clear hst
 intro w hst
 have f612 : Ro (tyInt .u8) I577 (.slice none 0 0) [] := ro_nil
 obtain ⟨t613, ht614, hm⟩ := bind_some hm
 refine wec call35 [Zs, .agg #[U6 a0.ID.Session, U6 a0.ID.Seq, U6 a0.Epoch, r0_0, r0_1, r0_2, r0_3]] z z ?_
 refine (ref12_Hold_ref (f612.mono ro_rd) (f0_0.mono (rd_weak _)) (f0_1.mono (rd_weak _)) (f0_2.mono (rd_weak _)) (f0_3.mono (rd_weak _)) hst.to0 ht614).mono ?_
 rintro _ w615 ⟨v618, rfl, hst⟩
 refine ⟨_, z, ?_⟩
 replace hst := hst.of1
 refine ws_next (pend' := [(1, .string (toStr t570)), (0, v575)]) hst (by kernel_rfl) (pkr z z (fun w hst => x_tostr underlying32 underlying9 underlying5 z (Src.of_ro hst f579)) (pkr z z (fun w hst => z) pk_nil)) ?_
 refine wsr (.string (toStr t613)) 4 z z z (by kernel_rfl) (fun w hst => x_tostr underlying32 underlying9 underlying5 z hst.src0) (wsr (.bool (!(sEq (toStr t570) (toStr t613)))) 5 z z z (by kernel_rfl) (fun w hst => by kernel_rfl) (wsr (.bool (!(sEq (toStr t570) (toStr t613)))) 6 z z z (by kernel_rfl) (fun w hst => z) ?_))
 refine bsplit (!(sEq (toStr t570) (toStr t613))) (fun hc620 => ?_) (fun hc620 => ?_)
 {
 replace hm := bif_t hc620 hm
 refine ws_q (v := undef) 7 [8, 9, 10, 11, 12, 13, 14, 15, 16] (by kernel_rfl) z z (yi_off ((wanted_eq z z z (cvb hc620)).trans z)) (ws_q (v := undef) 8 [9, 10, 11, 12, 13, 14, 15, 16] (by kernel_rfl) z z (yi_off ((wanted_eq z z z (cvb hc620)).trans z)) (ws_q (v := undef) 9 [10, 11, 12, 13, 14, 15, 16] (by kernel_rfl) z z (yi_off ((wanted_eq z z z (cvb hc620)).trans z)) (wsr (.bool true) 10 z z z (by kernel_rfl) (fun w hst => x_pick_t hc620 z z) (wsr (.bool true) 11 z z z (by kernel_rfl) (fun w hst => z) (ws_q (v := undef) 12 [13, 14, 15, 16] (by kernel_rfl) z z (yi_off ((wanted_eq z z z z).trans z)) (ws_q (v := undef) 13 [14, 15, 16] (by kernel_rfl) z z (yi_off ((wanted_eq z z z z).trans z)) (ws_q (v := undef) 14 [15, 16] (by kernel_rfl) z z (yi_off ((wanted_eq z z z z).trans z)) (ws_q (v := undef) 15 [16] (by kernel_rfl) z z (yi_off ((wanted_eq z z z z).trans z)) (wsr (.bool true) 16 z z z (by kernel_rfl) (fun w hst => x_pick_t z z z) ?_)))))))))
 refine ws_nil ?_
 intro w hst
 refine tn ?_
 refine wp_ift z ?_
 refine wp_seq (wrl (wv (.bool false) z z z (wl_nil (tn (wp_ret (then_r ?_))))))
 obtain rfl := some_inj hm
 refine post_ret (vs := [.bool false]) results8 (rvs_cons (rv_tmp z) rvs_nil) ?_
 exact ⟨_, z, hI0, hst.keep0⟩
}
 {
 replace hm := bif_f hc620 hm
 refine ws_q (v := v585) 7 [8, 9, 10, 11, 12, 13, 14, 15, 16] (by kernel_rfl) z z (yi_run ((wanted_eq z z z (cvb hc620)).trans z) (fun w hst => z)) ?_
 refine ws_e1 8 (by kernel_rfl) ?_
 refine nxe [9, 10, 11, 12, 13, 14, 15, 16] (by kernel_rfl) z ((wanted_eq z z z (cvb hc620)).trans z) ?_
 clear hst
 intro w hst
 replace hst := hst.pull6
 obtain ⟨t621, ht622, hm⟩ := bind_some hm
 refine wec call36 [v585] z z ?_
 refine (octet_Reader_End_ref hst.to1 ht622).mono ?_
 rintro _ w623 ⟨rfl, hst⟩
 refine ⟨_, z, ?_⟩
 replace hst := hst.of1
 refine ws_next (pend' := []) hst (by kernel_rfl) pk_nil ?_
 refine ws_q (v := .bool (!t621)) 9 [10, 11, 12, 13, 14, 15, 16] (by kernel_rfl) z z (yi_run ((wanted_eq z z z (cvb hc620)).trans z) (fun w hst => z)) (wsr (.bool (!t621)) 10 z z z (by kernel_rfl) (fun w hst => x_pick_f hc620 z z) (wsr (.bool (!t621)) 11 z z z (by kernel_rfl) (fun w hst => z) ?_))
 refine bsplit (!t621) (fun hc626 => ?_) (fun hc626 => ?_)
 {
 replace hm := bif_t hc626 hm
 refine ws_q (v := undef) 12 [13, 14, 15, 16] (by kernel_rfl) z z (yi_off ((wanted_eq z z z (cvb hc626)).trans z)) (ws_q (v := undef) 13 [14, 15, 16] (by kernel_rfl) z z (yi_off ((wanted_eq z z z (cvb hc626)).trans z)) (ws_q (v := undef) 14 [15, 16] (by kernel_rfl) z z (yi_off ((wanted_eq z z z (cvb hc626)).trans z)) (ws_q (v := undef) 15 [16] (by kernel_rfl) z z (yi_off ((wanted_eq z z z (cvb hc626)).trans z)) (wsr (.bool true) 16 z z z (by kernel_rfl) (fun w hst => x_pick_t hc626 z z) ?_))))
 refine ws_nil ?_
 intro w hst
 refine tn ?_
 refine wp_ift z ?_
 refine wp_seq (wrl (wv (.bool false) z z z (wl_nil (tn (wp_ret (then_r ?_))))))
 obtain rfl := some_inj hm
 refine post_ret (vs := [.bool false]) results8 (rvs_cons (rv_tmp z) rvs_nil) ?_
 exact ⟨_, z, hI0, hst.keep0⟩
}
 {
 replace hm := bif_f hc626 hm
 refine ws_q (v := .agg #[U6 t587.1.ID.Session, U6 t587.1.ID.Seq, U6 t587.1.Epoch, v592, v594, v596, v598]) 12 [13, 14, 15, 16] (by kernel_rfl) z z (yi_run ((wanted_eq z z z (cvb hc626)).trans z) (fun w hst => x_loadN (cs := [U6 t587.1.ID.Session, U6 t587.1.ID.Seq, U6 t587.1.Epoch, v592, v594, v596, v598]) z isAgg34 sizeOf34 (hst.bcs2 0 z))) (ws_q (v := .agg #[U6 a0.ID.Session, U6 a0.ID.Seq, U6 a0.Epoch, r0_0, r0_1, r0_2, r0_3]) 13 [14, 15, 16] (by kernel_rfl) z z (yi_run ((wanted_eq z z z (cvb hc626)).trans z) (fun w hst => x_loadN (cs := [U6 a0.ID.Session, U6 a0.ID.Seq, U6 a0.Epoch, r0_0, r0_1, r0_2, r0_3]) z isAgg34 sizeOf34 (hst.bcs7 0 z))) ?_)
 refine ws_e1 14 (by kernel_rfl) ?_
 refine nxe [15, 16] (by kernel_rfl) z ((wanted_eq z z z (cvb hc626)).trans z) ?_
 clear hst
 intro w hst
 replace hst := hst.pull3
 obtain ⟨css627, hq628, hst⟩ := hst.own_open
 replace hst := hst.pull4
 obtain ⟨css629, hq630, hst⟩ := hst.own_open
 replace hst := hst.pull5
 obtain ⟨css631, hq632, hst⟩ := hst.own_open
 replace hst := hst.pull6
 obtain ⟨css633, hq634, hst⟩ := hst.own_open
 obtain ⟨t635, ht636, hm⟩ := bind_some hm
 refine wec call18 [.agg #[U6 t587.1.ID.Session, U6 t587.1.ID.Seq, U6 t587.1.Epoch, v592, v594, v596, v598], .agg #[U6 a0.ID.Session, U6 a0.ID.Seq, U6 a0.Epoch, r0_0, r0_1, r0_2, r0_3]] z z ?_
 refine (ref11_SameHold_ref (hst.rdrow3 hq628) (hst.rdrow2 hq630) (hst.rdrow1 hq632) (hst.rdrow0 hq634) (f0_0.mono (rd_weak _)) (f0_1.mono (rd_weak _)) (f0_2.mono (rd_weak _)) (f0_3.mono (rd_weak _)) hst.to0 ht636).mono ?_
 rintro _ w637 ⟨rfl, hst⟩
 refine ⟨_, z, ?_⟩
 replace hst := hst.of0.pull3.own_close hq628
 replace hst := hst.pull3.own_close hq630
 replace hst := hst.pull3.own_close hq632
 replace hst := hst.pull3.own_close hq634
 refine ws_next (pend' := []) hst (by kernel_rfl) pk_nil ?_
 refine ws_q (v := .bool (!t635)) 15 [16] (by kernel_rfl) z z (yi_run ((wanted_eq z z z (cvb hc626)).trans z) (fun w hst => z)) (wsr (.bool (!t635)) 16 z z z (by kernel_rfl) (fun w hst => x_pick_f hc626 z z) ?_)
 refine ws_nil ?_
 intro w hst
 refine tn ?_
 refine bsplit (!t635) (fun hc640 => ?_) (fun hc640 => ?_)
 {
 replace hm := bif_t hc640 hm
 refine wp_ift (cvb hc640) ?_
 refine wp_seq (wrl (wv (.bool false) z z z (wl_nil (tn (wp_ret (then_r ?_))))))
 obtain rfl := some_inj hm
 refine post_ret (vs := [.bool false]) results8 (rvs_cons (rv_tmp z) rvs_nil) ?_
 exact ⟨_, z, hI0, hst.keep0⟩
}
 {
 replace hm := bif_f hc640 hm
 refine wp_iff (cvb hc640) ?_
 refine wp_skip (tn (wp_seq (wrl ?_)))
 refine wv (r1_0) z z z (wv (.agg #[r1_0, Zi]) z z (by obtain ⟨_, _, hv_, _⟩ := (ro_sliceV f1_0); rw [hv_]; kernel_rfl) ?_)
 obtain ⟨b642, w643, ew644, eb645, hst⟩ := hst.box [r1_0, Zi] 45
 refine wl_run (v := Pt b642 0) (w' := w643) z z (x_al (by kernel_rfl) ew644 eb645) ?_
 refine wv (Pt b642 0) z z z (wl_nil (tn (wp_seq (wrl ?_))))
 obtain ⟨t647, ht648, hm⟩ := bind_some hm
 refine wc call10 [] z z z ?_
 refine (locks_New_ref hst.to0 ht648).mono ?_
 rintro _ w649 ⟨v652, rfl, hst⟩
 refine ⟨_, z, ?_⟩
 replace hst := hst.of1
 refine wv (v652) z z z (wl_nil (tn (wp_seq (wrl (wv (v652) z z z (wv (.agg #[U6 a0.ID.Session, U6 a0.ID.Seq, U6 a0.Epoch, r0_0, r0_1, r0_2, r0_3]) z z (x_loadN (cs := [U6 a0.ID.Session, U6 a0.ID.Seq, U6 a0.Epoch, r0_0, r0_1, r0_2, r0_3]) z isAgg34 sizeOf34 (hst.bcs9 0 z)) ?_))))))
 replace hst := objO_some hst
 obtain ⟨t654, ht655, hm⟩ := bind_some hm
 refine wc call12 [v652, .agg #[U6 a0.ID.Session, U6 a0.ID.Seq, U6 a0.Epoch, r0_0, r0_1, r0_2, r0_3]] z z z ?_
 refine (locks_Table_Take_ref (f0_0.mono (rd_weak _)) (f0_1.mono (rd_weak _)) (f0_2.mono (rd_weak _)) (f0_3.mono (rd_weak _)) hst.to1 ht655).mono ?_
 rintro _ w656 ⟨I657, rfl, hI658, hst⟩
 refine ⟨_, z, ?_⟩
 replace hst := hst.of1
 replace f0_0 := f0_0.mono (rd_le hI658)
 replace f0_1 := f0_1.mono (rd_le hI658)
 replace f0_2 := f0_2.mono (rd_le hI658)
 replace f0_3 := f0_3.mono (rd_le hI658)
 replace f1_0 := f1_0.mono (ro_le hI658)
 replace f579 := f579.mono (ro_le hI658)
 replace f612 := f612.mono (ro_le hI658)
 replace hI0 := hI0.trans hI658
 rcases he660 : t654.2 with _ | y659
 · rw [he660] at hm; cases hm
 rw [he660] at hm hst; dsimp only at hm; replace hst := objO_get hst
 refine wl_nil (tn ?_)
 obtain ⟨y767, hm, hx768⟩ := bind_some hm
 refine wp_cut (fun a w => ∃ (I764 : HL) (z763 : locks_Table) (σ765 : Nat → Value), (law12_LocksBytes_j0) z763 = some r ∧ a = Fr 118 (upd σ765 10 (v652)) ∧ I657.le I764 ∧ St w0 w I764 [at_locks_Table v652 z763] R) ?_ ?_
 {
 have hL769 := HL.le.refl I657
 refine wp_seq (wrl (wv (.int .i64 (0:Int)) z z z (wl_nil (tn (wp_block ?_)))))
 replace hst := hst.pull1
 replace hst := at_ref12_Tape_close (pv := Pt b642 0) (x := ({ L := a1, I := (0:Int) } : ref12_Tape)) hst ⟨z, f1_0⟩
 replace hst := hst.pull2.sub.pull2.sub.pull2.sub.pull2.sub.pull2.sub.pull2.sub.pull2.sub.pull2.sub
 obtain ⟨n727, hm⟩ := loopO_some hm
 refine wp_loop_n (fun n a w => ∃ (I725 : HL) (z722 : ref12_Tape) (z723 : locks_Table) (z724 : Int) (σ726 : Nat → Value), loopN (law12_LocksBytes_l1) n (z722, z723, z724) = some y767 ∧ a = Fr 118 (upd (upd (upd σ726 9 (Pt b642 0)) 10 (v652)) 11 (.int .i64 z724)) ∧ I657.le I725 ∧ St w0 w I725 [at_ref12_Tape (Pt b642 0) z722, at_locks_Table v652 z723] R) n727 ⟨_, ({ L := a1, I := (0:Int) } : ref12_Tape), y659, (0:Int), _, hm, (fu 9 (Pt b642 0) z (fu 10 v652 z (fu 11 (.int .i64 (0:Int)) z z))), (HL.le.refl _), hst⟩ ?_
 rintro n733 _ w728 ⟨I725, z722, z723, z724, σ726, hm, rfl, hL729, hst⟩
 obtain ⟨n730, y731, rfl, hm, hx732⟩ := loopN_some hm
 dsimp only [law12_LocksBytes_l1] at hm
 replace f0_0 := f0_0.mono (rd_le hL729)
 replace f0_1 := f0_1.mono (rd_le hL729)
 replace f0_2 := f0_2.mono (rd_le hL729)
 replace f0_3 := f0_3.mono (rd_le hL729)
 replace f1_0 := f1_0.mono (ro_le hL729)
 replace f579 := f579.mono (ro_le hL729)
 replace f612 := f612.mono (ro_le hL729)
 replace hI0 := hI0.trans hL729
 replace hL769 := hL769.trans hL729
 refine wp_seq (wp_seq (wrl (wv (.int .i64 z724) z z z (wv (.bool (decide (z724 < (8:Int)))) z z z (wl_nil (tn ?_))))))
 refine bsplit (decide (z724 < (8:Int))) (fun hc734 => ?_) (fun hc734 => ?_)
 {
 replace hm := bif_t hc734 hm
 refine wp_ift (cvb hc734) ?_
 refine wp_skip (tn (wp_seq (wp_block (wrl ?_))))
 refine wv (v652) z z z (wv (Pt b642 0) z z z ?_)
 obtain ⟨t735, ht736, hm⟩ := bind_some hm
 refine wc call16 [Pt b642 0] z z z ?_
 refine (ref12_Tape_Hold_ref hst.to1 ht736).mono ?_
 rintro _ w737 ⟨v740, v742, v744, v746, rfl, hst⟩
 refine ⟨_, z, ?_⟩
 replace hst := hst.of5.pull5
 replace hst := objO_some hst
 replace hst := hst.pull1
 obtain ⟨css748, hq749, hst⟩ := hst.own_open
 replace hst := hst.pull2
 obtain ⟨css750, hq751, hst⟩ := hst.own_open
 replace hst := hst.pull3
 obtain ⟨css752, hq753, hst⟩ := hst.own_open
 replace hst := hst.pull4
 obtain ⟨css754, hq755, hst⟩ := hst.own_open
 replace hst := hst.pull4
 obtain ⟨t756, ht757, hm⟩ := bind_some hm
 refine wc call12 [v652, .agg #[U6 t735.1.ID.Session, U6 t735.1.ID.Seq, U6 t735.1.Epoch, v740, v742, v744, v746]] z z z ?_
 refine (locks_Table_Take_ref (hst.sub.rdrow3 hq749) (hst.sub.rdrow2 hq751) (hst.sub.rdrow1 hq753) (hst.sub.rdrow0 hq755) hst.to1 ht757).mono ?_
 rintro _ w758 ⟨I759, rfl, hI760, hst⟩
 refine ⟨_, z, ?_⟩
 replace hst := hst.of1
 replace f0_0 := f0_0.mono (rd_le hI760)
 replace f0_1 := f0_1.mono (rd_le hI760)
 replace f0_2 := f0_2.mono (rd_le hI760)
 replace f0_3 := f0_3.mono (rd_le hI760)
 replace f1_0 := f1_0.mono (ro_le hI760)
 replace f579 := f579.mono (ro_le hI760)
 replace f612 := f612.mono (ro_le hI760)
 replace hI0 := hI0.trans hI760
 replace hL769 := hL769.trans hI760
 replace hL729 := hL729.trans hI760
 replace hst := hst.pull4.own_close (hq749.imp fun _ _ => Ty.mono _ (ro_le hI760))
 replace hst := hst.pull4.own_close (hq751.imp fun _ _ => Ty.mono _ (ro_le hI760))
 replace hst := hst.pull4.own_close (hq753.imp fun _ _ => Ty.mono _ (ro_le hI760))
 replace hst := hst.pull4.own_close (hq755.imp fun _ _ => Ty.mono _ (ro_le hI760))
 replace hst := hst.pull4
 rcases he762 : t756.2 with _ | y761
 · rw [he762] at hm; cases hm
 rw [he762] at hm hst; dsimp only at hm; replace hst := objO_get hst
 refine wl_nil (blk_n (tn (wrl (wv (.int .i64 z724) z z z (wv (.int .i64 (i64.wrap (z724 + (1:Int)))) z z z (wv (.int .i64 (i64.wrap (z724 + (1:Int)))) z z z (wl_nil (tn ?_))))))))
 replace hst := hst.pull5.keep2
 obtain rfl := some_inj hm
 exact ⟨_, Nat.lt_succ_self _, _, t735.2, y761, (i64.wrap (z724 + (1:Int))), _, hx732, (fu 9 (Pt b642 0) z (fu 10 v652 z (fu 11 (.int .i64 (i64.wrap (z724 + (1:Int)))) z z))), hL729, hst⟩
}
 {
 replace hm := bif_f hc734 hm
 refine wp_iff (cvb hc734) ?_
 refine wp_exit (then_x (then_x ?_))
 replace hm := inr_up hm hx732
 refine blk_x (tn ?_)
 replace hst := hst.pull1.keep1
 obtain rfl := some_inj hm
 exact ⟨_, z723, _, hx768, (fu 10 v652 z z), hL769, hst⟩
}
}
 {
 clear hst
 rintro _ w770 ⟨I764, z763, σ765, hm, rfl, hL766, hst⟩
 dsimp only [law12_LocksBytes_j0] at hm
 replace f0_0 := f0_0.mono (rd_le hL766)
 replace f0_1 := f0_1.mono (rd_le hL766)
 replace f0_2 := f0_2.mono (rd_le hL766)
 replace f0_3 := f0_3.mono (rd_le hL766)
 replace f1_0 := f1_0.mono (ro_le hL766)
 replace f579 := f579.mono (ro_le hL766)
 replace f612 := f612.mono (ro_le hL766)
 replace hI0 := hI0.trans hL766
 refine wp_seq (wrl (wv (v652) z z z ?_))
 replace hst := objO_some hst
 obtain ⟨t771, ht772, hm⟩ := bind_some hm
 refine wc call30 [v652] z z z ?_
 refine (locks_Table_Encode_ref hst.to1 ht772).mono ?_
 rintro _ w773 ⟨v776, rfl, hst⟩
 refine ⟨_, z, ?_⟩
 replace hst := hst.of2.pull1
 replace hst := objO_get hst
 replace hst := hst.pull1
 obtain ⟨I778, hI779, f780, hst⟩ := hst.own_fix
 replace f0_0 := f0_0.mono (rd_le hI779)
 replace f0_1 := f0_1.mono (rd_le hI779)
 replace f0_2 := f0_2.mono (rd_le hI779)
 replace f0_3 := f0_3.mono (rd_le hI779)
 replace f1_0 := f1_0.mono (ro_le hI779)
 replace f579 := f579.mono (ro_le hI779)
 replace f612 := f612.mono (ro_le hI779)
 replace hI0 := hI0.trans hI779
 obtain ⟨t781, ht782, hm⟩ := bind_some hm
 refine wc call29 [v776] z z z ?_
 refine (locks_Decode_ref f780 hst.to0 ht782).mono ?_
 rintro _ w783 ⟨I784, v786, rfl, hI785, hst⟩
 refine ⟨_, z, ?_⟩
 replace hst := hst.of1
 replace f0_0 := f0_0.mono (rd_le hI785)
 replace f0_1 := f0_1.mono (rd_le hI785)
 replace f0_2 := f0_2.mono (rd_le hI785)
 replace f0_3 := f0_3.mono (rd_le hI785)
 replace f1_0 := f1_0.mono (ro_le hI785)
 replace f579 := f579.mono (ro_le hI785)
 replace f612 := f612.mono (ro_le hI785)
 replace f780 := f780.mono (ro_le hI785)
 replace hI0 := hI0.trans hI785
 refine wv (.tuple #[v786, I6 t781.2]) z z z (wv (v786) z z z (wv (.int .i64 t781.2) z z z (wv (v786) z z z (wv (.int .i64 t781.2) z z z (wl_nil (tn (wp_seq (wrl (wv ((.slice none 0 0)) z z z (wl_nil (tn (wp_seq (wrl (wv (v652) z z z ?_))))))))))))))
 replace hst := hst.pull1
 replace hst := objO_some hst
 obtain ⟨t789, ht790, hm⟩ := bind_some hm
 refine wc call13 [v652] z z z ?_
 refine (locks_Table_All_ref hst.to1 ht790).mono ?_
 rintro _ w791 ⟨v794, rfl, hst⟩
 refine ⟨_, z, ?_⟩
 replace hst := hst.of2.pull1
 replace hst := objO_get hst
 refine wv (v794) z z z (wl_nil (tn ?_))
 obtain ⟨y1011, hm, hx1012⟩ := bind_some hm
 refine wp_cut (fun a w => ∃ (I1008 : HL) (z1007 : (List api_Hold)) (v1006 : Value) (σ1009 : Nat → Value), (law12_LocksBytes_j2 t781 z763) z1007 = some r ∧ a = Fr 118 (upd (upd (upd (upd σ1009 10 (v652)) 12 (v786)) 13 (.int .i64 t781.2)) 14 (v1006)) ∧ I784.le I1008 ∧ St w0 w I1008 [at_locks_Table v652 z763, objO at_locks_Table v786 t781.1, ownS ty_api_Hold v1006 z1007] R) ?_ ?_
 {
 have hL1013 := HL.le.refl I784
 refine wp_seq (wrl (wv (.int .i64 (0:Int)) z z z (wl_nil (tn (wp_block ?_)))))
 replace hst := hst.own_nil ty_api_Hold
 obtain ⟨n950, hm⟩ := loopO_some hm
 refine wp_loop_n (fun n a w => ∃ (I948 : HL) (z944 : (List api_Hold)) (z947 : Int) (v945 : Value) (σ949 : Nat → Value), loopN (law12_LocksBytes_l3 t789 z763) n (z944, z947) = some y1011 ∧ a = Fr 118 (upd (upd (upd (upd (upd (upd σ949 10 (v652)) 12 (v786)) 13 (.int .i64 t781.2)) 14 (v945)) 15 (v794)) 16 (.int .i64 z947)) ∧ I784.le I948 ∧ St w0 w I948 [ownS ty_api_Hold v945 z944, at_locks_Table v652 z763, ownS ty_api_ID v794 t789, objO at_locks_Table v786 t781.1] R) n950 ⟨_, [], (0:Int), Zs, _, hm, (fu 10 v652 z (fu 12 v786 z (fu 13 (.int .i64 t781.2) z (fu 14 (.slice none 0 0) z (fu 15 v794 z (fu 16 (.int .i64 (0:Int)) z z)))))), (HL.le.refl _), hst⟩ ?_
 rintro n956 _ w951 ⟨I948, z944, z947, v945, σ949, hm, rfl, hL952, hst⟩
 obtain ⟨n953, y954, rfl, hm, hx955⟩ := loopN_some hm
 dsimp only [law12_LocksBytes_l3] at hm
 replace f0_0 := f0_0.mono (rd_le hL952)
 replace f0_1 := f0_1.mono (rd_le hL952)
 replace f0_2 := f0_2.mono (rd_le hL952)
 replace f0_3 := f0_3.mono (rd_le hL952)
 replace f1_0 := f1_0.mono (ro_le hL952)
 replace f579 := f579.mono (ro_le hL952)
 replace f612 := f612.mono (ro_le hL952)
 replace f780 := f780.mono (ro_le hL952)
 replace hI0 := hI0.trans hL952
 replace hL1013 := hL1013.trans hL952
 refine wp_seq (wp_seq (wrl (wv (.int .i64 z947) z z z (wv (v794) z z z (wv (.int .i64 ((t789).length : Int)) z z (x_len z underlying37 hst.sv2) (wv (.bool (decide (z947 < ((t789).length : Int)))) z z z (wl_nil (tn ?_))))))))
 refine bsplit (decide (z947 < ((t789).length : Int))) (fun hc957 => ?_) (fun hc957 => ?_)
 {
 replace hm := bif_t hc957 hm
 refine wp_ift (cvb hc957) ?_
 refine wp_skip (tn (wp_seq (wp_block (wp_seq (wrl ?_)))))
 refine wv (v652) z z z (wv (v794) z z z (wv (.int .i64 z947) z z z ?_))
 obtain ⟨x958, hx959, hm⟩ := bind_some hm
 obtain ⟨h960, h961, hi962⟩ := geto_some hx959
 refine wv (.pointer (some (eAddr v794 (z947.toNat * 2 + 0)))) z z (x_index z z underlying37 sizeOf29 hst.sv2 h960 h961) (wv (.agg #[U6 x958.Session, U6 x958.Seq]) z z (x_loadN (cs := [U6 x958.Session, U6 x958.Seq]) z isAgg29 sizeOf29 (hst.olN2 hi962 0 (by rintro _ rfl; rfl))) ?_)
 replace hst := hst.pull1
 replace hst := objO_some hst
 obtain ⟨t963, ht964, hm⟩ := bind_some hm
 refine wc call14 [v652, .agg #[U6 x958.Session, U6 x958.Seq]] z z z ?_
 refine (locks_Table_Get_ref hst.to1 ht964).mono ?_
 rintro _ w965 ⟨I966, v968, v971, v974, v977, rfl, hI967, f970, f973, f976, f979, hst⟩
 refine ⟨_, z, ?_⟩
 replace hst := hst.of1
 replace f0_0 := f0_0.mono (rd_le hI967)
 replace f0_1 := f0_1.mono (rd_le hI967)
 replace f0_2 := f0_2.mono (rd_le hI967)
 replace f0_3 := f0_3.mono (rd_le hI967)
 replace f1_0 := f1_0.mono (ro_le hI967)
 replace f579 := f579.mono (ro_le hI967)
 replace f612 := f612.mono (ro_le hI967)
 replace f780 := f780.mono (ro_le hI967)
 replace hI0 := hI0.trans hI967
 replace hL1013 := hL1013.trans hI967
 replace hL952 := hL952.trans hI967
 replace hst := objO_get hst
 refine wv (.tuple #[.agg #[U6 t963.1.ID.Session, U6 t963.1.ID.Seq, U6 t963.1.Epoch, v968, v971, v974, v977], .bool t963.2]) z z z (wv (.agg #[U6 t963.1.ID.Session, U6 t963.1.ID.Seq, U6 t963.1.Epoch, v968, v971, v974, v977]) z z z (wv (.bool t963.2) z z z ?_))
 obtain ⟨b984, w985, ew986, eb987, hst⟩ := hst.box [Zu, Zu, Zu, Zs, Zs, Zs, Zs] 34
 refine wl_run (v := Pt b984 0) (w' := w985) z z (x_al (by kernel_rfl) ew986 eb987) ?_
 obtain ⟨w989, hr990, hst⟩ := hst.bx [U6 t963.1.ID.Session, U6 t963.1.ID.Seq, U6 t963.1.Epoch, v968, v971, v974, v977] sizeOf34 z (oC z (oC z (oC z (oC (one_of_sliceV (ro_sliceV f970)) (oC (one_of_sliceV (ro_sliceV f973)) (oC (one_of_sliceV (ro_sliceV f976)) (oC (one_of_sliceV (ro_sliceV f979)) oN))))))) (by kernel_rfl)
 refine wl_unit z z (x_unit hr990) ?_
 refine wv (.bool t963.2) z z z (wl_nil (tn (wrl (wv (v945) z z z (wv (.agg #[U6 t963.1.ID.Session, U6 t963.1.ID.Seq, U6 t963.1.Epoch, v968, v971, v974, v977]) z z (x_loadN (cs := [U6 t963.1.ID.Session, U6 t963.1.ID.Seq, U6 t963.1.Epoch, v968, v971, v974, v977]) z isAgg34 sizeOf34 (hst.bcs0 0 z)) ?_)))))
 obtain ⟨b995, w996, ew997, eb998, hst⟩ := hst.lits (E := ty_api_Hold) (xs := [t963.1]) [[U6 t963.1.ID.Session, U6 t963.1.ID.Seq, U6 t963.1.Epoch, v968, v971, v974, v977]] 34 1 z (Reps.cons ⟨_, _, _, _, z, f970, f973, f976, f979, one_of_sliceV (ro_sliceV f970), one_of_sliceV (ro_sliceV f973), one_of_sliceV (ro_sliceV f976), one_of_sliceV (ro_sliceV f979)⟩ Reps.nil)
 refine wl_run (v := (.slice (some ⟨b995, 0, none⟩) 1 1)) (w' := w996) z z (x_als (by kernel_rfl) ew997 eb998) ?_
 obtain ⟨hg1000, hm⟩ := gd_some hm
 replace hst := hst.pull3
 obtain ⟨v1001, w1002, hr1003, hst⟩ := run_append elem_22 underlying22 hst hst.src1 (room_of hg1000 z) 22
 refine wl_run (v := v1001) (w' := w1002) z z (x_append z z hr1003) ?_
 refine wv (v1001) z z z (wl_nil (blk_n (tn (wrl (wv (.int .i64 z947) z z z (wv (.int .i64 (i64.wrap (z947 + (1:Int)))) z z z (wv (.int .i64 (i64.wrap (z947 + (1:Int)))) z z z (wl_nil (tn ?_)))))))))
 replace hst := hst.pull5.pull5.pull5.pull3.keep4
 obtain rfl := some_inj hm
 exact ⟨_, Nat.lt_succ_self _, _, (z944 ++ ([t963.1])), (i64.wrap (z947 + (1:Int))), v1001, _, hx955, (fu 10 v652 z (fu 12 v786 z (fu 13 (.int .i64 t781.2) z (fu 14 v1001 z (fu 15 v794 z (fu 16 (.int .i64 (i64.wrap (z947 + (1:Int)))) z z)))))), hL952, hst⟩
}
 {
 replace hm := bif_f hc957 hm
 refine wp_iff (cvb hc957) ?_
 refine wp_exit (then_x (then_x ?_))
 replace hm := inr_up hm hx955
 refine blk_x (tn ?_)
 replace hst := hst.pull3.pull2.keep3
 obtain rfl := some_inj hm
 exact ⟨_, z944, v945, _, hx1012, (fu 10 v652 z (fu 12 v786 z (fu 13 (.int .i64 t781.2) z (fu 14 v945 z z)))), hL1013, hst⟩
}
}
 {
 clear hst
 rintro _ w1014 ⟨I1008, z1007, v1006, σ1009, hm, rfl, hL1010, hst⟩
 dsimp only [law12_LocksBytes_j2] at hm
 replace f0_0 := f0_0.mono (rd_le hL1010)
 replace f0_1 := f0_1.mono (rd_le hL1010)
 replace f0_2 := f0_2.mono (rd_le hL1010)
 replace f0_3 := f0_3.mono (rd_le hL1010)
 replace f1_0 := f1_0.mono (ro_le hL1010)
 replace f579 := f579.mono (ro_le hL1010)
 replace f612 := f612.mono (ro_le hL1010)
 replace f780 := f780.mono (ro_le hL1010)
 replace hI0 := hI0.trans hL1010
 refine wp_seq ?_
 refine wp_region_St hst 17 [0, 1, 2, 3, 4, 5, 6, 7, 8, 9, 10, 11, 12, 13, 14, 15, 16] [0, 1, 3, 7, 7, 31, 63, 127, 255, 511, 1023, 255, 3071, 7167, 16383, 32767, 65535] [] z (by kernel_rfl) (by kernel_rfl) Try.mixed (by kernel_rfl) ?_
 refine wsr (.int .i64 t781.2) 0 z z z (by kernel_rfl) (fun w hst => z) (wsr (.bool (t781.2 == (0:Int))) 1 z z z (by kernel_rfl) (fun w hst => z) (wsr (.bool (t781.2 == (0:Int))) 2 z z z (by kernel_rfl) (fun w hst => z) ?_))
 refine bsplit (t781.2 == (0:Int)) (fun hc1015 => ?_) (fun hc1015 => ?_)
 {
 replace hm := bif_t hc1015 hm
 refine ws_q (v := v786) 3 [4, 5, 6, 7, 8, 9, 10, 11, 12, 13, 14, 15, 16] (by kernel_rfl) z z (yi_run ((wanted_eq z z z (cvb hc1015)).trans z) (fun w hst => z)) (ws_q (v := v1006) 4 [5, 6, 7, 8, 9, 10, 11, 12, 13, 14, 15, 16] (by kernel_rfl) z z (yi_run ((wanted_eq z z z (cvb hc1015)).trans z) (fun w hst => z)) ?_)
 refine ws_e1 5 (by kernel_rfl) ?_
 refine nxe [6, 7, 8, 9, 10, 11, 12, 13, 14, 15, 16] (by kernel_rfl) z ((wanted_eq z z z (cvb hc1015)).trans z) ?_
 clear hst
 intro w hst
 replace hst := hst.pull2
 obtain ⟨I1016, hI1017, f1018, hst⟩ := hst.own_fix
 replace f0_0 := f0_0.mono (rd_le hI1017)
 replace f0_1 := f0_1.mono (rd_le hI1017)
 replace f0_2 := f0_2.mono (rd_le hI1017)
 replace f0_3 := f0_3.mono (rd_le hI1017)
 replace f1_0 := f1_0.mono (ro_le hI1017)
 replace f579 := f579.mono (ro_le hI1017)
 replace f612 := f612.mono (ro_le hI1017)
 replace f780 := f780.mono (ro_le hI1017)
 replace hI0 := hI0.trans hI1017
 replace hst := hst.pull1
 obtain ⟨t1019, ht1020, hm⟩ := bind_some hm
 refine wec call26 [v786, v1006] z z ?_
 refine (law12_told_ref f1018 hst.to1 ht1020).mono ?_
 rintro _ w1021 ⟨I1022, rfl, hI1023, hst⟩
 refine ⟨_, z, ?_⟩
 replace hst := hst.of1
 replace f0_0 := f0_0.mono (rd_le hI1023)
 replace f0_1 := f0_1.mono (rd_le hI1023)
 replace f0_2 := f0_2.mono (rd_le hI1023)
 replace f0_3 := f0_3.mono (rd_le hI1023)
 replace f1_0 := f1_0.mono (ro_le hI1023)
 replace f579 := f579.mono (ro_le hI1023)
 replace f612 := f612.mono (ro_le hI1023)
 replace f780 := f780.mono (ro_le hI1023)
 replace f1018 := f1018.mono (ro_le hI1023)
 replace hI0 := hI0.trans hI1023
 refine ws_next (pend' := []) hst (by kernel_rfl) pk_nil ?_
 refine wsr (.bool t1019) 6 z z z (by kernel_rfl) (fun w hst => x_pick_t hc1015 z z) (wsr (.bool t1019) 7 z z z (by kernel_rfl) (fun w hst => z) ?_)
 refine bsplit t1019 (fun hc1024 => ?_) (fun hc1024 => ?_)
 {
 replace hm := bif_t hc1024 hm
 refine ws_q (v := v786) 8 [9, 10, 11, 12, 13, 14, 15, 16] (by kernel_rfl) z z (yi_run ((wanted_eq z z z (cvb hc1024)).trans z) (fun w hst => z)) (ws_q (v := v652) 11 [9, 10, 12, 13, 14, 15, 16] (by kernel_rfl) z z (yi_run ((wanted_eq z z z (cvb hc1024)).trans z) (fun w hst => z)) ?_)
 refine ws_e1 9 (by kernel_rfl) ?_
 refine nxe [10, 12, 13, 14, 15, 16] (by kernel_rfl) z ((wanted_eq z z z (cvb hc1024)).trans z) ?_
 clear hst
 intro w hst
 obtain ⟨t1025, ht1026, hm⟩ := bind_some hm
 refine wec call30 [v786] z z ?_
 refine (locks_Table_Encode_ref hst.to1 ht1026).mono ?_
 rintro _ w1027 ⟨v1030, rfl, hst⟩
 refine ⟨_, z, ?_⟩
 replace hst := hst.of2
 refine ws_next (pend' := [(11, v652)]) hst (by kernel_rfl) (pk_cons z (yi_run ((wanted_eq z z z (cvb hc1024)).trans z) (fun w hst => z)) pk_nil) ?_
 refine ws_q (v := .string (toStr t1025)) 10 [12, 13, 14, 15, 16] (by kernel_rfl) z z (yi_run ((wanted_eq z z z (cvb hc1024)).trans z) (fun w hst => x_tostr underlying32 underlying9 underlying5 z hst.src0)) ?_
 refine ws_e1 12 (by kernel_rfl) ?_
 refine nxe [13, 14, 15, 16] (by kernel_rfl) z ((wanted_eq z z z (cvb hc1024)).trans z) ?_
 clear hst
 intro w hst
 replace hst := hst.pull2
 replace hst := objO_some hst
 obtain ⟨t1032, ht1033, hm⟩ := bind_some hm
 refine wec call30 [v652] z z ?_
 refine (locks_Table_Encode_ref hst.to1 ht1033).mono ?_
 rintro _ w1034 ⟨v1037, rfl, hst⟩
 refine ⟨_, z, ?_⟩
 replace hst := hst.of2.pull1
 replace hst := objO_get hst
 refine ws_next (pend' := [(10, .string (toStr t1025))]) hst (by kernel_rfl) (pk_cons z (yi_run ((wanted_eq z z z (cvb hc1024)).trans z) (fun w hst => x_tostr underlying32 underlying9 underlying5 z hst.src2)) pk_nil) ?_
 refine ws_q (v := .string (toStr t1032)) 13 [14, 15, 16] (by kernel_rfl) z z (yi_run ((wanted_eq z z z (cvb hc1024)).trans z) (fun w hst => x_tostr underlying32 underlying9 underlying5 z hst.src1)) (ws_q (v := .bool (sEq (toStr t1025) (toStr t1032))) 14 [15, 16] (by kernel_rfl) z z (yi_run ((wanted_eq z z z (cvb hc1024)).trans z) (fun w hst => by kernel_rfl)) (wsr (.bool (sEq (toStr t1025) (toStr t1032))) 15 z z z (by kernel_rfl) (fun w hst => x_pick_t hc1024 z z) (wsr (.bool (sEq (toStr t1025) (toStr t1032))) 16 z z z (by kernel_rfl) (fun w hst => z) ?_)))
 refine ws_nil ?_
 intro w hst
 refine tn (wp_ret ?_)
 obtain rfl := some_inj hm
 refine post_ret (vs := [.bool (sEq (toStr t1025) (toStr t1032))]) results8 (rvs_cons (rv_tmp z) rvs_nil) ?_
 exact ⟨_, z, hI0, hst.keep0⟩
}
 {
 replace hm := bif_f hc1024 hm
 refine ws_q (v := undef) 8 [9, 10, 11, 12, 13, 14, 15, 16] (by kernel_rfl) z z (yi_off ((wanted_eq z z z (cvb hc1024)).trans z)) (ws_q (v := undef) 9 [10, 11, 12, 13, 14, 15, 16] (by kernel_rfl) z z (yi_off ((wanted_eq z z z (cvb hc1024)).trans z)) (ws_q (v := undef) 10 [11, 12, 13, 14, 15, 16] (by kernel_rfl) z z (yi_off ((wanted_eq z z z (cvb hc1024)).trans z)) (ws_q (v := undef) 11 [12, 13, 14, 15, 16] (by kernel_rfl) z z (yi_off ((wanted_eq z z z (cvb hc1024)).trans z)) (ws_q (v := undef) 12 [13, 14, 15, 16] (by kernel_rfl) z z (yi_off ((wanted_eq z z z (cvb hc1024)).trans z)) (ws_q (v := undef) 13 [14, 15, 16] (by kernel_rfl) z z (yi_off ((wanted_eq z z z (cvb hc1024)).trans z)) (ws_q (v := undef) 14 [15, 16] (by kernel_rfl) z z (yi_off ((wanted_eq z z z (cvb hc1024)).trans z)) (wsr (.bool false) 15 z z z (by kernel_rfl) (fun w hst => x_pick_f hc1024 z z) (wsr (.bool false) 16 z z z (by kernel_rfl) (fun w hst => z) ?_))))))))
 refine ws_nil ?_
 intro w hst
 refine tn (wp_ret ?_)
 obtain rfl := some_inj hm
 refine post_ret (vs := [.bool false]) results8 (rvs_cons (rv_tmp z) rvs_nil) ?_
 exact ⟨_, z, hI0, hst.keep0⟩
}
}
 {
 replace hm := bif_f hc1015 hm
 refine ws_q (v := undef) 3 [4, 5, 6, 7, 8, 9, 10, 11, 12, 13, 14, 15, 16] (by kernel_rfl) z z (yi_off ((wanted_eq z z z (cvb hc1015)).trans z)) (ws_q (v := undef) 4 [5, 6, 7, 8, 9, 10, 11, 12, 13, 14, 15, 16] (by kernel_rfl) z z (yi_off ((wanted_eq z z z (cvb hc1015)).trans z)) (ws_q (v := undef) 5 [6, 7, 8, 9, 10, 11, 12, 13, 14, 15, 16] (by kernel_rfl) z z (yi_off ((wanted_eq z z z (cvb hc1015)).trans z)) (wsr (.bool false) 6 z z z (by kernel_rfl) (fun w hst => x_pick_f hc1015 z z) (wsr (.bool false) 7 z z z (by kernel_rfl) (fun w hst => z) (ws_q (v := undef) 8 [9, 10, 11, 12, 13, 14, 15, 16] (by kernel_rfl) z z (yi_off ((wanted_eq z z z z).trans z)) (ws_q (v := undef) 9 [10, 11, 12, 13, 14, 15, 16] (by kernel_rfl) z z (yi_off ((wanted_eq z z z z).trans z)) (ws_q (v := undef) 10 [11, 12, 13, 14, 15, 16] (by kernel_rfl) z z (yi_off ((wanted_eq z z z z).trans z)) (ws_q (v := undef) 11 [12, 13, 14, 15, 16] (by kernel_rfl) z z (yi_off ((wanted_eq z z z z).trans z)) (ws_q (v := undef) 12 [13, 14, 15, 16] (by kernel_rfl) z z (yi_off ((wanted_eq z z z z).trans z)) (ws_q (v := undef) 13 [14, 15, 16] (by kernel_rfl) z z (yi_off ((wanted_eq z z z z).trans z)) (ws_q (v := undef) 14 [15, 16] (by kernel_rfl) z z (yi_off ((wanted_eq z z z z).trans z)) (wsr (.bool false) 15 z z z (by kernel_rfl) (fun w hst => x_pick_f z z z) ?_))))))))))))
 refine wsr (.bool false) 16 z z z (by kernel_rfl) (fun w hst => z) ?_
 refine ws_nil ?_
 intro w hst
 refine tn (wp_ret ?_)
 obtain rfl := some_inj hm
 refine post_ret (vs := [.bool false]) results8 (rvs_cons (rv_tmp z) rvs_nil) ?_
 exact ⟨_, z, hI0, hst.keep0⟩
}
}
}
}
}
}
}
}
}
}

end Go.Proofs.Ytbdhhmnncknhhaa
