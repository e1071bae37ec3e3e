/- The Go functions refine their models, part 2. -/
import Derived.Test.YtkfifhkjdibadaaSessionBytesR1
set_option linter.unusedVariables false
set_option linter.unusedSimpArgs false
set_option maxRecDepth 100000
set_option maxHeartbeats 4000000
namespace Go.Proofs.Ytkfifhkjdibadaa
open Go Go.V
open _root_.Go.Proofs.Try IntKind
attribute [local irreducible] wpList Code.wp wpQuiet Calls bodyPost Oper.wp wpS Nx PendOK YieldsIn
theorem law14_SessionBytes_ref {w0 w : World} {I : HL} {R : SP} {a0 : (List Int)} {r0_0 : Value} (f0_0 : Ro (tyInt .u8) I r0_0 a0) (hst : St w0 w I [] R) {r : (Bool)} (hm : law14_SessionBytes a0 = some r) :
  Calls prog 6 #[r0_0] w fun e w' => ∃ (I' : HL), e = .returned (.bool r) ∧ I.le I' ∧ St w0 w' I' [] R := by {
 unfold law14_SessionBytes at hm
 refine calls_start (args := [r0_0]) func6 z ntmps6 (Nat.le_of_ble_eq_true z) ?_
 have hI0 := HL.le.refl I
 refine wp_seq (wrl (wv (.bool false) z z z (wl_nil (tn (wp_seq (wp_seq (wrl ?_)))))))
 obtain ⟨t497, ht498, hm⟩ := bind_some hm
 refine wc call7 [] z z z ?_
 refine (law14_awake_ref hst.to0 ht498).mono ?_
 rintro _ w499 ⟨I500, rfl, hI501, hst⟩
 refine ⟨_, z, ?_⟩
 replace hst := hst.of0
 replace f0_0 := f0_0.mono (ro_le hI501)
 replace hI0 := hI0.trans hI501
 refine wv (.bool (!t497)) z z z (wv (.bool (!t497)) z z z ?_)
 refine bsplit (!t497) (fun hc502 => ?_) (fun hc502 => ?_)
 {
 replace hm := bif_t hc502 hm
 refine wo hc502 z z z z z z (wo hc502 z z z z z z (wo hc502 z z z z z z (wv (.bool true) z z (x_pick_t hc502 z z) (wl_nil (tn ?_)))))
 refine wp_ift z ?_
 refine wp_seq (wrl ?_)
 obtain ⟨t503, ht504, hm⟩ := bind_some hm
 refine wc call7 [] z z z ?_
 refine (law14_awake_ref hst.to0 ht504).mono ?_
 rintro _ w505 ⟨I506, rfl, hI507, hst⟩
 refine ⟨_, z, ?_⟩
 replace hst := hst.of0
 replace f0_0 := f0_0.mono (ro_le hI507)
 replace hI0 := hI0.trans hI507
 refine wv (.bool t503) z z z (wl_nil (tn (wp_ret (then_r ?_))))
 obtain rfl := some_inj hm
 refine post_ret (vs := [.bool t503]) results6 (rvs_cons (rv_tmp z) rvs_nil) ?_
 exact ⟨_, z, hI0, hst.keep0⟩
}
 {
 replace hm := bif_f hc502 hm
 refine wv (r0_0) ((wanted_eq z z z (cvb hc502)).trans z) z z (wv (.int .i64 ((a0).length : Int)) ((wanted_eq z z z (cvb hc502)).trans z) z (x_len z underlying22 (ro_sliceV f0_0)) (wv (.bool (decide (((a0).length : Int) > (400:Int)))) ((wanted_eq z z z (cvb hc502)).trans z) z z (wv (.bool (decide (((a0).length : Int) > (400:Int)))) z z (x_pick_f hc502 z z) (wl_nil (tn ?_)))))
 refine bsplit (decide (((a0).length : Int) > (400:Int))) (fun hc508 => ?_) (fun hc508 => ?_)
 {
 replace hm := bif_t hc508 hm
 refine wp_ift (cvb hc508) ?_
 refine wp_seq (wrl ?_)
 obtain ⟨t509, ht510, hm⟩ := bind_some hm
 refine wc call7 [] z z z ?_
 refine (law14_awake_ref hst.to0 ht510).mono ?_
 rintro _ w511 ⟨I512, rfl, hI513, hst⟩
 refine ⟨_, z, ?_⟩
 replace hst := hst.of0
 replace f0_0 := f0_0.mono (ro_le hI513)
 replace hI0 := hI0.trans hI513
 refine wv (.bool t509) z z z (wl_nil (tn (wp_ret (then_r ?_))))
 obtain rfl := some_inj hm
 refine post_ret (vs := [.bool t509]) results6 (rvs_cons (rv_tmp z) rvs_nil) ?_
 exact ⟨_, z, hI0, hst.keep0⟩
}
 {
 replace hm := bif_f hc508 hm
 refine wp_iff (cvb hc508) ?_
 refine wp_skip (tn (wp_seq (wrl ?_)))
 refine wv (r0_0) z z z (wv (.agg #[r0_0, Zi]) z z (by obtain ⟨_, _, hv_, _⟩ := (ro_sliceV f0_0); rw [hv_]; kernel_rfl) ?_)
 obtain ⟨b515, w516, ew517, eb518, hst⟩ := hst.box [r0_0, Zi] 26
 refine wl_run (v := Pt b515 0) (w' := w516) z z (x_al (by kernel_rfl) ew517 eb518) ?_
 refine wv (Pt b515 0) z z z (wl_nil (tn (wp_seq (wrl ?_))))
 obtain ⟨t520, ht521, hm⟩ := bind_some hm
 refine wc call8 [] z z z ?_
 refine (session_New_ref hst.to0 ht521).mono ?_
 rintro _ w522 ⟨v525, rfl, hst⟩
 refine ⟨_, z, ?_⟩
 replace hst := hst.of1
 refine wv (v525) z z z (wl_nil (tn (wp_seq (wrl (wv ((.slice none 0 0)) z z z (wl_nil (tn ?_)))))))
 obtain ⟨y982, hm, hx983⟩ := joinO_some hm
 refine wp_cut (fun a w => ∃ (I979 : HL) (z974 : (Option session_Table)) (z977 : (List ref11_Answer)) (v973 : Value) (v976 : Value) (σ980 : Nat → Value), (law14_SessionBytes_j0) (z974, z977) = some r ∧ a = Fr 72 (upd (upd σ980 4 (v973)) 5 (v976)) ∧ I500.le I979 ∧ Ro ty_ref11_Answer I979 v976 z977 ∧ St w0 w I979 [objO at_session_Table v973 z974] R) ?_ ?_
 {
 have hL984 := HL.le.refl I500
 refine wp_seq (wrl (wv (.int .i64 (0:Int)) z z z (wl_nil (tn (wp_block ?_)))))
 replace hst := hst.pull1
 replace hst := at_ref12_Tape_close (pv := Pt b515 0) (x := ({ L := a0, I := (0:Int) } : ref12_Tape)) hst ⟨z, f0_0⟩
 replace hst := hst.pull1
 replace hst := objO_some hst
 have f696 : Ro ty_ref11_Answer I500 (.slice none 0 0) [] := ro_nil
 obtain ⟨n883, hm⟩ := loopO_some hm
 refine wp_loop_n (fun n a w => ∃ (I881 : HL) (z871 : ref12_Tape) (z872 : (Option session_Table)) (z873 : (Option session_Table)) (z876 : (List ref11_Answer)) (z880 : Int) (v874 : Value) (v877 : Value) (σ882 : Nat → Value), loopN (law14_SessionBytes_l1) n (z871, z872, z873, z876, z880) = some y982 ∧ a = Fr 72 (upd (upd (upd (upd σ882 3 (Pt b515 0)) 4 (v874)) 5 (v877)) 6 (.int .i64 z880)) ∧ I500.le I881 ∧ Ro ty_ref11_Answer I881 v877 z876 ∧ St w0 w I881 [objO at_session_Table v874 z873, at_ref12_Tape (Pt b515 0) z871] R) n883 ⟨_, ({ L := a0, I := (0:Int) } : ref12_Tape), (some t520), (some t520), [], (0:Int), v525, Zs, _, hm, (fu 3 (Pt b515 0) z (fu 4 v525 z (fu 5 (.slice none 0 0) z (fu 6 (.int .i64 (0:Int)) z z)))), (HL.le.refl _), f696, hst⟩ ?_
 rintro n889 _ w884 ⟨I881, z871, z872, z873, z876, z880, v874, v877, σ882, hm, rfl, hL885, f879, hst⟩
 obtain ⟨n886, y887, rfl, hm, hx888⟩ := loopN_some hm
 dsimp only [law14_SessionBytes_l1] at hm
 replace f0_0 := f0_0.mono (ro_le hL885)
 replace f696 := f696.mono (ro_le hL885)
 replace hI0 := hI0.trans hL885
 replace hL984 := hL984.trans hL885
 refine wp_seq (wp_seq (wrl (wv (.int .i64 z880) z z z (wv (.bool (decide (z880 < (16:Int)))) z z z (wl_nil (tn ?_))))))
 refine bsplit (decide (z880 < (16:Int))) (fun hc890 => ?_) (fun hc890 => ?_)
 {
 replace hm := bif_t hc890 hm
 refine wp_ift (cvb hc890) ?_
 refine wp_skip (tn (wp_seq (wp_block (wp_seq (wrl ?_)))))
 refine wv (Pt b515 0) z z z ?_
 replace hst := hst.pull1
 obtain ⟨t891, ht892, hm⟩ := bind_some hm
 refine wc call9 [Pt b515 0, I6 (6:Int)] z z z ?_
 refine (ref12_Tape_Next_ref hst.to1 ht892).mono ?_
 rintro _ w893 ⟨rfl, hst⟩
 refine ⟨_, z, ?_⟩
 replace hst := hst.of1
 refine wv (.int .u64 (u64.wrap t891.1)) z z (by kernel_rfl) (wv (.int .u64 (u64.wrap t891.1)) z z z (wl_nil (tn (wp_seq (wrl (wv (Pt b515 0) z z z ?_))))))
 obtain ⟨t896, ht897, hm⟩ := bind_some hm
 refine wc call9 [Pt b515 0, I6 (7:Int)] z z z ?_
 refine (ref12_Tape_Next_ref hst.to1 ht897).mono ?_
 rintro _ w898 ⟨rfl, hst⟩
 refine ⟨_, z, ?_⟩
 replace hst := hst.of1
 refine wv (.int .u64 (u64.wrap t896.1)) z z (by kernel_rfl) (wv (.int .u64 (u64.wrap t896.1)) z z z (wl_nil (tn (wp_seq (wrl (wv (Pt b515 0) z z z ?_))))))
 obtain ⟨t901, ht902, hm⟩ := bind_some hm
 refine wc call10 [Pt b515 0] z z z ?_
 refine (ref13_OfReply_ref hst.to1 ht902).mono ?_
 rintro _ w903 ⟨I904, v906, v908, rfl, hI905, hst⟩
 refine ⟨_, z, ?_⟩
 replace hst := hst.of3
 replace f0_0 := f0_0.mono (ro_le hI905)
 replace f696 := f696.mono (ro_le hI905)
 replace f879 := f879.mono (ro_le hI905)
 replace hI0 := hI0.trans hI905
 replace hL984 := hL984.trans hI905
 replace hL885 := hL885.trans hI905
 obtain ⟨b912, w913, ew914, eb915, hst⟩ := hst.box [Zi, Zu, Zu, Zs, Zs] 36
 refine wl_run (v := Pt b912 0) (w' := w913) z z (x_al (by kernel_rfl) ew914 eb915) ?_
 obtain ⟨w917, hr918, hst⟩ := hst.bx [I6 t901.1.E, U6 t901.1.Epoch, U6 t901.1.Index, v906, v908] sizeOf36 z (oC z (oC z (oC z (oC (one_of_sliceV hst.sv1) (oC (one_of_sliceV hst.sv2) oN))))) (by kernel_rfl)
 refine wl_unit z z (x_unit hr918) ?_
 refine wl_nil (tn (wp_seq (wrl (wv (v877) z z z (wv (.int .u64 (u64.wrap t891.1)) z z z (wv (.int .u64 (u64.wrap t896.1)) z z z (wv (.agg #[I6 t901.1.E, U6 t901.1.Epoch, U6 t901.1.Index, v906, v908]) z z (x_loadN (cs := [I6 t901.1.E, U6 t901.1.Epoch, U6 t901.1.Index, v906, v908]) z isAgg36 sizeOf36 (hst.bcs0 0 z)) ?_)))))))
 replace hst := hst.pull1
 obtain ⟨I919, hI920, f921, hst⟩ := hst.own_fix
 replace f0_0 := f0_0.mono (ro_le hI920)
 replace f696 := f696.mono (ro_le hI920)
 replace f879 := f879.mono (ro_le hI920)
 replace hI0 := hI0.trans hI920
 replace hL984 := hL984.trans hI920
 replace hL885 := hL885.trans hI920
 replace hst := hst.pull1
 obtain ⟨I922, hI923, f924, hst⟩ := hst.own_fix
 replace f0_0 := f0_0.mono (ro_le hI923)
 replace f696 := f696.mono (ro_le hI923)
 replace f879 := f879.mono (ro_le hI923)
 replace f921 := f921.mono (ro_le hI923)
 replace hI0 := hI0.trans hI923
 replace hL984 := hL984.trans hI923
 replace hL885 := hL885.trans hI923
 obtain ⟨t925, ht926, hm⟩ := bind_some hm
 refine wc call11 [v877, U6 (u64.wrap t891.1), U6 (u64.wrap t896.1), .agg #[I6 t901.1.E, U6 t901.1.Epoch, U6 t901.1.Index, v906, v908]] z z z ?_
 refine (ref11_Tell_ref f879 f921 f924 hst.to0 ht926).mono ?_
 rintro _ w927 ⟨I928, v930, rfl, hI929, f932, hst⟩
 refine ⟨_, z, ?_⟩
 replace hst := hst.of0
 replace f0_0 := f0_0.mono (ro_le hI929)
 replace f696 := f696.mono (ro_le hI929)
 replace f879 := f879.mono (ro_le hI929)
 replace f921 := f921.mono (ro_le hI929)
 replace f924 := f924.mono (ro_le hI929)
 replace hI0 := hI0.trans hI929
 replace hL984 := hL984.trans hI929
 replace hL885 := hL885.trans hI929
 refine wv (.tuple #[v930, I6 t925.2]) z z z (wv (v930) z z z (wv (.int .i64 t925.2) z z z (wv (v930) z z z (wl_nil (tn (wp_seq (wrl (wv (v874) z z z (wv (.int .u64 (u64.wrap t891.1)) z z z (wv (.int .u64 (u64.wrap t896.1)) z z z (wv (.agg #[I6 t901.1.E, U6 t901.1.Epoch, U6 t901.1.Index, v906, v908]) z z (x_loadN (cs := [I6 t901.1.E, U6 t901.1.Epoch, U6 t901.1.Index, v906, v908]) z isAgg36 sizeOf36 (hst.bcs0 0 z)) ?_)))))))))))
 replace hst := hst.pull2
 obtain ⟨t933, ht934, hm⟩ := bind_some hm
 refine wc call12 [v874, U6 (u64.wrap t891.1), U6 (u64.wrap t896.1), .agg #[I6 t901.1.E, U6 t901.1.Epoch, U6 t901.1.Index, v906, v908]] z z z ?_
 refine (session_Table_Put_ref f921 f924 hst.to1 ht934).mono ?_
 rintro _ w935 ⟨rfl, hst⟩
 refine ⟨_, z, ?_⟩
 replace hst := hst.of1
 refine wl_nil (tn (wp_seq (wrl (wv (.int .i64 z880) z z z (wv (.bool (z880 == (8:Int))) z z z (wl_nil (tn ?_)))))))
 refine bsplit (z880 == (8:Int)) (fun hc938 => ?_) (fun hc938 => ?_)
 {
 replace hm := bif_t hc938 hm
 refine wp_ift (cvb hc938) ?_
 refine wp_seq (wrl (wv (v874) z z z ?_))
 obtain ⟨t939, ht940, hm⟩ := bind_some hm
 refine wc call19 [v874] z z z ?_
 refine (session_Table_Encode_ref hst.to1 ht940).mono ?_
 rintro _ w941 ⟨v944, rfl, hst⟩
 refine ⟨_, z, ?_⟩
 replace hst := hst.of2
 obtain ⟨I946, hI947, f948, hst⟩ := hst.own_fix
 replace f0_0 := f0_0.mono (ro_le hI947)
 replace f696 := f696.mono (ro_le hI947)
 replace f879 := f879.mono (ro_le hI947)
 replace f921 := f921.mono (ro_le hI947)
 replace f924 := f924.mono (ro_le hI947)
 replace f932 := f932.mono (ro_le hI947)
 replace hI0 := hI0.trans hI947
 replace hL984 := hL984.trans hI947
 replace hL885 := hL885.trans hI947
 obtain ⟨t949, ht950, hm⟩ := bind_some hm
 refine wc call18 [v944] z z z ?_
 refine (session_Decode_ref f948 hst.to0 ht950).mono ?_
 rintro _ w951 ⟨I952, v954, rfl, hI953, hst⟩
 refine ⟨_, z, ?_⟩
 replace hst := hst.of1
 replace f0_0 := f0_0.mono (ro_le hI953)
 replace f696 := f696.mono (ro_le hI953)
 replace f879 := f879.mono (ro_le hI953)
 replace f921 := f921.mono (ro_le hI953)
 replace f924 := f924.mono (ro_le hI953)
 replace f932 := f932.mono (ro_le hI953)
 replace f948 := f948.mono (ro_le hI953)
 replace hI0 := hI0.trans hI953
 replace hL984 := hL984.trans hI953
 replace hL885 := hL885.trans hI953
 refine wv (.tuple #[v954, I6 t949.2]) z z z (wv (v954) z z z (wv (.int .i64 t949.2) z z z (wv (v954) z z z (wv (.int .i64 t949.2) z z z (wl_nil (tn (wp_seq (wp_seq ?_))))))))
 refine wp_region_St hst 11 [0, 1, 2, 3, 4, 5, 6, 7, 8, 9, 10] [0, 1, 3, 7, 15, 31, 7, 95, 223, 511, 1023] [] z (by kernel_rfl) (by kernel_rfl) Try.mixed (by kernel_rfl) ?_
 refine wsr (.int .i64 t949.2) 0 z z z (by kernel_rfl) (fun w hst => z) (wsr (.bool (t949.2 != (0:Int))) 1 z z z (by kernel_rfl) (fun w hst => z) (wsr (.bool (t949.2 != (0:Int))) 2 z z z (by kernel_rfl) (fun w hst => z) ?_))
 refine bsplit (t949.2 != (0:Int)) (fun hc956 => ?_) (fun hc956 => ?_)
 {
 replace hm := bif_t hc956 hm
 refine ws_q (v := undef) 3 [4, 5, 6, 7, 8, 9, 10] (by kernel_rfl) z z (yi_off ((wanted_eq z z z (cvb hc956)).trans z)) (ws_q (v := undef) 4 [5, 6, 7, 8, 9, 10] (by kernel_rfl) z z (yi_off ((wanted_eq z z z (cvb hc956)).trans z)) (ws_q (v := undef) 5 [6, 7, 8, 9, 10] (by kernel_rfl) z z (yi_off ((wanted_eq z z z (cvb hc956)).trans z)) (ws_q (v := undef) 6 [7, 8, 9, 10] (by kernel_rfl) z z (yi_off ((wanted_eq z z z (cvb hc956)).trans z)) (ws_q (v := undef) 7 [8, 9, 10] (by kernel_rfl) z z (yi_off ((wanted_eq z z z (cvb hc956)).trans z)) (ws_q (v := undef) 8 [9, 10] (by kernel_rfl) z z (yi_off ((wanted_eq z z z (cvb hc956)).trans z)) (ws_q (v := undef) 9 [10] (by kernel_rfl) z z (yi_off ((wanted_eq z z z (cvb hc956)).trans z)) (wsr (.bool true) 10 z z z (by kernel_rfl) (fun w hst => x_pick_t hc956 z z) ?_)))))))
 refine ws_nil ?_
 intro w hst
 refine tn ?_
 refine wp_ift z ?_
 refine wp_seq (wrl (wv (.bool false) z z z (wl_nil (tn (wp_ret (then_r (blk_r (then_r (then_r ?_)))))))))
 replace hm := inr_up hm hx888
 refine blk_r (then_r ?_)
 replace hm := inr_up hm hx983
 obtain rfl := some_inj hm
 refine post_ret (vs := [.bool false]) results6 (rvs_cons (rv_tmp z) rvs_nil) ?_
 exact ⟨_, z, hI0, hst.keep0⟩
}
 {
 replace hm := bif_f hc956 hm
 refine ws_q (v := v954) 3 [4, 5, 6, 7, 8, 9, 10] (by kernel_rfl) z z (yi_run ((wanted_eq z z z (cvb hc956)).trans z) (fun w hst => z)) (ws_q (v := v874) 6 [4, 5, 7, 8, 9, 10] (by kernel_rfl) z z (yi_run ((wanted_eq z z z (cvb hc956)).trans z) (fun w hst => z)) ?_)
 refine ws_e1 4 (by kernel_rfl) ?_
 refine nxe [5, 7, 8, 9, 10] (by kernel_rfl) z ((wanted_eq z z z (cvb hc956)).trans z) ?_
 clear hst
 intro w hst
 obtain ⟨t957, ht958, hm⟩ := bind_some hm
 refine wec call19 [v954] z z ?_
 refine (session_Table_Encode_ref hst.to1 ht958).mono ?_
 rintro _ w959 ⟨v962, rfl, hst⟩
 refine ⟨_, z, ?_⟩
 replace hst := hst.of2
 refine ws_next (pend' := [(6, v874)]) hst (by kernel_rfl) (pk_cons z (yi_run ((wanted_eq z z z (cvb hc956)).trans z) (fun w hst => z)) pk_nil) ?_
 refine ws_q (v := .string (toStr t957)) 5 [7, 8, 9, 10] (by kernel_rfl) z z (yi_run ((wanted_eq z z z (cvb hc956)).trans z) (fun w hst => x_tostr underlying22 underlying9 underlying5 z hst.src0)) ?_
 refine ws_e1 7 (by kernel_rfl) ?_
 refine nxe [8, 9, 10] (by kernel_rfl) z ((wanted_eq z z z (cvb hc956)).trans z) ?_
 clear hst
 intro w hst
 replace hst := hst.pull2
 obtain ⟨t964, ht965, hm⟩ := bind_some hm
 refine wec call19 [v874] z z ?_
 refine (session_Table_Encode_ref hst.to1 ht965).mono ?_
 rintro _ w966 ⟨v969, rfl, hst⟩
 refine ⟨_, z, ?_⟩
 replace hst := hst.of2
 refine ws_next (pend' := [(5, .string (toStr t957))]) hst (by kernel_rfl) (pk_cons z (yi_run ((wanted_eq z z z (cvb hc956)).trans z) (fun w hst => x_tostr underlying22 underlying9 underlying5 z hst.src2)) pk_nil) ?_
 refine ws_q (v := .string (toStr t964)) 8 [9, 10] (by kernel_rfl) z z (yi_run ((wanted_eq z z z (cvb hc956)).trans z) (fun w hst => x_tostr underlying22 underlying9 underlying5 z hst.src0)) (ws_q (v := .bool (!(sEq (toStr t957) (toStr t964)))) 9 [10] (by kernel_rfl) z z (yi_run ((wanted_eq z z z (cvb hc956)).trans z) (fun w hst => by kernel_rfl)) (wsr (.bool (!(sEq (toStr t957) (toStr t964)))) 10 z z z (by kernel_rfl) (fun w hst => x_pick_f hc956 z z) ?_))
 refine ws_nil ?_
 intro w hst
 refine tn ?_
 refine bsplit (!(sEq (toStr t957) (toStr t964))) (fun hc971 => ?_) (fun hc971 => ?_)
 {
 replace hm := bif_t hc971 hm
 refine wp_ift (cvb hc971) ?_
 refine wp_seq (wrl (wv (.bool false) z z z (wl_nil (tn (wp_ret (then_r (blk_r (then_r (then_r ?_)))))))))
 replace hm := inr_up hm hx888
 refine blk_r (then_r ?_)
 replace hm := inr_up hm hx983
 obtain rfl := some_inj hm
 refine post_ret (vs := [.bool false]) results6 (rvs_cons (rv_tmp z) rvs_nil) ?_
 exact ⟨_, z, hI0, hst.keep0⟩
}
 {
 replace hm := bif_f hc971 hm
 refine wp_iff (cvb hc971) ?_
 refine wp_skip (tn (wrl ?_))
 refine wv (v954) z z z (wv (v954) z z z (wl_nil (blk_n (tn (wrl (wv (.int .i64 z880) z z z (wv (.int .i64 (i64.wrap (z880 + (1:Int)))) z z z (wv (.int .i64 (i64.wrap (z880 + (1:Int)))) z z z (wl_nil (tn ?_))))))))))
 replace hst := hst.pull5.pull4.keep2
 obtain rfl := some_inj hm
 exact ⟨_, Nat.lt_succ_self _, _, t901.2, z872, t949.1, t925.1, (i64.wrap (z880 + (1:Int))), v954, v930, _, hx888, (fu 3 (Pt b515 0) z (fu 4 v954 z (fu 5 v930 z (fu 6 (.int .i64 (i64.wrap (z880 + (1:Int)))) z z)))), hL885, f932, hst⟩
}
}
}
 {
 replace hm := bif_f hc938 hm
 refine wp_iff (cvb hc938) ?_
 refine wp_skip (blk_n (tn (wrl ?_)))
 refine wv (.int .i64 z880) z z z (wv (.int .i64 (i64.wrap (z880 + (1:Int)))) z z z (wv (.int .i64 (i64.wrap (z880 + (1:Int)))) z z z (wl_nil (tn ?_))))
 replace hst := hst.pull2.pull1.keep2
 obtain rfl := some_inj hm
 exact ⟨_, Nat.lt_succ_self _, _, t901.2, z872, t933.2, t925.1, (i64.wrap (z880 + (1:Int))), v874, v930, _, hx888, (fu 3 (Pt b515 0) z (fu 4 v874 z (fu 5 v930 z (fu 6 (.int .i64 (i64.wrap (z880 + (1:Int)))) z z)))), hL885, f932, hst⟩
}
}
 {
 replace hm := bif_f hc890 hm
 refine wp_iff (cvb hc890) ?_
 refine wp_exit (then_x (then_x ?_))
 replace hm := inr_up hm hx888
 refine blk_x (tn ?_)
 replace hst := hst.keep1
 obtain rfl := some_inj hm
 exact ⟨_, z873, z876, v874, v877, _, hx983, (fu 4 v874 z (fu 5 v877 z z)), hL984, f879, hst⟩
}
}
 {
 clear hst
 rintro _ w985 ⟨I979, z974, z977, v973, v976, σ980, hm, rfl, hL981, f978, hst⟩
 dsimp only [law14_SessionBytes_j0] at hm
 replace f0_0 := f0_0.mono (ro_le hL981)
 replace hI0 := hI0.trans hL981
 refine wp_seq (wrl (wv (v973) z z z (wv (v976) z z z ?_)))
 obtain ⟨t986, ht987, hm⟩ := bind_some hm
 refine wc call13 [v973, v976] z z z ?_
 refine (law14_told_ref f978 hst.to1 ht987).mono ?_
 rintro _ w988 ⟨I989, rfl, hI990, hst⟩
 refine ⟨_, z, ?_⟩
 replace hst := hst.of1
 replace f0_0 := f0_0.mono (ro_le hI990)
 replace f978 := f978.mono (ro_le hI990)
 replace hI0 := hI0.trans hI990
 refine wv (.bool t986) z z z (wl_nil (tn (wp_ret ?_)))
 obtain rfl := some_inj hm
 refine post_ret (vs := [.bool t986]) results6 (rvs_cons (rv_tmp z) rvs_nil) ?_
 exact ⟨_, z, hI0, hst.keep0⟩
}
}
}
}

end Go.Proofs.Ytkfifhkjdibadaa
