/- The Go functions refine their models, part 2. -/
import Derived.Test.YtbdhhmnncknhhaaLocksPlaysR1
set_option linter.unusedVariables false
set_option linter.unusedSimpArgs false
set_option maxRecDepth 100000
set_option maxHeartbeats 4000000
namespace Go.Proofs.Ytbdhhmnncknhhaa
open Go Go.V
open _root_.Go.Proofs.Try IntKind
attribute [local irreducible] wpList Code.wp wpQuiet Calls bodyPost Oper.wp wpS Nx PendOK YieldsIn
theorem law12_told_ref {w0 w : World} {I : HL} {R : SP} {a0 : (Option locks_Table)} {p0 : Value} {a1 : (List api_Hold)} {r1_0 : Value} (f1_0 : Ro ty_api_Hold I r1_0 a1) (hst : St w0 w I [objO at_locks_Table p0 a0] R) {r : (Bool)} (hm : law12_told a0 a1 = some r) :
  Calls prog 26 #[p0, r1_0] w fun e w' => ∃ (I' : HL), e = .returned (.bool r) ∧ I.le I' ∧ St w0 w' I' [objO at_locks_Table p0 a0] R := by {
 unfold law12_told at hm
 refine calls_start (args := [p0, r1_0]) func26 z ntmps26 (Nat.le_of_ble_eq_true z) ?_
 have hI0 := HL.le.refl I
 refine wp_seq (wrl (wv (.bool false) z z z (wl_nil (tn (wp_seq (wrl (wv (p0) z z z ?_)))))))
 obtain ⟨t715, ht716, hm⟩ := bind_some hm
 refine wc call13 [p0] z z z ?_
 refine (locks_Table_All_ref hst.to1 ht716).mono ?_
 rintro _ w717 ⟨v720, rfl, hst⟩
 refine ⟨_, z, ?_⟩
 replace hst := hst.of2
 refine wv (v720) z z z (wl_nil (tn (wp_seq (wp_seq (wrl (wv (p0) z z z ?_))))))
 replace hst := hst.pull1
 obtain ⟨t722, ht723, hm⟩ := bind_some hm
 refine wc call27 [p0] z z z ?_
 refine (locks_Table_Len_ref hst.to1 ht723).mono ?_
 rintro _ w724 ⟨rfl, hst⟩
 refine ⟨_, z, ?_⟩
 replace hst := hst.of1
 refine wv (r1_0) z z z (wv (.int .i64 ((a1).length : Int)) z z (x_len z underlying22 (ro_sliceV f1_0)) (wv (.bool (t722 != ((a1).length : Int))) z z z (wv (.bool (t722 != ((a1).length : Int))) z z z ?_)))
 refine bsplit (t722 != ((a1).length : Int)) (fun hc727 => ?_) (fun hc727 => ?_)
 {
 replace hm := bif_t hc727 hm
 refine wo hc727 z z z z z z (wo hc727 z z z z z z (wo hc727 z z z z z z (wo hc727 z z z z z z (wo hc727 z z z z z z (wv (.bool true) z z (x_pick_t hc727 z z) (wl_nil (tn ?_)))))))
 refine wp_ift z ?_
 refine wp_seq (wrl (wv (.bool false) z z z (wl_nil (tn (wp_ret (then_r ?_))))))
 obtain rfl := some_inj hm
 refine post_ret (vs := [.bool false]) results26 (rvs_cons (rv_tmp z) rvs_nil) ?_
 exact ⟨_, z, hI0, hst.keep1⟩
}
 {
 replace hm := bif_f hc727 hm
 refine wv (v720) ((wanted_eq z z z (cvb hc727)).trans z) z z (wv (.int .i64 ((t715).length : Int)) ((wanted_eq z z z (cvb hc727)).trans z) z (x_len z underlying37 hst.sv1) (wv (r1_0) ((wanted_eq z z z (cvb hc727)).trans z) z z (wv (.int .i64 ((a1).length : Int)) ((wanted_eq z z z (cvb hc727)).trans z) z (x_len z underlying22 (ro_sliceV f1_0)) (wv (.bool (((t715).length : Int) != ((a1).length : Int))) ((wanted_eq z z z (cvb hc727)).trans z) z z (wv (.bool (((t715).length : Int) != ((a1).length : Int))) z z (x_pick_f hc727 z z) (wl_nil (tn ?_)))))))
 refine bsplit (((t715).length : Int) != ((a1).length : Int)) (fun hc728 => ?_) (fun hc728 => ?_)
 {
 replace hm := bif_t hc728 hm
 refine wp_ift (cvb hc728) ?_
 refine wp_seq (wrl (wv (.bool false) z z z (wl_nil (tn (wp_ret (then_r ?_))))))
 obtain rfl := some_inj hm
 refine post_ret (vs := [.bool false]) results26 (rvs_cons (rv_tmp z) rvs_nil) ?_
 exact ⟨_, z, hI0, hst.keep1⟩
}
 {
 replace hm := bif_f hc728 hm
 refine wp_iff (cvb hc728) ?_
 refine wp_skip (tn ?_)
 obtain ⟨y980, hm, hx981⟩ := joinO_some hm
 refine wp_cut (fun a w => ∃ (I977 : HL) (σ978 : Nat → Value), (law12_told_j0 a1 a0) () = some r ∧ a = Fr 135 (upd (upd σ978 0 (p0)) 1 (r1_0)) ∧ I.le I977 ∧ St w0 w I977 [objO at_locks_Table p0 a0] R) ?_ ?_
 {
 have hL982 := HL.le.refl I
 refine wp_seq (wrl (wv (.int .i64 (0:Int)) z z z (wl_nil (tn (wp_block ?_)))))
 obtain ⟨n891, hm⟩ := loopO_some hm
 refine wp_loop_n (fun n a w => ∃ (I889 : HL) (z888 : Int) (σ890 : Nat → Value), loopN (law12_told_l1 t715 a0 a1) n z888 = some y980 ∧ a = Fr 135 (upd (upd (upd (upd σ890 0 (p0)) 1 (r1_0)) 5 (v720)) 6 (.int .i64 z888)) ∧ I.le I889 ∧ St w0 w I889 [objO at_locks_Table p0 a0, ownS ty_api_ID v720 t715] R) n891 ⟨_, (0:Int), _, hm, (fu 0 p0 z (fu 1 r1_0 z (fu 5 v720 z (fu 6 (.int .i64 (0:Int)) z z)))), (HL.le.refl _), hst⟩ ?_
 rintro n897 _ w892 ⟨I889, z888, σ890, hm, rfl, hL893, hst⟩
 obtain ⟨n894, y895, rfl, hm, hx896⟩ := loopN_some hm
 dsimp only [law12_told_l1] at hm
 replace f1_0 := f1_0.mono (ro_le hL893)
 replace hI0 := hI0.trans hL893
 replace hL982 := hL982.trans hL893
 refine wp_seq (wp_seq (wrl (wv (.int .i64 z888) z z z (wv (v720) z z z (wv (.int .i64 ((t715).length : Int)) z z (x_len z underlying37 hst.sv1) (wv (.bool (decide (z888 < ((t715).length : Int)))) z z z (wl_nil (tn ?_))))))))
 refine bsplit (decide (z888 < ((t715).length : Int))) (fun hc898 => ?_) (fun hc898 => ?_)
 {
 replace hm := bif_t hc898 hm
 refine wp_ift (cvb hc898) ?_
 refine wp_skip (tn (wp_seq (wp_block (wp_seq (wrl ?_)))))
 refine wv (p0) z z z (wv (v720) z z z (wv (.int .i64 z888) z z z ?_))
 obtain ⟨x899, hx900, hm⟩ := bind_some hm
 obtain ⟨h901, h902, hi903⟩ := geto_some hx900
 refine wv (.pointer (some (eAddr v720 (z888.toNat * 2 + 0)))) z z (x_index z z underlying37 sizeOf29 hst.sv1 h901 h902) (wv (.agg #[U6 x899.Session, U6 x899.Seq]) z z (x_loadN (cs := [U6 x899.Session, U6 x899.Seq]) z isAgg29 sizeOf29 (hst.olN1 hi903 0 (by rintro _ rfl; rfl))) ?_)
 obtain ⟨t904, ht905, hm⟩ := bind_some hm
 refine wc call14 [p0, .agg #[U6 x899.Session, U6 x899.Seq]] z z z ?_
 refine (locks_Table_Get_ref hst.to1 ht905).mono ?_
 rintro _ w906 ⟨I907, v909, v912, v915, v918, rfl, hI908, f911, f914, f917, f920, hst⟩
 refine ⟨_, z, ?_⟩
 replace hst := hst.of1
 replace f1_0 := f1_0.mono (ro_le hI908)
 replace hI0 := hI0.trans hI908
 replace hL982 := hL982.trans hI908
 replace hL893 := hL893.trans hI908
 refine wv (.tuple #[.agg #[U6 t904.1.ID.Session, U6 t904.1.ID.Seq, U6 t904.1.Epoch, v909, v912, v915, v918], .bool t904.2]) z z z (wv (.agg #[U6 t904.1.ID.Session, U6 t904.1.ID.Seq, U6 t904.1.Epoch, v909, v912, v915, v918]) z z z (wv (.bool t904.2) z z z ?_))
 obtain ⟨b925, w926, ew927, eb928, hst⟩ := hst.box [Zu, Zu, Zu, Zs, Zs, Zs, Zs] 34
 refine wl_run (v := Pt b925 0) (w' := w926) z z (x_al (by kernel_rfl) ew927 eb928) ?_
 obtain ⟨w930, hr931, hst⟩ := hst.bx [U6 t904.1.ID.Session, U6 t904.1.ID.Seq, U6 t904.1.Epoch, v909, v912, v915, v918] sizeOf34 z (oC z (oC z (oC z (oC (one_of_sliceV (ro_sliceV f911)) (oC (one_of_sliceV (ro_sliceV f914)) (oC (one_of_sliceV (ro_sliceV f917)) (oC (one_of_sliceV (ro_sliceV f920)) oN))))))) (by kernel_rfl)
 refine wl_unit z z (x_unit hr931) ?_
 refine wv (.bool t904.2) z z z (wl_nil (tn (wp_seq (wrl (wv (r1_0) z z z (wv (v720) z z z (wv (.int .i64 z888) z z z (wv (.pointer (some (eAddr v720 (z888.toNat * 2 + 0)))) z z (x_index z z underlying37 sizeOf29 hst.sv2 h901 h902) (wv (.agg #[U6 x899.Session, U6 x899.Seq]) z z (x_loadN (cs := [U6 x899.Session, U6 x899.Seq]) z isAgg29 sizeOf29 (hst.olN2 hi903 0 (by rintro _ rfl; rfl))) ?_)))))))))
 obtain ⟨t932, ht933, hm⟩ := bind_some hm
 refine wc call22 [r1_0, .agg #[U6 x899.Session, U6 x899.Seq]] z z z ?_
 refine (ref11_Held_ref f1_0 hst.to0 ht933).mono ?_
 rintro _ w934 ⟨I935, v937, v940, v943, v946, rfl, hI936, f939, f942, f945, f948, hst⟩
 refine ⟨_, z, ?_⟩
 replace hst := hst.of0
 replace f1_0 := f1_0.mono (ro_le hI936)
 replace f911 := f911.mono (ro_le hI936)
 replace f914 := f914.mono (ro_le hI936)
 replace f917 := f917.mono (ro_le hI936)
 replace f920 := f920.mono (ro_le hI936)
 replace hI0 := hI0.trans hI936
 replace hL982 := hL982.trans hI936
 replace hL893 := hL893.trans hI936
 refine wv (.tuple #[.agg #[U6 t932.1.ID.Session, U6 t932.1.ID.Seq, U6 t932.1.Epoch, v937, v940, v943, v946], .bool t932.2]) z z z (wv (.agg #[U6 t932.1.ID.Session, U6 t932.1.ID.Seq, U6 t932.1.Epoch, v937, v940, v943, v946]) z z z (wv (.bool t932.2) z z z ?_))
 obtain ⟨b953, w954, ew955, eb956, hst⟩ := hst.box [Zu, Zu, Zu, Zs, Zs, Zs, Zs] 34
 refine wl_run (v := Pt b953 0) (w' := w954) z z (x_al (by kernel_rfl) ew955 eb956) ?_
 obtain ⟨w958, hr959, hst⟩ := hst.bx [U6 t932.1.ID.Session, U6 t932.1.ID.Seq, U6 t932.1.Epoch, v937, v940, v943, v946] sizeOf34 z (oC z (oC z (oC z (oC (one_of_sliceV (ro_sliceV f939)) (oC (one_of_sliceV (ro_sliceV f942)) (oC (one_of_sliceV (ro_sliceV f945)) (oC (one_of_sliceV (ro_sliceV f948)) oN))))))) (by kernel_rfl)
 refine wl_unit z z (x_unit hr959) ?_
 refine wv (.bool t932.2) z z z (wl_nil (tn (wp_seq ?_)))
 refine wp_region_St hst 58 [0, 1, 2, 3, 4, 5, 6, 7, 8, 9, 10, 11, 12, 13, 14, 15, 16, 17, 18, 19, 20, 21, 22, 23, 24, 25, 26, 27, 28, 29, 30, 31, 32, 33, 34, 35, 36, 37, 38, 39, 40, 41, 42, 43, 44, 45, 46, 47, 48, 49, 50, 51, 52, 53, 54, 55, 56, 57] [0, 1, 3, 7, 15, 31, 63, 127, 127, 511, 1023, 2047, 4095, 8191, 16383, 32767, 65535, 65535, 196607, 524287, 1048575, 2097151, 65535, 65535, 12648447, 29425663, 62980095, 134217727, 268435455, 536870911, 536870911, 1610612735, 4294967295, 8589934591, 17179869183, 536870911, 536870911, 103616086015, 241055039487, 515932946431, 1099511627775, 2199023255551, 4398046511103, 4398046511103, 13194139533311, 35184372088831, 70368744177663, 140737488355327, 4398046511103, 4398046511103, 848822976643071, 1974722883485695, 4226522697170943, 9007199254740991, 18014398509481983, 36028797018963967, 72057594037927935, 144115188075855871] [] z (by kernel_rfl) (by kernel_rfl) Try.mixed (by kernel_rfl) ?_
 refine wsr (.bool t904.2) 0 z z z (by kernel_rfl) (fun w hst => z) (wsr (.bool (!t904.2)) 1 z z z (by kernel_rfl) (fun w hst => z) (wsr (.bool (!t904.2)) 2 z z z (by kernel_rfl) (fun w hst => z) ?_))
 refine bsplit (!t904.2) (fun hc960 => ?_) (fun hc960 => ?_)
 {
 replace hm := bif_t hc960 hm
 refine ws_q (v := undef) 3 [4, 5, 6, 7, 8, 9, 10, 11, 12, 13, 14, 15, 16, 17, 18, 19, 20, 21, 22, 23, 24, 25, 26, 27, 28, 29, 30, 31, 32, 33, 34, 35, 36, 37, 38, 39, 40, 41, 42, 43, 44, 45, 46, 47, 48, 49, 50, 51, 52, 53, 54, 55, 56, 57] (by kernel_rfl) z z (yi_off ((wanted_eq z z z (cvb hc960)).trans z)) (ws_q (v := undef) 4 [5, 6, 7, 8, 9, 10, 11, 12, 13, 14, 15, 16, 17, 18, 19, 20, 21, 22, 23, 24, 25, 26, 27, 28, 29, 30, 31, 32, 33, 34, 35, 36, 37, 38, 39, 40, 41, 42, 43, 44, 45, 46, 47, 48, 49, 50, 51, 52, 53, 54, 55, 56, 57] (by kernel_rfl) z z (yi_off ((wanted_eq z z z (cvb hc960)).trans z)) (wsr (.bool true) 5 z z z (by kernel_rfl) (fun w hst => x_pick_t hc960 z z) (wsr (.bool true) 6 z z z (by kernel_rfl) (fun w hst => z) (ws_q (v := undef) 7 [8, 9, 10, 11, 12, 13, 14, 15, 16, 17, 18, 19, 20, 21, 22, 23, 24, 25, 26, 27, 28, 29, 30, 31, 32, 33, 34, 35, 36, 37, 38, 39, 40, 41, 42, 43, 44, 45, 46, 47, 48, 49, 50, 51, 52, 53, 54, 55, 56, 57] (by kernel_rfl) z z (yi_off ((wanted_eq z z z z).trans z)) (ws_q (v := undef) 8 [9, 10, 11, 12, 13, 14, 15, 16, 17, 18, 19, 20, 21, 22, 23, 24, 25, 26, 27, 28, 29, 30, 31, 32, 33, 34, 35, 36, 37, 38, 39, 40, 41, 42, 43, 44, 45, 46, 47, 48, 49, 50, 51, 52, 53, 54, 55, 56, 57] (by kernel_rfl) z z (yi_off ((wanted_eq z z z z).trans z)) (ws_q (v := undef) 9 [10, 11, 12, 13, 14, 15, 16, 17, 18, 19, 20, 21, 22, 23, 24, 25, 26, 27, 28, 29, 30, 31, 32, 33, 34, 35, 36, 37, 38, 39, 40, 41, 42, 43, 44, 45, 46, 47, 48, 49, 50, 51, 52, 53, 54, 55, 56, 57] (by kernel_rfl) z z (yi_off ((wanted_eq z z z z).trans z)) (ws_q (v := undef) 10 [11, 12, 13, 14, 15, 16, 17, 18, 19, 20, 21, 22, 23, 24, 25, 26, 27, 28, 29, 30, 31, 32, 33, 34, 35, 36, 37, 38, 39, 40, 41, 42, 43, 44, 45, 46, 47, 48, 49, 50, 51, 52, 53, 54, 55, 56, 57] (by kernel_rfl) z z (yi_off ((wanted_eq z z z z).trans z)) (wsr (.bool true) 11 z z z (by kernel_rfl) (fun w hst => x_pick_t z z z) (wsr (.bool true) 12 z z z (by kernel_rfl) (fun w hst => z) (ws_q (v := undef) 13 [14, 15, 16, 17, 18, 19, 20, 21, 22, 23, 24, 25, 26, 27, 28, 29, 30, 31, 32, 33, 34, 35, 36, 37, 38, 39, 40, 41, 42, 43, 44, 45, 46, 47, 48, 49, 50, 51, 52, 53, 54, 55, 56, 57] (by kernel_rfl) z z (yi_off ((wanted_eq z z z z).trans z)) (ws_q (v := undef) 14 [15, 16, 17, 18, 19, 20, 21, 22, 23, 24, 25, 26, 27, 28, 29, 30, 31, 32, 33, 34, 35, 36, 37, 38, 39, 40, 41, 42, 43, 44, 45, 46, 47, 48, 49, 50, 51, 52, 53, 54, 55, 56, 57] (by kernel_rfl) z z (yi_off ((wanted_eq z z z z).trans z)) (ws_q (v := undef) 15 [16, 17, 18, 19, 20, 21, 22, 23, 24, 25, 26, 27, 28, 29, 30, 31, 32, 33, 34, 35, 36, 37, 38, 39, 40, 41, 42, 43, 44, 45, 46, 47, 48, 49, 50, 51, 52, 53, 54, 55, 56, 57] (by kernel_rfl) z z (yi_off ((wanted_eq z z z z).trans z)) ?_))))))))))))
 refine ws_q (v := undef) 16 [17, 18, 19, 20, 21, 22, 23, 24, 25, 26, 27, 28, 29, 30, 31, 32, 33, 34, 35, 36, 37, 38, 39, 40, 41, 42, 43, 44, 45, 46, 47, 48, 49, 50, 51, 52, 53, 54, 55, 56, 57] (by kernel_rfl) z z (yi_off (wanted_undef z z z z)) (ws_q (v := undef) 17 [18, 19, 20, 21, 22, 23, 24, 25, 26, 27, 28, 29, 30, 31, 32, 33, 34, 35, 36, 37, 38, 39, 40, 41, 42, 43, 44, 45, 46, 47, 48, 49, 50, 51, 52, 53, 54, 55, 56, 57] (by kernel_rfl) z z (yi_off (wanted_undef z z z z)) (ws_q (v := undef) 18 [19, 20, 21, 22, 23, 24, 25, 26, 27, 28, 29, 30, 31, 32, 33, 34, 35, 36, 37, 38, 39, 40, 41, 42, 43, 44, 45, 46, 47, 48, 49, 50, 51, 52, 53, 54, 55, 56, 57] (by kernel_rfl) z z (yi_off (wanted_undef z z z z)) (ws_q (v := undef) 19 [20, 21, 22, 23, 24, 25, 26, 27, 28, 29, 30, 31, 32, 33, 34, 35, 36, 37, 38, 39, 40, 41, 42, 43, 44, 45, 46, 47, 48, 49, 50, 51, 52, 53, 54, 55, 56, 57] (by kernel_rfl) z z (yi_off (wanted_undef z z z z)) (ws_q (v := undef) 20 [21, 22, 23, 24, 25, 26, 27, 28, 29, 30, 31, 32, 33, 34, 35, 36, 37, 38, 39, 40, 41, 42, 43, 44, 45, 46, 47, 48, 49, 50, 51, 52, 53, 54, 55, 56, 57] (by kernel_rfl) z z (yi_off (wanted_undef z z z z)) (ws_q (v := undef) 21 [22, 23, 24, 25, 26, 27, 28, 29, 30, 31, 32, 33, 34, 35, 36, 37, 38, 39, 40, 41, 42, 43, 44, 45, 46, 47, 48, 49, 50, 51, 52, 53, 54, 55, 56, 57] (by kernel_rfl) z z (yi_off (wanted_undef z z z z)) (ws_q (v := undef) 22 [23, 24, 25, 26, 27, 28, 29, 30, 31, 32, 33, 34, 35, 36, 37, 38, 39, 40, 41, 42, 43, 44, 45, 46, 47, 48, 49, 50, 51, 52, 53, 54, 55, 56, 57] (by kernel_rfl) z z (yi_off (wanted_undef z z z z)) (ws_q (v := undef) 23 [24, 25, 26, 27, 28, 29, 30, 31, 32, 33, 34, 35, 36, 37, 38, 39, 40, 41, 42, 43, 44, 45, 46, 47, 48, 49, 50, 51, 52, 53, 54, 55, 56, 57] (by kernel_rfl) z z (yi_off (wanted_undef z z z z)) (ws_q (v := undef) 24 [25, 26, 27, 28, 29, 30, 31, 32, 33, 34, 35, 36, 37, 38, 39, 40, 41, 42, 43, 44, 45, 46, 47, 48, 49, 50, 51, 52, 53, 54, 55, 56, 57] (by kernel_rfl) z z (yi_off (wanted_undef z z z z)) (ws_q (v := undef) 25 [26, 27, 28, 29, 30, 31, 32, 33, 34, 35, 36, 37, 38, 39, 40, 41, 42, 43, 44, 45, 46, 47, 48, 49, 50, 51, 52, 53, 54, 55, 56, 57] (by kernel_rfl) z z (yi_off (wanted_undef z z z z)) (ws_q (v := undef) 26 [27, 28, 29, 30, 31, 32, 33, 34, 35, 36, 37, 38, 39, 40, 41, 42, 43, 44, 45, 46, 47, 48, 49, 50, 51, 52, 53, 54, 55, 56, 57] (by kernel_rfl) z z (yi_off (wanted_undef z z z z)) (ws_q (v := undef) 27 [28, 29, 30, 31, 32, 33, 34, 35, 36, 37, 38, 39, 40, 41, 42, 43, 44, 45, 46, 47, 48, 49, 50, 51, 52, 53, 54, 55, 56, 57] (by kernel_rfl) z z (yi_off (wanted_undef z z z z)) (ws_q (v := undef) 28 [29, 30, 31, 32, 33, 34, 35, 36, 37, 38, 39, 40, 41, 42, 43, 44, 45, 46, 47, 48, 49, 50, 51, 52, 53, 54, 55, 56, 57] (by kernel_rfl) z z (yi_off (wanted_undef z z z z)) ?_))))))))))))
 refine ws_q (v := undef) 29 [30, 31, 32, 33, 34, 35, 36, 37, 38, 39, 40, 41, 42, 43, 44, 45, 46, 47, 48, 49, 50, 51, 52, 53, 54, 55, 56, 57] (by kernel_rfl) z z (yi_off (wanted_undef z z z z)) (ws_q (v := undef) 30 [31, 32, 33, 34, 35, 36, 37, 38, 39, 40, 41, 42, 43, 44, 45, 46, 47, 48, 49, 50, 51, 52, 53, 54, 55, 56, 57] (by kernel_rfl) z z (yi_off (wanted_undef z z z z)) (ws_q (v := undef) 31 [32, 33, 34, 35, 36, 37, 38, 39, 40, 41, 42, 43, 44, 45, 46, 47, 48, 49, 50, 51, 52, 53, 54, 55, 56, 57] (by kernel_rfl) z z (yi_off (wanted_undef z z z z)) (ws_q (v := undef) 32 [33, 34, 35, 36, 37, 38, 39, 40, 41, 42, 43, 44, 45, 46, 47, 48, 49, 50, 51, 52, 53, 54, 55, 56, 57] (by kernel_rfl) z z (yi_off (wanted_undef z z z z)) (ws_q (v := undef) 33 [34, 35, 36, 37, 38, 39, 40, 41, 42, 43, 44, 45, 46, 47, 48, 49, 50, 51, 52, 53, 54, 55, 56, 57] (by kernel_rfl) z z (yi_off (wanted_undef z z z z)) (ws_q (v := undef) 34 [35, 36, 37, 38, 39, 40, 41, 42, 43, 44, 45, 46, 47, 48, 49, 50, 51, 52, 53, 54, 55, 56, 57] (by kernel_rfl) z z (yi_off (wanted_undef z z z z)) (ws_q (v := undef) 35 [36, 37, 38, 39, 40, 41, 42, 43, 44, 45, 46, 47, 48, 49, 50, 51, 52, 53, 54, 55, 56, 57] (by kernel_rfl) z z (yi_off (wanted_undef z z z z)) (ws_q (v := undef) 36 [37, 38, 39, 40, 41, 42, 43, 44, 45, 46, 47, 48, 49, 50, 51, 52, 53, 54, 55, 56, 57] (by kernel_rfl) z z (yi_off (wanted_undef z z z z)) (ws_q (v := undef) 37 [38, 39, 40, 41, 42, 43, 44, 45, 46, 47, 48, 49, 50, 51, 52, 53, 54, 55, 56, 57] (by kernel_rfl) z z (yi_off (wanted_undef z z z z)) (ws_q (v := undef) 38 [39, 40, 41, 42, 43, 44, 45, 46, 47, 48, 49, 50, 51, 52, 53, 54, 55, 56, 57] (by kernel_rfl) z z (yi_off (wanted_undef z z z z)) (ws_q (v := undef) 39 [40, 41, 42, 43, 44, 45, 46, 47, 48, 49, 50, 51, 52, 53, 54, 55, 56, 57] (by kernel_rfl) z z (yi_off (wanted_undef z z z z)) (ws_q (v := undef) 40 [41, 42, 43, 44, 45, 46, 47, 48, 49, 50, 51, 52, 53, 54, 55, 56, 57] (by kernel_rfl) z z (yi_off (wanted_undef z z z z)) (ws_q (v := undef) 41 [42, 43, 44, 45, 46, 47, 48, 49, 50, 51, 52, 53, 54, 55, 56, 57] (by kernel_rfl) z z (yi_off (wanted_undef z z z z)) ?_))))))))))))
 refine ws_q (v := undef) 42 [43, 44, 45, 46, 47, 48, 49, 50, 51, 52, 53, 54, 55, 56, 57] (by kernel_rfl) z z (yi_off (wanted_undef z z z z)) (ws_q (v := undef) 43 [44, 45, 46, 47, 48, 49, 50, 51, 52, 53, 54, 55, 56, 57] (by kernel_rfl) z z (yi_off (wanted_undef z z z z)) (ws_q (v := undef) 44 [45, 46, 47, 48, 49, 50, 51, 52, 53, 54, 55, 56, 57] (by kernel_rfl) z z (yi_off (wanted_undef z z z z)) (ws_q (v := undef) 45 [46, 47, 48, 49, 50, 51, 52, 53, 54, 55, 56, 57] (by kernel_rfl) z z (yi_off (wanted_undef z z z z)) (ws_q (v := undef) 46 [47, 48, 49, 50, 51, 52, 53, 54, 55, 56, 57] (by kernel_rfl) z z (yi_off (wanted_undef z z z z)) (ws_q (v := undef) 47 [48, 49, 50, 51, 52, 53, 54, 55, 56, 57] (by kernel_rfl) z z (yi_off (wanted_undef z z z z)) (ws_q (v := undef) 48 [49, 50, 51, 52, 53, 54, 55, 56, 57] (by kernel_rfl) z z (yi_off (wanted_undef z z z z)) (ws_q (v := undef) 49 [50, 51, 52, 53, 54, 55, 56, 57] (by kernel_rfl) z z (yi_off (wanted_undef z z z z)) (ws_q (v := undef) 50 [51, 52, 53, 54, 55, 56, 57] (by kernel_rfl) z z (yi_off (wanted_undef z z z z)) (ws_q (v := undef) 51 [52, 53, 54, 55, 56, 57] (by kernel_rfl) z z (yi_off (wanted_undef z z z z)) (ws_q (v := undef) 52 [53, 54, 55, 56, 57] (by kernel_rfl) z z (yi_off (wanted_undef z z z z)) (ws_q (v := undef) 53 [54, 55, 56, 57] (by kernel_rfl) z z (yi_off (wanted_undef z z z z)) (ws_q (v := undef) 54 [55, 56, 57] (by kernel_rfl) z z (yi_off (wanted_undef z z z z)) ?_))))))))))))
 refine ws_q (v := undef) 55 [56, 57] (by kernel_rfl) z z (yi_off (wanted_undef z z z z)) (ws_q (v := undef) 56 [57] (by kernel_rfl) z z (yi_off ((wanted_eq z z z z).trans z)) (wsr (.bool true) 57 z z z (by kernel_rfl) (fun w hst => x_pick_t z z z) ?_))
 refine ws_nil ?_
 intro w hst
 refine tn ?_
 refine wp_ift z ?_
 refine wp_seq (wrl (wv (.bool false) z z z (wl_nil (tn (wp_ret (blk_r (then_r (then_r ?_))))))))
 replace hm := inr_up hm hx896
 refine blk_r (then_r ?_)
 replace hm := inr_up hm hx981
 obtain rfl := some_inj hm
 refine post_ret (vs := [.bool false]) results26 (rvs_cons (rv_tmp z) rvs_nil) ?_
 replace hst := hst.pull2
 exact ⟨_, z, hI0, hst.keep1⟩
}
 {
 replace hm := bif_f hc960 hm
 refine ws_q (v := .bool t932.2) 3 [4, 5, 6, 7, 8, 9, 10, 11, 12, 13, 14, 15, 16, 17, 18, 19, 20, 21, 22, 23, 24, 25, 26, 27, 28, 29, 30, 31, 32, 33, 34, 35, 36, 37, 38, 39, 40, 41, 42, 43, 44, 45, 46, 47, 48, 49, 50, 51, 52, 53, 54, 55, 56, 57] (by kernel_rfl) z z (yi_run ((wanted_eq z z z (cvb hc960)).trans z) (fun w hst => z)) (ws_q (v := .bool (!t932.2)) 4 [5, 6, 7, 8, 9, 10, 11, 12, 13, 14, 15, 16, 17, 18, 19, 20, 21, 22, 23, 24, 25, 26, 27, 28, 29, 30, 31, 32, 33, 34, 35, 36, 37, 38, 39, 40, 41, 42, 43, 44, 45, 46, 47, 48, 49, 50, 51, 52, 53, 54, 55, 56, 57] (by kernel_rfl) z z (yi_run ((wanted_eq z z z (cvb hc960)).trans z) (fun w hst => z)) (wsr (.bool (!t932.2)) 5 z z z (by kernel_rfl) (fun w hst => x_pick_f hc960 z z) (wsr (.bool (!t932.2)) 6 z z z (by kernel_rfl) (fun w hst => z) ?_)))
 refine bsplit (!t932.2) (fun hc961 => ?_) (fun hc961 => ?_)
 {
 replace hm := bif_t hc961 hm
 refine ws_q (v := undef) 7 [8, 9, 10, 11, 12, 13, 14, 15, 16, 17, 18, 19, 20, 21, 22, 23, 24, 25, 26, 27, 28, 29, 30, 31, 32, 33, 34, 35, 36, 37, 38, 39, 40, 41, 42, 43, 44, 45, 46, 47, 48, 49, 50, 51, 52, 53, 54, 55, 56, 57] (by kernel_rfl) z z (yi_off ((wanted_eq z z z (cvb hc961)).trans z)) (ws_q (v := undef) 8 [9, 10, 11, 12, 13, 14, 15, 16, 17, 18, 19, 20, 21, 22, 23, 24, 25, 26, 27, 28, 29, 30, 31, 32, 33, 34, 35, 36, 37, 38, 39, 40, 41, 42, 43, 44, 45, 46, 47, 48, 49, 50, 51, 52, 53, 54, 55, 56, 57] (by kernel_rfl) z z (yi_off ((wanted_eq z z z (cvb hc961)).trans z)) (ws_q (v := undef) 9 [10, 11, 12, 13, 14, 15, 16, 17, 18, 19, 20, 21, 22, 23, 24, 25, 26, 27, 28, 29, 30, 31, 32, 33, 34, 35, 36, 37, 38, 39, 40, 41, 42, 43, 44, 45, 46, 47, 48, 49, 50, 51, 52, 53, 54, 55, 56, 57] (by kernel_rfl) z z (yi_off ((wanted_eq z z z (cvb hc961)).trans z)) (ws_q (v := undef) 10 [11, 12, 13, 14, 15, 16, 17, 18, 19, 20, 21, 22, 23, 24, 25, 26, 27, 28, 29, 30, 31, 32, 33, 34, 35, 36, 37, 38, 39, 40, 41, 42, 43, 44, 45, 46, 47, 48, 49, 50, 51, 52, 53, 54, 55, 56, 57] (by kernel_rfl) z z (yi_off ((wanted_eq z z z (cvb hc961)).trans z)) (wsr (.bool true) 11 z z z (by kernel_rfl) (fun w hst => x_pick_t hc961 z z) (wsr (.bool true) 12 z z z (by kernel_rfl) (fun w hst => z) (ws_q (v := undef) 13 [14, 15, 16, 17, 18, 19, 20, 21, 22, 23, 24, 25, 26, 27, 28, 29, 30, 31, 32, 33, 34, 35, 36, 37, 38, 39, 40, 41, 42, 43, 44, 45, 46, 47, 48, 49, 50, 51, 52, 53, 54, 55, 56, 57] (by kernel_rfl) z z (yi_off ((wanted_eq z z z z).trans z)) (ws_q (v := undef) 14 [15, 16, 17, 18, 19, 20, 21, 22, 23, 24, 25, 26, 27, 28, 29, 30, 31, 32, 33, 34, 35, 36, 37, 38, 39, 40, 41, 42, 43, 44, 45, 46, 47, 48, 49, 50, 51, 52, 53, 54, 55, 56, 57] (by kernel_rfl) z z (yi_off ((wanted_eq z z z z).trans z)) (ws_q (v := undef) 15 [16, 17, 18, 19, 20, 21, 22, 23, 24, 25, 26, 27, 28, 29, 30, 31, 32, 33, 34, 35, 36, 37, 38, 39, 40, 41, 42, 43, 44, 45, 46, 47, 48, 49, 50, 51, 52, 53, 54, 55, 56, 57] (by kernel_rfl) z z (yi_off ((wanted_eq z z z z).trans z)) (ws_q (v := undef) 16 [17, 18, 19, 20, 21, 22, 23, 24, 25, 26, 27, 28, 29, 30, 31, 32, 33, 34, 35, 36, 37, 38, 39, 40, 41, 42, 43, 44, 45, 46, 47, 48, 49, 50, 51, 52, 53, 54, 55, 56, 57] (by kernel_rfl) z z (yi_off (wanted_undef z z z z)) (ws_q (v := undef) 17 [18, 19, 20, 21, 22, 23, 24, 25, 26, 27, 28, 29, 30, 31, 32, 33, 34, 35, 36, 37, 38, 39, 40, 41, 42, 43, 44, 45, 46, 47, 48, 49, 50, 51, 52, 53, 54, 55, 56, 57] (by kernel_rfl) z z (yi_off (wanted_undef z z z z)) (ws_q (v := undef) 18 [19, 20, 21, 22, 23, 24, 25, 26, 27, 28, 29, 30, 31, 32, 33, 34, 35, 36, 37, 38, 39, 40, 41, 42, 43, 44, 45, 46, 47, 48, 49, 50, 51, 52, 53, 54, 55, 56, 57] (by kernel_rfl) z z (yi_off (wanted_undef z z z z)) (ws_q (v := undef) 19 [20, 21, 22, 23, 24, 25, 26, 27, 28, 29, 30, 31, 32, 33, 34, 35, 36, 37, 38, 39, 40, 41, 42, 43, 44, 45, 46, 47, 48, 49, 50, 51, 52, 53, 54, 55, 56, 57] (by kernel_rfl) z z (yi_off (wanted_undef z z z z)) ?_))))))))))))
 refine ws_q (v := undef) 20 [21, 22, 23, 24, 25, 26, 27, 28, 29, 30, 31, 32, 33, 34, 35, 36, 37, 38, 39, 40, 41, 42, 43, 44, 45, 46, 47, 48, 49, 50, 51, 52, 53, 54, 55, 56, 57] (by kernel_rfl) z z (yi_off (wanted_undef z z z z)) (ws_q (v := undef) 21 [22, 23, 24, 25, 26, 27, 28, 29, 30, 31, 32, 33, 34, 35, 36, 37, 38, 39, 40, 41, 42, 43, 44, 45, 46, 47, 48, 49, 50, 51, 52, 53, 54, 55, 56, 57] (by kernel_rfl) z z (yi_off (wanted_undef z z z z)) (ws_q (v := undef) 22 [23, 24, 25, 26, 27, 28, 29, 30, 31, 32, 33, 34, 35, 36, 37, 38, 39, 40, 41, 42, 43, 44, 45, 46, 47, 48, 49, 50, 51, 52, 53, 54, 55, 56, 57] (by kernel_rfl) z z (yi_off (wanted_undef z z z z)) (ws_q (v := undef) 23 [24, 25, 26, 27, 28, 29, 30, 31, 32, 33, 34, 35, 36, 37, 38, 39, 40, 41, 42, 43, 44, 45, 46, 47, 48, 49, 50, 51, 52, 53, 54, 55, 56, 57] (by kernel_rfl) z z (yi_off (wanted_undef z z z z)) (ws_q (v := undef) 24 [25, 26, 27, 28, 29, 30, 31, 32, 33, 34, 35, 36, 37, 38, 39, 40, 41, 42, 43, 44, 45, 46, 47, 48, 49, 50, 51, 52, 53, 54, 55, 56, 57] (by kernel_rfl) z z (yi_off (wanted_undef z z z z)) (ws_q (v := undef) 25 [26, 27, 28, 29, 30, 31, 32, 33, 34, 35, 36, 37, 38, 39, 40, 41, 42, 43, 44, 45, 46, 47, 48, 49, 50, 51, 52, 53, 54, 55, 56, 57] (by kernel_rfl) z z (yi_off (wanted_undef z z z z)) (ws_q (v := undef) 26 [27, 28, 29, 30, 31, 32, 33, 34, 35, 36, 37, 38, 39, 40, 41, 42, 43, 44, 45, 46, 47, 48, 49, 50, 51, 52, 53, 54, 55, 56, 57] (by kernel_rfl) z z (yi_off (wanted_undef z z z z)) (ws_q (v := undef) 27 [28, 29, 30, 31, 32, 33, 34, 35, 36, 37, 38, 39, 40, 41, 42, 43, 44, 45, 46, 47, 48, 49, 50, 51, 52, 53, 54, 55, 56, 57] (by kernel_rfl) z z (yi_off (wanted_undef z z z z)) (ws_q (v := undef) 28 [29, 30, 31, 32, 33, 34, 35, 36, 37, 38, 39, 40, 41, 42, 43, 44, 45, 46, 47, 48, 49, 50, 51, 52, 53, 54, 55, 56, 57] (by kernel_rfl) z z (yi_off (wanted_undef z z z z)) (ws_q (v := undef) 29 [30, 31, 32, 33, 34, 35, 36, 37, 38, 39, 40, 41, 42, 43, 44, 45, 46, 47, 48, 49, 50, 51, 52, 53, 54, 55, 56, 57] (by kernel_rfl) z z (yi_off (wanted_undef z z z z)) (ws_q (v := undef) 30 [31, 32, 33, 34, 35, 36, 37, 38, 39, 40, 41, 42, 43, 44, 45, 46, 47, 48, 49, 50, 51, 52, 53, 54, 55, 56, 57] (by kernel_rfl) z z (yi_off (wanted_undef z z z z)) (ws_q (v := undef) 31 [32, 33, 34, 35, 36, 37, 38, 39, 40, 41, 42, 43, 44, 45, 46, 47, 48, 49, 50, 51, 52, 53, 54, 55, 56, 57] (by kernel_rfl) z z (yi_off (wanted_undef z z z z)) (ws_q (v := undef) 32 [33, 34, 35, 36, 37, 38, 39, 40, 41, 42, 43, 44, 45, 46, 47, 48, 49, 50, 51, 52, 53, 54, 55, 56, 57] (by kernel_rfl) z z (yi_off (wanted_undef z z z z)) ?_))))))))))))
 refine ws_q (v := undef) 33 [34, 35, 36, 37, 38, 39, 40, 41, 42, 43, 44, 45, 46, 47, 48, 49, 50, 51, 52, 53, 54, 55, 56, 57] (by kernel_rfl) z z (yi_off (wanted_undef z z z z)) (ws_q (v := undef) 34 [35, 36, 37, 38, 39, 40, 41, 42, 43, 44, 45, 46, 47, 48, 49, 50, 51, 52, 53, 54, 55, 56, 57] (by kernel_rfl) z z (yi_off (wanted_undef z z z z)) (ws_q (v := undef) 35 [36, 37, 38, 39, 40, 41, 42, 43, 44, 45, 46, 47, 48, 49, 50, 51, 52, 53, 54, 55, 56, 57] (by kernel_rfl) z z (yi_off (wanted_undef z z z z)) (ws_q (v := undef) 36 [37, 38, 39, 40, 41, 42, 43, 44, 45, 46, 47, 48, 49, 50, 51, 52, 53, 54, 55, 56, 57] (by kernel_rfl) z z (yi_off (wanted_undef z z z z)) (ws_q (v := undef) 37 [38, 39, 40, 41, 42, 43, 44, 45, 46, 47, 48, 49, 50, 51, 52, 53, 54, 55, 56, 57] (by kernel_rfl) z z (yi_off (wanted_undef z z z z)) (ws_q (v := undef) 38 [39, 40, 41, 42, 43, 44, 45, 46, 47, 48, 49, 50, 51, 52, 53, 54, 55, 56, 57] (by kernel_rfl) z z (yi_off (wanted_undef z z z z)) (ws_q (v := undef) 39 [40, 41, 42, 43, 44, 45, 46, 47, 48, 49, 50, 51, 52, 53, 54, 55, 56, 57] (by kernel_rfl) z z (yi_off (wanted_undef z z z z)) (ws_q (v := undef) 40 [41, 42, 43, 44, 45, 46, 47, 48, 49, 50, 51, 52, 53, 54, 55, 56, 57] (by kernel_rfl) z z (yi_off (wanted_undef z z z z)) (ws_q (v := undef) 41 [42, 43, 44, 45, 46, 47, 48, 49, 50, 51, 52, 53, 54, 55, 56, 57] (by kernel_rfl) z z (yi_off (wanted_undef z z z z)) (ws_q (v := undef) 42 [43, 44, 45, 46, 47, 48, 49, 50, 51, 52, 53, 54, 55, 56, 57] (by kernel_rfl) z z (yi_off (wanted_undef z z z z)) (ws_q (v := undef) 43 [44, 45, 46, 47, 48, 49, 50, 51, 52, 53, 54, 55, 56, 57] (by kernel_rfl) z z (yi_off (wanted_undef z z z z)) (ws_q (v := undef) 44 [45, 46, 47, 48, 49, 50, 51, 52, 53, 54, 55, 56, 57] (by kernel_rfl) z z (yi_off (wanted_undef z z z z)) (ws_q (v := undef) 45 [46, 47, 48, 49, 50, 51, 52, 53, 54, 55, 56, 57] (by kernel_rfl) z z (yi_off (wanted_undef z z z z)) ?_))))))))))))
 refine ws_q (v := undef) 46 [47, 48, 49, 50, 51, 52, 53, 54, 55, 56, 57] (by kernel_rfl) z z (yi_off (wanted_undef z z z z)) (ws_q (v := undef) 47 [48, 49, 50, 51, 52, 53, 54, 55, 56, 57] (by kernel_rfl) z z (yi_off (wanted_undef z z z z)) (ws_q (v := undef) 48 [49, 50, 51, 52, 53, 54, 55, 56, 57] (by kernel_rfl) z z (yi_off (wanted_undef z z z z)) (ws_q (v := undef) 49 [50, 51, 52, 53, 54, 55, 56, 57] (by kernel_rfl) z z (yi_off (wanted_undef z z z z)) (ws_q (v := undef) 50 [51, 52, 53, 54, 55, 56, 57] (by kernel_rfl) z z (yi_off (wanted_undef z z z z)) (ws_q (v := undef) 51 [52, 53, 54, 55, 56, 57] (by kernel_rfl) z z (yi_off (wanted_undef z z z z)) (ws_q (v := undef) 52 [53, 54, 55, 56, 57] (by kernel_rfl) z z (yi_off (wanted_undef z z z z)) (ws_q (v := undef) 53 [54, 55, 56, 57] (by kernel_rfl) z z (yi_off (wanted_undef z z z z)) (ws_q (v := undef) 54 [55, 56, 57] (by kernel_rfl) z z (yi_off (wanted_undef z z z z)) (ws_q (v := undef) 55 [56, 57] (by kernel_rfl) z z (yi_off (wanted_undef z z z z)) (ws_q (v := undef) 56 [57] (by kernel_rfl) z z (yi_off ((wanted_eq z z z z).trans z)) (wsr (.bool true) 57 z z z (by kernel_rfl) (fun w hst => x_pick_t z z z) ?_)))))))))))
 refine ws_nil ?_
 intro w hst
 refine tn ?_
 refine wp_ift z ?_
 refine wp_seq (wrl (wv (.bool false) z z z (wl_nil (tn (wp_ret (blk_r (then_r (then_r ?_))))))))
 replace hm := inr_up hm hx896
 refine blk_r (then_r ?_)
 replace hm := inr_up hm hx981
 obtain rfl := some_inj hm
 refine post_ret (vs := [.bool false]) results26 (rvs_cons (rv_tmp z) rvs_nil) ?_
 replace hst := hst.pull2
 exact ⟨_, z, hI0, hst.keep1⟩
}
 {
 replace hm := bif_f hc961 hm
 refine ws_q (v := .agg #[U6 t904.1.ID.Session, U6 t904.1.ID.Seq, U6 t904.1.Epoch, v909, v912, v915, v918]) 7 [8, 9, 10, 11, 12, 13, 14, 15, 16, 17, 18, 19, 20, 21, 22, 23, 24, 25, 26, 27, 28, 29, 30, 31, 32, 33, 34, 35, 36, 37, 38, 39, 40, 41, 42, 43, 44, 45, 46, 47, 48, 49, 50, 51, 52, 53, 54, 55, 56, 57] (by kernel_rfl) z z (yi_run ((wanted_eq z z z (cvb hc961)).trans z) (fun w hst => x_loadN (cs := [U6 t904.1.ID.Session, U6 t904.1.ID.Seq, U6 t904.1.Epoch, v909, v912, v915, v918]) z isAgg34 sizeOf34 (hst.bcs1 0 z))) (ws_q (v := .agg #[U6 t932.1.ID.Session, U6 t932.1.ID.Seq, U6 t932.1.Epoch, v937, v940, v943, v946]) 8 [9, 10, 11, 12, 13, 14, 15, 16, 17, 18, 19, 20, 21, 22, 23, 24, 25, 26, 27, 28, 29, 30, 31, 32, 33, 34, 35, 36, 37, 38, 39, 40, 41, 42, 43, 44, 45, 46, 47, 48, 49, 50, 51, 52, 53, 54, 55, 56, 57] (by kernel_rfl) z z (yi_run ((wanted_eq z z z (cvb hc961)).trans z) (fun w hst => x_loadN (cs := [U6 t932.1.ID.Session, U6 t932.1.ID.Seq, U6 t932.1.Epoch, v937, v940, v943, v946]) z isAgg34 sizeOf34 (hst.bcs0 0 z))) ?_)
 refine ws_e1 9 (by kernel_rfl) ?_
 refine nxe [10, 11, 12, 13, 14, 15, 16, 17, 18, 19, 20, 21, 22, 23, 24, 25, 26, 27, 28, 29, 30, 31, 32, 33, 34, 35, 36, 37, 38, 39, 40, 41, 42, 43, 44, 45, 46, 47, 48, 49, 50, 51, 52, 53, 54, 55, 56, 57] (by kernel_rfl) z ((wanted_eq z z z (cvb hc961)).trans z) ?_
 clear hst
 intro w hst
 obtain ⟨t962, ht963, hm⟩ := bind_some hm
 refine wec call18 [.agg #[U6 t904.1.ID.Session, U6 t904.1.ID.Seq, U6 t904.1.Epoch, v909, v912, v915, v918], .agg #[U6 t932.1.ID.Session, U6 t932.1.ID.Seq, U6 t932.1.Epoch, v937, v940, v943, v946]] z z ?_
 refine (ref11_SameHold_ref (f911.mono ro_rd) (f914.mono ro_rd) (f917.mono ro_rd) (f920.mono ro_rd) (f939.mono ro_rd) (f942.mono ro_rd) (f945.mono ro_rd) (f948.mono ro_rd) hst.to0 ht963).mono ?_
 rintro _ w964 ⟨rfl, hst⟩
 refine ⟨_, z, ?_⟩
 replace hst := hst.of0
 refine ws_next (pend' := []) hst (by kernel_rfl) pk_nil ?_
 refine ws_q (v := .bool (!t962)) 10 [11, 12, 13, 14, 15, 16, 17, 18, 19, 20, 21, 22, 23, 24, 25, 26, 27, 28, 29, 30, 31, 32, 33, 34, 35, 36, 37, 38, 39, 40, 41, 42, 43, 44, 45, 46, 47, 48, 49, 50, 51, 52, 53, 54, 55, 56, 57] (by kernel_rfl) z z (yi_run ((wanted_eq z z z (cvb hc961)).trans z) (fun w hst => z)) (wsr (.bool (!t962)) 11 z z z (by kernel_rfl) (fun w hst => x_pick_f hc961 z z) (wsr (.bool (!t962)) 12 z z z (by kernel_rfl) (fun w hst => z) ?_))
 refine bsplit (!t962) (fun hc967 => ?_) (fun hc967 => ?_)
 {
 replace hm := bif_t hc967 hm
 refine ws_q (v := undef) 13 [14, 15, 16, 17, 18, 19, 20, 21, 22, 23, 24, 25, 26, 27, 28, 29, 30, 31, 32, 33, 34, 35, 36, 37, 38, 39, 40, 41, 42, 43, 44, 45, 46, 47, 48, 49, 50, 51, 52, 53, 54, 55, 56, 57] (by kernel_rfl) z z (yi_off ((wanted_eq z z z (cvb hc967)).trans z)) (ws_q (v := undef) 14 [15, 16, 17, 18, 19, 20, 21, 22, 23, 24, 25, 26, 27, 28, 29, 30, 31, 32, 33, 34, 35, 36, 37, 38, 39, 40, 41, 42, 43, 44, 45, 46, 47, 48, 49, 50, 51, 52, 53, 54, 55, 56, 57] (by kernel_rfl) z z (yi_off ((wanted_eq z z z (cvb hc967)).trans z)) (ws_q (v := undef) 15 [16, 17, 18, 19, 20, 21, 22, 23, 24, 25, 26, 27, 28, 29, 30, 31, 32, 33, 34, 35, 36, 37, 38, 39, 40, 41, 42, 43, 44, 45, 46, 47, 48, 49, 50, 51, 52, 53, 54, 55, 56, 57] (by kernel_rfl) z z (yi_off ((wanted_eq z z z (cvb hc967)).trans z)) (ws_q (v := undef) 16 [17, 18, 19, 20, 21, 22, 23, 24, 25, 26, 27, 28, 29, 30, 31, 32, 33, 34, 35, 36, 37, 38, 39, 40, 41, 42, 43, 44, 45, 46, 47, 48, 49, 50, 51, 52, 53, 54, 55, 56, 57] (by kernel_rfl) z z (yi_off (wanted_undef z z z z)) (ws_q (v := undef) 17 [18, 19, 20, 21, 22, 23, 24, 25, 26, 27, 28, 29, 30, 31, 32, 33, 34, 35, 36, 37, 38, 39, 40, 41, 42, 43, 44, 45, 46, 47, 48, 49, 50, 51, 52, 53, 54, 55, 56, 57] (by kernel_rfl) z z (yi_off (wanted_undef z z z z)) (ws_q (v := undef) 18 [19, 20, 21, 22, 23, 24, 25, 26, 27, 28, 29, 30, 31, 32, 33, 34, 35, 36, 37, 38, 39, 40, 41, 42, 43, 44, 45, 46, 47, 48, 49, 50, 51, 52, 53, 54, 55, 56, 57] (by kernel_rfl) z z (yi_off (wanted_undef z z z z)) (ws_q (v := undef) 19 [20, 21, 22, 23, 24, 25, 26, 27, 28, 29, 30, 31, 32, 33, 34, 35, 36, 37, 38, 39, 40, 41, 42, 43, 44, 45, 46, 47, 48, 49, 50, 51, 52, 53, 54, 55, 56, 57] (by kernel_rfl) z z (yi_off (wanted_undef z z z z)) (ws_q (v := undef) 20 [21, 22, 23, 24, 25, 26, 27, 28, 29, 30, 31, 32, 33, 34, 35, 36, 37, 38, 39, 40, 41, 42, 43, 44, 45, 46, 47, 48, 49, 50, 51, 52, 53, 54, 55, 56, 57] (by kernel_rfl) z z (yi_off (wanted_undef z z z z)) (ws_q (v := undef) 21 [22, 23, 24, 25, 26, 27, 28, 29, 30, 31, 32, 33, 34, 35, 36, 37, 38, 39, 40, 41, 42, 43, 44, 45, 46, 47, 48, 49, 50, 51, 52, 53, 54, 55, 56, 57] (by kernel_rfl) z z (yi_off (wanted_undef z z z z)) (ws_q (v := undef) 22 [23, 24, 25, 26, 27, 28, 29, 30, 31, 32, 33, 34, 35, 36, 37, 38, 39, 40, 41, 42, 43, 44, 45, 46, 47, 48, 49, 50, 51, 52, 53, 54, 55, 56, 57] (by kernel_rfl) z z (yi_off (wanted_undef z z z z)) (ws_q (v := undef) 23 [24, 25, 26, 27, 28, 29, 30, 31, 32, 33, 34, 35, 36, 37, 38, 39, 40, 41, 42, 43, 44, 45, 46, 47, 48, 49, 50, 51, 52, 53, 54, 55, 56, 57] (by kernel_rfl) z z (yi_off (wanted_undef z z z z)) (ws_q (v := undef) 24 [25, 26, 27, 28, 29, 30, 31, 32, 33, 34, 35, 36, 37, 38, 39, 40, 41, 42, 43, 44, 45, 46, 47, 48, 49, 50, 51, 52, 53, 54, 55, 56, 57] (by kernel_rfl) z z (yi_off (wanted_undef z z z z)) (ws_q (v := undef) 25 [26, 27, 28, 29, 30, 31, 32, 33, 34, 35, 36, 37, 38, 39, 40, 41, 42, 43, 44, 45, 46, 47, 48, 49, 50, 51, 52, 53, 54, 55, 56, 57] (by kernel_rfl) z z (yi_off (wanted_undef z z z z)) ?_))))))))))))
 refine ws_q (v := undef) 26 [27, 28, 29, 30, 31, 32, 33, 34, 35, 36, 37, 38, 39, 40, 41, 42, 43, 44, 45, 46, 47, 48, 49, 50, 51, 52, 53, 54, 55, 56, 57] (by kernel_rfl) z z (yi_off (wanted_undef z z z z)) (ws_q (v := undef) 27 [28, 29, 30, 31, 32, 33, 34, 35, 36, 37, 38, 39, 40, 41, 42, 43, 44, 45, 46, 47, 48, 49, 50, 51, 52, 53, 54, 55, 56, 57] (by kernel_rfl) z z (yi_off (wanted_undef z z z z)) (ws_q (v := undef) 28 [29, 30, 31, 32, 33, 34, 35, 36, 37, 38, 39, 40, 41, 42, 43, 44, 45, 46, 47, 48, 49, 50, 51, 52, 53, 54, 55, 56, 57] (by kernel_rfl) z z (yi_off (wanted_undef z z z z)) (ws_q (v := undef) 29 [30, 31, 32, 33, 34, 35, 36, 37, 38, 39, 40, 41, 42, 43, 44, 45, 46, 47, 48, 49, 50, 51, 52, 53, 54, 55, 56, 57] (by kernel_rfl) z z (yi_off (wanted_undef z z z z)) (ws_q (v := undef) 30 [31, 32, 33, 34, 35, 36, 37, 38, 39, 40, 41, 42, 43, 44, 45, 46, 47, 48, 49, 50, 51, 52, 53, 54, 55, 56, 57] (by kernel_rfl) z z (yi_off (wanted_undef z z z z)) (ws_q (v := undef) 31 [32, 33, 34, 35, 36, 37, 38, 39, 40, 41, 42, 43, 44, 45, 46, 47, 48, 49, 50, 51, 52, 53, 54, 55, 56, 57] (by kernel_rfl) z z (yi_off (wanted_undef z z z z)) (ws_q (v := undef) 32 [33, 34, 35, 36, 37, 38, 39, 40, 41, 42, 43, 44, 45, 46, 47, 48, 49, 50, 51, 52, 53, 54, 55, 56, 57] (by kernel_rfl) z z (yi_off (wanted_undef z z z z)) (ws_q (v := undef) 33 [34, 35, 36, 37, 38, 39, 40, 41, 42, 43, 44, 45, 46, 47, 48, 49, 50, 51, 52, 53, 54, 55, 56, 57] (by kernel_rfl) z z (yi_off (wanted_undef z z z z)) (ws_q (v := undef) 34 [35, 36, 37, 38, 39, 40, 41, 42, 43, 44, 45, 46, 47, 48, 49, 50, 51, 52, 53, 54, 55, 56, 57] (by kernel_rfl) z z (yi_off (wanted_undef z z z z)) (ws_q (v := undef) 35 [36, 37, 38, 39, 40, 41, 42, 43, 44, 45, 46, 47, 48, 49, 50, 51, 52, 53, 54, 55, 56, 57] (by kernel_rfl) z z (yi_off (wanted_undef z z z z)) (ws_q (v := undef) 36 [37, 38, 39, 40, 41, 42, 43, 44, 45, 46, 47, 48, 49, 50, 51, 52, 53, 54, 55, 56, 57] (by kernel_rfl) z z (yi_off (wanted_undef z z z z)) (ws_q (v := undef) 37 [38, 39, 40, 41, 42, 43, 44, 45, 46, 47, 48, 49, 50, 51, 52, 53, 54, 55, 56, 57] (by kernel_rfl) z z (yi_off (wanted_undef z z z z)) (ws_q (v := undef) 38 [39, 40, 41, 42, 43, 44, 45, 46, 47, 48, 49, 50, 51, 52, 53, 54, 55, 56, 57] (by kernel_rfl) z z (yi_off (wanted_undef z z z z)) ?_))))))))))))
 refine ws_q (v := undef) 39 [40, 41, 42, 43, 44, 45, 46, 47, 48, 49, 50, 51, 52, 53, 54, 55, 56, 57] (by kernel_rfl) z z (yi_off (wanted_undef z z z z)) (ws_q (v := undef) 40 [41, 42, 43, 44, 45, 46, 47, 48, 49, 50, 51, 52, 53, 54, 55, 56, 57] (by kernel_rfl) z z (yi_off (wanted_undef z z z z)) (ws_q (v := undef) 41 [42, 43, 44, 45, 46, 47, 48, 49, 50, 51, 52, 53, 54, 55, 56, 57] (by kernel_rfl) z z (yi_off (wanted_undef z z z z)) (ws_q (v := undef) 42 [43, 44, 45, 46, 47, 48, 49, 50, 51, 52, 53, 54, 55, 56, 57] (by kernel_rfl) z z (yi_off (wanted_undef z z z z)) (ws_q (v := undef) 43 [44, 45, 46, 47, 48, 49, 50, 51, 52, 53, 54, 55, 56, 57] (by kernel_rfl) z z (yi_off (wanted_undef z z z z)) (ws_q (v := undef) 44 [45, 46, 47, 48, 49, 50, 51, 52, 53, 54, 55, 56, 57] (by kernel_rfl) z z (yi_off (wanted_undef z z z z)) (ws_q (v := undef) 45 [46, 47, 48, 49, 50, 51, 52, 53, 54, 55, 56, 57] (by kernel_rfl) z z (yi_off (wanted_undef z z z z)) (ws_q (v := undef) 46 [47, 48, 49, 50, 51, 52, 53, 54, 55, 56, 57] (by kernel_rfl) z z (yi_off (wanted_undef z z z z)) (ws_q (v := undef) 47 [48, 49, 50, 51, 52, 53, 54, 55, 56, 57] (by kernel_rfl) z z (yi_off (wanted_undef z z z z)) (ws_q (v := undef) 48 [49, 50, 51, 52, 53, 54, 55, 56, 57] (by kernel_rfl) z z (yi_off (wanted_undef z z z z)) (ws_q (v := undef) 49 [50, 51, 52, 53, 54, 55, 56, 57] (by kernel_rfl) z z (yi_off (wanted_undef z z z z)) (ws_q (v := undef) 50 [51, 52, 53, 54, 55, 56, 57] (by kernel_rfl) z z (yi_off (wanted_undef z z z z)) (ws_q (v := undef) 51 [52, 53, 54, 55, 56, 57] (by kernel_rfl) z z (yi_off (wanted_undef z z z z)) ?_))))))))))))
 refine ws_q (v := undef) 52 [53, 54, 55, 56, 57] (by kernel_rfl) z z (yi_off (wanted_undef z z z z)) (ws_q (v := undef) 53 [54, 55, 56, 57] (by kernel_rfl) z z (yi_off (wanted_undef z z z z)) (ws_q (v := undef) 54 [55, 56, 57] (by kernel_rfl) z z (yi_off (wanted_undef z z z z)) (ws_q (v := undef) 55 [56, 57] (by kernel_rfl) z z (yi_off (wanted_undef z z z z)) (ws_q (v := undef) 56 [57] (by kernel_rfl) z z (yi_off ((wanted_eq z z z (cvb hc967)).trans z)) (wsr (.bool true) 57 z z z (by kernel_rfl) (fun w hst => x_pick_t hc967 z z) ?_)))))
 refine ws_nil ?_
 intro w hst
 refine tn ?_
 refine wp_ift z ?_
 refine wp_seq (wrl (wv (.bool false) z z z (wl_nil (tn (wp_ret (blk_r (then_r (then_r ?_))))))))
 replace hm := inr_up hm hx896
 refine blk_r (then_r ?_)
 replace hm := inr_up hm hx981
 obtain rfl := some_inj hm
 refine post_ret (vs := [.bool false]) results26 (rvs_cons (rv_tmp z) rvs_nil) ?_
 replace hst := hst.pull2
 exact ⟨_, z, hI0, hst.keep1⟩
}
 {
 replace hm := bif_f hc967 hm
 refine ws_q (v := .int .i64 z888) 13 [14, 15, 16, 17, 18, 19, 20, 21, 22, 23, 24, 25, 26, 27, 28, 29, 30, 31, 32, 33, 34, 35, 36, 37, 38, 39, 40, 41, 42, 43, 44, 45, 46, 47, 48, 49, 50, 51, 52, 53, 54, 55, 56, 57] (by kernel_rfl) z z (yi_run ((wanted_eq z z z (cvb hc967)).trans z) (fun w hst => z)) (ws_q (v := .bool (decide (z888 > (0:Int)))) 14 [15, 16, 17, 18, 19, 20, 21, 22, 23, 24, 25, 26, 27, 28, 29, 30, 31, 32, 33, 34, 35, 36, 37, 38, 39, 40, 41, 42, 43, 44, 45, 46, 47, 48, 49, 50, 51, 52, 53, 54, 55, 56, 57] (by kernel_rfl) z z (yi_run ((wanted_eq z z z (cvb hc967)).trans z) (fun w hst => z)) (ws_q (v := .bool (decide (z888 > (0:Int)))) 15 [16, 17, 18, 19, 20, 21, 22, 23, 24, 25, 26, 27, 28, 29, 30, 31, 32, 33, 34, 35, 36, 37, 38, 39, 40, 41, 42, 43, 44, 45, 46, 47, 48, 49, 50, 51, 52, 53, 54, 55, 56, 57] (by kernel_rfl) z z (yi_run ((wanted_eq z z z (cvb hc967)).trans z) (fun w hst => z)) ?_))
 refine bsplit (decide (z888 > (0:Int))) (fun hc968 => ?_) (fun hc968 => ?_)
 {
 replace hm := bif_t hc968 hm
 refine ws_q (v := v720) 16 [17, 18, 19, 20, 21, 22, 23, 24, 25, 26, 27, 28, 29, 30, 31, 32, 33, 34, 35, 36, 37, 38, 39, 40, 41, 42, 43, 44, 45, 46, 47, 48, 49, 50, 51, 52, 53, 54, 55, 56, 57] (by kernel_rfl) z z (yi_run ((wanted_eq z z z (cvb hc968)).trans z) (fun w hst => z)) (ws_q (v := .int .i64 z888) 17 [18, 19, 20, 21, 22, 23, 24, 25, 26, 27, 28, 29, 30, 31, 32, 33, 34, 35, 36, 37, 38, 39, 40, 41, 42, 43, 44, 45, 46, 47, 48, 49, 50, 51, 52, 53, 54, 55, 56, 57] (by kernel_rfl) z z (yi_run ((wanted_eq z z z (cvb hc968)).trans z) (fun w hst => z)) (ws_q (v := .int .i64 (i64.wrap (z888 - (1:Int)))) 18 [19, 20, 21, 22, 23, 24, 25, 26, 27, 28, 29, 30, 31, 32, 33, 34, 35, 36, 37, 38, 39, 40, 41, 42, 43, 44, 45, 46, 47, 48, 49, 50, 51, 52, 53, 54, 55, 56, 57] (by kernel_rfl) z z (yi_run ((wanted_eq z z z (cvb hc968)).trans z) (fun w hst => z)) ?_))
 obtain ⟨x969, hx970, hm⟩ := bind_some hm
 obtain ⟨h971, h972, hi973⟩ := geto_some hx970
 refine ws_q (v := .pointer (some (eAddr v720 ((i64.wrap (z888 - (1:Int))).toNat * 2 + 0)))) 19 [20, 21, 22, 23, 24, 25, 26, 27, 28, 29, 30, 31, 32, 33, 34, 35, 36, 37, 38, 39, 40, 41, 42, 43, 44, 45, 46, 47, 48, 49, 50, 51, 52, 53, 54, 55, 56, 57] (by kernel_rfl) z z (yi_run ((wanted_eq z z z (cvb hc968)).trans z) (fun w hst => x_index z z underlying37 sizeOf29 hst.sv3 h971 h972)) (ws_q (v := .pointer (some (eAddr v720 ((i64.wrap (z888 - (1:Int))).toNat * 2 + 0)))) 20 [21, 22, 23, 24, 25, 26, 27, 28, 29, 30, 31, 32, 33, 34, 35, 36, 37, 38, 39, 40, 41, 42, 43, 44, 45, 46, 47, 48, 49, 50, 51, 52, 53, 54, 55, 56, 57] (by kernel_rfl) z z (yi_run ((wanted_eq z z z (cvb hc968)).trans z) (fun w hst => x_field_e z underlying29 z sizeOf27 z)) (ws_q (v := .int .u64 x969.Session) 21 [22, 23, 24, 25, 26, 27, 28, 29, 30, 31, 32, 33, 34, 35, 36, 37, 38, 39, 40, 41, 42, 43, 44, 45, 46, 47, 48, 49, 50, 51, 52, 53, 54, 55, 56, 57] (by kernel_rfl) z z (yi_run ((wanted_eq z z z (cvb hc968)).trans z) (fun w hst => x_load z isAgg27 (hst.ol3 hi973 (by rintro _ rfl; rfl)))) (ws_q (v := v720) 22 [23, 24, 25, 26, 27, 28, 29, 30, 31, 32, 33, 34, 35, 36, 37, 38, 39, 40, 41, 42, 43, 44, 45, 46, 47, 48, 49, 50, 51, 52, 53, 54, 55, 56, 57] (by kernel_rfl) z z (yi_run ((wanted_eq z z z (cvb hc968)).trans z) (fun w hst => z)) (ws_q (v := .int .i64 z888) 23 [24, 25, 26, 27, 28, 29, 30, 31, 32, 33, 34, 35, 36, 37, 38, 39, 40, 41, 42, 43, 44, 45, 46, 47, 48, 49, 50, 51, 52, 53, 54, 55, 56, 57] (by kernel_rfl) z z (yi_run ((wanted_eq z z z (cvb hc968)).trans z) (fun w hst => z)) (ws_q (v := .pointer (some (eAddr v720 (z888.toNat * 2 + 0)))) 24 [25, 26, 27, 28, 29, 30, 31, 32, 33, 34, 35, 36, 37, 38, 39, 40, 41, 42, 43, 44, 45, 46, 47, 48, 49, 50, 51, 52, 53, 54, 55, 56, 57] (by kernel_rfl) z z (yi_run ((wanted_eq z z z (cvb hc968)).trans z) (fun w hst => x_index z z underlying37 sizeOf29 hst.sv3 h901 h902)) (ws_q (v := .pointer (some (eAddr v720 (z888.toNat * 2 + 0)))) 25 [26, 27, 28, 29, 30, 31, 32, 33, 34, 35, 36, 37, 38, 39, 40, 41, 42, 43, 44, 45, 46, 47, 48, 49, 50, 51, 52, 53, 54, 55, 56, 57] (by kernel_rfl) z z (yi_run ((wanted_eq z z z (cvb hc968)).trans z) (fun w hst => x_field_e z underlying29 z sizeOf27 z)) (ws_q (v := .int .u64 x899.Session) 26 [27, 28, 29, 30, 31, 32, 33, 34, 35, 36, 37, 38, 39, 40, 41, 42, 43, 44, 45, 46, 47, 48, 49, 50, 51, 52, 53, 54, 55, 56, 57] (by kernel_rfl) z z (yi_run ((wanted_eq z z z (cvb hc968)).trans z) (fun w hst => x_load z isAgg27 (hst.ol3 hi903 (by rintro _ rfl; rfl)))) (ws_q (v := .bool (decide (x969.Session > x899.Session))) 27 [28, 29, 30, 31, 32, 33, 34, 35, 36, 37, 38, 39, 40, 41, 42, 43, 44, 45, 46, 47, 48, 49, 50, 51, 52, 53, 54, 55, 56, 57] (by kernel_rfl) z z (yi_run ((wanted_eq z z z (cvb hc968)).trans z) (fun w hst => z)) (ws_q (v := .bool (decide (x969.Session > x899.Session))) 28 [29, 30, 31, 32, 33, 34, 35, 36, 37, 38, 39, 40, 41, 42, 43, 44, 45, 46, 47, 48, 49, 50, 51, 52, 53, 54, 55, 56, 57] (by kernel_rfl) z z (yi_run ((wanted_eq z z z (cvb hc968)).trans z) (fun w hst => z)) ?_)))))))))
 refine bsplit (decide (x969.Session > x899.Session)) (fun hc974 => ?_) (fun hc974 => ?_)
 {
 replace hm := bif_t hc974 hm
 refine ws_q (v := undef) 29 [30, 31, 32, 33, 34, 35, 36, 37, 38, 39, 40, 41, 42, 43, 44, 45, 46, 47, 48, 49, 50, 51, 52, 53, 54, 55, 56, 57] (by kernel_rfl) z z (yi_off ((wanted_eq z z z (cvb hc974)).trans z)) (ws_q (v := undef) 30 [31, 32, 33, 34, 35, 36, 37, 38, 39, 40, 41, 42, 43, 44, 45, 46, 47, 48, 49, 50, 51, 52, 53, 54, 55, 56, 57] (by kernel_rfl) z z (yi_off ((wanted_eq z z z (cvb hc974)).trans z)) (ws_q (v := undef) 31 [32, 33, 34, 35, 36, 37, 38, 39, 40, 41, 42, 43, 44, 45, 46, 47, 48, 49, 50, 51, 52, 53, 54, 55, 56, 57] (by kernel_rfl) z z (yi_off ((wanted_eq z z z (cvb hc974)).trans z)) (ws_q (v := undef) 32 [33, 34, 35, 36, 37, 38, 39, 40, 41, 42, 43, 44, 45, 46, 47, 48, 49, 50, 51, 52, 53, 54, 55, 56, 57] (by kernel_rfl) z z (yi_off ((wanted_eq z z z (cvb hc974)).trans z)) (ws_q (v := undef) 33 [34, 35, 36, 37, 38, 39, 40, 41, 42, 43, 44, 45, 46, 47, 48, 49, 50, 51, 52, 53, 54, 55, 56, 57] (by kernel_rfl) z z (yi_off ((wanted_eq z z z (cvb hc974)).trans z)) (ws_q (v := undef) 34 [35, 36, 37, 38, 39, 40, 41, 42, 43, 44, 45, 46, 47, 48, 49, 50, 51, 52, 53, 54, 55, 56, 57] (by kernel_rfl) z z (yi_off ((wanted_eq z z z (cvb hc974)).trans z)) (ws_q (v := undef) 35 [36, 37, 38, 39, 40, 41, 42, 43, 44, 45, 46, 47, 48, 49, 50, 51, 52, 53, 54, 55, 56, 57] (by kernel_rfl) z z (yi_off ((wanted_eq z z z (cvb hc974)).trans z)) (ws_q (v := undef) 36 [37, 38, 39, 40, 41, 42, 43, 44, 45, 46, 47, 48, 49, 50, 51, 52, 53, 54, 55, 56, 57] (by kernel_rfl) z z (yi_off ((wanted_eq z z z (cvb hc974)).trans z)) (ws_q (v := undef) 37 [38, 39, 40, 41, 42, 43, 44, 45, 46, 47, 48, 49, 50, 51, 52, 53, 54, 55, 56, 57] (by kernel_rfl) z z (yi_off ((wanted_eq z z z (cvb hc974)).trans z)) (ws_q (v := undef) 38 [39, 40, 41, 42, 43, 44, 45, 46, 47, 48, 49, 50, 51, 52, 53, 54, 55, 56, 57] (by kernel_rfl) z z (yi_off ((wanted_eq z z z (cvb hc974)).trans z)) (ws_q (v := undef) 39 [40, 41, 42, 43, 44, 45, 46, 47, 48, 49, 50, 51, 52, 53, 54, 55, 56, 57] (by kernel_rfl) z z (yi_off ((wanted_eq z z z (cvb hc974)).trans z)) (ws_q (v := undef) 40 [41, 42, 43, 44, 45, 46, 47, 48, 49, 50, 51, 52, 53, 54, 55, 56, 57] (by kernel_rfl) z z (yi_off ((wanted_eq z z z (cvb hc974)).trans z)) (ws_q (v := undef) 41 [42, 43, 44, 45, 46, 47, 48, 49, 50, 51, 52, 53, 54, 55, 56, 57] (by kernel_rfl) z z (yi_off ((wanted_eq z z z (cvb hc974)).trans z)) ?_))))))))))))
 refine ws_q (v := undef) 42 [43, 44, 45, 46, 47, 48, 49, 50, 51, 52, 53, 54, 55, 56, 57] (by kernel_rfl) z z (yi_off (wanted_undef z z z z)) (ws_q (v := undef) 43 [44, 45, 46, 47, 48, 49, 50, 51, 52, 53, 54, 55, 56, 57] (by kernel_rfl) z z (yi_off (wanted_undef z z z z)) (ws_q (v := undef) 44 [45, 46, 47, 48, 49, 50, 51, 52, 53, 54, 55, 56, 57] (by kernel_rfl) z z (yi_off (wanted_undef z z z z)) (ws_q (v := undef) 45 [46, 47, 48, 49, 50, 51, 52, 53, 54, 55, 56, 57] (by kernel_rfl) z z (yi_off (wanted_undef z z z z)) (ws_q (v := undef) 46 [47, 48, 49, 50, 51, 52, 53, 54, 55, 56, 57] (by kernel_rfl) z z (yi_off (wanted_undef z z z z)) (ws_q (v := undef) 47 [48, 49, 50, 51, 52, 53, 54, 55, 56, 57] (by kernel_rfl) z z (yi_off (wanted_undef z z z z)) (ws_q (v := undef) 48 [49, 50, 51, 52, 53, 54, 55, 56, 57] (by kernel_rfl) z z (yi_off (wanted_undef z z z z)) (ws_q (v := undef) 49 [50, 51, 52, 53, 54, 55, 56, 57] (by kernel_rfl) z z (yi_off (wanted_undef z z z z)) (ws_q (v := undef) 50 [51, 52, 53, 54, 55, 56, 57] (by kernel_rfl) z z (yi_off (wanted_undef z z z z)) (ws_q (v := undef) 51 [52, 53, 54, 55, 56, 57] (by kernel_rfl) z z (yi_off (wanted_undef z z z z)) (ws_q (v := undef) 52 [53, 54, 55, 56, 57] (by kernel_rfl) z z (yi_off (wanted_undef z z z z)) (ws_q (v := undef) 53 [54, 55, 56, 57] (by kernel_rfl) z z (yi_off (wanted_undef z z z z)) (ws_q (v := undef) 54 [55, 56, 57] (by kernel_rfl) z z (yi_off ((wanted_eq z z z (cvb hc974)).trans z)) ?_))))))))))))
 refine ws_q (v := .bool true) 55 [56, 57] (by kernel_rfl) z z (yi_run ((wanted_eq z z z (cvb hc968)).trans z) (fun w hst => x_pick_t hc974 z z)) (ws_q (v := .bool true) 56 [57] (by kernel_rfl) z z (yi_run ((wanted_eq z z z (cvb hc967)).trans z) (fun w hst => x_pick_t hc968 z z)) (wsr (.bool true) 57 z z z (by kernel_rfl) (fun w hst => x_pick_f hc967 z z) ?_))
 refine ws_nil ?_
 intro w hst
 refine tn ?_
 refine wp_ift z ?_
 refine wp_seq (wrl (wv (.bool false) z z z (wl_nil (tn (wp_ret (blk_r (then_r (then_r ?_))))))))
 replace hm := inr_up hm hx896
 refine blk_r (then_r ?_)
 replace hm := inr_up hm hx981
 obtain rfl := some_inj hm
 refine post_ret (vs := [.bool false]) results26 (rvs_cons (rv_tmp z) rvs_nil) ?_
 replace hst := hst.pull2
 exact ⟨_, z, hI0, hst.keep1⟩
}
 {
 replace hm := bif_f hc974 hm
 refine ws_q (v := v720) 29 [30, 31, 32, 33, 34, 35, 36, 37, 38, 39, 40, 41, 42, 43, 44, 45, 46, 47, 48, 49, 50, 51, 52, 53, 54, 55, 56, 57] (by kernel_rfl) z z (yi_run ((wanted_eq z z z (cvb hc974)).trans z) (fun w hst => z)) (ws_q (v := .int .i64 z888) 30 [31, 32, 33, 34, 35, 36, 37, 38, 39, 40, 41, 42, 43, 44, 45, 46, 47, 48, 49, 50, 51, 52, 53, 54, 55, 56, 57] (by kernel_rfl) z z (yi_run ((wanted_eq z z z (cvb hc974)).trans z) (fun w hst => z)) (ws_q (v := .int .i64 (i64.wrap (z888 - (1:Int)))) 31 [32, 33, 34, 35, 36, 37, 38, 39, 40, 41, 42, 43, 44, 45, 46, 47, 48, 49, 50, 51, 52, 53, 54, 55, 56, 57] (by kernel_rfl) z z (yi_run ((wanted_eq z z z (cvb hc974)).trans z) (fun w hst => z)) (ws_q (v := .pointer (some (eAddr v720 ((i64.wrap (z888 - (1:Int))).toNat * 2 + 0)))) 32 [33, 34, 35, 36, 37, 38, 39, 40, 41, 42, 43, 44, 45, 46, 47, 48, 49, 50, 51, 52, 53, 54, 55, 56, 57] (by kernel_rfl) z z (yi_run ((wanted_eq z z z (cvb hc974)).trans z) (fun w hst => x_index z z underlying37 sizeOf29 hst.sv3 h971 h972)) (ws_q (v := .pointer (some (eAddr v720 ((i64.wrap (z888 - (1:Int))).toNat * 2 + 0)))) 33 [34, 35, 36, 37, 38, 39, 40, 41, 42, 43, 44, 45, 46, 47, 48, 49, 50, 51, 52, 53, 54, 55, 56, 57] (by kernel_rfl) z z (yi_run ((wanted_eq z z z (cvb hc974)).trans z) (fun w hst => x_field_e z underlying29 z sizeOf27 z)) (ws_q (v := .int .u64 x969.Session) 34 [35, 36, 37, 38, 39, 40, 41, 42, 43, 44, 45, 46, 47, 48, 49, 50, 51, 52, 53, 54, 55, 56, 57] (by kernel_rfl) z z (yi_run ((wanted_eq z z z (cvb hc974)).trans z) (fun w hst => x_load z isAgg27 (hst.ol3 hi973 (by rintro _ rfl; rfl)))) (ws_q (v := v720) 35 [36, 37, 38, 39, 40, 41, 42, 43, 44, 45, 46, 47, 48, 49, 50, 51, 52, 53, 54, 55, 56, 57] (by kernel_rfl) z z (yi_run ((wanted_eq z z z (cvb hc974)).trans z) (fun w hst => z)) (ws_q (v := .int .i64 z888) 36 [37, 38, 39, 40, 41, 42, 43, 44, 45, 46, 47, 48, 49, 50, 51, 52, 53, 54, 55, 56, 57] (by kernel_rfl) z z (yi_run ((wanted_eq z z z (cvb hc974)).trans z) (fun w hst => z)) (ws_q (v := .pointer (some (eAddr v720 (z888.toNat * 2 + 0)))) 37 [38, 39, 40, 41, 42, 43, 44, 45, 46, 47, 48, 49, 50, 51, 52, 53, 54, 55, 56, 57] (by kernel_rfl) z z (yi_run ((wanted_eq z z z (cvb hc974)).trans z) (fun w hst => x_index z z underlying37 sizeOf29 hst.sv3 h901 h902)) (ws_q (v := .pointer (some (eAddr v720 (z888.toNat * 2 + 0)))) 38 [39, 40, 41, 42, 43, 44, 45, 46, 47, 48, 49, 50, 51, 52, 53, 54, 55, 56, 57] (by kernel_rfl) z z (yi_run ((wanted_eq z z z (cvb hc974)).trans z) (fun w hst => x_field_e z underlying29 z sizeOf27 z)) (ws_q (v := .int .u64 x899.Session) 39 [40, 41, 42, 43, 44, 45, 46, 47, 48, 49, 50, 51, 52, 53, 54, 55, 56, 57] (by kernel_rfl) z z (yi_run ((wanted_eq z z z (cvb hc974)).trans z) (fun w hst => x_load z isAgg27 (hst.ol3 hi903 (by rintro _ rfl; rfl)))) (ws_q (v := .bool (x969.Session == x899.Session)) 40 [41, 42, 43, 44, 45, 46, 47, 48, 49, 50, 51, 52, 53, 54, 55, 56, 57] (by kernel_rfl) z z (yi_run ((wanted_eq z z z (cvb hc974)).trans z) (fun w hst => z)) (ws_q (v := .bool (x969.Session == x899.Session)) 41 [42, 43, 44, 45, 46, 47, 48, 49, 50, 51, 52, 53, 54, 55, 56, 57] (by kernel_rfl) z z (yi_run ((wanted_eq z z z (cvb hc974)).trans z) (fun w hst => z)) ?_))))))))))))
 refine bsplit (x969.Session == x899.Session) (fun hc975 => ?_) (fun hc975 => ?_)
 {
 replace hm := bif_t hc975 hm
 refine ws_q (v := v720) 42 [43, 44, 45, 46, 47, 48, 49, 50, 51, 52, 53, 54, 55, 56, 57] (by kernel_rfl) z z (yi_run ((wanted_eq z z z (cvb hc975)).trans z) (fun w hst => z)) (ws_q (v := .int .i64 z888) 43 [44, 45, 46, 47, 48, 49, 50, 51, 52, 53, 54, 55, 56, 57] (by kernel_rfl) z z (yi_run ((wanted_eq z z z (cvb hc975)).trans z) (fun w hst => z)) (ws_q (v := .int .i64 (i64.wrap (z888 - (1:Int)))) 44 [45, 46, 47, 48, 49, 50, 51, 52, 53, 54, 55, 56, 57] (by kernel_rfl) z z (yi_run ((wanted_eq z z z (cvb hc975)).trans z) (fun w hst => z)) (ws_q (v := .pointer (some (eAddr v720 ((i64.wrap (z888 - (1:Int))).toNat * 2 + 0)))) 45 [46, 47, 48, 49, 50, 51, 52, 53, 54, 55, 56, 57] (by kernel_rfl) z z (yi_run ((wanted_eq z z z (cvb hc975)).trans z) (fun w hst => x_index z z underlying37 sizeOf29 hst.sv3 h971 h972)) (ws_q (v := .pointer (some (eAddr v720 ((i64.wrap (z888 - (1:Int))).toNat * 2 + 1)))) 46 [47, 48, 49, 50, 51, 52, 53, 54, 55, 56, 57] (by kernel_rfl) z z (yi_run ((wanted_eq z z z (cvb hc975)).trans z) (fun w hst => x_field_e z underlying29 z sizeOf27 z)) (ws_q (v := .int .u64 x969.Seq) 47 [48, 49, 50, 51, 52, 53, 54, 55, 56, 57] (by kernel_rfl) z z (yi_run ((wanted_eq z z z (cvb hc975)).trans z) (fun w hst => x_load z isAgg27 (hst.ol3 hi973 (by rintro _ rfl; rfl)))) (ws_q (v := v720) 48 [49, 50, 51, 52, 53, 54, 55, 56, 57] (by kernel_rfl) z z (yi_run ((wanted_eq z z z (cvb hc975)).trans z) (fun w hst => z)) (ws_q (v := .int .i64 z888) 49 [50, 51, 52, 53, 54, 55, 56, 57] (by kernel_rfl) z z (yi_run ((wanted_eq z z z (cvb hc975)).trans z) (fun w hst => z)) (ws_q (v := .pointer (some (eAddr v720 (z888.toNat * 2 + 0)))) 50 [51, 52, 53, 54, 55, 56, 57] (by kernel_rfl) z z (yi_run ((wanted_eq z z z (cvb hc975)).trans z) (fun w hst => x_index z z underlying37 sizeOf29 hst.sv3 h901 h902)) (ws_q (v := .pointer (some (eAddr v720 (z888.toNat * 2 + 1)))) 51 [52, 53, 54, 55, 56, 57] (by kernel_rfl) z z (yi_run ((wanted_eq z z z (cvb hc975)).trans z) (fun w hst => x_field_e z underlying29 z sizeOf27 z)) (ws_q (v := .int .u64 x899.Seq) 52 [53, 54, 55, 56, 57] (by kernel_rfl) z z (yi_run ((wanted_eq z z z (cvb hc975)).trans z) (fun w hst => x_load z isAgg27 (hst.ol3 hi903 (by rintro _ rfl; rfl)))) (ws_q (v := .bool (decide (x969.Seq ≥ x899.Seq))) 53 [54, 55, 56, 57] (by kernel_rfl) z z (yi_run ((wanted_eq z z z (cvb hc975)).trans z) (fun w hst => z)) (ws_q (v := .bool (decide (x969.Seq ≥ x899.Seq))) 54 [55, 56, 57] (by kernel_rfl) z z (yi_run ((wanted_eq z z z (cvb hc974)).trans z) (fun w hst => x_pick_t hc975 z z)) ?_))))))))))))
 refine ws_q (v := .bool (decide (x969.Seq ≥ x899.Seq))) 55 [56, 57] (by kernel_rfl) z z (yi_run ((wanted_eq z z z (cvb hc968)).trans z) (fun w hst => x_pick_f hc974 z z)) (ws_q (v := .bool (decide (x969.Seq ≥ x899.Seq))) 56 [57] (by kernel_rfl) z z (yi_run ((wanted_eq z z z (cvb hc967)).trans z) (fun w hst => x_pick_t hc968 z z)) (wsr (.bool (decide (x969.Seq ≥ x899.Seq))) 57 z z z (by kernel_rfl) (fun w hst => x_pick_f hc967 z z) ?_))
 refine ws_nil ?_
 intro w hst
 refine tn ?_
 refine bsplit (decide (x969.Seq ≥ x899.Seq)) (fun hc976 => ?_) (fun hc976 => ?_)
 {
 replace hm := bif_t hc976 hm
 refine wp_ift (cvb hc976) ?_
 refine wp_seq (wrl (wv (.bool false) z z z (wl_nil (tn (wp_ret (blk_r (then_r (then_r ?_))))))))
 replace hm := inr_up hm hx896
 refine blk_r (then_r ?_)
 replace hm := inr_up hm hx981
 obtain rfl := some_inj hm
 refine post_ret (vs := [.bool false]) results26 (rvs_cons (rv_tmp z) rvs_nil) ?_
 replace hst := hst.pull2
 exact ⟨_, z, hI0, hst.keep1⟩
}
 {
 replace hm := bif_f hc976 hm
 refine wp_iff (cvb hc976) ?_
 refine wp_skip (blk_n (tn (wrl ?_)))
 refine wv (.int .i64 z888) z z z (wv (.int .i64 (i64.wrap (z888 + (1:Int)))) z z z (wv (.int .i64 (i64.wrap (z888 + (1:Int)))) z z z (wl_nil (tn ?_))))
 replace hst := hst.pull3.pull3.keep2
 obtain rfl := some_inj hm
 exact ⟨_, Nat.lt_succ_self _, _, (i64.wrap (z888 + (1:Int))), _, hx896, (fu 0 p0 z (fu 1 r1_0 z (fu 5 v720 z (fu 6 (.int .i64 (i64.wrap (z888 + (1:Int)))) z z)))), hL893, hst⟩
}
}
 {
 replace hm := bif_f hc975 hm
 refine ws_q (v := undef) 42 [43, 44, 45, 46, 47, 48, 49, 50, 51, 52, 53, 54, 55, 56, 57] (by kernel_rfl) z z (yi_off ((wanted_eq z z z (cvb hc975)).trans z)) (ws_q (v := undef) 43 [44, 45, 46, 47, 48, 49, 50, 51, 52, 53, 54, 55, 56, 57] (by kernel_rfl) z z (yi_off ((wanted_eq z z z (cvb hc975)).trans z)) (ws_q (v := undef) 44 [45, 46, 47, 48, 49, 50, 51, 52, 53, 54, 55, 56, 57] (by kernel_rfl) z z (yi_off ((wanted_eq z z z (cvb hc975)).trans z)) (ws_q (v := undef) 45 [46, 47, 48, 49, 50, 51, 52, 53, 54, 55, 56, 57] (by kernel_rfl) z z (yi_off ((wanted_eq z z z (cvb hc975)).trans z)) (ws_q (v := undef) 46 [47, 48, 49, 50, 51, 52, 53, 54, 55, 56, 57] (by kernel_rfl) z z (yi_off ((wanted_eq z z z (cvb hc975)).trans z)) (ws_q (v := undef) 47 [48, 49, 50, 51, 52, 53, 54, 55, 56, 57] (by kernel_rfl) z z (yi_off ((wanted_eq z z z (cvb hc975)).trans z)) (ws_q (v := undef) 48 [49, 50, 51, 52, 53, 54, 55, 56, 57] (by kernel_rfl) z z (yi_off ((wanted_eq z z z (cvb hc975)).trans z)) (ws_q (v := undef) 49 [50, 51, 52, 53, 54, 55, 56, 57] (by kernel_rfl) z z (yi_off ((wanted_eq z z z (cvb hc975)).trans z)) (ws_q (v := undef) 50 [51, 52, 53, 54, 55, 56, 57] (by kernel_rfl) z z (yi_off ((wanted_eq z z z (cvb hc975)).trans z)) (ws_q (v := undef) 51 [52, 53, 54, 55, 56, 57] (by kernel_rfl) z z (yi_off ((wanted_eq z z z (cvb hc975)).trans z)) (ws_q (v := undef) 52 [53, 54, 55, 56, 57] (by kernel_rfl) z z (yi_off ((wanted_eq z z z (cvb hc975)).trans z)) (ws_q (v := undef) 53 [54, 55, 56, 57] (by kernel_rfl) z z (yi_off ((wanted_eq z z z (cvb hc975)).trans z)) (ws_q (v := .bool false) 54 [55, 56, 57] (by kernel_rfl) z z (yi_run ((wanted_eq z z z (cvb hc974)).trans z) (fun w hst => x_pick_f hc975 z z)) ?_))))))))))))
 refine ws_q (v := .bool false) 55 [56, 57] (by kernel_rfl) z z (yi_run ((wanted_eq z z z (cvb hc968)).trans z) (fun w hst => x_pick_f hc974 z z)) (ws_q (v := .bool false) 56 [57] (by kernel_rfl) z z (yi_run ((wanted_eq z z z (cvb hc967)).trans z) (fun w hst => x_pick_t hc968 z z)) (wsr (.bool false) 57 z z z (by kernel_rfl) (fun w hst => x_pick_f hc967 z z) ?_))
 refine ws_nil ?_
 intro w hst
 refine tn ?_
 refine wp_iff z ?_
 refine wp_skip (blk_n (tn (wrl ?_)))
 refine wv (.int .i64 z888) z z z (wv (.int .i64 (i64.wrap (z888 + (1:Int)))) z z z (wv (.int .i64 (i64.wrap (z888 + (1:Int)))) z z z (wl_nil (tn ?_))))
 replace hst := hst.pull3.pull3.keep2
 obtain rfl := some_inj hm
 exact ⟨_, Nat.lt_succ_self _, _, (i64.wrap (z888 + (1:Int))), _, hx896, (fu 0 p0 z (fu 1 r1_0 z (fu 5 v720 z (fu 6 (.int .i64 (i64.wrap (z888 + (1:Int)))) z z)))), hL893, hst⟩
}
}
}
 {
 replace hm := bif_f hc968 hm
 refine ws_q (v := undef) 16 [17, 18, 19, 20, 21, 22, 23, 24, 25, 26, 27, 28, 29, 30, 31, 32, 33, 34, 35, 36, 37, 38, 39, 40, 41, 42, 43, 44, 45, 46, 47, 48, 49, 50, 51, 52, 53, 54, 55, 56, 57] (by kernel_rfl) z z (yi_off ((wanted_eq z z z (cvb hc968)).trans z)) (ws_q (v := undef) 17 [18, 19, 20, 21, 22, 23, 24, 25, 26, 27, 28, 29, 30, 31, 32, 33, 34, 35, 36, 37, 38, 39, 40, 41, 42, 43, 44, 45, 46, 47, 48, 49, 50, 51, 52, 53, 54, 55, 56, 57] (by kernel_rfl) z z (yi_off ((wanted_eq z z z (cvb hc968)).trans z)) (ws_q (v := undef) 18 [19, 20, 21, 22, 23, 24, 25, 26, 27, 28, 29, 30, 31, 32, 33, 34, 35, 36, 37, 38, 39, 40, 41, 42, 43, 44, 45, 46, 47, 48, 49, 50, 51, 52, 53, 54, 55, 56, 57] (by kernel_rfl) z z (yi_off ((wanted_eq z z z (cvb hc968)).trans z)) (ws_q (v := undef) 19 [20, 21, 22, 23, 24, 25, 26, 27, 28, 29, 30, 31, 32, 33, 34, 35, 36, 37, 38, 39, 40, 41, 42, 43, 44, 45, 46, 47, 48, 49, 50, 51, 52, 53, 54, 55, 56, 57] (by kernel_rfl) z z (yi_off ((wanted_eq z z z (cvb hc968)).trans z)) (ws_q (v := undef) 20 [21, 22, 23, 24, 25, 26, 27, 28, 29, 30, 31, 32, 33, 34, 35, 36, 37, 38, 39, 40, 41, 42, 43, 44, 45, 46, 47, 48, 49, 50, 51, 52, 53, 54, 55, 56, 57] (by kernel_rfl) z z (yi_off ((wanted_eq z z z (cvb hc968)).trans z)) (ws_q (v := undef) 21 [22, 23, 24, 25, 26, 27, 28, 29, 30, 31, 32, 33, 34, 35, 36, 37, 38, 39, 40, 41, 42, 43, 44, 45, 46, 47, 48, 49, 50, 51, 52, 53, 54, 55, 56, 57] (by kernel_rfl) z z (yi_off ((wanted_eq z z z (cvb hc968)).trans z)) (ws_q (v := undef) 22 [23, 24, 25, 26, 27, 28, 29, 30, 31, 32, 33, 34, 35, 36, 37, 38, 39, 40, 41, 42, 43, 44, 45, 46, 47, 48, 49, 50, 51, 52, 53, 54, 55, 56, 57] (by kernel_rfl) z z (yi_off ((wanted_eq z z z (cvb hc968)).trans z)) (ws_q (v := undef) 23 [24, 25, 26, 27, 28, 29, 30, 31, 32, 33, 34, 35, 36, 37, 38, 39, 40, 41, 42, 43, 44, 45, 46, 47, 48, 49, 50, 51, 52, 53, 54, 55, 56, 57] (by kernel_rfl) z z (yi_off ((wanted_eq z z z (cvb hc968)).trans z)) (ws_q (v := undef) 24 [25, 26, 27, 28, 29, 30, 31, 32, 33, 34, 35, 36, 37, 38, 39, 40, 41, 42, 43, 44, 45, 46, 47, 48, 49, 50, 51, 52, 53, 54, 55, 56, 57] (by kernel_rfl) z z (yi_off ((wanted_eq z z z (cvb hc968)).trans z)) (ws_q (v := undef) 25 [26, 27, 28, 29, 30, 31, 32, 33, 34, 35, 36, 37, 38, 39, 40, 41, 42, 43, 44, 45, 46, 47, 48, 49, 50, 51, 52, 53, 54, 55, 56, 57] (by kernel_rfl) z z (yi_off ((wanted_eq z z z (cvb hc968)).trans z)) (ws_q (v := undef) 26 [27, 28, 29, 30, 31, 32, 33, 34, 35, 36, 37, 38, 39, 40, 41, 42, 43, 44, 45, 46, 47, 48, 49, 50, 51, 52, 53, 54, 55, 56, 57] (by kernel_rfl) z z (yi_off ((wanted_eq z z z (cvb hc968)).trans z)) (ws_q (v := undef) 27 [28, 29, 30, 31, 32, 33, 34, 35, 36, 37, 38, 39, 40, 41, 42, 43, 44, 45, 46, 47, 48, 49, 50, 51, 52, 53, 54, 55, 56, 57] (by kernel_rfl) z z (yi_off ((wanted_eq z z z (cvb hc968)).trans z)) (ws_q (v := undef) 28 [29, 30, 31, 32, 33, 34, 35, 36, 37, 38, 39, 40, 41, 42, 43, 44, 45, 46, 47, 48, 49, 50, 51, 52, 53, 54, 55, 56, 57] (by kernel_rfl) z z (yi_off ((wanted_eq z z z (cvb hc968)).trans z)) ?_))))))))))))
 refine ws_q (v := undef) 29 [30, 31, 32, 33, 34, 35, 36, 37, 38, 39, 40, 41, 42, 43, 44, 45, 46, 47, 48, 49, 50, 51, 52, 53, 54, 55, 56, 57] (by kernel_rfl) z z (yi_off (wanted_undef z z z z)) (ws_q (v := undef) 30 [31, 32, 33, 34, 35, 36, 37, 38, 39, 40, 41, 42, 43, 44, 45, 46, 47, 48, 49, 50, 51, 52, 53, 54, 55, 56, 57] (by kernel_rfl) z z (yi_off (wanted_undef z z z z)) (ws_q (v := undef) 31 [32, 33, 34, 35, 36, 37, 38, 39, 40, 41, 42, 43, 44, 45, 46, 47, 48, 49, 50, 51, 52, 53, 54, 55, 56, 57] (by kernel_rfl) z z (yi_off (wanted_undef z z z z)) (ws_q (v := undef) 32 [33, 34, 35, 36, 37, 38, 39, 40, 41, 42, 43, 44, 45, 46, 47, 48, 49, 50, 51, 52, 53, 54, 55, 56, 57] (by kernel_rfl) z z (yi_off (wanted_undef z z z z)) (ws_q (v := undef) 33 [34, 35, 36, 37, 38, 39, 40, 41, 42, 43, 44, 45, 46, 47, 48, 49, 50, 51, 52, 53, 54, 55, 56, 57] (by kernel_rfl) z z (yi_off (wanted_undef z z z z)) (ws_q (v := undef) 34 [35, 36, 37, 38, 39, 40, 41, 42, 43, 44, 45, 46, 47, 48, 49, 50, 51, 52, 53, 54, 55, 56, 57] (by kernel_rfl) z z (yi_off (wanted_undef z z z z)) (ws_q (v := undef) 35 [36, 37, 38, 39, 40, 41, 42, 43, 44, 45, 46, 47, 48, 49, 50, 51, 52, 53, 54, 55, 56, 57] (by kernel_rfl) z z (yi_off (wanted_undef z z z z)) (ws_q (v := undef) 36 [37, 38, 39, 40, 41, 42, 43, 44, 45, 46, 47, 48, 49, 50, 51, 52, 53, 54, 55, 56, 57] (by kernel_rfl) z z (yi_off (wanted_undef z z z z)) (ws_q (v := undef) 37 [38, 39, 40, 41, 42, 43, 44, 45, 46, 47, 48, 49, 50, 51, 52, 53, 54, 55, 56, 57] (by kernel_rfl) z z (yi_off (wanted_undef z z z z)) (ws_q (v := undef) 38 [39, 40, 41, 42, 43, 44, 45, 46, 47, 48, 49, 50, 51, 52, 53, 54, 55, 56, 57] (by kernel_rfl) z z (yi_off (wanted_undef z z z z)) (ws_q (v := undef) 39 [40, 41, 42, 43, 44, 45, 46, 47, 48, 49, 50, 51, 52, 53, 54, 55, 56, 57] (by kernel_rfl) z z (yi_off (wanted_undef z z z z)) (ws_q (v := undef) 40 [41, 42, 43, 44, 45, 46, 47, 48, 49, 50, 51, 52, 53, 54, 55, 56, 57] (by kernel_rfl) z z (yi_off (wanted_undef z z z z)) (ws_q (v := undef) 41 [42, 43, 44, 45, 46, 47, 48, 49, 50, 51, 52, 53, 54, 55, 56, 57] (by kernel_rfl) z z (yi_off (wanted_undef z z z z)) ?_))))))))))))
 refine ws_q (v := undef) 42 [43, 44, 45, 46, 47, 48, 49, 50, 51, 52, 53, 54, 55, 56, 57] (by kernel_rfl) z z (yi_off (wanted_undef z z z z)) (ws_q (v := undef) 43 [44, 45, 46, 47, 48, 49, 50, 51, 52, 53, 54, 55, 56, 57] (by kernel_rfl) z z (yi_off (wanted_undef z z z z)) (ws_q (v := undef) 44 [45, 46, 47, 48, 49, 50, 51, 52, 53, 54, 55, 56, 57] (by kernel_rfl) z z (yi_off (wanted_undef z z z z)) (ws_q (v := undef) 45 [46, 47, 48, 49, 50, 51, 52, 53, 54, 55, 56, 57] (by kernel_rfl) z z (yi_off (wanted_undef z z z z)) (ws_q (v := undef) 46 [47, 48, 49, 50, 51, 52, 53, 54, 55, 56, 57] (by kernel_rfl) z z (yi_off (wanted_undef z z z z)) (ws_q (v := undef) 47 [48, 49, 50, 51, 52, 53, 54, 55, 56, 57] (by kernel_rfl) z z (yi_off (wanted_undef z z z z)) (ws_q (v := undef) 48 [49, 50, 51, 52, 53, 54, 55, 56, 57] (by kernel_rfl) z z (yi_off (wanted_undef z z z z)) (ws_q (v := undef) 49 [50, 51, 52, 53, 54, 55, 56, 57] (by kernel_rfl) z z (yi_off (wanted_undef z z z z)) (ws_q (v := undef) 50 [51, 52, 53, 54, 55, 56, 57] (by kernel_rfl) z z (yi_off (wanted_undef z z z z)) (ws_q (v := undef) 51 [52, 53, 54, 55, 56, 57] (by kernel_rfl) z z (yi_off (wanted_undef z z z z)) (ws_q (v := undef) 52 [53, 54, 55, 56, 57] (by kernel_rfl) z z (yi_off (wanted_undef z z z z)) (ws_q (v := undef) 53 [54, 55, 56, 57] (by kernel_rfl) z z (yi_off (wanted_undef z z z z)) (ws_q (v := undef) 54 [55, 56, 57] (by kernel_rfl) z z (yi_off (wanted_undef z z z z)) ?_))))))))))))
 refine ws_q (v := undef) 55 [56, 57] (by kernel_rfl) z z (yi_off ((wanted_eq z z z (cvb hc968)).trans z)) (ws_q (v := .bool false) 56 [57] (by kernel_rfl) z z (yi_run ((wanted_eq z z z (cvb hc967)).trans z) (fun w hst => x_pick_f hc968 z z)) (wsr (.bool false) 57 z z z (by kernel_rfl) (fun w hst => x_pick_f hc967 z z) ?_))
 refine ws_nil ?_
 intro w hst
 refine tn ?_
 refine wp_iff z ?_
 refine wp_skip (blk_n (tn (wrl ?_)))
 refine wv (.int .i64 z888) z z z (wv (.int .i64 (i64.wrap (z888 + (1:Int)))) z z z (wv (.int .i64 (i64.wrap (z888 + (1:Int)))) z z z (wl_nil (tn ?_))))
 replace hst := hst.pull3.pull3.keep2
 obtain rfl := some_inj hm
 exact ⟨_, Nat.lt_succ_self _, _, (i64.wrap (z888 + (1:Int))), _, hx896, (fu 0 p0 z (fu 1 r1_0 z (fu 5 v720 z (fu 6 (.int .i64 (i64.wrap (z888 + (1:Int)))) z z)))), hL893, hst⟩
}
}
}
}
}
 {
 replace hm := bif_f hc898 hm
 refine wp_iff (cvb hc898) ?_
 refine wp_exit (then_x (then_x ?_))
 replace hm := inr_up hm hx896
 refine blk_x (tn ?_)
 replace hst := hst.keep1
 obtain rfl := some_inj hm
 exact ⟨_, _, hx981, (fu 0 p0 z (fu 1 r1_0 z z)), hL982, hst⟩
}
}
 {
 clear hst
 rintro _ w983 ⟨I977, σ978, hm, rfl, hL979, hst⟩
 dsimp only [law12_told_j0] at hm
 replace f1_0 := f1_0.mono (ro_le hL979)
 replace hI0 := hI0.trans hL979
 refine wp_seq (wp_seq (wrl (wv (.int .u64 (0:Int)) z z z (wl_nil (tn (wp_block ?_))))))
 obtain ⟨n1167, hm⟩ := loopO_some hm
 refine wp_loop_n (fun n a w => ∃ (z1165 : Int) (σ1166 : Nat → Value), loopN (law12_told_l2 a1 a0) n z1165 = some r ∧ a = Fr 135 (upd (upd (upd σ1166 0 (p0)) 1 (r1_0)) 11 (.int .u64 z1165)) ∧ St w0 w I977 [objO at_locks_Table p0 a0] R) n1167 ⟨(0:Int), _, hm, (fu 0 p0 z (fu 1 r1_0 z (fu 11 (.int .u64 (0:Int)) z z))), hst⟩ ?_
 rintro n1173 _ w1168 ⟨z1165, σ1166, hm, rfl, hst⟩
 obtain ⟨n1170, y1171, rfl, hm, hx1172⟩ := loopN_some hm
 dsimp only [law12_told_l2] at hm
 refine wp_seq (wp_seq (wrl (wv (.int .u64 z1165) z z z (wv (.bool (decide (z1165 < (6:Int)))) z z z (wl_nil (tn ?_))))))
 refine bsplit (decide (z1165 < (6:Int))) (fun hc1174 => ?_) (fun hc1174 => ?_)
 {
 replace hm := bif_t hc1174 hm
 refine wp_ift (cvb hc1174) ?_
 refine wp_skip (tn (wp_seq (wp_block (wp_seq (wrl ?_)))))
 refine wv (.bool false) z z z (wl_nil (tn ?_))
 obtain ⟨y1255, hm, hx1256⟩ := bind_some hm
 refine wp_cut (fun a w => ∃ (z1252 : Bool) (σ1253 : Nat → Value), (law12_told_j3 a0 z1165) z1252 = some y1171 ∧ a = Fr 135 (upd (upd (upd (upd σ1253 0 (p0)) 1 (r1_0)) 11 (.int .u64 z1165)) 12 (.bool z1252)) ∧ St w0 w I977 [objO at_locks_Table p0 a0] R) ?_ ?_
 {
 refine wp_seq (wrl (wv (.int .i64 (0:Int)) z z z (wl_nil (tn (wp_block ?_)))))
 obtain ⟨n1223, hm⟩ := loopO_some hm
 refine wp_loop_n (fun n a w => ∃ (z1220 : Bool) (z1221 : Int) (σ1222 : Nat → Value), loopN (law12_told_l4 a1 z1165) n (z1220, z1221) = some y1255 ∧ a = Fr 135 (upd (upd (upd (upd (upd σ1222 0 (p0)) 1 (r1_0)) 11 (.int .u64 z1165)) 12 (.bool z1220)) 13 (.int .i64 z1221)) ∧ St w0 w I977 [objO at_locks_Table p0 a0] R) n1223 ⟨false, (0:Int), _, hm, (fu 0 p0 z (fu 1 r1_0 z (fu 11 (.int .u64 z1165) z (fu 12 (.bool false) z (fu 13 (.int .i64 (0:Int)) z z))))), hst⟩ ?_
 rintro n1229 _ w1224 ⟨z1220, z1221, σ1222, hm, rfl, hst⟩
 obtain ⟨n1226, y1227, rfl, hm, hx1228⟩ := loopN_some hm
 dsimp only [law12_told_l4] at hm
 refine wp_seq (wp_seq (wrl (wv (.int .i64 z1221) z z z (wv (r1_0) z z z (wv (.int .i64 ((a1).length : Int)) z z (x_len z underlying22 (ro_sliceV f1_0)) (wv (.bool (decide (z1221 < ((a1).length : Int)))) z z z (wl_nil (tn ?_))))))))
 refine bsplit (decide (z1221 < ((a1).length : Int))) (fun hc1230 => ?_) (fun hc1230 => ?_)
 {
 replace hm := bif_t hc1230 hm
 refine wp_ift (cvb hc1230) ?_
 refine wp_skip (tn (wp_seq (wp_block (wrl ?_))))
 refine wv (.bool z1220) z z z (wv (.bool z1220) z z z ?_)
 refine bsplit z1220 (fun hc1231 => ?_) (fun hc1231 => ?_)
 {
 replace hm := bif_t hc1231 hm
 refine wo hc1231 z z z z z z (wo hc1231 z z z z z z (wo hc1231 z z z z z z (wo hc1231 z z z z z z (wo hc1231 z z z z z z (wo hc1231 z z z z z z (wo hc1231 z z z z z z (wv (.bool true) z z (x_pick_t hc1231 z z) (wv (.bool true) z z z (wl_nil (blk_n (tn (wrl (wv (.int .i64 z1221) z z z (wv (.int .i64 (i64.wrap (z1221 + (1:Int)))) z z z (wv (.int .i64 (i64.wrap (z1221 + (1:Int)))) z z z ?_)))))))))))))))
 refine wl_nil (tn ?_)
 replace hst := hst.keep1
 obtain rfl := some_inj hm
 exact ⟨_, Nat.lt_succ_self _, true, (i64.wrap (z1221 + (1:Int))), _, hx1228, (fu 0 p0 z (fu 1 r1_0 z (fu 11 (.int .u64 z1165) z (fu 12 (.bool true) z (fu 13 (.int .i64 (i64.wrap (z1221 + (1:Int)))) z z))))), hst⟩
}
 {
 replace hm := bif_f hc1231 hm
 refine wv (r1_0) ((wanted_eq z z z (cvb hc1231)).trans z) z z (wv (.int .i64 z1221) ((wanted_eq z z z (cvb hc1231)).trans z) z z ?_)
 obtain ⟨x1232, hx1233, hm⟩ := bind_some hm
 obtain ⟨h1234, h1235, hi1236⟩ := geto_some hx1233
 refine wv (.pointer (some (eAddr r1_0 (z1221.toNat * 7 + 0)))) ((wanted_eq z z z (cvb hc1231)).trans z) z (x_index z z underlying22 sizeOf34 (ro_sliceV f1_0) h1234 h1235) (wv (.pointer (some (eAddr r1_0 (z1221.toNat * 7 + 2)))) ((wanted_eq z z z (cvb hc1231)).trans z) z (x_field_e z underlying34 z sizeOf27 z) ?_)
 obtain ⟨cs1237, hr1238, hc1239⟩ := Ro.getF f1_0 hi1236
 obtain ⟨v1240, v1243, v1246, v1249, rfl, f1241, f1244, f1247, f1250, -⟩ := hr1238
 refine wv (.int .u64 x1232.Epoch) ((wanted_eq z z z (cvb hc1231)).trans z) z (x_load z isAgg27 ((hc1239 (HL.le.refl _) hst) 2 _ z)) (wv (.int .u64 z1165) ((wanted_eq z z z (cvb hc1231)).trans z) z z (wv (.bool (decide (x1232.Epoch ≤ z1165))) ((wanted_eq z z z (cvb hc1231)).trans z) z z (wv (.bool (decide (x1232.Epoch ≤ z1165))) z z (x_pick_f hc1231 z z) (wv (.bool (decide (x1232.Epoch ≤ z1165))) z z z (wl_nil (blk_n (tn (wrl (wv (.int .i64 z1221) z z z (wv (.int .i64 (i64.wrap (z1221 + (1:Int)))) z z z (wv (.int .i64 (i64.wrap (z1221 + (1:Int)))) z z z (wl_nil (tn ?_)))))))))))))
 replace hst := hst.keep1
 obtain rfl := some_inj hm
 exact ⟨_, Nat.lt_succ_self _, (decide (x1232.Epoch ≤ z1165)), (i64.wrap (z1221 + (1:Int))), _, hx1228, (fu 0 p0 z (fu 1 r1_0 z (fu 11 (.int .u64 z1165) z (fu 12 (.bool (decide (x1232.Epoch ≤ z1165))) z (fu 13 (.int .i64 (i64.wrap (z1221 + (1:Int)))) z z))))), hst⟩
}
}
 {
 replace hm := bif_f hc1230 hm
 refine wp_iff (cvb hc1230) ?_
 refine wp_exit (then_x (then_x ?_))
 replace hm := inr_up hm hx1228
 refine blk_x (tn ?_)
 replace hst := hst.keep1
 obtain rfl := some_inj hm
 exact ⟨z1220, _, hx1256, (fu 0 p0 z (fu 1 r1_0 z (fu 11 (.int .u64 z1165) z (fu 12 (.bool z1220) z z)))), hst⟩
}
}
 {
 clear hst
 rintro _ w1257 ⟨z1252, σ1253, hm, rfl, hst⟩
 dsimp only [law12_told_j3] at hm
 refine wp_seq (wrl (wv (p0) z z z (wv (.int .u64 z1165) z z z ?_)))
 obtain ⟨t1258, ht1259, hm⟩ := bind_some hm
 refine wc call28 [p0, U6 z1165] z z z ?_
 refine (locks_Table_Until_ref hst.to1 ht1259).mono ?_
 rintro _ w1260 ⟨rfl, hst⟩
 refine ⟨_, z, ?_⟩
 replace hst := hst.of1
 refine wv (.bool z1252) z z z (wv (.bool (!(t1258 == z1252))) z z (by kernel_rfl) (wl_nil (tn ?_)))
 refine bsplit (!(t1258 == z1252)) (fun hc1263 => ?_) (fun hc1263 => ?_)
 {
 replace hm := bif_t hc1263 hm
 refine wp_ift (cvb hc1263) ?_
 refine wp_seq (wrl (wv (.bool false) z z z (wl_nil (tn (wp_ret (blk_r (then_r (then_r ?_))))))))
 replace hm := inr_up hm hx1172
 refine blk_r (then_r ?_)
 obtain rfl := some_inj hm
 refine post_ret (vs := [.bool false]) results26 (rvs_cons (rv_tmp z) rvs_nil) ?_
 exact ⟨_, z, hI0, hst.keep1⟩
}
 {
 replace hm := bif_f hc1263 hm
 refine wp_iff (cvb hc1263) ?_
 refine wp_skip (blk_n (tn (wrl ?_)))
 refine wv (.int .u64 z1165) z z z (wv (.int .u64 (u64.wrap (z1165 + (1:Int)))) z z z (wv (.int .u64 (u64.wrap (z1165 + (1:Int)))) z z z (wl_nil (tn ?_))))
 replace hst := hst.keep1
 obtain rfl := some_inj hm
 exact ⟨_, Nat.lt_succ_self _, (u64.wrap (z1165 + (1:Int))), _, hx1172, (fu 0 p0 z (fu 1 r1_0 z (fu 11 (.int .u64 (u64.wrap (z1165 + (1:Int)))) z z))), hst⟩
}
}
}
 {
 replace hm := bif_f hc1174 hm
 refine wp_iff (cvb hc1174) ?_
 refine wp_exit (then_x (then_x ?_))
 replace hm := inr_up hm hx1172
 refine blk_x (tn (wp_seq (wrl ?_)))
 refine wv (.bool true) z z z (wl_nil (tn (wp_ret ?_)))
 obtain rfl := some_inj hm
 refine post_ret (vs := [.bool true]) results26 (rvs_cons (rv_tmp z) rvs_nil) ?_
 exact ⟨_, z, hI0, hst.keep1⟩
}
}
}
}
}

theorem law12_LocksPlays_ref {w0 w : World} {I : HL} {R : SP} {a0 : (List Int)} {r0_0 : Value} (f0_0 : Ro (tyInt .u8) I r0_0 a0) (hst : St w0 w I [] R) {r : (Bool)} (hm : law12_LocksPlays a0 = some r) :
  Calls prog 5 #[r0_0] w fun e w' => ∃ (I' : HL), e = .returned (.bool r) ∧ I.le I' ∧ St w0 w' I' [] R := by {
 unfold law12_LocksPlays at hm
 refine calls_start (args := [r0_0]) func5 z ntmps5 (Nat.le_of_ble_eq_true z) ?_
 have hI0 := HL.le.refl I
 refine wp_seq (wrl (wv (.bool false) z z z (wl_nil (tn (wp_seq (wp_seq (wrl ?_)))))))
 obtain ⟨t592, ht593, hm⟩ := bind_some hm
 refine wc call9 [] z z z ?_
 refine (law12_awake_ref hst.to0 ht593).mono ?_
 rintro _ w594 ⟨I595, rfl, hI596, hst⟩
 refine ⟨_, z, ?_⟩
 replace hst := hst.of0
 replace f0_0 := f0_0.mono (ro_le hI596)
 replace hI0 := hI0.trans hI596
 refine wv (.bool (!t592)) z z z (wv (.bool (!t592)) z z z ?_)
 refine bsplit (!t592) (fun hc597 => ?_) (fun hc597 => ?_)
 {
 replace hm := bif_t hc597 hm
 refine wo hc597 z z z z z z (wo hc597 z z z z z z (wo hc597 z z z z z z (wv (.bool true) z z (x_pick_t hc597 z z) (wl_nil (tn ?_)))))
 refine wp_ift z ?_
 refine wp_seq (wrl ?_)
 obtain ⟨t598, ht599, hm⟩ := bind_some hm
 refine wc call9 [] z z z ?_
 refine (law12_awake_ref hst.to0 ht599).mono ?_
 rintro _ w600 ⟨I601, rfl, hI602, hst⟩
 refine ⟨_, z, ?_⟩
 replace hst := hst.of0
 replace f0_0 := f0_0.mono (ro_le hI602)
 replace hI0 := hI0.trans hI602
 refine wv (.bool t598) z z z (wl_nil (tn (wp_ret (then_r ?_))))
 obtain rfl := some_inj hm
 refine post_ret (vs := [.bool t598]) results5 (rvs_cons (rv_tmp z) rvs_nil) ?_
 exact ⟨_, z, hI0, hst.keep0⟩
}
 {
 replace hm := bif_f hc597 hm
 refine wv (r0_0) ((wanted_eq z z z (cvb hc597)).trans z) z z (wv (.int .i64 ((a0).length : Int)) ((wanted_eq z z z (cvb hc597)).trans z) z (x_len z underlying32 (ro_sliceV f0_0)) (wv (.bool (decide (((a0).length : Int) > (500:Int)))) ((wanted_eq z z z (cvb hc597)).trans z) z z (wv (.bool (decide (((a0).length : Int) > (500:Int)))) z z (x_pick_f hc597 z z) (wl_nil (tn ?_)))))
 refine bsplit (decide (((a0).length : Int) > (500:Int))) (fun hc603 => ?_) (fun hc603 => ?_)
 {
 replace hm := bif_t hc603 hm
 refine wp_ift (cvb hc603) ?_
 refine wp_seq (wrl ?_)
 obtain ⟨t604, ht605, hm⟩ := bind_some hm
 refine wc call9 [] z z z ?_
 refine (law12_awake_ref hst.to0 ht605).mono ?_
 rintro _ w606 ⟨I607, rfl, hI608, hst⟩
 refine ⟨_, z, ?_⟩
 replace hst := hst.of0
 replace f0_0 := f0_0.mono (ro_le hI608)
 replace hI0 := hI0.trans hI608
 refine wv (.bool t604) z z z (wl_nil (tn (wp_ret (then_r ?_))))
 obtain rfl := some_inj hm
 refine post_ret (vs := [.bool t604]) results5 (rvs_cons (rv_tmp z) rvs_nil) ?_
 exact ⟨_, z, hI0, hst.keep0⟩
}
 {
 replace hm := bif_f hc603 hm
 refine wp_iff (cvb hc603) ?_
 refine wp_skip (tn (wp_seq (wrl ?_)))
 refine wv (r0_0) z z z (wv (.agg #[r0_0, Zi]) z z (by obtain ⟨_, _, hv_, _⟩ := (ro_sliceV f0_0); rw [hv_]; kernel_rfl) ?_)
 obtain ⟨b610, w611, ew612, eb613, hst⟩ := hst.box [r0_0, Zi] 45
 refine wl_run (v := Pt b610 0) (w' := w611) z z (x_al (by kernel_rfl) ew612 eb613) ?_
 refine wv (Pt b610 0) z z z (wl_nil (tn (wp_seq (wrl ?_))))
 obtain ⟨t615, ht616, hm⟩ := bind_some hm
 refine wc call10 [] z z z ?_
 refine (locks_New_ref hst.to0 ht616).mono ?_
 rintro _ w617 ⟨v620, rfl, hst⟩
 refine ⟨_, z, ?_⟩
 replace hst := hst.of1
 refine wv (v620) z z z (wl_nil (tn (wp_seq (wrl (wv ((.slice none 0 0)) z z z (wl_nil (tn (wp_seq (wp_seq (wrl (wv (.int .i64 (0:Int)) z z z (wl_nil (tn (wp_block ?_))))))))))))))
 replace hst := hst.pull1
 replace hst := at_ref12_Tape_close (pv := Pt b610 0) (x := ({ L := a0, I := (0:Int) } : ref12_Tape)) hst ⟨z, f0_0⟩
 have f758 : Ro ty_api_Hold I595 (.slice none 0 0) [] := ro_nil
 obtain ⟨n1041, hm⟩ := loopO_some hm
 refine wp_loop_n (fun n a w => ∃ (I1039 : HL) (z1032 : ref12_Tape) (z1033 : locks_Table) (z1034 : (List api_Hold)) (z1038 : Int) (v1035 : Value) (σ1040 : Nat → Value), loopN (law12_LocksPlays_l0) n (z1032, z1033, z1034, z1038) = some r ∧ a = Fr 67 (upd (upd (upd (upd σ1040 3 (Pt b610 0)) 4 (v620)) 5 (v1035)) 6 (.int .i64 z1038)) ∧ I595.le I1039 ∧ Ro ty_api_Hold I1039 v1035 z1034 ∧ St w0 w I1039 [at_ref12_Tape (Pt b610 0) z1032, at_locks_Table v620 z1033] R) n1041 ⟨_, ({ L := a0, I := (0:Int) } : ref12_Tape), t615, [], (0:Int), Zs, _, hm, (fu 3 (Pt b610 0) z (fu 4 v620 z (fu 5 (.slice none 0 0) z (fu 6 (.int .i64 (0:Int)) z z)))), (HL.le.refl _), f758, hst⟩ ?_
 rintro n1047 _ w1042 ⟨I1039, z1032, z1033, z1034, z1038, v1035, σ1040, hm, rfl, hL1043, f1037, hst⟩
 obtain ⟨n1044, y1045, rfl, hm, hx1046⟩ := loopN_some hm
 dsimp only [law12_LocksPlays_l0] at hm
 replace f0_0 := f0_0.mono (ro_le hL1043)
 replace f758 := f758.mono (ro_le hL1043)
 replace hI0 := hI0.trans hL1043
 refine wp_seq (wp_seq (wrl (wv (.int .i64 z1038) z z z (wv (.bool (decide (z1038 < (25:Int)))) z z z (wl_nil (tn ?_))))))
 refine bsplit (decide (z1038 < (25:Int))) (fun hc1048 => ?_) (fun hc1048 => ?_)
 {
 replace hm := bif_t hc1048 hm
 refine wp_ift (cvb hc1048) ?_
 refine wp_skip (tn (wp_seq (wp_block ?_)))
 obtain ⟨y1171, hm, hx1172⟩ := joinO_some hm
 refine wp_cut (fun a w => ∃ (I1168 : HL) (z1162 : ref12_Tape) (z1163 : locks_Table) (z1166 : (List api_Hold)) (v1165 : Value) (σ1169 : Nat → Value), (law12_LocksPlays_j1 z1038) (z1162, z1163, z1166) = some y1045 ∧ a = Fr 67 (upd (upd (upd (upd σ1169 3 (Pt b610 0)) 4 (v620)) 5 (v1165)) 6 (.int .i64 z1038)) ∧ I1039.le I1168 ∧ Ro ty_api_Hold I1168 v1165 z1166 ∧ St w0 w I1168 [at_ref12_Tape (Pt b610 0) z1162, at_locks_Table v620 z1163] R) ?_ ?_
 {
 have hL1173 := HL.le.refl I1039
 refine wp_seq (wrl (wv (Pt b610 0) z z z ?_))
 obtain ⟨t1049, ht1050, hm⟩ := bind_some hm
 refine wc call20 [Pt b610 0, I6 (3:Int)] z z z ?_
 refine (ref12_Tape_Next_ref hst.to1 ht1050).mono ?_
 rintro _ w1051 ⟨rfl, hst⟩
 refine ⟨_, z, ?_⟩
 replace hst := hst.of1
 refine wv (.bool (t1049.1 == (0:Int))) z z z (wl_nil (tn ?_))
 refine bsplit (t1049.1 == (0:Int)) (fun hc1054 => ?_) (fun hc1054 => ?_)
 {
 replace hm := bif_t hc1054 hm
 refine wp_ift (cvb hc1054) ?_
 refine wp_seq (wrl (wv (Pt b610 0) z z z ?_))
 obtain ⟨t1055, ht1056, hm⟩ := bind_some hm
 refine wc call21 [Pt b610 0] z z z ?_
 refine (ref12_Tape_Of_ref hst.to1 ht1056).mono ?_
 rintro _ w1057 ⟨rfl, hst⟩
 refine ⟨_, z, ?_⟩
 replace hst := hst.of1
 obtain ⟨b1060, w1061, ew1062, eb1063, hst⟩ := hst.box [Zu, Zu] 29
 refine wl_run (v := Pt b1060 0) (w' := w1061) z z (x_al (by kernel_rfl) ew1062 eb1063) ?_
 obtain ⟨w1065, hr1066, hst⟩ := hst.bx [U6 t1055.1.Session, U6 t1055.1.Seq] sizeOf29 z (oC z (oC z oN)) (by kernel_rfl)
 refine wl_unit z z (x_unit hr1066) ?_
 refine wl_nil (tn (wp_seq (wrl (wv (v1035) z z z (wv (.agg #[U6 t1055.1.Session, U6 t1055.1.Seq]) z z (x_loadN (cs := [U6 t1055.1.Session, U6 t1055.1.Seq]) z isAgg29 sizeOf29 (hst.bcs0 0 z)) ?_)))))
 obtain ⟨t1067, ht1068, hm⟩ := bind_some hm
 refine wc call22 [v1035, .agg #[U6 t1055.1.Session, U6 t1055.1.Seq]] z z z ?_
 refine (ref11_Held_ref f1037 hst.to0 ht1068).mono ?_
 rintro _ w1069 ⟨I1070, v1072, v1075, v1078, v1081, rfl, hI1071, f1074, f1077, f1080, f1083, hst⟩
 refine ⟨_, z, ?_⟩
 replace hst := hst.of0
 replace f0_0 := f0_0.mono (ro_le hI1071)
 replace f758 := f758.mono (ro_le hI1071)
 replace f1037 := f1037.mono (ro_le hI1071)
 replace hI0 := hI0.trans hI1071
 replace hL1043 := hL1043.trans hI1071
 replace hL1173 := hL1173.trans hI1071
 refine wv (.tuple #[.agg #[U6 t1067.1.ID.Session, U6 t1067.1.ID.Seq, U6 t1067.1.Epoch, v1072, v1075, v1078, v1081], .bool t1067.2]) z z z (wv (.agg #[U6 t1067.1.ID.Session, U6 t1067.1.ID.Seq, U6 t1067.1.Epoch, v1072, v1075, v1078, v1081]) z z z (wv (.bool t1067.2) z z z ?_))
 obtain ⟨b1088, w1089, ew1090, eb1091, hst⟩ := hst.box [Zu, Zu, Zu, Zs, Zs, Zs, Zs] 34
 refine wl_run (v := Pt b1088 0) (w' := w1089) z z (x_al (by kernel_rfl) ew1090 eb1091) ?_
 obtain ⟨w1093, hr1094, hst⟩ := hst.bx [U6 t1067.1.ID.Session, U6 t1067.1.ID.Seq, U6 t1067.1.Epoch, v1072, v1075, v1078, v1081] sizeOf34 z (oC z (oC z (oC z (oC (one_of_sliceV (ro_sliceV f1074)) (oC (one_of_sliceV (ro_sliceV f1077)) (oC (one_of_sliceV (ro_sliceV f1080)) (oC (one_of_sliceV (ro_sliceV f1083)) oN))))))) (by kernel_rfl)
 refine wl_unit z z (x_unit hr1094) ?_
 refine wv (.bool t1067.2) z z z (wl_nil (tn (wp_seq (wrl (wv (v1035) z z z (wv (.agg #[U6 t1055.1.Session, U6 t1055.1.Seq]) z z (x_loadN (cs := [U6 t1055.1.Session, U6 t1055.1.Seq]) z isAgg29 sizeOf29 (hst.bcs1 0 z)) ?_))))))
 obtain ⟨t1095, ht1096, hm⟩ := bind_some hm
 refine wc call23 [v1035, .agg #[U6 t1055.1.Session, U6 t1055.1.Seq]] z z z ?_
 refine (ref11_Drop_ref f1037 hst.to0 ht1096).mono ?_
 rintro _ w1097 ⟨v1100, rfl, hst⟩
 refine ⟨_, z, ?_⟩
 replace hst := hst.of1
 refine wv (v1100) z z z (wl_nil (tn (wp_seq (wrl (wv (v620) z z z (wv (.agg #[U6 t1055.1.Session, U6 t1055.1.Seq]) z z (x_loadN (cs := [U6 t1055.1.Session, U6 t1055.1.Seq]) z isAgg29 sizeOf29 (hst.bcs2 0 z)) ?_))))))
 replace hst := hst.pull4
 replace hst := objO_some hst
 obtain ⟨t1102, ht1103, hm⟩ := bind_some hm
 refine wc call24 [v620, .agg #[U6 t1055.1.Session, U6 t1055.1.Seq]] z z z ?_
 refine (locks_Table_Drop_ref hst.to1 ht1103).mono ?_
 rintro _ w1104 ⟨rfl, hst⟩
 refine ⟨_, z, ?_⟩
 replace hst := hst.of1
 rcases he1108 : t1102.2 with _ | y1107
 · rw [he1108] at hm; cases hm
 rw [he1108] at hm hst; dsimp only at hm; replace hst := objO_get hst
 refine wv (.bool t1067.2) z z z (wv (.bool (!(t1102.1 == t1067.2))) z z (by kernel_rfl) (wl_nil (tn ?_)))
 refine bsplit (!(t1102.1 == t1067.2)) (fun hc1109 => ?_) (fun hc1109 => ?_)
 {
 replace hm := bif_t hc1109 hm
 refine wp_ift (cvb hc1109) ?_
 refine wp_seq (wrl (wv (.bool false) z z z (wl_nil (tn (wp_ret (then_r ?_))))))
 replace hm := inr_up hm hx1172
 refine blk_r (then_r (then_r ?_))
 replace hm := inr_up hm hx1046
 refine blk_r (then_r ?_)
 obtain rfl := some_inj hm
 refine post_ret (vs := [.bool false]) results5 (rvs_cons (rv_tmp z) rvs_nil) ?_
 exact ⟨_, z, hI0, hst.keep0⟩
}
 {
 replace hm := bif_f hc1109 hm
 refine wp_iff (cvb hc1109) ?_
 refine wp_skip (tn ?_)
 replace hst := hst.pull1
 obtain ⟨I1110, hI1111, f1112, hst⟩ := hst.own_fix
 replace f0_0 := f0_0.mono (ro_le hI1111)
 replace f758 := f758.mono (ro_le hI1111)
 replace f1037 := f1037.mono (ro_le hI1111)
 replace f1074 := f1074.mono (ro_le hI1111)
 replace f1077 := f1077.mono (ro_le hI1111)
 replace f1080 := f1080.mono (ro_le hI1111)
 replace f1083 := f1083.mono (ro_le hI1111)
 replace hI0 := hI0.trans hI1111
 replace hL1043 := hL1043.trans hI1111
 replace hL1173 := hL1173.trans hI1111
 replace hst := hst.pull3.keep2
 obtain rfl := some_inj hm
 exact ⟨_, t1055.2, y1107, t1095, v1100, _, hx1172, (fu 3 (Pt b610 0) z (fu 4 v620 z (fu 5 v1100 z (fu 6 (.int .i64 z1038) z z)))), hL1173, f1112, hst⟩
}
}
 {
 replace hm := bif_f hc1054 hm
 refine wp_iff (cvb hc1054) ?_
 refine wp_seq (wrl (wv (Pt b610 0) z z z ?_))
 obtain ⟨t1110, ht1111, hm⟩ := bind_some hm
 refine wc call16 [Pt b610 0] z z z ?_
 refine (ref12_Tape_Hold_ref hst.to1 ht1111).mono ?_
 rintro _ w1112 ⟨v1115, v1117, v1119, v1121, rfl, hst⟩
 refine ⟨_, z, ?_⟩
 replace hst := hst.of5
 obtain ⟨b1127, w1128, ew1129, eb1130, hst⟩ := hst.box [Zu, Zu, Zu, Zs, Zs, Zs, Zs] 34
 refine wl_run (v := Pt b1127 0) (w' := w1128) z z (x_al (by kernel_rfl) ew1129 eb1130) ?_
 obtain ⟨w1132, hr1133, hst⟩ := hst.bx [U6 t1110.1.ID.Session, U6 t1110.1.ID.Seq, U6 t1110.1.Epoch, v1115, v1117, v1119, v1121] sizeOf34 z (oC z (oC z (oC z (oC (one_of_sliceV hst.sv1) (oC (one_of_sliceV hst.sv2) (oC (one_of_sliceV hst.sv3) (oC (one_of_sliceV hst.sv4) oN))))))) (by kernel_rfl)
 refine wl_unit z z (x_unit hr1133) ?_
 refine wl_nil (tn (wp_seq (wrl (wv (v1035) z z z (wv (.agg #[U6 t1110.1.ID.Session, U6 t1110.1.ID.Seq, U6 t1110.1.Epoch, v1115, v1117, v1119, v1121]) z z (x_loadN (cs := [U6 t1110.1.ID.Session, U6 t1110.1.ID.Seq, U6 t1110.1.Epoch, v1115, v1117, v1119, v1121]) z isAgg34 sizeOf34 (hst.bcs0 0 z)) ?_)))))
 replace hst := hst.pull1
 obtain ⟨I1134, hI1135, f1136, hst⟩ := hst.own_fix
 replace f0_0 := f0_0.mono (ro_le hI1135)
 replace f758 := f758.mono (ro_le hI1135)
 replace f1037 := f1037.mono (ro_le hI1135)
 replace hI0 := hI0.trans hI1135
 replace hL1043 := hL1043.trans hI1135
 replace hL1173 := hL1173.trans hI1135
 replace hst := hst.pull1
 obtain ⟨I1137, hI1138, f1139, hst⟩ := hst.own_fix
 replace f0_0 := f0_0.mono (ro_le hI1138)
 replace f758 := f758.mono (ro_le hI1138)
 replace f1037 := f1037.mono (ro_le hI1138)
 replace f1136 := f1136.mono (ro_le hI1138)
 replace hI0 := hI0.trans hI1138
 replace hL1043 := hL1043.trans hI1138
 replace hL1173 := hL1173.trans hI1138
 replace hst := hst.pull1
 obtain ⟨I1140, hI1141, f1142, hst⟩ := hst.own_fix
 replace f0_0 := f0_0.mono (ro_le hI1141)
 replace f758 := f758.mono (ro_le hI1141)
 replace f1037 := f1037.mono (ro_le hI1141)
 replace f1136 := f1136.mono (ro_le hI1141)
 replace f1139 := f1139.mono (ro_le hI1141)
 replace hI0 := hI0.trans hI1141
 replace hL1043 := hL1043.trans hI1141
 replace hL1173 := hL1173.trans hI1141
 replace hst := hst.pull1
 obtain ⟨I1143, hI1144, f1145, hst⟩ := hst.own_fix
 replace f0_0 := f0_0.mono (ro_le hI1144)
 replace f758 := f758.mono (ro_le hI1144)
 replace f1037 := f1037.mono (ro_le hI1144)
 replace f1136 := f1136.mono (ro_le hI1144)
 replace f1139 := f1139.mono (ro_le hI1144)
 replace f1142 := f1142.mono (ro_le hI1144)
 replace hI0 := hI0.trans hI1144
 replace hL1043 := hL1043.trans hI1144
 replace hL1173 := hL1173.trans hI1144
 obtain ⟨t1146, ht1147, hm⟩ := bind_some hm
 refine wc call25 [v1035, .agg #[U6 t1110.1.ID.Session, U6 t1110.1.ID.Seq, U6 t1110.1.Epoch, v1115, v1117, v1119, v1121]] z z z ?_
 refine (ref11_Take_ref f1037 f1136 f1139 f1142 f1145 hst.to0 ht1147).mono ?_
 rintro _ w1148 ⟨I1149, v1151, rfl, hI1150, f1153, hst⟩
 refine ⟨_, z, ?_⟩
 replace hst := hst.of0
 replace f0_0 := f0_0.mono (ro_le hI1150)
 replace f758 := f758.mono (ro_le hI1150)
 replace f1037 := f1037.mono (ro_le hI1150)
 replace f1136 := f1136.mono (ro_le hI1150)
 replace f1139 := f1139.mono (ro_le hI1150)
 replace f1142 := f1142.mono (ro_le hI1150)
 replace f1145 := f1145.mono (ro_le hI1150)
 replace hI0 := hI0.trans hI1150
 replace hL1043 := hL1043.trans hI1150
 replace hL1173 := hL1173.trans hI1150
 refine wv (.tuple #[v1151, .bool t1146.2]) z z z (wv (v1151) z z z (wv (.bool t1146.2) z z z (wv (v1151) z z z (wv (.bool t1146.2) z z z (wl_nil (tn (wp_seq (wrl (wv (v1151) z z z (wv (v1151) z z z (wl_nil (tn (wp_seq (wrl (wv (v620) z z z (wv (.agg #[U6 t1110.1.ID.Session, U6 t1110.1.ID.Seq, U6 t1110.1.Epoch, v1115, v1117, v1119, v1121]) z z (x_loadN (cs := [U6 t1110.1.ID.Session, U6 t1110.1.ID.Seq, U6 t1110.1.Epoch, v1115, v1117, v1119, v1121]) z isAgg34 sizeOf34 (hst.bcs0 0 z)) ?_))))))))))))))))
 replace hst := hst.pull2
 replace hst := objO_some hst
 obtain ⟨t1154, ht1155, hm⟩ := bind_some hm
 refine wc call12 [v620, .agg #[U6 t1110.1.ID.Session, U6 t1110.1.ID.Seq, U6 t1110.1.Epoch, v1115, v1117, v1119, v1121]] z z z ?_
 refine (locks_Table_Take_ref (f1136.mono ro_rd) (f1139.mono ro_rd) (f1142.mono ro_rd) (f1145.mono ro_rd) hst.to1 ht1155).mono ?_
 rintro _ w1156 ⟨I1157, rfl, hI1158, hst⟩
 refine ⟨_, z, ?_⟩
 replace hst := hst.of1
 replace f0_0 := f0_0.mono (ro_le hI1158)
 replace f758 := f758.mono (ro_le hI1158)
 replace f1037 := f1037.mono (ro_le hI1158)
 replace f1136 := f1136.mono (ro_le hI1158)
 replace f1139 := f1139.mono (ro_le hI1158)
 replace f1142 := f1142.mono (ro_le hI1158)
 replace f1145 := f1145.mono (ro_le hI1158)
 replace f1153 := f1153.mono (ro_le hI1158)
 replace hI0 := hI0.trans hI1158
 replace hL1043 := hL1043.trans hI1158
 replace hL1173 := hL1173.trans hI1158
 rcases he1160 : t1154.2 with _ | y1159
 · rw [he1160] at hm; cases hm
 rw [he1160] at hm hst; dsimp only at hm; replace hst := objO_get hst
 refine wv (.bool (t1154.1 == (0:Int))) z z z (wv (.bool t1146.2) z z z (wv (.bool (!((t1154.1 == (0:Int)) == t1146.2))) z z (by kernel_rfl) (wl_nil (tn ?_))))
 refine bsplit (!((t1154.1 == (0:Int)) == t1146.2)) (fun hc1161 => ?_) (fun hc1161 => ?_)
 {
 replace hm := bif_t hc1161 hm
 refine wp_ift (cvb hc1161) ?_
 refine wp_seq (wrl (wv (.bool false) z z z (wl_nil (tn (wp_ret (then_r ?_))))))
 replace hm := inr_up hm hx1172
 refine blk_r (then_r (then_r ?_))
 replace hm := inr_up hm hx1046
 refine blk_r (then_r ?_)
 obtain rfl := some_inj hm
 refine post_ret (vs := [.bool false]) results5 (rvs_cons (rv_tmp z) rvs_nil) ?_
 exact ⟨_, z, hI0, hst.keep0⟩
}
 {
 replace hm := bif_f hc1161 hm
 refine wp_iff (cvb hc1161) ?_
 refine wp_skip (tn ?_)
 replace hst := hst.pull2.keep2
 obtain rfl := some_inj hm
 exact ⟨_, t1110.2, y1159, t1146.1, v1151, _, hx1172, (fu 3 (Pt b610 0) z (fu 4 v620 z (fu 5 v1151 z (fu 6 (.int .i64 z1038) z z)))), hL1173, f1153, hst⟩
}
}
}
 {
 clear hst
 rintro _ w1174 ⟨I1168, z1162, z1163, z1166, v1165, σ1169, hm, rfl, hL1170, f1167, hst⟩
 dsimp only [law12_LocksPlays_j1] at hm
 replace f0_0 := f0_0.mono (ro_le hL1170)
 replace f758 := f758.mono (ro_le hL1170)
 replace f1037 := f1037.mono (ro_le hL1170)
 replace hI0 := hI0.trans hL1170
 replace hL1043 := hL1043.trans hL1170
 refine wp_seq (wrl (wv (v620) z z z (wv (v1165) z z z ?_)))
 replace hst := hst.pull1
 replace hst := objO_some hst
 obtain ⟨t1175, ht1176, hm⟩ := bind_some hm
 refine wc call26 [v620, v1165] z z z ?_
 refine (law12_told_ref f1167 hst.to1 ht1176).mono ?_
 rintro _ w1177 ⟨I1178, rfl, hI1179, hst⟩
 refine ⟨_, z, ?_⟩
 replace hst := hst.of1
 replace f0_0 := f0_0.mono (ro_le hI1179)
 replace f758 := f758.mono (ro_le hI1179)
 replace f1037 := f1037.mono (ro_le hI1179)
 replace f1167 := f1167.mono (ro_le hI1179)
 replace hI0 := hI0.trans hI1179
 replace hL1043 := hL1043.trans hI1179
 replace hst := objO_get hst
 refine wv (.bool (!t1175)) z z z (wl_nil (tn ?_))
 refine bsplit (!t1175) (fun hc1180 => ?_) (fun hc1180 => ?_)
 {
 replace hm := bif_t hc1180 hm
 refine wp_ift (cvb hc1180) ?_
 refine wp_seq (wrl (wv (.bool false) z z z (wl_nil (tn (wp_ret (blk_r (then_r (then_r ?_))))))))
 replace hm := inr_up hm hx1046
 refine blk_r (then_r ?_)
 obtain rfl := some_inj hm
 refine post_ret (vs := [.bool false]) results5 (rvs_cons (rv_tmp z) rvs_nil) ?_
 exact ⟨_, z, hI0, hst.keep0⟩
}
 {
 replace hm := bif_f hc1180 hm
 refine wp_iff (cvb hc1180) ?_
 refine wp_skip (blk_n (tn (wrl ?_)))
 refine wv (.int .i64 z1038) z z z (wv (.int .i64 (i64.wrap (z1038 + (1:Int)))) z z z (wv (.int .i64 (i64.wrap (z1038 + (1:Int)))) z z z (wl_nil (tn ?_))))
 replace hst := hst.pull1.keep2
 obtain rfl := some_inj hm
 exact ⟨_, Nat.lt_succ_self _, _, z1162, z1163, z1166, (i64.wrap (z1038 + (1:Int))), v1165, _, hx1046, (fu 3 (Pt b610 0) z (fu 4 v620 z (fu 5 v1165 z (fu 6 (.int .i64 (i64.wrap (z1038 + (1:Int)))) z z)))), hL1043, f1167, hst⟩
}
}
}
 {
 replace hm := bif_f hc1048 hm
 refine wp_iff (cvb hc1048) ?_
 refine wp_exit (then_x (then_x ?_))
 replace hm := inr_up hm hx1046
 refine blk_x (tn (wp_seq (wrl ?_)))
 refine wv (.bool true) z z z (wl_nil (tn (wp_ret ?_)))
 obtain rfl := some_inj hm
 refine post_ret (vs := [.bool true]) results5 (rvs_cons (rv_tmp z) rvs_nil) ?_
 exact ⟨_, z, hI0, hst.keep0⟩
}
}
}
}

end Go.Proofs.Ytbdhhmnncknhhaa
