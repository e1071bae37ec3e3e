/- The Go functions refine their models, part 3. -/
import Derived.Test.YtkjkbfaaigmmcaaConfigLanesR2
set_option linter.unusedVariables false
set_option linter.unusedSimpArgs false
set_option maxRecDepth 100000
set_option maxHeartbeats 4000000
namespace Go.Proofs.Ytkjkbfaaigmmcaa
open Go Go.V
open _root_.Go.Proofs.Try IntKind
attribute [local irreducible] wpList Code.wp wpQuiet Calls bodyPost Oper.wp wpS Nx PendOK YieldsIn
theorem law04_ConfigLanes_ref {w0 w : World} {I : HL} {R : SP} {a0 : Int} {a1 : (List Nat)} {r1_0 : Value} (f1_0 : Ro tyF64 I r1_0 a1) (hst : St w0 w I [] R) {r : (Bool)} (hm : law04_ConfigLanes a0 a1 = some r) :
  Calls prog 7 #[U1 a0, r1_0] w fun e w' => ∃ (I' : HL), e = .returned (.bool r) ∧ I.le I' ∧ St w0 w' I' [] R := by {
 unfold law04_ConfigLanes at hm
 refine calls_start (args := [U1 a0, r1_0]) func7 z ntmps7 (Nat.le_of_ble_eq_true z) ?_
 have hI0 := HL.le.refl I
 refine wp_seq (wrl (wv (.bool false) z z z (wl_nil (tn (wp_seq (wp_seq (wrl ?_)))))))
 obtain ⟨t495, ht496, hm⟩ := bind_some hm
 refine wc call9 [] z z z ?_
 refine (law04_awake_ref hst.to0 ht496).mono ?_
 rintro _ w497 ⟨I498, rfl, hI499, hst⟩
 refine ⟨_, z, ?_⟩
 replace hst := hst.of0
 replace f1_0 := f1_0.mono (ro_le hI499)
 replace hI0 := hI0.trans hI499
 refine wv (.bool (!t495)) z z z (wv (.bool (!t495)) z z z ?_)
 refine bsplit (!t495) (fun hc500 => ?_) (fun hc500 => ?_)
 {
 replace hm := bif_t hc500 hm
 refine wo hc500 z z z z z z (wo hc500 z z z z z z (wo hc500 z z z z z z (wv (.bool true) z z (x_pick_t hc500 z z) (wl_nil (tn ?_)))))
 refine wp_ift z ?_
 refine wp_seq (wrl ?_)
 obtain ⟨t501, ht502, hm⟩ := bind_some hm
 refine wc call9 [] z z z ?_
 refine (law04_awake_ref hst.to0 ht502).mono ?_
 rintro _ w503 ⟨I504, rfl, hI505, hst⟩
 refine ⟨_, z, ?_⟩
 replace hst := hst.of0
 replace f1_0 := f1_0.mono (ro_le hI505)
 replace hI0 := hI0.trans hI505
 refine wv (.bool t501) z z z (wl_nil (tn (wp_ret (then_r ?_))))
 obtain rfl := some_inj hm
 refine post_ret (vs := [.bool t501]) results7 (rvs_cons (rv_tmp z) rvs_nil) ?_
 exact ⟨_, z, hI0, hst.keep0⟩
}
 {
 replace hm := bif_f hc500 hm
 refine wv (r1_0) ((wanted_eq z z z (cvb hc500)).trans z) z z (wv (.int .i64 ((a1).length : Int)) ((wanted_eq z z z (cvb hc500)).trans z) z (x_len z underlying26 (ro_sliceV f1_0)) (wv (.bool (decide (((a1).length : Int) > (7:Int)))) ((wanted_eq z z z (cvb hc500)).trans z) z z (wv (.bool (decide (((a1).length : Int) > (7:Int)))) z z (x_pick_f hc500 z z) (wl_nil (tn ?_)))))
 refine bsplit (decide (((a1).length : Int) > (7:Int))) (fun hc506 => ?_) (fun hc506 => ?_)
 {
 replace hm := bif_t hc506 hm
 refine wp_ift (cvb hc506) ?_
 refine wp_seq (wrl ?_)
 obtain ⟨t507, ht508, hm⟩ := bind_some hm
 refine wc call9 [] z z z ?_
 refine (law04_awake_ref hst.to0 ht508).mono ?_
 rintro _ w509 ⟨I510, rfl, hI511, hst⟩
 refine ⟨_, z, ?_⟩
 replace hst := hst.of0
 replace f1_0 := f1_0.mono (ro_le hI511)
 replace hI0 := hI0.trans hI511
 refine wv (.bool t507) z z z (wl_nil (tn (wp_ret (then_r ?_))))
 obtain rfl := some_inj hm
 refine post_ret (vs := [.bool t507]) results7 (rvs_cons (rv_tmp z) rvs_nil) ?_
 exact ⟨_, z, hI0, hst.keep0⟩
}
 {
 replace hm := bif_f hc506 hm
 refine wp_iff (cvb hc506) ?_
 refine wp_skip (tn (wp_seq (wrl ?_)))
 refine wv (.int .u8 a0) z z z ?_
 obtain ⟨t512, ht513, hm⟩ := bind_some hm
 refine wc call13 [U1 a0] z z z ?_
 refine (ref04_Small_ref hst.to0 ht513).mono ?_
 rintro _ w514 ⟨v517, v519, rfl, hst⟩
 refine ⟨_, z, ?_⟩
 replace hst := hst.of2
 obtain ⟨b523, w524, ew525, eb526, hst⟩ := hst.box [Zs, Zi, Zs, Zi, Zi, Zi, Zi, Zi, Zi] 28
 refine wl_run (v := Pt b523 0) (w' := w524) z z (x_al (by kernel_rfl) ew525 eb526) ?_
 obtain ⟨w528, hr529, hst⟩ := hst.bx [v517, I6 t512.Nodes, v519, I6 t512.Frame, I6 t512.Depth, I6 t512.Quota, I6 t512.Wide, I6 t512.Beat, I6 t512.Elect] sizeOf28 z (oC (one_of_sliceV hst.sv1) (oC z (oC (one_of_sliceV hst.sv2) (oC z (oC z (oC z (oC z (oC z (oC z oN))))))))) (by kernel_rfl)
 refine wl_unit z z (x_unit hr529) ?_
 refine wl_nil (tn (wp_seq (wrl (wv (r1_0) z z z (wv (Pt b523 2) z z (x_field z underlying28 z sizeOf26 z) ?_)))))
 obtain ⟨w530, hr531, hst⟩ := hst.boxStore1 (P := prog) (t := 26) (cs' := [v517, I6 t512.Nodes, r1_0, I6 t512.Frame, I6 t512.Depth, I6 t512.Quota, I6 t512.Wide, I6 t512.Beat, I6 t512.Elect]) 2 r1_0 (one_of_sliceV (ro_sliceV f1_0)) sizeOf26 z z
 refine wl_unit z z (x_unit hr531) ?_
 refine wl_nil (tn (wp_seq (wrl (wv (.agg #[v517, I6 t512.Nodes, r1_0, I6 t512.Frame, I6 t512.Depth, I6 t512.Quota, I6 t512.Wide, I6 t512.Beat, I6 t512.Elect]) z z (x_loadN (cs := [v517, I6 t512.Nodes, r1_0, I6 t512.Frame, I6 t512.Depth, I6 t512.Quota, I6 t512.Wide, I6 t512.Beat, I6 t512.Elect]) z isAgg28 sizeOf28 (hst.bcs0 0 z)) ?_))))
 replace hst := hst.pull1
 obtain ⟨I532, hI533, f534, hst⟩ := hst.own_fix
 replace f1_0 := f1_0.mono (ro_le hI533)
 replace hI0 := hI0.trans hI533
 obtain ⟨t535, ht536, hm⟩ := bind_some hm
 refine wc call11 [.agg #[v517, I6 t512.Nodes, r1_0, I6 t512.Frame, I6 t512.Depth, I6 t512.Quota, I6 t512.Wide, I6 t512.Beat, I6 t512.Elect]] z z z ?_
 refine (config_New_ref (a0 := ({ Up := t512.Up, Nodes := t512.Nodes, Cuts := a1, Frame := t512.Frame, Depth := t512.Depth, Quota := t512.Quota, Wide := t512.Wide, Beat := t512.Beat, Elect := t512.Elect } : api_Config)) f534 f1_0 hst.to0 ht536).mono ?_
 rintro _ w537 ⟨I538, v540, rfl, hI539, hst⟩
 refine ⟨_, z, ?_⟩
 replace hst := hst.of1
 replace f1_0 := f1_0.mono (ro_le hI539)
 replace f534 := f534.mono (ro_le hI539)
 replace hI0 := hI0.trans hI539
 refine wv (.tuple #[v540, I6 t535.2]) z z z (wv (v540) z z z (wv (.int .i64 t535.2) z z z (wv (v540) z z z (wv (.int .i64 t535.2) z z z (wl_nil (tn (wp_seq (wp_seq (wrl (wv (.int .i64 t535.2) z z z (wv (.bool (t535.2 != (0:Int))) z z z (wl_nil (tn ?_)))))))))))))
 refine bsplit (t535.2 != (0:Int)) (fun hc542 => ?_) (fun hc542 => ?_)
 {
 replace hm := bif_t hc542 hm
 refine wp_ift (cvb hc542) ?_
 refine wp_seq (wrl (wv (r1_0) z z z ?_))
 obtain ⟨t543, ht544, hm⟩ := bind_some hm
 refine wc call16 [r1_0] z z z ?_
 refine (ref01_Rising_ref (f1_0.mono ro_rd) hst.to0 ht544).mono ?_
 rintro _ w545 ⟨rfl, hst⟩
 refine ⟨_, z, ?_⟩
 replace hst := hst.of0
 refine wv (.bool (!t543)) z z z (wv (.bool (!t543)) z z z (wl_nil (tn (wp_ret (then_r ?_)))))
 obtain rfl := some_inj hm
 refine post_ret (vs := [.bool (!t543)]) results7 (rvs_cons (rv_tmp z) rvs_nil) ?_
 exact ⟨_, z, hI0, hst.keep0⟩
}
 {
 replace hm := bif_f hc542 hm
 refine wp_iff (cvb hc542) ?_
 refine wp_skip (tn (wp_seq (wrl ?_)))
 refine wv (r1_0) z z z (wv (.int .i64 ((a1).length : Int)) z z (x_len z underlying26 (ro_sliceV f1_0)) (wv (.int .i64 (i64.wrap (((a1).length : Int) + (1:Int)))) z z z (wv (.int .i64 (i64.wrap (((a1).length : Int) + (1:Int)))) z z z (wl_nil (tn (wp_seq (wrl (wv (Pt b523 0) z z (x_field z underlying28 z sizeOf25 z) (wv (v517) z z (x_load z isAgg25 (hst.bc1 z)) (wv (.int .i64 ((t512.Up).length : Int)) z z (x_len z underlying25 (ro_sliceV f534)) (wv (.int .i64 (i64.wrap (((a1).length : Int) + (1:Int)))) z z z (wv (.int .i64 (i64.wrap (((t512.Up).length : Int) * (i64.wrap (((a1).length : Int) + (1:Int)))))) z z z (wv (.int .i64 (i64.wrap ((i64.wrap (((t512.Up).length : Int) * (i64.wrap (((a1).length : Int) + (1:Int))))) + (1:Int)))) z z z (wv (.int .i64 (i64.wrap ((i64.wrap (((t512.Up).length : Int) * (i64.wrap (((a1).length : Int) + (1:Int))))) + (1:Int)))) z z z (wl_nil (tn (wp_seq (wp_seq ?_))))))))))))))))))
 refine wp_region_St hst 44 [0, 1, 2, 3, 4, 5, 6, 7, 8, 9, 10, 11, 12, 13, 14, 15, 16, 17, 18, 19, 20, 21, 22, 23, 24, 25, 26, 27, 28, 29, 30, 31, 32, 33, 34, 35, 36, 37, 38, 39, 40, 41, 42, 43] [0, 1, 0, 7, 15, 31, 63, 31, 255, 511, 1023, 2047, 4095, 2047, 10239, 32767, 65535, 131071, 262143, 524287, 262143, 1310719, 3407871, 8388607, 16777215, 33554431, 67108863, 67108863, 201326591, 536870911, 1073741823, 2147483647, 4294967295, 8589934591, 8589934591, 25769803775, 68719476735, 8589934591, 146028888063, 549755813887, 1099511627775, 2199023255551, 4398046511103, 8796093022207] [] z (by kernel_rfl) (by kernel_rfl) Try.mixed (by kernel_rfl) ?_
 refine wsr (v540) 0 z z z (by kernel_rfl) (fun w hst => z) (wsr (.int .i64 (i64.wrap (((a1).length : Int) + (1:Int)))) 2 z z z (by kernel_rfl) (fun w hst => z) ?_)
 refine ws_e1 1 (by kernel_rfl) ?_
 refine nxe [3, 4, 5, 6, 7, 8, 9, 10, 11, 12, 13, 14, 15, 16, 17, 18, 19, 20, 21, 22, 23, 24, 25, 26, 27, 28, 29, 30, 31, 32, 33, 34, 35, 36, 37, 38, 39, 40, 41, 42, 43] (by kernel_rfl) z z ?_
 clear hst
 intro w hst
 obtain ⟨t548, ht549, hm⟩ := bind_some hm
 refine wec call17 [v540] z z ?_
 refine (config_Plan_Shards_ref hst.to1 ht549).mono ?_
 rintro _ w550 ⟨rfl, hst⟩
 refine ⟨_, z, ?_⟩
 replace hst := hst.of1
 refine ws_next (pend' := [(2, I6 (i64.wrap (((a1).length : Int) + (1:Int))))]) hst (by kernel_rfl) (pkr z z (fun w hst => z) pk_nil) ?_
 refine wsr (.bool (t548 != (i64.wrap (((a1).length : Int) + (1:Int))))) 3 z z z (by kernel_rfl) (fun w hst => z) (wsr (.bool (t548 != (i64.wrap (((a1).length : Int) + (1:Int))))) 4 z z z (by kernel_rfl) (fun w hst => z) ?_)
 refine bsplit (t548 != (i64.wrap (((a1).length : Int) + (1:Int)))) (fun hc553 => ?_) (fun hc553 => ?_)
 {
 replace hm := bif_t hc553 hm
 refine ws_q (v := undef) 5 [6, 7, 8, 9, 10, 11, 12, 13, 14, 15, 16, 17, 18, 19, 20, 21, 22, 23, 24, 25, 26, 27, 28, 29, 30, 31, 32, 33, 34, 35, 36, 37, 38, 39, 40, 41, 42, 43] (by kernel_rfl) z z (yi_off ((wanted_eq z z z (cvb hc553)).trans z)) (ws_q (v := undef) 6 [7, 8, 9, 10, 11, 12, 13, 14, 15, 16, 17, 18, 19, 20, 21, 22, 23, 24, 25, 26, 27, 28, 29, 30, 31, 32, 33, 34, 35, 36, 37, 38, 39, 40, 41, 42, 43] (by kernel_rfl) z z (yi_off ((wanted_eq z z z (cvb hc553)).trans z)) (ws_q (v := undef) 7 [8, 9, 10, 11, 12, 13, 14, 15, 16, 17, 18, 19, 20, 21, 22, 23, 24, 25, 26, 27, 28, 29, 30, 31, 32, 33, 34, 35, 36, 37, 38, 39, 40, 41, 42, 43] (by kernel_rfl) z z (yi_off ((wanted_eq z z z (cvb hc553)).trans z)) (ws_q (v := undef) 8 [9, 10, 11, 12, 13, 14, 15, 16, 17, 18, 19, 20, 21, 22, 23, 24, 25, 26, 27, 28, 29, 30, 31, 32, 33, 34, 35, 36, 37, 38, 39, 40, 41, 42, 43] (by kernel_rfl) z z (yi_off ((wanted_eq z z z (cvb hc553)).trans z)) (wsr (.bool true) 9 z z z (by kernel_rfl) (fun w hst => x_pick_t hc553 z z) (wsr (.bool true) 10 z z z (by kernel_rfl) (fun w hst => z) (ws_q (v := undef) 11 [12, 13, 14, 15, 16, 17, 18, 19, 20, 21, 22, 23, 24, 25, 26, 27, 28, 29, 30, 31, 32, 33, 34, 35, 36, 37, 38, 39, 40, 41, 42, 43] (by kernel_rfl) z z (yi_off ((wanted_eq z z z z).trans z)) (ws_q (v := undef) 12 [13, 14, 15, 16, 17, 18, 19, 20, 21, 22, 23, 24, 25, 26, 27, 28, 29, 30, 31, 32, 33, 34, 35, 36, 37, 38, 39, 40, 41, 42, 43] (by kernel_rfl) z z (yi_off ((wanted_eq z z z z).trans z)) (ws_q (v := undef) 13 [14, 15, 16, 17, 18, 19, 20, 21, 22, 23, 24, 25, 26, 27, 28, 29, 30, 31, 32, 33, 34, 35, 36, 37, 38, 39, 40, 41, 42, 43] (by kernel_rfl) z z (yi_off ((wanted_eq z z z z).trans z)) (ws_q (v := undef) 14 [15, 16, 17, 18, 19, 20, 21, 22, 23, 24, 25, 26, 27, 28, 29, 30, 31, 32, 33, 34, 35, 36, 37, 38, 39, 40, 41, 42, 43] (by kernel_rfl) z z (yi_off ((wanted_eq z z z z).trans z)) (ws_q (v := undef) 15 [16, 17, 18, 19, 20, 21, 22, 23, 24, 25, 26, 27, 28, 29, 30, 31, 32, 33, 34, 35, 36, 37, 38, 39, 40, 41, 42, 43] (by kernel_rfl) z z (yi_off ((wanted_eq z z z z).trans z)) (wsr (.bool true) 16 z z z (by kernel_rfl) (fun w hst => x_pick_t z z z) (wsr (.bool true) 17 z z z (by kernel_rfl) (fun w hst => z) ?_))))))))))))
 refine ws_q (v := undef) 18 [19, 20, 21, 22, 23, 24, 25, 26, 27, 28, 29, 30, 31, 32, 33, 34, 35, 36, 37, 38, 39, 40, 41, 42, 43] (by kernel_rfl) z z (yi_off ((wanted_eq z z z z).trans z)) (ws_q (v := undef) 19 [20, 21, 22, 23, 24, 25, 26, 27, 28, 29, 30, 31, 32, 33, 34, 35, 36, 37, 38, 39, 40, 41, 42, 43] (by kernel_rfl) z z (yi_off ((wanted_eq z z z z).trans z)) (ws_q (v := undef) 20 [21, 22, 23, 24, 25, 26, 27, 28, 29, 30, 31, 32, 33, 34, 35, 36, 37, 38, 39, 40, 41, 42, 43] (by kernel_rfl) z z (yi_off ((wanted_eq z z z z).trans z)) (ws_q (v := undef) 21 [22, 23, 24, 25, 26, 27, 28, 29, 30, 31, 32, 33, 34, 35, 36, 37, 38, 39, 40, 41, 42, 43] (by kernel_rfl) z z (yi_off ((wanted_eq z z z z).trans z)) (ws_q (v := undef) 22 [23, 24, 25, 26, 27, 28, 29, 30, 31, 32, 33, 34, 35, 36, 37, 38, 39, 40, 41, 42, 43] (by kernel_rfl) z z (yi_off ((wanted_eq z z z z).trans z)) (ws_q (v := undef) 23 [24, 25, 26, 27, 28, 29, 30, 31, 32, 33, 34, 35, 36, 37, 38, 39, 40, 41, 42, 43] (by kernel_rfl) z z (yi_off ((wanted_eq z z z z).trans z)) (wsr (.bool true) 24 z z z (by kernel_rfl) (fun w hst => x_pick_t z z z) (wsr (.bool true) 25 z z z (by kernel_rfl) (fun w hst => z) (ws_q (v := undef) 26 [27, 28, 29, 30, 31, 32, 33, 34, 35, 36, 37, 38, 39, 40, 41, 42, 43] (by kernel_rfl) z z (yi_off ((wanted_eq z z z z).trans z)) (ws_q (v := undef) 27 [28, 29, 30, 31, 32, 33, 34, 35, 36, 37, 38, 39, 40, 41, 42, 43] (by kernel_rfl) z z (yi_off ((wanted_eq z z z z).trans z)) (ws_q (v := undef) 28 [29, 30, 31, 32, 33, 34, 35, 36, 37, 38, 39, 40, 41, 42, 43] (by kernel_rfl) z z (yi_off ((wanted_eq z z z z).trans z)) (ws_q (v := undef) 29 [30, 31, 32, 33, 34, 35, 36, 37, 38, 39, 40, 41, 42, 43] (by kernel_rfl) z z (yi_off ((wanted_eq z z z z).trans z)) (ws_q (v := undef) 30 [31, 32, 33, 34, 35, 36, 37, 38, 39, 40, 41, 42, 43] (by kernel_rfl) z z (yi_off ((wanted_eq z z z z).trans z)) ?_))))))))))))
 refine wsr (.bool true) 31 z z z (by kernel_rfl) (fun w hst => x_pick_t z z z) (wsr (.bool true) 32 z z z (by kernel_rfl) (fun w hst => z) (ws_q (v := undef) 33 [34, 35, 36, 37, 38, 39, 40, 41, 42, 43] (by kernel_rfl) z z (yi_off ((wanted_eq z z z z).trans z)) (ws_q (v := undef) 34 [35, 36, 37, 38, 39, 40, 41, 42, 43] (by kernel_rfl) z z (yi_off ((wanted_eq z z z z).trans z)) (ws_q (v := undef) 35 [36, 37, 38, 39, 40, 41, 42, 43] (by kernel_rfl) z z (yi_off ((wanted_eq z z z z).trans z)) (ws_q (v := undef) 36 [37, 38, 39, 40, 41, 42, 43] (by kernel_rfl) z z (yi_off ((wanted_eq z z z z).trans z)) (ws_q (v := undef) 37 [38, 39, 40, 41, 42, 43] (by kernel_rfl) z z (yi_off ((wanted_eq z z z z).trans z)) (ws_q (v := undef) 38 [39, 40, 41, 42, 43] (by kernel_rfl) z z (yi_off ((wanted_eq z z z z).trans z)) (ws_q (v := undef) 39 [40, 41, 42, 43] (by kernel_rfl) z z (yi_off ((wanted_eq z z z z).trans z)) (ws_q (v := undef) 40 [41, 42, 43] (by kernel_rfl) z z (yi_off ((wanted_eq z z z z).trans z)) (ws_q (v := undef) 41 [42, 43] (by kernel_rfl) z z (yi_off ((wanted_eq z z z z).trans z)) (ws_q (v := undef) 42 [43] (by kernel_rfl) z z (yi_off ((wanted_eq z z z z).trans z)) (wsr (.bool true) 43 z z z (by kernel_rfl) (fun w hst => x_pick_t z z z) ?_))))))))))))
 refine ws_nil ?_
 intro w hst
 refine tn ?_
 refine wp_ift z ?_
 refine wp_seq (wrl (wv (.bool false) z z z (wl_nil (tn (wp_ret (then_r ?_))))))
 obtain rfl := some_inj hm
 refine post_ret (vs := [.bool false]) results7 (rvs_cons (rv_tmp z) rvs_nil) ?_
 exact ⟨_, z, hI0, hst.keep0⟩
}
 {
 replace hm := bif_f hc553 hm
 refine ws_q (v := v540) 5 [6, 7, 8, 9, 10, 11, 12, 13, 14, 15, 16, 17, 18, 19, 20, 21, 22, 23, 24, 25, 26, 27, 28, 29, 30, 31, 32, 33, 34, 35, 36, 37, 38, 39, 40, 41, 42, 43] (by kernel_rfl) z z (yi_run ((wanted_eq z z z (cvb hc553)).trans z) (fun w hst => z)) (ws_q (v := .int .i64 (i64.wrap ((i64.wrap (((t512.Up).length : Int) * (i64.wrap (((a1).length : Int) + (1:Int))))) + (1:Int)))) 7 [6, 8, 9, 10, 11, 12, 13, 14, 15, 16, 17, 18, 19, 20, 21, 22, 23, 24, 25, 26, 27, 28, 29, 30, 31, 32, 33, 34, 35, 36, 37, 38, 39, 40, 41, 42, 43] (by kernel_rfl) z z (yi_run ((wanted_eq z z z (cvb hc553)).trans z) (fun w hst => z)) ?_)
 refine ws_e1 6 (by kernel_rfl) ?_
 refine nxe [8, 9, 10, 11, 12, 13, 14, 15, 16, 17, 18, 19, 20, 21, 22, 23, 24, 25, 26, 27, 28, 29, 30, 31, 32, 33, 34, 35, 36, 37, 38, 39, 40, 41, 42, 43] (by kernel_rfl) z ((wanted_eq z z z (cvb hc553)).trans z) ?_
 clear hst
 intro w hst
 obtain ⟨t554, ht555, hm⟩ := bind_some hm
 refine wec call18 [v540] z z ?_
 refine (config_Plan_Lanes_ref hst.to1 ht555).mono ?_
 rintro _ w556 ⟨rfl, hst⟩
 refine ⟨_, z, ?_⟩
 replace hst := hst.of1
 refine ws_next (pend' := [(7, I6 (i64.wrap ((i64.wrap (((t512.Up).length : Int) * (i64.wrap (((a1).length : Int) + (1:Int))))) + (1:Int))))]) hst (by kernel_rfl) (pk_cons z (yi_run ((wanted_eq z z z (cvb hc553)).trans z) (fun w hst => z)) pk_nil) ?_
 refine ws_q (v := .bool (t554 != (i64.wrap ((i64.wrap (((t512.Up).length : Int) * (i64.wrap (((a1).length : Int) + (1:Int))))) + (1:Int))))) 8 [9, 10, 11, 12, 13, 14, 15, 16, 17, 18, 19, 20, 21, 22, 23, 24, 25, 26, 27, 28, 29, 30, 31, 32, 33, 34, 35, 36, 37, 38, 39, 40, 41, 42, 43] (by kernel_rfl) z z (yi_run ((wanted_eq z z z (cvb hc553)).trans z) (fun w hst => z)) (wsr (.bool (t554 != (i64.wrap ((i64.wrap (((t512.Up).length : Int) * (i64.wrap (((a1).length : Int) + (1:Int))))) + (1:Int))))) 9 z z z (by kernel_rfl) (fun w hst => x_pick_f hc553 z z) (wsr (.bool (t554 != (i64.wrap ((i64.wrap (((t512.Up).length : Int) * (i64.wrap (((a1).length : Int) + (1:Int))))) + (1:Int))))) 10 z z z (by kernel_rfl) (fun w hst => z) ?_))
 refine bsplit (t554 != (i64.wrap ((i64.wrap (((t512.Up).length : Int) * (i64.wrap (((a1).length : Int) + (1:Int))))) + (1:Int)))) (fun hc559 => ?_) (fun hc559 => ?_)
 {
 replace hm := bif_t hc559 hm
 refine ws_q (v := undef) 11 [12, 13, 14, 15, 16, 17, 18, 19, 20, 21, 22, 23, 24, 25, 26, 27, 28, 29, 30, 31, 32, 33, 34, 35, 36, 37, 38, 39, 40, 41, 42, 43] (by kernel_rfl) z z (yi_off ((wanted_eq z z z (cvb hc559)).trans z)) (ws_q (v := undef) 12 [13, 14, 15, 16, 17, 18, 19, 20, 21, 22, 23, 24, 25, 26, 27, 28, 29, 30, 31, 32, 33, 34, 35, 36, 37, 38, 39, 40, 41, 42, 43] (by kernel_rfl) z z (yi_off ((wanted_eq z z z (cvb hc559)).trans z)) (ws_q (v := undef) 13 [14, 15, 16, 17, 18, 19, 20, 21, 22, 23, 24, 25, 26, 27, 28, 29, 30, 31, 32, 33, 34, 35, 36, 37, 38, 39, 40, 41, 42, 43] (by kernel_rfl) z z (yi_off ((wanted_eq z z z (cvb hc559)).trans z)) (ws_q (v := undef) 14 [15, 16, 17, 18, 19, 20, 21, 22, 23, 24, 25, 26, 27, 28, 29, 30, 31, 32, 33, 34, 35, 36, 37, 38, 39, 40, 41, 42, 43] (by kernel_rfl) z z (yi_off ((wanted_eq z z z (cvb hc559)).trans z)) (ws_q (v := undef) 15 [16, 17, 18, 19, 20, 21, 22, 23, 24, 25, 26, 27, 28, 29, 30, 31, 32, 33, 34, 35, 36, 37, 38, 39, 40, 41, 42, 43] (by kernel_rfl) z z (yi_off ((wanted_eq z z z (cvb hc559)).trans z)) (wsr (.bool true) 16 z z z (by kernel_rfl) (fun w hst => x_pick_t hc559 z z) (wsr (.bool true) 17 z z z (by kernel_rfl) (fun w hst => z) (ws_q (v := undef) 18 [19, 20, 21, 22, 23, 24, 25, 26, 27, 28, 29, 30, 31, 32, 33, 34, 35, 36, 37, 38, 39, 40, 41, 42, 43] (by kernel_rfl) z z (yi_off ((wanted_eq z z z z).trans z)) (ws_q (v := undef) 19 [20, 21, 22, 23, 24, 25, 26, 27, 28, 29, 30, 31, 32, 33, 34, 35, 36, 37, 38, 39, 40, 41, 42, 43] (by kernel_rfl) z z (yi_off ((wanted_eq z z z z).trans z)) (ws_q (v := undef) 20 [21, 22, 23, 24, 25, 26, 27, 28, 29, 30, 31, 32, 33, 34, 35, 36, 37, 38, 39, 40, 41, 42, 43] (by kernel_rfl) z z (yi_off ((wanted_eq z z z z).trans z)) (ws_q (v := undef) 21 [22, 23, 24, 25, 26, 27, 28, 29, 30, 31, 32, 33, 34, 35, 36, 37, 38, 39, 40, 41, 42, 43] (by kernel_rfl) z z (yi_off ((wanted_eq z z z z).trans z)) (ws_q (v := undef) 22 [23, 24, 25, 26, 27, 28, 29, 30, 31, 32, 33, 34, 35, 36, 37, 38, 39, 40, 41, 42, 43] (by kernel_rfl) z z (yi_off ((wanted_eq z z z z).trans z)) (ws_q (v := undef) 23 [24, 25, 26, 27, 28, 29, 30, 31, 32, 33, 34, 35, 36, 37, 38, 39, 40, 41, 42, 43] (by kernel_rfl) z z (yi_off ((wanted_eq z z z z).trans z)) ?_))))))))))))
 refine wsr (.bool true) 24 z z z (by kernel_rfl) (fun w hst => x_pick_t z z z) (wsr (.bool true) 25 z z z (by kernel_rfl) (fun w hst => z) (ws_q (v := undef) 26 [27, 28, 29, 30, 31, 32, 33, 34, 35, 36, 37, 38, 39, 40, 41, 42, 43] (by kernel_rfl) z z (yi_off ((wanted_eq z z z z).trans z)) (ws_q (v := undef) 27 [28, 29, 30, 31, 32, 33, 34, 35, 36, 37, 38, 39, 40, 41, 42, 43] (by kernel_rfl) z z (yi_off ((wanted_eq z z z z).trans z)) (ws_q (v := undef) 28 [29, 30, 31, 32, 33, 34, 35, 36, 37, 38, 39, 40, 41, 42, 43] (by kernel_rfl) z z (yi_off ((wanted_eq z z z z).trans z)) (ws_q (v := undef) 29 [30, 31, 32, 33, 34, 35, 36, 37, 38, 39, 40, 41, 42, 43] (by kernel_rfl) z z (yi_off ((wanted_eq z z z z).trans z)) (ws_q (v := undef) 30 [31, 32, 33, 34, 35, 36, 37, 38, 39, 40, 41, 42, 43] (by kernel_rfl) z z (yi_off ((wanted_eq z z z z).trans z)) (wsr (.bool true) 31 z z z (by kernel_rfl) (fun w hst => x_pick_t z z z) (wsr (.bool true) 32 z z z (by kernel_rfl) (fun w hst => z) (ws_q (v := undef) 33 [34, 35, 36, 37, 38, 39, 40, 41, 42, 43] (by kernel_rfl) z z (yi_off ((wanted_eq z z z z).trans z)) (ws_q (v := undef) 34 [35, 36, 37, 38, 39, 40, 41, 42, 43] (by kernel_rfl) z z (yi_off ((wanted_eq z z z z).trans z)) (ws_q (v := undef) 35 [36, 37, 38, 39, 40, 41, 42, 43] (by kernel_rfl) z z (yi_off ((wanted_eq z z z z).trans z)) (ws_q (v := undef) 36 [37, 38, 39, 40, 41, 42, 43] (by kernel_rfl) z z (yi_off ((wanted_eq z z z z).trans z)) ?_))))))))))))
 refine ws_q (v := undef) 37 [38, 39, 40, 41, 42, 43] (by kernel_rfl) z z (yi_off ((wanted_eq z z z z).trans z)) (ws_q (v := undef) 38 [39, 40, 41, 42, 43] (by kernel_rfl) z z (yi_off ((wanted_eq z z z z).trans z)) (ws_q (v := undef) 39 [40, 41, 42, 43] (by kernel_rfl) z z (yi_off ((wanted_eq z z z z).trans z)) (ws_q (v := undef) 40 [41, 42, 43] (by kernel_rfl) z z (yi_off ((wanted_eq z z z z).trans z)) (ws_q (v := undef) 41 [42, 43] (by kernel_rfl) z z (yi_off ((wanted_eq z z z z).trans z)) (ws_q (v := undef) 42 [43] (by kernel_rfl) z z (yi_off ((wanted_eq z z z z).trans z)) (wsr (.bool true) 43 z z z (by kernel_rfl) (fun w hst => x_pick_t z z z) ?_))))))
 refine ws_nil ?_
 intro w hst
 refine tn ?_
 refine wp_ift z ?_
 refine wp_seq (wrl (wv (.bool false) z z z (wl_nil (tn (wp_ret (then_r ?_))))))
 obtain rfl := some_inj hm
 refine post_ret (vs := [.bool false]) results7 (rvs_cons (rv_tmp z) rvs_nil) ?_
 exact ⟨_, z, hI0, hst.keep0⟩
}
 {
 replace hm := bif_f hc559 hm
 refine ws_q (v := v540) 11 [12, 13, 14, 15, 16, 17, 18, 19, 20, 21, 22, 23, 24, 25, 26, 27, 28, 29, 30, 31, 32, 33, 34, 35, 36, 37, 38, 39, 40, 41, 42, 43] (by kernel_rfl) z z (yi_run ((wanted_eq z z z (cvb hc559)).trans z) (fun w hst => z)) (ws_q (v := .int .i64 (i64.wrap ((i64.wrap (((t512.Up).length : Int) * (i64.wrap (((a1).length : Int) + (1:Int))))) + (1:Int)))) 13 [12, 14, 15, 16, 17, 18, 19, 20, 21, 22, 23, 24, 25, 26, 27, 28, 29, 30, 31, 32, 33, 34, 35, 36, 37, 38, 39, 40, 41, 42, 43] (by kernel_rfl) z z (yi_run ((wanted_eq z z z (cvb hc559)).trans z) (fun w hst => z)) (ws_q (v := .int .i64 (i64.wrap ((i64.wrap ((i64.wrap (((t512.Up).length : Int) * (i64.wrap (((a1).length : Int) + (1:Int))))) + (1:Int))) - (1:Int)))) 14 [12, 15, 16, 17, 18, 19, 20, 21, 22, 23, 24, 25, 26, 27, 28, 29, 30, 31, 32, 33, 34, 35, 36, 37, 38, 39, 40, 41, 42, 43] (by kernel_rfl) z z (yi_run ((wanted_eq z z z (cvb hc559)).trans z) (fun w hst => z)) ?_))
 refine ws_e1 12 (by kernel_rfl) ?_
 refine nxe [15, 16, 17, 18, 19, 20, 21, 22, 23, 24, 25, 26, 27, 28, 29, 30, 31, 32, 33, 34, 35, 36, 37, 38, 39, 40, 41, 42, 43] (by kernel_rfl) z ((wanted_eq z z z (cvb hc559)).trans z) ?_
 clear hst
 intro w hst
 obtain ⟨t560, ht561, hm⟩ := bind_some hm
 refine wec call19 [v540] z z ?_
 refine (config_Plan_Rules_ref hst.to1 ht561).mono ?_
 rintro _ w562 ⟨rfl, hst⟩
 refine ⟨_, z, ?_⟩
 replace hst := hst.of1
 refine ws_next (pend' := [(14, I6 (i64.wrap ((i64.wrap ((i64.wrap (((t512.Up).length : Int) * (i64.wrap (((a1).length : Int) + (1:Int))))) + (1:Int))) - (1:Int)))), (13, I6 (i64.wrap ((i64.wrap (((t512.Up).length : Int) * (i64.wrap (((a1).length : Int) + (1:Int))))) + (1:Int))))]) hst (by kernel_rfl) (pk_cons z (yi_run ((wanted_eq z z z (cvb hc559)).trans z) (fun w hst => z)) (pk_cons z (yi_run ((wanted_eq z z z (cvb hc559)).trans z) (fun w hst => z)) pk_nil)) ?_
 refine ws_q (v := .bool (t560 != (i64.wrap ((i64.wrap ((i64.wrap (((t512.Up).length : Int) * (i64.wrap (((a1).length : Int) + (1:Int))))) + (1:Int))) - (1:Int))))) 15 [16, 17, 18, 19, 20, 21, 22, 23, 24, 25, 26, 27, 28, 29, 30, 31, 32, 33, 34, 35, 36, 37, 38, 39, 40, 41, 42, 43] (by kernel_rfl) z z (yi_run ((wanted_eq z z z (cvb hc559)).trans z) (fun w hst => z)) (wsr (.bool (t560 != (i64.wrap ((i64.wrap ((i64.wrap (((t512.Up).length : Int) * (i64.wrap (((a1).length : Int) + (1:Int))))) + (1:Int))) - (1:Int))))) 16 z z z (by kernel_rfl) (fun w hst => x_pick_f hc559 z z) (wsr (.bool (t560 != (i64.wrap ((i64.wrap ((i64.wrap (((t512.Up).length : Int) * (i64.wrap (((a1).length : Int) + (1:Int))))) + (1:Int))) - (1:Int))))) 17 z z z (by kernel_rfl) (fun w hst => z) ?_))
 refine bsplit (t560 != (i64.wrap ((i64.wrap ((i64.wrap (((t512.Up).length : Int) * (i64.wrap (((a1).length : Int) + (1:Int))))) + (1:Int))) - (1:Int)))) (fun hc565 => ?_) (fun hc565 => ?_)
 {
 replace hm := bif_t hc565 hm
 refine ws_q (v := undef) 18 [19, 20, 21, 22, 23, 24, 25, 26, 27, 28, 29, 30, 31, 32, 33, 34, 35, 36, 37, 38, 39, 40, 41, 42, 43] (by kernel_rfl) z z (yi_off ((wanted_eq z z z (cvb hc565)).trans z)) (ws_q (v := undef) 19 [20, 21, 22, 23, 24, 25, 26, 27, 28, 29, 30, 31, 32, 33, 34, 35, 36, 37, 38, 39, 40, 41, 42, 43] (by kernel_rfl) z z (yi_off ((wanted_eq z z z (cvb hc565)).trans z)) (ws_q (v := undef) 20 [21, 22, 23, 24, 25, 26, 27, 28, 29, 30, 31, 32, 33, 34, 35, 36, 37, 38, 39, 40, 41, 42, 43] (by kernel_rfl) z z (yi_off ((wanted_eq z z z (cvb hc565)).trans z)) (ws_q (v := undef) 21 [22, 23, 24, 25, 26, 27, 28, 29, 30, 31, 32, 33, 34, 35, 36, 37, 38, 39, 40, 41, 42, 43] (by kernel_rfl) z z (yi_off ((wanted_eq z z z (cvb hc565)).trans z)) (ws_q (v := undef) 22 [23, 24, 25, 26, 27, 28, 29, 30, 31, 32, 33, 34, 35, 36, 37, 38, 39, 40, 41, 42, 43] (by kernel_rfl) z z (yi_off ((wanted_eq z z z (cvb hc565)).trans z)) (ws_q (v := undef) 23 [24, 25, 26, 27, 28, 29, 30, 31, 32, 33, 34, 35, 36, 37, 38, 39, 40, 41, 42, 43] (by kernel_rfl) z z (yi_off ((wanted_eq z z z (cvb hc565)).trans z)) (wsr (.bool true) 24 z z z (by kernel_rfl) (fun w hst => x_pick_t hc565 z z) (wsr (.bool true) 25 z z z (by kernel_rfl) (fun w hst => z) (ws_q (v := undef) 26 [27, 28, 29, 30, 31, 32, 33, 34, 35, 36, 37, 38, 39, 40, 41, 42, 43] (by kernel_rfl) z z (yi_off ((wanted_eq z z z z).trans z)) (ws_q (v := undef) 27 [28, 29, 30, 31, 32, 33, 34, 35, 36, 37, 38, 39, 40, 41, 42, 43] (by kernel_rfl) z z (yi_off ((wanted_eq z z z z).trans z)) (ws_q (v := undef) 28 [29, 30, 31, 32, 33, 34, 35, 36, 37, 38, 39, 40, 41, 42, 43] (by kernel_rfl) z z (yi_off ((wanted_eq z z z z).trans z)) (ws_q (v := undef) 29 [30, 31, 32, 33, 34, 35, 36, 37, 38, 39, 40, 41, 42, 43] (by kernel_rfl) z z (yi_off ((wanted_eq z z z z).trans z)) (ws_q (v := undef) 30 [31, 32, 33, 34, 35, 36, 37, 38, 39, 40, 41, 42, 43] (by kernel_rfl) z z (yi_off ((wanted_eq z z z z).trans z)) ?_))))))))))))
 refine wsr (.bool true) 31 z z z (by kernel_rfl) (fun w hst => x_pick_t z z z) (wsr (.bool true) 32 z z z (by kernel_rfl) (fun w hst => z) (ws_q (v := undef) 33 [34, 35, 36, 37, 38, 39, 40, 41, 42, 43] (by kernel_rfl) z z (yi_off ((wanted_eq z z z z).trans z)) (ws_q (v := undef) 34 [35, 36, 37, 38, 39, 40, 41, 42, 43] (by kernel_rfl) z z (yi_off ((wanted_eq z z z z).trans z)) (ws_q (v := undef) 35 [36, 37, 38, 39, 40, 41, 42, 43] (by kernel_rfl) z z (yi_off ((wanted_eq z z z z).trans z)) (ws_q (v := undef) 36 [37, 38, 39, 40, 41, 42, 43] (by kernel_rfl) z z (yi_off ((wanted_eq z z z z).trans z)) (ws_q (v := undef) 37 [38, 39, 40, 41, 42, 43] (by kernel_rfl) z z (yi_off ((wanted_eq z z z z).trans z)) (ws_q (v := undef) 38 [39, 40, 41, 42, 43] (by kernel_rfl) z z (yi_off ((wanted_eq z z z z).trans z)) (ws_q (v := undef) 39 [40, 41, 42, 43] (by kernel_rfl) z z (yi_off ((wanted_eq z z z z).trans z)) (ws_q (v := undef) 40 [41, 42, 43] (by kernel_rfl) z z (yi_off ((wanted_eq z z z z).trans z)) (ws_q (v := undef) 41 [42, 43] (by kernel_rfl) z z (yi_off ((wanted_eq z z z z).trans z)) (ws_q (v := undef) 42 [43] (by kernel_rfl) z z (yi_off ((wanted_eq z z z z).trans z)) (wsr (.bool true) 43 z z z (by kernel_rfl) (fun w hst => x_pick_t z z z) ?_))))))))))))
 refine ws_nil ?_
 intro w hst
 refine tn ?_
 refine wp_ift z ?_
 refine wp_seq (wrl (wv (.bool false) z z z (wl_nil (tn (wp_ret (then_r ?_))))))
 obtain rfl := some_inj hm
 refine post_ret (vs := [.bool false]) results7 (rvs_cons (rv_tmp z) rvs_nil) ?_
 exact ⟨_, z, hI0, hst.keep0⟩
}
 {
 replace hm := bif_f hc565 hm
 refine ws_q (v := v540) 18 [19, 20, 21, 22, 23, 24, 25, 26, 27, 28, 29, 30, 31, 32, 33, 34, 35, 36, 37, 38, 39, 40, 41, 42, 43] (by kernel_rfl) z z (yi_run ((wanted_eq z z z (cvb hc565)).trans z) (fun w hst => z)) (ws_q (v := Pt b523 0) 20 [19, 21, 22, 23, 24, 25, 26, 27, 28, 29, 30, 31, 32, 33, 34, 35, 36, 37, 38, 39, 40, 41, 42, 43] (by kernel_rfl) z z (yi_run ((wanted_eq z z z (cvb hc565)).trans z) (fun w hst => x_field z underlying28 z sizeOf25 z)) (ws_q (v := v517) 21 [19, 22, 23, 24, 25, 26, 27, 28, 29, 30, 31, 32, 33, 34, 35, 36, 37, 38, 39, 40, 41, 42, 43] (by kernel_rfl) z z (yi_run ((wanted_eq z z z (cvb hc565)).trans z) (fun w hst => x_load z isAgg25 (hst.bc1 z))) (ws_q (v := .int .i64 ((t512.Up).length : Int)) 22 [19, 23, 24, 25, 26, 27, 28, 29, 30, 31, 32, 33, 34, 35, 36, 37, 38, 39, 40, 41, 42, 43] (by kernel_rfl) z z (yi_run ((wanted_eq z z z (cvb hc565)).trans z) (fun w hst => x_len z underlying25 (ro_sliceV f534))) ?_)))
 refine ws_e1 19 (by kernel_rfl) ?_
 refine nxe [23, 24, 25, 26, 27, 28, 29, 30, 31, 32, 33, 34, 35, 36, 37, 38, 39, 40, 41, 42, 43] (by kernel_rfl) z ((wanted_eq z z z (cvb hc565)).trans z) ?_
 clear hst
 intro w hst
 obtain ⟨t566, ht567, hm⟩ := bind_some hm
 refine wec call20 [v540] z z ?_
 refine (config_Plan_L0_ref hst.to1 ht567).mono ?_
 rintro _ w568 ⟨rfl, hst⟩
 refine ⟨_, z, ?_⟩
 replace hst := hst.of1
 refine ws_next (pend' := [(22, I6 ((t512.Up).length : Int)), (21, v517), (20, Pt b523 0)]) hst (by kernel_rfl) (pk_cons z (yi_run ((wanted_eq z z z (cvb hc565)).trans z) (fun w hst => x_len z underlying25 (ro_sliceV f534))) (pk_cons z (yi_run ((wanted_eq z z z (cvb hc565)).trans z) (fun w hst => x_load z isAgg25 (hst.bc1 z))) (pk_cons z (yi_run ((wanted_eq z z z (cvb hc565)).trans z) (fun w hst => x_field z underlying28 z sizeOf25 z)) pk_nil))) ?_
 refine ws_q (v := .bool (t566 != ((t512.Up).length : Int))) 23 [24, 25, 26, 27, 28, 29, 30, 31, 32, 33, 34, 35, 36, 37, 38, 39, 40, 41, 42, 43] (by kernel_rfl) z z (yi_run ((wanted_eq z z z (cvb hc565)).trans z) (fun w hst => z)) (wsr (.bool (t566 != ((t512.Up).length : Int))) 24 z z z (by kernel_rfl) (fun w hst => x_pick_f hc565 z z) (wsr (.bool (t566 != ((t512.Up).length : Int))) 25 z z z (by kernel_rfl) (fun w hst => z) ?_))
 refine bsplit (t566 != ((t512.Up).length : Int)) (fun hc571 => ?_) (fun hc571 => ?_)
 {
 replace hm := bif_t hc571 hm
 refine ws_q (v := undef) 26 [27, 28, 29, 30, 31, 32, 33, 34, 35, 36, 37, 38, 39, 40, 41, 42, 43] (by kernel_rfl) z z (yi_off ((wanted_eq z z z (cvb hc571)).trans z)) (ws_q (v := undef) 27 [28, 29, 30, 31, 32, 33, 34, 35, 36, 37, 38, 39, 40, 41, 42, 43] (by kernel_rfl) z z (yi_off ((wanted_eq z z z (cvb hc571)).trans z)) (ws_q (v := undef) 28 [29, 30, 31, 32, 33, 34, 35, 36, 37, 38, 39, 40, 41, 42, 43] (by kernel_rfl) z z (yi_off ((wanted_eq z z z (cvb hc571)).trans z)) (ws_q (v := undef) 29 [30, 31, 32, 33, 34, 35, 36, 37, 38, 39, 40, 41, 42, 43] (by kernel_rfl) z z (yi_off ((wanted_eq z z z (cvb hc571)).trans z)) (ws_q (v := undef) 30 [31, 32, 33, 34, 35, 36, 37, 38, 39, 40, 41, 42, 43] (by kernel_rfl) z z (yi_off ((wanted_eq z z z (cvb hc571)).trans z)) (wsr (.bool true) 31 z z z (by kernel_rfl) (fun w hst => x_pick_t hc571 z z) (wsr (.bool true) 32 z z z (by kernel_rfl) (fun w hst => z) (ws_q (v := undef) 33 [34, 35, 36, 37, 38, 39, 40, 41, 42, 43] (by kernel_rfl) z z (yi_off ((wanted_eq z z z z).trans z)) (ws_q (v := undef) 34 [35, 36, 37, 38, 39, 40, 41, 42, 43] (by kernel_rfl) z z (yi_off ((wanted_eq z z z z).trans z)) (ws_q (v := undef) 35 [36, 37, 38, 39, 40, 41, 42, 43] (by kernel_rfl) z z (yi_off ((wanted_eq z z z z).trans z)) (ws_q (v := undef) 36 [37, 38, 39, 40, 41, 42, 43] (by kernel_rfl) z z (yi_off ((wanted_eq z z z z).trans z)) (ws_q (v := undef) 37 [38, 39, 40, 41, 42, 43] (by kernel_rfl) z z (yi_off ((wanted_eq z z z z).trans z)) (ws_q (v := undef) 38 [39, 40, 41, 42, 43] (by kernel_rfl) z z (yi_off ((wanted_eq z z z z).trans z)) ?_))))))))))))
 refine ws_q (v := undef) 39 [40, 41, 42, 43] (by kernel_rfl) z z (yi_off ((wanted_eq z z z z).trans z)) (ws_q (v := undef) 40 [41, 42, 43] (by kernel_rfl) z z (yi_off ((wanted_eq z z z z).trans z)) (ws_q (v := undef) 41 [42, 43] (by kernel_rfl) z z (yi_off ((wanted_eq z z z z).trans z)) (ws_q (v := undef) 42 [43] (by kernel_rfl) z z (yi_off ((wanted_eq z z z z).trans z)) (wsr (.bool true) 43 z z z (by kernel_rfl) (fun w hst => x_pick_t z z z) ?_))))
 refine ws_nil ?_
 intro w hst
 refine tn ?_
 refine wp_ift z ?_
 refine wp_seq (wrl (wv (.bool false) z z z (wl_nil (tn (wp_ret (then_r ?_))))))
 obtain rfl := some_inj hm
 refine post_ret (vs := [.bool false]) results7 (rvs_cons (rv_tmp z) rvs_nil) ?_
 exact ⟨_, z, hI0, hst.keep0⟩
}
 {
 replace hm := bif_f hc571 hm
 refine ws_q (v := v540) 26 [27, 28, 29, 30, 31, 32, 33, 34, 35, 36, 37, 38, 39, 40, 41, 42, 43] (by kernel_rfl) z z (yi_run ((wanted_eq z z z (cvb hc571)).trans z) (fun w hst => z)) (ws_q (v := .int .i64 (i64.wrap ((i64.wrap (((t512.Up).length : Int) * (i64.wrap (((a1).length : Int) + (1:Int))))) + (1:Int)))) 27 [28, 29, 30, 31, 32, 33, 34, 35, 36, 37, 38, 39, 40, 41, 42, 43] (by kernel_rfl) z z (yi_run ((wanted_eq z z z (cvb hc571)).trans z) (fun w hst => z)) (ws_q (v := .int .i64 (i64.wrap ((i64.wrap ((i64.wrap (((t512.Up).length : Int) * (i64.wrap (((a1).length : Int) + (1:Int))))) + (1:Int))) - (1:Int)))) 28 [29, 30, 31, 32, 33, 34, 35, 36, 37, 38, 39, 40, 41, 42, 43] (by kernel_rfl) z z (yi_run ((wanted_eq z z z (cvb hc571)).trans z) (fun w hst => z)) ?_))
 refine ws_e1 29 (by kernel_rfl) ?_
 refine nxe [30, 31, 32, 33, 34, 35, 36, 37, 38, 39, 40, 41, 42, 43] (by kernel_rfl) z ((wanted_eq z z z (cvb hc571)).trans z) ?_
 clear hst
 intro w hst
 obtain ⟨t572, ht573, hm⟩ := bind_some hm
 refine wec call21 [v540, I6 (i64.wrap ((i64.wrap ((i64.wrap (((t512.Up).length : Int) * (i64.wrap (((a1).length : Int) + (1:Int))))) + (1:Int))) - (1:Int)))] z z ?_
 refine (config_Plan_Part_ref hst.to1 ht573).mono ?_
 rintro _ w574 ⟨rfl, hst⟩
 refine ⟨_, z, ?_⟩
 replace hst := hst.of1
 refine ws_next (pend' := []) hst (by kernel_rfl) pk_nil ?_
 refine ws_q (v := .bool (t572 != ((-1):Int))) 30 [31, 32, 33, 34, 35, 36, 37, 38, 39, 40, 41, 42, 43] (by kernel_rfl) z z (yi_run ((wanted_eq z z z (cvb hc571)).trans z) (fun w hst => z)) (wsr (.bool (t572 != ((-1):Int))) 31 z z z (by kernel_rfl) (fun w hst => x_pick_f hc571 z z) (wsr (.bool (t572 != ((-1):Int))) 32 z z z (by kernel_rfl) (fun w hst => z) ?_))
 refine bsplit (t572 != ((-1):Int)) (fun hc577 => ?_) (fun hc577 => ?_)
 {
 replace hm := bif_t hc577 hm
 refine ws_q (v := undef) 33 [34, 35, 36, 37, 38, 39, 40, 41, 42, 43] (by kernel_rfl) z z (yi_off ((wanted_eq z z z (cvb hc577)).trans z)) (ws_q (v := undef) 34 [35, 36, 37, 38, 39, 40, 41, 42, 43] (by kernel_rfl) z z (yi_off ((wanted_eq z z z (cvb hc577)).trans z)) (ws_q (v := undef) 35 [36, 37, 38, 39, 40, 41, 42, 43] (by kernel_rfl) z z (yi_off ((wanted_eq z z z (cvb hc577)).trans z)) (ws_q (v := undef) 36 [37, 38, 39, 40, 41, 42, 43] (by kernel_rfl) z z (yi_off ((wanted_eq z z z (cvb hc577)).trans z)) (ws_q (v := undef) 37 [38, 39, 40, 41, 42, 43] (by kernel_rfl) z z (yi_off ((wanted_eq z z z (cvb hc577)).trans z)) (ws_q (v := undef) 38 [39, 40, 41, 42, 43] (by kernel_rfl) z z (yi_off ((wanted_eq z z z (cvb hc577)).trans z)) (ws_q (v := undef) 39 [40, 41, 42, 43] (by kernel_rfl) z z (yi_off ((wanted_eq z z z (cvb hc577)).trans z)) (ws_q (v := undef) 40 [41, 42, 43] (by kernel_rfl) z z (yi_off ((wanted_eq z z z (cvb hc577)).trans z)) (ws_q (v := undef) 41 [42, 43] (by kernel_rfl) z z (yi_off ((wanted_eq z z z (cvb hc577)).trans z)) (ws_q (v := undef) 42 [43] (by kernel_rfl) z z (yi_off ((wanted_eq z z z (cvb hc577)).trans z)) (wsr (.bool true) 43 z z z (by kernel_rfl) (fun w hst => x_pick_t hc577 z z) ?_))))))))))
 refine ws_nil ?_
 intro w hst
 refine tn ?_
 refine wp_ift z ?_
 refine wp_seq (wrl (wv (.bool false) z z z (wl_nil (tn (wp_ret (then_r ?_))))))
 obtain rfl := some_inj hm
 refine post_ret (vs := [.bool false]) results7 (rvs_cons (rv_tmp z) rvs_nil) ?_
 exact ⟨_, z, hI0, hst.keep0⟩
}
 {
 replace hm := bif_f hc577 hm
 refine ws_q (v := v540) 33 [34, 35, 36, 37, 38, 39, 40, 41, 42, 43] (by kernel_rfl) z z (yi_run ((wanted_eq z z z (cvb hc577)).trans z) (fun w hst => z)) (ws_q (v := .int .i64 (i64.wrap ((i64.wrap (((t512.Up).length : Int) * (i64.wrap (((a1).length : Int) + (1:Int))))) + (1:Int)))) 34 [35, 36, 37, 38, 39, 40, 41, 42, 43] (by kernel_rfl) z z (yi_run ((wanted_eq z z z (cvb hc577)).trans z) (fun w hst => z)) (ws_q (v := .int .i64 (i64.wrap ((i64.wrap ((i64.wrap (((t512.Up).length : Int) * (i64.wrap (((a1).length : Int) + (1:Int))))) + (1:Int))) - (1:Int)))) 35 [36, 37, 38, 39, 40, 41, 42, 43] (by kernel_rfl) z z (yi_run ((wanted_eq z z z (cvb hc577)).trans z) (fun w hst => z)) (ws_q (v := Pt b523 0) 37 [36, 38, 39, 40, 41, 42, 43] (by kernel_rfl) z z (yi_run ((wanted_eq z z z (cvb hc577)).trans z) (fun w hst => x_field z underlying28 z sizeOf25 z)) (ws_q (v := v517) 38 [36, 39, 40, 41, 42, 43] (by kernel_rfl) z z (yi_run ((wanted_eq z z z (cvb hc577)).trans z) (fun w hst => x_load z isAgg25 (hst.bc1 z))) ?_))))
 refine ws_e1 36 (by kernel_rfl) ?_
 refine nxe [39, 40, 41, 42, 43] (by kernel_rfl) z ((wanted_eq z z z (cvb hc577)).trans z) ?_
 clear hst
 intro w hst
 obtain ⟨t578, ht579, hm⟩ := bind_some hm
 refine wec call22 [v540, I6 (i64.wrap ((i64.wrap ((i64.wrap (((t512.Up).length : Int) * (i64.wrap (((a1).length : Int) + (1:Int))))) + (1:Int))) - (1:Int)))] z z ?_
 refine (config_Plan_Label_ref hst.to1 ht579).mono ?_
 rintro _ w580 ⟨rfl, hst⟩
 refine ⟨_, z, ?_⟩
 replace hst := hst.of1
 refine ws_next (pend' := [(38, v517), (37, Pt b523 0)]) hst (by kernel_rfl) (pk_cons z (yi_run ((wanted_eq z z z (cvb hc577)).trans z) (fun w hst => x_load z isAgg25 (hst.bc1 z))) (pk_cons z (yi_run ((wanted_eq z z z (cvb hc577)).trans z) (fun w hst => x_field z underlying28 z sizeOf25 z)) pk_nil)) ?_
 refine ws_e1 39 (by kernel_rfl) ?_
 refine nxe [40, 41, 42, 43] (by kernel_rfl) z ((wanted_eq z z z (cvb hc577)).trans z) ?_
 clear hst
 intro w hst
 obtain ⟨t583, ht584, hm⟩ := bind_some hm
 refine wec call23 [v517] z z ?_
 refine (ref03_Order_ref (f534.mono ro_rd) hst.to0 ht584).mono ?_
 rintro _ w585 ⟨v588, rfl, hst⟩
 refine ⟨_, z, ?_⟩
 replace hst := hst.of1
 refine ws_next (pend' := []) hst (by kernel_rfl) pk_nil ?_
 obtain ⟨x590, hx591, hm⟩ := bind_some hm
 obtain ⟨h592, h593, hi594⟩ := geto_some hx591
 refine ws_q (v := .pointer (some (eAddr v588 ((0:Int).toNat * 1 + 0)))) 40 [41, 42, 43] (by kernel_rfl) z z (yi_run ((wanted_eq z z z (cvb hc577)).trans z) (fun w hst => x_index z z underlying46 sizeOf3 hst.sv0 h592 h593)) (ws_q (v := .int .i64 x590) 41 [42, 43] (by kernel_rfl) z z (yi_run ((wanted_eq z z z (cvb hc577)).trans z) (fun w hst => x_load z isAgg3 (hst.ol0 hi594 (by rintro _ rfl; rfl)))) (ws_q (v := .bool (t578 != x590)) 42 [43] (by kernel_rfl) z z (yi_run ((wanted_eq z z z (cvb hc577)).trans z) (fun w hst => z)) (wsr (.bool (t578 != x590)) 43 z z z (by kernel_rfl) (fun w hst => x_pick_f hc577 z z) ?_)))
 refine ws_nil ?_
 intro w hst
 refine tn ?_
 refine bsplit (t578 != x590) (fun hc595 => ?_) (fun hc595 => ?_)
 {
 replace hm := bif_t hc595 hm
 refine wp_ift (cvb hc595) ?_
 refine wp_seq (wrl (wv (.bool false) z z z (wl_nil (tn (wp_ret (then_r ?_))))))
 obtain rfl := some_inj hm
 refine post_ret (vs := [.bool false]) results7 (rvs_cons (rv_tmp z) rvs_nil) ?_
 exact ⟨_, z, hI0, hst.keep0⟩
}
 {
 replace hm := bif_f hc595 hm
 refine wp_iff (cvb hc595) ?_
 refine wp_skip (tn ?_)
 obtain ⟨y936, hm, hx937⟩ := joinO_some hm
 refine wp_cut (fun a w => ∃ (σ934 : Nat → Value), (law04_ConfigLanes_j0 t535 t512 a1) () = some r ∧ a = Fr 202 (upd (upd (upd σ934 5 (Pt b523 0)) 6 (v540)) 9 (.int .i64 (i64.wrap ((i64.wrap (((t512.Up).length : Int) * (i64.wrap (((a1).length : Int) + (1:Int))))) + (1:Int))))) ∧ St w0 w I538 [cells b523 [v517, I6 t512.Nodes, r1_0, I6 t512.Frame, I6 t512.Depth, I6 t512.Quota, I6 t512.Wide, I6 t512.Beat, I6 t512.Elect], objO at_config_Plan v540 t535.1] R) ?_ ?_
 {
 refine wp_seq (wrl (wv (.int .i64 ((-1):Int)) z z z (wl_nil (tn (wp_block ?_)))))
 replace hst := hst.sub.pull2.sub
 obtain ⟨n817, hm⟩ := loopO_some hm
 refine wp_loop_n (fun n a w => ∃ (z815 : Int) (σ816 : Nat → Value), loopN (law04_ConfigLanes_l1 t512 a1 t535) n z815 = some y936 ∧ a = Fr 202 (upd (upd (upd (upd (upd σ816 5 (Pt b523 0)) 6 (v540)) 8 (.int .i64 (i64.wrap (((a1).length : Int) + (1:Int))))) 9 (.int .i64 (i64.wrap ((i64.wrap (((t512.Up).length : Int) * (i64.wrap (((a1).length : Int) + (1:Int))))) + (1:Int))))) 10 (.int .i64 z815)) ∧ St w0 w I538 [objO at_config_Plan v540 t535.1, cells b523 [v517, I6 t512.Nodes, r1_0, I6 t512.Frame, I6 t512.Depth, I6 t512.Quota, I6 t512.Wide, I6 t512.Beat, I6 t512.Elect]] R) n817 ⟨((-1):Int), _, hm, (fu 5 (Pt b523 0) z (fu 6 v540 z (fu 8 (.int .i64 (i64.wrap (((a1).length : Int) + (1:Int)))) z (fu 9 (.int .i64 (i64.wrap ((i64.wrap (((t512.Up).length : Int) * (i64.wrap (((a1).length : Int) + (1:Int))))) + (1:Int)))) z (fu 10 (.int .i64 ((-1):Int)) z z))))), hst⟩ ?_
 rintro n823 _ w818 ⟨z815, σ816, hm, rfl, hst⟩
 obtain ⟨n820, y821, rfl, hm, hx822⟩ := loopN_some hm
 dsimp only [law04_ConfigLanes_l1] at hm
 refine wp_seq (wp_seq (wrl (wv (.int .i64 z815) z z z (wv (Pt b523 0) z z (x_field z underlying28 z sizeOf25 z) (wv (v517) z z (x_load z isAgg25 (hst.bc1 z)) (wv (.int .i64 ((t512.Up).length : Int)) z z (x_len z underlying25 (ro_sliceV f534)) (wv (.bool (decide (z815 ≤ ((t512.Up).length : Int)))) z z z (wl_nil (tn ?_)))))))))
 refine bsplit (decide (z815 ≤ ((t512.Up).length : Int))) (fun hc824 => ?_) (fun hc824 => ?_)
 {
 replace hm := bif_t hc824 hm
 refine wp_ift (cvb hc824) ?_
 refine wp_skip (tn (wp_seq (wp_block (wp_seq (wrl ?_)))))
 refine wv (.int .i64 ((-1):Int)) z z z (wl_nil (tn (wp_block ?_)))
 obtain ⟨n894, hm⟩ := loopO_some hm
 refine wp_loop_n (fun n a w => ∃ (z892 : Int) (σ893 : Nat → Value), loopN (law04_ConfigLanes_l2 a1 t535 z815 t512) n z892 = some y821 ∧ a = Fr 202 (upd (upd (upd (upd (upd (upd σ893 5 (Pt b523 0)) 6 (v540)) 8 (.int .i64 (i64.wrap (((a1).length : Int) + (1:Int))))) 9 (.int .i64 (i64.wrap ((i64.wrap (((t512.Up).length : Int) * (i64.wrap (((a1).length : Int) + (1:Int))))) + (1:Int))))) 10 (.int .i64 z815)) 11 (.int .i64 z892)) ∧ St w0 w I538 [objO at_config_Plan v540 t535.1, cells b523 [v517, I6 t512.Nodes, r1_0, I6 t512.Frame, I6 t512.Depth, I6 t512.Quota, I6 t512.Wide, I6 t512.Beat, I6 t512.Elect]] R) n894 ⟨((-1):Int), _, hm, (fu 5 (Pt b523 0) z (fu 6 v540 z (fu 8 (.int .i64 (i64.wrap (((a1).length : Int) + (1:Int)))) z (fu 9 (.int .i64 (i64.wrap ((i64.wrap (((t512.Up).length : Int) * (i64.wrap (((a1).length : Int) + (1:Int))))) + (1:Int)))) z (fu 10 (.int .i64 z815) z (fu 11 (.int .i64 ((-1):Int)) z z)))))), hst⟩ ?_
 rintro n900 _ w895 ⟨z892, σ893, hm, rfl, hst⟩
 obtain ⟨n897, y898, rfl, hm, hx899⟩ := loopN_some hm
 dsimp only [law04_ConfigLanes_l2] at hm
 refine wp_seq (wp_seq (wrl (wv (.int .i64 z892) z z z (wv (.int .i64 (i64.wrap (((a1).length : Int) + (1:Int)))) z z z (wv (.bool (decide (z892 ≤ (i64.wrap (((a1).length : Int) + (1:Int)))))) z z z (wl_nil (tn ?_)))))))
 refine bsplit (decide (z892 ≤ (i64.wrap (((a1).length : Int) + (1:Int))))) (fun hc901 => ?_) (fun hc901 => ?_)
 {
 replace hm := bif_t hc901 hm
 refine wp_ift (cvb hc901) ?_
 refine wp_skip (tn (wp_seq (wp_block (wp_seq (wrl ?_)))))
 refine wv (v540) z z z (wv (.int .i64 z815) z z z (wv (.int .i64 z892) z z z ?_))
 obtain ⟨t902, ht903, hm⟩ := bind_some hm
 refine wc call24 [v540, I6 z815, I6 z892] z z z ?_
 refine (config_Plan_Lane_ref hst.to1 ht903).mono ?_
 rintro _ w904 ⟨rfl, hst⟩
 refine ⟨_, z, ?_⟩
 replace hst := hst.of1
 refine wv (.int .i64 t902) z z z (wl_nil (tn (wp_seq (wp_seq (wrl (wv (.int .i64 z815) z z z (wv (.bool (decide (z815 < (0:Int)))) z z z (wv (.bool (decide (z815 < (0:Int)))) z z z ?_))))))))
 refine bsplit (decide (z815 < (0:Int))) (fun hc907 => ?_) (fun hc907 => ?_)
 {
 replace hm := bif_t hc907 hm
 refine wo hc907 z z z z z z (wo hc907 z z z z z z (wo hc907 z z z z z z (wo hc907 z z z z z z (wo hc907 z z z z z z (wv (.bool true) z z (x_pick_t hc907 z z) (wv (.bool true) z z z (wz z z z z z z (wz z z z z z z (wv (.bool true) z z (x_pick_t z z z) (wv (.bool true) z z z (wz z z z z z z (wz z z z z z z ?_))))))))))))
 refine wz z z z z z z (wv (.bool true) z z (x_pick_t z z z) (wl_nil (tn ?_)))
 refine wp_ift z ?_
 refine wp_seq (wp_seq (wrl (wv (.int .i64 t902) z z z (wv (.bool (t902 != ((-1):Int))) z z z (wl_nil (tn ?_))))))
 refine bsplit (t902 != ((-1):Int)) (fun hc908 => ?_) (fun hc908 => ?_)
 {
 replace hm := bif_t hc908 hm
 refine wp_ift (cvb hc908) ?_
 refine wp_seq (wrl (wv (.bool false) z z z (wl_nil (tn (wp_ret (then_r (then_r (blk_r (then_r (then_r ?_))))))))))
 replace hm := inr_up hm hx899
 refine blk_r (blk_r (then_r (then_r ?_)))
 replace hm := inr_up hm hx822
 refine blk_r (then_r ?_)
 replace hm := inr_up hm hx937
 obtain rfl := some_inj hm
 refine post_ret (vs := [.bool false]) results7 (rvs_cons (rv_tmp z) rvs_nil) ?_
 exact ⟨_, z, hI0, hst.keep0⟩
}
 {
 replace hm := bif_f hc908 hm
 refine wp_iff (cvb hc908) ?_
 refine wp_skip (tn (wp_exit (then_x (blk_x (tn (wrl ?_))))))
 refine wv (.int .i64 z892) z z z (wv (.int .i64 (i64.wrap (z892 + (1:Int)))) z z z (wv (.int .i64 (i64.wrap (z892 + (1:Int)))) z z z (wl_nil (tn ?_))))
 replace hst := hst.pull1.pull1.keep2
 obtain rfl := some_inj hm
 exact ⟨_, Nat.lt_succ_self _, (i64.wrap (z892 + (1:Int))), _, hx899, (fu 5 (Pt b523 0) z (fu 6 v540 z (fu 8 (.int .i64 (i64.wrap (((a1).length : Int) + (1:Int)))) z (fu 9 (.int .i64 (i64.wrap ((i64.wrap (((t512.Up).length : Int) * (i64.wrap (((a1).length : Int) + (1:Int))))) + (1:Int)))) z (fu 10 (.int .i64 z815) z (fu 11 (.int .i64 (i64.wrap (z892 + (1:Int)))) z z)))))), hst⟩
}
}
 {
 replace hm := bif_f hc907 hm
 refine wv (.int .i64 z815) ((wanted_eq z z z (cvb hc907)).trans z) z z (wv (Pt b523 0) ((wanted_eq z z z (cvb hc907)).trans z) z (x_field z underlying28 z sizeOf25 z) (wv (v517) ((wanted_eq z z z (cvb hc907)).trans z) z (x_load z isAgg25 (hst.bc1 z)) (wv (.int .i64 ((t512.Up).length : Int)) ((wanted_eq z z z (cvb hc907)).trans z) z (x_len z underlying25 (ro_sliceV f534)) (wv (.bool (decide (z815 ≥ ((t512.Up).length : Int)))) ((wanted_eq z z z (cvb hc907)).trans z) z z (wv (.bool (decide (z815 ≥ ((t512.Up).length : Int)))) z z (x_pick_f hc907 z z) (wv (.bool (decide (z815 ≥ ((t512.Up).length : Int)))) z z z ?_))))))
 refine bsplit (decide (z815 ≥ ((t512.Up).length : Int))) (fun hc909 => ?_) (fun hc909 => ?_)
 {
 replace hm := bif_t hc909 hm
 refine wo hc909 z z z z z z (wo hc909 z z z z z z (wv (.bool true) z z (x_pick_t hc909 z z) (wv (.bool true) z z z (wz z z z z z z (wz z z z z z z (wz z z z z z z (wv (.bool true) z z (x_pick_t z z z) (wl_nil (tn ?_)))))))))
 refine wp_ift z ?_
 refine wp_seq (wp_seq (wrl (wv (.int .i64 t902) z z z (wv (.bool (t902 != ((-1):Int))) z z z (wl_nil (tn ?_))))))
 refine bsplit (t902 != ((-1):Int)) (fun hc910 => ?_) (fun hc910 => ?_)
 {
 replace hm := bif_t hc910 hm
 refine wp_ift (cvb hc910) ?_
 refine wp_seq (wrl (wv (.bool false) z z z (wl_nil (tn (wp_ret (then_r (then_r (blk_r (then_r (then_r ?_))))))))))
 replace hm := inr_up hm hx899
 refine blk_r (blk_r (then_r (then_r ?_)))
 replace hm := inr_up hm hx822
 refine blk_r (then_r ?_)
 replace hm := inr_up hm hx937
 obtain rfl := some_inj hm
 refine post_ret (vs := [.bool false]) results7 (rvs_cons (rv_tmp z) rvs_nil) ?_
 exact ⟨_, z, hI0, hst.keep0⟩
}
 {
 replace hm := bif_f hc910 hm
 refine wp_iff (cvb hc910) ?_
 refine wp_skip (tn (wp_exit (then_x (blk_x (tn (wrl ?_))))))
 refine wv (.int .i64 z892) z z z (wv (.int .i64 (i64.wrap (z892 + (1:Int)))) z z z (wv (.int .i64 (i64.wrap (z892 + (1:Int)))) z z z (wl_nil (tn ?_))))
 replace hst := hst.pull1.pull1.keep2
 obtain rfl := some_inj hm
 exact ⟨_, Nat.lt_succ_self _, (i64.wrap (z892 + (1:Int))), _, hx899, (fu 5 (Pt b523 0) z (fu 6 v540 z (fu 8 (.int .i64 (i64.wrap (((a1).length : Int) + (1:Int)))) z (fu 9 (.int .i64 (i64.wrap ((i64.wrap (((t512.Up).length : Int) * (i64.wrap (((a1).length : Int) + (1:Int))))) + (1:Int)))) z (fu 10 (.int .i64 z815) z (fu 11 (.int .i64 (i64.wrap (z892 + (1:Int)))) z z)))))), hst⟩
}
}
 {
 replace hm := bif_f hc909 hm
 refine wv (.int .i64 z892) ((wanted_eq z z z (cvb hc909)).trans z) z z (wv (.bool (decide (z892 < (0:Int)))) ((wanted_eq z z z (cvb hc909)).trans z) z z (wv (.bool (decide (z892 < (0:Int)))) z z (x_pick_f hc909 z z) (wv (.bool (decide (z892 < (0:Int)))) z z z ?_)))
 refine bsplit (decide (z892 < (0:Int))) (fun hc911 => ?_) (fun hc911 => ?_)
 {
 replace hm := bif_t hc911 hm
 refine wo hc911 z z z z z z (wo hc911 z z z z z z (wo hc911 z z z z z z (wv (.bool true) z z (x_pick_t hc911 z z) (wl_nil (tn ?_)))))
 refine wp_ift z ?_
 refine wp_seq (wp_seq (wrl (wv (.int .i64 t902) z z z (wv (.bool (t902 != ((-1):Int))) z z z (wl_nil (tn ?_))))))
 refine bsplit (t902 != ((-1):Int)) (fun hc912 => ?_) (fun hc912 => ?_)
 {
 replace hm := bif_t hc912 hm
 refine wp_ift (cvb hc912) ?_
 refine wp_seq (wrl (wv (.bool false) z z z (wl_nil (tn (wp_ret (then_r (then_r (blk_r (then_r (then_r ?_))))))))))
 replace hm := inr_up hm hx899
 refine blk_r (blk_r (then_r (then_r ?_)))
 replace hm := inr_up hm hx822
 refine blk_r (then_r ?_)
 replace hm := inr_up hm hx937
 obtain rfl := some_inj hm
 refine post_ret (vs := [.bool false]) results7 (rvs_cons (rv_tmp z) rvs_nil) ?_
 exact ⟨_, z, hI0, hst.keep0⟩
}
 {
 replace hm := bif_f hc912 hm
 refine wp_iff (cvb hc912) ?_
 refine wp_skip (tn (wp_exit (then_x (blk_x (tn (wrl ?_))))))
 refine wv (.int .i64 z892) z z z (wv (.int .i64 (i64.wrap (z892 + (1:Int)))) z z z (wv (.int .i64 (i64.wrap (z892 + (1:Int)))) z z z (wl_nil (tn ?_))))
 replace hst := hst.pull1.pull1.keep2
 obtain rfl := some_inj hm
 exact ⟨_, Nat.lt_succ_self _, (i64.wrap (z892 + (1:Int))), _, hx899, (fu 5 (Pt b523 0) z (fu 6 v540 z (fu 8 (.int .i64 (i64.wrap (((a1).length : Int) + (1:Int)))) z (fu 9 (.int .i64 (i64.wrap ((i64.wrap (((t512.Up).length : Int) * (i64.wrap (((a1).length : Int) + (1:Int))))) + (1:Int)))) z (fu 10 (.int .i64 z815) z (fu 11 (.int .i64 (i64.wrap (z892 + (1:Int)))) z z)))))), hst⟩
}
}
 {
 replace hm := bif_f hc911 hm
 refine wv (.int .i64 z892) ((wanted_eq z z z (cvb hc911)).trans z) z z (wv (.int .i64 (i64.wrap (((a1).length : Int) + (1:Int)))) ((wanted_eq z z z (cvb hc911)).trans z) z z (wv (.bool (decide (z892 ≥ (i64.wrap (((a1).length : Int) + (1:Int)))))) ((wanted_eq z z z (cvb hc911)).trans z) z z (wv (.bool (decide (z892 ≥ (i64.wrap (((a1).length : Int) + (1:Int)))))) z z (x_pick_f hc911 z z) (wl_nil (tn ?_)))))
 refine bsplit (decide (z892 ≥ (i64.wrap (((a1).length : Int) + (1:Int))))) (fun hc913 => ?_) (fun hc913 => ?_)
 {
 replace hm := bif_t hc913 hm
 refine wp_ift (cvb hc913) ?_
 refine wp_seq (wp_seq (wrl (wv (.int .i64 t902) z z z (wv (.bool (t902 != ((-1):Int))) z z z (wl_nil (tn ?_))))))
 refine bsplit (t902 != ((-1):Int)) (fun hc914 => ?_) (fun hc914 => ?_)
 {
 replace hm := bif_t hc914 hm
 refine wp_ift (cvb hc914) ?_
 refine wp_seq (wrl (wv (.bool false) z z z (wl_nil (tn (wp_ret (then_r (then_r (blk_r (then_r (then_r ?_))))))))))
 replace hm := inr_up hm hx899
 refine blk_r (blk_r (then_r (then_r ?_)))
 replace hm := inr_up hm hx822
 refine blk_r (then_r ?_)
 replace hm := inr_up hm hx937
 obtain rfl := some_inj hm
 refine post_ret (vs := [.bool false]) results7 (rvs_cons (rv_tmp z) rvs_nil) ?_
 exact ⟨_, z, hI0, hst.keep0⟩
}
 {
 replace hm := bif_f hc914 hm
 refine wp_iff (cvb hc914) ?_
 refine wp_skip (tn (wp_exit (then_x (blk_x (tn (wrl ?_))))))
 refine wv (.int .i64 z892) z z z (wv (.int .i64 (i64.wrap (z892 + (1:Int)))) z z z (wv (.int .i64 (i64.wrap (z892 + (1:Int)))) z z z (wl_nil (tn ?_))))
 replace hst := hst.pull1.pull1.keep2
 obtain rfl := some_inj hm
 exact ⟨_, Nat.lt_succ_self _, (i64.wrap (z892 + (1:Int))), _, hx899, (fu 5 (Pt b523 0) z (fu 6 v540 z (fu 8 (.int .i64 (i64.wrap (((a1).length : Int) + (1:Int)))) z (fu 9 (.int .i64 (i64.wrap ((i64.wrap (((t512.Up).length : Int) * (i64.wrap (((a1).length : Int) + (1:Int))))) + (1:Int)))) z (fu 10 (.int .i64 z815) z (fu 11 (.int .i64 (i64.wrap (z892 + (1:Int)))) z z)))))), hst⟩
}
}
 {
 replace hm := bif_f hc913 hm
 refine wp_iff (cvb hc913) ?_
 refine wp_skip (tn (wp_seq (wrl ?_)))
 refine wv (.int .i64 t902) z z z (wv (.int .i64 z815) z z z (wv (.int .i64 (i64.wrap (((a1).length : Int) + (1:Int)))) z z z (wv (.int .i64 (i64.wrap (z815 * (i64.wrap (((a1).length : Int) + (1:Int)))))) z z z (wv (.int .i64 z892) z z z (wv (.int .i64 (i64.wrap ((i64.wrap (z815 * (i64.wrap (((a1).length : Int) + (1:Int))))) + z892))) z z z (wv (.bool (t902 != (i64.wrap ((i64.wrap (z815 * (i64.wrap (((a1).length : Int) + (1:Int))))) + z892)))) z z z (wv (.bool (t902 != (i64.wrap ((i64.wrap (z815 * (i64.wrap (((a1).length : Int) + (1:Int))))) + z892)))) z z z ?_)))))))
 refine bsplit (t902 != (i64.wrap ((i64.wrap (z815 * (i64.wrap (((a1).length : Int) + (1:Int))))) + z892))) (fun hc915 => ?_) (fun hc915 => ?_)
 {
 replace hm := bif_t hc915 hm
 refine wo hc915 z z z z z z (wo hc915 z z z z z z (wo hc915 z z z z z z (wo hc915 z z z z z z (wo hc915 z z z z z z (wv (.bool true) z z (x_pick_t hc915 z z) (wv (.bool true) z z z (wz z z z z z z (wz z z z z z z (wz z z z z z z (wz z z z z z z (wz z z z z z z (wv (.bool true) z z (x_pick_t z z z) ?_))))))))))))
 refine wv (.bool true) z z z (wz z z z z z z (wz z z z z z z (wz z z z z z z (wz z z z z z z (wz z z z z z z (wz z z z z z z (wz z z z z z z (wv (.bool true) z z (x_pick_t z z z) (wl_nil (tn ?_))))))))))
 refine wp_ift z ?_
 refine wp_seq (wrl (wv (.bool false) z z z (wl_nil (tn (wp_ret (blk_r (then_r (then_r ?_))))))))
 replace hm := inr_up hm hx899
 refine blk_r (blk_r (then_r (then_r ?_)))
 replace hm := inr_up hm hx822
 refine blk_r (then_r ?_)
 replace hm := inr_up hm hx937
 obtain rfl := some_inj hm
 refine post_ret (vs := [.bool false]) results7 (rvs_cons (rv_tmp z) rvs_nil) ?_
 exact ⟨_, z, hI0, hst.keep0⟩
}
 {
 replace hm := bif_f hc915 hm
 refine wv (v540) ((wanted_eq z z z (cvb hc915)).trans z) z z (wv (.int .i64 t902) ((wanted_eq z z z (cvb hc915)).trans z) z z ?_)
 obtain ⟨t916, ht917, hm⟩ := bind_some hm
 refine wl_call ((wanted_eq z z z (cvb hc915)).trans z) z (x_call call22 z (vs := [v540, I6 t902]) z) ?_
 refine (config_Plan_Label_ref hst.to1 ht917).mono ?_
 rintro _ w918 ⟨rfl, hst⟩
 refine ⟨_, z, ?_⟩
 replace hst := hst.of1
 refine wv (.int .i64 z815) ((wanted_eq z z z (cvb hc915)).trans z) z z (wv (.bool (t916 != z815)) ((wanted_eq z z z (cvb hc915)).trans z) z z (wv (.bool (t916 != z815)) z z (x_pick_f hc915 z z) (wv (.bool (t916 != z815)) z z z ?_)))
 refine bsplit (t916 != z815) (fun hc921 => ?_) (fun hc921 => ?_)
 {
 replace hm := bif_t hc921 hm
 refine wo hc921 z z z z z z (wo hc921 z z z z z z (wo hc921 z z z z z z (wo hc921 z z z z z z (wo hc921 z z z z z z (wv (.bool true) z z (x_pick_t hc921 z z) (wv (.bool true) z z z (wz z z z z z z (wz z z z z z z (wz z z z z z z (wz z z z z z z (wz z z z z z z (wz z z z z z z ?_))))))))))))
 refine wz z z z z z z (wv (.bool true) z z (x_pick_t z z z) (wl_nil (tn ?_)))
 refine wp_ift z ?_
 refine wp_seq (wrl (wv (.bool false) z z z (wl_nil (tn (wp_ret (blk_r (then_r (then_r ?_))))))))
 replace hm := inr_up hm hx899
 refine blk_r (blk_r (then_r (then_r ?_)))
 replace hm := inr_up hm hx822
 refine blk_r (then_r ?_)
 replace hm := inr_up hm hx937
 obtain rfl := some_inj hm
 refine post_ret (vs := [.bool false]) results7 (rvs_cons (rv_tmp z) rvs_nil) ?_
 exact ⟨_, z, hI0, hst.keep0⟩
}
 {
 replace hm := bif_f hc921 hm
 refine wv (v540) ((wanted_eq z z z (cvb hc921)).trans z) z z (wv (.int .i64 t902) ((wanted_eq z z z (cvb hc921)).trans z) z z ?_)
 obtain ⟨t922, ht923, hm⟩ := bind_some hm
 refine wl_call ((wanted_eq z z z (cvb hc921)).trans z) z (x_call call21 z (vs := [v540, I6 t902]) z) ?_
 refine (config_Plan_Part_ref hst.to1 ht923).mono ?_
 rintro _ w924 ⟨rfl, hst⟩
 refine ⟨_, z, ?_⟩
 replace hst := hst.of1
 refine wv (.int .i64 z892) ((wanted_eq z z z (cvb hc921)).trans z) z z (wv (.bool (t922 != z892)) ((wanted_eq z z z (cvb hc921)).trans z) z z (wv (.bool (t922 != z892)) z z (x_pick_f hc921 z z) (wv (.bool (t922 != z892)) z z z ?_)))
 refine bsplit (t922 != z892) (fun hc927 => ?_) (fun hc927 => ?_)
 {
 replace hm := bif_t hc927 hm
 refine wo hc927 z z z z z z (wo hc927 z z z z z z (wo hc927 z z z z z z (wo hc927 z z z z z z (wo hc927 z z z z z z (wo hc927 z z z z z z (wo hc927 z z z z z z (wv (.bool true) z z (x_pick_t hc927 z z) (wl_nil (tn ?_)))))))))
 refine wp_ift z ?_
 refine wp_seq (wrl (wv (.bool false) z z z (wl_nil (tn (wp_ret (blk_r (then_r (then_r ?_))))))))
 replace hm := inr_up hm hx899
 refine blk_r (blk_r (then_r (then_r ?_)))
 replace hm := inr_up hm hx822
 refine blk_r (then_r ?_)
 replace hm := inr_up hm hx937
 obtain rfl := some_inj hm
 refine post_ret (vs := [.bool false]) results7 (rvs_cons (rv_tmp z) rvs_nil) ?_
 exact ⟨_, z, hI0, hst.keep0⟩
}
 {
 replace hm := bif_f hc927 hm
 refine wv (v540) ((wanted_eq z z z (cvb hc927)).trans z) z z (wv (.int .i64 z815) ((wanted_eq z z z (cvb hc927)).trans z) z z ?_)
 obtain ⟨t928, ht929, hm⟩ := bind_some hm
 refine wl_call ((wanted_eq z z z (cvb hc927)).trans z) z (x_call call25 z (vs := [v540, I6 z815]) z) ?_
 refine (config_Plan_Chief_ref hst.to1 ht929).mono ?_
 rintro _ w930 ⟨rfl, hst⟩
 refine ⟨_, z, ?_⟩
 replace hst := hst.of1
 refine wv (.int .i64 z815) ((wanted_eq z z z (cvb hc927)).trans z) z z (wv (.int .i64 (i64.wrap (((a1).length : Int) + (1:Int)))) ((wanted_eq z z z (cvb hc927)).trans z) z z (wv (.int .i64 (i64.wrap (z815 * (i64.wrap (((a1).length : Int) + (1:Int)))))) ((wanted_eq z z z (cvb hc927)).trans z) z z (wv (.bool (t928 != (i64.wrap (z815 * (i64.wrap (((a1).length : Int) + (1:Int))))))) ((wanted_eq z z z (cvb hc927)).trans z) z z (wv (.bool (t928 != (i64.wrap (z815 * (i64.wrap (((a1).length : Int) + (1:Int))))))) z z (x_pick_f hc927 z z) (wl_nil (tn ?_))))))
 refine bsplit (t928 != (i64.wrap (z815 * (i64.wrap (((a1).length : Int) + (1:Int)))))) (fun hc933 => ?_) (fun hc933 => ?_)
 {
 replace hm := bif_t hc933 hm
 refine wp_ift (cvb hc933) ?_
 refine wp_seq (wrl (wv (.bool false) z z z (wl_nil (tn (wp_ret (blk_r (then_r (then_r ?_))))))))
 replace hm := inr_up hm hx899
 refine blk_r (blk_r (then_r (then_r ?_)))
 replace hm := inr_up hm hx822
 refine blk_r (then_r ?_)
 replace hm := inr_up hm hx937
 obtain rfl := some_inj hm
 refine post_ret (vs := [.bool false]) results7 (rvs_cons (rv_tmp z) rvs_nil) ?_
 exact ⟨_, z, hI0, hst.keep0⟩
}
 {
 replace hm := bif_f hc933 hm
 refine wp_iff (cvb hc933) ?_
 refine wp_skip (blk_n (tn (wrl ?_)))
 refine wv (.int .i64 z892) z z z (wv (.int .i64 (i64.wrap (z892 + (1:Int)))) z z z (wv (.int .i64 (i64.wrap (z892 + (1:Int)))) z z z (wl_nil (tn ?_))))
 replace hst := hst.pull1.pull1.keep2
 obtain rfl := some_inj hm
 exact ⟨_, Nat.lt_succ_self _, (i64.wrap (z892 + (1:Int))), _, hx899, (fu 5 (Pt b523 0) z (fu 6 v540 z (fu 8 (.int .i64 (i64.wrap (((a1).length : Int) + (1:Int)))) z (fu 9 (.int .i64 (i64.wrap ((i64.wrap (((t512.Up).length : Int) * (i64.wrap (((a1).length : Int) + (1:Int))))) + (1:Int)))) z (fu 10 (.int .i64 z815) z (fu 11 (.int .i64 (i64.wrap (z892 + (1:Int)))) z z)))))), hst⟩
}
}
}
}
}
}
}
}
}
 {
 replace hm := bif_f hc901 hm
 refine wp_iff (cvb hc901) ?_
 refine wp_exit (then_x (then_x ?_))
 replace hm := inr_up hm hx899
 refine blk_x (blk_n (tn (wrl ?_)))
 refine wv (.int .i64 z815) z z z (wv (.int .i64 (i64.wrap (z815 + (1:Int)))) z z z (wv (.int .i64 (i64.wrap (z815 + (1:Int)))) z z z (wl_nil (tn ?_))))
 replace hst := hst.pull1.pull1.keep2
 obtain rfl := some_inj hm
 exact ⟨_, Nat.lt_succ_self _, (i64.wrap (z815 + (1:Int))), _, hx822, (fu 5 (Pt b523 0) z (fu 6 v540 z (fu 8 (.int .i64 (i64.wrap (((a1).length : Int) + (1:Int)))) z (fu 9 (.int .i64 (i64.wrap ((i64.wrap (((t512.Up).length : Int) * (i64.wrap (((a1).length : Int) + (1:Int))))) + (1:Int)))) z (fu 10 (.int .i64 (i64.wrap (z815 + (1:Int)))) z z))))), hst⟩
}
}
 {
 replace hm := bif_f hc824 hm
 refine wp_iff (cvb hc824) ?_
 refine wp_exit (then_x (then_x ?_))
 replace hm := inr_up hm hx822
 refine blk_x (tn ?_)
 replace hst := hst.pull1.keep2
 obtain rfl := some_inj hm
 exact ⟨_, hx937, (fu 5 (Pt b523 0) z (fu 6 v540 z (fu 9 (.int .i64 (i64.wrap ((i64.wrap (((t512.Up).length : Int) * (i64.wrap (((a1).length : Int) + (1:Int))))) + (1:Int)))) z z))), hst⟩
}
}
 {
 clear hst
 rintro _ w938 ⟨σ934, hm, rfl, hst⟩
 dsimp only [law04_ConfigLanes_j0] at hm
 refine wp_seq ?_
 refine wp_region_St hst 49 [0, 1, 2, 3, 4, 5, 6, 7, 8, 9, 10, 11, 12, 13, 14, 15, 16, 17, 18, 19, 20, 21, 22, 23, 24, 25, 26, 27, 28, 29, 30, 31, 32, 33, 34, 35, 36, 37, 38, 39, 40, 41, 42, 43, 44, 45, 46, 47, 48] [0, 1, 3, 7, 15, 15, 63, 127, 255, 511, 1023, 2047, 4095, 8191, 16383, 32767, 32767, 131071, 262143, 524287, 1048575, 2097151, 4194303, 2097151, 10485759, 27262975, 60817407, 134217727, 268435455, 536870911, 1073741823, 1073741823, 3221225471, 7516192767, 17179869183, 34359738367, 68719476735, 137438953471, 137438953471, 412316860415, 1099511627775, 2199023255551, 4398046511103, 8796093022207, 17592186044415, 35184372088831, 70368744177663, 140737488355327, 281474976710655] [] z (by kernel_rfl) (by kernel_rfl) Try.mixed (by kernel_rfl) ?_
 refine wsr (v540) 0 z z z (by kernel_rfl) (fun w hst => z) ?_
 refine ws_e1 1 (by kernel_rfl) ?_
 refine nxe [2, 3, 4, 5, 6, 7, 8, 9, 10, 11, 12, 13, 14, 15, 16, 17, 18, 19, 20, 21, 22, 23, 24, 25, 26, 27, 28, 29, 30, 31, 32, 33, 34, 35, 36, 37, 38, 39, 40, 41, 42, 43, 44, 45, 46, 47, 48] (by kernel_rfl) z z ?_
 clear hst
 intro w hst
 replace hst := hst.pull1
 obtain ⟨t939, ht940, hm⟩ := bind_some hm
 refine wec call22 [v540, I6 ((-1):Int)] z z ?_
 refine (config_Plan_Label_ref hst.to1 ht940).mono ?_
 rintro _ w941 ⟨rfl, hst⟩
 refine ⟨_, z, ?_⟩
 replace hst := hst.of1
 refine ws_next (pend' := []) hst (by kernel_rfl) pk_nil ?_
 refine wsr (.bool (t939 == ((-1):Int))) 2 z z z (by kernel_rfl) (fun w hst => z) (wsr (.bool (t939 == ((-1):Int))) 3 z z z (by kernel_rfl) (fun w hst => z) ?_)
 refine bsplit (t939 == ((-1):Int)) (fun hc944 => ?_) (fun hc944 => ?_)
 {
 replace hm := bif_t hc944 hm
 refine ws_q (v := v540) 4 [5, 6, 7, 8, 9, 10, 11, 12, 13, 14, 15, 16, 17, 18, 19, 20, 21, 22, 23, 24, 25, 26, 27, 28, 29, 30, 31, 32, 33, 34, 35, 36, 37, 38, 39, 40, 41, 42, 43, 44, 45, 46, 47, 48] (by kernel_rfl) z z (yi_run ((wanted_eq z z z (cvb hc944)).trans z) (fun w hst => z)) (ws_q (v := .int .i64 (i64.wrap ((i64.wrap (((t512.Up).length : Int) * (i64.wrap (((a1).length : Int) + (1:Int))))) + (1:Int)))) 5 [6, 7, 8, 9, 10, 11, 12, 13, 14, 15, 16, 17, 18, 19, 20, 21, 22, 23, 24, 25, 26, 27, 28, 29, 30, 31, 32, 33, 34, 35, 36, 37, 38, 39, 40, 41, 42, 43, 44, 45, 46, 47, 48] (by kernel_rfl) z z (yi_run ((wanted_eq z z z (cvb hc944)).trans z) (fun w hst => z)) ?_)
 refine ws_e1 6 (by kernel_rfl) ?_
 refine nxe [7, 8, 9, 10, 11, 12, 13, 14, 15, 16, 17, 18, 19, 20, 21, 22, 23, 24, 25, 26, 27, 28, 29, 30, 31, 32, 33, 34, 35, 36, 37, 38, 39, 40, 41, 42, 43, 44, 45, 46, 47, 48] (by kernel_rfl) z ((wanted_eq z z z (cvb hc944)).trans z) ?_
 clear hst
 intro w hst
 obtain ⟨t945, ht946, hm⟩ := bind_some hm
 refine wec call22 [v540, I6 (i64.wrap ((i64.wrap (((t512.Up).length : Int) * (i64.wrap (((a1).length : Int) + (1:Int))))) + (1:Int)))] z z ?_
 refine (config_Plan_Label_ref hst.to1 ht946).mono ?_
 rintro _ w947 ⟨rfl, hst⟩
 refine ⟨_, z, ?_⟩
 replace hst := hst.of1
 refine ws_next (pend' := []) hst (by kernel_rfl) pk_nil ?_
 refine ws_q (v := .bool (t945 == ((-1):Int))) 7 [8, 9, 10, 11, 12, 13, 14, 15, 16, 17, 18, 19, 20, 21, 22, 23, 24, 25, 26, 27, 28, 29, 30, 31, 32, 33, 34, 35, 36, 37, 38, 39, 40, 41, 42, 43, 44, 45, 46, 47, 48] (by kernel_rfl) z z (yi_run ((wanted_eq z z z (cvb hc944)).trans z) (fun w hst => z)) (wsr (.bool (t945 == ((-1):Int))) 8 z z z (by kernel_rfl) (fun w hst => x_pick_t hc944 z z) (wsr (.bool (t945 == ((-1):Int))) 9 z z z (by kernel_rfl) (fun w hst => z) ?_))
 refine bsplit (t945 == ((-1):Int)) (fun hc950 => ?_) (fun hc950 => ?_)
 {
 replace hm := bif_t hc950 hm
 refine ws_q (v := v540) 10 [11, 12, 13, 14, 15, 16, 17, 18, 19, 20, 21, 22, 23, 24, 25, 26, 27, 28, 29, 30, 31, 32, 33, 34, 35, 36, 37, 38, 39, 40, 41, 42, 43, 44, 45, 46, 47, 48] (by kernel_rfl) z z (yi_run ((wanted_eq z z z (cvb hc950)).trans z) (fun w hst => z)) ?_
 refine ws_e1 11 (by kernel_rfl) ?_
 refine nxe [12, 13, 14, 15, 16, 17, 18, 19, 20, 21, 22, 23, 24, 25, 26, 27, 28, 29, 30, 31, 32, 33, 34, 35, 36, 37, 38, 39, 40, 41, 42, 43, 44, 45, 46, 47, 48] (by kernel_rfl) z ((wanted_eq z z z (cvb hc950)).trans z) ?_
 clear hst
 intro w hst
 obtain ⟨t951, ht952, hm⟩ := bind_some hm
 refine wec call21 [v540, I6 ((-1):Int)] z z ?_
 refine (config_Plan_Part_ref hst.to1 ht952).mono ?_
 rintro _ w953 ⟨rfl, hst⟩
 refine ⟨_, z, ?_⟩
 replace hst := hst.of1
 refine ws_next (pend' := []) hst (by kernel_rfl) pk_nil ?_
 refine ws_q (v := .bool (t951 == ((-1):Int))) 12 [13, 14, 15, 16, 17, 18, 19, 20, 21, 22, 23, 24, 25, 26, 27, 28, 29, 30, 31, 32, 33, 34, 35, 36, 37, 38, 39, 40, 41, 42, 43, 44, 45, 46, 47, 48] (by kernel_rfl) z z (yi_run ((wanted_eq z z z (cvb hc950)).trans z) (fun w hst => z)) (wsr (.bool (t951 == ((-1):Int))) 13 z z z (by kernel_rfl) (fun w hst => x_pick_t hc950 z z) (wsr (.bool (t951 == ((-1):Int))) 14 z z z (by kernel_rfl) (fun w hst => z) ?_))
 refine bsplit (t951 == ((-1):Int)) (fun hc956 => ?_) (fun hc956 => ?_)
 {
 replace hm := bif_t hc956 hm
 refine ws_q (v := v540) 15 [16, 17, 18, 19, 20, 21, 22, 23, 24, 25, 26, 27, 28, 29, 30, 31, 32, 33, 34, 35, 36, 37, 38, 39, 40, 41, 42, 43, 44, 45, 46, 47, 48] (by kernel_rfl) z z (yi_run ((wanted_eq z z z (cvb hc956)).trans z) (fun w hst => z)) (ws_q (v := .int .i64 (i64.wrap ((i64.wrap (((t512.Up).length : Int) * (i64.wrap (((a1).length : Int) + (1:Int))))) + (1:Int)))) 16 [17, 18, 19, 20, 21, 22, 23, 24, 25, 26, 27, 28, 29, 30, 31, 32, 33, 34, 35, 36, 37, 38, 39, 40, 41, 42, 43, 44, 45, 46, 47, 48] (by kernel_rfl) z z (yi_run ((wanted_eq z z z (cvb hc956)).trans z) (fun w hst => z)) ?_)
 refine ws_e1 17 (by kernel_rfl) ?_
 refine nxe [18, 19, 20, 21, 22, 23, 24, 25, 26, 27, 28, 29, 30, 31, 32, 33, 34, 35, 36, 37, 38, 39, 40, 41, 42, 43, 44, 45, 46, 47, 48] (by kernel_rfl) z ((wanted_eq z z z (cvb hc956)).trans z) ?_
 clear hst
 intro w hst
 obtain ⟨t957, ht958, hm⟩ := bind_some hm
 refine wec call21 [v540, I6 (i64.wrap ((i64.wrap (((t512.Up).length : Int) * (i64.wrap (((a1).length : Int) + (1:Int))))) + (1:Int)))] z z ?_
 refine (config_Plan_Part_ref hst.to1 ht958).mono ?_
 rintro _ w959 ⟨rfl, hst⟩
 refine ⟨_, z, ?_⟩
 replace hst := hst.of1
 refine ws_next (pend' := []) hst (by kernel_rfl) pk_nil ?_
 refine ws_q (v := .bool (t957 == ((-1):Int))) 18 [19, 20, 21, 22, 23, 24, 25, 26, 27, 28, 29, 30, 31, 32, 33, 34, 35, 36, 37, 38, 39, 40, 41, 42, 43, 44, 45, 46, 47, 48] (by kernel_rfl) z z (yi_run ((wanted_eq z z z (cvb hc956)).trans z) (fun w hst => z)) (wsr (.bool (t957 == ((-1):Int))) 19 z z z (by kernel_rfl) (fun w hst => x_pick_t hc956 z z) (wsr (.bool (t957 == ((-1):Int))) 20 z z z (by kernel_rfl) (fun w hst => z) ?_))
 refine bsplit (t957 == ((-1):Int)) (fun hc962 => ?_) (fun hc962 => ?_)
 {
 replace hm := bif_t hc962 hm
 refine ws_q (v := v540) 21 [22, 23, 24, 25, 26, 27, 28, 29, 30, 31, 32, 33, 34, 35, 36, 37, 38, 39, 40, 41, 42, 43, 44, 45, 46, 47, 48] (by kernel_rfl) z z (yi_run ((wanted_eq z z z (cvb hc962)).trans z) (fun w hst => z)) (ws_q (v := Pt b523 1) 23 [22, 24, 25, 26, 27, 28, 29, 30, 31, 32, 33, 34, 35, 36, 37, 38, 39, 40, 41, 42, 43, 44, 45, 46, 47, 48] (by kernel_rfl) z z (yi_run ((wanted_eq z z z (cvb hc962)).trans z) (fun w hst => x_field z underlying28 z sizeOf3 z)) (ws_q (v := .int .i64 t512.Nodes) 24 [22, 25, 26, 27, 28, 29, 30, 31, 32, 33, 34, 35, 36, 37, 38, 39, 40, 41, 42, 43, 44, 45, 46, 47, 48] (by kernel_rfl) z z (yi_run ((wanted_eq z z z (cvb hc962)).trans z) (fun w hst => x_load z isAgg3 (hst.bc1 z))) ?_))
 obtain ⟨hg963, hm⟩ := gd_some hm
 refine ws_q (v := .int .u64 (iShl .u64 (1:Int) t512.Nodes)) 25 [22, 26, 27, 28, 29, 30, 31, 32, 33, 34, 35, 36, 37, 38, 39, 40, 41, 42, 43, 44, 45, 46, 47, 48] (by kernel_rfl) z z (yi_run ((wanted_eq z z z (cvb hc962)).trans z) (fun w hst => x_shl (of_decide_eq_true hg963) z z)) (ws_q (v := .int .u64 (u64.wrap ((iShl .u64 (1:Int) t512.Nodes) - (1:Int)))) 26 [22, 27, 28, 29, 30, 31, 32, 33, 34, 35, 36, 37, 38, 39, 40, 41, 42, 43, 44, 45, 46, 47, 48] (by kernel_rfl) z z (yi_run ((wanted_eq z z z (cvb hc962)).trans z) (fun w hst => z)) ?_)
 refine ws_e1 22 (by kernel_rfl) ?_
 refine nxe [27, 28, 29, 30, 31, 32, 33, 34, 35, 36, 37, 38, 39, 40, 41, 42, 43, 44, 45, 46, 47, 48] (by kernel_rfl) z ((wanted_eq z z z (cvb hc962)).trans z) ?_
 clear hst
 intro w hst
 obtain ⟨t964, ht965, hm⟩ := bind_some hm
 refine wec call26 [v540] z z ?_
 refine (config_Plan_All_ref hst.to1 ht965).mono ?_
 rintro _ w966 ⟨rfl, hst⟩
 refine ⟨_, z, ?_⟩
 replace hst := hst.of1
 refine ws_next (pend' := [(26, U6 (u64.wrap ((iShl .u64 (1:Int) t512.Nodes) - (1:Int)))), (25, U6 (iShl .u64 (1:Int) t512.Nodes)), (24, I6 t512.Nodes), (23, Pt b523 1)]) hst (by kernel_rfl) (pk_cons z (yi_run ((wanted_eq z z z (cvb hc962)).trans z) (fun w hst => z)) (pk_cons z (yi_run ((wanted_eq z z z (cvb hc962)).trans z) (fun w hst => x_shl (of_decide_eq_true hg963) z z)) (pk_cons z (yi_run ((wanted_eq z z z (cvb hc962)).trans z) (fun w hst => x_load z isAgg3 (hst.bc1 z))) (pk_cons z (yi_run ((wanted_eq z z z (cvb hc962)).trans z) (fun w hst => x_field z underlying28 z sizeOf3 z)) pk_nil)))) ?_
 refine ws_q (v := .bool (t964 == (u64.wrap ((iShl .u64 (1:Int) t512.Nodes) - (1:Int))))) 27 [28, 29, 30, 31, 32, 33, 34, 35, 36, 37, 38, 39, 40, 41, 42, 43, 44, 45, 46, 47, 48] (by kernel_rfl) z z (yi_run ((wanted_eq z z z (cvb hc962)).trans z) (fun w hst => z)) (wsr (.bool (t964 == (u64.wrap ((iShl .u64 (1:Int) t512.Nodes) - (1:Int))))) 28 z z z (by kernel_rfl) (fun w hst => x_pick_t hc962 z z) (wsr (.bool (t964 == (u64.wrap ((iShl .u64 (1:Int) t512.Nodes) - (1:Int))))) 29 z z z (by kernel_rfl) (fun w hst => z) ?_))
 refine bsplit (t964 == (u64.wrap ((iShl .u64 (1:Int) t512.Nodes) - (1:Int)))) (fun hc969 => ?_) (fun hc969 => ?_)
 {
 replace hm := bif_t hc969 hm
 refine ws_q (v := v540) 30 [31, 32, 33, 34, 35, 36, 37, 38, 39, 40, 41, 42, 43, 44, 45, 46, 47, 48] (by kernel_rfl) z z (yi_run ((wanted_eq z z z (cvb hc969)).trans z) (fun w hst => z)) (ws_q (v := Pt b523 1) 31 [32, 33, 34, 35, 36, 37, 38, 39, 40, 41, 42, 43, 44, 45, 46, 47, 48] (by kernel_rfl) z z (yi_run ((wanted_eq z z z (cvb hc969)).trans z) (fun w hst => x_field z underlying28 z sizeOf3 z)) (ws_q (v := .int .i64 t512.Nodes) 32 [33, 34, 35, 36, 37, 38, 39, 40, 41, 42, 43, 44, 45, 46, 47, 48] (by kernel_rfl) z z (yi_run ((wanted_eq z z z (cvb hc969)).trans z) (fun w hst => x_load z isAgg3 (hst.bc1 z))) (ws_q (v := .int .i64 (i64.wrap (t512.Nodes - (1:Int)))) 33 [34, 35, 36, 37, 38, 39, 40, 41, 42, 43, 44, 45, 46, 47, 48] (by kernel_rfl) z z (yi_run ((wanted_eq z z z (cvb hc969)).trans z) (fun w hst => z)) ?_)))
 refine ws_e1 34 (by kernel_rfl) ?_
 refine nxe [35, 36, 37, 38, 39, 40, 41, 42, 43, 44, 45, 46, 47, 48] (by kernel_rfl) z ((wanted_eq z z z (cvb hc969)).trans z) ?_
 clear hst
 intro w hst
 obtain ⟨t970, ht971, hm⟩ := bind_some hm
 refine wec call27 [v540, I6 (i64.wrap (t512.Nodes - (1:Int)))] z z ?_
 refine (config_Plan_Node_ref hst.to1 ht971).mono ?_
 rintro _ w972 ⟨rfl, hst⟩
 refine ⟨_, z, ?_⟩
 replace hst := hst.of1
 refine ws_next (pend' := []) hst (by kernel_rfl) pk_nil ?_
 refine wsr (.bool t970) 35 z z z (by kernel_rfl) (fun w hst => x_pick_t hc969 z z) (wsr (.bool t970) 36 z z z (by kernel_rfl) (fun w hst => z) ?_)
 refine bsplit t970 (fun hc975 => ?_) (fun hc975 => ?_)
 {
 replace hm := bif_t hc975 hm
 refine ws_q (v := v540) 37 [38, 39, 40, 41, 42, 43, 44, 45, 46, 47, 48] (by kernel_rfl) z z (yi_run ((wanted_eq z z z (cvb hc975)).trans z) (fun w hst => z)) (ws_q (v := Pt b523 1) 38 [39, 40, 41, 42, 43, 44, 45, 46, 47, 48] (by kernel_rfl) z z (yi_run ((wanted_eq z z z (cvb hc975)).trans z) (fun w hst => x_field z underlying28 z sizeOf3 z)) (ws_q (v := .int .i64 t512.Nodes) 39 [40, 41, 42, 43, 44, 45, 46, 47, 48] (by kernel_rfl) z z (yi_run ((wanted_eq z z z (cvb hc975)).trans z) (fun w hst => x_load z isAgg3 (hst.bc1 z))) ?_))
 refine ws_e1 40 (by kernel_rfl) ?_
 refine nxe [41, 42, 43, 44, 45, 46, 47, 48] (by kernel_rfl) z ((wanted_eq z z z (cvb hc975)).trans z) ?_
 clear hst
 intro w hst
 obtain ⟨t976, ht977, hm⟩ := bind_some hm
 refine wec call27 [v540, I6 t512.Nodes] z z ?_
 refine (config_Plan_Node_ref hst.to1 ht977).mono ?_
 rintro _ w978 ⟨rfl, hst⟩
 refine ⟨_, z, ?_⟩
 replace hst := hst.of1
 refine ws_next (pend' := []) hst (by kernel_rfl) pk_nil ?_
 refine ws_q (v := .bool (!t976)) 41 [42, 43, 44, 45, 46, 47, 48] (by kernel_rfl) z z (yi_run ((wanted_eq z z z (cvb hc975)).trans z) (fun w hst => z)) (wsr (.bool (!t976)) 42 z z z (by kernel_rfl) (fun w hst => x_pick_t hc975 z z) (wsr (.bool (!t976)) 43 z z z (by kernel_rfl) (fun w hst => z) ?_))
 refine bsplit (!t976) (fun hc981 => ?_) (fun hc981 => ?_)
 {
 replace hm := bif_t hc981 hm
 refine ws_q (v := v540) 44 [45, 46, 47, 48] (by kernel_rfl) z z (yi_run ((wanted_eq z z z (cvb hc981)).trans z) (fun w hst => z)) ?_
 refine ws_e1 45 (by kernel_rfl) ?_
 refine nxe [46, 47, 48] (by kernel_rfl) z ((wanted_eq z z z (cvb hc981)).trans z) ?_
 clear hst
 intro w hst
 obtain ⟨t982, ht983, hm⟩ := bind_some hm
 refine wec call27 [v540, I6 ((-1):Int)] z z ?_
 refine (config_Plan_Node_ref hst.to1 ht983).mono ?_
 rintro _ w984 ⟨rfl, hst⟩
 refine ⟨_, z, ?_⟩
 replace hst := hst.of1
 refine ws_next (pend' := []) hst (by kernel_rfl) pk_nil ?_
 refine ws_q (v := .bool (!t982)) 46 [47, 48] (by kernel_rfl) z z (yi_run ((wanted_eq z z z (cvb hc981)).trans z) (fun w hst => z)) (wsr (.bool (!t982)) 47 z z z (by kernel_rfl) (fun w hst => x_pick_t hc981 z z) (wsr (.bool (!t982)) 48 z z z (by kernel_rfl) (fun w hst => z) ?_))
 refine ws_nil ?_
 intro w hst
 refine tn (wp_ret ?_)
 obtain rfl := some_inj hm
 refine post_ret (vs := [.bool (!t982)]) results7 (rvs_cons (rv_tmp z) rvs_nil) ?_
 exact ⟨_, z, hI0, hst.keep0⟩
}
 {
 replace hm := bif_f hc981 hm
 refine ws_q (v := undef) 44 [45, 46, 47, 48] (by kernel_rfl) z z (yi_off ((wanted_eq z z z (cvb hc981)).trans z)) (ws_q (v := undef) 45 [46, 47, 48] (by kernel_rfl) z z (yi_off ((wanted_eq z z z (cvb hc981)).trans z)) (ws_q (v := undef) 46 [47, 48] (by kernel_rfl) z z (yi_off ((wanted_eq z z z (cvb hc981)).trans z)) (wsr (.bool false) 47 z z z (by kernel_rfl) (fun w hst => x_pick_f hc981 z z) (wsr (.bool false) 48 z z z (by kernel_rfl) (fun w hst => z) ?_))))
 refine ws_nil ?_
 intro w hst
 refine tn (wp_ret ?_)
 obtain rfl := some_inj hm
 refine post_ret (vs := [.bool false]) results7 (rvs_cons (rv_tmp z) rvs_nil) ?_
 exact ⟨_, z, hI0, hst.keep0⟩
}
}
 {
 replace hm := bif_f hc975 hm
 refine ws_q (v := undef) 37 [38, 39, 40, 41, 42, 43, 44, 45, 46, 47, 48] (by kernel_rfl) z z (yi_off ((wanted_eq z z z (cvb hc975)).trans z)) (ws_q (v := undef) 38 [39, 40, 41, 42, 43, 44, 45, 46, 47, 48] (by kernel_rfl) z z (yi_off ((wanted_eq z z z (cvb hc975)).trans z)) (ws_q (v := undef) 39 [40, 41, 42, 43, 44, 45, 46, 47, 48] (by kernel_rfl) z z (yi_off ((wanted_eq z z z (cvb hc975)).trans z)) (ws_q (v := undef) 40 [41, 42, 43, 44, 45, 46, 47, 48] (by kernel_rfl) z z (yi_off ((wanted_eq z z z (cvb hc975)).trans z)) (ws_q (v := undef) 41 [42, 43, 44, 45, 46, 47, 48] (by kernel_rfl) z z (yi_off ((wanted_eq z z z (cvb hc975)).trans z)) (wsr (.bool false) 42 z z z (by kernel_rfl) (fun w hst => x_pick_f hc975 z z) (wsr (.bool false) 43 z z z (by kernel_rfl) (fun w hst => z) (ws_q (v := undef) 44 [45, 46, 47, 48] (by kernel_rfl) z z (yi_off ((wanted_eq z z z z).trans z)) (ws_q (v := undef) 45 [46, 47, 48] (by kernel_rfl) z z (yi_off ((wanted_eq z z z z).trans z)) (ws_q (v := undef) 46 [47, 48] (by kernel_rfl) z z (yi_off ((wanted_eq z z z z).trans z)) (wsr (.bool false) 47 z z z (by kernel_rfl) (fun w hst => x_pick_f z z z) (wsr (.bool false) 48 z z z (by kernel_rfl) (fun w hst => z) ?_)))))))))))
 refine ws_nil ?_
 intro w hst
 refine tn (wp_ret ?_)
 obtain rfl := some_inj hm
 refine post_ret (vs := [.bool false]) results7 (rvs_cons (rv_tmp z) rvs_nil) ?_
 exact ⟨_, z, hI0, hst.keep0⟩
}
}
 {
 replace hm := bif_f hc969 hm
 refine ws_q (v := undef) 30 [31, 32, 33, 34, 35, 36, 37, 38, 39, 40, 41, 42, 43, 44, 45, 46, 47, 48] (by kernel_rfl) z z (yi_off ((wanted_eq z z z (cvb hc969)).trans z)) (ws_q (v := undef) 31 [32, 33, 34, 35, 36, 37, 38, 39, 40, 41, 42, 43, 44, 45, 46, 47, 48] (by kernel_rfl) z z (yi_off ((wanted_eq z z z (cvb hc969)).trans z)) (ws_q (v := undef) 32 [33, 34, 35, 36, 37, 38, 39, 40, 41, 42, 43, 44, 45, 46, 47, 48] (by kernel_rfl) z z (yi_off ((wanted_eq z z z (cvb hc969)).trans z)) (ws_q (v := undef) 33 [34, 35, 36, 37, 38, 39, 40, 41, 42, 43, 44, 45, 46, 47, 48] (by kernel_rfl) z z (yi_off ((wanted_eq z z z (cvb hc969)).trans z)) (ws_q (v := undef) 34 [35, 36, 37, 38, 39, 40, 41, 42, 43, 44, 45, 46, 47, 48] (by kernel_rfl) z z (yi_off ((wanted_eq z z z (cvb hc969)).trans z)) (wsr (.bool false) 35 z z z (by kernel_rfl) (fun w hst => x_pick_f hc969 z z) (wsr (.bool false) 36 z z z (by kernel_rfl) (fun w hst => z) (ws_q (v := undef) 37 [38, 39, 40, 41, 42, 43, 44, 45, 46, 47, 48] (by kernel_rfl) z z (yi_off ((wanted_eq z z z z).trans z)) (ws_q (v := undef) 38 [39, 40, 41, 42, 43, 44, 45, 46, 47, 48] (by kernel_rfl) z z (yi_off ((wanted_eq z z z z).trans z)) (ws_q (v := undef) 39 [40, 41, 42, 43, 44, 45, 46, 47, 48] (by kernel_rfl) z z (yi_off ((wanted_eq z z z z).trans z)) (ws_q (v := undef) 40 [41, 42, 43, 44, 45, 46, 47, 48] (by kernel_rfl) z z (yi_off ((wanted_eq z z z z).trans z)) (ws_q (v := undef) 41 [42, 43, 44, 45, 46, 47, 48] (by kernel_rfl) z z (yi_off ((wanted_eq z z z z).trans z)) (wsr (.bool false) 42 z z z (by kernel_rfl) (fun w hst => x_pick_f z z z) ?_))))))))))))
 refine wsr (.bool false) 43 z z z (by kernel_rfl) (fun w hst => z) (ws_q (v := undef) 44 [45, 46, 47, 48] (by kernel_rfl) z z (yi_off ((wanted_eq z z z z).trans z)) (ws_q (v := undef) 45 [46, 47, 48] (by kernel_rfl) z z (yi_off ((wanted_eq z z z z).trans z)) (ws_q (v := undef) 46 [47, 48] (by kernel_rfl) z z (yi_off ((wanted_eq z z z z).trans z)) (wsr (.bool false) 47 z z z (by kernel_rfl) (fun w hst => x_pick_f z z z) (wsr (.bool false) 48 z z z (by kernel_rfl) (fun w hst => z) ?_)))))
 refine ws_nil ?_
 intro w hst
 refine tn (wp_ret ?_)
 obtain rfl := some_inj hm
 refine post_ret (vs := [.bool false]) results7 (rvs_cons (rv_tmp z) rvs_nil) ?_
 exact ⟨_, z, hI0, hst.keep0⟩
}
}
 {
 replace hm := bif_f hc962 hm
 refine ws_q (v := undef) 21 [22, 23, 24, 25, 26, 27, 28, 29, 30, 31, 32, 33, 34, 35, 36, 37, 38, 39, 40, 41, 42, 43, 44, 45, 46, 47, 48] (by kernel_rfl) z z (yi_off ((wanted_eq z z z (cvb hc962)).trans z)) (ws_q (v := undef) 22 [23, 24, 25, 26, 27, 28, 29, 30, 31, 32, 33, 34, 35, 36, 37, 38, 39, 40, 41, 42, 43, 44, 45, 46, 47, 48] (by kernel_rfl) z z (yi_off ((wanted_eq z z z (cvb hc962)).trans z)) (ws_q (v := undef) 23 [24, 25, 26, 27, 28, 29, 30, 31, 32, 33, 34, 35, 36, 37, 38, 39, 40, 41, 42, 43, 44, 45, 46, 47, 48] (by kernel_rfl) z z (yi_off ((wanted_eq z z z (cvb hc962)).trans z)) (ws_q (v := undef) 24 [25, 26, 27, 28, 29, 30, 31, 32, 33, 34, 35, 36, 37, 38, 39, 40, 41, 42, 43, 44, 45, 46, 47, 48] (by kernel_rfl) z z (yi_off ((wanted_eq z z z (cvb hc962)).trans z)) (ws_q (v := undef) 25 [26, 27, 28, 29, 30, 31, 32, 33, 34, 35, 36, 37, 38, 39, 40, 41, 42, 43, 44, 45, 46, 47, 48] (by kernel_rfl) z z (yi_off ((wanted_eq z z z (cvb hc962)).trans z)) (ws_q (v := undef) 26 [27, 28, 29, 30, 31, 32, 33, 34, 35, 36, 37, 38, 39, 40, 41, 42, 43, 44, 45, 46, 47, 48] (by kernel_rfl) z z (yi_off ((wanted_eq z z z (cvb hc962)).trans z)) (ws_q (v := undef) 27 [28, 29, 30, 31, 32, 33, 34, 35, 36, 37, 38, 39, 40, 41, 42, 43, 44, 45, 46, 47, 48] (by kernel_rfl) z z (yi_off ((wanted_eq z z z (cvb hc962)).trans z)) (wsr (.bool false) 28 z z z (by kernel_rfl) (fun w hst => x_pick_f hc962 z z) (wsr (.bool false) 29 z z z (by kernel_rfl) (fun w hst => z) (ws_q (v := undef) 30 [31, 32, 33, 34, 35, 36, 37, 38, 39, 40, 41, 42, 43, 44, 45, 46, 47, 48] (by kernel_rfl) z z (yi_off ((wanted_eq z z z z).trans z)) (ws_q (v := undef) 31 [32, 33, 34, 35, 36, 37, 38, 39, 40, 41, 42, 43, 44, 45, 46, 47, 48] (by kernel_rfl) z z (yi_off ((wanted_eq z z z z).trans z)) (ws_q (v := undef) 32 [33, 34, 35, 36, 37, 38, 39, 40, 41, 42, 43, 44, 45, 46, 47, 48] (by kernel_rfl) z z (yi_off ((wanted_eq z z z z).trans z)) (ws_q (v := undef) 33 [34, 35, 36, 37, 38, 39, 40, 41, 42, 43, 44, 45, 46, 47, 48] (by kernel_rfl) z z (yi_off ((wanted_eq z z z z).trans z)) ?_))))))))))))
 refine ws_q (v := undef) 34 [35, 36, 37, 38, 39, 40, 41, 42, 43, 44, 45, 46, 47, 48] (by kernel_rfl) z z (yi_off ((wanted_eq z z z z).trans z)) (wsr (.bool false) 35 z z z (by kernel_rfl) (fun w hst => x_pick_f z z z) (wsr (.bool false) 36 z z z (by kernel_rfl) (fun w hst => z) (ws_q (v := undef) 37 [38, 39, 40, 41, 42, 43, 44, 45, 46, 47, 48] (by kernel_rfl) z z (yi_off ((wanted_eq z z z z).trans z)) (ws_q (v := undef) 38 [39, 40, 41, 42, 43, 44, 45, 46, 47, 48] (by kernel_rfl) z z (yi_off ((wanted_eq z z z z).trans z)) (ws_q (v := undef) 39 [40, 41, 42, 43, 44, 45, 46, 47, 48] (by kernel_rfl) z z (yi_off ((wanted_eq z z z z).trans z)) (ws_q (v := undef) 40 [41, 42, 43, 44, 45, 46, 47, 48] (by kernel_rfl) z z (yi_off ((wanted_eq z z z z).trans z)) (ws_q (v := undef) 41 [42, 43, 44, 45, 46, 47, 48] (by kernel_rfl) z z (yi_off ((wanted_eq z z z z).trans z)) (wsr (.bool false) 42 z z z (by kernel_rfl) (fun w hst => x_pick_f z z z) (wsr (.bool false) 43 z z z (by kernel_rfl) (fun w hst => z) (ws_q (v := undef) 44 [45, 46, 47, 48] (by kernel_rfl) z z (yi_off ((wanted_eq z z z z).trans z)) (ws_q (v := undef) 45 [46, 47, 48] (by kernel_rfl) z z (yi_off ((wanted_eq z z z z).trans z)) (ws_q (v := undef) 46 [47, 48] (by kernel_rfl) z z (yi_off ((wanted_eq z z z z).trans z)) ?_))))))))))))
 refine wsr (.bool false) 47 z z z (by kernel_rfl) (fun w hst => x_pick_f z z z) (wsr (.bool false) 48 z z z (by kernel_rfl) (fun w hst => z) ?_)
 refine ws_nil ?_
 intro w hst
 refine tn (wp_ret ?_)
 obtain rfl := some_inj hm
 refine post_ret (vs := [.bool false]) results7 (rvs_cons (rv_tmp z) rvs_nil) ?_
 exact ⟨_, z, hI0, hst.keep0⟩
}
}
 {
 replace hm := bif_f hc956 hm
 refine ws_q (v := undef) 15 [16, 17, 18, 19, 20, 21, 22, 23, 24, 25, 26, 27, 28, 29, 30, 31, 32, 33, 34, 35, 36, 37, 38, 39, 40, 41, 42, 43, 44, 45, 46, 47, 48] (by kernel_rfl) z z (yi_off ((wanted_eq z z z (cvb hc956)).trans z)) (ws_q (v := undef) 16 [17, 18, 19, 20, 21, 22, 23, 24, 25, 26, 27, 28, 29, 30, 31, 32, 33, 34, 35, 36, 37, 38, 39, 40, 41, 42, 43, 44, 45, 46, 47, 48] (by kernel_rfl) z z (yi_off ((wanted_eq z z z (cvb hc956)).trans z)) (ws_q (v := undef) 17 [18, 19, 20, 21, 22, 23, 24, 25, 26, 27, 28, 29, 30, 31, 32, 33, 34, 35, 36, 37, 38, 39, 40, 41, 42, 43, 44, 45, 46, 47, 48] (by kernel_rfl) z z (yi_off ((wanted_eq z z z (cvb hc956)).trans z)) (ws_q (v := undef) 18 [19, 20, 21, 22, 23, 24, 25, 26, 27, 28, 29, 30, 31, 32, 33, 34, 35, 36, 37, 38, 39, 40, 41, 42, 43, 44, 45, 46, 47, 48] (by kernel_rfl) z z (yi_off ((wanted_eq z z z (cvb hc956)).trans z)) (wsr (.bool false) 19 z z z (by kernel_rfl) (fun w hst => x_pick_f hc956 z z) (wsr (.bool false) 20 z z z (by kernel_rfl) (fun w hst => z) (ws_q (v := undef) 21 [22, 23, 24, 25, 26, 27, 28, 29, 30, 31, 32, 33, 34, 35, 36, 37, 38, 39, 40, 41, 42, 43, 44, 45, 46, 47, 48] (by kernel_rfl) z z (yi_off ((wanted_eq z z z z).trans z)) (ws_q (v := undef) 22 [23, 24, 25, 26, 27, 28, 29, 30, 31, 32, 33, 34, 35, 36, 37, 38, 39, 40, 41, 42, 43, 44, 45, 46, 47, 48] (by kernel_rfl) z z (yi_off ((wanted_eq z z z z).trans z)) (ws_q (v := undef) 23 [24, 25, 26, 27, 28, 29, 30, 31, 32, 33, 34, 35, 36, 37, 38, 39, 40, 41, 42, 43, 44, 45, 46, 47, 48] (by kernel_rfl) z z (yi_off ((wanted_eq z z z z).trans z)) (ws_q (v := undef) 24 [25, 26, 27, 28, 29, 30, 31, 32, 33, 34, 35, 36, 37, 38, 39, 40, 41, 42, 43, 44, 45, 46, 47, 48] (by kernel_rfl) z z (yi_off ((wanted_eq z z z z).trans z)) (ws_q (v := undef) 25 [26, 27, 28, 29, 30, 31, 32, 33, 34, 35, 36, 37, 38, 39, 40, 41, 42, 43, 44, 45, 46, 47, 48] (by kernel_rfl) z z (yi_off ((wanted_eq z z z z).trans z)) (ws_q (v := undef) 26 [27, 28, 29, 30, 31, 32, 33, 34, 35, 36, 37, 38, 39, 40, 41, 42, 43, 44, 45, 46, 47, 48] (by kernel_rfl) z z (yi_off ((wanted_eq z z z z).trans z)) (ws_q (v := undef) 27 [28, 29, 30, 31, 32, 33, 34, 35, 36, 37, 38, 39, 40, 41, 42, 43, 44, 45, 46, 47, 48] (by kernel_rfl) z z (yi_off ((wanted_eq z z z z).trans z)) ?_))))))))))))
 refine wsr (.bool false) 28 z z z (by kernel_rfl) (fun w hst => x_pick_f z z z) (wsr (.bool false) 29 z z z (by kernel_rfl) (fun w hst => z) (ws_q (v := undef) 30 [31, 32, 33, 34, 35, 36, 37, 38, 39, 40, 41, 42, 43, 44, 45, 46, 47, 48] (by kernel_rfl) z z (yi_off ((wanted_eq z z z z).trans z)) (ws_q (v := undef) 31 [32, 33, 34, 35, 36, 37, 38, 39, 40, 41, 42, 43, 44, 45, 46, 47, 48] (by kernel_rfl) z z (yi_off ((wanted_eq z z z z).trans z)) (ws_q (v := undef) 32 [33, 34, 35, 36, 37, 38, 39, 40, 41, 42, 43, 44, 45, 46, 47, 48] (by kernel_rfl) z z (yi_off ((wanted_eq z z z z).trans z)) (ws_q (v := undef) 33 [34, 35, 36, 37, 38, 39, 40, 41, 42, 43, 44, 45, 46, 47, 48] (by kernel_rfl) z z (yi_off ((wanted_eq z z z z).trans z)) (ws_q (v := undef) 34 [35, 36, 37, 38, 39, 40, 41, 42, 43, 44, 45, 46, 47, 48] (by kernel_rfl) z z (yi_off ((wanted_eq z z z z).trans z)) (wsr (.bool false) 35 z z z (by kernel_rfl) (fun w hst => x_pick_f z z z) (wsr (.bool false) 36 z z z (by kernel_rfl) (fun w hst => z) (ws_q (v := undef) 37 [38, 39, 40, 41, 42, 43, 44, 45, 46, 47, 48] (by kernel_rfl) z z (yi_off ((wanted_eq z z z z).trans z)) (ws_q (v := undef) 38 [39, 40, 41, 42, 43, 44, 45, 46, 47, 48] (by kernel_rfl) z z (yi_off ((wanted_eq z z z z).trans z)) (ws_q (v := undef) 39 [40, 41, 42, 43, 44, 45, 46, 47, 48] (by kernel_rfl) z z (yi_off ((wanted_eq z z z z).trans z)) (ws_q (v := undef) 40 [41, 42, 43, 44, 45, 46, 47, 48] (by kernel_rfl) z z (yi_off ((wanted_eq z z z z).trans z)) ?_))))))))))))
 refine ws_q (v := undef) 41 [42, 43, 44, 45, 46, 47, 48] (by kernel_rfl) z z (yi_off ((wanted_eq z z z z).trans z)) (wsr (.bool false) 42 z z z (by kernel_rfl) (fun w hst => x_pick_f z z z) (wsr (.bool false) 43 z z z (by kernel_rfl) (fun w hst => z) (ws_q (v := undef) 44 [45, 46, 47, 48] (by kernel_rfl) z z (yi_off ((wanted_eq z z z z).trans z)) (ws_q (v := undef) 45 [46, 47, 48] (by kernel_rfl) z z (yi_off ((wanted_eq z z z z).trans z)) (ws_q (v := undef) 46 [47, 48] (by kernel_rfl) z z (yi_off ((wanted_eq z z z z).trans z)) (wsr (.bool false) 47 z z z (by kernel_rfl) (fun w hst => x_pick_f z z z) (wsr (.bool false) 48 z z z (by kernel_rfl) (fun w hst => z) ?_)))))))
 refine ws_nil ?_
 intro w hst
 refine tn (wp_ret ?_)
 obtain rfl := some_inj hm
 refine post_ret (vs := [.bool false]) results7 (rvs_cons (rv_tmp z) rvs_nil) ?_
 exact ⟨_, z, hI0, hst.keep0⟩
}
}
 {
 replace hm := bif_f hc950 hm
 refine ws_q (v := undef) 10 [11, 12, 13, 14, 15, 16, 17, 18, 19, 20, 21, 22, 23, 24, 25, 26, 27, 28, 29, 30, 31, 32, 33, 34, 35, 36, 37, 38, 39, 40, 41, 42, 43, 44, 45, 46, 47, 48] (by kernel_rfl) z z (yi_off ((wanted_eq z z z (cvb hc950)).trans z)) (ws_q (v := undef) 11 [12, 13, 14, 15, 16, 17, 18, 19, 20, 21, 22, 23, 24, 25, 26, 27, 28, 29, 30, 31, 32, 33, 34, 35, 36, 37, 38, 39, 40, 41, 42, 43, 44, 45, 46, 47, 48] (by kernel_rfl) z z (yi_off ((wanted_eq z z z (cvb hc950)).trans z)) (ws_q (v := undef) 12 [13, 14, 15, 16, 17, 18, 19, 20, 21, 22, 23, 24, 25, 26, 27, 28, 29, 30, 31, 32, 33, 34, 35, 36, 37, 38, 39, 40, 41, 42, 43, 44, 45, 46, 47, 48] (by kernel_rfl) z z (yi_off ((wanted_eq z z z (cvb hc950)).trans z)) (wsr (.bool false) 13 z z z (by kernel_rfl) (fun w hst => x_pick_f hc950 z z) (wsr (.bool false) 14 z z z (by kernel_rfl) (fun w hst => z) (ws_q (v := undef) 15 [16, 17, 18, 19, 20, 21, 22, 23, 24, 25, 26, 27, 28, 29, 30, 31, 32, 33, 34, 35, 36, 37, 38, 39, 40, 41, 42, 43, 44, 45, 46, 47, 48] (by kernel_rfl) z z (yi_off ((wanted_eq z z z z).trans z)) (ws_q (v := undef) 16 [17, 18, 19, 20, 21, 22, 23, 24, 25, 26, 27, 28, 29, 30, 31, 32, 33, 34, 35, 36, 37, 38, 39, 40, 41, 42, 43, 44, 45, 46, 47, 48] (by kernel_rfl) z z (yi_off ((wanted_eq z z z z).trans z)) (ws_q (v := undef) 17 [18, 19, 20, 21, 22, 23, 24, 25, 26, 27, 28, 29, 30, 31, 32, 33, 34, 35, 36, 37, 38, 39, 40, 41, 42, 43, 44, 45, 46, 47, 48] (by kernel_rfl) z z (yi_off ((wanted_eq z z z z).trans z)) (ws_q (v := undef) 18 [19, 20, 21, 22, 23, 24, 25, 26, 27, 28, 29, 30, 31, 32, 33, 34, 35, 36, 37, 38, 39, 40, 41, 42, 43, 44, 45, 46, 47, 48] (by kernel_rfl) z z (yi_off ((wanted_eq z z z z).trans z)) (wsr (.bool false) 19 z z z (by kernel_rfl) (fun w hst => x_pick_f z z z) (wsr (.bool false) 20 z z z (by kernel_rfl) (fun w hst => z) (ws_q (v := undef) 21 [22, 23, 24, 25, 26, 27, 28, 29, 30, 31, 32, 33, 34, 35, 36, 37, 38, 39, 40, 41, 42, 43, 44, 45, 46, 47, 48] (by kernel_rfl) z z (yi_off ((wanted_eq z z z z).trans z)) (ws_q (v := undef) 22 [23, 24, 25, 26, 27, 28, 29, 30, 31, 32, 33, 34, 35, 36, 37, 38, 39, 40, 41, 42, 43, 44, 45, 46, 47, 48] (by kernel_rfl) z z (yi_off ((wanted_eq z z z z).trans z)) ?_))))))))))))
 refine ws_q (v := undef) 23 [24, 25, 26, 27, 28, 29, 30, 31, 32, 33, 34, 35, 36, 37, 38, 39, 40, 41, 42, 43, 44, 45, 46, 47, 48] (by kernel_rfl) z z (yi_off ((wanted_eq z z z z).trans z)) (ws_q (v := undef) 24 [25, 26, 27, 28, 29, 30, 31, 32, 33, 34, 35, 36, 37, 38, 39, 40, 41, 42, 43, 44, 45, 46, 47, 48] (by kernel_rfl) z z (yi_off ((wanted_eq z z z z).trans z)) (ws_q (v := undef) 25 [26, 27, 28, 29, 30, 31, 32, 33, 34, 35, 36, 37, 38, 39, 40, 41, 42, 43, 44, 45, 46, 47, 48] (by kernel_rfl) z z (yi_off ((wanted_eq z z z z).trans z)) (ws_q (v := undef) 26 [27, 28, 29, 30, 31, 32, 33, 34, 35, 36, 37, 38, 39, 40, 41, 42, 43, 44, 45, 46, 47, 48] (by kernel_rfl) z z (yi_off ((wanted_eq z z z z).trans z)) (ws_q (v := undef) 27 [28, 29, 30, 31, 32, 33, 34, 35, 36, 37, 38, 39, 40, 41, 42, 43, 44, 45, 46, 47, 48] (by kernel_rfl) z z (yi_off ((wanted_eq z z z z).trans z)) (wsr (.bool false) 28 z z z (by kernel_rfl) (fun w hst => x_pick_f z z z) (wsr (.bool false) 29 z z z (by kernel_rfl) (fun w hst => z) (ws_q (v := undef) 30 [31, 32, 33, 34, 35, 36, 37, 38, 39, 40, 41, 42, 43, 44, 45, 46, 47, 48] (by kernel_rfl) z z (yi_off ((wanted_eq z z z z).trans z)) (ws_q (v := undef) 31 [32, 33, 34, 35, 36, 37, 38, 39, 40, 41, 42, 43, 44, 45, 46, 47, 48] (by kernel_rfl) z z (yi_off ((wanted_eq z z z z).trans z)) (ws_q (v := undef) 32 [33, 34, 35, 36, 37, 38, 39, 40, 41, 42, 43, 44, 45, 46, 47, 48] (by kernel_rfl) z z (yi_off ((wanted_eq z z z z).trans z)) (ws_q (v := undef) 33 [34, 35, 36, 37, 38, 39, 40, 41, 42, 43, 44, 45, 46, 47, 48] (by kernel_rfl) z z (yi_off ((wanted_eq z z z z).trans z)) (ws_q (v := undef) 34 [35, 36, 37, 38, 39, 40, 41, 42, 43, 44, 45, 46, 47, 48] (by kernel_rfl) z z (yi_off ((wanted_eq z z z z).trans z)) (wsr (.bool false) 35 z z z (by kernel_rfl) (fun w hst => x_pick_f z z z) ?_))))))))))))
 refine wsr (.bool false) 36 z z z (by kernel_rfl) (fun w hst => z) (ws_q (v := undef) 37 [38, 39, 40, 41, 42, 43, 44, 45, 46, 47, 48] (by kernel_rfl) z z (yi_off ((wanted_eq z z z z).trans z)) (ws_q (v := undef) 38 [39, 40, 41, 42, 43, 44, 45, 46, 47, 48] (by kernel_rfl) z z (yi_off ((wanted_eq z z z z).trans z)) (ws_q (v := undef) 39 [40, 41, 42, 43, 44, 45, 46, 47, 48] (by kernel_rfl) z z (yi_off ((wanted_eq z z z z).trans z)) (ws_q (v := undef) 40 [41, 42, 43, 44, 45, 46, 47, 48] (by kernel_rfl) z z (yi_off ((wanted_eq z z z z).trans z)) (ws_q (v := undef) 41 [42, 43, 44, 45, 46, 47, 48] (by kernel_rfl) z z (yi_off ((wanted_eq z z z z).trans z)) (wsr (.bool false) 42 z z z (by kernel_rfl) (fun w hst => x_pick_f z z z) (wsr (.bool false) 43 z z z (by kernel_rfl) (fun w hst => z) (ws_q (v := undef) 44 [45, 46, 47, 48] (by kernel_rfl) z z (yi_off ((wanted_eq z z z z).trans z)) (ws_q (v := undef) 45 [46, 47, 48] (by kernel_rfl) z z (yi_off ((wanted_eq z z z z).trans z)) (ws_q (v := undef) 46 [47, 48] (by kernel_rfl) z z (yi_off ((wanted_eq z z z z).trans z)) (wsr (.bool false) 47 z z z (by kernel_rfl) (fun w hst => x_pick_f z z z) (wsr (.bool false) 48 z z z (by kernel_rfl) (fun w hst => z) ?_))))))))))))
 refine ws_nil ?_
 intro w hst
 refine tn (wp_ret ?_)
 obtain rfl := some_inj hm
 refine post_ret (vs := [.bool false]) results7 (rvs_cons (rv_tmp z) rvs_nil) ?_
 exact ⟨_, z, hI0, hst.keep0⟩
}
}
 {
 replace hm := bif_f hc944 hm
 refine ws_q (v := undef) 4 [5, 6, 7, 8, 9, 10, 11, 12, 13, 14, 15, 16, 17, 18, 19, 20, 21, 22, 23, 24, 25, 26, 27, 28, 29, 30, 31, 32, 33, 34, 35, 36, 37, 38, 39, 40, 41, 42, 43, 44, 45, 46, 47, 48] (by kernel_rfl) z z (yi_off ((wanted_eq z z z (cvb hc944)).trans z)) (ws_q (v := undef) 5 [6, 7, 8, 9, 10, 11, 12, 13, 14, 15, 16, 17, 18, 19, 20, 21, 22, 23, 24, 25, 26, 27, 28, 29, 30, 31, 32, 33, 34, 35, 36, 37, 38, 39, 40, 41, 42, 43, 44, 45, 46, 47, 48] (by kernel_rfl) z z (yi_off ((wanted_eq z z z (cvb hc944)).trans z)) (ws_q (v := undef) 6 [7, 8, 9, 10, 11, 12, 13, 14, 15, 16, 17, 18, 19, 20, 21, 22, 23, 24, 25, 26, 27, 28, 29, 30, 31, 32, 33, 34, 35, 36, 37, 38, 39, 40, 41, 42, 43, 44, 45, 46, 47, 48] (by kernel_rfl) z z (yi_off ((wanted_eq z z z (cvb hc944)).trans z)) (ws_q (v := undef) 7 [8, 9, 10, 11, 12, 13, 14, 15, 16, 17, 18, 19, 20, 21, 22, 23, 24, 25, 26, 27, 28, 29, 30, 31, 32, 33, 34, 35, 36, 37, 38, 39, 40, 41, 42, 43, 44, 45, 46, 47, 48] (by kernel_rfl) z z (yi_off ((wanted_eq z z z (cvb hc944)).trans z)) (wsr (.bool false) 8 z z z (by kernel_rfl) (fun w hst => x_pick_f hc944 z z) (wsr (.bool false) 9 z z z (by kernel_rfl) (fun w hst => z) (ws_q (v := undef) 10 [11, 12, 13, 14, 15, 16, 17, 18, 19, 20, 21, 22, 23, 24, 25, 26, 27, 28, 29, 30, 31, 32, 33, 34, 35, 36, 37, 38, 39, 40, 41, 42, 43, 44, 45, 46, 47, 48] (by kernel_rfl) z z (yi_off ((wanted_eq z z z z).trans z)) (ws_q (v := undef) 11 [12, 13, 14, 15, 16, 17, 18, 19, 20, 21, 22, 23, 24, 25, 26, 27, 28, 29, 30, 31, 32, 33, 34, 35, 36, 37, 38, 39, 40, 41, 42, 43, 44, 45, 46, 47, 48] (by kernel_rfl) z z (yi_off ((wanted_eq z z z z).trans z)) (ws_q (v := undef) 12 [13, 14, 15, 16, 17, 18, 19, 20, 21, 22, 23, 24, 25, 26, 27, 28, 29, 30, 31, 32, 33, 34, 35, 36, 37, 38, 39, 40, 41, 42, 43, 44, 45, 46, 47, 48] (by kernel_rfl) z z (yi_off ((wanted_eq z z z z).trans z)) (wsr (.bool false) 13 z z z (by kernel_rfl) (fun w hst => x_pick_f z z z) (wsr (.bool false) 14 z z z (by kernel_rfl) (fun w hst => z) (ws_q (v := undef) 15 [16, 17, 18, 19, 20, 21, 22, 23, 24, 25, 26, 27, 28, 29, 30, 31, 32, 33, 34, 35, 36, 37, 38, 39, 40, 41, 42, 43, 44, 45, 46, 47, 48] (by kernel_rfl) z z (yi_off ((wanted_eq z z z z).trans z)) (ws_q (v := undef) 16 [17, 18, 19, 20, 21, 22, 23, 24, 25, 26, 27, 28, 29, 30, 31, 32, 33, 34, 35, 36, 37, 38, 39, 40, 41, 42, 43, 44, 45, 46, 47, 48] (by kernel_rfl) z z (yi_off ((wanted_eq z z z z).trans z)) ?_))))))))))))
 refine ws_q (v := undef) 17 [18, 19, 20, 21, 22, 23, 24, 25, 26, 27, 28, 29, 30, 31, 32, 33, 34, 35, 36, 37, 38, 39, 40, 41, 42, 43, 44, 45, 46, 47, 48] (by kernel_rfl) z z (yi_off ((wanted_eq z z z z).trans z)) (ws_q (v := undef) 18 [19, 20, 21, 22, 23, 24, 25, 26, 27, 28, 29, 30, 31, 32, 33, 34, 35, 36, 37, 38, 39, 40, 41, 42, 43, 44, 45, 46, 47, 48] (by kernel_rfl) z z (yi_off ((wanted_eq z z z z).trans z)) (wsr (.bool false) 19 z z z (by kernel_rfl) (fun w hst => x_pick_f z z z) (wsr (.bool false) 20 z z z (by kernel_rfl) (fun w hst => z) (ws_q (v := undef) 21 [22, 23, 24, 25, 26, 27, 28, 29, 30, 31, 32, 33, 34, 35, 36, 37, 38, 39, 40, 41, 42, 43, 44, 45, 46, 47, 48] (by kernel_rfl) z z (yi_off ((wanted_eq z z z z).trans z)) (ws_q (v := undef) 22 [23, 24, 25, 26, 27, 28, 29, 30, 31, 32, 33, 34, 35, 36, 37, 38, 39, 40, 41, 42, 43, 44, 45, 46, 47, 48] (by kernel_rfl) z z (yi_off ((wanted_eq z z z z).trans z)) (ws_q (v := undef) 23 [24, 25, 26, 27, 28, 29, 30, 31, 32, 33, 34, 35, 36, 37, 38, 39, 40, 41, 42, 43, 44, 45, 46, 47, 48] (by kernel_rfl) z z (yi_off ((wanted_eq z z z z).trans z)) (ws_q (v := undef) 24 [25, 26, 27, 28, 29, 30, 31, 32, 33, 34, 35, 36, 37, 38, 39, 40, 41, 42, 43, 44, 45, 46, 47, 48] (by kernel_rfl) z z (yi_off ((wanted_eq z z z z).trans z)) (ws_q (v := undef) 25 [26, 27, 28, 29, 30, 31, 32, 33, 34, 35, 36, 37, 38, 39, 40, 41, 42, 43, 44, 45, 46, 47, 48] (by kernel_rfl) z z (yi_off ((wanted_eq z z z z).trans z)) (ws_q (v := undef) 26 [27, 28, 29, 30, 31, 32, 33, 34, 35, 36, 37, 38, 39, 40, 41, 42, 43, 44, 45, 46, 47, 48] (by kernel_rfl) z z (yi_off ((wanted_eq z z z z).trans z)) (ws_q (v := undef) 27 [28, 29, 30, 31, 32, 33, 34, 35, 36, 37, 38, 39, 40, 41, 42, 43, 44, 45, 46, 47, 48] (by kernel_rfl) z z (yi_off ((wanted_eq z z z z).trans z)) (wsr (.bool false) 28 z z z (by kernel_rfl) (fun w hst => x_pick_f z z z) (wsr (.bool false) 29 z z z (by kernel_rfl) (fun w hst => z) ?_))))))))))))
 refine ws_q (v := undef) 30 [31, 32, 33, 34, 35, 36, 37, 38, 39, 40, 41, 42, 43, 44, 45, 46, 47, 48] (by kernel_rfl) z z (yi_off ((wanted_eq z z z z).trans z)) (ws_q (v := undef) 31 [32, 33, 34, 35, 36, 37, 38, 39, 40, 41, 42, 43, 44, 45, 46, 47, 48] (by kernel_rfl) z z (yi_off ((wanted_eq z z z z).trans z)) (ws_q (v := undef) 32 [33, 34, 35, 36, 37, 38, 39, 40, 41, 42, 43, 44, 45, 46, 47, 48] (by kernel_rfl) z z (yi_off ((wanted_eq z z z z).trans z)) (ws_q (v := undef) 33 [34, 35, 36, 37, 38, 39, 40, 41, 42, 43, 44, 45, 46, 47, 48] (by kernel_rfl) z z (yi_off ((wanted_eq z z z z).trans z)) (ws_q (v := undef) 34 [35, 36, 37, 38, 39, 40, 41, 42, 43, 44, 45, 46, 47, 48] (by kernel_rfl) z z (yi_off ((wanted_eq z z z z).trans z)) (wsr (.bool false) 35 z z z (by kernel_rfl) (fun w hst => x_pick_f z z z) (wsr (.bool false) 36 z z z (by kernel_rfl) (fun w hst => z) (ws_q (v := undef) 37 [38, 39, 40, 41, 42, 43, 44, 45, 46, 47, 48] (by kernel_rfl) z z (yi_off ((wanted_eq z z z z).trans z)) (ws_q (v := undef) 38 [39, 40, 41, 42, 43, 44, 45, 46, 47, 48] (by kernel_rfl) z z (yi_off ((wanted_eq z z z z).trans z)) (ws_q (v := undef) 39 [40, 41, 42, 43, 44, 45, 46, 47, 48] (by kernel_rfl) z z (yi_off ((wanted_eq z z z z).trans z)) (ws_q (v := undef) 40 [41, 42, 43, 44, 45, 46, 47, 48] (by kernel_rfl) z z (yi_off ((wanted_eq z z z z).trans z)) (ws_q (v := undef) 41 [42, 43, 44, 45, 46, 47, 48] (by kernel_rfl) z z (yi_off ((wanted_eq z z z z).trans z)) (wsr (.bool false) 42 z z z (by kernel_rfl) (fun w hst => x_pick_f z z z) ?_))))))))))))
 refine wsr (.bool false) 43 z z z (by kernel_rfl) (fun w hst => z) (ws_q (v := undef) 44 [45, 46, 47, 48] (by kernel_rfl) z z (yi_off ((wanted_eq z z z z).trans z)) (ws_q (v := undef) 45 [46, 47, 48] (by kernel_rfl) z z (yi_off ((wanted_eq z z z z).trans z)) (ws_q (v := undef) 46 [47, 48] (by kernel_rfl) z z (yi_off ((wanted_eq z z z z).trans z)) (wsr (.bool false) 47 z z z (by kernel_rfl) (fun w hst => x_pick_f z z z) (wsr (.bool false) 48 z z z (by kernel_rfl) (fun w hst => z) ?_)))))
 refine ws_nil ?_
 intro w hst
 refine tn (wp_ret ?_)
 obtain rfl := some_inj hm
 refine post_ret (vs := [.bool false]) results7 (rvs_cons (rv_tmp z) rvs_nil) ?_
 exact ⟨_, z, hI0, hst.keep0⟩
}
}
}
}
}
}
}
}
}
}
}
}

end Go.Proofs.Ytkjkbfaaigmmcaa
