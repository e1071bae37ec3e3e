/- The Go functions refine their models, part 2. -/
import Derived.Test.YtbdnbohbmgmonaaMvccBytesR1
set_option linter.unusedVariables false
set_option linter.unusedSimpArgs false
set_option maxRecDepth 100000
set_option maxHeartbeats 4000000
namespace Go.Proofs.Ytbdnbohbmgmonaa
open Go Go.V
open _root_.Go.Proofs.Try IntKind
attribute [local irreducible] wpList Code.wp wpQuiet Calls bodyPost Oper.wp wpS Nx PendOK YieldsIn
theorem ref11_last_ref {w0 w : World} {I : HL} {R : SP} {a0 : (List ref11_Version)} {r0_0 : Value} {a1 : Nat} {a2 : Int} (f0_0 : Rd ty_ref11_Version R I r0_0 a0) (hst : St w0 w I [] R) {r : (Int)} (hm : ref11_last a0 a1 a2 = some r) :
  Calls prog 34 #[r0_0, F6 a1, U6 a2] w fun e w' => e = .returned (.int .i64 r) ∧ St w0 w' I [] R := by {
 unfold ref11_last at hm
 refine calls_start (args := [r0_0, F6 a1, U6 a2]) func34 z ntmps34 (Nat.le_of_ble_eq_true z) ?_
 refine wp_seq (wrl (wv (.int .i64 (0:Int)) z z z (wl_nil (tn (wp_seq (wrl (wv (.int .i64 ((-1):Int)) z z z (wl_nil (tn (wp_seq (wp_seq (wrl (wv (.int .i64 (0:Int)) z z z (wl_nil (tn (wp_block ?_))))))))))))))))
 obtain ⟨n542, hm⟩ := loopO_some hm
 refine wp_loop_n (fun n a w => ∃ (z539 : Int) (z540 : Int) (σ541 : Nat → Value), loopN (ref11_last_l0 a0 a1 a2) n (z539, z540) = some r ∧ a = Fr 76 (upd (upd (upd (upd (upd σ541 0 (r0_0)) 1 (.float .f64 a1)) 2 (.int .u64 a2)) 7 (.int .i64 z539)) 8 (.int .i64 z540)) ∧ St w0 w I [] R) n542 ⟨((-1):Int), (0:Int), _, hm, (fu 0 r0_0 z (fu 1 (.float .f64 a1) z (fu 2 (.int .u64 a2) z (fu 7 (.int .i64 ((-1):Int)) z (fu 8 (.int .i64 (0:Int)) z z))))), hst⟩ ?_
 rintro n548 _ w543 ⟨z539, z540, σ541, hm, rfl, hst⟩
 obtain ⟨n545, y546, rfl, hm, hx547⟩ := loopN_some hm
 dsimp only [ref11_last_l0] at hm
 refine wp_seq (wp_seq (wrl (wv (.int .i64 z540) z z z (wv (r0_0) z z z (wv (.int .i64 ((a0).length : Int)) z z (x_len z underlying26 (rd_sliceV f0_0)) (wv (.bool (decide (z540 < ((a0).length : Int)))) z z z (wl_nil (tn ?_))))))))
 refine bsplit (decide (z540 < ((a0).length : Int))) (fun hc549 => ?_) (fun hc549 => ?_)
 {
 replace hm := bif_t hc549 hm
 refine wp_ift (cvb hc549) ?_
 refine wp_skip (tn (wp_seq (wp_block (wp_seq ?_))))
 refine wp_region_St hst 59 [0, 1, 2, 3, 4, 5, 6, 7, 8, 9, 10, 11, 12, 13, 14, 15, 16, 17, 18, 19, 20, 21, 22, 23, 24, 25, 26, 27, 28, 29, 30, 31, 32, 33, 34, 35, 36, 37, 38, 39, 40, 41, 42, 43, 44, 45, 46, 47, 48, 49, 50, 51, 52, 53, 54, 55, 56, 57, 58] [0, 0, 3, 7, 15, 0, 63, 127, 255, 255, 1023, 2047, 4095, 255, 16383, 32767, 65535, 131071, 262143, 524287, 1048575, 1048575, 4194303, 8388607, 16777215, 1048575, 1048575, 101711871, 235929599, 504365055, 1073741823, 2147483647, 4294967295, 8589934591, 8589934591, 34359738367, 68719476735, 137438953471, 8589934591, 8589934591, 833223655423, 1932735283199, 4131758538751, 8796093022207, 17592186044415, 35184372088831, 35184372088831, 140737488355327, 281474976710655, 562949953421311, 35184372088831, 35184372088831, 3412884092616703, 7916483719987199, 16923682974728191, 36028797018963967, 72057594037927935, 144115188075855871, 288230376151711743] [] z (by kernel_rfl) (by kernel_rfl) Try.mixed (by kernel_rfl) ?_
 refine wsr (r0_0) 0 z z z (by kernel_rfl) (fun w hst => z) (wsr (.int .i64 z540) 1 z z z (by kernel_rfl) (fun w hst => z) ?_)
 obtain ⟨x550, hx551, hm⟩ := bind_some hm
 obtain ⟨h552, h553, hi554⟩ := geto_some hx551
 refine wsr (.pointer (some (eAddr r0_0 (z540.toNat * 5 + 0)))) 2 z z z (by kernel_rfl) (fun w hst => x_index z z underlying26 sizeOf67 (rd_sliceV f0_0) h552 h553) (wsr (.pointer (some (eAddr r0_0 (z540.toNat * 5 + 0)))) 3 z z z (by kernel_rfl) (fun w hst => x_field_e z underlying67 z sizeOf23 z) ?_)
 obtain ⟨cs555, hr556, hc557⟩ := Rd.getF f0_0 hi554
 obtain ⟨v558, rfl, f559, -⟩ := hr556
 refine wsr (.float .f64 x550.At) 4 z z z (by kernel_rfl) (fun w hst => x_load z isAgg23 ((hc557 (HL.le.refl _) hst) 0 _ z)) (wsr (.float .f64 a1) 5 z z z (by kernel_rfl) (fun w hst => z) ?_)
 refine ws_e1 6 (by kernel_rfl) ?_
 refine nxe [7, 8, 9, 10, 11, 12, 13, 14, 15, 16, 17, 18, 19, 20, 21, 22, 23, 24, 25, 26, 27, 28, 29, 30, 31, 32, 33, 34, 35, 36, 37, 38, 39, 40, 41, 42, 43, 44, 45, 46, 47, 48, 49, 50, 51, 52, 53, 54, 55, 56, 57, 58] (by kernel_rfl) z z ?_
 clear hst
 intro w hst
 obtain ⟨t561, ht562, hm⟩ := bind_some hm
 refine wec call30 [F6 x550.At, F6 a1] z z ?_
 refine (ref01_Same_ref hst.to0 ht562).mono ?_
 rintro _ w563 ⟨rfl, hst⟩
 refine ⟨_, z, ?_⟩
 replace hst := hst.of0
 refine ws_next (pend' := []) hst (by kernel_rfl) pk_nil ?_
 refine wsr (.bool t561) 7 z z z (by kernel_rfl) (fun w hst => z) ?_
 refine bsplit t561 (fun hc566 => ?_) (fun hc566 => ?_)
 {
 replace hm := bif_t hc566 hm
 refine ws_q (v := r0_0) 8 [9, 10, 11, 12, 13, 14, 15, 16, 17, 18, 19, 20, 21, 22, 23, 24, 25, 26, 27, 28, 29, 30, 31, 32, 33, 34, 35, 36, 37, 38, 39, 40, 41, 42, 43, 44, 45, 46, 47, 48, 49, 50, 51, 52, 53, 54, 55, 56, 57, 58] (by kernel_rfl) z z (yi_run ((wanted_eq z z z (cvb hc566)).trans z) (fun w hst => z)) (ws_q (v := .int .i64 z540) 9 [10, 11, 12, 13, 14, 15, 16, 17, 18, 19, 20, 21, 22, 23, 24, 25, 26, 27, 28, 29, 30, 31, 32, 33, 34, 35, 36, 37, 38, 39, 40, 41, 42, 43, 44, 45, 46, 47, 48, 49, 50, 51, 52, 53, 54, 55, 56, 57, 58] (by kernel_rfl) z z (yi_run ((wanted_eq z z z (cvb hc566)).trans z) (fun w hst => z)) (ws_q (v := .pointer (some (eAddr r0_0 (z540.toNat * 5 + 0)))) 10 [11, 12, 13, 14, 15, 16, 17, 18, 19, 20, 21, 22, 23, 24, 25, 26, 27, 28, 29, 30, 31, 32, 33, 34, 35, 36, 37, 38, 39, 40, 41, 42, 43, 44, 45, 46, 47, 48, 49, 50, 51, 52, 53, 54, 55, 56, 57, 58] (by kernel_rfl) z z (yi_run ((wanted_eq z z z (cvb hc566)).trans z) (fun w hst => x_index z z underlying26 sizeOf67 (rd_sliceV f0_0) h552 h553)) (ws_q (v := .pointer (some (eAddr r0_0 (z540.toNat * 5 + 1)))) 11 [12, 13, 14, 15, 16, 17, 18, 19, 20, 21, 22, 23, 24, 25, 26, 27, 28, 29, 30, 31, 32, 33, 34, 35, 36, 37, 38, 39, 40, 41, 42, 43, 44, 45, 46, 47, 48, 49, 50, 51, 52, 53, 54, 55, 56, 57, 58] (by kernel_rfl) z z (yi_run ((wanted_eq z z z (cvb hc566)).trans z) (fun w hst => x_field_e z underlying67 z sizeOf24 z)) ?_)))
 obtain ⟨cs567, hr568, hc569⟩ := Rd.getF f0_0 hi554
 obtain ⟨v570, rfl, f571, -⟩ := hr568
 refine ws_q (v := .int .u64 x550.Epoch) 12 [13, 14, 15, 16, 17, 18, 19, 20, 21, 22, 23, 24, 25, 26, 27, 28, 29, 30, 31, 32, 33, 34, 35, 36, 37, 38, 39, 40, 41, 42, 43, 44, 45, 46, 47, 48, 49, 50, 51, 52, 53, 54, 55, 56, 57, 58] (by kernel_rfl) z z (yi_run ((wanted_eq z z z (cvb hc566)).trans z) (fun w hst => x_load z isAgg24 ((hc569 (HL.le.refl _) hst) 1 _ z))) (ws_q (v := .int .u64 a2) 13 [14, 15, 16, 17, 18, 19, 20, 21, 22, 23, 24, 25, 26, 27, 28, 29, 30, 31, 32, 33, 34, 35, 36, 37, 38, 39, 40, 41, 42, 43, 44, 45, 46, 47, 48, 49, 50, 51, 52, 53, 54, 55, 56, 57, 58] (by kernel_rfl) z z (yi_run ((wanted_eq z z z (cvb hc566)).trans z) (fun w hst => z)) (ws_q (v := .bool (decide (x550.Epoch ≤ a2))) 14 [15, 16, 17, 18, 19, 20, 21, 22, 23, 24, 25, 26, 27, 28, 29, 30, 31, 32, 33, 34, 35, 36, 37, 38, 39, 40, 41, 42, 43, 44, 45, 46, 47, 48, 49, 50, 51, 52, 53, 54, 55, 56, 57, 58] (by kernel_rfl) z z (yi_run ((wanted_eq z z z (cvb hc566)).trans z) (fun w hst => z)) (wsr (.bool (decide (x550.Epoch ≤ a2))) 15 z z z (by kernel_rfl) (fun w hst => x_pick_t hc566 z z) (wsr (.bool (decide (x550.Epoch ≤ a2))) 16 z z z (by kernel_rfl) (fun w hst => z) ?_))))
 refine bsplit (decide (x550.Epoch ≤ a2)) (fun hc573 => ?_) (fun hc573 => ?_)
 {
 replace hm := bif_t hc573 hm
 refine ws_q (v := .int .i64 z539) 17 [18, 19, 20, 21, 22, 23, 24, 25, 26, 27, 28, 29, 30, 31, 32, 33, 34, 35, 36, 37, 38, 39, 40, 41, 42, 43, 44, 45, 46, 47, 48, 49, 50, 51, 52, 53, 54, 55, 56, 57, 58] (by kernel_rfl) z z (yi_run ((wanted_eq z z z (cvb hc573)).trans z) (fun w hst => z)) (ws_q (v := .bool (decide (z539 < (0:Int)))) 18 [19, 20, 21, 22, 23, 24, 25, 26, 27, 28, 29, 30, 31, 32, 33, 34, 35, 36, 37, 38, 39, 40, 41, 42, 43, 44, 45, 46, 47, 48, 49, 50, 51, 52, 53, 54, 55, 56, 57, 58] (by kernel_rfl) z z (yi_run ((wanted_eq z z z (cvb hc573)).trans z) (fun w hst => z)) (ws_q (v := .bool (decide (z539 < (0:Int)))) 19 [20, 21, 22, 23, 24, 25, 26, 27, 28, 29, 30, 31, 32, 33, 34, 35, 36, 37, 38, 39, 40, 41, 42, 43, 44, 45, 46, 47, 48, 49, 50, 51, 52, 53, 54, 55, 56, 57, 58] (by kernel_rfl) z z (yi_run ((wanted_eq z z z (cvb hc573)).trans z) (fun w hst => z)) ?_))
 refine bsplit (decide (z539 < (0:Int))) (fun hc574 => ?_) (fun hc574 => ?_)
 {
 replace hm := bif_t hc574 hm
 refine ws_q (v := undef) 20 [21, 22, 23, 24, 25, 26, 27, 28, 29, 30, 31, 32, 33, 34, 35, 36, 37, 38, 39, 40, 41, 42, 43, 44, 45, 46, 47, 48, 49, 50, 51, 52, 53, 54, 55, 56, 57, 58] (by kernel_rfl) z z (yi_off ((wanted_eq z z z (cvb hc574)).trans z)) (ws_q (v := undef) 21 [22, 23, 24, 25, 26, 27, 28, 29, 30, 31, 32, 33, 34, 35, 36, 37, 38, 39, 40, 41, 42, 43, 44, 45, 46, 47, 48, 49, 50, 51, 52, 53, 54, 55, 56, 57, 58] (by kernel_rfl) z z (yi_off ((wanted_eq z z z (cvb hc574)).trans z)) (ws_q (v := undef) 22 [23, 24, 25, 26, 27, 28, 29, 30, 31, 32, 33, 34, 35, 36, 37, 38, 39, 40, 41, 42, 43, 44, 45, 46, 47, 48, 49, 50, 51, 52, 53, 54, 55, 56, 57, 58] (by kernel_rfl) z z (yi_off ((wanted_eq z z z (cvb hc574)).trans z)) (ws_q (v := undef) 23 [24, 25, 26, 27, 28, 29, 30, 31, 32, 33, 34, 35, 36, 37, 38, 39, 40, 41, 42, 43, 44, 45, 46, 47, 48, 49, 50, 51, 52, 53, 54, 55, 56, 57, 58] (by kernel_rfl) z z (yi_off ((wanted_eq z z z (cvb hc574)).trans z)) (ws_q (v := undef) 24 [25, 26, 27, 28, 29, 30, 31, 32, 33, 34, 35, 36, 37, 38, 39, 40, 41, 42, 43, 44, 45, 46, 47, 48, 49, 50, 51, 52, 53, 54, 55, 56, 57, 58] (by kernel_rfl) z z (yi_off ((wanted_eq z z z (cvb hc574)).trans z)) (ws_q (v := undef) 25 [26, 27, 28, 29, 30, 31, 32, 33, 34, 35, 36, 37, 38, 39, 40, 41, 42, 43, 44, 45, 46, 47, 48, 49, 50, 51, 52, 53, 54, 55, 56, 57, 58] (by kernel_rfl) z z (yi_off ((wanted_eq z z z (cvb hc574)).trans z)) (ws_q (v := undef) 26 [27, 28, 29, 30, 31, 32, 33, 34, 35, 36, 37, 38, 39, 40, 41, 42, 43, 44, 45, 46, 47, 48, 49, 50, 51, 52, 53, 54, 55, 56, 57, 58] (by kernel_rfl) z z (yi_off ((wanted_eq z z z (cvb hc574)).trans z)) (ws_q (v := undef) 27 [28, 29, 30, 31, 32, 33, 34, 35, 36, 37, 38, 39, 40, 41, 42, 43, 44, 45, 46, 47, 48, 49, 50, 51, 52, 53, 54, 55, 56, 57, 58] (by kernel_rfl) z z (yi_off ((wanted_eq z z z (cvb hc574)).trans z)) (ws_q (v := undef) 28 [29, 30, 31, 32, 33, 34, 35, 36, 37, 38, 39, 40, 41, 42, 43, 44, 45, 46, 47, 48, 49, 50, 51, 52, 53, 54, 55, 56, 57, 58] (by kernel_rfl) z z (yi_off ((wanted_eq z z z (cvb hc574)).trans z)) (ws_q (v := undef) 29 [30, 31, 32, 33, 34, 35, 36, 37, 38, 39, 40, 41, 42, 43, 44, 45, 46, 47, 48, 49, 50, 51, 52, 53, 54, 55, 56, 57, 58] (by kernel_rfl) z z (yi_off ((wanted_eq z z z (cvb hc574)).trans z)) (ws_q (v := undef) 30 [31, 32, 33, 34, 35, 36, 37, 38, 39, 40, 41, 42, 43, 44, 45, 46, 47, 48, 49, 50, 51, 52, 53, 54, 55, 56, 57, 58] (by kernel_rfl) z z (yi_off ((wanted_eq z z z (cvb hc574)).trans z)) (ws_q (v := .bool true) 31 [32, 33, 34, 35, 36, 37, 38, 39, 40, 41, 42, 43, 44, 45, 46, 47, 48, 49, 50, 51, 52, 53, 54, 55, 56, 57, 58] (by kernel_rfl) z z (yi_run ((wanted_eq z z z (cvb hc573)).trans z) (fun w hst => x_pick_t hc574 z z)) (ws_q (v := .bool true) 32 [33, 34, 35, 36, 37, 38, 39, 40, 41, 42, 43, 44, 45, 46, 47, 48, 49, 50, 51, 52, 53, 54, 55, 56, 57, 58] (by kernel_rfl) z z (yi_run ((wanted_eq z z z (cvb hc573)).trans z) (fun w hst => z)) ?_))))))))))))
 refine ws_q (v := undef) 33 [34, 35, 36, 37, 38, 39, 40, 41, 42, 43, 44, 45, 46, 47, 48, 49, 50, 51, 52, 53, 54, 55, 56, 57, 58] (by kernel_rfl) z z (yi_off ((wanted_eq z z z z).trans z)) (ws_q (v := undef) 34 [35, 36, 37, 38, 39, 40, 41, 42, 43, 44, 45, 46, 47, 48, 49, 50, 51, 52, 53, 54, 55, 56, 57, 58] (by kernel_rfl) z z (yi_off ((wanted_eq z z z z).trans z)) (ws_q (v := undef) 35 [36, 37, 38, 39, 40, 41, 42, 43, 44, 45, 46, 47, 48, 49, 50, 51, 52, 53, 54, 55, 56, 57, 58] (by kernel_rfl) z z (yi_off ((wanted_eq z z z z).trans z)) (ws_q (v := undef) 36 [37, 38, 39, 40, 41, 42, 43, 44, 45, 46, 47, 48, 49, 50, 51, 52, 53, 54, 55, 56, 57, 58] (by kernel_rfl) z z (yi_off ((wanted_eq z z z z).trans z)) (ws_q (v := undef) 37 [38, 39, 40, 41, 42, 43, 44, 45, 46, 47, 48, 49, 50, 51, 52, 53, 54, 55, 56, 57, 58] (by kernel_rfl) z z (yi_off ((wanted_eq z z z z).trans z)) (ws_q (v := undef) 38 [39, 40, 41, 42, 43, 44, 45, 46, 47, 48, 49, 50, 51, 52, 53, 54, 55, 56, 57, 58] (by kernel_rfl) z z (yi_off ((wanted_eq z z z z).trans z)) (ws_q (v := undef) 39 [40, 41, 42, 43, 44, 45, 46, 47, 48, 49, 50, 51, 52, 53, 54, 55, 56, 57, 58] (by kernel_rfl) z z (yi_off ((wanted_eq z z z z).trans z)) (ws_q (v := undef) 40 [41, 42, 43, 44, 45, 46, 47, 48, 49, 50, 51, 52, 53, 54, 55, 56, 57, 58] (by kernel_rfl) z z (yi_off ((wanted_eq z z z z).trans z)) (ws_q (v := undef) 41 [42, 43, 44, 45, 46, 47, 48, 49, 50, 51, 52, 53, 54, 55, 56, 57, 58] (by kernel_rfl) z z (yi_off ((wanted_eq z z z z).trans z)) (ws_q (v := undef) 42 [43, 44, 45, 46, 47, 48, 49, 50, 51, 52, 53, 54, 55, 56, 57, 58] (by kernel_rfl) z z (yi_off ((wanted_eq z z z z).trans z)) (ws_q (v := undef) 43 [44, 45, 46, 47, 48, 49, 50, 51, 52, 53, 54, 55, 56, 57, 58] (by kernel_rfl) z z (yi_off ((wanted_eq z z z z).trans z)) (ws_q (v := undef) 44 [45, 46, 47, 48, 49, 50, 51, 52, 53, 54, 55, 56, 57, 58] (by kernel_rfl) z z (yi_off ((wanted_eq z z z z).trans z)) (ws_q (v := undef) 45 [46, 47, 48, 49, 50, 51, 52, 53, 54, 55, 56, 57, 58] (by kernel_rfl) z z (yi_off (wanted_undef z z z z)) ?_))))))))))))
 refine ws_q (v := undef) 46 [47, 48, 49, 50, 51, 52, 53, 54, 55, 56, 57, 58] (by kernel_rfl) z z (yi_off (wanted_undef z z z z)) (ws_q (v := undef) 47 [48, 49, 50, 51, 52, 53, 54, 55, 56, 57, 58] (by kernel_rfl) z z (yi_off (wanted_undef z z z z)) (ws_q (v := undef) 48 [49, 50, 51, 52, 53, 54, 55, 56, 57, 58] (by kernel_rfl) z z (yi_off (wanted_undef z z z z)) (ws_q (v := undef) 49 [50, 51, 52, 53, 54, 55, 56, 57, 58] (by kernel_rfl) z z (yi_off (wanted_undef z z z z)) (ws_q (v := undef) 50 [51, 52, 53, 54, 55, 56, 57, 58] (by kernel_rfl) z z (yi_off (wanted_undef z z z z)) (ws_q (v := undef) 51 [52, 53, 54, 55, 56, 57, 58] (by kernel_rfl) z z (yi_off (wanted_undef z z z z)) (ws_q (v := undef) 52 [53, 54, 55, 56, 57, 58] (by kernel_rfl) z z (yi_off (wanted_undef z z z z)) (ws_q (v := undef) 53 [54, 55, 56, 57, 58] (by kernel_rfl) z z (yi_off (wanted_undef z z z z)) (ws_q (v := undef) 54 [55, 56, 57, 58] (by kernel_rfl) z z (yi_off (wanted_undef z z z z)) (ws_q (v := undef) 55 [56, 57, 58] (by kernel_rfl) z z (yi_off (wanted_undef z z z z)) (ws_q (v := undef) 56 [57, 58] (by kernel_rfl) z z (yi_off ((wanted_eq z z z z).trans z)) (ws_q (v := .bool true) 57 [58] (by kernel_rfl) z z (yi_run ((wanted_eq z z z (cvb hc573)).trans z) (fun w hst => x_pick_t z z z)) (wsr (.bool true) 58 z z z (by kernel_rfl) (fun w hst => x_pick_t hc573 z z) ?_))))))))))))
 refine ws_nil ?_
 intro w hst
 refine tn ?_
 refine wp_ift z ?_
 refine wrl (wv (.int .i64 z540) z z z (wv (.int .i64 z540) z z z (wl_nil (blk_n (tn (wrl (wv (.int .i64 z540) z z z (wv (.int .i64 (i64.wrap (z540 + (1:Int)))) z z z (wv (.int .i64 (i64.wrap (z540 + (1:Int)))) z z z (wl_nil (tn ?_)))))))))))
 replace hst := hst.keep0
 obtain rfl := some_inj hm
 exact ⟨_, Nat.lt_succ_self _, z540, (i64.wrap (z540 + (1:Int))), _, hx547, (fu 0 r0_0 z (fu 1 (.float .f64 a1) z (fu 2 (.int .u64 a2) z (fu 7 (.int .i64 z540) z (fu 8 (.int .i64 (i64.wrap (z540 + (1:Int)))) z z))))), hst⟩
}
 {
 replace hm := bif_f hc574 hm
 refine ws_q (v := r0_0) 20 [21, 22, 23, 24, 25, 26, 27, 28, 29, 30, 31, 32, 33, 34, 35, 36, 37, 38, 39, 40, 41, 42, 43, 44, 45, 46, 47, 48, 49, 50, 51, 52, 53, 54, 55, 56, 57, 58] (by kernel_rfl) z z (yi_run ((wanted_eq z z z (cvb hc574)).trans z) (fun w hst => z)) (ws_q (v := .int .i64 z539) 21 [22, 23, 24, 25, 26, 27, 28, 29, 30, 31, 32, 33, 34, 35, 36, 37, 38, 39, 40, 41, 42, 43, 44, 45, 46, 47, 48, 49, 50, 51, 52, 53, 54, 55, 56, 57, 58] (by kernel_rfl) z z (yi_run ((wanted_eq z z z (cvb hc574)).trans z) (fun w hst => z)) ?_)
 obtain ⟨x575, hx576, hm⟩ := bind_some hm
 obtain ⟨h577, h578, hi579⟩ := geto_some hx576
 refine ws_q (v := .pointer (some (eAddr r0_0 (z539.toNat * 5 + 0)))) 22 [23, 24, 25, 26, 27, 28, 29, 30, 31, 32, 33, 34, 35, 36, 37, 38, 39, 40, 41, 42, 43, 44, 45, 46, 47, 48, 49, 50, 51, 52, 53, 54, 55, 56, 57, 58] (by kernel_rfl) z z (yi_run ((wanted_eq z z z (cvb hc574)).trans z) (fun w hst => x_index z z underlying26 sizeOf67 (rd_sliceV f0_0) h577 h578)) (ws_q (v := .pointer (some (eAddr r0_0 (z539.toNat * 5 + 1)))) 23 [24, 25, 26, 27, 28, 29, 30, 31, 32, 33, 34, 35, 36, 37, 38, 39, 40, 41, 42, 43, 44, 45, 46, 47, 48, 49, 50, 51, 52, 53, 54, 55, 56, 57, 58] (by kernel_rfl) z z (yi_run ((wanted_eq z z z (cvb hc574)).trans z) (fun w hst => x_field_e z underlying67 z sizeOf24 z)) ?_)
 obtain ⟨cs580, hr581, hc582⟩ := Rd.getF f0_0 hi579
 obtain ⟨v583, rfl, f584, -⟩ := hr581
 refine ws_q (v := .int .u64 x575.Epoch) 24 [25, 26, 27, 28, 29, 30, 31, 32, 33, 34, 35, 36, 37, 38, 39, 40, 41, 42, 43, 44, 45, 46, 47, 48, 49, 50, 51, 52, 53, 54, 55, 56, 57, 58] (by kernel_rfl) z z (yi_run ((wanted_eq z z z (cvb hc574)).trans z) (fun w hst => x_load z isAgg24 ((hc582 (HL.le.refl _) hst) 1 _ z))) (ws_q (v := r0_0) 25 [26, 27, 28, 29, 30, 31, 32, 33, 34, 35, 36, 37, 38, 39, 40, 41, 42, 43, 44, 45, 46, 47, 48, 49, 50, 51, 52, 53, 54, 55, 56, 57, 58] (by kernel_rfl) z z (yi_run ((wanted_eq z z z (cvb hc574)).trans z) (fun w hst => z)) (ws_q (v := .int .i64 z540) 26 [27, 28, 29, 30, 31, 32, 33, 34, 35, 36, 37, 38, 39, 40, 41, 42, 43, 44, 45, 46, 47, 48, 49, 50, 51, 52, 53, 54, 55, 56, 57, 58] (by kernel_rfl) z z (yi_run ((wanted_eq z z z (cvb hc574)).trans z) (fun w hst => z)) (ws_q (v := .pointer (some (eAddr r0_0 (z540.toNat * 5 + 0)))) 27 [28, 29, 30, 31, 32, 33, 34, 35, 36, 37, 38, 39, 40, 41, 42, 43, 44, 45, 46, 47, 48, 49, 50, 51, 52, 53, 54, 55, 56, 57, 58] (by kernel_rfl) z z (yi_run ((wanted_eq z z z (cvb hc574)).trans z) (fun w hst => x_index z z underlying26 sizeOf67 (rd_sliceV f0_0) h552 h553)) (ws_q (v := .pointer (some (eAddr r0_0 (z540.toNat * 5 + 1)))) 28 [29, 30, 31, 32, 33, 34, 35, 36, 37, 38, 39, 40, 41, 42, 43, 44, 45, 46, 47, 48, 49, 50, 51, 52, 53, 54, 55, 56, 57, 58] (by kernel_rfl) z z (yi_run ((wanted_eq z z z (cvb hc574)).trans z) (fun w hst => x_field_e z underlying67 z sizeOf24 z)) (ws_q (v := .int .u64 x550.Epoch) 29 [30, 31, 32, 33, 34, 35, 36, 37, 38, 39, 40, 41, 42, 43, 44, 45, 46, 47, 48, 49, 50, 51, 52, 53, 54, 55, 56, 57, 58] (by kernel_rfl) z z (yi_run ((wanted_eq z z z (cvb hc574)).trans z) (fun w hst => x_load z isAgg24 ((hc569 (HL.le.refl _) hst) 1 _ z))) (ws_q (v := .bool (decide (x575.Epoch < x550.Epoch))) 30 [31, 32, 33, 34, 35, 36, 37, 38, 39, 40, 41, 42, 43, 44, 45, 46, 47, 48, 49, 50, 51, 52, 53, 54, 55, 56, 57, 58] (by kernel_rfl) z z (yi_run ((wanted_eq z z z (cvb hc574)).trans z) (fun w hst => z)) (ws_q (v := .bool (decide (x575.Epoch < x550.Epoch))) 31 [32, 33, 34, 35, 36, 37, 38, 39, 40, 41, 42, 43, 44, 45, 46, 47, 48, 49, 50, 51, 52, 53, 54, 55, 56, 57, 58] (by kernel_rfl) z z (yi_run ((wanted_eq z z z (cvb hc573)).trans z) (fun w hst => x_pick_f hc574 z z)) (ws_q (v := .bool (decide (x575.Epoch < x550.Epoch))) 32 [33, 34, 35, 36, 37, 38, 39, 40, 41, 42, 43, 44, 45, 46, 47, 48, 49, 50, 51, 52, 53, 54, 55, 56, 57, 58] (by kernel_rfl) z z (yi_run ((wanted_eq z z z (cvb hc573)).trans z) (fun w hst => z)) ?_))))))))
 refine bsplit (decide (x575.Epoch < x550.Epoch)) (fun hc586 => ?_) (fun hc586 => ?_)
 {
 replace hm := bif_t hc586 hm
 refine ws_q (v := undef) 33 [34, 35, 36, 37, 38, 39, 40, 41, 42, 43, 44, 45, 46, 47, 48, 49, 50, 51, 52, 53, 54, 55, 56, 57, 58] (by kernel_rfl) z z (yi_off ((wanted_eq z z z (cvb hc586)).trans z)) (ws_q (v := undef) 34 [35, 36, 37, 38, 39, 40, 41, 42, 43, 44, 45, 46, 47, 48, 49, 50, 51, 52, 53, 54, 55, 56, 57, 58] (by kernel_rfl) z z (yi_off ((wanted_eq z z z (cvb hc586)).trans z)) (ws_q (v := undef) 35 [36, 37, 38, 39, 40, 41, 42, 43, 44, 45, 46, 47, 48, 49, 50, 51, 52, 53, 54, 55, 56, 57, 58] (by kernel_rfl) z z (yi_off ((wanted_eq z z z (cvb hc586)).trans z)) (ws_q (v := undef) 36 [37, 38, 39, 40, 41, 42, 43, 44, 45, 46, 47, 48, 49, 50, 51, 52, 53, 54, 55, 56, 57, 58] (by kernel_rfl) z z (yi_off ((wanted_eq z z z (cvb hc586)).trans z)) (ws_q (v := undef) 37 [38, 39, 40, 41, 42, 43, 44, 45, 46, 47, 48, 49, 50, 51, 52, 53, 54, 55, 56, 57, 58] (by kernel_rfl) z z (yi_off ((wanted_eq z z z (cvb hc586)).trans z)) (ws_q (v := undef) 38 [39, 40, 41, 42, 43, 44, 45, 46, 47, 48, 49, 50, 51, 52, 53, 54, 55, 56, 57, 58] (by kernel_rfl) z z (yi_off ((wanted_eq z z z (cvb hc586)).trans z)) (ws_q (v := undef) 39 [40, 41, 42, 43, 44, 45, 46, 47, 48, 49, 50, 51, 52, 53, 54, 55, 56, 57, 58] (by kernel_rfl) z z (yi_off ((wanted_eq z z z (cvb hc586)).trans z)) (ws_q (v := undef) 40 [41, 42, 43, 44, 45, 46, 47, 48, 49, 50, 51, 52, 53, 54, 55, 56, 57, 58] (by kernel_rfl) z z (yi_off ((wanted_eq z z z (cvb hc586)).trans z)) (ws_q (v := undef) 41 [42, 43, 44, 45, 46, 47, 48, 49, 50, 51, 52, 53, 54, 55, 56, 57, 58] (by kernel_rfl) z z (yi_off ((wanted_eq z z z (cvb hc586)).trans z)) (ws_q (v := undef) 42 [43, 44, 45, 46, 47, 48, 49, 50, 51, 52, 53, 54, 55, 56, 57, 58] (by kernel_rfl) z z (yi_off ((wanted_eq z z z (cvb hc586)).trans z)) (ws_q (v := undef) 43 [44, 45, 46, 47, 48, 49, 50, 51, 52, 53, 54, 55, 56, 57, 58] (by kernel_rfl) z z (yi_off ((wanted_eq z z z (cvb hc586)).trans z)) (ws_q (v := undef) 44 [45, 46, 47, 48, 49, 50, 51, 52, 53, 54, 55, 56, 57, 58] (by kernel_rfl) z z (yi_off ((wanted_eq z z z (cvb hc586)).trans z)) (ws_q (v := undef) 45 [46, 47, 48, 49, 50, 51, 52, 53, 54, 55, 56, 57, 58] (by kernel_rfl) z z (yi_off (wanted_undef z z z z)) ?_))))))))))))
 refine ws_q (v := undef) 46 [47, 48, 49, 50, 51, 52, 53, 54, 55, 56, 57, 58] (by kernel_rfl) z z (yi_off (wanted_undef z z z z)) (ws_q (v := undef) 47 [48, 49, 50, 51, 52, 53, 54, 55, 56, 57, 58] (by kernel_rfl) z z (yi_off (wanted_undef z z z z)) (ws_q (v := undef) 48 [49, 50, 51, 52, 53, 54, 55, 56, 57, 58] (by kernel_rfl) z z (yi_off (wanted_undef z z z z)) (ws_q (v := undef) 49 [50, 51, 52, 53, 54, 55, 56, 57, 58] (by kernel_rfl) z z (yi_off (wanted_undef z z z z)) (ws_q (v := undef) 50 [51, 52, 53, 54, 55, 56, 57, 58] (by kernel_rfl) z z (yi_off (wanted_undef z z z z)) (ws_q (v := undef) 51 [52, 53, 54, 55, 56, 57, 58] (by kernel_rfl) z z (yi_off (wanted_undef z z z z)) (ws_q (v := undef) 52 [53, 54, 55, 56, 57, 58] (by kernel_rfl) z z (yi_off (wanted_undef z z z z)) (ws_q (v := undef) 53 [54, 55, 56, 57, 58] (by kernel_rfl) z z (yi_off (wanted_undef z z z z)) (ws_q (v := undef) 54 [55, 56, 57, 58] (by kernel_rfl) z z (yi_off (wanted_undef z z z z)) (ws_q (v := undef) 55 [56, 57, 58] (by kernel_rfl) z z (yi_off (wanted_undef z z z z)) (ws_q (v := undef) 56 [57, 58] (by kernel_rfl) z z (yi_off ((wanted_eq z z z (cvb hc586)).trans z)) (ws_q (v := .bool true) 57 [58] (by kernel_rfl) z z (yi_run ((wanted_eq z z z (cvb hc573)).trans z) (fun w hst => x_pick_t hc586 z z)) (wsr (.bool true) 58 z z z (by kernel_rfl) (fun w hst => x_pick_t hc573 z z) ?_))))))))))))
 refine ws_nil ?_
 intro w hst
 refine tn ?_
 refine wp_ift z ?_
 refine wrl (wv (.int .i64 z540) z z z (wv (.int .i64 z540) z z z (wl_nil (blk_n (tn (wrl (wv (.int .i64 z540) z z z (wv (.int .i64 (i64.wrap (z540 + (1:Int)))) z z z (wv (.int .i64 (i64.wrap (z540 + (1:Int)))) z z z (wl_nil (tn ?_)))))))))))
 replace hst := hst.keep0
 obtain rfl := some_inj hm
 exact ⟨_, Nat.lt_succ_self _, z540, (i64.wrap (z540 + (1:Int))), _, hx547, (fu 0 r0_0 z (fu 1 (.float .f64 a1) z (fu 2 (.int .u64 a2) z (fu 7 (.int .i64 z540) z (fu 8 (.int .i64 (i64.wrap (z540 + (1:Int)))) z z))))), hst⟩
}
 {
 replace hm := bif_f hc586 hm
 refine ws_q (v := r0_0) 33 [34, 35, 36, 37, 38, 39, 40, 41, 42, 43, 44, 45, 46, 47, 48, 49, 50, 51, 52, 53, 54, 55, 56, 57, 58] (by kernel_rfl) z z (yi_run ((wanted_eq z z z (cvb hc586)).trans z) (fun w hst => z)) (ws_q (v := .int .i64 z539) 34 [35, 36, 37, 38, 39, 40, 41, 42, 43, 44, 45, 46, 47, 48, 49, 50, 51, 52, 53, 54, 55, 56, 57, 58] (by kernel_rfl) z z (yi_run ((wanted_eq z z z (cvb hc586)).trans z) (fun w hst => z)) (ws_q (v := .pointer (some (eAddr r0_0 (z539.toNat * 5 + 0)))) 35 [36, 37, 38, 39, 40, 41, 42, 43, 44, 45, 46, 47, 48, 49, 50, 51, 52, 53, 54, 55, 56, 57, 58] (by kernel_rfl) z z (yi_run ((wanted_eq z z z (cvb hc586)).trans z) (fun w hst => x_index z z underlying26 sizeOf67 (rd_sliceV f0_0) h577 h578)) (ws_q (v := .pointer (some (eAddr r0_0 (z539.toNat * 5 + 1)))) 36 [37, 38, 39, 40, 41, 42, 43, 44, 45, 46, 47, 48, 49, 50, 51, 52, 53, 54, 55, 56, 57, 58] (by kernel_rfl) z z (yi_run ((wanted_eq z z z (cvb hc586)).trans z) (fun w hst => x_field_e z underlying67 z sizeOf24 z)) (ws_q (v := .int .u64 x575.Epoch) 37 [38, 39, 40, 41, 42, 43, 44, 45, 46, 47, 48, 49, 50, 51, 52, 53, 54, 55, 56, 57, 58] (by kernel_rfl) z z (yi_run ((wanted_eq z z z (cvb hc586)).trans z) (fun w hst => x_load z isAgg24 ((hc582 (HL.le.refl _) hst) 1 _ z))) (ws_q (v := r0_0) 38 [39, 40, 41, 42, 43, 44, 45, 46, 47, 48, 49, 50, 51, 52, 53, 54, 55, 56, 57, 58] (by kernel_rfl) z z (yi_run ((wanted_eq z z z (cvb hc586)).trans z) (fun w hst => z)) (ws_q (v := .int .i64 z540) 39 [40, 41, 42, 43, 44, 45, 46, 47, 48, 49, 50, 51, 52, 53, 54, 55, 56, 57, 58] (by kernel_rfl) z z (yi_run ((wanted_eq z z z (cvb hc586)).trans z) (fun w hst => z)) (ws_q (v := .pointer (some (eAddr r0_0 (z540.toNat * 5 + 0)))) 40 [41, 42, 43, 44, 45, 46, 47, 48, 49, 50, 51, 52, 53, 54, 55, 56, 57, 58] (by kernel_rfl) z z (yi_run ((wanted_eq z z z (cvb hc586)).trans z) (fun w hst => x_index z z underlying26 sizeOf67 (rd_sliceV f0_0) h552 h553)) (ws_q (v := .pointer (some (eAddr r0_0 (z540.toNat * 5 + 1)))) 41 [42, 43, 44, 45, 46, 47, 48, 49, 50, 51, 52, 53, 54, 55, 56, 57, 58] (by kernel_rfl) z z (yi_run ((wanted_eq z z z (cvb hc586)).trans z) (fun w hst => x_field_e z underlying67 z sizeOf24 z)) (ws_q (v := .int .u64 x550.Epoch) 42 [43, 44, 45, 46, 47, 48, 49, 50, 51, 52, 53, 54, 55, 56, 57, 58] (by kernel_rfl) z z (yi_run ((wanted_eq z z z (cvb hc586)).trans z) (fun w hst => x_load z isAgg24 ((hc569 (HL.le.refl _) hst) 1 _ z))) (ws_q (v := .bool (x575.Epoch == x550.Epoch)) 43 [44, 45, 46, 47, 48, 49, 50, 51, 52, 53, 54, 55, 56, 57, 58] (by kernel_rfl) z z (yi_run ((wanted_eq z z z (cvb hc586)).trans z) (fun w hst => z)) (ws_q (v := .bool (x575.Epoch == x550.Epoch)) 44 [45, 46, 47, 48, 49, 50, 51, 52, 53, 54, 55, 56, 57, 58] (by kernel_rfl) z z (yi_run ((wanted_eq z z z (cvb hc586)).trans z) (fun w hst => z)) ?_)))))))))))
 refine bsplit (x575.Epoch == x550.Epoch) (fun hc587 => ?_) (fun hc587 => ?_)
 {
 replace hm := bif_t hc587 hm
 refine ws_q (v := r0_0) 45 [46, 47, 48, 49, 50, 51, 52, 53, 54, 55, 56, 57, 58] (by kernel_rfl) z z (yi_run ((wanted_eq z z z (cvb hc587)).trans z) (fun w hst => z)) (ws_q (v := .int .i64 z539) 46 [47, 48, 49, 50, 51, 52, 53, 54, 55, 56, 57, 58] (by kernel_rfl) z z (yi_run ((wanted_eq z z z (cvb hc587)).trans z) (fun w hst => z)) (ws_q (v := .pointer (some (eAddr r0_0 (z539.toNat * 5 + 0)))) 47 [48, 49, 50, 51, 52, 53, 54, 55, 56, 57, 58] (by kernel_rfl) z z (yi_run ((wanted_eq z z z (cvb hc587)).trans z) (fun w hst => x_index z z underlying26 sizeOf67 (rd_sliceV f0_0) h577 h578)) (ws_q (v := .pointer (some (eAddr r0_0 (z539.toNat * 5 + 2)))) 48 [49, 50, 51, 52, 53, 54, 55, 56, 57, 58] (by kernel_rfl) z z (yi_run ((wanted_eq z z z (cvb hc587)).trans z) (fun w hst => x_field_e z underlying67 z sizeOf24 z)) (ws_q (v := .int .u64 x575.Index) 49 [50, 51, 52, 53, 54, 55, 56, 57, 58] (by kernel_rfl) z z (yi_run ((wanted_eq z z z (cvb hc587)).trans z) (fun w hst => x_load z isAgg24 ((hc582 (HL.le.refl _) hst) 2 _ z))) (ws_q (v := r0_0) 50 [51, 52, 53, 54, 55, 56, 57, 58] (by kernel_rfl) z z (yi_run ((wanted_eq z z z (cvb hc587)).trans z) (fun w hst => z)) (ws_q (v := .int .i64 z540) 51 [52, 53, 54, 55, 56, 57, 58] (by kernel_rfl) z z (yi_run ((wanted_eq z z z (cvb hc587)).trans z) (fun w hst => z)) (ws_q (v := .pointer (some (eAddr r0_0 (z540.toNat * 5 + 0)))) 52 [53, 54, 55, 56, 57, 58] (by kernel_rfl) z z (yi_run ((wanted_eq z z z (cvb hc587)).trans z) (fun w hst => x_index z z underlying26 sizeOf67 (rd_sliceV f0_0) h552 h553)) (ws_q (v := .pointer (some (eAddr r0_0 (z540.toNat * 5 + 2)))) 53 [54, 55, 56, 57, 58] (by kernel_rfl) z z (yi_run ((wanted_eq z z z (cvb hc587)).trans z) (fun w hst => x_field_e z underlying67 z sizeOf24 z)) (ws_q (v := .int .u64 x550.Index) 54 [55, 56, 57, 58] (by kernel_rfl) z z (yi_run ((wanted_eq z z z (cvb hc587)).trans z) (fun w hst => x_load z isAgg24 ((hc569 (HL.le.refl _) hst) 2 _ z))) (ws_q (v := .bool (decide (x575.Index < x550.Index))) 55 [56, 57, 58] (by kernel_rfl) z z (yi_run ((wanted_eq z z z (cvb hc587)).trans z) (fun w hst => z)) (ws_q (v := .bool (decide (x575.Index < x550.Index))) 56 [57, 58] (by kernel_rfl) z z (yi_run ((wanted_eq z z z (cvb hc586)).trans z) (fun w hst => x_pick_t hc587 z z)) (ws_q (v := .bool (decide (x575.Index < x550.Index))) 57 [58] (by kernel_rfl) z z (yi_run ((wanted_eq z z z (cvb hc573)).trans z) (fun w hst => x_pick_f hc586 z z)) ?_))))))))))))
 refine wsr (.bool (decide (x575.Index < x550.Index))) 58 z z z (by kernel_rfl) (fun w hst => x_pick_t hc573 z z) ?_
 refine ws_nil ?_
 intro w hst
 refine tn ?_
 refine bsplit (decide (x575.Index < x550.Index)) (fun hc588 => ?_) (fun hc588 => ?_)
 {
 replace hm := bif_t hc588 hm
 refine wp_ift (cvb hc588) ?_
 refine wrl (wv (.int .i64 z540) z z z (wv (.int .i64 z540) z z z (wl_nil (blk_n (tn (wrl (wv (.int .i64 z540) z z z (wv (.int .i64 (i64.wrap (z540 + (1:Int)))) z z z (wv (.int .i64 (i64.wrap (z540 + (1:Int)))) z z z (wl_nil (tn ?_)))))))))))
 replace hst := hst.keep0
 obtain rfl := some_inj hm
 exact ⟨_, Nat.lt_succ_self _, z540, (i64.wrap (z540 + (1:Int))), _, hx547, (fu 0 r0_0 z (fu 1 (.float .f64 a1) z (fu 2 (.int .u64 a2) z (fu 7 (.int .i64 z540) z (fu 8 (.int .i64 (i64.wrap (z540 + (1:Int)))) z z))))), hst⟩
}
 {
 replace hm := bif_f hc588 hm
 refine wp_iff (cvb hc588) ?_
 refine wp_skip (blk_n (tn (wrl ?_)))
 refine wv (.int .i64 z540) z z z (wv (.int .i64 (i64.wrap (z540 + (1:Int)))) z z z (wv (.int .i64 (i64.wrap (z540 + (1:Int)))) z z z (wl_nil (tn ?_))))
 replace hst := hst.keep0
 obtain rfl := some_inj hm
 exact ⟨_, Nat.lt_succ_self _, z539, (i64.wrap (z540 + (1:Int))), _, hx547, (fu 0 r0_0 z (fu 1 (.float .f64 a1) z (fu 2 (.int .u64 a2) z (fu 7 (.int .i64 z539) z (fu 8 (.int .i64 (i64.wrap (z540 + (1:Int)))) z z))))), hst⟩
}
}
 {
 replace hm := bif_f hc587 hm
 refine ws_q (v := undef) 45 [46, 47, 48, 49, 50, 51, 52, 53, 54, 55, 56, 57, 58] (by kernel_rfl) z z (yi_off ((wanted_eq z z z (cvb hc587)).trans z)) (ws_q (v := undef) 46 [47, 48, 49, 50, 51, 52, 53, 54, 55, 56, 57, 58] (by kernel_rfl) z z (yi_off ((wanted_eq z z z (cvb hc587)).trans z)) (ws_q (v := undef) 47 [48, 49, 50, 51, 52, 53, 54, 55, 56, 57, 58] (by kernel_rfl) z z (yi_off ((wanted_eq z z z (cvb hc587)).trans z)) (ws_q (v := undef) 48 [49, 50, 51, 52, 53, 54, 55, 56, 57, 58] (by kernel_rfl) z z (yi_off ((wanted_eq z z z (cvb hc587)).trans z)) (ws_q (v := undef) 49 [50, 51, 52, 53, 54, 55, 56, 57, 58] (by kernel_rfl) z z (yi_off ((wanted_eq z z z (cvb hc587)).trans z)) (ws_q (v := undef) 50 [51, 52, 53, 54, 55, 56, 57, 58] (by kernel_rfl) z z (yi_off ((wanted_eq z z z (cvb hc587)).trans z)) (ws_q (v := undef) 51 [52, 53, 54, 55, 56, 57, 58] (by kernel_rfl) z z (yi_off ((wanted_eq z z z (cvb hc587)).trans z)) (ws_q (v := undef) 52 [53, 54, 55, 56, 57, 58] (by kernel_rfl) z z (yi_off ((wanted_eq z z z (cvb hc587)).trans z)) (ws_q (v := undef) 53 [54, 55, 56, 57, 58] (by kernel_rfl) z z (yi_off ((wanted_eq z z z (cvb hc587)).trans z)) (ws_q (v := undef) 54 [55, 56, 57, 58] (by kernel_rfl) z z (yi_off ((wanted_eq z z z (cvb hc587)).trans z)) (ws_q (v := undef) 55 [56, 57, 58] (by kernel_rfl) z z (yi_off ((wanted_eq z z z (cvb hc587)).trans z)) (ws_q (v := .bool false) 56 [57, 58] (by kernel_rfl) z z (yi_run ((wanted_eq z z z (cvb hc586)).trans z) (fun w hst => x_pick_f hc587 z z)) (ws_q (v := .bool false) 57 [58] (by kernel_rfl) z z (yi_run ((wanted_eq z z z (cvb hc573)).trans z) (fun w hst => x_pick_f hc586 z z)) ?_))))))))))))
 refine wsr (.bool false) 58 z z z (by kernel_rfl) (fun w hst => x_pick_t hc573 z z) ?_
 refine ws_nil ?_
 intro w hst
 refine tn ?_
 refine wp_iff z ?_
 refine wp_skip (blk_n (tn (wrl ?_)))
 refine wv (.int .i64 z540) z z z (wv (.int .i64 (i64.wrap (z540 + (1:Int)))) z z z (wv (.int .i64 (i64.wrap (z540 + (1:Int)))) z z z (wl_nil (tn ?_))))
 replace hst := hst.keep0
 obtain rfl := some_inj hm
 exact ⟨_, Nat.lt_succ_self _, z539, (i64.wrap (z540 + (1:Int))), _, hx547, (fu 0 r0_0 z (fu 1 (.float .f64 a1) z (fu 2 (.int .u64 a2) z (fu 7 (.int .i64 z539) z (fu 8 (.int .i64 (i64.wrap (z540 + (1:Int)))) z z))))), hst⟩
}
}
}
}
 {
 replace hm := bif_f hc573 hm
 refine ws_q (v := undef) 17 [18, 19, 20, 21, 22, 23, 24, 25, 26, 27, 28, 29, 30, 31, 32, 33, 34, 35, 36, 37, 38, 39, 40, 41, 42, 43, 44, 45, 46, 47, 48, 49, 50, 51, 52, 53, 54, 55, 56, 57, 58] (by kernel_rfl) z z (yi_off ((wanted_eq z z z (cvb hc573)).trans z)) (ws_q (v := undef) 18 [19, 20, 21, 22, 23, 24, 25, 26, 27, 28, 29, 30, 31, 32, 33, 34, 35, 36, 37, 38, 39, 40, 41, 42, 43, 44, 45, 46, 47, 48, 49, 50, 51, 52, 53, 54, 55, 56, 57, 58] (by kernel_rfl) z z (yi_off ((wanted_eq z z z (cvb hc573)).trans z)) (ws_q (v := undef) 19 [20, 21, 22, 23, 24, 25, 26, 27, 28, 29, 30, 31, 32, 33, 34, 35, 36, 37, 38, 39, 40, 41, 42, 43, 44, 45, 46, 47, 48, 49, 50, 51, 52, 53, 54, 55, 56, 57, 58] (by kernel_rfl) z z (yi_off ((wanted_eq z z z (cvb hc573)).trans z)) (ws_q (v := undef) 20 [21, 22, 23, 24, 25, 26, 27, 28, 29, 30, 31, 32, 33, 34, 35, 36, 37, 38, 39, 40, 41, 42, 43, 44, 45, 46, 47, 48, 49, 50, 51, 52, 53, 54, 55, 56, 57, 58] (by kernel_rfl) z z (yi_off (wanted_undef z z z z)) (ws_q (v := undef) 21 [22, 23, 24, 25, 26, 27, 28, 29, 30, 31, 32, 33, 34, 35, 36, 37, 38, 39, 40, 41, 42, 43, 44, 45, 46, 47, 48, 49, 50, 51, 52, 53, 54, 55, 56, 57, 58] (by kernel_rfl) z z (yi_off (wanted_undef z z z z)) (ws_q (v := undef) 22 [23, 24, 25, 26, 27, 28, 29, 30, 31, 32, 33, 34, 35, 36, 37, 38, 39, 40, 41, 42, 43, 44, 45, 46, 47, 48, 49, 50, 51, 52, 53, 54, 55, 56, 57, 58] (by kernel_rfl) z z (yi_off (wanted_undef z z z z)) (ws_q (v := undef) 23 [24, 25, 26, 27, 28, 29, 30, 31, 32, 33, 34, 35, 36, 37, 38, 39, 40, 41, 42, 43, 44, 45, 46, 47, 48, 49, 50, 51, 52, 53, 54, 55, 56, 57, 58] (by kernel_rfl) z z (yi_off (wanted_undef z z z z)) (ws_q (v := undef) 24 [25, 26, 27, 28, 29, 30, 31, 32, 33, 34, 35, 36, 37, 38, 39, 40, 41, 42, 43, 44, 45, 46, 47, 48, 49, 50, 51, 52, 53, 54, 55, 56, 57, 58] (by kernel_rfl) z z (yi_off (wanted_undef z z z z)) (ws_q (v := undef) 25 [26, 27, 28, 29, 30, 31, 32, 33, 34, 35, 36, 37, 38, 39, 40, 41, 42, 43, 44, 45, 46, 47, 48, 49, 50, 51, 52, 53, 54, 55, 56, 57, 58] (by kernel_rfl) z z (yi_off (wanted_undef z z z z)) (ws_q (v := undef) 26 [27, 28, 29, 30, 31, 32, 33, 34, 35, 36, 37, 38, 39, 40, 41, 42, 43, 44, 45, 46, 47, 48, 49, 50, 51, 52, 53, 54, 55, 56, 57, 58] (by kernel_rfl) z z (yi_off (wanted_undef z z z z)) (ws_q (v := undef) 27 [28, 29, 30, 31, 32, 33, 34, 35, 36, 37, 38, 39, 40, 41, 42, 43, 44, 45, 46, 47, 48, 49, 50, 51, 52, 53, 54, 55, 56, 57, 58] (by kernel_rfl) z z (yi_off (wanted_undef z z z z)) (ws_q (v := undef) 28 [29, 30, 31, 32, 33, 34, 35, 36, 37, 38, 39, 40, 41, 42, 43, 44, 45, 46, 47, 48, 49, 50, 51, 52, 53, 54, 55, 56, 57, 58] (by kernel_rfl) z z (yi_off (wanted_undef z z z z)) (ws_q (v := undef) 29 [30, 31, 32, 33, 34, 35, 36, 37, 38, 39, 40, 41, 42, 43, 44, 45, 46, 47, 48, 49, 50, 51, 52, 53, 54, 55, 56, 57, 58] (by kernel_rfl) z z (yi_off (wanted_undef z z z z)) ?_))))))))))))
 refine ws_q (v := undef) 30 [31, 32, 33, 34, 35, 36, 37, 38, 39, 40, 41, 42, 43, 44, 45, 46, 47, 48, 49, 50, 51, 52, 53, 54, 55, 56, 57, 58] (by kernel_rfl) z z (yi_off (wanted_undef z z z z)) (ws_q (v := undef) 31 [32, 33, 34, 35, 36, 37, 38, 39, 40, 41, 42, 43, 44, 45, 46, 47, 48, 49, 50, 51, 52, 53, 54, 55, 56, 57, 58] (by kernel_rfl) z z (yi_off ((wanted_eq z z z (cvb hc573)).trans z)) (ws_q (v := undef) 32 [33, 34, 35, 36, 37, 38, 39, 40, 41, 42, 43, 44, 45, 46, 47, 48, 49, 50, 51, 52, 53, 54, 55, 56, 57, 58] (by kernel_rfl) z z (yi_off ((wanted_eq z z z (cvb hc573)).trans z)) (ws_q (v := undef) 33 [34, 35, 36, 37, 38, 39, 40, 41, 42, 43, 44, 45, 46, 47, 48, 49, 50, 51, 52, 53, 54, 55, 56, 57, 58] (by kernel_rfl) z z (yi_off (wanted_undef z z z z)) (ws_q (v := undef) 34 [35, 36, 37, 38, 39, 40, 41, 42, 43, 44, 45, 46, 47, 48, 49, 50, 51, 52, 53, 54, 55, 56, 57, 58] (by kernel_rfl) z z (yi_off (wanted_undef z z z z)) (ws_q (v := undef) 35 [36, 37, 38, 39, 40, 41, 42, 43, 44, 45, 46, 47, 48, 49, 50, 51, 52, 53, 54, 55, 56, 57, 58] (by kernel_rfl) z z (yi_off (wanted_undef z z z z)) (ws_q (v := undef) 36 [37, 38, 39, 40, 41, 42, 43, 44, 45, 46, 47, 48, 49, 50, 51, 52, 53, 54, 55, 56, 57, 58] (by kernel_rfl) z z (yi_off (wanted_undef z z z z)) (ws_q (v := undef) 37 [38, 39, 40, 41, 42, 43, 44, 45, 46, 47, 48, 49, 50, 51, 52, 53, 54, 55, 56, 57, 58] (by kernel_rfl) z z (yi_off (wanted_undef z z z z)) (ws_q (v := undef) 38 [39, 40, 41, 42, 43, 44, 45, 46, 47, 48, 49, 50, 51, 52, 53, 54, 55, 56, 57, 58] (by kernel_rfl) z z (yi_off (wanted_undef z z z z)) (ws_q (v := undef) 39 [40, 41, 42, 43, 44, 45, 46, 47, 48, 49, 50, 51, 52, 53, 54, 55, 56, 57, 58] (by kernel_rfl) z z (yi_off (wanted_undef z z z z)) (ws_q (v := undef) 40 [41, 42, 43, 44, 45, 46, 47, 48, 49, 50, 51, 52, 53, 54, 55, 56, 57, 58] (by kernel_rfl) z z (yi_off (wanted_undef z z z z)) (ws_q (v := undef) 41 [42, 43, 44, 45, 46, 47, 48, 49, 50, 51, 52, 53, 54, 55, 56, 57, 58] (by kernel_rfl) z z (yi_off (wanted_undef z z z z)) (ws_q (v := undef) 42 [43, 44, 45, 46, 47, 48, 49, 50, 51, 52, 53, 54, 55, 56, 57, 58] (by kernel_rfl) z z (yi_off (wanted_undef z z z z)) ?_))))))))))))
 refine ws_q (v := undef) 43 [44, 45, 46, 47, 48, 49, 50, 51, 52, 53, 54, 55, 56, 57, 58] (by kernel_rfl) z z (yi_off (wanted_undef z z z z)) (ws_q (v := undef) 44 [45, 46, 47, 48, 49, 50, 51, 52, 53, 54, 55, 56, 57, 58] (by kernel_rfl) z z (yi_off (wanted_undef z z z z)) (ws_q (v := undef) 45 [46, 47, 48, 49, 50, 51, 52, 53, 54, 55, 56, 57, 58] (by kernel_rfl) z z (yi_off (wanted_undef z z z z)) (ws_q (v := undef) 46 [47, 48, 49, 50, 51, 52, 53, 54, 55, 56, 57, 58] (by kernel_rfl) z z (yi_off (wanted_undef z z z z)) (ws_q (v := undef) 47 [48, 49, 50, 51, 52, 53, 54, 55, 56, 57, 58] (by kernel_rfl) z z (yi_off (wanted_undef z z z z)) (ws_q (v := undef) 48 [49, 50, 51, 52, 53, 54, 55, 56, 57, 58] (by kernel_rfl) z z (yi_off (wanted_undef z z z z)) (ws_q (v := undef) 49 [50, 51, 52, 53, 54, 55, 56, 57, 58] (by kernel_rfl) z z (yi_off (wanted_undef z z z z)) (ws_q (v := undef) 50 [51, 52, 53, 54, 55, 56, 57, 58] (by kernel_rfl) z z (yi_off (wanted_undef z z z z)) (ws_q (v := undef) 51 [52, 53, 54, 55, 56, 57, 58] (by kernel_rfl) z z (yi_off (wanted_undef z z z z)) (ws_q (v := undef) 52 [53, 54, 55, 56, 57, 58] (by kernel_rfl) z z (yi_off (wanted_undef z z z z)) (ws_q (v := undef) 53 [54, 55, 56, 57, 58] (by kernel_rfl) z z (yi_off (wanted_undef z z z z)) (ws_q (v := undef) 54 [55, 56, 57, 58] (by kernel_rfl) z z (yi_off (wanted_undef z z z z)) (ws_q (v := undef) 55 [56, 57, 58] (by kernel_rfl) z z (yi_off (wanted_undef z z z z)) ?_))))))))))))
 refine ws_q (v := undef) 56 [57, 58] (by kernel_rfl) z z (yi_off (wanted_undef z z z z)) (ws_q (v := undef) 57 [58] (by kernel_rfl) z z (yi_off ((wanted_eq z z z (cvb hc573)).trans z)) (wsr (.bool false) 58 z z z (by kernel_rfl) (fun w hst => x_pick_f hc573 z z) ?_))
 refine ws_nil ?_
 intro w hst
 refine tn ?_
 refine wp_iff z ?_
 refine wp_skip (blk_n (tn (wrl ?_)))
 refine wv (.int .i64 z540) z z z (wv (.int .i64 (i64.wrap (z540 + (1:Int)))) z z z (wv (.int .i64 (i64.wrap (z540 + (1:Int)))) z z z (wl_nil (tn ?_))))
 replace hst := hst.keep0
 obtain rfl := some_inj hm
 exact ⟨_, Nat.lt_succ_self _, z539, (i64.wrap (z540 + (1:Int))), _, hx547, (fu 0 r0_0 z (fu 1 (.float .f64 a1) z (fu 2 (.int .u64 a2) z (fu 7 (.int .i64 z539) z (fu 8 (.int .i64 (i64.wrap (z540 + (1:Int)))) z z))))), hst⟩
}
}
 {
 replace hm := bif_f hc566 hm
 refine ws_q (v := undef) 8 [9, 10, 11, 12, 13, 14, 15, 16, 17, 18, 19, 20, 21, 22, 23, 24, 25, 26, 27, 28, 29, 30, 31, 32, 33, 34, 35, 36, 37, 38, 39, 40, 41, 42, 43, 44, 45, 46, 47, 48, 49, 50, 51, 52, 53, 54, 55, 56, 57, 58] (by kernel_rfl) z z (yi_off ((wanted_eq z z z (cvb hc566)).trans z)) (ws_q (v := undef) 9 [10, 11, 12, 13, 14, 15, 16, 17, 18, 19, 20, 21, 22, 23, 24, 25, 26, 27, 28, 29, 30, 31, 32, 33, 34, 35, 36, 37, 38, 39, 40, 41, 42, 43, 44, 45, 46, 47, 48, 49, 50, 51, 52, 53, 54, 55, 56, 57, 58] (by kernel_rfl) z z (yi_off ((wanted_eq z z z (cvb hc566)).trans z)) (ws_q (v := undef) 10 [11, 12, 13, 14, 15, 16, 17, 18, 19, 20, 21, 22, 23, 24, 25, 26, 27, 28, 29, 30, 31, 32, 33, 34, 35, 36, 37, 38, 39, 40, 41, 42, 43, 44, 45, 46, 47, 48, 49, 50, 51, 52, 53, 54, 55, 56, 57, 58] (by kernel_rfl) z z (yi_off ((wanted_eq z z z (cvb hc566)).trans z)) (ws_q (v := undef) 11 [12, 13, 14, 15, 16, 17, 18, 19, 20, 21, 22, 23, 24, 25, 26, 27, 28, 29, 30, 31, 32, 33, 34, 35, 36, 37, 38, 39, 40, 41, 42, 43, 44, 45, 46, 47, 48, 49, 50, 51, 52, 53, 54, 55, 56, 57, 58] (by kernel_rfl) z z (yi_off ((wanted_eq z z z (cvb hc566)).trans z)) (ws_q (v := undef) 12 [13, 14, 15, 16, 17, 18, 19, 20, 21, 22, 23, 24, 25, 26, 27, 28, 29, 30, 31, 32, 33, 34, 35, 36, 37, 38, 39, 40, 41, 42, 43, 44, 45, 46, 47, 48, 49, 50, 51, 52, 53, 54, 55, 56, 57, 58] (by kernel_rfl) z z (yi_off ((wanted_eq z z z (cvb hc566)).trans z)) (ws_q (v := undef) 13 [14, 15, 16, 17, 18, 19, 20, 21, 22, 23, 24, 25, 26, 27, 28, 29, 30, 31, 32, 33, 34, 35, 36, 37, 38, 39, 40, 41, 42, 43, 44, 45, 46, 47, 48, 49, 50, 51, 52, 53, 54, 55, 56, 57, 58] (by kernel_rfl) z z (yi_off ((wanted_eq z z z (cvb hc566)).trans z)) (ws_q (v := undef) 14 [15, 16, 17, 18, 19, 20, 21, 22, 23, 24, 25, 26, 27, 28, 29, 30, 31, 32, 33, 34, 35, 36, 37, 38, 39, 40, 41, 42, 43, 44, 45, 46, 47, 48, 49, 50, 51, 52, 53, 54, 55, 56, 57, 58] (by kernel_rfl) z z (yi_off ((wanted_eq z z z (cvb hc566)).trans z)) (wsr (.bool false) 15 z z z (by kernel_rfl) (fun w hst => x_pick_f hc566 z z) (wsr (.bool false) 16 z z z (by kernel_rfl) (fun w hst => z) (ws_q (v := undef) 17 [18, 19, 20, 21, 22, 23, 24, 25, 26, 27, 28, 29, 30, 31, 32, 33, 34, 35, 36, 37, 38, 39, 40, 41, 42, 43, 44, 45, 46, 47, 48, 49, 50, 51, 52, 53, 54, 55, 56, 57, 58] (by kernel_rfl) z z (yi_off ((wanted_eq z z z z).trans z)) (ws_q (v := undef) 18 [19, 20, 21, 22, 23, 24, 25, 26, 27, 28, 29, 30, 31, 32, 33, 34, 35, 36, 37, 38, 39, 40, 41, 42, 43, 44, 45, 46, 47, 48, 49, 50, 51, 52, 53, 54, 55, 56, 57, 58] (by kernel_rfl) z z (yi_off ((wanted_eq z z z z).trans z)) (ws_q (v := undef) 19 [20, 21, 22, 23, 24, 25, 26, 27, 28, 29, 30, 31, 32, 33, 34, 35, 36, 37, 38, 39, 40, 41, 42, 43, 44, 45, 46, 47, 48, 49, 50, 51, 52, 53, 54, 55, 56, 57, 58] (by kernel_rfl) z z (yi_off ((wanted_eq z z z z).trans z)) (ws_q (v := undef) 20 [21, 22, 23, 24, 25, 26, 27, 28, 29, 30, 31, 32, 33, 34, 35, 36, 37, 38, 39, 40, 41, 42, 43, 44, 45, 46, 47, 48, 49, 50, 51, 52, 53, 54, 55, 56, 57, 58] (by kernel_rfl) z z (yi_off (wanted_undef z z z z)) ?_))))))))))))
 refine ws_q (v := undef) 21 [22, 23, 24, 25, 26, 27, 28, 29, 30, 31, 32, 33, 34, 35, 36, 37, 38, 39, 40, 41, 42, 43, 44, 45, 46, 47, 48, 49, 50, 51, 52, 53, 54, 55, 56, 57, 58] (by kernel_rfl) z z (yi_off (wanted_undef z z z z)) (ws_q (v := undef) 22 [23, 24, 25, 26, 27, 28, 29, 30, 31, 32, 33, 34, 35, 36, 37, 38, 39, 40, 41, 42, 43, 44, 45, 46, 47, 48, 49, 50, 51, 52, 53, 54, 55, 56, 57, 58] (by kernel_rfl) z z (yi_off (wanted_undef z z z z)) (ws_q (v := undef) 23 [24, 25, 26, 27, 28, 29, 30, 31, 32, 33, 34, 35, 36, 37, 38, 39, 40, 41, 42, 43, 44, 45, 46, 47, 48, 49, 50, 51, 52, 53, 54, 55, 56, 57, 58] (by kernel_rfl) z z (yi_off (wanted_undef z z z z)) (ws_q (v := undef) 24 [25, 26, 27, 28, 29, 30, 31, 32, 33, 34, 35, 36, 37, 38, 39, 40, 41, 42, 43, 44, 45, 46, 47, 48, 49, 50, 51, 52, 53, 54, 55, 56, 57, 58] (by kernel_rfl) z z (yi_off (wanted_undef z z z z)) (ws_q (v := undef) 25 [26, 27, 28, 29, 30, 31, 32, 33, 34, 35, 36, 37, 38, 39, 40, 41, 42, 43, 44, 45, 46, 47, 48, 49, 50, 51, 52, 53, 54, 55, 56, 57, 58] (by kernel_rfl) z z (yi_off (wanted_undef z z z z)) (ws_q (v := undef) 26 [27, 28, 29, 30, 31, 32, 33, 34, 35, 36, 37, 38, 39, 40, 41, 42, 43, 44, 45, 46, 47, 48, 49, 50, 51, 52, 53, 54, 55, 56, 57, 58] (by kernel_rfl) z z (yi_off (wanted_undef z z z z)) (ws_q (v := undef) 27 [28, 29, 30, 31, 32, 33, 34, 35, 36, 37, 38, 39, 40, 41, 42, 43, 44, 45, 46, 47, 48, 49, 50, 51, 52, 53, 54, 55, 56, 57, 58] (by kernel_rfl) z z (yi_off (wanted_undef z z z z)) (ws_q (v := undef) 28 [29, 30, 31, 32, 33, 34, 35, 36, 37, 38, 39, 40, 41, 42, 43, 44, 45, 46, 47, 48, 49, 50, 51, 52, 53, 54, 55, 56, 57, 58] (by kernel_rfl) z z (yi_off (wanted_undef z z z z)) (ws_q (v := undef) 29 [30, 31, 32, 33, 34, 35, 36, 37, 38, 39, 40, 41, 42, 43, 44, 45, 46, 47, 48, 49, 50, 51, 52, 53, 54, 55, 56, 57, 58] (by kernel_rfl) z z (yi_off (wanted_undef z z z z)) (ws_q (v := undef) 30 [31, 32, 33, 34, 35, 36, 37, 38, 39, 40, 41, 42, 43, 44, 45, 46, 47, 48, 49, 50, 51, 52, 53, 54, 55, 56, 57, 58] (by kernel_rfl) z z (yi_off (wanted_undef z z z z)) (ws_q (v := undef) 31 [32, 33, 34, 35, 36, 37, 38, 39, 40, 41, 42, 43, 44, 45, 46, 47, 48, 49, 50, 51, 52, 53, 54, 55, 56, 57, 58] (by kernel_rfl) z z (yi_off ((wanted_eq z z z z).trans z)) (ws_q (v := undef) 32 [33, 34, 35, 36, 37, 38, 39, 40, 41, 42, 43, 44, 45, 46, 47, 48, 49, 50, 51, 52, 53, 54, 55, 56, 57, 58] (by kernel_rfl) z z (yi_off ((wanted_eq z z z z).trans z)) (ws_q (v := undef) 33 [34, 35, 36, 37, 38, 39, 40, 41, 42, 43, 44, 45, 46, 47, 48, 49, 50, 51, 52, 53, 54, 55, 56, 57, 58] (by kernel_rfl) z z (yi_off (wanted_undef z z z z)) ?_))))))))))))
 refine ws_q (v := undef) 34 [35, 36, 37, 38, 39, 40, 41, 42, 43, 44, 45, 46, 47, 48, 49, 50, 51, 52, 53, 54, 55, 56, 57, 58] (by kernel_rfl) z z (yi_off (wanted_undef z z z z)) (ws_q (v := undef) 35 [36, 37, 38, 39, 40, 41, 42, 43, 44, 45, 46, 47, 48, 49, 50, 51, 52, 53, 54, 55, 56, 57, 58] (by kernel_rfl) z z (yi_off (wanted_undef z z z z)) (ws_q (v := undef) 36 [37, 38, 39, 40, 41, 42, 43, 44, 45, 46, 47, 48, 49, 50, 51, 52, 53, 54, 55, 56, 57, 58] (by kernel_rfl) z z (yi_off (wanted_undef z z z z)) (ws_q (v := undef) 37 [38, 39, 40, 41, 42, 43, 44, 45, 46, 47, 48, 49, 50, 51, 52, 53, 54, 55, 56, 57, 58] (by kernel_rfl) z z (yi_off (wanted_undef z z z z)) (ws_q (v := undef) 38 [39, 40, 41, 42, 43, 44, 45, 46, 47, 48, 49, 50, 51, 52, 53, 54, 55, 56, 57, 58] (by kernel_rfl) z z (yi_off (wanted_undef z z z z)) (ws_q (v := undef) 39 [40, 41, 42, 43, 44, 45, 46, 47, 48, 49, 50, 51, 52, 53, 54, 55, 56, 57, 58] (by kernel_rfl) z z (yi_off (wanted_undef z z z z)) (ws_q (v := undef) 40 [41, 42, 43, 44, 45, 46, 47, 48, 49, 50, 51, 52, 53, 54, 55, 56, 57, 58] (by kernel_rfl) z z (yi_off (wanted_undef z z z z)) (ws_q (v := undef) 41 [42, 43, 44, 45, 46, 47, 48, 49, 50, 51, 52, 53, 54, 55, 56, 57, 58] (by kernel_rfl) z z (yi_off (wanted_undef z z z z)) (ws_q (v := undef) 42 [43, 44, 45, 46, 47, 48, 49, 50, 51, 52, 53, 54, 55, 56, 57, 58] (by kernel_rfl) z z (yi_off (wanted_undef z z z z)) (ws_q (v := undef) 43 [44, 45, 46, 47, 48, 49, 50, 51, 52, 53, 54, 55, 56, 57, 58] (by kernel_rfl) z z (yi_off (wanted_undef z z z z)) (ws_q (v := undef) 44 [45, 46, 47, 48, 49, 50, 51, 52, 53, 54, 55, 56, 57, 58] (by kernel_rfl) z z (yi_off (wanted_undef z z z z)) (ws_q (v := undef) 45 [46, 47, 48, 49, 50, 51, 52, 53, 54, 55, 56, 57, 58] (by kernel_rfl) z z (yi_off (wanted_undef z z z z)) (ws_q (v := undef) 46 [47, 48, 49, 50, 51, 52, 53, 54, 55, 56, 57, 58] (by kernel_rfl) z z (yi_off (wanted_undef z z z z)) ?_))))))))))))
 refine ws_q (v := undef) 47 [48, 49, 50, 51, 52, 53, 54, 55, 56, 57, 58] (by kernel_rfl) z z (yi_off (wanted_undef z z z z)) (ws_q (v := undef) 48 [49, 50, 51, 52, 53, 54, 55, 56, 57, 58] (by kernel_rfl) z z (yi_off (wanted_undef z z z z)) (ws_q (v := undef) 49 [50, 51, 52, 53, 54, 55, 56, 57, 58] (by kernel_rfl) z z (yi_off (wanted_undef z z z z)) (ws_q (v := undef) 50 [51, 52, 53, 54, 55, 56, 57, 58] (by kernel_rfl) z z (yi_off (wanted_undef z z z z)) (ws_q (v := undef) 51 [52, 53, 54, 55, 56, 57, 58] (by kernel_rfl) z z (yi_off (wanted_undef z z z z)) (ws_q (v := undef) 52 [53, 54, 55, 56, 57, 58] (by kernel_rfl) z z (yi_off (wanted_undef z z z z)) (ws_q (v := undef) 53 [54, 55, 56, 57, 58] (by kernel_rfl) z z (yi_off (wanted_undef z z z z)) (ws_q (v := undef) 54 [55, 56, 57, 58] (by kernel_rfl) z z (yi_off (wanted_undef z z z z)) (ws_q (v := undef) 55 [56, 57, 58] (by kernel_rfl) z z (yi_off (wanted_undef z z z z)) (ws_q (v := undef) 56 [57, 58] (by kernel_rfl) z z (yi_off (wanted_undef z z z z)) (ws_q (v := undef) 57 [58] (by kernel_rfl) z z (yi_off ((wanted_eq z z z z).trans z)) (wsr (.bool false) 58 z z z (by kernel_rfl) (fun w hst => x_pick_f z z z) ?_)))))))))))
 refine ws_nil ?_
 intro w hst
 refine tn ?_
 refine wp_iff z ?_
 refine wp_skip (blk_n (tn (wrl ?_)))
 refine wv (.int .i64 z540) z z z (wv (.int .i64 (i64.wrap (z540 + (1:Int)))) z z z (wv (.int .i64 (i64.wrap (z540 + (1:Int)))) z z z (wl_nil (tn ?_))))
 replace hst := hst.keep0
 obtain rfl := some_inj hm
 exact ⟨_, Nat.lt_succ_self _, z539, (i64.wrap (z540 + (1:Int))), _, hx547, (fu 0 r0_0 z (fu 1 (.float .f64 a1) z (fu 2 (.int .u64 a2) z (fu 7 (.int .i64 z539) z (fu 8 (.int .i64 (i64.wrap (z540 + (1:Int)))) z z))))), hst⟩
}
}
 {
 replace hm := bif_f hc549 hm
 refine wp_iff (cvb hc549) ?_
 refine wp_exit (then_x (then_x ?_))
 replace hm := inr_up hm hx547
 refine blk_x (tn (wp_seq (wrl ?_)))
 refine wv (.int .i64 z539) z z z (wv (.int .i64 z539) z z z (wl_nil (tn (wp_ret ?_))))
 obtain rfl := some_inj hm
 refine post_ret (vs := [I6 z539]) results34 (rvs_cons (rv_tmp z) rvs_nil) ?_
 exact ⟨z, hst.keep0⟩
}
}

theorem ref11_Get_ref {w0 w : World} {I : HL} {R : SP} {a0 : (List ref11_Version)} {r0_0 : Value} {a1 : Nat} {a2 : Int} (f0_0 : Ro ty_ref11_Version I r0_0 a0) (hst : St w0 w I [] R) {r : (api_Got)} (hm : ref11_Get a0 a1 a2 = some r) :
  Calls prog 14 #[r0_0, F6 a1, U6 a2] w fun e w' => ∃ (I' : HL) (q0_0 : Value), e = .returned (.agg #[.bool r.Has, q0_0]) ∧ I.le I' ∧ Ro (tyInt .u8) I' q0_0 r.Val ∧ St w0 w' I' [] R := by {
 unfold ref11_Get at hm
 refine calls_start (args := [r0_0, F6 a1, U6 a2]) func14 z ntmps14 (Nat.le_of_ble_eq_true z) ?_
 have hI0 := HL.le.refl I
 refine wp_seq (wrl ?_)
 obtain ⟨b352, w353, ew354, eb355, hst⟩ := hst.box [.bool false, Zs] 34
 refine wl_run (v := Pt b352 0) (w' := w353) z z (x_al (by kernel_rfl) ew354 eb355) ?_
 refine wl_nil (tn (wp_seq (wrl (wv (r0_0) z z z (wv (.float .f64 a1) z z z (wv (.int .u64 a2) z z z ?_))))))
 obtain ⟨t357, ht358, hm⟩ := bind_some hm
 refine wc call34 [r0_0, F6 a1, U6 a2] z z z ?_
 refine (ref11_last_ref (f0_0.mono ro_rd) hst.to0 ht358).mono ?_
 rintro _ w359 ⟨rfl, hst⟩
 refine ⟨_, z, ?_⟩
 replace hst := hst.of0
 refine wv (.int .i64 t357) z z z (wl_nil (tn (wp_seq (wp_seq (wrl (wv (.int .i64 t357) z z z (wv (.bool (decide (t357 < (0:Int)))) z z z (wv (.bool (decide (t357 < (0:Int)))) z z z ?_))))))))
 refine bsplit (decide (t357 < (0:Int))) (fun hc362 => ?_) (fun hc362 => ?_)
 {
 replace hm := bif_t hc362 hm
 refine wo hc362 z z z z z z (wo hc362 z z z z z z (wo hc362 z z z z z z (wo hc362 z z z z z z (wo hc362 z z z z z z (wv (.bool true) z z (x_pick_t hc362 z z) (wl_nil (tn ?_)))))))
 refine wp_ift z ?_
 refine wp_seq (wrl (wv (.agg #[.bool false, Zs]) z z (by kernel_rfl) ?_))
 obtain ⟨w364, hr365, hst⟩ := hst.bx [.bool false, Zs] sizeOf34 z (oC z (oC z oN)) (by kernel_rfl)
 refine wl_unit z z (x_unit hr365) ?_
 refine wl_nil (tn (wp_ret (then_r ?_)))
 have f366 : Ro (tyInt .u8) I (.slice none 0 0) [] := ro_nil
 obtain rfl := some_inj hm
 refine post_ret (vs := [.agg #[.bool false, Zs]]) results14 (rvs_cons (rv_cell (cs := [.bool false, Zs]) z isAgg34 sizeOf34 (hst.bcs0 0 z)) rvs_nil) ?_
 exact ⟨_, Zs, z, hI0, f366, hst.keep0⟩
}
 {
 replace hm := bif_f hc362 hm
 refine wv (r0_0) ((wanted_eq z z z (cvb hc362)).trans z) z z (wv (.int .i64 t357) ((wanted_eq z z z (cvb hc362)).trans z) z z ?_)
 obtain ⟨x367, hx368, hm⟩ := bind_some hm
 obtain ⟨h369, h370, hi371⟩ := geto_some hx368
 refine wv (.pointer (some (eAddr r0_0 (t357.toNat * 5 + 0)))) ((wanted_eq z z z (cvb hc362)).trans z) z (x_index z z underlying26 sizeOf67 (ro_sliceV f0_0) h369 h370) (wv (.pointer (some (eAddr r0_0 (t357.toNat * 5 + 3)))) ((wanted_eq z z z (cvb hc362)).trans z) z (x_field_e z underlying67 z sizeOf4 z) ?_)
 obtain ⟨cs372, hr373, hc374⟩ := Ro.getF f0_0 hi371
 obtain ⟨v375, rfl, f376, -⟩ := hr373
 refine wv (.bool x367.Del) ((wanted_eq z z z (cvb hc362)).trans z) z (x_load z isAgg4 ((hc374 (HL.le.refl _) hst) 3 _ z)) (wv (.bool x367.Del) z z (x_pick_f hc362 z z) (wl_nil (tn ?_)))
 refine bsplit x367.Del (fun hc378 => ?_) (fun hc378 => ?_)
 {
 replace hm := bif_t hc378 hm
 refine wp_ift (cvb hc378) ?_
 refine wp_seq (wrl (wv (.agg #[.bool false, Zs]) z z (by kernel_rfl) ?_))
 obtain ⟨w380, hr381, hst⟩ := hst.bx [.bool false, Zs] sizeOf34 z (oC z (oC z oN)) (by kernel_rfl)
 refine wl_unit z z (x_unit hr381) ?_
 refine wl_nil (tn (wp_ret (then_r ?_)))
 have f382 : Ro (tyInt .u8) I (.slice none 0 0) [] := ro_nil
 obtain rfl := some_inj hm
 refine post_ret (vs := [.agg #[.bool false, Zs]]) results14 (rvs_cons (rv_cell (cs := [.bool false, Zs]) z isAgg34 sizeOf34 (hst.bcs0 0 z)) rvs_nil) ?_
 exact ⟨_, Zs, z, hI0, f382, hst.keep0⟩
}
 {
 replace hm := bif_f hc378 hm
 refine wp_iff (cvb hc378) ?_
 refine wp_skip (tn (wp_seq (wrl ?_)))
 refine wv (r0_0) z z z (wv (.int .i64 t357) z z z (wv (.pointer (some (eAddr r0_0 (t357.toNat * 5 + 0)))) z z (x_index z z underlying26 sizeOf67 (ro_sliceV f0_0) h369 h370) (wv (.pointer (some (eAddr r0_0 (t357.toNat * 5 + 4)))) z z (x_field_e z underlying67 z sizeOf32 z) (wv (v375) z z (x_load z isAgg32 ((hc374 (HL.le.refl _) hst) 4 _ z)) (wv (.agg #[.bool true, v375]) z z (by obtain ⟨_, _, hv_, _⟩ := (ro_sliceV f376); rw [hv_]; kernel_rfl) ?_)))))
 obtain ⟨w384, hr385, hst⟩ := hst.bx [.bool true, v375] sizeOf34 z (oC z (oC (one_of_sliceV (ro_sliceV f376)) oN)) (by kernel_rfl)
 refine wl_unit z z (x_unit hr385) ?_
 refine wl_nil (tn (wp_ret ?_))
 obtain rfl := some_inj hm
 refine post_ret (vs := [.agg #[.bool true, v375]]) results14 (rvs_cons (rv_cell (cs := [.bool true, v375]) z isAgg34 sizeOf34 (hst.bcs0 0 z)) rvs_nil) ?_
 exact ⟨_, v375, z, hI0, f376, hst.keep0⟩
}
}
}

theorem ref11_SameGots_ref {w0 w : World} {I : HL} {R : SP} {a0 : (List api_Got)} {r0_0 : Value} {a1 : (List api_Got)} {r1_0 : Value} (f0_0 : Rd ty_api_Got R I r0_0 a0) (f1_0 : Rd ty_api_Got R I r1_0 a1) (hst : St w0 w I [] R) {r : (Bool)} (hm : ref11_SameGots a0 a1 = some r) :
  Calls prog 12 #[r0_0, r1_0] w fun e w' => e = .returned (.bool r) ∧ St w0 w' I [] R := by {
 unfold ref11_SameGots at hm
 refine calls_start (args := [r0_0, r1_0]) func12 z ntmps12 (Nat.le_of_ble_eq_true z) ?_
 refine wp_seq (wrl (wv (.bool false) z z z (wl_nil (tn (wp_seq (wp_seq (wrl (wv (r0_0) z z z (wv (.int .i64 ((a0).length : Int)) z z (x_len z underlying36 (rd_sliceV f0_0)) (wv (r1_0) z z z (wv (.int .i64 ((a1).length : Int)) z z (x_len z underlying36 (rd_sliceV f1_0)) (wv (.bool (((a0).length : Int) != ((a1).length : Int))) z z z (wl_nil (tn ?_))))))))))))))
 refine bsplit (((a0).length : Int) != ((a1).length : Int)) (fun hc406 => ?_) (fun hc406 => ?_)
 {
 replace hm := bif_t hc406 hm
 refine wp_ift (cvb hc406) ?_
 refine wp_seq (wrl (wv (.bool false) z z z (wl_nil (tn (wp_ret (then_r ?_))))))
 obtain rfl := some_inj hm
 refine post_ret (vs := [.bool false]) results12 (rvs_cons (rv_tmp z) rvs_nil) ?_
 exact ⟨z, hst.keep0⟩
}
 {
 replace hm := bif_f hc406 hm
 refine wp_iff (cvb hc406) ?_
 refine wp_skip (tn (wp_seq (wp_seq (wrl ?_))))
 refine wv (.int .i64 (0:Int)) z z z (wl_nil (tn (wp_block ?_)))
 obtain ⟨n460, hm⟩ := loopO_some hm
 refine wp_loop_n (fun n a w => ∃ (z458 : Int) (σ459 : Nat → Value), loopN (ref11_SameGots_l0 a0 a1) n z458 = some r ∧ a = Fr 43 (upd (upd (upd σ459 0 (r0_0)) 1 (r1_0)) 5 (.int .i64 z458)) ∧ St w0 w I [] R) n460 ⟨(0:Int), _, hm, (fu 0 r0_0 z (fu 1 r1_0 z (fu 5 (.int .i64 (0:Int)) z z))), hst⟩ ?_
 rintro n466 _ w461 ⟨z458, σ459, hm, rfl, hst⟩
 obtain ⟨n463, y464, rfl, hm, hx465⟩ := loopN_some hm
 dsimp only [ref11_SameGots_l0] at hm
 refine wp_seq (wp_seq (wrl (wv (.int .i64 z458) z z z (wv (r0_0) z z z (wv (.int .i64 ((a0).length : Int)) z z (x_len z underlying36 (rd_sliceV f0_0)) (wv (.bool (decide (z458 < ((a0).length : Int)))) z z z (wl_nil (tn ?_))))))))
 refine bsplit (decide (z458 < ((a0).length : Int))) (fun hc467 => ?_) (fun hc467 => ?_)
 {
 replace hm := bif_t hc467 hm
 refine wp_ift (cvb hc467) ?_
 refine wp_skip (tn (wp_seq (wp_block (wp_seq ?_))))
 refine wq_regionS hst Try.mixed (by kernel_rfl) ?_
 refine wq_run (v := r0_0) z z (fun w hst => z) ?_
 refine wq_run (v := .int .i64 z458) z z (fun w hst => z) ?_
 obtain ⟨x468, hx469, hm⟩ := bind_some hm
 obtain ⟨h470, h471, hi472⟩ := geto_some hx469
 refine wq_run (v := .pointer (some (eAddr r0_0 (z458.toNat * 2 + 0)))) z z (fun w hst => x_index z z underlying36 sizeOf34 (rd_sliceV f0_0) h470 h471) ?_
 refine wq_run (v := .pointer (some (eAddr r0_0 (z458.toNat * 2 + 0)))) z z (fun w hst => x_field_e z underlying34 z sizeOf4 z) ?_
 obtain ⟨cs473, hr474, hc475⟩ := Rd.getF f0_0 hi472
 obtain ⟨v476, rfl, f477, -⟩ := hr474
 refine wq_run (v := .bool x468.Has) z z (fun w hst => x_load z isAgg4 ((hc475 (HL.le.refl _) hst) 0 _ z)) ?_
 refine wq_run (v := r1_0) z z (fun w hst => z) ?_
 refine wq_run (v := .int .i64 z458) z z (fun w hst => z) ?_
 obtain ⟨x479, hx480, hm⟩ := bind_some hm
 obtain ⟨h481, h482, hi483⟩ := geto_some hx480
 refine wq_run (v := .pointer (some (eAddr r1_0 (z458.toNat * 2 + 0)))) z z (fun w hst => x_index z z underlying36 sizeOf34 (rd_sliceV f1_0) h481 h482) ?_
 refine wq_run (v := .pointer (some (eAddr r1_0 (z458.toNat * 2 + 0)))) z z (fun w hst => x_field_e z underlying34 z sizeOf4 z) ?_
 obtain ⟨cs484, hr485, hc486⟩ := Rd.getF f1_0 hi483
 obtain ⟨v487, rfl, f488, -⟩ := hr485
 refine wq_run (v := .bool x479.Has) z z (fun w hst => x_load z isAgg4 ((hc486 (HL.le.refl _) hst) 0 _ z)) ?_
 refine wq_run (v := .bool (!(x468.Has == x479.Has))) z z (fun w hst => by kernel_rfl) ?_
 refine wq_run (v := .bool (!(x468.Has == x479.Has))) z z (fun w hst => z) ?_
 refine bsplit (!(x468.Has == x479.Has)) (fun hc490 => ?_) (fun hc490 => ?_)
 {
 replace hm := bif_t hc490 hm
 refine wq_off ((wanted_eq z z z (cvb hc490)).trans z) z ?_
 refine wq_off ((wanted_eq z z z (cvb hc490)).trans z) z ?_
 refine wq_off ((wanted_eq z z z (cvb hc490)).trans z) z ?_
 refine wq_off ((wanted_eq z z z (cvb hc490)).trans z) z ?_
 refine wq_off ((wanted_eq z z z (cvb hc490)).trans z) z ?_
 refine wq_off ((wanted_eq z z z (cvb hc490)).trans z) z ?_
 refine wq_off ((wanted_eq z z z (cvb hc490)).trans z) z ?_
 refine wq_off ((wanted_eq z z z (cvb hc490)).trans z) z ?_
 refine wq_off ((wanted_eq z z z (cvb hc490)).trans z) z ?_
 refine wq_off ((wanted_eq z z z (cvb hc490)).trans z) z ?_
 refine wq_off ((wanted_eq z z z (cvb hc490)).trans z) z ?_
 refine wq_off ((wanted_eq z z z (cvb hc490)).trans z) z ?_
 refine wq_off ((wanted_eq z z z (cvb hc490)).trans z) z ?_
 refine wq_run (v := .bool true) z z (fun w hst => x_pick_t hc490 z z) ?_
 refine wq_nil ?_
 intro w hst
 refine tn ?_
 refine wp_ift z ?_
 refine wp_seq (wrl (wv (.bool false) z z z (wl_nil (tn (wp_ret (blk_r (then_r (then_r ?_))))))))
 replace hm := inr_up hm hx465
 refine blk_r (then_r ?_)
 obtain rfl := some_inj hm
 refine post_ret (vs := [.bool false]) results12 (rvs_cons (rv_tmp z) rvs_nil) ?_
 exact ⟨z, hst.keep0⟩
}
 {
 replace hm := bif_f hc490 hm
 refine wq_run (v := r0_0) ((wanted_eq z z z (cvb hc490)).trans z) z (fun w hst => z) ?_
 refine wq_run (v := .int .i64 z458) ((wanted_eq z z z (cvb hc490)).trans z) z (fun w hst => z) ?_
 refine wq_run (v := .pointer (some (eAddr r0_0 (z458.toNat * 2 + 0)))) ((wanted_eq z z z (cvb hc490)).trans z) z (fun w hst => x_index z z underlying36 sizeOf34 (rd_sliceV f0_0) h470 h471) ?_
 refine wq_run (v := .pointer (some (eAddr r0_0 (z458.toNat * 2 + 1)))) ((wanted_eq z z z (cvb hc490)).trans z) z (fun w hst => x_field_e z underlying34 z sizeOf32 z) ?_
 refine wq_run (v := v476) ((wanted_eq z z z (cvb hc490)).trans z) z (fun w hst => x_load z isAgg32 ((hc475 (HL.le.refl _) hst) 1 _ z)) ?_
 refine wq_run (v := .string (toStr x468.Val)) ((wanted_eq z z z (cvb hc490)).trans z) z (fun w hst => x_tostr underlying32 underlying9 underlying5 z (Src.of_rd hst f477 flat_int)) ?_
 refine wq_run (v := r1_0) ((wanted_eq z z z (cvb hc490)).trans z) z (fun w hst => z) ?_
 refine wq_run (v := .int .i64 z458) ((wanted_eq z z z (cvb hc490)).trans z) z (fun w hst => z) ?_
 refine wq_run (v := .pointer (some (eAddr r1_0 (z458.toNat * 2 + 0)))) ((wanted_eq z z z (cvb hc490)).trans z) z (fun w hst => x_index z z underlying36 sizeOf34 (rd_sliceV f1_0) h481 h482) ?_
 refine wq_run (v := .pointer (some (eAddr r1_0 (z458.toNat * 2 + 1)))) ((wanted_eq z z z (cvb hc490)).trans z) z (fun w hst => x_field_e z underlying34 z sizeOf32 z) ?_
 refine wq_run (v := v487) ((wanted_eq z z z (cvb hc490)).trans z) z (fun w hst => x_load z isAgg32 ((hc486 (HL.le.refl _) hst) 1 _ z)) ?_
 refine wq_run (v := .string (toStr x479.Val)) ((wanted_eq z z z (cvb hc490)).trans z) z (fun w hst => x_tostr underlying32 underlying9 underlying5 z (Src.of_rd hst f488 flat_int)) ?_
 refine wq_run (v := .bool (!(sEq (toStr x468.Val) (toStr x479.Val)))) ((wanted_eq z z z (cvb hc490)).trans z) z (fun w hst => by kernel_rfl) ?_
 refine wq_run (v := .bool (!(sEq (toStr x468.Val) (toStr x479.Val)))) z z (fun w hst => x_pick_f hc490 z z) ?_
 refine wq_nil ?_
 intro w hst
 refine tn ?_
 refine bsplit (!(sEq (toStr x468.Val) (toStr x479.Val))) (fun hc491 => ?_) (fun hc491 => ?_)
 {
 replace hm := bif_t hc491 hm
 refine wp_ift (cvb hc491) ?_
 refine wp_seq (wrl (wv (.bool false) z z z (wl_nil (tn (wp_ret (blk_r (then_r (then_r ?_))))))))
 replace hm := inr_up hm hx465
 refine blk_r (then_r ?_)
 obtain rfl := some_inj hm
 refine post_ret (vs := [.bool false]) results12 (rvs_cons (rv_tmp z) rvs_nil) ?_
 exact ⟨z, hst.keep0⟩
}
 {
 replace hm := bif_f hc491 hm
 refine wp_iff (cvb hc491) ?_
 refine wp_skip (blk_n (tn (wrl ?_)))
 refine wv (.int .i64 z458) z z z (wv (.int .i64 (i64.wrap (z458 + (1:Int)))) z z z (wv (.int .i64 (i64.wrap (z458 + (1:Int)))) z z z (wl_nil (tn ?_))))
 replace hst := hst.keep0
 obtain rfl := some_inj hm
 exact ⟨_, Nat.lt_succ_self _, (i64.wrap (z458 + (1:Int))), _, hx465, (fu 0 r0_0 z (fu 1 r1_0 z (fu 5 (.int .i64 (i64.wrap (z458 + (1:Int)))) z z))), hst⟩
}
}
}
 {
 replace hm := bif_f hc467 hm
 refine wp_iff (cvb hc467) ?_
 refine wp_exit (then_x (then_x ?_))
 replace hm := inr_up hm hx465
 refine blk_x (tn (wp_seq (wrl ?_)))
 refine wv (.bool true) z z z (wl_nil (tn (wp_ret ?_)))
 obtain rfl := some_inj hm
 refine post_ret (vs := [.bool true]) results12 (rvs_cons (rv_tmp z) rvs_nil) ?_
 exact ⟨z, hst.keep0⟩
}
}
}

theorem slices_Clone_mvcc_Version_mvcc_Version_ref {w0 w : World} {I : HL} {R : SP} {a0 : (List mvcc_Version)} {r0_0 : Value} (f0_0 : RdO ty_mvcc_Version R I r0_0 a0) (hst : St w0 w I [] R) {r : (List mvcc_Version)} (hm : slices_Clone_mvcc_Version_mvcc_Version a0 = some r) :
  Calls prog 40 #[r0_0] w fun e w' => ∃ (q0_0 : Value), e = .returned (q0_0) ∧ St w0 w' I [ownS ty_mvcc_Version q0_0 r] R := by {
 unfold slices_Clone_mvcc_Version_mvcc_Version at hm
 obtain ⟨hg, hm⟩ := gd_some hm
 obtain rfl := some_inj hm
 have hsv := rdo_sliceV f0_0
 refine calls_start (args := [r0_0]) func40 z ntmps40 (Nat.le_of_ble_eq_true z) ?_
 refine wp_seq (wrl (wv ((.slice none 0 0)) z z z (wl_nil (tn (wp_seq (wp_seq (wrl (wv (r0_0) z z z (wv (.bool (isNil r0_0)) z z (x_slnil z hsv z underlying53) (wl_nil (tn ?_)))))))))))
 refine bsplit (isNil r0_0) (fun hc700 => ?_) (fun hc700 => ?_)
 {
 refine wp_ift (cvb hc700) ?_
 refine wp_seq (wrl (wv ((.slice none 0 0)) z z z (wl_nil (tn (wp_ret (then_r ?_))))))
 refine post_ret (vs := [Zs]) results40 (rvs_cons (rv_tmp z) rvs_nil) ?_
 obtain rfl := List.eq_nil_of_length_eq_zero (isNil_len hsv hc700)
 exact ⟨_, z, (hst.own_nil ty_mvcc_Version).keep1⟩
}
 {
 refine wp_iff (cvb hc700) ?_
 refine wp_skip (tn (wp_seq (wrl ?_)))
 obtain ⟨b, w1, ew, eb, hst⟩ := hst.lits (E := ty_mvcc_Version) (xs := []) [] 52 0 z Reps.nil
 refine wl_run (v := (.slice (some ⟨b, 0, none⟩) 0 0)) (w' := w1) z z (x_als (by kernel_rfl) ew eb) ?_
 refine wv (r0_0) z z z ?_
 obtain ⟨v2, w2, hr, hst⟩ := run_append elem_53 underlying53 hst (Src.of_rdo hst f0_0) (room_of hg z) 53
 refine wl_run (v := v2) (w' := w2) z z (x_append z z hr) ?_
 refine wv (v2) z z z (wl_nil (tn (wp_ret ?_)))
 refine post_ret (vs := [v2]) results40 (rvs_cons (rv_tmp z) rvs_nil) ?_
 rw [List.nil_append] at hst
 exact ⟨_, z, hst.keep1⟩
}
}

theorem mvcc_Store_Versions_ref {w0 w : World} {I : HL} {R : SP} {a0 : (Option mvcc_Store)} {p0 : Value} {a1 : Nat}  (hst : St w0 w I [objO at_mvcc_Store p0 a0] R) {r : ((List mvcc_Version))} (hm : mvcc_Store_Versions a0 a1 = some r) :
  Calls prog 23 #[p0, F6 a1] w fun e w' => ∃ (q0_0 : Value), e = .returned (q0_0) ∧ St w0 w' I [ownS ty_mvcc_Version q0_0 r, objO at_mvcc_Store p0 a0] R := by {
 rcases a0 with _ | o0
 {
 obtain ⟨rfl, hst'⟩ := objO_none hst
 clear hst
 have hst := hst'
 clear hst'
 dsimp only [mvcc_Store_Versions] at hm
 refine calls_start (args := [.pointer none, F6 a1]) func23 z ntmps23 (Nat.le_of_ble_eq_true z) ?_
 refine wp_seq (wrl (wv ((.slice none 0 0)) z z z (wl_nil (tn (wp_seq (wrl (wv (.pointer none) z z z (wv (.float .f64 a1) z z z ?_))))))))
 obtain ⟨t711, ht712, hm⟩ := bind_some hm
 refine wc call32 [F6 a1] z z z ?_
 refine (number_Rank_ref hst.to0 ht712).mono ?_
 rintro _ w713 ⟨rfl, hst⟩
 refine ⟨_, z, ?_⟩
 replace hst := hst.of0.objO_nil at_mvcc_Store
 obtain ⟨t717, ht718, hm⟩ := bind_some hm
 refine wc call31 [.pointer none, U6 t711] z z z ?_
 refine (mvcc_Store_find_ref hst.to1 ht718).mono ?_
 rintro _ w719 ⟨rfl, hst⟩
 refine ⟨_, z, ?_⟩
 replace hst := hst.of1
 refine wv (.tuple #[I6 t717.1, .bool t717.2]) z z z (wv (.int .i64 t717.1) z z z (wv (.bool t717.2) z z z (wv (.int .i64 t717.1) z z z (wv (.bool t717.2) z z z (wl_nil (tn (wp_seq (wp_seq (wrl (wv (.bool t717.2) z z z (wv (.bool (!t717.2)) z z z (wl_nil (tn ?_)))))))))))))
 refine bsplit (!t717.2) (fun hc722 => ?_) (fun hc722 => ?_)
 {
 replace hm := bif_t hc722 hm
 refine wp_ift (cvb hc722) ?_
 refine wp_seq (wrl (wv ((.slice none 0 0)) z z z (wl_nil (tn (wp_ret (then_r ?_))))))
 replace hst := hst.own_nil ty_mvcc_Version
 replace hst := hst.objO_nil at_mvcc_Store
 obtain rfl := some_inj hm
 refine post_ret (vs := [Zs]) results23 (rvs_cons (rv_tmp z) rvs_nil) ?_
 replace hst := hst.pull1
 exact ⟨(.slice none 0 0), z, hst.keep2⟩
}
 {
 replace hm := bif_f hc722 hm
 refine wp_iff (cvb hc722) ?_
 refine wp_skip (tn (wp_seq (wrl ?_)))
 refine wv (.pointer none) z z z ?_
 cases hm
}
}
 {
 replace hst := objO_get hst
 dsimp only [mvcc_Store_Versions] at hm
 refine calls_start (args := [p0, F6 a1]) func23 z ntmps23 (Nat.le_of_ble_eq_true z) ?_
 refine wp_seq (wrl (wv ((.slice none 0 0)) z z z (wl_nil (tn (wp_seq (wrl (wv (p0) z z z (wv (.float .f64 a1) z z z ?_))))))))
 obtain ⟨t725, ht726, hm⟩ := bind_some hm
 refine wc call32 [F6 a1] z z z ?_
 refine (number_Rank_ref hst.to0 ht726).mono ?_
 rintro _ w727 ⟨rfl, hst⟩
 refine ⟨_, z, ?_⟩
 replace hst := hst.of0
 replace hst := objO_some hst
 obtain ⟨t730, ht731, hm⟩ := bind_some hm
 refine wc call31 [p0, U6 t725] z z z ?_
 refine (mvcc_Store_find_ref hst.to1 ht731).mono ?_
 rintro _ w732 ⟨rfl, hst⟩
 refine ⟨_, z, ?_⟩
 replace hst := hst.of1
 replace hst := objO_get hst
 refine wv (.tuple #[I6 t730.1, .bool t730.2]) z z z (wv (.int .i64 t730.1) z z z (wv (.bool t730.2) z z z (wv (.int .i64 t730.1) z z z (wv (.bool t730.2) z z z (wl_nil (tn (wp_seq (wp_seq (wrl (wv (.bool t730.2) z z z (wv (.bool (!t730.2)) z z z (wl_nil (tn ?_)))))))))))))
 refine bsplit (!t730.2) (fun hc735 => ?_) (fun hc735 => ?_)
 {
 replace hm := bif_t hc735 hm
 refine wp_ift (cvb hc735) ?_
 refine wp_seq (wrl (wv ((.slice none 0 0)) z z z (wl_nil (tn (wp_ret (then_r ?_))))))
 replace hst := hst.own_nil ty_mvcc_Version
 replace hst := hst.pull1
 replace hst := objO_some hst
 obtain rfl := some_inj hm
 refine post_ret (vs := [Zs]) results23 (rvs_cons (rv_tmp z) rvs_nil) ?_
 replace hst := hst.pull1
 exact ⟨(.slice none 0 0), z, hst.keep2⟩
}
 {
 replace hm := bif_f hc735 hm
 refine wp_iff (cvb hc735) ?_
 refine wp_skip (tn (wp_seq (wrl ?_)))
 refine wv (p0) z z z ?_
 obtain ⟨b737, v738, rfl, hst'⟩ := at_mvcc_Store_open hst
 clear hst
 have hst := hst'
 clear hst'
 refine wv (Pt b737 0) z z z (wv (Pt b737 0) z z (x_field z underlying79 z sizeOf77 z) (wv (v738) z z (x_load z isAgg77 (hst.bc0 z)) (wv (.int .i64 t730.1) z z z ?_)))
 obtain ⟨x740, hx741, hm⟩ := bind_some hm
 obtain ⟨h742, h743, hi744⟩ := geto_some hx741
 refine wv (.pointer (some (eAddr v738 (t730.1.toNat * 2 + 0)))) z z (x_index z z underlying77 sizeOf76 (hst.nestsv 1 z) h742 h743) (wv (.pointer (some (eAddr v738 (t730.1.toNat * 2 + 1)))) z z (x_field_e z underlying76 z sizeOf53 z) ?_)
 replace hst := hst.pull1
 obtain ⟨v745, hst⟩ := hst.nest_focus hi744
 refine wv (v745) z z (x_load z isAgg53 ((hst.holeall (N := nest_mvcc_row) (i := t730.1.toNat) 1 z hi744) 1 _ z)) ?_
 obtain ⟨css747, hq748, hst⟩ := hst.own_open
 obtain ⟨t749, ht750, hm⟩ := bind_some hm
 refine wc call40 [v745] z z z ?_
 refine (slices_Clone_mvcc_Version_mvcc_Version_ref (hst.rdorow 0 z hq748) hst.to0 ht750).mono ?_
 rintro _ w751 ⟨v754, rfl, hst⟩
 refine ⟨_, z, ?_⟩
 replace hst := hst.of1.pull1.own_close hq748
 refine wv (v754) z z z (wl_nil (tn (wp_ret ?_)))
 replace hst := hst.pull2.pull1
 replace hst := St.nest_close0 (N := nest_mvcc_row) hst hi744
 replace hst := hst.pull2
 replace hst := at_mvcc_Store_close (pv := Pt b737 0) (x := o0) hst z
 replace hst := objO_some hst
 obtain rfl := some_inj hm
 refine post_ret (vs := [v754]) results23 (rvs_cons (rv_tmp z) rvs_nil) ?_
 replace hst := hst.pull1
 exact ⟨v754, z, hst.keep2⟩
}
}
}

theorem law11_told_ref {w0 w : World} {I : HL} {R : SP} {a0 : (Option mvcc_Store)} {p0 : Value} {a1 : (List ref11_Version)} {r1_0 : Value} (f1_0 : Ro ty_ref11_Version I r1_0 a1) (hst : St w0 w I [objO at_mvcc_Store p0 a0] R) {r : (Bool)} (hm : law11_told a0 a1 = some r) :
  Calls prog 11 #[p0, r1_0] w fun e w' => ∃ (I' : HL), e = .returned (.bool r) ∧ I.le I' ∧ St w0 w' I' [objO at_mvcc_Store p0 a0] R := by {
 unfold law11_told at hm
 refine calls_start (args := [p0, r1_0]) func11 z ntmps11 (Nat.le_of_ble_eq_true z) ?_
 have hI0 := HL.le.refl I
 refine wp_seq (wrl (wv (.bool false) z z z (wl_nil (tn (wp_seq (wrl (wv (r1_0) z z z ?_)))))))
 obtain ⟨t1893, ht1894, hm⟩ := bind_some hm
 refine wc call18 [r1_0] z z z ?_
 refine (ref11_Ats_ref (f1_0.mono ro_rd) hst.to0 ht1894).mono ?_
 rintro _ w1895 ⟨I1896, v1898, rfl, hI1897, hst⟩
 refine ⟨_, z, ?_⟩
 replace hst := hst.of1
 replace f1_0 := f1_0.mono (ro_le hI1897)
 replace hI0 := hI0.trans hI1897
 refine wv (v1898) z z z (wl_nil (tn (wp_seq (wp_seq (wrl (wv (p0) z z z ?_))))))
 replace hst := hst.pull1
 obtain ⟨t1900, ht1901, hm⟩ := bind_some hm
 refine wc call24 [p0] z z z ?_
 refine (mvcc_Store_Len_ref hst.to1 ht1901).mono ?_
 rintro _ w1902 ⟨rfl, hst⟩
 refine ⟨_, z, ?_⟩
 replace hst := hst.of1
 refine wv (v1898) z z z (wv (.int .i64 ((t1893).length : Int)) z z (x_len z underlying44 hst.sv1) (wv (.bool (t1900 != ((t1893).length : Int))) z z z (wv (.bool (t1900 != ((t1893).length : Int))) z z z ?_)))
 refine bsplit (t1900 != ((t1893).length : Int)) (fun hc1905 => ?_) (fun hc1905 => ?_)
 {
 replace hm := bif_t hc1905 hm
 refine wo hc1905 z z z z z z (wo hc1905 z z z z z z (wo hc1905 z z z z z z (wo hc1905 z z z z z z (wo hc1905 z z z z z z (wv (.bool true) z z (x_pick_t hc1905 z z) (wl_nil (tn ?_)))))))
 refine wp_ift z ?_
 refine wp_seq (wrl (wv (.bool false) z z z (wl_nil (tn (wp_ret (then_r ?_))))))
 obtain rfl := some_inj hm
 refine post_ret (vs := [.bool false]) results11 (rvs_cons (rv_tmp z) rvs_nil) ?_
 exact ⟨_, z, hI0, hst.keep1⟩
}
 {
 replace hm := bif_f hc1905 hm
 refine wv (p0) ((wanted_eq z z z (cvb hc1905)).trans z) z z ?_
 obtain ⟨t1906, ht1907, hm⟩ := bind_some hm
 refine wl_call ((wanted_eq z z z (cvb hc1905)).trans z) z (x_call call25 z (vs := [p0]) z) ?_
 refine (mvcc_Store_Size_ref hst.to1 ht1907).mono ?_
 rintro _ w1908 ⟨rfl, hst⟩
 refine ⟨_, z, ?_⟩
 replace hst := hst.of1
 refine wv (r1_0) ((wanted_eq z z z (cvb hc1905)).trans z) z z (wv (.int .i64 ((a1).length : Int)) ((wanted_eq z z z (cvb hc1905)).trans z) z (x_len z underlying26 (ro_sliceV f1_0)) (wv (.bool (t1906 != ((a1).length : Int))) ((wanted_eq z z z (cvb hc1905)).trans z) z z (wv (.bool (t1906 != ((a1).length : Int))) z z (x_pick_f hc1905 z z) (wl_nil (tn ?_)))))
 refine bsplit (t1906 != ((a1).length : Int)) (fun hc1911 => ?_) (fun hc1911 => ?_)
 {
 replace hm := bif_t hc1911 hm
 refine wp_ift (cvb hc1911) ?_
 refine wp_seq (wrl (wv (.bool false) z z z (wl_nil (tn (wp_ret (then_r ?_))))))
 obtain rfl := some_inj hm
 refine post_ret (vs := [.bool false]) results11 (rvs_cons (rv_tmp z) rvs_nil) ?_
 exact ⟨_, z, hI0, hst.keep1⟩
}
 {
 replace hm := bif_f hc1911 hm
 refine wp_iff (cvb hc1911) ?_
 refine wp_skip (tn (wp_seq (wp_seq (wrl ?_))))
 refine wv (.int .i64 (0:Int)) z z z (wl_nil (tn (wp_block ?_)))
 obtain ⟨n2960, hm⟩ := loopO_some hm
 refine wp_loop_n (fun n a w => ∃ (I2958 : HL) (z2957 : Int) (σ2959 : Nat → Value), loopN (law11_told_l0 t1893 a0 a1) n z2957 = some r ∧ a = Fr 128 (upd (upd (upd (upd σ2959 0 (p0)) 1 (r1_0)) 5 (v1898)) 6 (.int .i64 z2957)) ∧ I1896.le I2958 ∧ St w0 w I2958 [objO at_mvcc_Store p0 a0, ownS tyF64 v1898 t1893] R) n2960 ⟨_, (0:Int), _, hm, (fu 0 p0 z (fu 1 r1_0 z (fu 5 v1898 z (fu 6 (.int .i64 (0:Int)) z z)))), (HL.le.refl _), hst⟩ ?_
 rintro n2966 _ w2961 ⟨I2958, z2957, σ2959, hm, rfl, hL2962, hst⟩
 obtain ⟨n2963, y2964, rfl, hm, hx2965⟩ := loopN_some hm
 dsimp only [law11_told_l0] at hm
 replace f1_0 := f1_0.mono (ro_le hL2962)
 replace hI0 := hI0.trans hL2962
 refine wp_seq (wp_seq (wrl (wv (.int .i64 z2957) z z z (wv (v1898) z z z (wv (.int .i64 ((t1893).length : Int)) z z (x_len z underlying44 hst.sv1) (wv (.bool (decide (z2957 < ((t1893).length : Int)))) z z z (wl_nil (tn ?_))))))))
 refine bsplit (decide (z2957 < ((t1893).length : Int))) (fun hc2967 => ?_) (fun hc2967 => ?_)
 {
 replace hm := bif_t hc2967 hm
 refine wp_ift (cvb hc2967) ?_
 refine wp_skip (tn (wp_seq (wp_block ?_)))
 obtain ⟨y3306, hm, hx3307⟩ := joinO_some hm
 refine wp_cut (fun a w => ∃ (I3303 : HL) (σ3304 : Nat → Value), (law11_told_j1 t1893 z2957 a0 a1) () = some y2964 ∧ a = Fr 128 (upd (upd (upd (upd σ3304 0 (p0)) 1 (r1_0)) 5 (v1898)) 6 (.int .i64 z2957)) ∧ I2958.le I3303 ∧ St w0 w I3303 [objO at_mvcc_Store p0 a0, ownS tyF64 v1898 t1893] R) ?_ ?_
 {
 have hL3308 := HL.le.refl I2958
 refine wp_seq (wrl (wv (.int .u64 (0:Int)) z z z (wl_nil (tn (wp_block ?_)))))
 obtain ⟨n3188, hm⟩ := loopO_some hm
 refine wp_loop_n (fun n a w => ∃ (I3186 : HL) (z3185 : Int) (σ3187 : Nat → Value), loopN (law11_told_l2 t1893 z2957 a0 a1) n z3185 = some y3306 ∧ a = Fr 128 (upd (upd (upd (upd (upd σ3187 0 (p0)) 1 (r1_0)) 5 (v1898)) 6 (.int .i64 z2957)) 7 (.int .u64 z3185)) ∧ I2958.le I3186 ∧ St w0 w I3186 [objO at_mvcc_Store p0 a0, ownS tyF64 v1898 t1893] R) n3188 ⟨_, (0:Int), _, hm, (fu 0 p0 z (fu 1 r1_0 z (fu 5 v1898 z (fu 6 (.int .i64 z2957) z (fu 7 (.int .u64 (0:Int)) z z))))), (HL.le.refl _), hst⟩ ?_
 rintro n3194 _ w3189 ⟨I3186, z3185, σ3187, hm, rfl, hL3190, hst⟩
 obtain ⟨n3191, y3192, rfl, hm, hx3193⟩ := loopN_some hm
 dsimp only [law11_told_l2] at hm
 replace f1_0 := f1_0.mono (ro_le hL3190)
 replace hI0 := hI0.trans hL3190
 replace hL2962 := hL2962.trans hL3190
 replace hL3308 := hL3308.trans hL3190
 refine wp_seq (wp_seq (wrl (wv (.int .u64 z3185) z z z (wv (.bool (decide (z3185 < (9:Int)))) z z z (wl_nil (tn ?_))))))
 refine bsplit (decide (z3185 < (9:Int))) (fun hc3195 => ?_) (fun hc3195 => ?_)
 {
 replace hm := bif_t hc3195 hm
 refine wp_ift (cvb hc3195) ?_
 refine wp_skip (tn (wp_seq (wp_block (wp_seq ?_))))
 obtain ⟨y3298, hm, hx3299⟩ := bind_some hm
 refine wp_mid (fun a w => ∃ (I3295 : HL) (z3294 : Bool) (σ3296 : Nat → Value), (law11_told_j3 z3185) z3294 = some y3192 ∧ a = Fr 128 (upd (upd (upd (upd (upd (upd σ3296 0 (p0)) 1 (r1_0)) 5 (v1898)) 6 (.int .i64 z2957)) 7 (.int .u64 z3185)) 53 (.bool z3294)) ∧ I3186.le I3295 ∧ St w0 w I3295 [objO at_mvcc_Store p0 a0, ownS tyF64 v1898 t1893] R) ?_ ?_
 {
 have hL3300 := HL.le.refl I3186
 refine wp_region_St hst 18 [0, 1, 2, 3, 4, 5, 6, 7, 8, 9, 10, 11, 12, 13, 14, 15, 16, 17] [0, 0, 0, 6, 14, 0, 63, 127, 0, 0, 0, 1536, 3584, 0, 16255, 32639, 65535, 131071] [] z (by kernel_rfl) (by kernel_rfl) Try.mixed (by kernel_rfl) ?_
 refine wsr (p0) 0 z z z (by kernel_rfl) (fun w hst => z) (wsr (v1898) 1 z z z (by kernel_rfl) (fun w hst => z) (wsr (.int .i64 z2957) 2 z z z (by kernel_rfl) (fun w hst => z) ?_))
 obtain ⟨x3196, hx3197, hm⟩ := bind_some hm
 obtain ⟨h3198, h3199, hi3200⟩ := geto_some hx3197
 refine wsr (.pointer (some (eAddr v1898 (z2957.toNat * 1 + 0)))) 3 z z z (by kernel_rfl) (fun w hst => x_index z z underlying44 sizeOf23 hst.sv1 h3198 h3199) (wsr (.float .f64 x3196) 4 z z z (by kernel_rfl) (fun w hst => x_load z isAgg23 (hst.ol1 hi3200 (by rintro _ rfl; rfl))) (wsr (.int .u64 z3185) 5 z z z (by kernel_rfl) (fun w hst => z) (wsr (r1_0) 8 z z z (by kernel_rfl) (fun w hst => z) (wsr (v1898) 9 z z z (by kernel_rfl) (fun w hst => z) (wsr (.int .i64 z2957) 10 z z z (by kernel_rfl) (fun w hst => z) (wsr (.pointer (some (eAddr v1898 (z2957.toNat * 1 + 0)))) 11 z z z (by kernel_rfl) (fun w hst => x_index z z underlying44 sizeOf23 hst.sv1 h3198 h3199) (wsr (.float .f64 x3196) 12 z z z (by kernel_rfl) (fun w hst => x_load z isAgg23 (hst.ol1 hi3200 (by rintro _ rfl; rfl))) (wsr (.int .u64 z3185) 13 z z z (by kernel_rfl) (fun w hst => z) ?_))))))))
 refine ws_e1 6 (by kernel_rfl) ?_
 refine nxe [7, 14, 15, 16, 17] (by kernel_rfl) z z ?_
 clear hst
 intro w hst
 obtain ⟨t3201, ht3202, hm⟩ := bind_some hm
 refine wec call13 [p0, F6 x3196, U6 z3185] z z ?_
 refine (mvcc_Store_Get_ref hst.to1 ht3202).mono ?_
 rintro _ w3203 ⟨v3206, rfl, hst⟩
 refine ⟨_, z, ?_⟩
 replace hst := hst.of2
 refine ws_next (pend' := [(13, U6 z3185), (12, F6 x3196), (11, .pointer (some (eAddr v1898 (z2957.toNat * 1 + 0)))), (10, I6 z2957), (9, v1898), (8, r1_0)]) hst (by kernel_rfl) (pkr z z (fun w hst => z) (pkr z z (fun w hst => x_load z isAgg23 (hst.ol2 hi3200 (by rintro _ rfl; rfl))) (pkr z z (fun w hst => x_index z z underlying44 sizeOf23 hst.sv2 h3198 h3199) (pkr z z (fun w hst => z) (pkr z z (fun w hst => z) (pkr z z (fun w hst => z) pk_nil)))))) ?_
 obtain ⟨t3208, ht3209, hm⟩ := bind_some hm
 refine ws_e2 7 14 (by kernel_rfl) ?_ ?_
 {
 refine nxe [14, 15, 16, 17] (by kernel_rfl) z z ?_
 clear hst
 intro w hst
 obtain ⟨I3211, hI3212, f3213, hst⟩ := hst.own_fix
 replace f1_0 := f1_0.mono (ro_le hI3212)
 replace hI0 := hI0.trans hI3212
 replace hL2962 := hL2962.trans hI3212
 replace hL3308 := hL3308.trans hI3212
 replace hL3190 := hL3190.trans hI3212
 replace hL3300 := hL3300.trans hI3212
 obtain ⟨b3214, w3215, ew3216, eb3217, hst⟩ := hst.lits (E := ty_api_Got) (xs := [t3201]) [[.bool t3201.Has, v3206]] 34 1 z (Reps.cons ⟨_, z, f3213, one_of_sliceV (ro_sliceV f3213)⟩ Reps.nil)
 refine we_run (v := (.slice (some ⟨b3214, 0, none⟩) 1 1)) (w' := w3215) z (x_als (by kernel_rfl) ew3216 eb3217) ?_
 refine ws_next (pend' := [(13, U6 z3185), (12, F6 x3196), (11, .pointer (some (eAddr v1898 (z2957.toNat * 1 + 0)))), (10, I6 z2957), (9, v1898), (8, r1_0)]) hst (by kernel_rfl) (pkr z z (fun w hst => z) (pkr z z (fun w hst => x_load z isAgg23 (hst.ol2 hi3200 (by rintro _ rfl; rfl))) (pkr z z (fun w hst => x_index z z underlying44 sizeOf23 hst.sv2 h3198 h3199) (pkr z z (fun w hst => z) (pkr z z (fun w hst => z) (pkr z z (fun w hst => z) pk_nil)))))) ?_
 refine ws_e1 14 (by kernel_rfl) ?_
 refine nxe [15, 16, 17] (by kernel_rfl) z z ?_
 clear hst
 intro w hst
 refine wec call14 [r1_0, F6 x3196, U6 z3185] z z ?_
 refine (ref11_Get_ref f1_0 hst.to0 ht3209).mono ?_
 rintro _ w3219 ⟨I3220, v3222, rfl, hI3221, f3224, hst⟩
 refine ⟨_, z, ?_⟩
 replace hst := hst.of0
 replace f1_0 := f1_0.mono (ro_le hI3221)
 replace f3213 := f3213.mono (ro_le hI3221)
 replace hI0 := hI0.trans hI3221
 replace hL2962 := hL2962.trans hI3221
 replace hL3308 := hL3308.trans hI3221
 replace hL3190 := hL3190.trans hI3221
 replace hL3300 := hL3300.trans hI3221
 refine ws_next (pend' := []) hst (by kernel_rfl) pk_nil ?_
 refine ws_e1 15 (by kernel_rfl) ?_
 refine nxe [16, 17] (by kernel_rfl) z z ?_
 clear hst
 intro w hst
 obtain ⟨b3226, w3227, ew3228, eb3229, hst⟩ := hst.lits (E := ty_api_Got) (xs := [t3208]) [[.bool t3208.Has, v3222]] 34 1 z (Reps.cons ⟨_, z, f3224, one_of_sliceV (ro_sliceV f3224)⟩ Reps.nil)
 refine we_run (v := (.slice (some ⟨b3226, 0, none⟩) 1 1)) (w' := w3227) z (x_als (by kernel_rfl) ew3228 eb3229) ?_
 refine ws_next (pend' := []) hst (by kernel_rfl) pk_nil ?_
 refine ws_e1 16 (by kernel_rfl) ?_
 refine nxe [17] (by kernel_rfl) z z ?_
 clear hst
 intro w hst
 replace hst := hst.pull1
 obtain ⟨css3231, hq3232, hst⟩ := hst.own_open
 replace hst := hst.pull1
 obtain ⟨css3233, hq3234, hst⟩ := hst.own_open
 obtain ⟨t3235, ht3236, hm⟩ := bind_some hm
 refine wec call12 [(.slice (some ⟨b3214, 0, none⟩) 1 1), (.slice (some ⟨b3226, 0, none⟩) 1 1)] z z ?_
 refine (ref11_SameGots_ref (hst.rdrow1 hq3232) (hst.rdrow0 hq3234) hst.to0 ht3236).mono ?_
 rintro _ w3237 ⟨rfl, hst⟩
 refine ⟨_, z, ?_⟩
 replace hst := hst.of0.pull1.own_close hq3232
 replace hst := hst.pull1.own_close hq3234
 refine ws_next (pend' := []) hst (by kernel_rfl) pk_nil ?_
 refine wsr (.bool (!t3235)) 17 z z z (by kernel_rfl) (fun w hst => z) ?_
 refine ws_nil ?_
 intro w hst
 refine ⟨z, ?_⟩
 replace hst := hst.pull3.pull3.keep2
 obtain rfl := some_inj hm
 exact ⟨_, (!t3235), _, hx3299, (fu 0 p0 z (fu 1 r1_0 z (fu 5 v1898 z (fu 6 (.int .i64 z2957) z (fu 7 (.int .u64 z3185) z (fu 53 (.bool (!t3235)) z z)))))), hL3300, hst⟩
}
 {
 refine nxe [7, 15, 16, 17] (by kernel_rfl) z z ?_
 clear hst
 intro w hst
 refine wec call14 [r1_0, F6 x3196, U6 z3185] z z ?_
 refine (ref11_Get_ref f1_0 hst.to0 ht3209).mono ?_
 rintro _ w3240 ⟨I3241, v3243, rfl, hI3242, f3245, hst⟩
 refine ⟨_, z, ?_⟩
 replace hst := hst.of0
 replace f1_0 := f1_0.mono (ro_le hI3242)
 replace hI0 := hI0.trans hI3242
 replace hL2962 := hL2962.trans hI3242
 replace hL3308 := hL3308.trans hI3242
 replace hL3190 := hL3190.trans hI3242
 replace hL3300 := hL3300.trans hI3242
 refine ws_next (pend' := []) hst (by kernel_rfl) pk_nil ?_
 refine ws_e2 7 15 (by kernel_rfl) ?_ ?_
 {
 refine nxe [15, 16, 17] (by kernel_rfl) z z ?_
 clear hst
 intro w hst
 obtain ⟨I3247, hI3248, f3249, hst⟩ := hst.own_fix
 replace f1_0 := f1_0.mono (ro_le hI3248)
 replace f3245 := f3245.mono (ro_le hI3248)
 replace hI0 := hI0.trans hI3248
 replace hL2962 := hL2962.trans hI3248
 replace hL3308 := hL3308.trans hI3248
 replace hL3190 := hL3190.trans hI3248
 replace hL3300 := hL3300.trans hI3248
 obtain ⟨b3250, w3251, ew3252, eb3253, hst⟩ := hst.lits (E := ty_api_Got) (xs := [t3201]) [[.bool t3201.Has, v3206]] 34 1 z (Reps.cons ⟨_, z, f3249, one_of_sliceV (ro_sliceV f3249)⟩ Reps.nil)
 refine we_run (v := (.slice (some ⟨b3250, 0, none⟩) 1 1)) (w' := w3251) z (x_als (by kernel_rfl) ew3252 eb3253) ?_
 refine ws_next (pend' := []) hst (by kernel_rfl) pk_nil ?_
 refine ws_e1 15 (by kernel_rfl) ?_
 refine nxe [16, 17] (by kernel_rfl) z z ?_
 clear hst
 intro w hst
 obtain ⟨b3256, w3257, ew3258, eb3259, hst⟩ := hst.lits (E := ty_api_Got) (xs := [t3208]) [[.bool t3208.Has, v3243]] 34 1 z (Reps.cons ⟨_, z, f3245, one_of_sliceV (ro_sliceV f3245)⟩ Reps.nil)
 refine we_run (v := (.slice (some ⟨b3256, 0, none⟩) 1 1)) (w' := w3257) z (x_als (by kernel_rfl) ew3258 eb3259) ?_
 refine ws_next (pend' := []) hst (by kernel_rfl) pk_nil ?_
 refine ws_e1 16 (by kernel_rfl) ?_
 refine nxe [17] (by kernel_rfl) z z ?_
 clear hst
 intro w hst
 replace hst := hst.pull1
 obtain ⟨css3261, hq3262, hst⟩ := hst.own_open
 replace hst := hst.pull1
 obtain ⟨css3263, hq3264, hst⟩ := hst.own_open
 obtain ⟨t3265, ht3266, hm⟩ := bind_some hm
 refine wec call12 [(.slice (some ⟨b3250, 0, none⟩) 1 1), (.slice (some ⟨b3256, 0, none⟩) 1 1)] z z ?_
 refine (ref11_SameGots_ref (hst.rdrow1 hq3262) (hst.rdrow0 hq3264) hst.to0 ht3266).mono ?_
 rintro _ w3267 ⟨rfl, hst⟩
 refine ⟨_, z, ?_⟩
 replace hst := hst.of0.pull1.own_close hq3262
 replace hst := hst.pull1.own_close hq3264
 refine ws_next (pend' := []) hst (by kernel_rfl) pk_nil ?_
 refine wsr (.bool (!t3265)) 17 z z z (by kernel_rfl) (fun w hst => z) ?_
 refine ws_nil ?_
 intro w hst
 refine ⟨z, ?_⟩
 replace hst := hst.pull3.pull3.keep2
 obtain rfl := some_inj hm
 exact ⟨_, (!t3265), _, hx3299, (fu 0 p0 z (fu 1 r1_0 z (fu 5 v1898 z (fu 6 (.int .i64 z2957) z (fu 7 (.int .u64 z3185) z (fu 53 (.bool (!t3265)) z z)))))), hL3300, hst⟩
}
 {
 refine nxe [7, 16, 17] (by kernel_rfl) z z ?_
 clear hst
 intro w hst
 obtain ⟨b3271, w3272, ew3273, eb3274, hst⟩ := hst.lits (E := ty_api_Got) (xs := [t3208]) [[.bool t3208.Has, v3243]] 34 1 z (Reps.cons ⟨_, z, f3245, one_of_sliceV (ro_sliceV f3245)⟩ Reps.nil)
 refine we_run (v := (.slice (some ⟨b3271, 0, none⟩) 1 1)) (w' := w3272) z (x_als (by kernel_rfl) ew3273 eb3274) ?_
 refine ws_next (pend' := []) hst (by kernel_rfl) pk_nil ?_
 refine ws_e1 7 (by kernel_rfl) ?_
 refine nxe [16, 17] (by kernel_rfl) z z ?_
 clear hst
 intro w hst
 replace hst := hst.pull1
 obtain ⟨I3277, hI3278, f3279, hst⟩ := hst.own_fix
 replace f1_0 := f1_0.mono (ro_le hI3278)
 replace f3245 := f3245.mono (ro_le hI3278)
 replace hI0 := hI0.trans hI3278
 replace hL2962 := hL2962.trans hI3278
 replace hL3308 := hL3308.trans hI3278
 replace hL3190 := hL3190.trans hI3278
 replace hL3300 := hL3300.trans hI3278
 obtain ⟨b3280, w3281, ew3282, eb3283, hst⟩ := hst.lits (E := ty_api_Got) (xs := [t3201]) [[.bool t3201.Has, v3206]] 34 1 z (Reps.cons ⟨_, z, f3279, one_of_sliceV (ro_sliceV f3279)⟩ Reps.nil)
 refine we_run (v := (.slice (some ⟨b3280, 0, none⟩) 1 1)) (w' := w3281) z (x_als (by kernel_rfl) ew3282 eb3283) ?_
 refine ws_next (pend' := []) hst (by kernel_rfl) pk_nil ?_
 refine ws_e1 16 (by kernel_rfl) ?_
 refine nxe [17] (by kernel_rfl) z z ?_
 clear hst
 intro w hst
 obtain ⟨css3285, hq3286, hst⟩ := hst.own_open
 replace hst := hst.pull1
 obtain ⟨css3287, hq3288, hst⟩ := hst.own_open
 obtain ⟨t3289, ht3290, hm⟩ := bind_some hm
 refine wec call12 [(.slice (some ⟨b3280, 0, none⟩) 1 1), (.slice (some ⟨b3271, 0, none⟩) 1 1)] z z ?_
 refine (ref11_SameGots_ref (hst.rdrow1 hq3286) (hst.rdrow0 hq3288) hst.to0 ht3290).mono ?_
 rintro _ w3291 ⟨rfl, hst⟩
 refine ⟨_, z, ?_⟩
 replace hst := hst.of0.pull1.own_close hq3286
 replace hst := hst.pull1.own_close hq3288
 refine ws_next (pend' := []) hst (by kernel_rfl) pk_nil ?_
 refine wsr (.bool (!t3289)) 17 z z z (by kernel_rfl) (fun w hst => z) ?_
 refine ws_nil ?_
 intro w hst
 refine ⟨z, ?_⟩
 replace hst := hst.pull3.pull3.keep2
 obtain rfl := some_inj hm
 exact ⟨_, (!t3289), _, hx3299, (fu 0 p0 z (fu 1 r1_0 z (fu 5 v1898 z (fu 6 (.int .i64 z2957) z (fu 7 (.int .u64 z3185) z (fu 53 (.bool (!t3289)) z z)))))), hL3300, hst⟩
}
}
}
 {
 clear hst
 rintro _ w3301 ⟨I3295, z3294, σ3296, hm, rfl, hL3297, hst⟩
 dsimp only [law11_told_j3] at hm
 replace f1_0 := f1_0.mono (ro_le hL3297)
 replace hI0 := hI0.trans hL3297
 replace hL2962 := hL2962.trans hL3297
 replace hL3308 := hL3308.trans hL3297
 replace hL3190 := hL3190.trans hL3297
 refine tn ?_
 refine bsplit z3294 (fun hc3302 => ?_) (fun hc3302 => ?_)
 {
 replace hm := bif_t hc3302 hm
 refine wp_ift (cvb hc3302) ?_
 refine wp_seq (wrl (wv (.bool false) z z z (wl_nil (tn (wp_ret (blk_r (then_r (then_r ?_))))))))
 replace hm := inr_up hm hx3193
 refine blk_r (then_r ?_)
 replace hm := inr_up hm hx3307
 refine blk_r (then_r (then_r ?_))
 replace hm := inr_up hm hx2965
 refine blk_r (then_r ?_)
 obtain rfl := some_inj hm
 refine post_ret (vs := [.bool false]) results11 (rvs_cons (rv_tmp z) rvs_nil) ?_
 exact ⟨_, z, hI0, hst.keep1⟩
}
 {
 replace hm := bif_f hc3302 hm
 refine wp_iff (cvb hc3302) ?_
 refine wp_skip (blk_n (tn (wrl ?_)))
 refine wv (.int .u64 z3185) z z z (wv (.int .u64 (u64.wrap (z3185 + (1:Int)))) z z z (wv (.int .u64 (u64.wrap (z3185 + (1:Int)))) z z z (wl_nil (tn ?_))))
 replace hst := hst.pull1.pull1.keep2
 obtain rfl := some_inj hm
 exact ⟨_, Nat.lt_succ_self _, _, (u64.wrap (z3185 + (1:Int))), _, hx3193, (fu 0 p0 z (fu 1 r1_0 z (fu 5 v1898 z (fu 6 (.int .i64 z2957) z (fu 7 (.int .u64 (u64.wrap (z3185 + (1:Int)))) z z))))), hL3190, hst⟩
}
}
}
 {
 replace hm := bif_f hc3195 hm
 refine wp_iff (cvb hc3195) ?_
 refine wp_exit (then_x (then_x ?_))
 replace hm := inr_up hm hx3193
 refine blk_x (tn ?_)
 replace hst := hst.pull1.pull1.keep2
 obtain rfl := some_inj hm
 exact ⟨_, _, hx3307, (fu 0 p0 z (fu 1 r1_0 z (fu 5 v1898 z (fu 6 (.int .i64 z2957) z z)))), hL3308, hst⟩
}
}
 {
 clear hst
 rintro _ w3309 ⟨I3303, σ3304, hm, rfl, hL3305, hst⟩
 dsimp only [law11_told_j1] at hm
 replace f1_0 := f1_0.mono (ro_le hL3305)
 replace hI0 := hI0.trans hL3305
 replace hL2962 := hL2962.trans hL3305
 refine wp_seq (wrl (wv (p0) z z z (wv (v1898) z z z (wv (.int .i64 z2957) z z z ?_))))
 obtain ⟨x3310, hx3311, hm⟩ := bind_some hm
 obtain ⟨h3312, h3313, hi3314⟩ := geto_some hx3311
 refine wv (.pointer (some (eAddr v1898 (z2957.toNat * 1 + 0)))) z z (x_index z z underlying44 sizeOf23 hst.sv1 h3312 h3313) (wv (.float .f64 x3310) z z (x_load z isAgg23 (hst.ol1 hi3314 (by rintro _ rfl; rfl))) ?_)
 obtain ⟨t3315, ht3316, hm⟩ := bind_some hm
 refine wc call23 [p0, F6 x3310] z z z ?_
 refine (mvcc_Store_Versions_ref hst.to1 ht3316).mono ?_
 rintro _ w3317 ⟨v3320, rfl, hst⟩
 refine ⟨_, z, ?_⟩
 replace hst := hst.of2
 refine wv (v3320) z z z (wl_nil (tn (wp_seq (wrl (wv (.int .i64 (0:Int)) z z z (wl_nil (tn ?_)))))))
 obtain ⟨y3391, hm, hx3392⟩ := bind_some hm
 refine wp_cut (fun a w => ∃ (z3388 : Int) (σ3389 : Nat → Value), (law11_told_j4 t3315 z2957) z3388 = some y2964 ∧ a = Fr 128 (upd (upd (upd (upd (upd (upd σ3389 0 (p0)) 1 (r1_0)) 5 (v1898)) 6 (.int .i64 z2957)) 8 (v3320)) 9 (.int .i64 z3388)) ∧ St w0 w I3303 [objO at_mvcc_Store p0 a0, ownS tyF64 v1898 t1893, ownS ty_mvcc_Version v3320 t3315] R) ?_ ?_
 {
 refine wp_seq (wrl (wv (.int .i64 (0:Int)) z z z (wl_nil (tn (wp_block ?_)))))
 obtain ⟨n3363, hm⟩ := loopO_some hm
 refine wp_loop_n (fun n a w => ∃ (z3360 : Int) (z3361 : Int) (σ3362 : Nat → Value), loopN (law11_told_l5 a1 x3310) n (z3360, z3361) = some y3391 ∧ a = Fr 128 (upd (upd (upd (upd (upd (upd (upd σ3362 0 (p0)) 1 (r1_0)) 5 (v1898)) 6 (.int .i64 z2957)) 8 (v3320)) 9 (.int .i64 z3361)) 10 (.int .i64 z3360)) ∧ St w0 w I3303 [ownS ty_mvcc_Version v3320 t3315, objO at_mvcc_Store p0 a0, ownS tyF64 v1898 t1893] R) n3363 ⟨(0:Int), (0:Int), _, hm, (fu 0 p0 z (fu 1 r1_0 z (fu 5 v1898 z (fu 6 (.int .i64 z2957) z (fu 8 v3320 z (fu 9 (.int .i64 (0:Int)) z (fu 10 (.int .i64 (0:Int)) z z))))))), hst⟩ ?_
 rintro n3369 _ w3364 ⟨z3360, z3361, σ3362, hm, rfl, hst⟩
 obtain ⟨n3366, y3367, rfl, hm, hx3368⟩ := loopN_some hm
 dsimp only [law11_told_l5] at hm
 refine wp_seq (wp_seq (wrl (wv (.int .i64 z3360) z z z (wv (r1_0) z z z (wv (.int .i64 ((a1).length : Int)) z z (x_len z underlying26 (ro_sliceV f1_0)) (wv (.bool (decide (z3360 < ((a1).length : Int)))) z z z (wl_nil (tn ?_))))))))
 refine bsplit (decide (z3360 < ((a1).length : Int))) (fun hc3370 => ?_) (fun hc3370 => ?_)
 {
 replace hm := bif_t hc3370 hm
 refine wp_ift (cvb hc3370) ?_
 refine wp_skip (tn (wp_seq (wp_block (wp_seq ?_))))
 refine wp_region_St hst 10 [0, 1, 2, 3, 4, 5, 6, 7, 8, 9] [0, 0, 3, 7, 15, 0, 0, 96, 224, 511] [] z (by kernel_rfl) (by kernel_rfl) Try.mixed (by kernel_rfl) ?_
 refine wsr (r1_0) 0 z z z (by kernel_rfl) (fun w hst => z) (wsr (.int .i64 z3360) 1 z z z (by kernel_rfl) (fun w hst => z) ?_)
 obtain ⟨x3371, hx3372, hm⟩ := bind_some hm
 obtain ⟨h3373, h3374, hi3375⟩ := geto_some hx3372
 refine wsr (.pointer (some (eAddr r1_0 (z3360.toNat * 5 + 0)))) 2 z z z (by kernel_rfl) (fun w hst => x_index z z underlying26 sizeOf67 (ro_sliceV f1_0) h3373 h3374) (wsr (.pointer (some (eAddr r1_0 (z3360.toNat * 5 + 0)))) 3 z z z (by kernel_rfl) (fun w hst => x_field_e z underlying67 z sizeOf23 z) ?_)
 obtain ⟨cs3376, hr3377, hc3378⟩ := Ro.getF f1_0 hi3375
 obtain ⟨v3379, rfl, f3380, -⟩ := hr3377
 refine wsr (.float .f64 x3371.At) 4 z z z (by kernel_rfl) (fun w hst => x_load z isAgg23 ((hc3378 (HL.le.refl _) hst) 0 _ z)) (wsr (v1898) 5 z z z (by kernel_rfl) (fun w hst => z) (wsr (.int .i64 z2957) 6 z z z (by kernel_rfl) (fun w hst => z) (wsr (.pointer (some (eAddr v1898 (z2957.toNat * 1 + 0)))) 7 z z z (by kernel_rfl) (fun w hst => x_index z z underlying44 sizeOf23 hst.sv2 h3312 h3313) (wsr (.float .f64 x3310) 8 z z z (by kernel_rfl) (fun w hst => x_load z isAgg23 (hst.ol2 hi3314 (by rintro _ rfl; rfl))) ?_))))
 refine ws_e1 9 (by kernel_rfl) ?_
 refine nxe [] (by kernel_rfl) z z ?_
 clear hst
 intro w hst
 obtain ⟨t3382, ht3383, hm⟩ := bind_some hm
 refine wec call30 [F6 x3371.At, F6 x3310] z z ?_
 refine (ref01_Same_ref hst.to0 ht3383).mono ?_
 rintro _ w3384 ⟨rfl, hst⟩
 refine ⟨_, z, ?_⟩
 replace hst := hst.of0
 refine ws_next (pend' := []) hst (by kernel_rfl) pk_nil ?_
 refine ws_nil ?_
 intro w hst
 refine tn ?_
 refine bsplit t3382 (fun hc3387 => ?_) (fun hc3387 => ?_)
 {
 replace hm := bif_t hc3387 hm
 refine wp_ift (cvb hc3387) ?_
 refine wrl (wv (.int .i64 z3361) z z z (wv (.int .i64 (i64.wrap (z3361 + (1:Int)))) z z z (wv (.int .i64 (i64.wrap (z3361 + (1:Int)))) z z z (wl_nil (blk_n (tn (wrl (wv (.int .i64 z3360) z z z (wv (.int .i64 (i64.wrap (z3360 + (1:Int)))) z z z (wv (.int .i64 (i64.wrap (z3360 + (1:Int)))) z z z (wl_nil (tn ?_))))))))))))
 replace hst := hst.pull2.pull2.pull2.keep3
 obtain rfl := some_inj hm
 exact ⟨_, Nat.lt_succ_self _, (i64.wrap (z3360 + (1:Int))), (i64.wrap (z3361 + (1:Int))), _, hx3368, (fu 0 p0 z (fu 1 r1_0 z (fu 5 v1898 z (fu 6 (.int .i64 z2957) z (fu 8 v3320 z (fu 9 (.int .i64 (i64.wrap (z3361 + (1:Int)))) z (fu 10 (.int .i64 (i64.wrap (z3360 + (1:Int)))) z z))))))), hst⟩
}
 {
 replace hm := bif_f hc3387 hm
 refine wp_iff (cvb hc3387) ?_
 refine wp_skip (blk_n (tn (wrl ?_)))
 refine wv (.int .i64 z3360) z z z (wv (.int .i64 (i64.wrap (z3360 + (1:Int)))) z z z (wv (.int .i64 (i64.wrap (z3360 + (1:Int)))) z z z (wl_nil (tn ?_))))
 replace hst := hst.pull2.pull2.pull2.keep3
 obtain rfl := some_inj hm
 exact ⟨_, Nat.lt_succ_self _, (i64.wrap (z3360 + (1:Int))), z3361, _, hx3368, (fu 0 p0 z (fu 1 r1_0 z (fu 5 v1898 z (fu 6 (.int .i64 z2957) z (fu 8 v3320 z (fu 9 (.int .i64 z3361) z (fu 10 (.int .i64 (i64.wrap (z3360 + (1:Int)))) z z))))))), hst⟩
}
}
 {
 replace hm := bif_f hc3370 hm
 refine wp_iff (cvb hc3370) ?_
 refine wp_exit (then_x (then_x ?_))
 replace hm := inr_up hm hx3368
 refine blk_x (tn ?_)
 replace hst := hst.pull2.pull2.keep3
 obtain rfl := some_inj hm
 exact ⟨z3361, _, hx3392, (fu 0 p0 z (fu 1 r1_0 z (fu 5 v1898 z (fu 6 (.int .i64 z2957) z (fu 8 v3320 z (fu 9 (.int .i64 z3361) z z)))))), hst⟩
}
}
 {
 clear hst
 rintro _ w3393 ⟨z3388, σ3389, hm, rfl, hst⟩
 dsimp only [law11_told_j4] at hm
 refine wp_seq (wp_seq (wrl (wv (v3320) z z z (wv (.int .i64 ((t3315).length : Int)) z z (x_len z underlying53 hst.sv2) (wv (.int .i64 z3388) z z z (wv (.bool (((t3315).length : Int) != z3388)) z z z (wl_nil (tn ?_))))))))
 refine bsplit (((t3315).length : Int) != z3388) (fun hc3394 => ?_) (fun hc3394 => ?_)
 {
 replace hm := bif_t hc3394 hm
 refine wp_ift (cvb hc3394) ?_
 refine wp_seq (wrl (wv (.bool false) z z z (wl_nil (tn (wp_ret (then_r (blk_r (then_r (then_r ?_)))))))))
 replace hm := inr_up hm hx2965
 refine blk_r (then_r ?_)
 obtain rfl := some_inj hm
 refine post_ret (vs := [.bool false]) results11 (rvs_cons (rv_tmp z) rvs_nil) ?_
 exact ⟨_, z, hI0, hst.keep1⟩
}
 {
 replace hm := bif_f hc3394 hm
 refine wp_iff (cvb hc3394) ?_
 refine wp_skip (tn (wp_seq (wrl ?_)))
 refine wv (.int .i64 (1:Int)) z z z (wl_nil (tn (wp_block ?_)))
 obtain ⟨n3454, hm⟩ := loopO_some hm
 refine wp_loop_n (fun n a w => ∃ (z3452 : Int) (σ3453 : Nat → Value), loopN (law11_told_l6 t3315 z2957) n z3452 = some y2964 ∧ a = Fr 128 (upd (upd (upd (upd (upd (upd σ3453 0 (p0)) 1 (r1_0)) 5 (v1898)) 6 (.int .i64 z2957)) 8 (v3320)) 11 (.int .i64 z3452)) ∧ St w0 w I3303 [objO at_mvcc_Store p0 a0, ownS tyF64 v1898 t1893, ownS ty_mvcc_Version v3320 t3315] R) n3454 ⟨(1:Int), _, hm, (fu 0 p0 z (fu 1 r1_0 z (fu 5 v1898 z (fu 6 (.int .i64 z2957) z (fu 8 v3320 z (fu 11 (.int .i64 (1:Int)) z z)))))), hst⟩ ?_
 rintro n3460 _ w3455 ⟨z3452, σ3453, hm, rfl, hst⟩
 obtain ⟨n3457, y3458, rfl, hm, hx3459⟩ := loopN_some hm
 dsimp only [law11_told_l6] at hm
 refine wp_seq (wp_seq (wrl (wv (.int .i64 z3452) z z z (wv (v3320) z z z (wv (.int .i64 ((t3315).length : Int)) z z (x_len z underlying53 hst.sv2) (wv (.bool (decide (z3452 < ((t3315).length : Int)))) z z z (wl_nil (tn ?_))))))))
 refine bsplit (decide (z3452 < ((t3315).length : Int))) (fun hc3461 => ?_) (fun hc3461 => ?_)
 {
 replace hm := bif_t hc3461 hm
 refine wp_ift (cvb hc3461) ?_
 refine wp_skip (tn (wp_seq (wp_block (wp_seq ?_))))
 replace hst := hst.pull2
 obtain ⟨css3462, hq3463, hst⟩ := hst.own_open
 refine wq_regionS hst Try.mixed (by kernel_rfl) ?_
 refine wq_run (v := v3320) z z (fun w hst => z) ?_
 refine wq_run (v := .int .i64 z3452) z z (fun w hst => z) ?_
 refine wq_run (v := .int .i64 (i64.wrap (z3452 - (1:Int)))) z z (fun w hst => z) ?_
 obtain ⟨x3464, hx3465, hm⟩ := bind_some hm
 obtain ⟨h3466, h3467, hi3468⟩ := geto_some hx3465
 refine wq_run (v := .pointer (some (eAddr v3320 ((i64.wrap (z3452 - (1:Int))).toNat * 4 + 0)))) z z (fun w hst => x_index z z underlying53 sizeOf52 (hst.rsv 0 z hq3463) h3466 h3467) ?_
 refine wq_run (v := .pointer (some (eAddr v3320 ((i64.wrap (z3452 - (1:Int))).toNat * 4 + 0)))) z z (fun w hst => x_field_e z underlying52 z sizeOf24 z) ?_
 obtain ⟨cs3469, hc3471, hr3470⟩ := Reps.get hq3463 hi3468
 obtain ⟨v3472, rfl, f3473, -⟩ := hr3470
 refine wq_run (v := .int .u64 x3464.Epoch) z z (fun w hst => x_load z isAgg24 ((hst.rcell 0 z hc3471) 0 _ z)) ?_
 refine wq_run (v := v3320) z z (fun w hst => z) ?_
 refine wq_run (v := .int .i64 z3452) z z (fun w hst => z) ?_
 obtain ⟨x3475, hx3476, hm⟩ := bind_some hm
 obtain ⟨h3477, h3478, hi3479⟩ := geto_some hx3476
 refine wq_run (v := .pointer (some (eAddr v3320 (z3452.toNat * 4 + 0)))) z z (fun w hst => x_index z z underlying53 sizeOf52 (hst.rsv 0 z hq3463) h3477 h3478) ?_
 refine wq_run (v := .pointer (some (eAddr v3320 (z3452.toNat * 4 + 0)))) z z (fun w hst => x_field_e z underlying52 z sizeOf24 z) ?_
 obtain ⟨cs3480, hc3482, hr3481⟩ := Reps.get hq3463 hi3479
 obtain ⟨v3483, rfl, f3484, -⟩ := hr3481
 refine wq_run (v := .int .u64 x3475.Epoch) z z (fun w hst => x_load z isAgg24 ((hst.rcell 0 z hc3482) 0 _ z)) ?_
 refine wq_run (v := .bool (decide (x3464.Epoch > x3475.Epoch))) z z (fun w hst => z) ?_
 refine wq_run (v := .bool (decide (x3464.Epoch > x3475.Epoch))) z z (fun w hst => z) ?_
 refine bsplit (decide (x3464.Epoch > x3475.Epoch)) (fun hc3486 => ?_) (fun hc3486 => ?_)
 {
 replace hm := bif_t hc3486 hm
 refine wq_off ((wanted_eq z z z (cvb hc3486)).trans z) z ?_
 refine wq_off ((wanted_eq z z z (cvb hc3486)).trans z) z ?_
 refine wq_off ((wanted_eq z z z (cvb hc3486)).trans z) z ?_
 refine wq_off ((wanted_eq z z z (cvb hc3486)).trans z) z ?_
 refine wq_off ((wanted_eq z z z (cvb hc3486)).trans z) z ?_
 refine wq_off ((wanted_eq z z z (cvb hc3486)).trans z) z ?_
 refine wq_off ((wanted_eq z z z (cvb hc3486)).trans z) z ?_
 refine wq_off ((wanted_eq z z z (cvb hc3486)).trans z) z ?_
 refine wq_off ((wanted_eq z z z (cvb hc3486)).trans z) z ?_
 refine wq_off ((wanted_eq z z z (cvb hc3486)).trans z) z ?_
 refine wq_off ((wanted_eq z z z (cvb hc3486)).trans z) z ?_
 refine wq_off ((wanted_eq z z z (cvb hc3486)).trans z) z ?_
 refine wq_off ((wanted_eq z z z (cvb hc3486)).trans z) z ?_
 refine wq_off (wanted_undef z z z z) z ?_
 refine wq_off (wanted_undef z z z z) z ?_
 refine wq_off (wanted_undef z z z z) z ?_
 refine wq_off (wanted_undef z z z z) z ?_
 refine wq_off (wanted_undef z z z z) z ?_
 refine wq_off (wanted_undef z z z z) z ?_
 refine wq_off (wanted_undef z z z z) z ?_
 refine wq_off (wanted_undef z z z z) z ?_
 refine wq_off (wanted_undef z z z z) z ?_
 refine wq_off (wanted_undef z z z z) z ?_
 refine wq_off (wanted_undef z z z z) z ?_
 refine wq_off (wanted_undef z z z z) z ?_
 refine wq_off ((wanted_eq z z z (cvb hc3486)).trans z) z ?_
 refine wq_run (v := .bool true) z z (fun w hst => x_pick_t hc3486 z z) ?_
 refine wq_nil ?_
 intro w hst
 replace hst := hst.own_close hq3463
 refine tn ?_
 refine wp_ift z ?_
 refine wp_seq (wrl (wv (.bool false) z z z (wl_nil (tn (wp_ret (blk_r (then_r (then_r ?_))))))))
 replace hm := inr_up hm hx3459
 refine blk_r (blk_r (then_r (then_r ?_)))
 replace hm := inr_up hm hx2965
 refine blk_r (then_r ?_)
 obtain rfl := some_inj hm
 refine post_ret (vs := [.bool false]) results11 (rvs_cons (rv_tmp z) rvs_nil) ?_
 replace hst := hst.pull1
 exact ⟨_, z, hI0, hst.keep1⟩
}
 {
 replace hm := bif_f hc3486 hm
 refine wq_run (v := v3320) ((wanted_eq z z z (cvb hc3486)).trans z) z (fun w hst => z) ?_
 refine wq_run (v := .int .i64 z3452) ((wanted_eq z z z (cvb hc3486)).trans z) z (fun w hst => z) ?_
 refine wq_run (v := .int .i64 (i64.wrap (z3452 - (1:Int)))) ((wanted_eq z z z (cvb hc3486)).trans z) z (fun w hst => z) ?_
 refine wq_run (v := .pointer (some (eAddr v3320 ((i64.wrap (z3452 - (1:Int))).toNat * 4 + 0)))) ((wanted_eq z z z (cvb hc3486)).trans z) z (fun w hst => x_index z z underlying53 sizeOf52 (hst.rsv 0 z hq3463) h3466 h3467) ?_
 refine wq_run (v := .pointer (some (eAddr v3320 ((i64.wrap (z3452 - (1:Int))).toNat * 4 + 0)))) ((wanted_eq z z z (cvb hc3486)).trans z) z (fun w hst => x_field_e z underlying52 z sizeOf24 z) ?_
 refine wq_run (v := .int .u64 x3464.Epoch) ((wanted_eq z z z (cvb hc3486)).trans z) z (fun w hst => x_load z isAgg24 ((hst.rcell 0 z hc3471) 0 _ z)) ?_
 refine wq_run (v := v3320) ((wanted_eq z z z (cvb hc3486)).trans z) z (fun w hst => z) ?_
 refine wq_run (v := .int .i64 z3452) ((wanted_eq z z z (cvb hc3486)).trans z) z (fun w hst => z) ?_
 refine wq_run (v := .pointer (some (eAddr v3320 (z3452.toNat * 4 + 0)))) ((wanted_eq z z z (cvb hc3486)).trans z) z (fun w hst => x_index z z underlying53 sizeOf52 (hst.rsv 0 z hq3463) h3477 h3478) ?_
 refine wq_run (v := .pointer (some (eAddr v3320 (z3452.toNat * 4 + 0)))) ((wanted_eq z z z (cvb hc3486)).trans z) z (fun w hst => x_field_e z underlying52 z sizeOf24 z) ?_
 refine wq_run (v := .int .u64 x3475.Epoch) ((wanted_eq z z z (cvb hc3486)).trans z) z (fun w hst => x_load z isAgg24 ((hst.rcell 0 z hc3482) 0 _ z)) ?_
 refine wq_run (v := .bool (x3464.Epoch == x3475.Epoch)) ((wanted_eq z z z (cvb hc3486)).trans z) z (fun w hst => z) ?_
 refine wq_run (v := .bool (x3464.Epoch == x3475.Epoch)) ((wanted_eq z z z (cvb hc3486)).trans z) z (fun w hst => z) ?_
 refine bsplit (x3464.Epoch == x3475.Epoch) (fun hc3487 => ?_) (fun hc3487 => ?_)
 {
 replace hm := bif_t hc3487 hm
 refine wq_run (v := v3320) ((wanted_eq z z z (cvb hc3487)).trans z) z (fun w hst => z) ?_
 refine wq_run (v := .int .i64 z3452) ((wanted_eq z z z (cvb hc3487)).trans z) z (fun w hst => z) ?_
 refine wq_run (v := .int .i64 (i64.wrap (z3452 - (1:Int)))) ((wanted_eq z z z (cvb hc3487)).trans z) z (fun w hst => z) ?_
 refine wq_run (v := .pointer (some (eAddr v3320 ((i64.wrap (z3452 - (1:Int))).toNat * 4 + 0)))) ((wanted_eq z z z (cvb hc3487)).trans z) z (fun w hst => x_index z z underlying53 sizeOf52 (hst.rsv 0 z hq3463) h3466 h3467) ?_
 refine wq_run (v := .pointer (some (eAddr v3320 ((i64.wrap (z3452 - (1:Int))).toNat * 4 + 1)))) ((wanted_eq z z z (cvb hc3487)).trans z) z (fun w hst => x_field_e z underlying52 z sizeOf24 z) ?_
 refine wq_run (v := .int .u64 x3464.Index) ((wanted_eq z z z (cvb hc3487)).trans z) z (fun w hst => x_load z isAgg24 ((hst.rcell 0 z hc3471) 1 _ z)) ?_
 refine wq_run (v := v3320) ((wanted_eq z z z (cvb hc3487)).trans z) z (fun w hst => z) ?_
 refine wq_run (v := .int .i64 z3452) ((wanted_eq z z z (cvb hc3487)).trans z) z (fun w hst => z) ?_
 refine wq_run (v := .pointer (some (eAddr v3320 (z3452.toNat * 4 + 0)))) ((wanted_eq z z z (cvb hc3487)).trans z) z (fun w hst => x_index z z underlying53 sizeOf52 (hst.rsv 0 z hq3463) h3477 h3478) ?_
 refine wq_run (v := .pointer (some (eAddr v3320 (z3452.toNat * 4 + 1)))) ((wanted_eq z z z (cvb hc3487)).trans z) z (fun w hst => x_field_e z underlying52 z sizeOf24 z) ?_
 refine wq_run (v := .int .u64 x3475.Index) ((wanted_eq z z z (cvb hc3487)).trans z) z (fun w hst => x_load z isAgg24 ((hst.rcell 0 z hc3482) 1 _ z)) ?_
 refine wq_run (v := .bool (decide (x3464.Index ≥ x3475.Index))) ((wanted_eq z z z (cvb hc3487)).trans z) z (fun w hst => z) ?_
 refine wq_run (v := .bool (decide (x3464.Index ≥ x3475.Index))) ((wanted_eq z z z (cvb hc3486)).trans z) z (fun w hst => x_pick_t hc3487 z z) ?_
 refine wq_run (v := .bool (decide (x3464.Index ≥ x3475.Index))) z z (fun w hst => x_pick_f hc3486 z z) ?_
 refine wq_nil ?_
 intro w hst
 replace hst := hst.own_close hq3463
 refine tn ?_
 refine bsplit (decide (x3464.Index ≥ x3475.Index)) (fun hc3488 => ?_) (fun hc3488 => ?_)
 {
 replace hm := bif_t hc3488 hm
 refine wp_ift (cvb hc3488) ?_
 refine wp_seq (wrl (wv (.bool false) z z z (wl_nil (tn (wp_ret (blk_r (then_r (then_r ?_))))))))
 replace hm := inr_up hm hx3459
 refine blk_r (blk_r (then_r (then_r ?_)))
 replace hm := inr_up hm hx2965
 refine blk_r (then_r ?_)
 obtain rfl := some_inj hm
 refine post_ret (vs := [.bool false]) results11 (rvs_cons (rv_tmp z) rvs_nil) ?_
 replace hst := hst.pull1
 exact ⟨_, z, hI0, hst.keep1⟩
}
 {
 replace hm := bif_f hc3488 hm
 refine wp_iff (cvb hc3488) ?_
 refine wp_skip (blk_n (tn (wrl ?_)))
 refine wv (.int .i64 z3452) z z z (wv (.int .i64 (i64.wrap (z3452 + (1:Int)))) z z z (wv (.int .i64 (i64.wrap (z3452 + (1:Int)))) z z z (wl_nil (tn ?_))))
 replace hst := hst.pull2.pull2.keep3
 obtain rfl := some_inj hm
 exact ⟨_, Nat.lt_succ_self _, (i64.wrap (z3452 + (1:Int))), _, hx3459, (fu 0 p0 z (fu 1 r1_0 z (fu 5 v1898 z (fu 6 (.int .i64 z2957) z (fu 8 v3320 z (fu 11 (.int .i64 (i64.wrap (z3452 + (1:Int)))) z z)))))), hst⟩
}
}
 {
 replace hm := bif_f hc3487 hm
 refine wq_off ((wanted_eq z z z (cvb hc3487)).trans z) z ?_
 refine wq_off ((wanted_eq z z z (cvb hc3487)).trans z) z ?_
 refine wq_off ((wanted_eq z z z (cvb hc3487)).trans z) z ?_
 refine wq_off ((wanted_eq z z z (cvb hc3487)).trans z) z ?_
 refine wq_off ((wanted_eq z z z (cvb hc3487)).trans z) z ?_
 refine wq_off ((wanted_eq z z z (cvb hc3487)).trans z) z ?_
 refine wq_off ((wanted_eq z z z (cvb hc3487)).trans z) z ?_
 refine wq_off ((wanted_eq z z z (cvb hc3487)).trans z) z ?_
 refine wq_off ((wanted_eq z z z (cvb hc3487)).trans z) z ?_
 refine wq_off ((wanted_eq z z z (cvb hc3487)).trans z) z ?_
 refine wq_off ((wanted_eq z z z (cvb hc3487)).trans z) z ?_
 refine wq_off ((wanted_eq z z z (cvb hc3487)).trans z) z ?_
 refine wq_run (v := .bool false) ((wanted_eq z z z (cvb hc3486)).trans z) z (fun w hst => x_pick_f hc3487 z z) ?_
 refine wq_run (v := .bool false) z z (fun w hst => x_pick_f hc3486 z z) ?_
 refine wq_nil ?_
 intro w hst
 replace hst := hst.own_close hq3463
 refine tn ?_
 refine wp_iff z ?_
 refine wp_skip (blk_n (tn (wrl ?_)))
 refine wv (.int .i64 z3452) z z z (wv (.int .i64 (i64.wrap (z3452 + (1:Int)))) z z z (wv (.int .i64 (i64.wrap (z3452 + (1:Int)))) z z z (wl_nil (tn ?_))))
 replace hst := hst.pull2.pull2.keep3
 obtain rfl := some_inj hm
 exact ⟨_, Nat.lt_succ_self _, (i64.wrap (z3452 + (1:Int))), _, hx3459, (fu 0 p0 z (fu 1 r1_0 z (fu 5 v1898 z (fu 6 (.int .i64 z2957) z (fu 8 v3320 z (fu 11 (.int .i64 (i64.wrap (z3452 + (1:Int)))) z z)))))), hst⟩
}
}
}
 {
 replace hm := bif_f hc3461 hm
 refine wp_iff (cvb hc3461) ?_
 refine wp_exit (then_x (then_x ?_))
 replace hm := inr_up hm hx3459
 refine blk_x (blk_n (tn (wrl ?_)))
 refine wv (.int .i64 z2957) z z z (wv (.int .i64 (i64.wrap (z2957 + (1:Int)))) z z z (wv (.int .i64 (i64.wrap (z2957 + (1:Int)))) z z z (wl_nil (tn ?_))))
 replace hst := hst.pull1.pull1.keep2
 obtain rfl := some_inj hm
 exact ⟨_, Nat.lt_succ_self _, _, (i64.wrap (z2957 + (1:Int))), _, hx2965, (fu 0 p0 z (fu 1 r1_0 z (fu 5 v1898 z (fu 6 (.int .i64 (i64.wrap (z2957 + (1:Int)))) z z)))), hL2962, hst⟩
}
}
}
}
}
 {
 replace hm := bif_f hc2967 hm
 refine wp_iff (cvb hc2967) ?_
 refine wp_exit (then_x (then_x ?_))
 replace hm := inr_up hm hx2965
 refine blk_x (tn (wp_seq (wrl ?_)))
 refine wv (.bool true) z z z (wl_nil (tn (wp_ret ?_)))
 obtain rfl := some_inj hm
 refine post_ret (vs := [.bool true]) results11 (rvs_cons (rv_tmp z) rvs_nil) ?_
 exact ⟨_, z, hI0, hst.keep1⟩
}
}
}
}

theorem law11_MvccBytes_ref {w0 w : World} {I : HL} {R : SP} {a0 : (List law11_Ver)} {r0_0 : Value} {a1 : (List law11_Ver)} {r1_0 : Value} (f0_0 : Ro ty_law11_Ver I r0_0 a0) (f1_0 : Ro ty_law11_Ver I r1_0 a1) (hst : St w0 w I [] R) {r : (Bool)} (hm : law11_MvccBytes a0 a1 = some r) :
  Calls prog 8 #[r0_0, r1_0] w fun e w' => ∃ (I' : HL), e = .returned (.bool r) ∧ I.le I' ∧ St w0 w' I' [] R := by {
 unfold law11_MvccBytes at hm
 refine calls_start (args := [r0_0, r1_0]) func8 z ntmps8 (Nat.le_of_ble_eq_true z) ?_
 have hI0 := HL.le.refl I
 refine wp_seq (wrl (wv (.bool false) z z z (wl_nil (tn (wp_seq (wrl (wv (r0_0) z z z ?_)))))))
 obtain ⟨t303, ht304, hm⟩ := bind_some hm
 refine wc call9 [r0_0] z z z ?_
 refine (law11_fill_ref f0_0 hst.to0 ht304).mono ?_
 rintro _ w305 ⟨I306, v308, v310, rfl, hI307, hst⟩
 refine ⟨_, z, ?_⟩
 replace hst := hst.of2
 replace f0_0 := f0_0.mono (ro_le hI307)
 replace f1_0 := f1_0.mono (ro_le hI307)
 replace hI0 := hI0.trans hI307
 refine wv (.tuple #[v308, v310, .bool t303.2.2]) z z z (wv (v308) z z z (wv (v310) z z z (wv (.bool t303.2.2) z z z (wv (v308) z z z (wv (v310) z z z (wv (.bool t303.2.2) z z z (wl_nil (tn (wp_seq (wp_seq (wrl ?_)))))))))))
 obtain ⟨t312, ht313, hm⟩ := bind_some hm
 refine wc call10 [] z z z ?_
 refine (law11_awake_ref hst.to0 ht313).mono ?_
 rintro _ w314 ⟨I315, rfl, hI316, hst⟩
 refine ⟨_, z, ?_⟩
 replace hst := hst.of0
 replace f0_0 := f0_0.mono (ro_le hI316)
 replace f1_0 := f1_0.mono (ro_le hI316)
 replace hI0 := hI0.trans hI316
 refine wv (.bool (!t312)) z z z (wv (.bool (!t312)) z z z ?_)
 refine bsplit (!t312) (fun hc317 => ?_) (fun hc317 => ?_)
 {
 replace hm := bif_t hc317 hm
 refine wo hc317 z z z z z z (wo hc317 z z z z z z (wv (.bool true) z z (x_pick_t hc317 z z) (wv (.bool true) z z z (wz z z z z z z (wz z z z z z z (wz z z z z z z (wv (.bool true) z z (x_pick_t z z z) (wl_nil (tn ?_)))))))))
 refine wp_ift z ?_
 refine wp_seq (wrl ?_)
 obtain ⟨t318, ht319, hm⟩ := bind_some hm
 refine wc call10 [] z z z ?_
 refine (law11_awake_ref hst.to0 ht319).mono ?_
 rintro _ w320 ⟨I321, rfl, hI322, hst⟩
 refine ⟨_, z, ?_⟩
 replace hst := hst.of0
 replace f0_0 := f0_0.mono (ro_le hI322)
 replace f1_0 := f1_0.mono (ro_le hI322)
 replace hI0 := hI0.trans hI322
 refine wv (.bool t318) z z z (wl_nil (tn (wp_ret (then_r ?_))))
 obtain rfl := some_inj hm
 refine post_ret (vs := [.bool t318]) results8 (rvs_cons (rv_tmp z) rvs_nil) ?_
 exact ⟨_, z, hI0, hst.keep0⟩
}
 {
 replace hm := bif_f hc317 hm
 refine wv (.bool t303.2.2) ((wanted_eq z z z (cvb hc317)).trans z) z z (wv (.bool (!t303.2.2)) ((wanted_eq z z z (cvb hc317)).trans z) z z (wv (.bool (!t303.2.2)) z z (x_pick_f hc317 z z) (wv (.bool (!t303.2.2)) z z z ?_)))
 refine bsplit (!t303.2.2) (fun hc323 => ?_) (fun hc323 => ?_)
 {
 replace hm := bif_t hc323 hm
 refine wo hc323 z z z z z z (wo hc323 z z z z z z (wo hc323 z z z z z z (wv (.bool true) z z (x_pick_t hc323 z z) (wl_nil (tn ?_)))))
 refine wp_ift z ?_
 refine wp_seq (wrl ?_)
 obtain ⟨t324, ht325, hm⟩ := bind_some hm
 refine wc call10 [] z z z ?_
 refine (law11_awake_ref hst.to0 ht325).mono ?_
 rintro _ w326 ⟨I327, rfl, hI328, hst⟩
 refine ⟨_, z, ?_⟩
 replace hst := hst.of0
 replace f0_0 := f0_0.mono (ro_le hI328)
 replace f1_0 := f1_0.mono (ro_le hI328)
 replace hI0 := hI0.trans hI328
 refine wv (.bool t324) z z z (wl_nil (tn (wp_ret (then_r ?_))))
 obtain rfl := some_inj hm
 refine post_ret (vs := [.bool t324]) results8 (rvs_cons (rv_tmp z) rvs_nil) ?_
 exact ⟨_, z, hI0, hst.keep0⟩
}
 {
 replace hm := bif_f hc323 hm
 refine wv (r1_0) ((wanted_eq z z z (cvb hc323)).trans z) z z (wv (.int .i64 ((a1).length : Int)) ((wanted_eq z z z (cvb hc323)).trans z) z (x_len z underlying22 (ro_sliceV f1_0)) (wv (.bool (decide (((a1).length : Int) > (20:Int)))) ((wanted_eq z z z (cvb hc323)).trans z) z z (wv (.bool (decide (((a1).length : Int) > (20:Int)))) z z (x_pick_f hc323 z z) (wl_nil (tn ?_)))))
 refine bsplit (decide (((a1).length : Int) > (20:Int))) (fun hc329 => ?_) (fun hc329 => ?_)
 {
 replace hm := bif_t hc329 hm
 refine wp_ift (cvb hc329) ?_
 refine wp_seq (wrl ?_)
 obtain ⟨t330, ht331, hm⟩ := bind_some hm
 refine wc call10 [] z z z ?_
 refine (law11_awake_ref hst.to0 ht331).mono ?_
 rintro _ w332 ⟨I333, rfl, hI334, hst⟩
 refine ⟨_, z, ?_⟩
 replace hst := hst.of0
 replace f0_0 := f0_0.mono (ro_le hI334)
 replace f1_0 := f1_0.mono (ro_le hI334)
 replace hI0 := hI0.trans hI334
 refine wv (.bool t330) z z z (wl_nil (tn (wp_ret (then_r ?_))))
 obtain rfl := some_inj hm
 refine post_ret (vs := [.bool t330]) results8 (rvs_cons (rv_tmp z) rvs_nil) ?_
 exact ⟨_, z, hI0, hst.keep0⟩
}
 {
 replace hm := bif_f hc329 hm
 refine wp_iff (cvb hc329) ?_
 refine wp_skip (tn (wp_seq (wrl ?_)))
 refine wv (v308) z z z ?_
 replace hst := objO_some hst
 obtain ⟨t335, ht336, hm⟩ := bind_some hm
 refine wc call27 [v308] z z z ?_
 refine (mvcc_Store_Encode_ref hst.to1 ht336).mono ?_
 rintro _ w337 ⟨v340, rfl, hst⟩
 refine ⟨_, z, ?_⟩
 replace hst := hst.of2.pull1
 replace hst := objO_get hst
 replace hst := hst.pull1
 obtain ⟨I342, hI343, f344, hst⟩ := hst.own_fix
 replace f0_0 := f0_0.mono (ro_le hI343)
 replace f1_0 := f1_0.mono (ro_le hI343)
 replace hI0 := hI0.trans hI343
 obtain ⟨t345, ht346, hm⟩ := bind_some hm
 refine wc call26 [v340] z z z ?_
 refine (mvcc_Decode_ref f344 hst.to0 ht346).mono ?_
 rintro _ w347 ⟨I348, v350, rfl, hI349, hst⟩
 refine ⟨_, z, ?_⟩
 replace hst := hst.of1
 replace f0_0 := f0_0.mono (ro_le hI349)
 replace f1_0 := f1_0.mono (ro_le hI349)
 replace f344 := f344.mono (ro_le hI349)
 replace hI0 := hI0.trans hI349
 refine wv (.tuple #[v350, I6 t345.2]) z z z (wv (v350) z z z (wv (.int .i64 t345.2) z z z (wv (v350) z z z (wv (.int .i64 t345.2) z z z (wl_nil (tn (wp_seq (wp_seq ?_))))))))
 refine wp_region_St hst 11 [0, 1, 2, 3, 4, 5, 6, 7, 8, 9, 10] [0, 1, 3, 7, 15, 31, 7, 95, 223, 511, 1023] [] z (by kernel_rfl) (by kernel_rfl) Try.mixed (by kernel_rfl) ?_
 refine wsr (.int .i64 t345.2) 0 z z z (by kernel_rfl) (fun w hst => z) (wsr (.bool (t345.2 != (0:Int))) 1 z z z (by kernel_rfl) (fun w hst => z) (wsr (.bool (t345.2 != (0:Int))) 2 z z z (by kernel_rfl) (fun w hst => z) ?_))
 refine bsplit (t345.2 != (0:Int)) (fun hc352 => ?_) (fun hc352 => ?_)
 {
 replace hm := bif_t hc352 hm
 refine ws_q (v := undef) 3 [4, 5, 6, 7, 8, 9, 10] (by kernel_rfl) z z (yi_off ((wanted_eq z z z (cvb hc352)).trans z)) (ws_q (v := undef) 4 [5, 6, 7, 8, 9, 10] (by kernel_rfl) z z (yi_off ((wanted_eq z z z (cvb hc352)).trans z)) (ws_q (v := undef) 5 [6, 7, 8, 9, 10] (by kernel_rfl) z z (yi_off ((wanted_eq z z z (cvb hc352)).trans z)) (ws_q (v := undef) 6 [7, 8, 9, 10] (by kernel_rfl) z z (yi_off ((wanted_eq z z z (cvb hc352)).trans z)) (ws_q (v := undef) 7 [8, 9, 10] (by kernel_rfl) z z (yi_off ((wanted_eq z z z (cvb hc352)).trans z)) (ws_q (v := undef) 8 [9, 10] (by kernel_rfl) z z (yi_off ((wanted_eq z z z (cvb hc352)).trans z)) (ws_q (v := undef) 9 [10] (by kernel_rfl) z z (yi_off ((wanted_eq z z z (cvb hc352)).trans z)) (wsr (.bool true) 10 z z z (by kernel_rfl) (fun w hst => x_pick_t hc352 z z) ?_)))))))
 refine ws_nil ?_
 intro w hst
 refine tn ?_
 refine wp_ift z ?_
 refine wp_seq (wrl (wv (.bool false) z z z (wl_nil (tn (wp_ret (then_r ?_))))))
 obtain rfl := some_inj hm
 refine post_ret (vs := [.bool false]) results8 (rvs_cons (rv_tmp z) rvs_nil) ?_
 exact ⟨_, z, hI0, hst.keep0⟩
}
 {
 replace hm := bif_f hc352 hm
 refine ws_q (v := v350) 3 [4, 5, 6, 7, 8, 9, 10] (by kernel_rfl) z z (yi_run ((wanted_eq z z z (cvb hc352)).trans z) (fun w hst => z)) (ws_q (v := v308) 6 [4, 5, 7, 8, 9, 10] (by kernel_rfl) z z (yi_run ((wanted_eq z z z (cvb hc352)).trans z) (fun w hst => z)) ?_)
 refine ws_e1 4 (by kernel_rfl) ?_
 refine nxe [5, 7, 8, 9, 10] (by kernel_rfl) z ((wanted_eq z z z (cvb hc352)).trans z) ?_
 clear hst
 intro w hst
 obtain ⟨t353, ht354, hm⟩ := bind_some hm
 refine wec call27 [v350] z z ?_
 refine (mvcc_Store_Encode_ref hst.to1 ht354).mono ?_
 rintro _ w355 ⟨v358, rfl, hst⟩
 refine ⟨_, z, ?_⟩
 replace hst := hst.of2
 refine ws_next (pend' := [(6, v308)]) hst (by kernel_rfl) (pk_cons z (yi_run ((wanted_eq z z z (cvb hc352)).trans z) (fun w hst => z)) pk_nil) ?_
 refine ws_q (v := .string (toStr t353)) 5 [7, 8, 9, 10] (by kernel_rfl) z z (yi_run ((wanted_eq z z z (cvb hc352)).trans z) (fun w hst => x_tostr underlying32 underlying9 underlying5 z hst.src0)) ?_
 refine ws_e1 7 (by kernel_rfl) ?_
 refine nxe [8, 9, 10] (by kernel_rfl) z ((wanted_eq z z z (cvb hc352)).trans z) ?_
 clear hst
 intro w hst
 replace hst := hst.pull2
 replace hst := objO_some hst
 obtain ⟨t360, ht361, hm⟩ := bind_some hm
 refine wec call27 [v308] z z ?_
 refine (mvcc_Store_Encode_ref hst.to1 ht361).mono ?_
 rintro _ w362 ⟨v365, rfl, hst⟩
 refine ⟨_, z, ?_⟩
 replace hst := hst.of2.pull1
 replace hst := objO_get hst
 refine ws_next (pend' := [(5, .string (toStr t353))]) hst (by kernel_rfl) (pk_cons z (yi_run ((wanted_eq z z z (cvb hc352)).trans z) (fun w hst => x_tostr underlying32 underlying9 underlying5 z hst.src2)) pk_nil) ?_
 refine ws_q (v := .string (toStr t360)) 8 [9, 10] (by kernel_rfl) z z (yi_run ((wanted_eq z z z (cvb hc352)).trans z) (fun w hst => x_tostr underlying32 underlying9 underlying5 z hst.src1)) (ws_q (v := .bool (!(sEq (toStr t353) (toStr t360)))) 9 [10] (by kernel_rfl) z z (yi_run ((wanted_eq z z z (cvb hc352)).trans z) (fun w hst => by kernel_rfl)) (wsr (.bool (!(sEq (toStr t353) (toStr t360)))) 10 z z z (by kernel_rfl) (fun w hst => x_pick_f hc352 z z) ?_))
 refine ws_nil ?_
 intro w hst
 refine tn ?_
 refine bsplit (!(sEq (toStr t353) (toStr t360))) (fun hc367 => ?_) (fun hc367 => ?_)
 {
 replace hm := bif_t hc367 hm
 refine wp_ift (cvb hc367) ?_
 refine wp_seq (wrl (wv (.bool false) z z z (wl_nil (tn (wp_ret (then_r ?_))))))
 obtain rfl := some_inj hm
 refine post_ret (vs := [.bool false]) results8 (rvs_cons (rv_tmp z) rvs_nil) ?_
 exact ⟨_, z, hI0, hst.keep0⟩
}
 {
 replace hm := bif_f hc367 hm
 refine wp_iff (cvb hc367) ?_
 refine wp_skip (tn ?_)
 obtain ⟨y589, hm, hx590⟩ := joinO_some hm
 refine wp_cut (fun a w => ∃ (I586 : HL) (z584 : (List ref11_Version)) (z585 : (Option mvcc_Store)) (v583 : Value) (σ587 : Nat → Value), (law11_MvccBytes_j0) (z584, z585) = some r ∧ a = Fr 109 (upd (upd σ587 6 (v583)) 8 (v350)) ∧ I348.le I586 ∧ St w0 w I586 [ownS ty_ref11_Version v583 z584, objO at_mvcc_Store v350 z585] R) ?_ ?_
 {
 have hL591 := HL.le.refl I348
 refine wp_seq (wrl (wv (.int .i64 (0:Int)) z z z (wl_nil (tn (wp_block ?_)))))
 replace hst := hst.sub.sub.sub
 obtain ⟨n510, hm⟩ := loopO_some hm
 refine wp_loop_n (fun n a w => ∃ (I508 : HL) (z503 : (Option mvcc_Store)) (z504 : Int) (z505 : (List ref11_Version)) (v506 : Value) (σ509 : Nat → Value), loopN (law11_MvccBytes_l1 a1) n (z503, z504, z505) = some y589 ∧ a = Fr 109 (upd (upd (upd (upd σ509 1 (r1_0)) 6 (v506)) 8 (v350)) 10 (.int .i64 z504)) ∧ I348.le I508 ∧ St w0 w I508 [objO at_mvcc_Store v350 z503, ownS ty_ref11_Version v506 z505] R) n510 ⟨_, t345.1, (0:Int), t303.2.1, v310, _, hm, (fu 1 r1_0 z (fu 6 v310 z (fu 8 v350 z (fu 10 (.int .i64 (0:Int)) z z)))), (HL.le.refl _), hst⟩ ?_
 rintro n516 _ w511 ⟨I508, z503, z504, z505, v506, σ509, hm, rfl, hL512, hst⟩
 obtain ⟨n513, y514, rfl, hm, hx515⟩ := loopN_some hm
 dsimp only [law11_MvccBytes_l1] at hm
 replace f0_0 := f0_0.mono (ro_le hL512)
 replace f1_0 := f1_0.mono (ro_le hL512)
 replace f344 := f344.mono (ro_le hL512)
 replace hI0 := hI0.trans hL512
 replace hL591 := hL591.trans hL512
 refine wp_seq (wp_seq (wrl (wv (.int .i64 z504) z z z (wv (r1_0) z z z (wv (.int .i64 ((a1).length : Int)) z z (x_len z underlying22 (ro_sliceV f1_0)) (wv (.bool (decide (z504 < ((a1).length : Int)))) z z z (wl_nil (tn ?_))))))))
 refine bsplit (decide (z504 < ((a1).length : Int))) (fun hc517 => ?_) (fun hc517 => ?_)
 {
 replace hm := bif_t hc517 hm
 refine wp_ift (cvb hc517) ?_
 refine wp_skip (tn (wp_seq (wp_block (wp_seq (wp_seq (wrl ?_))))))
 refine wv (r1_0) z z z (wv (.int .i64 z504) z z z ?_)
 obtain ⟨x518, hx519, hm⟩ := bind_some hm
 obtain ⟨h520, h521, hi522⟩ := geto_some hx519
 refine wv (.pointer (some (eAddr r1_0 (z504.toNat * 6 + 0)))) z z (x_index z z underlying22 sizeOf64 (ro_sliceV f1_0) h520 h521) (wv (.pointer (some (eAddr r1_0 (z504.toNat * 6 + 5)))) z z (x_field_e z underlying64 z sizeOf32 z) ?_)
 obtain ⟨cs523, hr524, hc525⟩ := Ro.getF f1_0 hi522
 obtain ⟨v526, rfl, f527, -⟩ := hr524
 refine wv (v526) z z (x_load z isAgg32 ((hc525 (HL.le.refl _) hst) 5 _ z)) (wv (.int .i64 ((x518.V).length : Int)) z z (x_len z underlying32 (ro_sliceV f527)) (wv (.bool (decide (((x518.V).length : Int) > (100:Int)))) z z z (wl_nil (tn ?_))))
 refine bsplit (decide (((x518.V).length : Int) > (100:Int))) (fun hc529 => ?_) (fun hc529 => ?_)
 {
 replace hm := bif_t hc529 hm
 refine wp_ift (cvb hc529) ?_
 refine wp_seq (wrl (wv (.bool true) z z z (wl_nil (tn (wp_ret (then_r (blk_r (then_r (then_r ?_)))))))))
 replace hm := inr_up hm hx515
 refine blk_r (then_r ?_)
 replace hm := inr_up hm hx590
 obtain rfl := some_inj hm
 refine post_ret (vs := [.bool true]) results8 (rvs_cons (rv_tmp z) rvs_nil) ?_
 exact ⟨_, z, hI0, hst.keep0⟩
}
 {
 replace hm := bif_f hc529 hm
 refine wp_iff (cvb hc529) ?_
 refine wp_skip (tn (wp_seq ?_))
 obtain ⟨y563, hm, hx564⟩ := bind_some hm
 refine wp_mid (fun a w => ∃ (z560 : Nat) (b559 : Nat) (σ561 : Nat → Value), (law11_MvccBytes_j2 z503 x518 z505 z504) z560 = some y514 ∧ a = Fr 109 (upd (upd (upd (upd (upd σ561 1 (r1_0)) 6 (v506)) 8 (v350)) 10 (.int .i64 z504)) 11 (Pt b559 0)) ∧ St w0 w I508 [ownS ty_ref11_Version v506 z505, objO at_mvcc_Store v350 z503, cells b559 [F6 z560, U6 (u64.wrap (Int.tmod x518.E (8:Int))), U6 (u64.wrap (Int.tmod x518.I (5:Int))), .bool x518.Del, v526]] R) ?_ ?_
 {
 refine wp_region_St hst 32 [0, 1, 2, 3, 4, 5, 6, 7, 8, 9, 10, 11, 12, 13, 14, 15, 16, 17, 18, 19, 20, 21, 22, 23, 24, 25, 26, 27, 28, 29, 30, 31] [0, 0, 3, 7, 15, 0, 0, 96, 224, 480, 992, 2016, 0, 0, 12288, 28672, 61440, 126976, 258048, 0, 0, 1572864, 3670016, 7864320, 0, 0, 50331648, 117440512, 251658240, 536870911, 0, 2147483647] [] z (by kernel_rfl) (by kernel_rfl) Try.mixed (by kernel_rfl) ?_
 refine wsr (r1_0) 0 z z z (by kernel_rfl) (fun w hst => z) (wsr (.int .i64 z504) 1 z z z (by kernel_rfl) (fun w hst => z) (wsr (.pointer (some (eAddr r1_0 (z504.toNat * 6 + 0)))) 2 z z z (by kernel_rfl) (fun w hst => x_index z z underlying22 sizeOf64 (ro_sliceV f1_0) h520 h521) (wsr (.agg #[U1 x518.At, F6 x518.X, U1 x518.E, U1 x518.I, .bool x518.Del, v526]) 3 z z z (by kernel_rfl) (fun w hst => x_loadN (cs := [U1 x518.At, F6 x518.X, U1 x518.E, U1 x518.I, .bool x518.Del, v526]) z isAgg64 sizeOf64 (eCells (o := 0) (hc525 (HL.le.refl _) hst) z)) (wsr (r1_0) 5 z z z (by kernel_rfl) (fun w hst => z) (wsr (.int .i64 z504) 6 z z z (by kernel_rfl) (fun w hst => z) (wsr (.pointer (some (eAddr r1_0 (z504.toNat * 6 + 0)))) 7 z z z (by kernel_rfl) (fun w hst => x_index z z underlying22 sizeOf64 (ro_sliceV f1_0) h520 h521) (wsr (.pointer (some (eAddr r1_0 (z504.toNat * 6 + 2)))) 8 z z z (by kernel_rfl) (fun w hst => x_field_e z underlying64 z sizeOf5 z) (wsr (.int .u8 x518.E) 9 z z z (by kernel_rfl) (fun w hst => x_load z isAgg5 ((hc525 (HL.le.refl _) hst) 2 _ z)) (wsr (.int .u8 (Int.tmod x518.E (8:Int))) 10 z z z (by kernel_rfl) (fun w hst => x_rem (by decide) z z) (wsr (.int .u64 (u64.wrap (Int.tmod x518.E (8:Int)))) 11 z z z (by kernel_rfl) (fun w hst => by kernel_rfl) (wsr (r1_0) 12 z z z (by kernel_rfl) (fun w hst => z) (wsr (.int .i64 z504) 13 z z z (by kernel_rfl) (fun w hst => z) ?_))))))))))))
 refine wsr (.pointer (some (eAddr r1_0 (z504.toNat * 6 + 0)))) 14 z z z (by kernel_rfl) (fun w hst => x_index z z underlying22 sizeOf64 (ro_sliceV f1_0) h520 h521) (wsr (.pointer (some (eAddr r1_0 (z504.toNat * 6 + 3)))) 15 z z z (by kernel_rfl) (fun w hst => x_field_e z underlying64 z sizeOf5 z) (wsr (.int .u8 x518.I) 16 z z z (by kernel_rfl) (fun w hst => x_load z isAgg5 ((hc525 (HL.le.refl _) hst) 3 _ z)) (wsr (.int .u8 (Int.tmod x518.I (5:Int))) 17 z z z (by kernel_rfl) (fun w hst => x_rem (by decide) z z) (wsr (.int .u64 (u64.wrap (Int.tmod x518.I (5:Int)))) 18 z z z (by kernel_rfl) (fun w hst => by kernel_rfl) (wsr (r1_0) 19 z z z (by kernel_rfl) (fun w hst => z) (wsr (.int .i64 z504) 20 z z z (by kernel_rfl) (fun w hst => z) (wsr (.pointer (some (eAddr r1_0 (z504.toNat * 6 + 0)))) 21 z z z (by kernel_rfl) (fun w hst => x_index z z underlying22 sizeOf64 (ro_sliceV f1_0) h520 h521) (wsr (.pointer (some (eAddr r1_0 (z504.toNat * 6 + 4)))) 22 z z z (by kernel_rfl) (fun w hst => x_field_e z underlying64 z sizeOf4 z) (wsr (.bool x518.Del) 23 z z z (by kernel_rfl) (fun w hst => x_load z isAgg4 ((hc525 (HL.le.refl _) hst) 4 _ z)) (wsr (r1_0) 24 z z z (by kernel_rfl) (fun w hst => z) (wsr (.int .i64 z504) 25 z z z (by kernel_rfl) (fun w hst => z) (wsr (.pointer (some (eAddr r1_0 (z504.toNat * 6 + 0)))) 26 z z z (by kernel_rfl) (fun w hst => x_index z z underlying22 sizeOf64 (ro_sliceV f1_0) h520 h521) ?_))))))))))))
 refine wsr (.pointer (some (eAddr r1_0 (z504.toNat * 6 + 5)))) 27 z z z (by kernel_rfl) (fun w hst => x_field_e z underlying64 z sizeOf32 z) (wsr (v526) 28 z z z (by kernel_rfl) (fun w hst => x_load z isAgg32 ((hc525 (HL.le.refl _) hst) 5 _ z)) ?_)
 refine ws_e2 4 30 (by kernel_rfl) ?_ ?_
 {
 refine nxe [29, 30, 31] (by kernel_rfl) z z ?_
 clear hst
 intro w hst
 obtain ⟨t530, ht531, hm⟩ := bind_some hm
 refine wec call28 [.agg #[U1 x518.At, F6 x518.X, U1 x518.E, U1 x518.I, .bool x518.Del, v526]] z z ?_
 refine (law11_at_ref (f527.mono ro_rd) hst.to0 ht531).mono ?_
 rintro _ w532 ⟨rfl, hst⟩
 refine ⟨_, z, ?_⟩
 replace hst := hst.of0
 refine ws_next (pend' := [(28, v526), (27, .pointer (some (eAddr r1_0 (z504.toNat * 6 + 5)))), (26, .pointer (some (eAddr r1_0 (z504.toNat * 6 + 0)))), (25, I6 z504), (24, r1_0), (23, .bool x518.Del), (22, .pointer (some (eAddr r1_0 (z504.toNat * 6 + 4)))), (21, .pointer (some (eAddr r1_0 (z504.toNat * 6 + 0)))), (20, I6 z504), (19, r1_0), (18, U6 (u64.wrap (Int.tmod x518.I (5:Int)))), (17, U1 (Int.tmod x518.I (5:Int))), (16, U1 x518.I), (15, .pointer (some (eAddr r1_0 (z504.toNat * 6 + 3)))), (14, .pointer (some (eAddr r1_0 (z504.toNat * 6 + 0)))), (13, I6 z504), (12, r1_0), (11, U6 (u64.wrap (Int.tmod x518.E (8:Int)))), (10, U1 (Int.tmod x518.E (8:Int))), (9, U1 x518.E), (8, .pointer (some (eAddr r1_0 (z504.toNat * 6 + 2)))), (7, .pointer (some (eAddr r1_0 (z504.toNat * 6 + 0)))), (6, I6 z504), (5, r1_0)]) hst (by kernel_rfl) (pkr z z (fun w hst => x_load z isAgg32 ((hc525 (HL.le.refl _) hst) 5 _ z)) (pkr z z (fun w hst => x_field_e z underlying64 z sizeOf32 z) (pkr z z (fun w hst => x_index z z underlying22 sizeOf64 (ro_sliceV f1_0) h520 h521) (pkr z z (fun w hst => z) (pkr z z (fun w hst => z) (pkr z z (fun w hst => x_load z isAgg4 ((hc525 (HL.le.refl _) hst) 4 _ z)) (pkr z z (fun w hst => x_field_e z underlying64 z sizeOf4 z) (pkr z z (fun w hst => x_index z z underlying22 sizeOf64 (ro_sliceV f1_0) h520 h521) (pkr z z (fun w hst => z) (pkr z z (fun w hst => z) (pkr z z (fun w hst => by kernel_rfl) (pkr z z (fun w hst => x_rem (by decide) z z) (pkr z z (fun w hst => x_load z isAgg5 ((hc525 (HL.le.refl _) hst) 3 _ z)) (pkr z z (fun w hst => x_field_e z underlying64 z sizeOf5 z) (pkr z z (fun w hst => x_index z z underlying22 sizeOf64 (ro_sliceV f1_0) h520 h521) (pkr z z (fun w hst => z) (pkr z z (fun w hst => z) (pkr z z (fun w hst => by kernel_rfl) (pkr z z (fun w hst => x_rem (by decide) z z) (pkr z z (fun w hst => x_load z isAgg5 ((hc525 (HL.le.refl _) hst) 2 _ z)) (pkr z z (fun w hst => x_field_e z underlying64 z sizeOf5 z) (pkr z z (fun w hst => x_index z z underlying22 sizeOf64 (ro_sliceV f1_0) h520 h521) (pkr z z (fun w hst => z) (pkr z z (fun w hst => z) pk_nil)))))))))))))))))))))))) ?_
 refine wsr (.agg #[F6 t530, U6 (u64.wrap (Int.tmod x518.E (8:Int))), U6 (u64.wrap (Int.tmod x518.I (5:Int))), .bool x518.Del, v526]) 29 rfl rfl rfl (by kernel_rfl) (fun w hst => by obtain ⟨_, _, hv_, _⟩ := (ro_sliceV f527); rw [hv_]; kernel_rfl) ?_
 refine ws_e1 30 (by kernel_rfl) ?_
 refine nxe [31] (by kernel_rfl) z z ?_
 clear hst
 intro w hst
 obtain ⟨b537, w538, ew539, eb540, hst⟩ := hst.box [Zf, Zu, Zu, .bool false, Zs] 67
 refine we_run (v := Pt b537 0) (w' := w538) z (x_al (by kernel_rfl) ew539 eb540) ?_
 refine ws_next (pend' := [(29, .agg #[F6 t530, U6 (u64.wrap (Int.tmod x518.E (8:Int))), U6 (u64.wrap (Int.tmod x518.I (5:Int))), .bool x518.Del, v526]), (28, v526), (27, .pointer (some (eAddr r1_0 (z504.toNat * 6 + 5)))), (26, .pointer (some (eAddr r1_0 (z504.toNat * 6 + 0)))), (25, I6 z504), (24, r1_0), (23, .bool x518.Del), (22, .pointer (some (eAddr r1_0 (z504.toNat * 6 + 4)))), (21, .pointer (some (eAddr r1_0 (z504.toNat * 6 + 0)))), (20, I6 z504), (19, r1_0), (18, U6 (u64.wrap (Int.tmod x518.I (5:Int)))), (17, U1 (Int.tmod x518.I (5:Int))), (16, U1 x518.I), (15, .pointer (some (eAddr r1_0 (z504.toNat * 6 + 3)))), (14, .pointer (some (eAddr r1_0 (z504.toNat * 6 + 0)))), (13, I6 z504), (12, r1_0), (11, U6 (u64.wrap (Int.tmod x518.E (8:Int)))), (10, U1 (Int.tmod x518.E (8:Int))), (9, U1 x518.E), (8, .pointer (some (eAddr r1_0 (z504.toNat * 6 + 2)))), (7, .pointer (some (eAddr r1_0 (z504.toNat * 6 + 0)))), (6, I6 z504), (5, r1_0)]) hst (by kernel_rfl) (pkr rfl rfl (fun w hst => by obtain ⟨_, _, hv_, _⟩ := (ro_sliceV f527); rw [hv_]; kernel_rfl) (pkr rfl rfl (fun w hst => x_load rfl isAgg32 ((hc525 (HL.le.refl _) hst) 5 _ rfl)) (pkr rfl rfl (fun w hst => x_field_e rfl underlying64 rfl sizeOf32 rfl) (pkr rfl rfl (fun w hst => x_index rfl rfl underlying22 sizeOf64 (ro_sliceV f1_0) h520 h521) (pkr rfl rfl (fun w hst => rfl) (pkr rfl rfl (fun w hst => rfl) (pkr rfl rfl (fun w hst => x_load rfl isAgg4 ((hc525 (HL.le.refl _) hst) 4 _ rfl)) (pkr rfl rfl (fun w hst => x_field_e rfl underlying64 rfl sizeOf4 rfl) (pkr rfl rfl (fun w hst => x_index rfl rfl underlying22 sizeOf64 (ro_sliceV f1_0) h520 h521) (pkr rfl rfl (fun w hst => rfl) (pkr rfl rfl (fun w hst => rfl) (pkr rfl rfl (fun w hst => by kernel_rfl) (pkr rfl rfl (fun w hst => x_rem (by decide) rfl rfl) (pkr rfl rfl (fun w hst => x_load rfl isAgg5 ((hc525 (HL.le.refl _) hst) 3 _ rfl)) (pkr rfl rfl (fun w hst => x_field_e rfl underlying64 rfl sizeOf5 rfl) (pkr rfl rfl (fun w hst => x_index rfl rfl underlying22 sizeOf64 (ro_sliceV f1_0) h520 h521) (pkr rfl rfl (fun w hst => rfl) (pkr rfl rfl (fun w hst => rfl) (pkr rfl rfl (fun w hst => by kernel_rfl) (pkr rfl rfl (fun w hst => x_rem (by decide) rfl rfl) (pkr rfl rfl (fun w hst => x_load rfl isAgg5 ((hc525 (HL.le.refl _) hst) 2 _ rfl)) (pkr rfl rfl (fun w hst => x_field_e rfl underlying64 rfl sizeOf5 rfl) (pkr rfl rfl (fun w hst => x_index rfl rfl underlying22 sizeOf64 (ro_sliceV f1_0) h520 h521) (pkr rfl rfl (fun w hst => rfl) (pkr rfl rfl (fun w hst => rfl) pk_nil))))))))))))))))))))))))) ?_
 refine ws_e1 31 (by kernel_rfl) ?_
 refine nxe [] (by kernel_rfl) z z ?_
 clear hst
 intro w hst
 obtain ⟨w542, hr543, hst⟩ := hst.bx [F6 t530, U6 (u64.wrap (Int.tmod x518.E (8:Int))), U6 (u64.wrap (Int.tmod x518.I (5:Int))), .bool x518.Del, v526] sizeOf67 z (oC z (oC z (oC z (oC z (oC (one_of_sliceV (ro_sliceV f527)) oN))))) (by kernel_rfl)
 refine we_unit z (x_unit hr543) ?_
 refine ws_next (pend' := []) hst (by kernel_rfl) pk_nil ?_
 refine ws_nil ?_
 intro w hst
 refine ⟨z, ?_⟩
 replace hst := hst.pull1.pull2.keep3
 obtain rfl := some_inj hm
 exact ⟨t530, b537, _, hx564, (fu 1 r1_0 z (fu 6 v506 z (fu 8 v350 z (fu 10 (.int .i64 z504) z (fu 11 (Pt b537 0) z z))))), hst⟩
}
 {
 refine nxe [4, 29, 31] (by kernel_rfl) z z ?_
 clear hst
 intro w hst
 obtain ⟨b545, w546, ew547, eb548, hst⟩ := hst.box [Zf, Zu, Zu, .bool false, Zs] 67
 refine we_run (v := Pt b545 0) (w' := w546) z (x_al (by kernel_rfl) ew547 eb548) ?_
 refine ws_next (pend' := [(28, v526), (27, .pointer (some (eAddr r1_0 (z504.toNat * 6 + 5)))), (26, .pointer (some (eAddr r1_0 (z504.toNat * 6 + 0)))), (25, I6 z504), (24, r1_0), (23, .bool x518.Del), (22, .pointer (some (eAddr r1_0 (z504.toNat * 6 + 4)))), (21, .pointer (some (eAddr r1_0 (z504.toNat * 6 + 0)))), (20, I6 z504), (19, r1_0), (18, U6 (u64.wrap (Int.tmod x518.I (5:Int)))), (17, U1 (Int.tmod x518.I (5:Int))), (16, U1 x518.I), (15, .pointer (some (eAddr r1_0 (z504.toNat * 6 + 3)))), (14, .pointer (some (eAddr r1_0 (z504.toNat * 6 + 0)))), (13, I6 z504), (12, r1_0), (11, U6 (u64.wrap (Int.tmod x518.E (8:Int)))), (10, U1 (Int.tmod x518.E (8:Int))), (9, U1 x518.E), (8, .pointer (some (eAddr r1_0 (z504.toNat * 6 + 2)))), (7, .pointer (some (eAddr r1_0 (z504.toNat * 6 + 0)))), (6, I6 z504), (5, r1_0), (3, .agg #[U1 x518.At, F6 x518.X, U1 x518.E, U1 x518.I, .bool x518.Del, v526]), (2, .pointer (some (eAddr r1_0 (z504.toNat * 6 + 0)))), (1, I6 z504), (0, r1_0)]) hst (by kernel_rfl) (pkr z z (fun w hst => x_load z isAgg32 ((hc525 (HL.le.refl _) hst) 5 _ z)) (pkr z z (fun w hst => x_field_e z underlying64 z sizeOf32 z) (pkr z z (fun w hst => x_index z z underlying22 sizeOf64 (ro_sliceV f1_0) h520 h521) (pkr z z (fun w hst => z) (pkr z z (fun w hst => z) (pkr z z (fun w hst => x_load z isAgg4 ((hc525 (HL.le.refl _) hst) 4 _ z)) (pkr z z (fun w hst => x_field_e z underlying64 z sizeOf4 z) (pkr z z (fun w hst => x_index z z underlying22 sizeOf64 (ro_sliceV f1_0) h520 h521) (pkr z z (fun w hst => z) (pkr z z (fun w hst => z) (pkr z z (fun w hst => by kernel_rfl) (pkr z z (fun w hst => x_rem (by decide) z z) (pkr z z (fun w hst => x_load z isAgg5 ((hc525 (HL.le.refl _) hst) 3 _ z)) (pkr z z (fun w hst => x_field_e z underlying64 z sizeOf5 z) (pkr z z (fun w hst => x_index z z underlying22 sizeOf64 (ro_sliceV f1_0) h520 h521) (pkr z z (fun w hst => z) (pkr z z (fun w hst => z) (pkr z z (fun w hst => by kernel_rfl) (pkr z z (fun w hst => x_rem (by decide) z z) (pkr z z (fun w hst => x_load z isAgg5 ((hc525 (HL.le.refl _) hst) 2 _ z)) (pkr z z (fun w hst => x_field_e z underlying64 z sizeOf5 z) (pkr z z (fun w hst => x_index z z underlying22 sizeOf64 (ro_sliceV f1_0) h520 h521) (pkr z z (fun w hst => z) (pkr z z (fun w hst => z) (pkr z z (fun w hst => x_loadN (cs := [U1 x518.At, F6 x518.X, U1 x518.E, U1 x518.I, .bool x518.Del, v526]) z isAgg64 sizeOf64 (eCells (o := 0) (hc525 (HL.le.refl _) hst) z)) (pkr z z (fun w hst => x_index z z underlying22 sizeOf64 (ro_sliceV f1_0) h520 h521) (pkr z z (fun w hst => z) (pkr z z (fun w hst => z) pk_nil)))))))))))))))))))))))))))) ?_
 refine ws_e1 4 (by kernel_rfl) ?_
 refine nxe [29, 31] (by kernel_rfl) z z ?_
 clear hst
 intro w hst
 obtain ⟨t550, ht551, hm⟩ := bind_some hm
 refine wec call28 [.agg #[U1 x518.At, F6 x518.X, U1 x518.E, U1 x518.I, .bool x518.Del, v526]] z z ?_
 refine (law11_at_ref (f527.mono ro_rd) hst.to0 ht551).mono ?_
 rintro _ w552 ⟨rfl, hst⟩
 refine ⟨_, z, ?_⟩
 replace hst := hst.of0
 refine ws_next (pend' := [(28, v526), (27, .pointer (some (eAddr r1_0 (z504.toNat * 6 + 5)))), (26, .pointer (some (eAddr r1_0 (z504.toNat * 6 + 0)))), (25, I6 z504), (24, r1_0), (23, .bool x518.Del), (22, .pointer (some (eAddr r1_0 (z504.toNat * 6 + 4)))), (21, .pointer (some (eAddr r1_0 (z504.toNat * 6 + 0)))), (20, I6 z504), (19, r1_0), (18, U6 (u64.wrap (Int.tmod x518.I (5:Int)))), (17, U1 (Int.tmod x518.I (5:Int))), (16, U1 x518.I), (15, .pointer (some (eAddr r1_0 (z504.toNat * 6 + 3)))), (14, .pointer (some (eAddr r1_0 (z504.toNat * 6 + 0)))), (13, I6 z504), (12, r1_0), (11, U6 (u64.wrap (Int.tmod x518.E (8:Int)))), (10, U1 (Int.tmod x518.E (8:Int))), (9, U1 x518.E), (8, .pointer (some (eAddr r1_0 (z504.toNat * 6 + 2)))), (7, .pointer (some (eAddr r1_0 (z504.toNat * 6 + 0)))), (6, I6 z504), (5, r1_0)]) hst (by kernel_rfl) (pkr z z (fun w hst => x_load z isAgg32 ((hc525 (HL.le.refl _) hst) 5 _ z)) (pkr z z (fun w hst => x_field_e z underlying64 z sizeOf32 z) (pkr z z (fun w hst => x_index z z underlying22 sizeOf64 (ro_sliceV f1_0) h520 h521) (pkr z z (fun w hst => z) (pkr z z (fun w hst => z) (pkr z z (fun w hst => x_load z isAgg4 ((hc525 (HL.le.refl _) hst) 4 _ z)) (pkr z z (fun w hst => x_field_e z underlying64 z sizeOf4 z) (pkr z z (fun w hst => x_index z z underlying22 sizeOf64 (ro_sliceV f1_0) h520 h521) (pkr z z (fun w hst => z) (pkr z z (fun w hst => z) (pkr z z (fun w hst => by kernel_rfl) (pkr z z (fun w hst => x_rem (by decide) z z) (pkr z z (fun w hst => x_load z isAgg5 ((hc525 (HL.le.refl _) hst) 3 _ z)) (pkr z z (fun w hst => x_field_e z underlying64 z sizeOf5 z) (pkr z z (fun w hst => x_index z z underlying22 sizeOf64 (ro_sliceV f1_0) h520 h521) (pkr z z (fun w hst => z) (pkr z z (fun w hst => z) (pkr z z (fun w hst => by kernel_rfl) (pkr z z (fun w hst => x_rem (by decide) z z) (pkr z z (fun w hst => x_load z isAgg5 ((hc525 (HL.le.refl _) hst) 2 _ z)) (pkr z z (fun w hst => x_field_e z underlying64 z sizeOf5 z) (pkr z z (fun w hst => x_index z z underlying22 sizeOf64 (ro_sliceV f1_0) h520 h521) (pkr z z (fun w hst => z) (pkr z z (fun w hst => z) pk_nil)))))))))))))))))))))))) ?_
 refine wsr (.agg #[F6 t550, U6 (u64.wrap (Int.tmod x518.E (8:Int))), U6 (u64.wrap (Int.tmod x518.I (5:Int))), .bool x518.Del, v526]) 29 rfl rfl rfl (by kernel_rfl) (fun w hst => by obtain ⟨_, _, hv_, _⟩ := (ro_sliceV f527); rw [hv_]; kernel_rfl) ?_
 refine ws_e1 31 (by kernel_rfl) ?_
 refine nxe [] (by kernel_rfl) z z ?_
 clear hst
 intro w hst
 obtain ⟨w556, hr557, hst⟩ := hst.bx [F6 t550, U6 (u64.wrap (Int.tmod x518.E (8:Int))), U6 (u64.wrap (Int.tmod x518.I (5:Int))), .bool x518.Del, v526] sizeOf67 z (oC z (oC z (oC z (oC z (oC (one_of_sliceV (ro_sliceV f527)) oN))))) (by kernel_rfl)
 refine we_unit z (x_unit hr557) ?_
 refine ws_next (pend' := []) hst (by kernel_rfl) pk_nil ?_
 refine ws_nil ?_
 intro w hst
 refine ⟨z, ?_⟩
 replace hst := hst.pull1.pull2.keep3
 obtain rfl := some_inj hm
 exact ⟨t550, b545, _, hx564, (fu 1 r1_0 z (fu 6 v506 z (fu 8 v350 z (fu 10 (.int .i64 z504) z (fu 11 (Pt b545 0) z z))))), hst⟩
}
}
 {
 clear hst
 rintro _ w565 ⟨z560, b559, σ561, hm, rfl, hst⟩
 dsimp only [law11_MvccBytes_j2] at hm
 refine tn (wp_seq (wrl (wv (v350) z z z (wv (Pt b559 0) z z (x_field z underlying67 z sizeOf23 z) (wv (.float .f64 z560) z z (x_load z isAgg23 (hst.bc2 z)) (wv (Pt b559 1) z z (x_field z underlying67 z sizeOf24 z) (wv (.int .u64 (u64.wrap (Int.tmod x518.E (8:Int)))) z z (x_load z isAgg24 (hst.bc2 z)) (wv (Pt b559 2) z z (x_field z underlying67 z sizeOf24 z) (wv (.int .u64 (u64.wrap (Int.tmod x518.I (5:Int)))) z z (x_load z isAgg24 (hst.bc2 z)) (wv (Pt b559 3) z z (x_field z underlying67 z sizeOf4 z) (wv (.bool x518.Del) z z (x_load z isAgg4 (hst.bc2 z)) (wv (Pt b559 4) z z (x_field z underlying67 z sizeOf32 z) (wv (v526) z z (x_load z isAgg32 (hst.bc2 z)) (wv (.agg #[U6 (u64.wrap (Int.tmod x518.E (8:Int))), U6 (u64.wrap (Int.tmod x518.I (5:Int))), .bool x518.Del, v526]) z z (by obtain ⟨_, _, hv_, _⟩ := (ro_sliceV f527); rw [hv_]; kernel_rfl) ?_))))))))))))))
 replace hst := hst.pull1
 obtain ⟨t567, ht568, hm⟩ := bind_some hm
 refine wc call22 [v350, F6 z560, .agg #[U6 (u64.wrap (Int.tmod x518.E (8:Int))), U6 (u64.wrap (Int.tmod x518.I (5:Int))), .bool x518.Del, v526]] z z z ?_
 refine (mvcc_Store_Put_ref (a2 := ({ Epoch := (u64.wrap (Int.tmod x518.E (8:Int))), Index := (u64.wrap (Int.tmod x518.I (5:Int))), Del := x518.Del, Val := x518.V } : mvcc_Version)) (f527.mono ro_rd) hst.to1 ht568).mono ?_
 rintro _ w569 ⟨I570, rfl, hI571, hst⟩
 refine ⟨_, z, ?_⟩
 replace hst := hst.of1
 replace f0_0 := f0_0.mono (ro_le hI571)
 replace f1_0 := f1_0.mono (ro_le hI571)
 replace f344 := f344.mono (ro_le hI571)
 replace f527 := f527.mono (ro_le hI571)
 replace hI0 := hI0.trans hI571
 replace hL591 := hL591.trans hI571
 replace hL512 := hL512.trans hI571
 refine wl_nil (tn (wrl (wv (v506) z z z (wv (.agg #[F6 z560, U6 (u64.wrap (Int.tmod x518.E (8:Int))), U6 (u64.wrap (Int.tmod x518.I (5:Int))), .bool x518.Del, v526]) z z (x_loadN (cs := [F6 z560, U6 (u64.wrap (Int.tmod x518.E (8:Int))), U6 (u64.wrap (Int.tmod x518.I (5:Int))), .bool x518.Del, v526]) z isAgg67 sizeOf67 (hst.bcs2 0 z)) ?_))))
 replace hst := hst.pull1
 obtain ⟨I572, hI573, f574, hst⟩ := hst.own_fix
 replace f0_0 := f0_0.mono (ro_le hI573)
 replace f1_0 := f1_0.mono (ro_le hI573)
 replace f344 := f344.mono (ro_le hI573)
 replace f527 := f527.mono (ro_le hI573)
 replace hI0 := hI0.trans hI573
 replace hL591 := hL591.trans hI573
 replace hL512 := hL512.trans hI573
 obtain ⟨t575, ht576, hm⟩ := bind_some hm
 refine wc call29 [v506, .agg #[F6 z560, U6 (u64.wrap (Int.tmod x518.E (8:Int))), U6 (u64.wrap (Int.tmod x518.I (5:Int))), .bool x518.Del, v526]] z z z ?_
 refine (ref11_Put_ref (a1 := ({ At := z560, Epoch := (u64.wrap (Int.tmod x518.E (8:Int))), Index := (u64.wrap (Int.tmod x518.I (5:Int))), Del := x518.Del, Val := x518.V } : ref11_Version)) f574 f527 hst.to0 ht576).mono ?_
 rintro _ w577 ⟨v580, rfl, hst⟩
 refine ⟨_, z, ?_⟩
 replace hst := hst.of1
 refine wv (v580) z z z (wl_nil (blk_n (tn (wrl (wv (.int .i64 z504) z z z (wv (.int .i64 (i64.wrap (z504 + (1:Int)))) z z z (wv (.int .i64 (i64.wrap (z504 + (1:Int)))) z z z (wl_nil (tn ?_)))))))))
 replace hst := hst.pull1.keep2
 obtain rfl := some_inj hm
 exact ⟨_, Nat.lt_succ_self _, _, t567, (i64.wrap (z504 + (1:Int))), t575, v580, _, hx515, (fu 1 r1_0 z (fu 6 v580 z (fu 8 v350 z (fu 10 (.int .i64 (i64.wrap (z504 + (1:Int)))) z z)))), hL512, hst⟩
}
}
}
 {
 replace hm := bif_f hc517 hm
 refine wp_iff (cvb hc517) ?_
 refine wp_exit (then_x (then_x ?_))
 replace hm := inr_up hm hx515
 refine blk_x (tn ?_)
 replace hst := hst.pull1.keep2
 obtain rfl := some_inj hm
 exact ⟨_, z505, z503, v506, _, hx590, (fu 6 v506 z (fu 8 v350 z z)), hL591, hst⟩
}
}
 {
 clear hst
 rintro _ w592 ⟨I586, z584, z585, v583, σ587, hm, rfl, hL588, hst⟩
 dsimp only [law11_MvccBytes_j0] at hm
 replace f0_0 := f0_0.mono (ro_le hL588)
 replace f1_0 := f1_0.mono (ro_le hL588)
 replace f344 := f344.mono (ro_le hL588)
 replace hI0 := hI0.trans hL588
 refine wp_seq (wrl (wv (v350) z z z (wv (v583) z z z ?_)))
 obtain ⟨I593, hI594, f595, hst⟩ := hst.own_fix
 replace f0_0 := f0_0.mono (ro_le hI594)
 replace f1_0 := f1_0.mono (ro_le hI594)
 replace f344 := f344.mono (ro_le hI594)
 replace hI0 := hI0.trans hI594
 obtain ⟨t596, ht597, hm⟩ := bind_some hm
 refine wc call11 [v350, v583] z z z ?_
 refine (law11_told_ref f595 hst.to1 ht597).mono ?_
 rintro _ w598 ⟨I599, rfl, hI600, hst⟩
 refine ⟨_, z, ?_⟩
 replace hst := hst.of1
 replace f0_0 := f0_0.mono (ro_le hI600)
 replace f1_0 := f1_0.mono (ro_le hI600)
 replace f344 := f344.mono (ro_le hI600)
 replace f595 := f595.mono (ro_le hI600)
 replace hI0 := hI0.trans hI600
 refine wv (.bool t596) z z z (wl_nil (tn (wp_ret ?_)))
 obtain rfl := some_inj hm
 refine post_ret (vs := [.bool t596]) results8 (rvs_cons (rv_tmp z) rvs_nil) ?_
 exact ⟨_, z, hI0, hst.keep0⟩
}
}
}
}
}
}
}

end Go.Proofs.Ytbdnbohbmgmonaa
