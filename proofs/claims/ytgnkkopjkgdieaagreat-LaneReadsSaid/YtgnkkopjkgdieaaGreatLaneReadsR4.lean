/- The Go functions refine their models, part 4. -/
import Derived.Test.YtgnkkopjkgdieaaGreatLaneReadsR3
set_option linter.unusedVariables false
set_option linter.unusedSimpArgs false
set_option maxRecDepth 100000
set_option maxHeartbeats 4000000
namespace Go.Proofs.YtgnkkopjkgdieaaGreat
open Go Go.V
open _root_.Go.Proofs.Tryz IntKind
attribute [local irreducible] wpList Code.wp wpQuiet Calls bodyPost Oper.wp wpS Nx PendOK YieldsIn
theorem ref11_last_ref {w0 w : World} {I : HL} {R : SP} {a0 : (List ref11_Version)} {r0_0 : Value} {a1 : Nat} {a2 : Int} (f0_0 : Rd ty_ref11_Version R I r0_0 a0) (hst : St w0 w I [] R) {r : (Int)} (hm : ref11_last a0 a1 a2 = some r) :
  Calls prog 149 #[r0_0, F6 a1, U6 a2] w fun e w' => e = .returned (.int .i64 r) ∧ St w0 w' I [] R := by {
 unfold ref11_last at hm
 refine calls_start (args := [r0_0, F6 a1, U6 a2]) func149 z ntmps149 (Nat.le_of_ble_eq_true z) ?_
 refine wp_seq (wrl (wv (.int .i64 (0:Int)) z z z (wl_nil (tn (wp_seq (wrl (wv (.int .i64 ((-1):Int)) z z z (wl_nil (tn (wp_seq (wp_seq (wrl (wv (.int .i64 (0:Int)) z z z (wl_nil (tn (wp_block ?_))))))))))))))))
 obtain ⟨n581, hm⟩ := loopO_some hm
 refine wp_loop_n (fun n a w => ∃ (z578 : Int) (z579 : Int) (σ580 : Nat → Value), loopN (ref11_last_l0 a0 a1 a2) n (z578, z579) = some r ∧ a = Fr 76 (upd (upd (upd (upd (upd σ580 0 (r0_0)) 1 (.float .f64 a1)) 2 (.int .u64 a2)) 7 (.int .i64 z578)) 8 (.int .i64 z579)) ∧ St w0 w I [] R) n581 ⟨((-1):Int), (0:Int), _, hm, (fu 0 r0_0 z (fu 1 (.float .f64 a1) z (fu 2 (.int .u64 a2) z (fu 7 (.int .i64 ((-1):Int)) z (fu 8 (.int .i64 (0:Int)) z z))))), hst⟩ ?_
 rintro n587 _ w582 ⟨z578, z579, σ580, hm, rfl, hst⟩
 obtain ⟨n584, y585, rfl, hm, hx586⟩ := loopN_some hm
 dsimp only [ref11_last_l0] at hm
 refine wp_seq (wp_seq (wrl (wv (.int .i64 z579) z z z (wv (r0_0) z z z (wv (.int .i64 ((a0).length : Int)) z z (x_len z underlying124 (rd_sliceV f0_0)) (wv (.bool (decide (z579 < ((a0).length : Int)))) z z z (wl_nil (tn ?_))))))))
 refine bsplit (decide (z579 < ((a0).length : Int))) (fun hc588 => ?_) (fun hc588 => ?_)
 {
 replace hm := bif_t hc588 hm
 refine wp_ift (cvb hc588) ?_
 refine wp_skip (tn (wp_seq (wp_block (wp_seq ?_))))
 refine wp_region_St hst 59 [0, 1, 2, 3, 4, 5, 6, 7, 8, 9, 10, 11, 12, 13, 14, 15, 16, 17, 18, 19, 20, 21, 22, 23, 24, 25, 26, 27, 28, 29, 30, 31, 32, 33, 34, 35, 36, 37, 38, 39, 40, 41, 42, 43, 44, 45, 46, 47, 48, 49, 50, 51, 52, 53, 54, 55, 56, 57, 58] [0, 0, 3, 7, 15, 0, 63, 127, 255, 255, 1023, 2047, 4095, 255, 16383, 32767, 65535, 131071, 262143, 524287, 1048575, 1048575, 4194303, 8388607, 16777215, 1048575, 1048575, 101711871, 235929599, 504365055, 1073741823, 2147483647, 4294967295, 8589934591, 8589934591, 34359738367, 68719476735, 137438953471, 8589934591, 8589934591, 833223655423, 1932735283199, 4131758538751, 8796093022207, 17592186044415, 35184372088831, 35184372088831, 140737488355327, 281474976710655, 562949953421311, 35184372088831, 35184372088831, 3412884092616703, 7916483719987199, 16923682974728191, 36028797018963967, 72057594037927935, 144115188075855871, 288230376151711743] [] z (by kernel_rfl) (by kernel_rfl) Tryz.mixed (by kernel_rfl) ?_
 refine wsr (r0_0) 0 z z z (by kernel_rfl) (fun w hst => z) (wsr (.int .i64 z579) 1 z z z (by kernel_rfl) (fun w hst => z) ?_)
 obtain ⟨x589, hx590, hm⟩ := bind_some hm
 obtain ⟨h591, h592, hi593⟩ := geto_some hx590
 refine wsr (.pointer (some (eAddr r0_0 (z579.toNat * 5 + 0)))) 2 z z z (by kernel_rfl) (fun w hst => x_index z z underlying124 sizeOf139 (rd_sliceV f0_0) h591 h592) (wsr (.pointer (some (eAddr r0_0 (z579.toNat * 5 + 0)))) 3 z z z (by kernel_rfl) (fun w hst => x_field_e z underlying139 z sizeOf37 z) ?_)
 obtain ⟨cs594, hr595, hc596⟩ := Rd.getF f0_0 hi593
 obtain ⟨v597, rfl, f598, -⟩ := hr595
 refine wsr (.float .f64 x589.At) 4 z z z (by kernel_rfl) (fun w hst => x_load z isAgg37 ((hc596 (HL.le.refl _) hst) 0 _ z)) (wsr (.float .f64 a1) 5 z z z (by kernel_rfl) (fun w hst => z) ?_)
 refine ws_e1 6 (by kernel_rfl) ?_
 refine nxe [7, 8, 9, 10, 11, 12, 13, 14, 15, 16, 17, 18, 19, 20, 21, 22, 23, 24, 25, 26, 27, 28, 29, 30, 31, 32, 33, 34, 35, 36, 37, 38, 39, 40, 41, 42, 43, 44, 45, 46, 47, 48, 49, 50, 51, 52, 53, 54, 55, 56, 57, 58] (by kernel_rfl) z z ?_
 clear hst
 intro w hst
 obtain ⟨t600, ht601, hm⟩ := bind_some hm
 refine wec call20 [F6 x589.At, F6 a1] z z ?_
 refine (ref01_Same_ref hst.to0 ht601).mono ?_
 rintro _ w602 ⟨rfl, hst⟩
 refine ⟨_, z, ?_⟩
 replace hst := hst.of0
 refine ws_next (pend' := []) hst (by kernel_rfl) pk_nil ?_
 refine wsr (.bool t600) 7 z z z (by kernel_rfl) (fun w hst => z) ?_
 refine bsplit t600 (fun hc605 => ?_) (fun hc605 => ?_)
 {
 replace hm := bif_t hc605 hm
 refine ws_q (v := r0_0) 8 [9, 10, 11, 12, 13, 14, 15, 16, 17, 18, 19, 20, 21, 22, 23, 24, 25, 26, 27, 28, 29, 30, 31, 32, 33, 34, 35, 36, 37, 38, 39, 40, 41, 42, 43, 44, 45, 46, 47, 48, 49, 50, 51, 52, 53, 54, 55, 56, 57, 58] (by kernel_rfl) z z (yi_run ((wanted_eq z z z (cvb hc605)).trans z) (fun w hst => z)) (ws_q (v := .int .i64 z579) 9 [10, 11, 12, 13, 14, 15, 16, 17, 18, 19, 20, 21, 22, 23, 24, 25, 26, 27, 28, 29, 30, 31, 32, 33, 34, 35, 36, 37, 38, 39, 40, 41, 42, 43, 44, 45, 46, 47, 48, 49, 50, 51, 52, 53, 54, 55, 56, 57, 58] (by kernel_rfl) z z (yi_run ((wanted_eq z z z (cvb hc605)).trans z) (fun w hst => z)) (ws_q (v := .pointer (some (eAddr r0_0 (z579.toNat * 5 + 0)))) 10 [11, 12, 13, 14, 15, 16, 17, 18, 19, 20, 21, 22, 23, 24, 25, 26, 27, 28, 29, 30, 31, 32, 33, 34, 35, 36, 37, 38, 39, 40, 41, 42, 43, 44, 45, 46, 47, 48, 49, 50, 51, 52, 53, 54, 55, 56, 57, 58] (by kernel_rfl) z z (yi_run ((wanted_eq z z z (cvb hc605)).trans z) (fun w hst => x_index z z underlying124 sizeOf139 (rd_sliceV f0_0) h591 h592)) (ws_q (v := .pointer (some (eAddr r0_0 (z579.toNat * 5 + 1)))) 11 [12, 13, 14, 15, 16, 17, 18, 19, 20, 21, 22, 23, 24, 25, 26, 27, 28, 29, 30, 31, 32, 33, 34, 35, 36, 37, 38, 39, 40, 41, 42, 43, 44, 45, 46, 47, 48, 49, 50, 51, 52, 53, 54, 55, 56, 57, 58] (by kernel_rfl) z z (yi_run ((wanted_eq z z z (cvb hc605)).trans z) (fun w hst => x_field_e z underlying139 z sizeOf26 z)) ?_)))
 obtain ⟨cs606, hr607, hc608⟩ := Rd.getF f0_0 hi593
 obtain ⟨v609, rfl, f610, -⟩ := hr607
 refine ws_q (v := .int .u64 x589.Epoch) 12 [13, 14, 15, 16, 17, 18, 19, 20, 21, 22, 23, 24, 25, 26, 27, 28, 29, 30, 31, 32, 33, 34, 35, 36, 37, 38, 39, 40, 41, 42, 43, 44, 45, 46, 47, 48, 49, 50, 51, 52, 53, 54, 55, 56, 57, 58] (by kernel_rfl) z z (yi_run ((wanted_eq z z z (cvb hc605)).trans z) (fun w hst => x_load z isAgg26 ((hc608 (HL.le.refl _) hst) 1 _ z))) (ws_q (v := .int .u64 a2) 13 [14, 15, 16, 17, 18, 19, 20, 21, 22, 23, 24, 25, 26, 27, 28, 29, 30, 31, 32, 33, 34, 35, 36, 37, 38, 39, 40, 41, 42, 43, 44, 45, 46, 47, 48, 49, 50, 51, 52, 53, 54, 55, 56, 57, 58] (by kernel_rfl) z z (yi_run ((wanted_eq z z z (cvb hc605)).trans z) (fun w hst => z)) (ws_q (v := .bool (decide (x589.Epoch ≤ a2))) 14 [15, 16, 17, 18, 19, 20, 21, 22, 23, 24, 25, 26, 27, 28, 29, 30, 31, 32, 33, 34, 35, 36, 37, 38, 39, 40, 41, 42, 43, 44, 45, 46, 47, 48, 49, 50, 51, 52, 53, 54, 55, 56, 57, 58] (by kernel_rfl) z z (yi_run ((wanted_eq z z z (cvb hc605)).trans z) (fun w hst => z)) (wsr (.bool (decide (x589.Epoch ≤ a2))) 15 z z z (by kernel_rfl) (fun w hst => x_pick_t hc605 z z) (wsr (.bool (decide (x589.Epoch ≤ a2))) 16 z z z (by kernel_rfl) (fun w hst => z) ?_))))
 refine bsplit (decide (x589.Epoch ≤ a2)) (fun hc612 => ?_) (fun hc612 => ?_)
 {
 replace hm := bif_t hc612 hm
 refine ws_q (v := .int .i64 z578) 17 [18, 19, 20, 21, 22, 23, 24, 25, 26, 27, 28, 29, 30, 31, 32, 33, 34, 35, 36, 37, 38, 39, 40, 41, 42, 43, 44, 45, 46, 47, 48, 49, 50, 51, 52, 53, 54, 55, 56, 57, 58] (by kernel_rfl) z z (yi_run ((wanted_eq z z z (cvb hc612)).trans z) (fun w hst => z)) (ws_q (v := .bool (decide (z578 < (0:Int)))) 18 [19, 20, 21, 22, 23, 24, 25, 26, 27, 28, 29, 30, 31, 32, 33, 34, 35, 36, 37, 38, 39, 40, 41, 42, 43, 44, 45, 46, 47, 48, 49, 50, 51, 52, 53, 54, 55, 56, 57, 58] (by kernel_rfl) z z (yi_run ((wanted_eq z z z (cvb hc612)).trans z) (fun w hst => z)) (ws_q (v := .bool (decide (z578 < (0:Int)))) 19 [20, 21, 22, 23, 24, 25, 26, 27, 28, 29, 30, 31, 32, 33, 34, 35, 36, 37, 38, 39, 40, 41, 42, 43, 44, 45, 46, 47, 48, 49, 50, 51, 52, 53, 54, 55, 56, 57, 58] (by kernel_rfl) z z (yi_run ((wanted_eq z z z (cvb hc612)).trans z) (fun w hst => z)) ?_))
 refine bsplit (decide (z578 < (0:Int))) (fun hc613 => ?_) (fun hc613 => ?_)
 {
 replace hm := bif_t hc613 hm
 refine ws_q (v := undef) 20 [21, 22, 23, 24, 25, 26, 27, 28, 29, 30, 31, 32, 33, 34, 35, 36, 37, 38, 39, 40, 41, 42, 43, 44, 45, 46, 47, 48, 49, 50, 51, 52, 53, 54, 55, 56, 57, 58] (by kernel_rfl) z z (yi_off ((wanted_eq z z z (cvb hc613)).trans z)) (ws_q (v := undef) 21 [22, 23, 24, 25, 26, 27, 28, 29, 30, 31, 32, 33, 34, 35, 36, 37, 38, 39, 40, 41, 42, 43, 44, 45, 46, 47, 48, 49, 50, 51, 52, 53, 54, 55, 56, 57, 58] (by kernel_rfl) z z (yi_off ((wanted_eq z z z (cvb hc613)).trans z)) (ws_q (v := undef) 22 [23, 24, 25, 26, 27, 28, 29, 30, 31, 32, 33, 34, 35, 36, 37, 38, 39, 40, 41, 42, 43, 44, 45, 46, 47, 48, 49, 50, 51, 52, 53, 54, 55, 56, 57, 58] (by kernel_rfl) z z (yi_off ((wanted_eq z z z (cvb hc613)).trans z)) (ws_q (v := undef) 23 [24, 25, 26, 27, 28, 29, 30, 31, 32, 33, 34, 35, 36, 37, 38, 39, 40, 41, 42, 43, 44, 45, 46, 47, 48, 49, 50, 51, 52, 53, 54, 55, 56, 57, 58] (by kernel_rfl) z z (yi_off ((wanted_eq z z z (cvb hc613)).trans z)) (ws_q (v := undef) 24 [25, 26, 27, 28, 29, 30, 31, 32, 33, 34, 35, 36, 37, 38, 39, 40, 41, 42, 43, 44, 45, 46, 47, 48, 49, 50, 51, 52, 53, 54, 55, 56, 57, 58] (by kernel_rfl) z z (yi_off ((wanted_eq z z z (cvb hc613)).trans z)) (ws_q (v := undef) 25 [26, 27, 28, 29, 30, 31, 32, 33, 34, 35, 36, 37, 38, 39, 40, 41, 42, 43, 44, 45, 46, 47, 48, 49, 50, 51, 52, 53, 54, 55, 56, 57, 58] (by kernel_rfl) z z (yi_off ((wanted_eq z z z (cvb hc613)).trans z)) (ws_q (v := undef) 26 [27, 28, 29, 30, 31, 32, 33, 34, 35, 36, 37, 38, 39, 40, 41, 42, 43, 44, 45, 46, 47, 48, 49, 50, 51, 52, 53, 54, 55, 56, 57, 58] (by kernel_rfl) z z (yi_off ((wanted_eq z z z (cvb hc613)).trans z)) (ws_q (v := undef) 27 [28, 29, 30, 31, 32, 33, 34, 35, 36, 37, 38, 39, 40, 41, 42, 43, 44, 45, 46, 47, 48, 49, 50, 51, 52, 53, 54, 55, 56, 57, 58] (by kernel_rfl) z z (yi_off ((wanted_eq z z z (cvb hc613)).trans z)) (ws_q (v := undef) 28 [29, 30, 31, 32, 33, 34, 35, 36, 37, 38, 39, 40, 41, 42, 43, 44, 45, 46, 47, 48, 49, 50, 51, 52, 53, 54, 55, 56, 57, 58] (by kernel_rfl) z z (yi_off ((wanted_eq z z z (cvb hc613)).trans z)) (ws_q (v := undef) 29 [30, 31, 32, 33, 34, 35, 36, 37, 38, 39, 40, 41, 42, 43, 44, 45, 46, 47, 48, 49, 50, 51, 52, 53, 54, 55, 56, 57, 58] (by kernel_rfl) z z (yi_off ((wanted_eq z z z (cvb hc613)).trans z)) (ws_q (v := undef) 30 [31, 32, 33, 34, 35, 36, 37, 38, 39, 40, 41, 42, 43, 44, 45, 46, 47, 48, 49, 50, 51, 52, 53, 54, 55, 56, 57, 58] (by kernel_rfl) z z (yi_off ((wanted_eq z z z (cvb hc613)).trans z)) (ws_q (v := .bool true) 31 [32, 33, 34, 35, 36, 37, 38, 39, 40, 41, 42, 43, 44, 45, 46, 47, 48, 49, 50, 51, 52, 53, 54, 55, 56, 57, 58] (by kernel_rfl) z z (yi_run ((wanted_eq z z z (cvb hc612)).trans z) (fun w hst => x_pick_t hc613 z z)) (ws_q (v := .bool true) 32 [33, 34, 35, 36, 37, 38, 39, 40, 41, 42, 43, 44, 45, 46, 47, 48, 49, 50, 51, 52, 53, 54, 55, 56, 57, 58] (by kernel_rfl) z z (yi_run ((wanted_eq z z z (cvb hc612)).trans z) (fun w hst => z)) ?_))))))))))))
 refine ws_q (v := undef) 33 [34, 35, 36, 37, 38, 39, 40, 41, 42, 43, 44, 45, 46, 47, 48, 49, 50, 51, 52, 53, 54, 55, 56, 57, 58] (by kernel_rfl) z z (yi_off ((wanted_eq z z z z).trans z)) (ws_q (v := undef) 34 [35, 36, 37, 38, 39, 40, 41, 42, 43, 44, 45, 46, 47, 48, 49, 50, 51, 52, 53, 54, 55, 56, 57, 58] (by kernel_rfl) z z (yi_off ((wanted_eq z z z z).trans z)) (ws_q (v := undef) 35 [36, 37, 38, 39, 40, 41, 42, 43, 44, 45, 46, 47, 48, 49, 50, 51, 52, 53, 54, 55, 56, 57, 58] (by kernel_rfl) z z (yi_off ((wanted_eq z z z z).trans z)) (ws_q (v := undef) 36 [37, 38, 39, 40, 41, 42, 43, 44, 45, 46, 47, 48, 49, 50, 51, 52, 53, 54, 55, 56, 57, 58] (by kernel_rfl) z z (yi_off ((wanted_eq z z z z).trans z)) (ws_q (v := undef) 37 [38, 39, 40, 41, 42, 43, 44, 45, 46, 47, 48, 49, 50, 51, 52, 53, 54, 55, 56, 57, 58] (by kernel_rfl) z z (yi_off ((wanted_eq z z z z).trans z)) (ws_q (v := undef) 38 [39, 40, 41, 42, 43, 44, 45, 46, 47, 48, 49, 50, 51, 52, 53, 54, 55, 56, 57, 58] (by kernel_rfl) z z (yi_off ((wanted_eq z z z z).trans z)) (ws_q (v := undef) 39 [40, 41, 42, 43, 44, 45, 46, 47, 48, 49, 50, 51, 52, 53, 54, 55, 56, 57, 58] (by kernel_rfl) z z (yi_off ((wanted_eq z z z z).trans z)) (ws_q (v := undef) 40 [41, 42, 43, 44, 45, 46, 47, 48, 49, 50, 51, 52, 53, 54, 55, 56, 57, 58] (by kernel_rfl) z z (yi_off ((wanted_eq z z z z).trans z)) (ws_q (v := undef) 41 [42, 43, 44, 45, 46, 47, 48, 49, 50, 51, 52, 53, 54, 55, 56, 57, 58] (by kernel_rfl) z z (yi_off ((wanted_eq z z z z).trans z)) (ws_q (v := undef) 42 [43, 44, 45, 46, 47, 48, 49, 50, 51, 52, 53, 54, 55, 56, 57, 58] (by kernel_rfl) z z (yi_off ((wanted_eq z z z z).trans z)) (ws_q (v := undef) 43 [44, 45, 46, 47, 48, 49, 50, 51, 52, 53, 54, 55, 56, 57, 58] (by kernel_rfl) z z (yi_off ((wanted_eq z z z z).trans z)) (ws_q (v := undef) 44 [45, 46, 47, 48, 49, 50, 51, 52, 53, 54, 55, 56, 57, 58] (by kernel_rfl) z z (yi_off ((wanted_eq z z z z).trans z)) (ws_q (v := undef) 45 [46, 47, 48, 49, 50, 51, 52, 53, 54, 55, 56, 57, 58] (by kernel_rfl) z z (yi_off (wanted_undef z z z z)) ?_))))))))))))
 refine ws_q (v := undef) 46 [47, 48, 49, 50, 51, 52, 53, 54, 55, 56, 57, 58] (by kernel_rfl) z z (yi_off (wanted_undef z z z z)) (ws_q (v := undef) 47 [48, 49, 50, 51, 52, 53, 54, 55, 56, 57, 58] (by kernel_rfl) z z (yi_off (wanted_undef z z z z)) (ws_q (v := undef) 48 [49, 50, 51, 52, 53, 54, 55, 56, 57, 58] (by kernel_rfl) z z (yi_off (wanted_undef z z z z)) (ws_q (v := undef) 49 [50, 51, 52, 53, 54, 55, 56, 57, 58] (by kernel_rfl) z z (yi_off (wanted_undef z z z z)) (ws_q (v := undef) 50 [51, 52, 53, 54, 55, 56, 57, 58] (by kernel_rfl) z z (yi_off (wanted_undef z z z z)) (ws_q (v := undef) 51 [52, 53, 54, 55, 56, 57, 58] (by kernel_rfl) z z (yi_off (wanted_undef z z z z)) (ws_q (v := undef) 52 [53, 54, 55, 56, 57, 58] (by kernel_rfl) z z (yi_off (wanted_undef z z z z)) (ws_q (v := undef) 53 [54, 55, 56, 57, 58] (by kernel_rfl) z z (yi_off (wanted_undef z z z z)) (ws_q (v := undef) 54 [55, 56, 57, 58] (by kernel_rfl) z z (yi_off (wanted_undef z z z z)) (ws_q (v := undef) 55 [56, 57, 58] (by kernel_rfl) z z (yi_off (wanted_undef z z z z)) (ws_q (v := undef) 56 [57, 58] (by kernel_rfl) z z (yi_off ((wanted_eq z z z z).trans z)) (ws_q (v := .bool true) 57 [58] (by kernel_rfl) z z (yi_run ((wanted_eq z z z (cvb hc612)).trans z) (fun w hst => x_pick_t z z z)) (wsr (.bool true) 58 z z z (by kernel_rfl) (fun w hst => x_pick_t hc612 z z) ?_))))))))))))
 refine ws_nil ?_
 intro w hst
 refine tn ?_
 refine wp_ift z ?_
 refine wrl (wv (.int .i64 z579) z z z (wv (.int .i64 z579) z z z (wl_nil (blk_n (tn (wrl (wv (.int .i64 z579) z z z (wv (.int .i64 (i64.wrap (z579 + (1:Int)))) z z z (wv (.int .i64 (i64.wrap (z579 + (1:Int)))) z z z (wl_nil (tn ?_)))))))))))
 replace hst := hst.keep0
 obtain rfl := some_inj hm
 exact ⟨_, Nat.lt_succ_self _, z579, (i64.wrap (z579 + (1:Int))), _, hx586, (fu 0 r0_0 z (fu 1 (.float .f64 a1) z (fu 2 (.int .u64 a2) z (fu 7 (.int .i64 z579) z (fu 8 (.int .i64 (i64.wrap (z579 + (1:Int)))) z z))))), hst⟩
}
 {
 replace hm := bif_f hc613 hm
 refine ws_q (v := r0_0) 20 [21, 22, 23, 24, 25, 26, 27, 28, 29, 30, 31, 32, 33, 34, 35, 36, 37, 38, 39, 40, 41, 42, 43, 44, 45, 46, 47, 48, 49, 50, 51, 52, 53, 54, 55, 56, 57, 58] (by kernel_rfl) z z (yi_run ((wanted_eq z z z (cvb hc613)).trans z) (fun w hst => z)) (ws_q (v := .int .i64 z578) 21 [22, 23, 24, 25, 26, 27, 28, 29, 30, 31, 32, 33, 34, 35, 36, 37, 38, 39, 40, 41, 42, 43, 44, 45, 46, 47, 48, 49, 50, 51, 52, 53, 54, 55, 56, 57, 58] (by kernel_rfl) z z (yi_run ((wanted_eq z z z (cvb hc613)).trans z) (fun w hst => z)) ?_)
 obtain ⟨x614, hx615, hm⟩ := bind_some hm
 obtain ⟨h616, h617, hi618⟩ := geto_some hx615
 refine ws_q (v := .pointer (some (eAddr r0_0 (z578.toNat * 5 + 0)))) 22 [23, 24, 25, 26, 27, 28, 29, 30, 31, 32, 33, 34, 35, 36, 37, 38, 39, 40, 41, 42, 43, 44, 45, 46, 47, 48, 49, 50, 51, 52, 53, 54, 55, 56, 57, 58] (by kernel_rfl) z z (yi_run ((wanted_eq z z z (cvb hc613)).trans z) (fun w hst => x_index z z underlying124 sizeOf139 (rd_sliceV f0_0) h616 h617)) (ws_q (v := .pointer (some (eAddr r0_0 (z578.toNat * 5 + 1)))) 23 [24, 25, 26, 27, 28, 29, 30, 31, 32, 33, 34, 35, 36, 37, 38, 39, 40, 41, 42, 43, 44, 45, 46, 47, 48, 49, 50, 51, 52, 53, 54, 55, 56, 57, 58] (by kernel_rfl) z z (yi_run ((wanted_eq z z z (cvb hc613)).trans z) (fun w hst => x_field_e z underlying139 z sizeOf26 z)) ?_)
 obtain ⟨cs619, hr620, hc621⟩ := Rd.getF f0_0 hi618
 obtain ⟨v622, rfl, f623, -⟩ := hr620
 refine ws_q (v := .int .u64 x614.Epoch) 24 [25, 26, 27, 28, 29, 30, 31, 32, 33, 34, 35, 36, 37, 38, 39, 40, 41, 42, 43, 44, 45, 46, 47, 48, 49, 50, 51, 52, 53, 54, 55, 56, 57, 58] (by kernel_rfl) z z (yi_run ((wanted_eq z z z (cvb hc613)).trans z) (fun w hst => x_load z isAgg26 ((hc621 (HL.le.refl _) hst) 1 _ z))) (ws_q (v := r0_0) 25 [26, 27, 28, 29, 30, 31, 32, 33, 34, 35, 36, 37, 38, 39, 40, 41, 42, 43, 44, 45, 46, 47, 48, 49, 50, 51, 52, 53, 54, 55, 56, 57, 58] (by kernel_rfl) z z (yi_run ((wanted_eq z z z (cvb hc613)).trans z) (fun w hst => z)) (ws_q (v := .int .i64 z579) 26 [27, 28, 29, 30, 31, 32, 33, 34, 35, 36, 37, 38, 39, 40, 41, 42, 43, 44, 45, 46, 47, 48, 49, 50, 51, 52, 53, 54, 55, 56, 57, 58] (by kernel_rfl) z z (yi_run ((wanted_eq z z z (cvb hc613)).trans z) (fun w hst => z)) (ws_q (v := .pointer (some (eAddr r0_0 (z579.toNat * 5 + 0)))) 27 [28, 29, 30, 31, 32, 33, 34, 35, 36, 37, 38, 39, 40, 41, 42, 43, 44, 45, 46, 47, 48, 49, 50, 51, 52, 53, 54, 55, 56, 57, 58] (by kernel_rfl) z z (yi_run ((wanted_eq z z z (cvb hc613)).trans z) (fun w hst => x_index z z underlying124 sizeOf139 (rd_sliceV f0_0) h591 h592)) (ws_q (v := .pointer (some (eAddr r0_0 (z579.toNat * 5 + 1)))) 28 [29, 30, 31, 32, 33, 34, 35, 36, 37, 38, 39, 40, 41, 42, 43, 44, 45, 46, 47, 48, 49, 50, 51, 52, 53, 54, 55, 56, 57, 58] (by kernel_rfl) z z (yi_run ((wanted_eq z z z (cvb hc613)).trans z) (fun w hst => x_field_e z underlying139 z sizeOf26 z)) (ws_q (v := .int .u64 x589.Epoch) 29 [30, 31, 32, 33, 34, 35, 36, 37, 38, 39, 40, 41, 42, 43, 44, 45, 46, 47, 48, 49, 50, 51, 52, 53, 54, 55, 56, 57, 58] (by kernel_rfl) z z (yi_run ((wanted_eq z z z (cvb hc613)).trans z) (fun w hst => x_load z isAgg26 ((hc608 (HL.le.refl _) hst) 1 _ z))) (ws_q (v := .bool (decide (x614.Epoch < x589.Epoch))) 30 [31, 32, 33, 34, 35, 36, 37, 38, 39, 40, 41, 42, 43, 44, 45, 46, 47, 48, 49, 50, 51, 52, 53, 54, 55, 56, 57, 58] (by kernel_rfl) z z (yi_run ((wanted_eq z z z (cvb hc613)).trans z) (fun w hst => z)) (ws_q (v := .bool (decide (x614.Epoch < x589.Epoch))) 31 [32, 33, 34, 35, 36, 37, 38, 39, 40, 41, 42, 43, 44, 45, 46, 47, 48, 49, 50, 51, 52, 53, 54, 55, 56, 57, 58] (by kernel_rfl) z z (yi_run ((wanted_eq z z z (cvb hc612)).trans z) (fun w hst => x_pick_f hc613 z z)) (ws_q (v := .bool (decide (x614.Epoch < x589.Epoch))) 32 [33, 34, 35, 36, 37, 38, 39, 40, 41, 42, 43, 44, 45, 46, 47, 48, 49, 50, 51, 52, 53, 54, 55, 56, 57, 58] (by kernel_rfl) z z (yi_run ((wanted_eq z z z (cvb hc612)).trans z) (fun w hst => z)) ?_))))))))
 refine bsplit (decide (x614.Epoch < x589.Epoch)) (fun hc625 => ?_) (fun hc625 => ?_)
 {
 replace hm := bif_t hc625 hm
 refine ws_q (v := undef) 33 [34, 35, 36, 37, 38, 39, 40, 41, 42, 43, 44, 45, 46, 47, 48, 49, 50, 51, 52, 53, 54, 55, 56, 57, 58] (by kernel_rfl) z z (yi_off ((wanted_eq z z z (cvb hc625)).trans z)) (ws_q (v := undef) 34 [35, 36, 37, 38, 39, 40, 41, 42, 43, 44, 45, 46, 47, 48, 49, 50, 51, 52, 53, 54, 55, 56, 57, 58] (by kernel_rfl) z z (yi_off ((wanted_eq z z z (cvb hc625)).trans z)) (ws_q (v := undef) 35 [36, 37, 38, 39, 40, 41, 42, 43, 44, 45, 46, 47, 48, 49, 50, 51, 52, 53, 54, 55, 56, 57, 58] (by kernel_rfl) z z (yi_off ((wanted_eq z z z (cvb hc625)).trans z)) (ws_q (v := undef) 36 [37, 38, 39, 40, 41, 42, 43, 44, 45, 46, 47, 48, 49, 50, 51, 52, 53, 54, 55, 56, 57, 58] (by kernel_rfl) z z (yi_off ((wanted_eq z z z (cvb hc625)).trans z)) (ws_q (v := undef) 37 [38, 39, 40, 41, 42, 43, 44, 45, 46, 47, 48, 49, 50, 51, 52, 53, 54, 55, 56, 57, 58] (by kernel_rfl) z z (yi_off ((wanted_eq z z z (cvb hc625)).trans z)) (ws_q (v := undef) 38 [39, 40, 41, 42, 43, 44, 45, 46, 47, 48, 49, 50, 51, 52, 53, 54, 55, 56, 57, 58] (by kernel_rfl) z z (yi_off ((wanted_eq z z z (cvb hc625)).trans z)) (ws_q (v := undef) 39 [40, 41, 42, 43, 44, 45, 46, 47, 48, 49, 50, 51, 52, 53, 54, 55, 56, 57, 58] (by kernel_rfl) z z (yi_off ((wanted_eq z z z (cvb hc625)).trans z)) (ws_q (v := undef) 40 [41, 42, 43, 44, 45, 46, 47, 48, 49, 50, 51, 52, 53, 54, 55, 56, 57, 58] (by kernel_rfl) z z (yi_off ((wanted_eq z z z (cvb hc625)).trans z)) (ws_q (v := undef) 41 [42, 43, 44, 45, 46, 47, 48, 49, 50, 51, 52, 53, 54, 55, 56, 57, 58] (by kernel_rfl) z z (yi_off ((wanted_eq z z z (cvb hc625)).trans z)) (ws_q (v := undef) 42 [43, 44, 45, 46, 47, 48, 49, 50, 51, 52, 53, 54, 55, 56, 57, 58] (by kernel_rfl) z z (yi_off ((wanted_eq z z z (cvb hc625)).trans z)) (ws_q (v := undef) 43 [44, 45, 46, 47, 48, 49, 50, 51, 52, 53, 54, 55, 56, 57, 58] (by kernel_rfl) z z (yi_off ((wanted_eq z z z (cvb hc625)).trans z)) (ws_q (v := undef) 44 [45, 46, 47, 48, 49, 50, 51, 52, 53, 54, 55, 56, 57, 58] (by kernel_rfl) z z (yi_off ((wanted_eq z z z (cvb hc625)).trans z)) (ws_q (v := undef) 45 [46, 47, 48, 49, 50, 51, 52, 53, 54, 55, 56, 57, 58] (by kernel_rfl) z z (yi_off (wanted_undef z z z z)) ?_))))))))))))
 refine ws_q (v := undef) 46 [47, 48, 49, 50, 51, 52, 53, 54, 55, 56, 57, 58] (by kernel_rfl) z z (yi_off (wanted_undef z z z z)) (ws_q (v := undef) 47 [48, 49, 50, 51, 52, 53, 54, 55, 56, 57, 58] (by kernel_rfl) z z (yi_off (wanted_undef z z z z)) (ws_q (v := undef) 48 [49, 50, 51, 52, 53, 54, 55, 56, 57, 58] (by kernel_rfl) z z (yi_off (wanted_undef z z z z)) (ws_q (v := undef) 49 [50, 51, 52, 53, 54, 55, 56, 57, 58] (by kernel_rfl) z z (yi_off (wanted_undef z z z z)) (ws_q (v := undef) 50 [51, 52, 53, 54, 55, 56, 57, 58] (by kernel_rfl) z z (yi_off (wanted_undef z z z z)) (ws_q (v := undef) 51 [52, 53, 54, 55, 56, 57, 58] (by kernel_rfl) z z (yi_off (wanted_undef z z z z)) (ws_q (v := undef) 52 [53, 54, 55, 56, 57, 58] (by kernel_rfl) z z (yi_off (wanted_undef z z z z)) (ws_q (v := undef) 53 [54, 55, 56, 57, 58] (by kernel_rfl) z z (yi_off (wanted_undef z z z z)) (ws_q (v := undef) 54 [55, 56, 57, 58] (by kernel_rfl) z z (yi_off (wanted_undef z z z z)) (ws_q (v := undef) 55 [56, 57, 58] (by kernel_rfl) z z (yi_off (wanted_undef z z z z)) (ws_q (v := undef) 56 [57, 58] (by kernel_rfl) z z (yi_off ((wanted_eq z z z (cvb hc625)).trans z)) (ws_q (v := .bool true) 57 [58] (by kernel_rfl) z z (yi_run ((wanted_eq z z z (cvb hc612)).trans z) (fun w hst => x_pick_t hc625 z z)) (wsr (.bool true) 58 z z z (by kernel_rfl) (fun w hst => x_pick_t hc612 z z) ?_))))))))))))
 refine ws_nil ?_
 intro w hst
 refine tn ?_
 refine wp_ift z ?_
 refine wrl (wv (.int .i64 z579) z z z (wv (.int .i64 z579) z z z (wl_nil (blk_n (tn (wrl (wv (.int .i64 z579) z z z (wv (.int .i64 (i64.wrap (z579 + (1:Int)))) z z z (wv (.int .i64 (i64.wrap (z579 + (1:Int)))) z z z (wl_nil (tn ?_)))))))))))
 replace hst := hst.keep0
 obtain rfl := some_inj hm
 exact ⟨_, Nat.lt_succ_self _, z579, (i64.wrap (z579 + (1:Int))), _, hx586, (fu 0 r0_0 z (fu 1 (.float .f64 a1) z (fu 2 (.int .u64 a2) z (fu 7 (.int .i64 z579) z (fu 8 (.int .i64 (i64.wrap (z579 + (1:Int)))) z z))))), hst⟩
}
 {
 replace hm := bif_f hc625 hm
 refine ws_q (v := r0_0) 33 [34, 35, 36, 37, 38, 39, 40, 41, 42, 43, 44, 45, 46, 47, 48, 49, 50, 51, 52, 53, 54, 55, 56, 57, 58] (by kernel_rfl) z z (yi_run ((wanted_eq z z z (cvb hc625)).trans z) (fun w hst => z)) (ws_q (v := .int .i64 z578) 34 [35, 36, 37, 38, 39, 40, 41, 42, 43, 44, 45, 46, 47, 48, 49, 50, 51, 52, 53, 54, 55, 56, 57, 58] (by kernel_rfl) z z (yi_run ((wanted_eq z z z (cvb hc625)).trans z) (fun w hst => z)) (ws_q (v := .pointer (some (eAddr r0_0 (z578.toNat * 5 + 0)))) 35 [36, 37, 38, 39, 40, 41, 42, 43, 44, 45, 46, 47, 48, 49, 50, 51, 52, 53, 54, 55, 56, 57, 58] (by kernel_rfl) z z (yi_run ((wanted_eq z z z (cvb hc625)).trans z) (fun w hst => x_index z z underlying124 sizeOf139 (rd_sliceV f0_0) h616 h617)) (ws_q (v := .pointer (some (eAddr r0_0 (z578.toNat * 5 + 1)))) 36 [37, 38, 39, 40, 41, 42, 43, 44, 45, 46, 47, 48, 49, 50, 51, 52, 53, 54, 55, 56, 57, 58] (by kernel_rfl) z z (yi_run ((wanted_eq z z z (cvb hc625)).trans z) (fun w hst => x_field_e z underlying139 z sizeOf26 z)) (ws_q (v := .int .u64 x614.Epoch) 37 [38, 39, 40, 41, 42, 43, 44, 45, 46, 47, 48, 49, 50, 51, 52, 53, 54, 55, 56, 57, 58] (by kernel_rfl) z z (yi_run ((wanted_eq z z z (cvb hc625)).trans z) (fun w hst => x_load z isAgg26 ((hc621 (HL.le.refl _) hst) 1 _ z))) (ws_q (v := r0_0) 38 [39, 40, 41, 42, 43, 44, 45, 46, 47, 48, 49, 50, 51, 52, 53, 54, 55, 56, 57, 58] (by kernel_rfl) z z (yi_run ((wanted_eq z z z (cvb hc625)).trans z) (fun w hst => z)) (ws_q (v := .int .i64 z579) 39 [40, 41, 42, 43, 44, 45, 46, 47, 48, 49, 50, 51, 52, 53, 54, 55, 56, 57, 58] (by kernel_rfl) z z (yi_run ((wanted_eq z z z (cvb hc625)).trans z) (fun w hst => z)) (ws_q (v := .pointer (some (eAddr r0_0 (z579.toNat * 5 + 0)))) 40 [41, 42, 43, 44, 45, 46, 47, 48, 49, 50, 51, 52, 53, 54, 55, 56, 57, 58] (by kernel_rfl) z z (yi_run ((wanted_eq z z z (cvb hc625)).trans z) (fun w hst => x_index z z underlying124 sizeOf139 (rd_sliceV f0_0) h591 h592)) (ws_q (v := .pointer (some (eAddr r0_0 (z579.toNat * 5 + 1)))) 41 [42, 43, 44, 45, 46, 47, 48, 49, 50, 51, 52, 53, 54, 55, 56, 57, 58] (by kernel_rfl) z z (yi_run ((wanted_eq z z z (cvb hc625)).trans z) (fun w hst => x_field_e z underlying139 z sizeOf26 z)) (ws_q (v := .int .u64 x589.Epoch) 42 [43, 44, 45, 46, 47, 48, 49, 50, 51, 52, 53, 54, 55, 56, 57, 58] (by kernel_rfl) z z (yi_run ((wanted_eq z z z (cvb hc625)).trans z) (fun w hst => x_load z isAgg26 ((hc608 (HL.le.refl _) hst) 1 _ z))) (ws_q (v := .bool (x614.Epoch == x589.Epoch)) 43 [44, 45, 46, 47, 48, 49, 50, 51, 52, 53, 54, 55, 56, 57, 58] (by kernel_rfl) z z (yi_run ((wanted_eq z z z (cvb hc625)).trans z) (fun w hst => z)) (ws_q (v := .bool (x614.Epoch == x589.Epoch)) 44 [45, 46, 47, 48, 49, 50, 51, 52, 53, 54, 55, 56, 57, 58] (by kernel_rfl) z z (yi_run ((wanted_eq z z z (cvb hc625)).trans z) (fun w hst => z)) ?_)))))))))))
 refine bsplit (x614.Epoch == x589.Epoch) (fun hc626 => ?_) (fun hc626 => ?_)
 {
 replace hm := bif_t hc626 hm
 refine ws_q (v := r0_0) 45 [46, 47, 48, 49, 50, 51, 52, 53, 54, 55, 56, 57, 58] (by kernel_rfl) z z (yi_run ((wanted_eq z z z (cvb hc626)).trans z) (fun w hst => z)) (ws_q (v := .int .i64 z578) 46 [47, 48, 49, 50, 51, 52, 53, 54, 55, 56, 57, 58] (by kernel_rfl) z z (yi_run ((wanted_eq z z z (cvb hc626)).trans z) (fun w hst => z)) (ws_q (v := .pointer (some (eAddr r0_0 (z578.toNat * 5 + 0)))) 47 [48, 49, 50, 51, 52, 53, 54, 55, 56, 57, 58] (by kernel_rfl) z z (yi_run ((wanted_eq z z z (cvb hc626)).trans z) (fun w hst => x_index z z underlying124 sizeOf139 (rd_sliceV f0_0) h616 h617)) (ws_q (v := .pointer (some (eAddr r0_0 (z578.toNat * 5 + 2)))) 48 [49, 50, 51, 52, 53, 54, 55, 56, 57, 58] (by kernel_rfl) z z (yi_run ((wanted_eq z z z (cvb hc626)).trans z) (fun w hst => x_field_e z underlying139 z sizeOf26 z)) (ws_q (v := .int .u64 x614.Index) 49 [50, 51, 52, 53, 54, 55, 56, 57, 58] (by kernel_rfl) z z (yi_run ((wanted_eq z z z (cvb hc626)).trans z) (fun w hst => x_load z isAgg26 ((hc621 (HL.le.refl _) hst) 2 _ z))) (ws_q (v := r0_0) 50 [51, 52, 53, 54, 55, 56, 57, 58] (by kernel_rfl) z z (yi_run ((wanted_eq z z z (cvb hc626)).trans z) (fun w hst => z)) (ws_q (v := .int .i64 z579) 51 [52, 53, 54, 55, 56, 57, 58] (by kernel_rfl) z z (yi_run ((wanted_eq z z z (cvb hc626)).trans z) (fun w hst => z)) (ws_q (v := .pointer (some (eAddr r0_0 (z579.toNat * 5 + 0)))) 52 [53, 54, 55, 56, 57, 58] (by kernel_rfl) z z (yi_run ((wanted_eq z z z (cvb hc626)).trans z) (fun w hst => x_index z z underlying124 sizeOf139 (rd_sliceV f0_0) h591 h592)) (ws_q (v := .pointer (some (eAddr r0_0 (z579.toNat * 5 + 2)))) 53 [54, 55, 56, 57, 58] (by kernel_rfl) z z (yi_run ((wanted_eq z z z (cvb hc626)).trans z) (fun w hst => x_field_e z underlying139 z sizeOf26 z)) (ws_q (v := .int .u64 x589.Index) 54 [55, 56, 57, 58] (by kernel_rfl) z z (yi_run ((wanted_eq z z z (cvb hc626)).trans z) (fun w hst => x_load z isAgg26 ((hc608 (HL.le.refl _) hst) 2 _ z))) (ws_q (v := .bool (decide (x614.Index < x589.Index))) 55 [56, 57, 58] (by kernel_rfl) z z (yi_run ((wanted_eq z z z (cvb hc626)).trans z) (fun w hst => z)) (ws_q (v := .bool (decide (x614.Index < x589.Index))) 56 [57, 58] (by kernel_rfl) z z (yi_run ((wanted_eq z z z (cvb hc625)).trans z) (fun w hst => x_pick_t hc626 z z)) (ws_q (v := .bool (decide (x614.Index < x589.Index))) 57 [58] (by kernel_rfl) z z (yi_run ((wanted_eq z z z (cvb hc612)).trans z) (fun w hst => x_pick_f hc625 z z)) ?_))))))))))))
 refine wsr (.bool (decide (x614.Index < x589.Index))) 58 z z z (by kernel_rfl) (fun w hst => x_pick_t hc612 z z) ?_
 refine ws_nil ?_
 intro w hst
 refine tn ?_
 refine bsplit (decide (x614.Index < x589.Index)) (fun hc627 => ?_) (fun hc627 => ?_)
 {
 replace hm := bif_t hc627 hm
 refine wp_ift (cvb hc627) ?_
 refine wrl (wv (.int .i64 z579) z z z (wv (.int .i64 z579) z z z (wl_nil (blk_n (tn (wrl (wv (.int .i64 z579) z z z (wv (.int .i64 (i64.wrap (z579 + (1:Int)))) z z z (wv (.int .i64 (i64.wrap (z579 + (1:Int)))) z z z (wl_nil (tn ?_)))))))))))
 replace hst := hst.keep0
 obtain rfl := some_inj hm
 exact ⟨_, Nat.lt_succ_self _, z579, (i64.wrap (z579 + (1:Int))), _, hx586, (fu 0 r0_0 z (fu 1 (.float .f64 a1) z (fu 2 (.int .u64 a2) z (fu 7 (.int .i64 z579) z (fu 8 (.int .i64 (i64.wrap (z579 + (1:Int)))) z z))))), hst⟩
}
 {
 replace hm := bif_f hc627 hm
 refine wp_iff (cvb hc627) ?_
 refine wp_skip (blk_n (tn (wrl ?_)))
 refine wv (.int .i64 z579) z z z (wv (.int .i64 (i64.wrap (z579 + (1:Int)))) z z z (wv (.int .i64 (i64.wrap (z579 + (1:Int)))) z z z (wl_nil (tn ?_))))
 replace hst := hst.keep0
 obtain rfl := some_inj hm
 exact ⟨_, Nat.lt_succ_self _, z578, (i64.wrap (z579 + (1:Int))), _, hx586, (fu 0 r0_0 z (fu 1 (.float .f64 a1) z (fu 2 (.int .u64 a2) z (fu 7 (.int .i64 z578) z (fu 8 (.int .i64 (i64.wrap (z579 + (1:Int)))) z z))))), hst⟩
}
}
 {
 replace hm := bif_f hc626 hm
 refine ws_q (v := undef) 45 [46, 47, 48, 49, 50, 51, 52, 53, 54, 55, 56, 57, 58] (by kernel_rfl) z z (yi_off ((wanted_eq z z z (cvb hc626)).trans z)) (ws_q (v := undef) 46 [47, 48, 49, 50, 51, 52, 53, 54, 55, 56, 57, 58] (by kernel_rfl) z z (yi_off ((wanted_eq z z z (cvb hc626)).trans z)) (ws_q (v := undef) 47 [48, 49, 50, 51, 52, 53, 54, 55, 56, 57, 58] (by kernel_rfl) z z (yi_off ((wanted_eq z z z (cvb hc626)).trans z)) (ws_q (v := undef) 48 [49, 50, 51, 52, 53, 54, 55, 56, 57, 58] (by kernel_rfl) z z (yi_off ((wanted_eq z z z (cvb hc626)).trans z)) (ws_q (v := undef) 49 [50, 51, 52, 53, 54, 55, 56, 57, 58] (by kernel_rfl) z z (yi_off ((wanted_eq z z z (cvb hc626)).trans z)) (ws_q (v := undef) 50 [51, 52, 53, 54, 55, 56, 57, 58] (by kernel_rfl) z z (yi_off ((wanted_eq z z z (cvb hc626)).trans z)) (ws_q (v := undef) 51 [52, 53, 54, 55, 56, 57, 58] (by kernel_rfl) z z (yi_off ((wanted_eq z z z (cvb hc626)).trans z)) (ws_q (v := undef) 52 [53, 54, 55, 56, 57, 58] (by kernel_rfl) z z (yi_off ((wanted_eq z z z (cvb hc626)).trans z)) (ws_q (v := undef) 53 [54, 55, 56, 57, 58] (by kernel_rfl) z z (yi_off ((wanted_eq z z z (cvb hc626)).trans z)) (ws_q (v := undef) 54 [55, 56, 57, 58] (by kernel_rfl) z z (yi_off ((wanted_eq z z z (cvb hc626)).trans z)) (ws_q (v := undef) 55 [56, 57, 58] (by kernel_rfl) z z (yi_off ((wanted_eq z z z (cvb hc626)).trans z)) (ws_q (v := .bool false) 56 [57, 58] (by kernel_rfl) z z (yi_run ((wanted_eq z z z (cvb hc625)).trans z) (fun w hst => x_pick_f hc626 z z)) (ws_q (v := .bool false) 57 [58] (by kernel_rfl) z z (yi_run ((wanted_eq z z z (cvb hc612)).trans z) (fun w hst => x_pick_f hc625 z z)) ?_))))))))))))
 refine wsr (.bool false) 58 z z z (by kernel_rfl) (fun w hst => x_pick_t hc612 z z) ?_
 refine ws_nil ?_
 intro w hst
 refine tn ?_
 refine wp_iff z ?_
 refine wp_skip (blk_n (tn (wrl ?_)))
 refine wv (.int .i64 z579) z z z (wv (.int .i64 (i64.wrap (z579 + (1:Int)))) z z z (wv (.int .i64 (i64.wrap (z579 + (1:Int)))) z z z (wl_nil (tn ?_))))
 replace hst := hst.keep0
 obtain rfl := some_inj hm
 exact ⟨_, Nat.lt_succ_self _, z578, (i64.wrap (z579 + (1:Int))), _, hx586, (fu 0 r0_0 z (fu 1 (.float .f64 a1) z (fu 2 (.int .u64 a2) z (fu 7 (.int .i64 z578) z (fu 8 (.int .i64 (i64.wrap (z579 + (1:Int)))) z z))))), hst⟩
}
}
}
}
 {
 replace hm := bif_f hc612 hm
 refine ws_q (v := undef) 17 [18, 19, 20, 21, 22, 23, 24, 25, 26, 27, 28, 29, 30, 31, 32, 33, 34, 35, 36, 37, 38, 39, 40, 41, 42, 43, 44, 45, 46, 47, 48, 49, 50, 51, 52, 53, 54, 55, 56, 57, 58] (by kernel_rfl) z z (yi_off ((wanted_eq z z z (cvb hc612)).trans z)) (ws_q (v := undef) 18 [19, 20, 21, 22, 23, 24, 25, 26, 27, 28, 29, 30, 31, 32, 33, 34, 35, 36, 37, 38, 39, 40, 41, 42, 43, 44, 45, 46, 47, 48, 49, 50, 51, 52, 53, 54, 55, 56, 57, 58] (by kernel_rfl) z z (yi_off ((wanted_eq z z z (cvb hc612)).trans z)) (ws_q (v := undef) 19 [20, 21, 22, 23, 24, 25, 26, 27, 28, 29, 30, 31, 32, 33, 34, 35, 36, 37, 38, 39, 40, 41, 42, 43, 44, 45, 46, 47, 48, 49, 50, 51, 52, 53, 54, 55, 56, 57, 58] (by kernel_rfl) z z (yi_off ((wanted_eq z z z (cvb hc612)).trans z)) (ws_q (v := undef) 20 [21, 22, 23, 24, 25, 26, 27, 28, 29, 30, 31, 32, 33, 34, 35, 36, 37, 38, 39, 40, 41, 42, 43, 44, 45, 46, 47, 48, 49, 50, 51, 52, 53, 54, 55, 56, 57, 58] (by kernel_rfl) z z (yi_off (wanted_undef z z z z)) (ws_q (v := undef) 21 [22, 23, 24, 25, 26, 27, 28, 29, 30, 31, 32, 33, 34, 35, 36, 37, 38, 39, 40, 41, 42, 43, 44, 45, 46, 47, 48, 49, 50, 51, 52, 53, 54, 55, 56, 57, 58] (by kernel_rfl) z z (yi_off (wanted_undef z z z z)) (ws_q (v := undef) 22 [23, 24, 25, 26, 27, 28, 29, 30, 31, 32, 33, 34, 35, 36, 37, 38, 39, 40, 41, 42, 43, 44, 45, 46, 47, 48, 49, 50, 51, 52, 53, 54, 55, 56, 57, 58] (by kernel_rfl) z z (yi_off (wanted_undef z z z z)) (ws_q (v := undef) 23 [24, 25, 26, 27, 28, 29, 30, 31, 32, 33, 34, 35, 36, 37, 38, 39, 40, 41, 42, 43, 44, 45, 46, 47, 48, 49, 50, 51, 52, 53, 54, 55, 56, 57, 58] (by kernel_rfl) z z (yi_off (wanted_undef z z z z)) (ws_q (v := undef) 24 [25, 26, 27, 28, 29, 30, 31, 32, 33, 34, 35, 36, 37, 38, 39, 40, 41, 42, 43, 44, 45, 46, 47, 48, 49, 50, 51, 52, 53, 54, 55, 56, 57, 58] (by kernel_rfl) z z (yi_off (wanted_undef z z z z)) (ws_q (v := undef) 25 [26, 27, 28, 29, 30, 31, 32, 33, 34, 35, 36, 37, 38, 39, 40, 41, 42, 43, 44, 45, 46, 47, 48, 49, 50, 51, 52, 53, 54, 55, 56, 57, 58] (by kernel_rfl) z z (yi_off (wanted_undef z z z z)) (ws_q (v := undef) 26 [27, 28, 29, 30, 31, 32, 33, 34, 35, 36, 37, 38, 39, 40, 41, 42, 43, 44, 45, 46, 47, 48, 49, 50, 51, 52, 53, 54, 55, 56, 57, 58] (by kernel_rfl) z z (yi_off (wanted_undef z z z z)) (ws_q (v := undef) 27 [28, 29, 30, 31, 32, 33, 34, 35, 36, 37, 38, 39, 40, 41, 42, 43, 44, 45, 46, 47, 48, 49, 50, 51, 52, 53, 54, 55, 56, 57, 58] (by kernel_rfl) z z (yi_off (wanted_undef z z z z)) (ws_q (v := undef) 28 [29, 30, 31, 32, 33, 34, 35, 36, 37, 38, 39, 40, 41, 42, 43, 44, 45, 46, 47, 48, 49, 50, 51, 52, 53, 54, 55, 56, 57, 58] (by kernel_rfl) z z (yi_off (wanted_undef z z z z)) (ws_q (v := undef) 29 [30, 31, 32, 33, 34, 35, 36, 37, 38, 39, 40, 41, 42, 43, 44, 45, 46, 47, 48, 49, 50, 51, 52, 53, 54, 55, 56, 57, 58] (by kernel_rfl) z z (yi_off (wanted_undef z z z z)) ?_))))))))))))
 refine ws_q (v := undef) 30 [31, 32, 33, 34, 35, 36, 37, 38, 39, 40, 41, 42, 43, 44, 45, 46, 47, 48, 49, 50, 51, 52, 53, 54, 55, 56, 57, 58] (by kernel_rfl) z z (yi_off (wanted_undef z z z z)) (ws_q (v := undef) 31 [32, 33, 34, 35, 36, 37, 38, 39, 40, 41, 42, 43, 44, 45, 46, 47, 48, 49, 50, 51, 52, 53, 54, 55, 56, 57, 58] (by kernel_rfl) z z (yi_off ((wanted_eq z z z (cvb hc612)).trans z)) (ws_q (v := undef) 32 [33, 34, 35, 36, 37, 38, 39, 40, 41, 42, 43, 44, 45, 46, 47, 48, 49, 50, 51, 52, 53, 54, 55, 56, 57, 58] (by kernel_rfl) z z (yi_off ((wanted_eq z z z (cvb hc612)).trans z)) (ws_q (v := undef) 33 [34, 35, 36, 37, 38, 39, 40, 41, 42, 43, 44, 45, 46, 47, 48, 49, 50, 51, 52, 53, 54, 55, 56, 57, 58] (by kernel_rfl) z z (yi_off (wanted_undef z z z z)) (ws_q (v := undef) 34 [35, 36, 37, 38, 39, 40, 41, 42, 43, 44, 45, 46, 47, 48, 49, 50, 51, 52, 53, 54, 55, 56, 57, 58] (by kernel_rfl) z z (yi_off (wanted_undef z z z z)) (ws_q (v := undef) 35 [36, 37, 38, 39, 40, 41, 42, 43, 44, 45, 46, 47, 48, 49, 50, 51, 52, 53, 54, 55, 56, 57, 58] (by kernel_rfl) z z (yi_off (wanted_undef z z z z)) (ws_q (v := undef) 36 [37, 38, 39, 40, 41, 42, 43, 44, 45, 46, 47, 48, 49, 50, 51, 52, 53, 54, 55, 56, 57, 58] (by kernel_rfl) z z (yi_off (wanted_undef z z z z)) (ws_q (v := undef) 37 [38, 39, 40, 41, 42, 43, 44, 45, 46, 47, 48, 49, 50, 51, 52, 53, 54, 55, 56, 57, 58] (by kernel_rfl) z z (yi_off (wanted_undef z z z z)) (ws_q (v := undef) 38 [39, 40, 41, 42, 43, 44, 45, 46, 47, 48, 49, 50, 51, 52, 53, 54, 55, 56, 57, 58] (by kernel_rfl) z z (yi_off (wanted_undef z z z z)) (ws_q (v := undef) 39 [40, 41, 42, 43, 44, 45, 46, 47, 48, 49, 50, 51, 52, 53, 54, 55, 56, 57, 58] (by kernel_rfl) z z (yi_off (wanted_undef z z z z)) (ws_q (v := undef) 40 [41, 42, 43, 44, 45, 46, 47, 48, 49, 50, 51, 52, 53, 54, 55, 56, 57, 58] (by kernel_rfl) z z (yi_off (wanted_undef z z z z)) (ws_q (v := undef) 41 [42, 43, 44, 45, 46, 47, 48, 49, 50, 51, 52, 53, 54, 55, 56, 57, 58] (by kernel_rfl) z z (yi_off (wanted_undef z z z z)) (ws_q (v := undef) 42 [43, 44, 45, 46, 47, 48, 49, 50, 51, 52, 53, 54, 55, 56, 57, 58] (by kernel_rfl) z z (yi_off (wanted_undef z z z z)) ?_))))))))))))
 refine ws_q (v := undef) 43 [44, 45, 46, 47, 48, 49, 50, 51, 52, 53, 54, 55, 56, 57, 58] (by kernel_rfl) z z (yi_off (wanted_undef z z z z)) (ws_q (v := undef) 44 [45, 46, 47, 48, 49, 50, 51, 52, 53, 54, 55, 56, 57, 58] (by kernel_rfl) z z (yi_off (wanted_undef z z z z)) (ws_q (v := undef) 45 [46, 47, 48, 49, 50, 51, 52, 53, 54, 55, 56, 57, 58] (by kernel_rfl) z z (yi_off (wanted_undef z z z z)) (ws_q (v := undef) 46 [47, 48, 49, 50, 51, 52, 53, 54, 55, 56, 57, 58] (by kernel_rfl) z z (yi_off (wanted_undef z z z z)) (ws_q (v := undef) 47 [48, 49, 50, 51, 52, 53, 54, 55, 56, 57, 58] (by kernel_rfl) z z (yi_off (wanted_undef z z z z)) (ws_q (v := undef) 48 [49, 50, 51, 52, 53, 54, 55, 56, 57, 58] (by kernel_rfl) z z (yi_off (wanted_undef z z z z)) (ws_q (v := undef) 49 [50, 51, 52, 53, 54, 55, 56, 57, 58] (by kernel_rfl) z z (yi_off (wanted_undef z z z z)) (ws_q (v := undef) 50 [51, 52, 53, 54, 55, 56, 57, 58] (by kernel_rfl) z z (yi_off (wanted_undef z z z z)) (ws_q (v := undef) 51 [52, 53, 54, 55, 56, 57, 58] (by kernel_rfl) z z (yi_off (wanted_undef z z z z)) (ws_q (v := undef) 52 [53, 54, 55, 56, 57, 58] (by kernel_rfl) z z (yi_off (wanted_undef z z z z)) (ws_q (v := undef) 53 [54, 55, 56, 57, 58] (by kernel_rfl) z z (yi_off (wanted_undef z z z z)) (ws_q (v := undef) 54 [55, 56, 57, 58] (by kernel_rfl) z z (yi_off (wanted_undef z z z z)) (ws_q (v := undef) 55 [56, 57, 58] (by kernel_rfl) z z (yi_off (wanted_undef z z z z)) ?_))))))))))))
 refine ws_q (v := undef) 56 [57, 58] (by kernel_rfl) z z (yi_off (wanted_undef z z z z)) (ws_q (v := undef) 57 [58] (by kernel_rfl) z z (yi_off ((wanted_eq z z z (cvb hc612)).trans z)) (wsr (.bool false) 58 z z z (by kernel_rfl) (fun w hst => x_pick_f hc612 z z) ?_))
 refine ws_nil ?_
 intro w hst
 refine tn ?_
 refine wp_iff z ?_
 refine wp_skip (blk_n (tn (wrl ?_)))
 refine wv (.int .i64 z579) z z z (wv (.int .i64 (i64.wrap (z579 + (1:Int)))) z z z (wv (.int .i64 (i64.wrap (z579 + (1:Int)))) z z z (wl_nil (tn ?_))))
 replace hst := hst.keep0
 obtain rfl := some_inj hm
 exact ⟨_, Nat.lt_succ_self _, z578, (i64.wrap (z579 + (1:Int))), _, hx586, (fu 0 r0_0 z (fu 1 (.float .f64 a1) z (fu 2 (.int .u64 a2) z (fu 7 (.int .i64 z578) z (fu 8 (.int .i64 (i64.wrap (z579 + (1:Int)))) z z))))), hst⟩
}
}
 {
 replace hm := bif_f hc605 hm
 refine ws_q (v := undef) 8 [9, 10, 11, 12, 13, 14, 15, 16, 17, 18, 19, 20, 21, 22, 23, 24, 25, 26, 27, 28, 29, 30, 31, 32, 33, 34, 35, 36, 37, 38, 39, 40, 41, 42, 43, 44, 45, 46, 47, 48, 49, 50, 51, 52, 53, 54, 55, 56, 57, 58] (by kernel_rfl) z z (yi_off ((wanted_eq z z z (cvb hc605)).trans z)) (ws_q (v := undef) 9 [10, 11, 12, 13, 14, 15, 16, 17, 18, 19, 20, 21, 22, 23, 24, 25, 26, 27, 28, 29, 30, 31, 32, 33, 34, 35, 36, 37, 38, 39, 40, 41, 42, 43, 44, 45, 46, 47, 48, 49, 50, 51, 52, 53, 54, 55, 56, 57, 58] (by kernel_rfl) z z (yi_off ((wanted_eq z z z (cvb hc605)).trans z)) (ws_q (v := undef) 10 [11, 12, 13, 14, 15, 16, 17, 18, 19, 20, 21, 22, 23, 24, 25, 26, 27, 28, 29, 30, 31, 32, 33, 34, 35, 36, 37, 38, 39, 40, 41, 42, 43, 44, 45, 46, 47, 48, 49, 50, 51, 52, 53, 54, 55, 56, 57, 58] (by kernel_rfl) z z (yi_off ((wanted_eq z z z (cvb hc605)).trans z)) (ws_q (v := undef) 11 [12, 13, 14, 15, 16, 17, 18, 19, 20, 21, 22, 23, 24, 25, 26, 27, 28, 29, 30, 31, 32, 33, 34, 35, 36, 37, 38, 39, 40, 41, 42, 43, 44, 45, 46, 47, 48, 49, 50, 51, 52, 53, 54, 55, 56, 57, 58] (by kernel_rfl) z z (yi_off ((wanted_eq z z z (cvb hc605)).trans z)) (ws_q (v := undef) 12 [13, 14, 15, 16, 17, 18, 19, 20, 21, 22, 23, 24, 25, 26, 27, 28, 29, 30, 31, 32, 33, 34, 35, 36, 37, 38, 39, 40, 41, 42, 43, 44, 45, 46, 47, 48, 49, 50, 51, 52, 53, 54, 55, 56, 57, 58] (by kernel_rfl) z z (yi_off ((wanted_eq z z z (cvb hc605)).trans z)) (ws_q (v := undef) 13 [14, 15, 16, 17, 18, 19, 20, 21, 22, 23, 24, 25, 26, 27, 28, 29, 30, 31, 32, 33, 34, 35, 36, 37, 38, 39, 40, 41, 42, 43, 44, 45, 46, 47, 48, 49, 50, 51, 52, 53, 54, 55, 56, 57, 58] (by kernel_rfl) z z (yi_off ((wanted_eq z z z (cvb hc605)).trans z)) (ws_q (v := undef) 14 [15, 16, 17, 18, 19, 20, 21, 22, 23, 24, 25, 26, 27, 28, 29, 30, 31, 32, 33, 34, 35, 36, 37, 38, 39, 40, 41, 42, 43, 44, 45, 46, 47, 48, 49, 50, 51, 52, 53, 54, 55, 56, 57, 58] (by kernel_rfl) z z (yi_off ((wanted_eq z z z (cvb hc605)).trans z)) (wsr (.bool false) 15 z z z (by kernel_rfl) (fun w hst => x_pick_f hc605 z z) (wsr (.bool false) 16 z z z (by kernel_rfl) (fun w hst => z) (ws_q (v := undef) 17 [18, 19, 20, 21, 22, 23, 24, 25, 26, 27, 28, 29, 30, 31, 32, 33, 34, 35, 36, 37, 38, 39, 40, 41, 42, 43, 44, 45, 46, 47, 48, 49, 50, 51, 52, 53, 54, 55, 56, 57, 58] (by kernel_rfl) z z (yi_off ((wanted_eq z z z z).trans z)) (ws_q (v := undef) 18 [19, 20, 21, 22, 23, 24, 25, 26, 27, 28, 29, 30, 31, 32, 33, 34, 35, 36, 37, 38, 39, 40, 41, 42, 43, 44, 45, 46, 47, 48, 49, 50, 51, 52, 53, 54, 55, 56, 57, 58] (by kernel_rfl) z z (yi_off ((wanted_eq z z z z).trans z)) (ws_q (v := undef) 19 [20, 21, 22, 23, 24, 25, 26, 27, 28, 29, 30, 31, 32, 33, 34, 35, 36, 37, 38, 39, 40, 41, 42, 43, 44, 45, 46, 47, 48, 49, 50, 51, 52, 53, 54, 55, 56, 57, 58] (by kernel_rfl) z z (yi_off ((wanted_eq z z z z).trans z)) (ws_q (v := undef) 20 [21, 22, 23, 24, 25, 26, 27, 28, 29, 30, 31, 32, 33, 34, 35, 36, 37, 38, 39, 40, 41, 42, 43, 44, 45, 46, 47, 48, 49, 50, 51, 52, 53, 54, 55, 56, 57, 58] (by kernel_rfl) z z (yi_off (wanted_undef z z z z)) ?_))))))))))))
 refine ws_q (v := undef) 21 [22, 23, 24, 25, 26, 27, 28, 29, 30, 31, 32, 33, 34, 35, 36, 37, 38, 39, 40, 41, 42, 43, 44, 45, 46, 47, 48, 49, 50, 51, 52, 53, 54, 55, 56, 57, 58] (by kernel_rfl) z z (yi_off (wanted_undef z z z z)) (ws_q (v := undef) 22 [23, 24, 25, 26, 27, 28, 29, 30, 31, 32, 33, 34, 35, 36, 37, 38, 39, 40, 41, 42, 43, 44, 45, 46, 47, 48, 49, 50, 51, 52, 53, 54, 55, 56, 57, 58] (by kernel_rfl) z z (yi_off (wanted_undef z z z z)) (ws_q (v := undef) 23 [24, 25, 26, 27, 28, 29, 30, 31, 32, 33, 34, 35, 36, 37, 38, 39, 40, 41, 42, 43, 44, 45, 46, 47, 48, 49, 50, 51, 52, 53, 54, 55, 56, 57, 58] (by kernel_rfl) z z (yi_off (wanted_undef z z z z)) (ws_q (v := undef) 24 [25, 26, 27, 28, 29, 30, 31, 32, 33, 34, 35, 36, 37, 38, 39, 40, 41, 42, 43, 44, 45, 46, 47, 48, 49, 50, 51, 52, 53, 54, 55, 56, 57, 58] (by kernel_rfl) z z (yi_off (wanted_undef z z z z)) (ws_q (v := undef) 25 [26, 27, 28, 29, 30, 31, 32, 33, 34, 35, 36, 37, 38, 39, 40, 41, 42, 43, 44, 45, 46, 47, 48, 49, 50, 51, 52, 53, 54, 55, 56, 57, 58] (by kernel_rfl) z z (yi_off (wanted_undef z z z z)) (ws_q (v := undef) 26 [27, 28, 29, 30, 31, 32, 33, 34, 35, 36, 37, 38, 39, 40, 41, 42, 43, 44, 45, 46, 47, 48, 49, 50, 51, 52, 53, 54, 55, 56, 57, 58] (by kernel_rfl) z z (yi_off (wanted_undef z z z z)) (ws_q (v := undef) 27 [28, 29, 30, 31, 32, 33, 34, 35, 36, 37, 38, 39, 40, 41, 42, 43, 44, 45, 46, 47, 48, 49, 50, 51, 52, 53, 54, 55, 56, 57, 58] (by kernel_rfl) z z (yi_off (wanted_undef z z z z)) (ws_q (v := undef) 28 [29, 30, 31, 32, 33, 34, 35, 36, 37, 38, 39, 40, 41, 42, 43, 44, 45, 46, 47, 48, 49, 50, 51, 52, 53, 54, 55, 56, 57, 58] (by kernel_rfl) z z (yi_off (wanted_undef z z z z)) (ws_q (v := undef) 29 [30, 31, 32, 33, 34, 35, 36, 37, 38, 39, 40, 41, 42, 43, 44, 45, 46, 47, 48, 49, 50, 51, 52, 53, 54, 55, 56, 57, 58] (by kernel_rfl) z z (yi_off (wanted_undef z z z z)) (ws_q (v := undef) 30 [31, 32, 33, 34, 35, 36, 37, 38, 39, 40, 41, 42, 43, 44, 45, 46, 47, 48, 49, 50, 51, 52, 53, 54, 55, 56, 57, 58] (by kernel_rfl) z z (yi_off (wanted_undef z z z z)) (ws_q (v := undef) 31 [32, 33, 34, 35, 36, 37, 38, 39, 40, 41, 42, 43, 44, 45, 46, 47, 48, 49, 50, 51, 52, 53, 54, 55, 56, 57, 58] (by kernel_rfl) z z (yi_off ((wanted_eq z z z z).trans z)) (ws_q (v := undef) 32 [33, 34, 35, 36, 37, 38, 39, 40, 41, 42, 43, 44, 45, 46, 47, 48, 49, 50, 51, 52, 53, 54, 55, 56, 57, 58] (by kernel_rfl) z z (yi_off ((wanted_eq z z z z).trans z)) (ws_q (v := undef) 33 [34, 35, 36, 37, 38, 39, 40, 41, 42, 43, 44, 45, 46, 47, 48, 49, 50, 51, 52, 53, 54, 55, 56, 57, 58] (by kernel_rfl) z z (yi_off (wanted_undef z z z z)) ?_))))))))))))
 refine ws_q (v := undef) 34 [35, 36, 37, 38, 39, 40, 41, 42, 43, 44, 45, 46, 47, 48, 49, 50, 51, 52, 53, 54, 55, 56, 57, 58] (by kernel_rfl) z z (yi_off (wanted_undef z z z z)) (ws_q (v := undef) 35 [36, 37, 38, 39, 40, 41, 42, 43, 44, 45, 46, 47, 48, 49, 50, 51, 52, 53, 54, 55, 56, 57, 58] (by kernel_rfl) z z (yi_off (wanted_undef z z z z)) (ws_q (v := undef) 36 [37, 38, 39, 40, 41, 42, 43, 44, 45, 46, 47, 48, 49, 50, 51, 52, 53, 54, 55, 56, 57, 58] (by kernel_rfl) z z (yi_off (wanted_undef z z z z)) (ws_q (v := undef) 37 [38, 39, 40, 41, 42, 43, 44, 45, 46, 47, 48, 49, 50, 51, 52, 53, 54, 55, 56, 57, 58] (by kernel_rfl) z z (yi_off (wanted_undef z z z z)) (ws_q (v := undef) 38 [39, 40, 41, 42, 43, 44, 45, 46, 47, 48, 49, 50, 51, 52, 53, 54, 55, 56, 57, 58] (by kernel_rfl) z z (yi_off (wanted_undef z z z z)) (ws_q (v := undef) 39 [40, 41, 42, 43, 44, 45, 46, 47, 48, 49, 50, 51, 52, 53, 54, 55, 56, 57, 58] (by kernel_rfl) z z (yi_off (wanted_undef z z z z)) (ws_q (v := undef) 40 [41, 42, 43, 44, 45, 46, 47, 48, 49, 50, 51, 52, 53, 54, 55, 56, 57, 58] (by kernel_rfl) z z (yi_off (wanted_undef z z z z)) (ws_q (v := undef) 41 [42, 43, 44, 45, 46, 47, 48, 49, 50, 51, 52, 53, 54, 55, 56, 57, 58] (by kernel_rfl) z z (yi_off (wanted_undef z z z z)) (ws_q (v := undef) 42 [43, 44, 45, 46, 47, 48, 49, 50, 51, 52, 53, 54, 55, 56, 57, 58] (by kernel_rfl) z z (yi_off (wanted_undef z z z z)) (ws_q (v := undef) 43 [44, 45, 46, 47, 48, 49, 50, 51, 52, 53, 54, 55, 56, 57, 58] (by kernel_rfl) z z (yi_off (wanted_undef z z z z)) (ws_q (v := undef) 44 [45, 46, 47, 48, 49, 50, 51, 52, 53, 54, 55, 56, 57, 58] (by kernel_rfl) z z (yi_off (wanted_undef z z z z)) (ws_q (v := undef) 45 [46, 47, 48, 49, 50, 51, 52, 53, 54, 55, 56, 57, 58] (by kernel_rfl) z z (yi_off (wanted_undef z z z z)) (ws_q (v := undef) 46 [47, 48, 49, 50, 51, 52, 53, 54, 55, 56, 57, 58] (by kernel_rfl) z z (yi_off (wanted_undef z z z z)) ?_))))))))))))
 refine ws_q (v := undef) 47 [48, 49, 50, 51, 52, 53, 54, 55, 56, 57, 58] (by kernel_rfl) z z (yi_off (wanted_undef z z z z)) (ws_q (v := undef) 48 [49, 50, 51, 52, 53, 54, 55, 56, 57, 58] (by kernel_rfl) z z (yi_off (wanted_undef z z z z)) (ws_q (v := undef) 49 [50, 51, 52, 53, 54, 55, 56, 57, 58] (by kernel_rfl) z z (yi_off (wanted_undef z z z z)) (ws_q (v := undef) 50 [51, 52, 53, 54, 55, 56, 57, 58] (by kernel_rfl) z z (yi_off (wanted_undef z z z z)) (ws_q (v := undef) 51 [52, 53, 54, 55, 56, 57, 58] (by kernel_rfl) z z (yi_off (wanted_undef z z z z)) (ws_q (v := undef) 52 [53, 54, 55, 56, 57, 58] (by kernel_rfl) z z (yi_off (wanted_undef z z z z)) (ws_q (v := undef) 53 [54, 55, 56, 57, 58] (by kernel_rfl) z z (yi_off (wanted_undef z z z z)) (ws_q (v := undef) 54 [55, 56, 57, 58] (by kernel_rfl) z z (yi_off (wanted_undef z z z z)) (ws_q (v := undef) 55 [56, 57, 58] (by kernel_rfl) z z (yi_off (wanted_undef z z z z)) (ws_q (v := undef) 56 [57, 58] (by kernel_rfl) z z (yi_off (wanted_undef z z z z)) (ws_q (v := undef) 57 [58] (by kernel_rfl) z z (yi_off ((wanted_eq z z z z).trans z)) (wsr (.bool false) 58 z z z (by kernel_rfl) (fun w hst => x_pick_f z z z) ?_)))))))))))
 refine ws_nil ?_
 intro w hst
 refine tn ?_
 refine wp_iff z ?_
 refine wp_skip (blk_n (tn (wrl ?_)))
 refine wv (.int .i64 z579) z z z (wv (.int .i64 (i64.wrap (z579 + (1:Int)))) z z z (wv (.int .i64 (i64.wrap (z579 + (1:Int)))) z z z (wl_nil (tn ?_))))
 replace hst := hst.keep0
 obtain rfl := some_inj hm
 exact ⟨_, Nat.lt_succ_self _, z578, (i64.wrap (z579 + (1:Int))), _, hx586, (fu 0 r0_0 z (fu 1 (.float .f64 a1) z (fu 2 (.int .u64 a2) z (fu 7 (.int .i64 z578) z (fu 8 (.int .i64 (i64.wrap (z579 + (1:Int)))) z z))))), hst⟩
}
}
 {
 replace hm := bif_f hc588 hm
 refine wp_iff (cvb hc588) ?_
 refine wp_exit (then_x (then_x ?_))
 replace hm := inr_up hm hx586
 refine blk_x (tn (wp_seq (wrl ?_)))
 refine wv (.int .i64 z578) z z z (wv (.int .i64 z578) z z z (wl_nil (tn (wp_ret ?_))))
 obtain rfl := some_inj hm
 refine post_ret (vs := [I6 z578]) results149 (rvs_cons (rv_tmp z) rvs_nil) ?_
 exact ⟨z, hst.keep0⟩
}
}

theorem ref11_Get_ref {w0 w : World} {I : HL} {R : SP} {a0 : (List ref11_Version)} {r0_0 : Value} {a1 : Nat} {a2 : Int} (f0_0 : Ro ty_ref11_Version I r0_0 a0) (hst : St w0 w I [] R) {r : (api_Got)} (hm : ref11_Get a0 a1 a2 = some r) :
  Calls prog 80 #[r0_0, F6 a1, U6 a2] w fun e w' => ∃ (I' : HL) (q0_0 : Value), e = .returned (.agg #[.bool r.Has, q0_0]) ∧ I.le I' ∧ Ro (tyInt .u8) I' q0_0 r.Val ∧ St w0 w' I' [] R := by {
 unfold ref11_Get at hm
 refine calls_start (args := [r0_0, F6 a1, U6 a2]) func80 z ntmps80 (Nat.le_of_ble_eq_true z) ?_
 have hI0 := HL.le.refl I
 refine wp_seq (wrl ?_)
 obtain ⟨b391, w392, ew393, eb394, hst⟩ := hst.box [.bool false, Zs] 61
 refine wl_run (v := Pt b391 0) (w' := w392) z z (x_al (by kernel_rfl) ew393 eb394) ?_
 refine wl_nil (tn (wp_seq (wrl (wv (r0_0) z z z (wv (.float .f64 a1) z z z (wv (.int .u64 a2) z z z ?_))))))
 obtain ⟨t396, ht397, hm⟩ := bind_some hm
 refine wc call149 [r0_0, F6 a1, U6 a2] z z z ?_
 refine (ref11_last_ref (f0_0.mono ro_rd) hst.to0 ht397).mono ?_
 rintro _ w398 ⟨rfl, hst⟩
 refine ⟨_, z, ?_⟩
 replace hst := hst.of0
 refine wv (.int .i64 t396) z z z (wl_nil (tn (wp_seq (wp_seq (wrl (wv (.int .i64 t396) z z z (wv (.bool (decide (t396 < (0:Int)))) z z z (wv (.bool (decide (t396 < (0:Int)))) z z z ?_))))))))
 refine bsplit (decide (t396 < (0:Int))) (fun hc401 => ?_) (fun hc401 => ?_)
 {
 replace hm := bif_t hc401 hm
 refine wo hc401 z z z z z z (wo hc401 z z z z z z (wo hc401 z z z z z z (wo hc401 z z z z z z (wo hc401 z z z z z z (wv (.bool true) z z (x_pick_t hc401 z z) (wl_nil (tn ?_)))))))
 refine wp_ift z ?_
 refine wp_seq (wrl (wv (.agg #[.bool false, Zs]) z z (by kernel_rfl) ?_))
 obtain ⟨w403, hr404, hst⟩ := hst.bx [.bool false, Zs] sizeOf61 z (oC z (oC z oN)) (by kernel_rfl)
 refine wl_unit z z (x_unit hr404) ?_
 refine wl_nil (tn (wp_ret (then_r ?_)))
 have f405 : Ro (tyInt .u8) I (.slice none 0 0) [] := ro_nil
 obtain rfl := some_inj hm
 refine post_ret (vs := [.agg #[.bool false, Zs]]) results80 (rvs_cons (rv_cell (cs := [.bool false, Zs]) z isAgg61 sizeOf61 (hst.bcs0 0 z)) rvs_nil) ?_
 exact ⟨_, Zs, z, hI0, f405, hst.keep0⟩
}
 {
 replace hm := bif_f hc401 hm
 refine wv (r0_0) ((wanted_eq z z z (cvb hc401)).trans z) z z (wv (.int .i64 t396) ((wanted_eq z z z (cvb hc401)).trans z) z z ?_)
 obtain ⟨x406, hx407, hm⟩ := bind_some hm
 obtain ⟨h408, h409, hi410⟩ := geto_some hx407
 refine wv (.pointer (some (eAddr r0_0 (t396.toNat * 5 + 0)))) ((wanted_eq z z z (cvb hc401)).trans z) z (x_index z z underlying124 sizeOf139 (ro_sliceV f0_0) h408 h409) (wv (.pointer (some (eAddr r0_0 (t396.toNat * 5 + 3)))) ((wanted_eq z z z (cvb hc401)).trans z) z (x_field_e z underlying139 z sizeOf4 z) ?_)
 obtain ⟨cs411, hr412, hc413⟩ := Ro.getF f0_0 hi410
 obtain ⟨v414, rfl, f415, -⟩ := hr412
 refine wv (.bool x406.Del) ((wanted_eq z z z (cvb hc401)).trans z) z (x_load z isAgg4 ((hc413 (HL.le.refl _) hst) 3 _ z)) (wv (.bool x406.Del) z z (x_pick_f hc401 z z) (wl_nil (tn ?_)))
 refine bsplit x406.Del (fun hc417 => ?_) (fun hc417 => ?_)
 {
 replace hm := bif_t hc417 hm
 refine wp_ift (cvb hc417) ?_
 refine wp_seq (wrl (wv (.agg #[.bool false, Zs]) z z (by kernel_rfl) ?_))
 obtain ⟨w419, hr420, hst⟩ := hst.bx [.bool false, Zs] sizeOf61 z (oC z (oC z oN)) (by kernel_rfl)
 refine wl_unit z z (x_unit hr420) ?_
 refine wl_nil (tn (wp_ret (then_r ?_)))
 have f421 : Ro (tyInt .u8) I (.slice none 0 0) [] := ro_nil
 obtain rfl := some_inj hm
 refine post_ret (vs := [.agg #[.bool false, Zs]]) results80 (rvs_cons (rv_cell (cs := [.bool false, Zs]) z isAgg61 sizeOf61 (hst.bcs0 0 z)) rvs_nil) ?_
 exact ⟨_, Zs, z, hI0, f421, hst.keep0⟩
}
 {
 replace hm := bif_f hc417 hm
 refine wp_iff (cvb hc417) ?_
 refine wp_skip (tn (wp_seq (wrl ?_)))
 refine wv (r0_0) z z z (wv (.int .i64 t396) z z z (wv (.pointer (some (eAddr r0_0 (t396.toNat * 5 + 0)))) z z (x_index z z underlying124 sizeOf139 (ro_sliceV f0_0) h408 h409) (wv (.pointer (some (eAddr r0_0 (t396.toNat * 5 + 4)))) z z (x_field_e z underlying139 z sizeOf22 z) (wv (v414) z z (x_load z isAgg22 ((hc413 (HL.le.refl _) hst) 4 _ z)) (wv (.agg #[.bool true, v414]) z z (by obtain ⟨_, _, hv_, _⟩ := (ro_sliceV f415); rw [hv_]; kernel_rfl) ?_)))))
 obtain ⟨w423, hr424, hst⟩ := hst.bx [.bool true, v414] sizeOf61 z (oC z (oC (one_of_sliceV (ro_sliceV f415)) oN)) (by kernel_rfl)
 refine wl_unit z z (x_unit hr424) ?_
 refine wl_nil (tn (wp_ret ?_))
 obtain rfl := some_inj hm
 refine post_ret (vs := [.agg #[.bool true, v414]]) results80 (rvs_cons (rv_cell (cs := [.bool true, v414]) z isAgg61 sizeOf61 (hst.bcs0 0 z)) rvs_nil) ?_
 exact ⟨_, v414, z, hI0, f415, hst.keep0⟩
}
}
}

theorem ref11_Ats_ref {w0 w : World} {I : HL} {R : SP} {a0 : (List ref11_Version)} {r0_0 : Value} (f0_0 : Rd ty_ref11_Version R I r0_0 a0) (hst : St w0 w I [] R) {r : ((List Nat))} (hm : ref11_Ats a0 = some r) :
  Calls prog 152 #[r0_0] w fun e w' => ∃ (I' : HL) (q0_0 : Value), e = .returned (q0_0) ∧ I.le I' ∧ St w0 w' I' [ownS tyF64 q0_0 r] R := by {
 unfold ref11_Ats at hm
 refine calls_start (args := [r0_0]) func152 z ntmps152 (Nat.le_of_ble_eq_true z) ?_
 have hI0 := HL.le.refl I
 refine wp_seq (wrl (wv ((.slice none 0 0)) z z z (wl_nil (tn (wp_seq (wrl (wv ((.slice none 0 0)) z z z (wl_nil (tn (wp_seq (wp_seq (wrl (wv (.int .i64 (0:Int)) z z z (wl_nil (tn (wp_block ?_))))))))))))))))
 replace hst := hst.own_nil tyF64
 obtain ⟨n1716, hm⟩ := loopO_some hm
 refine wp_loop_n (fun n a w => ∃ (I1714 : HL) (z1710 : (List Nat)) (z1713 : Int) (v1711 : Value) (σ1715 : Nat → Value), loopN (ref11_Ats_l0 a0) n (z1710, z1713) = some r ∧ a = Fr 66 (upd (upd (upd σ1715 0 (r0_0)) 3 (v1711)) 4 (.int .i64 z1713)) ∧ I.le I1714 ∧ St w0 w I1714 [ownS tyF64 v1711 z1710] R) n1716 ⟨_, [], (0:Int), Zs, _, hm, (fu 0 r0_0 z (fu 3 (.slice none 0 0) z (fu 4 (.int .i64 (0:Int)) z z))), (HL.le.refl _), hst⟩ ?_
 rintro n1722 _ w1717 ⟨I1714, z1710, z1713, v1711, σ1715, hm, rfl, hL1718, hst⟩
 obtain ⟨n1719, y1720, rfl, hm, hx1721⟩ := loopN_some hm
 dsimp only [ref11_Ats_l0] at hm
 replace f0_0 := f0_0.mono (rd_le hL1718)
 replace hI0 := hI0.trans hL1718
 refine wp_seq (wp_seq (wrl (wv (.int .i64 z1713) z z z (wv (r0_0) z z z (wv (.int .i64 ((a0).length : Int)) z z (x_len z underlying124 (rd_sliceV f0_0)) (wv (.bool (decide (z1713 < ((a0).length : Int)))) z z z (wl_nil (tn ?_))))))))
 refine bsplit (decide (z1713 < ((a0).length : Int))) (fun hc1723 => ?_) (fun hc1723 => ?_)
 {
 replace hm := bif_t hc1723 hm
 refine wp_ift (cvb hc1723) ?_
 refine wp_skip (tn (wp_seq (wp_block (wp_seq (wrl ?_)))))
 refine wv (.int .i64 (0:Int)) z z z (wl_nil (tn ?_))
 obtain ⟨y1806, hm, hx1807⟩ := bind_some hm
 refine wp_cut (fun a w => ∃ (z1803 : Int) (σ1804 : Nat → Value), (ref11_Ats_j1 z1710 a0 z1713) z1803 = some y1720 ∧ a = Fr 66 (upd (upd (upd (upd σ1804 0 (r0_0)) 3 (v1711)) 4 (.int .i64 z1713)) 5 (.int .i64 z1803)) ∧ St w0 w I1714 [ownS tyF64 v1711 z1710] R) ?_ ?_
 {
 refine wp_block ?_
 obtain ⟨n1773, hm⟩ := loopO_some hm
 refine wp_loop_n (fun n a w => ∃ (z1771 : Int) (σ1772 : Nat → Value), loopN (ref11_Ats_l2 z1710 a0 z1713) n z1771 = some y1806 ∧ a = Fr 66 (upd (upd (upd (upd σ1772 0 (r0_0)) 3 (v1711)) 4 (.int .i64 z1713)) 5 (.int .i64 z1771)) ∧ St w0 w I1714 [ownS tyF64 v1711 z1710] R) n1773 ⟨(0:Int), _, hm, (fu 0 r0_0 z (fu 3 v1711 z (fu 4 (.int .i64 z1713) z (fu 5 (.int .i64 (0:Int)) z z)))), hst⟩ ?_
 rintro n1779 _ w1774 ⟨z1771, σ1772, hm, rfl, hst⟩
 obtain ⟨n1776, y1777, rfl, hm, hx1778⟩ := loopN_some hm
 dsimp only [ref11_Ats_l2] at hm
 refine wp_seq (wp_seq ?_)
 refine wp_region_St hst 16 [0, 1, 2, 3, 4, 5, 6, 7, 8, 9, 10, 11, 12, 13, 14, 15] [0, 0, 2, 7, 15, 31, 31, 127, 255, 31, 31, 1567, 3615, 7711, 16383, 32767] [] z (by kernel_rfl) (by kernel_rfl) Tryz.mixed (by kernel_rfl) ?_
 refine wsr (.int .i64 z1771) 0 z z z (by kernel_rfl) (fun w hst => z) (wsr (v1711) 1 z z z (by kernel_rfl) (fun w hst => z) (wsr (.int .i64 ((z1710).length : Int)) 2 z z z (by kernel_rfl) (fun w hst => x_len z underlying43 hst.sv0) (wsr (.bool (decide (z1771 < ((z1710).length : Int)))) 3 z z z (by kernel_rfl) (fun w hst => z) (wsr (.bool (decide (z1771 < ((z1710).length : Int)))) 4 z z z (by kernel_rfl) (fun w hst => z) ?_))))
 refine bsplit (decide (z1771 < ((z1710).length : Int))) (fun hc1780 => ?_) (fun hc1780 => ?_)
 {
 replace hm := bif_t hc1780 hm
 refine ws_q (v := v1711) 5 [6, 7, 8, 9, 10, 11, 12, 13, 14, 15] (by kernel_rfl) z z (yi_run ((wanted_eq z z z (cvb hc1780)).trans z) (fun w hst => z)) (ws_q (v := .int .i64 z1771) 6 [7, 8, 9, 10, 11, 12, 13, 14, 15] (by kernel_rfl) z z (yi_run ((wanted_eq z z z (cvb hc1780)).trans z) (fun w hst => z)) ?_)
 obtain ⟨x1781, hx1782, hm⟩ := bind_some hm
 obtain ⟨h1783, h1784, hi1785⟩ := geto_some hx1782
 refine ws_q (v := .pointer (some (eAddr v1711 (z1771.toNat * 1 + 0)))) 7 [8, 9, 10, 11, 12, 13, 14, 15] (by kernel_rfl) z z (yi_run ((wanted_eq z z z (cvb hc1780)).trans z) (fun w hst => x_index z z underlying43 sizeOf37 hst.sv0 h1783 h1784)) (ws_q (v := .float .f64 x1781) 8 [9, 10, 11, 12, 13, 14, 15] (by kernel_rfl) z z (yi_run ((wanted_eq z z z (cvb hc1780)).trans z) (fun w hst => x_load z isAgg37 (hst.ol0 hi1785 (by rintro _ rfl; rfl)))) (ws_q (v := r0_0) 9 [10, 11, 12, 13, 14, 15] (by kernel_rfl) z z (yi_run ((wanted_eq z z z (cvb hc1780)).trans z) (fun w hst => z)) (ws_q (v := .int .i64 z1713) 10 [11, 12, 13, 14, 15] (by kernel_rfl) z z (yi_run ((wanted_eq z z z (cvb hc1780)).trans z) (fun w hst => z)) ?_)))
 obtain ⟨x1786, hx1787, hm⟩ := bind_some hm
 obtain ⟨h1788, h1789, hi1790⟩ := geto_some hx1787
 refine ws_q (v := .pointer (some (eAddr r0_0 (z1713.toNat * 5 + 0)))) 11 [12, 13, 14, 15] (by kernel_rfl) z z (yi_run ((wanted_eq z z z (cvb hc1780)).trans z) (fun w hst => x_index z z underlying124 sizeOf139 (rd_sliceV f0_0) h1788 h1789)) (ws_q (v := .pointer (some (eAddr r0_0 (z1713.toNat * 5 + 0)))) 12 [13, 14, 15] (by kernel_rfl) z z (yi_run ((wanted_eq z z z (cvb hc1780)).trans z) (fun w hst => x_field_e z underlying139 z sizeOf37 z)) ?_)
 obtain ⟨cs1791, hr1792, hc1793⟩ := Rd.getF f0_0 hi1790
 obtain ⟨v1794, rfl, f1795, -⟩ := hr1792
 refine ws_q (v := .float .f64 x1786.At) 13 [14, 15] (by kernel_rfl) z z (yi_run ((wanted_eq z z z (cvb hc1780)).trans z) (fun w hst => x_load z isAgg37 ((hc1793 (HL.le.refl _) hst) 0 _ z))) ?_
 refine ws_e1 14 (by kernel_rfl) ?_
 refine nxe [15] (by kernel_rfl) z ((wanted_eq z z z (cvb hc1780)).trans z) ?_
 clear hst
 intro w hst
 obtain ⟨t1797, ht1798, hm⟩ := bind_some hm
 refine wec call59 [F6 x1781, F6 x1786.At] z z ?_
 refine (ref01_Ahead_ref hst.to0 ht1798).mono ?_
 rintro _ w1799 ⟨rfl, hst⟩
 refine ⟨_, z, ?_⟩
 replace hst := hst.of0
 refine ws_next (pend' := []) hst (by kernel_rfl) pk_nil ?_
 refine wsr (.bool t1797) 15 z z z (by kernel_rfl) (fun w hst => x_pick_t hc1780 z z) ?_
 refine ws_nil ?_
 intro w hst
 refine tn ?_
 refine bsplit t1797 (fun hc1802 => ?_) (fun hc1802 => ?_)
 {
 replace hm := bif_t hc1802 hm
 refine wp_ift (cvb hc1802) ?_
 refine wp_skip (tn (wp_block (wrl ?_)))
 refine wv (.int .i64 z1771) z z z (wv (.int .i64 (i64.wrap (z1771 + (1:Int)))) z z z (wv (.int .i64 (i64.wrap (z1771 + (1:Int)))) z z z (wl_nil (blk_n (tn ?_)))))
 replace hst := hst.keep1
 obtain rfl := some_inj hm
 exact ⟨_, Nat.lt_succ_self _, (i64.wrap (z1771 + (1:Int))), _, hx1778, (fu 0 r0_0 z (fu 3 v1711 z (fu 4 (.int .i64 z1713) z (fu 5 (.int .i64 (i64.wrap (z1771 + (1:Int)))) z z)))), hst⟩
}
 {
 replace hm := bif_f hc1802 hm
 refine wp_iff (cvb hc1802) ?_
 refine wp_exit (then_x (then_x ?_))
 replace hm := inr_up hm hx1778
 refine blk_x (tn ?_)
 replace hst := hst.keep1
 obtain rfl := some_inj hm
 exact ⟨z1771, _, hx1807, (fu 0 r0_0 z (fu 3 v1711 z (fu 4 (.int .i64 z1713) z (fu 5 (.int .i64 z1771) z z)))), hst⟩
}
}
 {
 replace hm := bif_f hc1780 hm
 refine ws_q (v := undef) 5 [6, 7, 8, 9, 10, 11, 12, 13, 14, 15] (by kernel_rfl) z z (yi_off ((wanted_eq z z z (cvb hc1780)).trans z)) (ws_q (v := undef) 6 [7, 8, 9, 10, 11, 12, 13, 14, 15] (by kernel_rfl) z z (yi_off ((wanted_eq z z z (cvb hc1780)).trans z)) (ws_q (v := undef) 7 [8, 9, 10, 11, 12, 13, 14, 15] (by kernel_rfl) z z (yi_off ((wanted_eq z z z (cvb hc1780)).trans z)) (ws_q (v := undef) 8 [9, 10, 11, 12, 13, 14, 15] (by kernel_rfl) z z (yi_off ((wanted_eq z z z (cvb hc1780)).trans z)) (ws_q (v := undef) 9 [10, 11, 12, 13, 14, 15] (by kernel_rfl) z z (yi_off ((wanted_eq z z z (cvb hc1780)).trans z)) (ws_q (v := undef) 10 [11, 12, 13, 14, 15] (by kernel_rfl) z z (yi_off ((wanted_eq z z z (cvb hc1780)).trans z)) (ws_q (v := undef) 11 [12, 13, 14, 15] (by kernel_rfl) z z (yi_off ((wanted_eq z z z (cvb hc1780)).trans z)) (ws_q (v := undef) 12 [13, 14, 15] (by kernel_rfl) z z (yi_off ((wanted_eq z z z (cvb hc1780)).trans z)) (ws_q (v := undef) 13 [14, 15] (by kernel_rfl) z z (yi_off ((wanted_eq z z z (cvb hc1780)).trans z)) (ws_q (v := undef) 14 [15] (by kernel_rfl) z z (yi_off ((wanted_eq z z z (cvb hc1780)).trans z)) (wsr (.bool false) 15 z z z (by kernel_rfl) (fun w hst => x_pick_f hc1780 z z) ?_))))))))))
 refine ws_nil ?_
 intro w hst
 refine tn ?_
 refine wp_iff z ?_
 refine wp_exit (then_x (then_x ?_))
 replace hm := inr_up hm hx1778
 refine blk_x (tn ?_)
 replace hst := hst.keep1
 obtain rfl := some_inj hm
 exact ⟨z1771, _, hx1807, (fu 0 r0_0 z (fu 3 v1711 z (fu 4 (.int .i64 z1713) z (fu 5 (.int .i64 z1771) z z)))), hst⟩
}
}
 {
 clear hst
 rintro _ w1808 ⟨z1803, σ1804, hm, rfl, hst⟩
 dsimp only [ref11_Ats_j1] at hm
 refine wp_seq (wp_seq ?_)
 refine wp_region_St hst 16 [0, 1, 2, 3, 4, 5, 6, 7, 8, 9, 10, 11, 12, 13, 14, 15] [0, 0, 2, 7, 15, 31, 31, 127, 255, 31, 31, 1567, 3615, 7711, 16383, 32767] [] z (by kernel_rfl) (by kernel_rfl) Tryz.mixed (by kernel_rfl) ?_
 refine wsr (.int .i64 z1803) 0 z z z (by kernel_rfl) (fun w hst => z) (wsr (v1711) 1 z z z (by kernel_rfl) (fun w hst => z) (wsr (.int .i64 ((z1710).length : Int)) 2 z z z (by kernel_rfl) (fun w hst => x_len z underlying43 hst.sv0) (wsr (.bool (decide (z1803 < ((z1710).length : Int)))) 3 z z z (by kernel_rfl) (fun w hst => z) (wsr (.bool (decide (z1803 < ((z1710).length : Int)))) 4 z z z (by kernel_rfl) (fun w hst => z) ?_))))
 refine bsplit (decide (z1803 < ((z1710).length : Int))) (fun hc1809 => ?_) (fun hc1809 => ?_)
 {
 replace hm := bif_t hc1809 hm
 refine ws_q (v := v1711) 5 [6, 7, 8, 9, 10, 11, 12, 13, 14, 15] (by kernel_rfl) z z (yi_run ((wanted_eq z z z (cvb hc1809)).trans z) (fun w hst => z)) (ws_q (v := .int .i64 z1803) 6 [7, 8, 9, 10, 11, 12, 13, 14, 15] (by kernel_rfl) z z (yi_run ((wanted_eq z z z (cvb hc1809)).trans z) (fun w hst => z)) ?_)
 obtain ⟨x1810, hx1811, hm⟩ := bind_some hm
 obtain ⟨h1812, h1813, hi1814⟩ := geto_some hx1811
 refine ws_q (v := .pointer (some (eAddr v1711 (z1803.toNat * 1 + 0)))) 7 [8, 9, 10, 11, 12, 13, 14, 15] (by kernel_rfl) z z (yi_run ((wanted_eq z z z (cvb hc1809)).trans z) (fun w hst => x_index z z underlying43 sizeOf37 hst.sv0 h1812 h1813)) (ws_q (v := .float .f64 x1810) 8 [9, 10, 11, 12, 13, 14, 15] (by kernel_rfl) z z (yi_run ((wanted_eq z z z (cvb hc1809)).trans z) (fun w hst => x_load z isAgg37 (hst.ol0 hi1814 (by rintro _ rfl; rfl)))) (ws_q (v := r0_0) 9 [10, 11, 12, 13, 14, 15] (by kernel_rfl) z z (yi_run ((wanted_eq z z z (cvb hc1809)).trans z) (fun w hst => z)) (ws_q (v := .int .i64 z1713) 10 [11, 12, 13, 14, 15] (by kernel_rfl) z z (yi_run ((wanted_eq z z z (cvb hc1809)).trans z) (fun w hst => z)) ?_)))
 obtain ⟨x1815, hx1816, hm⟩ := bind_some hm
 obtain ⟨h1817, h1818, hi1819⟩ := geto_some hx1816
 refine ws_q (v := .pointer (some (eAddr r0_0 (z1713.toNat * 5 + 0)))) 11 [12, 13, 14, 15] (by kernel_rfl) z z (yi_run ((wanted_eq z z z (cvb hc1809)).trans z) (fun w hst => x_index z z underlying124 sizeOf139 (rd_sliceV f0_0) h1817 h1818)) (ws_q (v := .pointer (some (eAddr r0_0 (z1713.toNat * 5 + 0)))) 12 [13, 14, 15] (by kernel_rfl) z z (yi_run ((wanted_eq z z z (cvb hc1809)).trans z) (fun w hst => x_field_e z underlying139 z sizeOf37 z)) ?_)
 obtain ⟨cs1820, hr1821, hc1822⟩ := Rd.getF f0_0 hi1819
 obtain ⟨v1823, rfl, f1824, -⟩ := hr1821
 refine ws_q (v := .float .f64 x1815.At) 13 [14, 15] (by kernel_rfl) z z (yi_run ((wanted_eq z z z (cvb hc1809)).trans z) (fun w hst => x_load z isAgg37 ((hc1822 (HL.le.refl _) hst) 0 _ z))) ?_
 refine ws_e1 14 (by kernel_rfl) ?_
 refine nxe [15] (by kernel_rfl) z ((wanted_eq z z z (cvb hc1809)).trans z) ?_
 clear hst
 intro w hst
 obtain ⟨t1826, ht1827, hm⟩ := bind_some hm
 refine wec call20 [F6 x1810, F6 x1815.At] z z ?_
 refine (ref01_Same_ref hst.to0 ht1827).mono ?_
 rintro _ w1828 ⟨rfl, hst⟩
 refine ⟨_, z, ?_⟩
 replace hst := hst.of0
 refine ws_next (pend' := []) hst (by kernel_rfl) pk_nil ?_
 refine wsr (.bool t1826) 15 z z z (by kernel_rfl) (fun w hst => x_pick_t hc1809 z z) ?_
 refine ws_nil ?_
 intro w hst
 refine tn ?_
 refine bsplit t1826 (fun hc1831 => ?_) (fun hc1831 => ?_)
 {
 replace hm := bif_t hc1831 hm
 refine wp_ift (cvb hc1831) ?_
 refine wp_exit (then_x (blk_x (tn (wrl ?_))))
 refine wv (.int .i64 z1713) z z z (wv (.int .i64 (i64.wrap (z1713 + (1:Int)))) z z z (wv (.int .i64 (i64.wrap (z1713 + (1:Int)))) z z z (wl_nil (tn ?_))))
 replace hst := hst.keep1
 obtain rfl := some_inj hm
 exact ⟨_, Nat.lt_succ_self _, _, z1710, (i64.wrap (z1713 + (1:Int))), v1711, _, hx1721, (fu 0 r0_0 z (fu 3 v1711 z (fu 4 (.int .i64 (i64.wrap (z1713 + (1:Int)))) z z))), hL1718, hst⟩
}
 {
 replace hm := bif_f hc1831 hm
 refine wp_iff (cvb hc1831) ?_
 refine wp_skip (tn (wp_seq (wrl ?_)))
 refine wv ((.slice none 0 0)) z z z (wl_nil (tn (wp_seq (wrl (wv ((.slice none 0 0)) z z z (wv (v1711) z z z (wv (.int .i64 z1803) z z z ?_)))))))
 obtain ⟨I1833, hI1834, f1835, hst⟩ := hst.own_fix
 replace f0_0 := f0_0.mono (rd_le hI1834)
 replace f1824 := f1824.mono (rd_le hI1834)
 replace hI0 := hI0.trans hI1834
 replace hL1718 := hL1718.trans hI1834
 obtain ⟨hg1836, hm⟩ := gd_some hm
 obtain ⟨h1837, h1838, h1839⟩ := fits_of hg1836
 have f1841 : Ro tyF64 I1833 (slcV 1 v1711 (0:Int).toNat z1803.toNat) (subs z1710 (0:Int) z1803) := Ro.part f1835 h1838 h1839 h1837
 refine wv ((slcV 1 v1711 (0:Int).toNat z1803.toNat)) z z (x_slice underlying43 sizeOf37 z (ro_sliceV f1835) h1837 h1838 h1839 .i64 .i64 (.inr ⟨z, z⟩) (.inl z)) ?_
 replace hst := hst.own_nil tyF64
 obtain ⟨hg1842, hm⟩ := gd_some hm
 obtain ⟨v1843, w1844, hr1845, hst⟩ := run_append elem_43 underlying43 hst (Src.of_ro hst f1841) (room_of hg1842 z) 43
 replace hst := St.nil_app hst
 refine wl_run (v := v1843) (w' := w1844) z z (x_append z z hr1845) ?_
 refine wv (v1843) z z z (wl_nil (tn (wp_seq (wrl (wv (v1843) z z z (wv (r0_0) z z z (wv (.int .i64 z1713) z z z (wv (.pointer (some (eAddr r0_0 (z1713.toNat * 5 + 0)))) z z (x_index z z underlying124 sizeOf139 (rd_sliceV f0_0) h1817 h1818) (wv (.pointer (some (eAddr r0_0 (z1713.toNat * 5 + 0)))) z z (x_field_e z underlying139 z sizeOf37 z) ?_)))))))))
 obtain ⟨cs1847, hr1848, hc1849⟩ := Rd.getF f0_0 hi1819
 obtain ⟨v1850, rfl, f1851, -⟩ := hr1848
 refine wv (.float .f64 x1815.At) z z (x_load z isAgg37 ((hc1849 (HL.le.refl _) hst) 0 _ z)) ?_
 obtain ⟨b1853, w1854, ew1855, eb1856, hst⟩ := hst.lits (E := tyF64) (xs := [x1815.At]) [[F6 x1815.At]] 37 1 z (Reps.cons z Reps.nil)
 refine wl_run (v := (.slice (some ⟨b1853, 0, none⟩) 1 1)) (w' := w1854) z z (x_als (by kernel_rfl) ew1855 eb1856) ?_
 obtain ⟨hg1858, hm⟩ := gd_some hm
 replace hst := hst.pull1
 obtain ⟨v1859, w1860, hr1861, hst⟩ := run_append elem_43 underlying43 hst hst.src1 (room_of hg1858 z) 43
 refine wl_run (v := v1859) (w' := w1860) z z (x_append z z hr1861) ?_
 refine wv (v1859) z z z (wl_nil (tn (wrl (wv (v1859) z z z (wv (v1711) z z z (wv (.int .i64 z1803) z z z ?_))))))
 obtain ⟨hg1863, hm⟩ := gd_some hm
 obtain ⟨h1864, h1865, h1866⟩ := fits_of hg1863
 have f1868 : Ro tyF64 I1833 (slcV 1 v1711 z1803.toNat (((z1710).length : Nat) : Int).toNat) (subs z1710 z1803 (((z1710).length : Nat) : Int)) := Ro.part f1835 h1865 h1866 h1864
 refine wv ((slcV 1 v1711 z1803.toNat (((z1710).length : Nat) : Int).toNat)) z z (x_slice underlying43 sizeOf37 z (ro_sliceV f1835) h1864 h1865 h1866 .i64 .i64 (.inl z) (.inr ⟨z, z⟩)) ?_
 obtain ⟨hg1869, hm⟩ := gd_some hm
 obtain ⟨v1870, w1871, hr1872, hst⟩ := run_append elem_43 underlying43 hst (Src.of_ro hst f1868) (room_of hg1869 z) 43
 refine wl_run (v := v1870) (w' := w1871) z z (x_append z z hr1872) ?_
 refine wv (v1870) z z z (wl_nil (blk_n (tn (wrl (wv (.int .i64 z1713) z z z (wv (.int .i64 (i64.wrap (z1713 + (1:Int)))) z z z (wv (.int .i64 (i64.wrap (z1713 + (1:Int)))) z z z (wl_nil (tn ?_)))))))))
 replace hst := hst.keep1
 obtain rfl := some_inj hm
 exact ⟨_, Nat.lt_succ_self _, _, (((subs z1710 (0:Int) z1803) ++ ([x1815.At])) ++ (subs z1710 z1803 (((z1710).length : Nat) : Int))), (i64.wrap (z1713 + (1:Int))), v1870, _, hx1721, (fu 0 r0_0 z (fu 3 v1870 z (fu 4 (.int .i64 (i64.wrap (z1713 + (1:Int)))) z z))), hL1718, hst⟩
}
}
 {
 replace hm := bif_f hc1809 hm
 refine ws_q (v := undef) 5 [6, 7, 8, 9, 10, 11, 12, 13, 14, 15] (by kernel_rfl) z z (yi_off ((wanted_eq z z z (cvb hc1809)).trans z)) (ws_q (v := undef) 6 [7, 8, 9, 10, 11, 12, 13, 14, 15] (by kernel_rfl) z z (yi_off ((wanted_eq z z z (cvb hc1809)).trans z)) (ws_q (v := undef) 7 [8, 9, 10, 11, 12, 13, 14, 15] (by kernel_rfl) z z (yi_off ((wanted_eq z z z (cvb hc1809)).trans z)) (ws_q (v := undef) 8 [9, 10, 11, 12, 13, 14, 15] (by kernel_rfl) z z (yi_off ((wanted_eq z z z (cvb hc1809)).trans z)) (ws_q (v := undef) 9 [10, 11, 12, 13, 14, 15] (by kernel_rfl) z z (yi_off ((wanted_eq z z z (cvb hc1809)).trans z)) (ws_q (v := undef) 10 [11, 12, 13, 14, 15] (by kernel_rfl) z z (yi_off ((wanted_eq z z z (cvb hc1809)).trans z)) (ws_q (v := undef) 11 [12, 13, 14, 15] (by kernel_rfl) z z (yi_off ((wanted_eq z z z (cvb hc1809)).trans z)) (ws_q (v := undef) 12 [13, 14, 15] (by kernel_rfl) z z (yi_off ((wanted_eq z z z (cvb hc1809)).trans z)) (ws_q (v := undef) 13 [14, 15] (by kernel_rfl) z z (yi_off ((wanted_eq z z z (cvb hc1809)).trans z)) (ws_q (v := undef) 14 [15] (by kernel_rfl) z z (yi_off ((wanted_eq z z z (cvb hc1809)).trans z)) (wsr (.bool false) 15 z z z (by kernel_rfl) (fun w hst => x_pick_f hc1809 z z) ?_))))))))))
 refine ws_nil ?_
 intro w hst
 refine tn ?_
 refine wp_iff z ?_
 refine wp_skip (tn (wp_seq (wrl ?_)))
 refine wv ((.slice none 0 0)) z z z (wl_nil (tn (wp_seq (wrl (wv ((.slice none 0 0)) z z z (wv (v1711) z z z (wv (.int .i64 z1803) z z z ?_)))))))
 obtain ⟨I1875, hI1876, f1877, hst⟩ := hst.own_fix
 replace f0_0 := f0_0.mono (rd_le hI1876)
 replace hI0 := hI0.trans hI1876
 replace hL1718 := hL1718.trans hI1876
 obtain ⟨hg1878, hm⟩ := gd_some hm
 obtain ⟨h1879, h1880, h1881⟩ := fits_of hg1878
 have f1883 : Ro tyF64 I1875 (slcV 1 v1711 (0:Int).toNat z1803.toNat) (subs z1710 (0:Int) z1803) := Ro.part f1877 h1880 h1881 h1879
 refine wv ((slcV 1 v1711 (0:Int).toNat z1803.toNat)) z z (x_slice underlying43 sizeOf37 z (ro_sliceV f1877) h1879 h1880 h1881 .i64 .i64 (.inr ⟨z, z⟩) (.inl z)) ?_
 replace hst := hst.own_nil tyF64
 obtain ⟨hg1884, hm⟩ := gd_some hm
 obtain ⟨v1885, w1886, hr1887, hst⟩ := run_append elem_43 underlying43 hst (Src.of_ro hst f1883) (room_of hg1884 z) 43
 replace hst := St.nil_app hst
 refine wl_run (v := v1885) (w' := w1886) z z (x_append z z hr1887) ?_
 refine wv (v1885) z z z (wl_nil (tn (wp_seq (wrl (wv (v1885) z z z (wv (r0_0) z z z (wv (.int .i64 z1713) z z z ?_)))))))
 obtain ⟨x1889, hx1890, hm⟩ := bind_some hm
 obtain ⟨h1891, h1892, hi1893⟩ := geto_some hx1890
 refine wv (.pointer (some (eAddr r0_0 (z1713.toNat * 5 + 0)))) z z (x_index z z underlying124 sizeOf139 (rd_sliceV f0_0) h1891 h1892) (wv (.pointer (some (eAddr r0_0 (z1713.toNat * 5 + 0)))) z z (x_field_e z underlying139 z sizeOf37 z) ?_)
 obtain ⟨cs1894, hr1895, hc1896⟩ := Rd.getF f0_0 hi1893
 obtain ⟨v1897, rfl, f1898, -⟩ := hr1895
 refine wv (.float .f64 x1889.At) z z (x_load z isAgg37 ((hc1896 (HL.le.refl _) hst) 0 _ z)) ?_
 obtain ⟨b1900, w1901, ew1902, eb1903, hst⟩ := hst.lits (E := tyF64) (xs := [x1889.At]) [[F6 x1889.At]] 37 1 z (Reps.cons z Reps.nil)
 refine wl_run (v := (.slice (some ⟨b1900, 0, none⟩) 1 1)) (w' := w1901) z z (x_als (by kernel_rfl) ew1902 eb1903) ?_
 obtain ⟨hg1905, hm⟩ := gd_some hm
 replace hst := hst.pull1
 obtain ⟨v1906, w1907, hr1908, hst⟩ := run_append elem_43 underlying43 hst hst.src1 (room_of hg1905 z) 43
 refine wl_run (v := v1906) (w' := w1907) z z (x_append z z hr1908) ?_
 refine wv (v1906) z z z (wl_nil (tn (wrl (wv (v1906) z z z (wv (v1711) z z z (wv (.int .i64 z1803) z z z ?_))))))
 obtain ⟨hg1910, hm⟩ := gd_some hm
 obtain ⟨h1911, h1912, h1913⟩ := fits_of hg1910
 have f1915 : Ro tyF64 I1875 (slcV 1 v1711 z1803.toNat (((z1710).length : Nat) : Int).toNat) (subs z1710 z1803 (((z1710).length : Nat) : Int)) := Ro.part f1877 h1912 h1913 h1911
 refine wv ((slcV 1 v1711 z1803.toNat (((z1710).length : Nat) : Int).toNat)) z z (x_slice underlying43 sizeOf37 z (ro_sliceV f1877) h1911 h1912 h1913 .i64 .i64 (.inl z) (.inr ⟨z, z⟩)) ?_
 obtain ⟨hg1916, hm⟩ := gd_some hm
 obtain ⟨v1917, w1918, hr1919, hst⟩ := run_append elem_43 underlying43 hst (Src.of_ro hst f1915) (room_of hg1916 z) 43
 refine wl_run (v := v1917) (w' := w1918) z z (x_append z z hr1919) ?_
 refine wv (v1917) z z z (wl_nil (blk_n (tn (wrl (wv (.int .i64 z1713) z z z (wv (.int .i64 (i64.wrap (z1713 + (1:Int)))) z z z (wv (.int .i64 (i64.wrap (z1713 + (1:Int)))) z z z (wl_nil (tn ?_)))))))))
 replace hst := hst.keep1
 obtain rfl := some_inj hm
 exact ⟨_, Nat.lt_succ_self _, _, (((subs z1710 (0:Int) z1803) ++ ([x1889.At])) ++ (subs z1710 z1803 (((z1710).length : Nat) : Int))), (i64.wrap (z1713 + (1:Int))), v1917, _, hx1721, (fu 0 r0_0 z (fu 3 v1917 z (fu 4 (.int .i64 (i64.wrap (z1713 + (1:Int)))) z z))), hL1718, hst⟩
}
}
}
 {
 replace hm := bif_f hc1723 hm
 refine wp_iff (cvb hc1723) ?_
 refine wp_exit (then_x (then_x ?_))
 replace hm := inr_up hm hx1721
 refine blk_x (tn (wp_seq (wrl ?_)))
 refine wv (v1711) z z z (wv (v1711) z z z (wl_nil (tn (wp_ret ?_))))
 obtain rfl := some_inj hm
 refine post_ret (vs := [v1711]) results152 (rvs_cons (rv_tmp z) rvs_nil) ?_
 exact ⟨_, v1711, z, hI0, hst.keep1⟩
}
}

theorem ref11_Scan_ref {w0 w : World} {I : HL} {R : SP} {a0 : (List ref11_Version)} {r0_0 : Value} {a1 : Nat} {a2 : Nat} {a3 : Int} {a4 : Int} (f0_0 : Ro ty_ref11_Version I r0_0 a0) (hst : St w0 w I [] R) {r : ((List api_Pair))} (hm : ref11_Scan a0 a1 a2 a3 a4 = some r) :
  Calls prog 81 #[r0_0, F6 a1, F6 a2, U6 a3, I6 a4] w fun e w' => ∃ (I' : HL) (q0_0 : Value), e = .returned (q0_0) ∧ I.le I' ∧ St w0 w' I' [ownS ty_api_Pair q0_0 r] R := by {
 unfold ref11_Scan at hm
 refine calls_start (args := [r0_0, F6 a1, F6 a2, U6 a3, I6 a4]) func81 z ntmps81 (Nat.le_of_ble_eq_true z) ?_
 have hI0 := HL.le.refl I
 refine wp_seq (wrl (wv ((.slice none 0 0)) z z z (wl_nil (tn (wp_seq (wrl (wv ((.slice none 0 0)) z z z (wl_nil (tn (wp_seq (wrl (wv (r0_0) z z z ?_))))))))))))
 obtain ⟨t764, ht765, hm⟩ := bind_some hm
 refine wc call152 [r0_0] z z z ?_
 refine (ref11_Ats_ref (f0_0.mono ro_rd) hst.to0 ht765).mono ?_
 rintro _ w766 ⟨I767, v769, rfl, hI768, hst⟩
 refine ⟨_, z, ?_⟩
 replace hst := hst.of1
 replace f0_0 := f0_0.mono (ro_le hI768)
 replace hI0 := hI0.trans hI768
 refine wv (v769) z z z (wl_nil (tn (wp_seq (wp_seq (wrl (wv (.int .i64 (0:Int)) z z z (wl_nil (tn (wp_block ?_)))))))))
 replace hst := hst.own_nil ty_api_Pair
 obtain ⟨n907, hm⟩ := loopO_some hm
 refine wp_loop_n (fun n a w => ∃ (I905 : HL) (z901 : (List api_Pair)) (z904 : Int) (v902 : Value) (σ906 : Nat → Value), loopN (ref11_Scan_l0 t764 a4 a0 a3 a1 a2) n (z901, z904) = some r ∧ a = Fr 58 (upd (upd (upd (upd (upd (upd (upd (upd σ906 0 (r0_0)) 1 (.float .f64 a1)) 2 (.float .f64 a2)) 3 (.int .u64 a3)) 4 (.int .i64 a4)) 11 (v902)) 12 (v769)) 13 (.int .i64 z904)) ∧ I767.le I905 ∧ St w0 w I905 [ownS ty_api_Pair v902 z901, ownS tyF64 v769 t764] R) n907 ⟨_, [], (0:Int), Zs, _, hm, (fu 0 r0_0 z (fu 1 (.float .f64 a1) z (fu 2 (.float .f64 a2) z (fu 3 (.int .u64 a3) z (fu 4 (.int .i64 a4) z (fu 11 (.slice none 0 0) z (fu 12 v769 z (fu 13 (.int .i64 (0:Int)) z z)))))))), (HL.le.refl _), hst⟩ ?_
 rintro n913 _ w908 ⟨I905, z901, z904, v902, σ906, hm, rfl, hL909, hst⟩
 obtain ⟨n910, y911, rfl, hm, hx912⟩ := loopN_some hm
 dsimp only [ref11_Scan_l0] at hm
 replace f0_0 := f0_0.mono (ro_le hL909)
 replace hI0 := hI0.trans hL909
 refine wp_seq (wp_seq (wrl (wv (.int .i64 z904) z z z (wv (v769) z z z (wv (.int .i64 ((t764).length : Int)) z z (x_len z underlying43 hst.sv1) (wv (.bool (decide (z904 < ((t764).length : Int)))) z z z (wv (.bool (decide (z904 < ((t764).length : Int)))) z z z ?_)))))))
 refine bsplit (decide (z904 < ((t764).length : Int))) (fun hc914 => ?_) (fun hc914 => ?_)
 {
 replace hm := bif_t hc914 hm
 refine wv (v902) ((wanted_eq z z z (cvb hc914)).trans z) z z (wv (.int .i64 ((z901).length : Int)) ((wanted_eq z z z (cvb hc914)).trans z) z (x_len z underlying81 hst.sv0) (wv (.int .i64 a4) ((wanted_eq z z z (cvb hc914)).trans z) z z (wv (.bool (decide (((z901).length : Int) < a4))) ((wanted_eq z z z (cvb hc914)).trans z) z z (wv (.bool (decide (((z901).length : Int) < a4))) z z (x_pick_t hc914 z z) (wl_nil (tn ?_))))))
 refine bsplit (decide (((z901).length : Int) < a4)) (fun hc915 => ?_) (fun hc915 => ?_)
 {
 replace hm := bif_t hc915 hm
 refine wp_ift (cvb hc915) ?_
 refine wp_skip (tn (wp_seq (wp_block (wp_seq (wrl ?_)))))
 refine wv (r0_0) z z z (wv (v769) z z z (wv (.int .i64 z904) z z z ?_))
 obtain ⟨x916, hx917, hm⟩ := bind_some hm
 obtain ⟨h918, h919, hi920⟩ := geto_some hx917
 refine wv (.pointer (some (eAddr v769 (z904.toNat * 1 + 0)))) z z (x_index z z underlying43 sizeOf37 hst.sv1 h918 h919) (wv (.float .f64 x916) z z (x_load z isAgg37 (hst.ol1 hi920 (by rintro _ rfl; rfl))) (wv (.int .u64 a3) z z z ?_))
 obtain ⟨t921, ht922, hm⟩ := bind_some hm
 refine wc call80 [r0_0, F6 x916, U6 a3] z z z ?_
 refine (ref11_Get_ref f0_0 hst.to0 ht922).mono ?_
 rintro _ w923 ⟨I924, v926, rfl, hI925, f928, hst⟩
 refine ⟨_, z, ?_⟩
 replace hst := hst.of0
 replace f0_0 := f0_0.mono (ro_le hI925)
 replace hI0 := hI0.trans hI925
 replace hL909 := hL909.trans hI925
 obtain ⟨b930, w931, ew932, eb933, hst⟩ := hst.box [.bool false, Zs] 61
 refine wl_run (v := Pt b930 0) (w' := w931) z z (x_al (by kernel_rfl) ew932 eb933) ?_
 obtain ⟨w935, hr936, hst⟩ := hst.bx [.bool t921.Has, v926] sizeOf61 z (oC z (oC (one_of_sliceV (ro_sliceV f928)) oN)) (by kernel_rfl)
 refine wl_unit z z (x_unit hr936) ?_
 refine wl_nil (tn (wp_seq (wrl (wv (Pt b930 0) z z (x_field z underlying61 z sizeOf4 z) (wv (.bool t921.Has) z z (x_load z isAgg4 (hst.bc0 z)) (wv (.bool t921.Has) z z z ?_))))))
 refine bsplit t921.Has (fun hc937 => ?_) (fun hc937 => ?_)
 {
 replace hm := bif_t hc937 hm
 refine wv (v769) ((wanted_eq z z z (cvb hc937)).trans z) z z (wv (.int .i64 z904) ((wanted_eq z z z (cvb hc937)).trans z) z z (wv (.pointer (some (eAddr v769 (z904.toNat * 1 + 0)))) ((wanted_eq z z z (cvb hc937)).trans z) z (x_index z z underlying43 sizeOf37 hst.sv2 h918 h919) (wv (.float .f64 x916) ((wanted_eq z z z (cvb hc937)).trans z) z (x_load z isAgg37 (hst.ol2 hi920 (by rintro _ rfl; rfl))) (wv (.float .f64 a1) ((wanted_eq z z z (cvb hc937)).trans z) z z (wv (.float .f64 a2) ((wanted_eq z z z (cvb hc937)).trans z) z z ?_)))))
 obtain ⟨t938, ht939, hm⟩ := bind_some hm
 refine wl_call ((wanted_eq z z z (cvb hc937)).trans z) z (x_call call153 z (vs := [F6 x916, F6 a1, F6 a2]) z) ?_
 refine (ref01_Within_ref hst.to0 ht939).mono ?_
 rintro _ w940 ⟨rfl, hst⟩
 refine ⟨_, z, ?_⟩
 replace hst := hst.of0
 refine wv (.bool t938) z z (x_pick_t hc937 z z) (wl_nil (tn ?_))
 refine bsplit t938 (fun hc943 => ?_) (fun hc943 => ?_)
 {
 replace hm := bif_t hc943 hm
 refine wp_ift (cvb hc943) ?_
 refine wp_region_St hst 11 [0, 1, 2, 3, 4, 5, 6, 7, 8, 9, 10] [0, 0, 0, 6, 14, 0, 32, 126, 254, 511, 1023] [10] z (by kernel_rfl) (by kernel_rfl) Tryz.mixed (by kernel_rfl) ?_
 refine wsr (v902) 0 rfl rfl rfl (by kernel_rfl) (fun w hst => rfl) (wsr (v769) 1 rfl rfl rfl (by kernel_rfl) (fun w hst => rfl) (wsr (.int .i64 z904) 2 rfl rfl rfl (by kernel_rfl) (fun w hst => rfl) (wsr (.pointer (some (eAddr v769 (z904.toNat * 1 + 0)))) 3 rfl rfl rfl (by kernel_rfl) (fun w hst => x_index rfl rfl underlying43 sizeOf37 hst.sv2 h918 h919) (wsr (.float .f64 x916) 4 rfl rfl rfl (by kernel_rfl) (fun w hst => x_load rfl isAgg37 (hst.ol2 hi920 (by rintro _ rfl; rfl))) (wsr (Pt b930 1) 5 rfl rfl rfl (by kernel_rfl) (fun w hst => x_field rfl underlying61 rfl sizeOf22 rfl) (wsr (v926) 6 rfl rfl rfl (by kernel_rfl) (fun w hst => x_load rfl isAgg22 (hst.bc0 rfl)) (wsr (.agg #[F6 x916, v926]) 7 rfl rfl rfl (by kernel_rfl) (fun w hst => by obtain ⟨_, _, hv_, _⟩ := (ro_sliceV f928); rw [hv_]; kernel_rfl) ?_)))))))
 refine ws_e1 8 (by kernel_rfl) ?_
 refine nxe [9, 10] (by kernel_rfl) z z ?_
 clear hst
 intro w hst
 obtain ⟨b946, w947, ew948, eb949, hst⟩ := hst.lits (E := ty_api_Pair) (xs := [({ At := x916, Val := t921.Val } : api_Pair)]) [[F6 x916, v926]] 152 1 z (Reps.cons ⟨_, z, f928, one_of_sliceV (ro_sliceV f928)⟩ Reps.nil)
 refine we_run (v := (.slice (some ⟨b946, 0, none⟩) 1 1)) (w' := w947) z (x_als (by kernel_rfl) ew948 eb949) ?_
 refine ws_next (pend' := [(0, v902)]) hst (by kernel_rfl) (pkr z z (fun w hst => z) pk_nil) ?_
 refine ws_e1 9 (by kernel_rfl) ?_
 refine nxe [10] (by kernel_rfl) z z ?_
 clear hst
 intro w hst
 obtain ⟨hg951, hm⟩ := gd_some hm
 replace hst := hst.pull2
 obtain ⟨v952, w953, hr954, hst⟩ := run_append elem_81 underlying81 hst hst.src1 (room_of hg951 z) 81
 refine we_run (v := v952) (w' := w953) z (x_append z z hr954) ?_
 refine ws_next (pend' := []) hst (by kernel_rfl) pk_nil ?_
 refine ws_e1 10 (by kernel_rfl) ?_
 refine nxe [] (by kernel_rfl) z z ?_
 clear hst
 intro w hst
 refine we_run (v := v952) (w' := w) z z ?_
 refine ws_next (pend' := []) hst (by kernel_rfl) pk_nil ?_
 refine ws_nil ?_
 intro w hst
 refine blk_n (tn (wrl ?_))
 refine wv (.int .i64 z904) z z z (wv (.int .i64 (i64.wrap (z904 + (1:Int)))) z z z (wv (.int .i64 (i64.wrap (z904 + (1:Int)))) z z z (wl_nil (tn ?_))))
 replace hst := hst.pull3.pull1.keep2
 obtain rfl := some_inj hm
 exact ⟨_, Nat.lt_succ_self _, _, (z901 ++ ([({ At := x916, Val := t921.Val } : api_Pair)])), (i64.wrap (z904 + (1:Int))), v952, _, hx912, (fu 0 r0_0 z (fu 1 (.float .f64 a1) z (fu 2 (.float .f64 a2) z (fu 3 (.int .u64 a3) z (fu 4 (.int .i64 a4) z (fu 11 v952 z (fu 12 v769 z (fu 13 (.int .i64 (i64.wrap (z904 + (1:Int)))) z z)))))))), hL909, hst⟩
}
 {
 replace hm := bif_f hc943 hm
 refine wp_iff (cvb hc943) ?_
 refine wp_skip (blk_n (tn (wrl ?_)))
 refine wv (.int .i64 z904) z z z (wv (.int .i64 (i64.wrap (z904 + (1:Int)))) z z z (wv (.int .i64 (i64.wrap (z904 + (1:Int)))) z z z (wl_nil (tn ?_))))
 replace hst := hst.pull2.pull2.keep2
 obtain rfl := some_inj hm
 exact ⟨_, Nat.lt_succ_self _, _, z901, (i64.wrap (z904 + (1:Int))), v902, _, hx912, (fu 0 r0_0 z (fu 1 (.float .f64 a1) z (fu 2 (.float .f64 a2) z (fu 3 (.int .u64 a3) z (fu 4 (.int .i64 a4) z (fu 11 v902 z (fu 12 v769 z (fu 13 (.int .i64 (i64.wrap (z904 + (1:Int)))) z z)))))))), hL909, hst⟩
}
}
 {
 replace hm := bif_f hc937 hm
 refine wo hc937 z z z z z z (wo hc937 z z z z z z (wo hc937 z z z z z z (wo hc937 z z z z z z (wo hc937 z z z z z z (wo hc937 z z z z z z (wo hc937 z z z z z z (wv (.bool false) z z (x_pick_f hc937 z z) (wl_nil (tn ?_)))))))))
 refine wp_iff z ?_
 refine wp_skip (blk_n (tn (wrl ?_)))
 refine wv (.int .i64 z904) z z z (wv (.int .i64 (i64.wrap (z904 + (1:Int)))) z z z (wv (.int .i64 (i64.wrap (z904 + (1:Int)))) z z z (wl_nil (tn ?_))))
 replace hst := hst.pull2.pull2.keep2
 obtain rfl := some_inj hm
 exact ⟨_, Nat.lt_succ_self _, _, z901, (i64.wrap (z904 + (1:Int))), v902, _, hx912, (fu 0 r0_0 z (fu 1 (.float .f64 a1) z (fu 2 (.float .f64 a2) z (fu 3 (.int .u64 a3) z (fu 4 (.int .i64 a4) z (fu 11 v902 z (fu 12 v769 z (fu 13 (.int .i64 (i64.wrap (z904 + (1:Int)))) z z)))))))), hL909, hst⟩
}
}
 {
 replace hm := bif_f hc915 hm
 refine wp_iff (cvb hc915) ?_
 refine wp_exit (then_x (then_x ?_))
 replace hm := inr_up hm hx912
 refine blk_x (tn (wp_seq (wrl ?_)))
 refine wv (v902) z z z (wv (v902) z z z (wl_nil (tn (wp_ret ?_))))
 obtain rfl := some_inj hm
 refine post_ret (vs := [v902]) results81 (rvs_cons (rv_tmp z) rvs_nil) ?_
 exact ⟨_, v902, z, hI0, hst.keep1⟩
}
}
 {
 replace hm := bif_f hc914 hm
 refine wo hc914 z z z z z z (wo hc914 z z z z z z (wo hc914 z z z z z z (wo hc914 z z z z z z (wv (.bool false) z z (x_pick_f hc914 z z) (wl_nil (tn ?_))))))
 refine wp_iff z ?_
 refine wp_exit (then_x (then_x ?_))
 replace hm := inr_up hm hx912
 refine blk_x (tn (wp_seq (wrl ?_)))
 refine wv (v902) z z z (wv (v902) z z z (wl_nil (tn (wp_ret ?_))))
 obtain rfl := some_inj hm
 refine post_ret (vs := [v902]) results81 (rvs_cons (rv_tmp z) rvs_nil) ?_
 exact ⟨_, v902, z, hI0, hst.keep1⟩
}
}

theorem ref16_State_Told_ref {w0 w : World} {I : HL} {R : SP} {a0 : ref16_State} {p0 : Value} {a1 : api_Hold} {r1_0 : Value} {r1_1 : Value} {r1_2 : Value} {r1_3 : Value} (f1_0 : Rd tyF64 R I r1_0 a1.Gets) (f1_1 : Rd tyF2 R I r1_1 a1.Scans) (f1_2 : Rd tyF64 R I r1_2 a1.Puts) (f1_3 : Rd (tyInt .u8) R I r1_3 a1.Data) (hst : St w0 w I [at_ref16_State p0 a0] R) {r : (api_Reply)} (hm : ref16_State_Told a0 a1 = some r) :
  Calls prog 34 #[p0, .agg #[U6 a1.ID.Session, U6 a1.ID.Seq, U6 a1.Epoch, r1_0, r1_1, r1_2, r1_3]] w fun e w' => ∃ (I' : HL) (q0_0 : Value) (q0_1 : Value), e = .returned (.agg #[I6 r.E, U6 r.Epoch, U6 r.Index, q0_0, q0_1]) ∧ I.le I' ∧ St w0 w' I' [ownS ty_api_Got q0_0 r.Gots, ownS (tySl ty_api_Pair) q0_1 r.Scans, at_ref16_State p0 a0] R := by {
 unfold ref16_State_Told at hm
 refine calls_start (args := [p0, .agg #[U6 a1.ID.Session, U6 a1.ID.Seq, U6 a1.Epoch, r1_0, r1_1, r1_2, r1_3]]) func34 z ntmps34 (Nat.le_of_ble_eq_true z) ?_
 have hI0 := HL.le.refl I
 refine wp_seq (wrl ?_)
 obtain ⟨b781, w782, ew783, eb784, hst⟩ := hst.box [U6 a1.ID.Session, U6 a1.ID.Seq, U6 a1.Epoch, r1_0, r1_1, r1_2, r1_3] 46
 refine wl_run (v := Pt b781 0) (w' := w782) z z (x_al (by kernel_rfl) ew783 eb784) ?_
 obtain ⟨b788, w789, ew790, eb791, hst⟩ := hst.box [Zi, Zu, Zu, Zs, Zs] 33
 refine wl_run (v := Pt b788 0) (w' := w789) z z (x_al (by kernel_rfl) ew790 eb791) ?_
 refine wl_nil (tn (wp_seq (wrl (wv (.agg #[Zi, Zu, Zu, Zs, Zs]) z z (by kernel_rfl) ?_))))
 obtain ⟨b797, w798, ew799, eb800, hst⟩ := hst.box [Zi, Zu, Zu, Zs, Zs] 33
 refine wl_run (v := Pt b797 0) (w' := w798) z z (x_al (by kernel_rfl) ew799 eb800) ?_
 obtain ⟨w802, hr803, hst⟩ := hst.bx [Zi, Zu, Zu, Zs, Zs] sizeOf33 z (oC z (oC z (oC z (oC z (oC z oN))))) (by kernel_rfl)
 refine wl_unit z z (x_unit hr803) ?_
 refine wl_nil (tn ?_)
 obtain ⟨y1011, hm, hx1012⟩ := bind_some hm
 refine wp_cut (fun a w => ∃ (I1008 : HL) (z1007 : (List api_Got)) (v1006 : Value) (σ1009 : Nat → Value), (ref16_State_Told_j0 a1 a0) z1007 = some r ∧ a = Fr 61 (upd (upd (upd (upd σ1009 0 (p0)) 3 (Pt b781 0)) 4 (Pt b788 0)) 5 (Pt b797 0)) ∧ I.le I1008 ∧ St w0 w I1008 [at_ref16_State p0 a0, cells b781 [U6 a1.ID.Session, U6 a1.ID.Seq, U6 a1.Epoch, r1_0, r1_1, r1_2, r1_3], cells b788 [Zi, Zu, Zu, Zs, Zs], cells b797 [Zi, Zu, Zu, v1006, Zs], ownS ty_api_Got v1006 z1007] R) ?_ ?_
 {
 have hL1013 := HL.le.refl I
 refine wp_seq (wrl (wv (.int .i64 (0:Int)) z z z (wl_nil (tn (wp_block ?_)))))
 replace hst := hst.own_nil ty_api_Got
 obtain ⟨n952, hm⟩ := loopO_some hm
 refine wp_loop_n (fun n a w => ∃ (I950 : HL) (z946 : (List api_Got)) (z949 : Int) (v947 : Value) (σ951 : Nat → Value), loopN (ref16_State_Told_l1 a1 a0) n (z946, z949) = some y1011 ∧ a = Fr 61 (upd (upd (upd (upd (upd σ951 0 (p0)) 3 (Pt b781 0)) 4 (Pt b788 0)) 5 (Pt b797 0)) 6 (.int .i64 z949)) ∧ I.le I950 ∧ St w0 w I950 [ownS ty_api_Got v947 z946, cells b797 [Zi, Zu, Zu, v947, Zs], cells b788 [Zi, Zu, Zu, Zs, Zs], cells b781 [U6 a1.ID.Session, U6 a1.ID.Seq, U6 a1.Epoch, r1_0, r1_1, r1_2, r1_3], at_ref16_State p0 a0] R) n952 ⟨_, [], (0:Int), Zs, _, hm, (fu 0 p0 z (fu 3 (Pt b781 0) z (fu 4 (Pt b788 0) z (fu 5 (Pt b797 0) z (fu 6 (.int .i64 (0:Int)) z z))))), (HL.le.refl _), hst⟩ ?_
 rintro n958 _ w953 ⟨I950, z946, z949, v947, σ951, hm, rfl, hL954, hst⟩
 obtain ⟨n955, y956, rfl, hm, hx957⟩ := loopN_some hm
 dsimp only [ref16_State_Told_l1] at hm
 replace f1_0 := f1_0.mono (rd_le hL954)
 replace f1_1 := f1_1.mono (rd_le hL954)
 replace f1_2 := f1_2.mono (rd_le hL954)
 replace f1_3 := f1_3.mono (rd_le hL954)
 replace hI0 := hI0.trans hL954
 replace hL1013 := hL1013.trans hL954
 refine wp_seq (wp_seq (wrl (wv (.int .i64 z949) z z z (wv (Pt b781 3) z z (x_field z underlying46 z sizeOf43 z) (wv (r1_0) z z (x_load z isAgg43 (hst.bc3 z)) (wv (.int .i64 ((a1.Gets).length : Int)) z z (x_len z underlying43 (rd_sliceV f1_0)) (wv (.bool (decide (z949 < ((a1.Gets).length : Int)))) z z z (wl_nil (tn ?_)))))))))
 refine bsplit (decide (z949 < ((a1.Gets).length : Int))) (fun hc959 => ?_) (fun hc959 => ?_)
 {
 replace hm := bif_t hc959 hm
 refine wp_ift (cvb hc959) ?_
 refine wp_skip (tn (wp_seq (wp_block ?_)))
 replace hst := hst.pull4
 obtain ⟨b960, v961, v964, v967, v970, v973, v975, v977, ⟨rfl, f963, f966, f969, f972⟩, hst'⟩ := at_ref16_State_open hst
 clear hst
 have hst := hst'
 clear hst'
 refine wp_region_St hst 16 [0, 1, 2, 3, 4, 5, 6, 7, 8, 9, 10, 11, 12, 13, 14, 15] [0, 1, 0, 4, 12, 28, 0, 64, 0, 448, 960, 2044, 4092, 8191, 16383, 32767] [] z (by kernel_rfl) (by kernel_rfl) Tryz.mixed (by kernel_rfl) ?_
 refine wsr (Pt b797 3) 0 z z z (by kernel_rfl) (fun w hst => x_field z underlying33 z sizeOf30 z) (wsr (v947) 1 z z z (by kernel_rfl) (fun w hst => x_load z isAgg30 (hst.bc5 z)) (wsr (Pt b960 0) 2 z z z (by kernel_rfl) (fun w hst => z) (wsr (Pt b960 0) 3 z z z (by kernel_rfl) (fun w hst => z) (wsr (Pt b960 2) 4 z z z (by kernel_rfl) (fun w hst => x_field z underlying130 z sizeOf124 z) (wsr (v961) 5 z z z (by kernel_rfl) (fun w hst => x_load z isAgg124 (hst.bc0 z)) (wsr (Pt b781 3) 6 z z z (by kernel_rfl) (fun w hst => x_field z underlying46 z sizeOf43 z) (wsr (r1_0) 7 z z z (by kernel_rfl) (fun w hst => x_load z isAgg43 (hst.bc7 z)) (wsr (.int .i64 z949) 8 z z z (by kernel_rfl) (fun w hst => z) ?_))))))))
 obtain ⟨x979, hx980, hm⟩ := bind_some hm
 obtain ⟨h981, h982, hi983⟩ := geto_some hx980
 refine wsr (.pointer (some (eAddr r1_0 (z949.toNat * 1 + 0)))) 9 z z z (by kernel_rfl) (fun w hst => x_index z z underlying43 sizeOf37 (rd_sliceV f1_0) h981 h982) (wsr (.float .f64 x979) 10 z z z (by kernel_rfl) (fun w hst => x_load z isAgg37 (rd_load f1_0 (HL.le.refl _) hst hi983 (by rintro _ rfl; rfl))) ?_)
 refine ws_e1 11 (by kernel_rfl) ?_
 refine nxe [12, 13, 14, 15] (by kernel_rfl) z z ?_
 clear hst
 intro w hst
 obtain ⟨t984, ht985, hm⟩ := bind_some hm
 refine wec call80 [v961, F6 x979, U6 (18446744073709551615:Int)] z z ?_
 refine (ref11_Get_ref f963 hst.to0 ht985).mono ?_
 rintro _ w986 ⟨I987, v989, rfl, hI988, f991, hst⟩
 refine ⟨_, z, ?_⟩
 replace hst := hst.of0
 replace f1_0 := f1_0.mono (rd_le hI988)
 replace f1_1 := f1_1.mono (rd_le hI988)
 replace f1_2 := f1_2.mono (rd_le hI988)
 replace f1_3 := f1_3.mono (rd_le hI988)
 replace f963 := f963.mono (ro_le hI988)
 replace f966 := f966.mono (ro_le hI988)
 replace f969 := f969.mono (ro_le hI988)
 replace f972 := f972.mono (ro_le hI988)
 replace hI0 := hI0.trans hI988
 replace hL1013 := hL1013.trans hI988
 replace hL954 := hL954.trans hI988
 refine ws_next (pend' := [(1, v947), (0, Pt b797 3)]) hst (by kernel_rfl) (pkr z z (fun w hst => x_load z isAgg30 (hst.bc5 z)) (pkr z z (fun w hst => x_field z underlying33 z sizeOf30 z) pk_nil)) ?_
 refine ws_e1 12 (by kernel_rfl) ?_
 refine nxe [13, 14, 15] (by kernel_rfl) z z ?_
 clear hst
 intro w hst
 obtain ⟨b993, w994, ew995, eb996, hst⟩ := hst.lits (E := ty_api_Got) (xs := [t984]) [[.bool t984.Has, v989]] 61 1 z (Reps.cons ⟨_, z, f991, one_of_sliceV (ro_sliceV f991)⟩ Reps.nil)
 refine we_run (v := (.slice (some ⟨b993, 0, none⟩) 1 1)) (w' := w994) z (x_als (by kernel_rfl) ew995 eb996) ?_
 refine ws_next (pend' := [(1, v947), (0, Pt b797 3)]) hst (by kernel_rfl) (pkr z z (fun w hst => x_load z isAgg30 (hst.bc6 z)) (pkr z z (fun w hst => x_field z underlying33 z sizeOf30 z) pk_nil)) ?_
 refine ws_e1 13 (by kernel_rfl) ?_
 refine nxe [14, 15] (by kernel_rfl) z z ?_
 clear hst
 intro w hst
 obtain ⟨hg998, hm⟩ := gd_some hm
 replace hst := hst.pull5
 obtain ⟨v999, w1000, hr1001, hst⟩ := run_append elem_30 underlying30 hst hst.src1 (room_of hg998 z) 30
 refine we_run (v := v999) (w' := w1000) z (x_append z z hr1001) ?_
 refine ws_next (pend' := []) hst (by kernel_rfl) pk_nil ?_
 refine wsr (Pt b797 3) 14 z z z (by kernel_rfl) (fun w hst => x_field z underlying33 z sizeOf30 z) ?_
 refine ws_e1 15 (by kernel_rfl) ?_
 refine nxe [] (by kernel_rfl) z z ?_
 clear hst
 intro w hst
 replace hst := hst.pull6
 obtain ⟨w1003, hr1004, hst⟩ := hst.boxStore1 (P := prog) (t := 30) (cs' := [Zi, Zu, Zu, v999, Zs]) 3 v999 (one_of_sliceV hst.sv1) sizeOf30 z z
 refine we_unit z (x_unit hr1004) ?_
 refine ws_next (pend' := []) hst (by kernel_rfl) pk_nil ?_
 refine ws_nil ?_
 intro w hst
 refine blk_n (tn (wrl ?_))
 refine wv (.int .i64 z949) z z z (wv (.int .i64 (i64.wrap (z949 + (1:Int)))) z z z (wv (.int .i64 (i64.wrap (z949 + (1:Int)))) z z z (wl_nil (tn ?_))))
 replace hst := hst.pull6.pull6.pull6.pull6
 replace hst := at_ref16_State_close (pv := Pt b960 0) (x := a0) hst ⟨z, f963, f966, f969, f972⟩
 replace hst := hst.pull5.pull5.pull3.pull4.keep5
 obtain rfl := some_inj hm
 exact ⟨_, Nat.lt_succ_self _, _, (z946 ++ ([t984])), (i64.wrap (z949 + (1:Int))), v999, _, hx957, (fu 0 (Pt b960 0) z (fu 3 (Pt b781 0) z (fu 4 (Pt b788 0) z (fu 5 (Pt b797 0) z (fu 6 (.int .i64 (i64.wrap (z949 + (1:Int)))) z z))))), hL954, hst⟩
}
 {
 replace hm := bif_f hc959 hm
 refine wp_iff (cvb hc959) ?_
 refine wp_exit (then_x (then_x ?_))
 replace hm := inr_up hm hx957
 refine blk_x (tn ?_)
 replace hst := hst.pull1.pull2.pull3.pull4.keep5
 obtain rfl := some_inj hm
 exact ⟨_, z946, v947, _, hx1012, (fu 0 p0 z (fu 3 (Pt b781 0) z (fu 4 (Pt b788 0) z (fu 5 (Pt b797 0) z z)))), hL1013, hst⟩
}
}
 {
 clear hst
 rintro _ w1014 ⟨I1008, z1007, v1006, σ1009, hm, rfl, hL1010, hst⟩
 dsimp only [ref16_State_Told_j0] at hm
 replace f1_0 := f1_0.mono (rd_le hL1010)
 replace f1_1 := f1_1.mono (rd_le hL1010)
 replace f1_2 := f1_2.mono (rd_le hL1010)
 replace f1_3 := f1_3.mono (rd_le hL1010)
 replace hI0 := hI0.trans hL1010
 refine wp_seq (wp_seq (wrl (wv (.int .i64 (0:Int)) z z z (wl_nil (tn (wp_block ?_))))))
 replace hst := hst.own_nil (tySl ty_api_Pair)
 obtain ⟨n1169, hm⟩ := loopO_some hm
 refine wp_loop_n (fun n a w => ∃ (I1167 : HL) (z1163 : (List (List api_Pair))) (z1166 : Int) (v1164 : Value) (σ1168 : Nat → Value), loopN (ref16_State_Told_l2 a1 a0 z1007) n (z1163, z1166) = some r ∧ a = Fr 61 (upd (upd (upd (upd (upd σ1168 0 (p0)) 3 (Pt b781 0)) 4 (Pt b788 0)) 5 (Pt b797 0)) 7 (.int .i64 z1166)) ∧ I1008.le I1167 ∧ St w0 w I1167 [ownS (tySl ty_api_Pair) v1164 z1163, at_ref16_State p0 a0, cells b781 [U6 a1.ID.Session, U6 a1.ID.Seq, U6 a1.Epoch, r1_0, r1_1, r1_2, r1_3], cells b788 [Zi, Zu, Zu, Zs, Zs], cells b797 [Zi, Zu, Zu, v1006, v1164], ownS ty_api_Got v1006 z1007] R) n1169 ⟨_, [], (0:Int), Zs, _, hm, (fu 0 p0 z (fu 3 (Pt b781 0) z (fu 4 (Pt b788 0) z (fu 5 (Pt b797 0) z (fu 7 (.int .i64 (0:Int)) z z))))), (HL.le.refl _), hst⟩ ?_
 rintro n1175 _ w1170 ⟨I1167, z1163, z1166, v1164, σ1168, hm, rfl, hL1171, hst⟩
 obtain ⟨n1172, y1173, rfl, hm, hx1174⟩ := loopN_some hm
 dsimp only [ref16_State_Told_l2] at hm
 replace f1_0 := f1_0.mono (rd_le hL1171)
 replace f1_1 := f1_1.mono (rd_le hL1171)
 replace f1_2 := f1_2.mono (rd_le hL1171)
 replace f1_3 := f1_3.mono (rd_le hL1171)
 replace hI0 := hI0.trans hL1171
 refine wp_seq (wp_seq (wrl (wv (.int .i64 z1166) z z z (wv (Pt b781 4) z z (x_field z underlying46 z sizeOf44 z) (wv (r1_1) z z (x_load z isAgg44 (hst.bc2 z)) (wv (.int .i64 ((a1.Scans).length : Int)) z z (x_len z underlying44 (rd_sliceV f1_1)) (wv (.bool (decide (z1166 < ((a1.Scans).length : Int)))) z z z (wl_nil (tn ?_)))))))))
 refine bsplit (decide (z1166 < ((a1.Scans).length : Int))) (fun hc1176 => ?_) (fun hc1176 => ?_)
 {
 replace hm := bif_t hc1176 hm
 refine wp_ift (cvb hc1176) ?_
 refine wp_skip (tn (wp_seq (wp_block ?_)))
 replace hst := hst.pull1
 obtain ⟨b1177, v1178, v1181, v1184, v1187, v1190, v1192, v1194, ⟨rfl, f1180, f1183, f1186, f1189⟩, hst'⟩ := at_ref16_State_open hst
 clear hst
 have hst := hst'
 clear hst'
 refine wp_region_St hst 23 [0, 1, 2, 3, 4, 5, 6, 7, 8, 9, 10, 11, 12, 13, 14, 15, 16, 17, 18, 19, 20, 21, 22] [0, 1, 0, 4, 12, 28, 0, 64, 0, 448, 960, 1984, 0, 4096, 0, 28672, 61440, 126976, 262140, 524284, 1048575, 2097151, 4194303] [] z (by kernel_rfl) (by kernel_rfl) Tryz.mixed (by kernel_rfl) ?_
 refine wsr (Pt b797 4) 0 z z z (by kernel_rfl) (fun w hst => x_field z underlying33 z sizeOf31 z) (wsr (v1164) 1 z z z (by kernel_rfl) (fun w hst => x_load z isAgg31 (hst.bc7 z)) (wsr (Pt b1177 0) 2 z z z (by kernel_rfl) (fun w hst => z) (wsr (Pt b1177 0) 3 z z z (by kernel_rfl) (fun w hst => z) (wsr (Pt b1177 2) 4 z z z (by kernel_rfl) (fun w hst => x_field z underlying130 z sizeOf124 z) (wsr (v1178) 5 z z z (by kernel_rfl) (fun w hst => x_load z isAgg124 (hst.bc0 z)) (wsr (Pt b781 4) 6 z z z (by kernel_rfl) (fun w hst => x_field z underlying46 z sizeOf44 z) (wsr (r1_1) 7 z z z (by kernel_rfl) (fun w hst => x_load z isAgg44 (hst.bc5 z)) (wsr (.int .i64 z1166) 8 z z z (by kernel_rfl) (fun w hst => z) ?_))))))))
 obtain ⟨x1196, hx1197, hm⟩ := bind_some hm
 obtain ⟨h1198, h1199, hi1200⟩ := geto_some hx1197
 refine wsr (.pointer (some (eAddr r1_1 (z1166.toNat * 2 + 0)))) 9 z z z (by kernel_rfl) (fun w hst => x_index z z underlying44 sizeOf80 (rd_sliceV f1_1) h1198 h1199) (wsr (.pointer (some (eAddr r1_1 (z1166.toNat * 2 + 0)))) 10 z z z (by kernel_rfl) (fun w hst => x_index_arr_e (i := (0:Int)) z z underlying80 sizeOf37 (by decide) (by decide) z) (wsr (.float .f64 x1196.1) 11 z z z (by kernel_rfl) (fun w hst => x_load z isAgg37 (rd_load f1_1 (HL.le.refl _) hst hi1200 (by rintro _ rfl; rfl))) (wsr (Pt b781 4) 12 z z z (by kernel_rfl) (fun w hst => x_field z underlying46 z sizeOf44 z) (wsr (r1_1) 13 z z z (by kernel_rfl) (fun w hst => x_load z isAgg44 (hst.bc5 z)) (wsr (.int .i64 z1166) 14 z z z (by kernel_rfl) (fun w hst => z) (wsr (.pointer (some (eAddr r1_1 (z1166.toNat * 2 + 0)))) 15 z z z (by kernel_rfl) (fun w hst => x_index z z underlying44 sizeOf80 (rd_sliceV f1_1) h1198 h1199) (wsr (.pointer (some (eAddr r1_1 (z1166.toNat * 2 + 1)))) 16 z z z (by kernel_rfl) (fun w hst => x_index_arr_e (i := (1:Int)) z z underlying80 sizeOf37 (by decide) (by decide) z) (wsr (.float .f64 x1196.2) 17 z z z (by kernel_rfl) (fun w hst => x_load z isAgg37 (rd_load f1_1 (HL.le.refl _) hst hi1200 (by rintro _ rfl; rfl))) ?_))))))))
 refine ws_e1 18 (by kernel_rfl) ?_
 refine nxe [19, 20, 21, 22] (by kernel_rfl) z z ?_
 clear hst
 intro w hst
 obtain ⟨t1201, ht1202, hm⟩ := bind_some hm
 refine wec call81 [v1178, F6 x1196.1, F6 x1196.2, U6 (18446744073709551615:Int), I6 (64:Int)] z z ?_
 refine (ref11_Scan_ref f1180 hst.to0 ht1202).mono ?_
 rintro _ w1203 ⟨I1204, v1206, rfl, hI1205, hst⟩
 refine ⟨_, z, ?_⟩
 replace hst := hst.of1
 replace f1_0 := f1_0.mono (rd_le hI1205)
 replace f1_1 := f1_1.mono (rd_le hI1205)
 replace f1_2 := f1_2.mono (rd_le hI1205)
 replace f1_3 := f1_3.mono (rd_le hI1205)
 replace f1180 := f1180.mono (ro_le hI1205)
 replace f1183 := f1183.mono (ro_le hI1205)
 replace f1186 := f1186.mono (ro_le hI1205)
 replace f1189 := f1189.mono (ro_le hI1205)
 replace hI0 := hI0.trans hI1205
 replace hL1171 := hL1171.trans hI1205
 refine ws_next (pend' := [(1, v1164), (0, Pt b797 4)]) hst (by kernel_rfl) (pkr z z (fun w hst => x_load z isAgg31 (hst.bc8 z)) (pkr z z (fun w hst => x_field z underlying33 z sizeOf31 z) pk_nil)) ?_
 refine ws_e1 19 (by kernel_rfl) ?_
 refine nxe [20, 21, 22] (by kernel_rfl) z z ?_
 clear hst
 intro w hst
 obtain ⟨I1209, hI1210, f1211, hst⟩ := hst.own_fix
 replace f1_0 := f1_0.mono (rd_le hI1210)
 replace f1_1 := f1_1.mono (rd_le hI1210)
 replace f1_2 := f1_2.mono (rd_le hI1210)
 replace f1_3 := f1_3.mono (rd_le hI1210)
 replace f1180 := f1180.mono (ro_le hI1210)
 replace f1183 := f1183.mono (ro_le hI1210)
 replace f1186 := f1186.mono (ro_le hI1210)
 replace f1189 := f1189.mono (ro_le hI1210)
 replace hI0 := hI0.trans hI1210
 replace hL1171 := hL1171.trans hI1210
 obtain ⟨b1212, w1213, ew1214, eb1215, hst⟩ := hst.lits (E := (tySl ty_api_Pair)) (xs := [t1201]) [[v1206]] 81 1 z (Reps.cons ⟨_, z, f1211, one_of_sliceV (ro_sliceV f1211)⟩ Reps.nil)
 refine we_run (v := (.slice (some ⟨b1212, 0, none⟩) 1 1)) (w' := w1213) z (x_als (by obtain ⟨_, _, hv_, _⟩ := (ro_sliceV f1211); rw [hv_]; kernel_rfl) ew1214 eb1215) ?_
 refine ws_next (pend' := [(1, v1164), (0, Pt b797 4)]) hst (by kernel_rfl) (pkr z z (fun w hst => x_load z isAgg31 (hst.bc8 z)) (pkr z z (fun w hst => x_field z underlying33 z sizeOf31 z) pk_nil)) ?_
 refine ws_e1 20 (by kernel_rfl) ?_
 refine nxe [21, 22] (by kernel_rfl) z z ?_
 clear hst
 intro w hst
 obtain ⟨hg1217, hm⟩ := gd_some hm
 replace hst := hst.pull5
 obtain ⟨v1218, w1219, hr1220, hst⟩ := run_append elem_31 underlying31 hst hst.src1 (room_of hg1217 z) 31
 refine we_run (v := v1218) (w' := w1219) z (x_append z z hr1220) ?_
 refine ws_next (pend' := []) hst (by kernel_rfl) pk_nil ?_
 refine wsr (Pt b797 4) 21 z z z (by kernel_rfl) (fun w hst => x_field z underlying33 z sizeOf31 z) ?_
 refine ws_e1 22 (by kernel_rfl) ?_
 refine nxe [] (by kernel_rfl) z z ?_
 clear hst
 intro w hst
 replace hst := hst.pull8
 obtain ⟨w1222, hr1223, hst⟩ := hst.boxStore1 (P := prog) (t := 31) (cs' := [Zi, Zu, Zu, v1006, v1218]) 4 v1218 (one_of_sliceV hst.sv1) sizeOf31 z z
 refine we_unit z (x_unit hr1223) ?_
 refine ws_next (pend' := []) hst (by kernel_rfl) pk_nil ?_
 refine ws_nil ?_
 intro w hst
 refine blk_n (tn (wrl ?_))
 refine wv (.int .i64 z1166) z z z (wv (.int .i64 (i64.wrap (z1166 + (1:Int)))) z z z (wv (.int .i64 (i64.wrap (z1166 + (1:Int)))) z z z (wl_nil (tn ?_))))
 replace hst := hst.pull6.pull6.pull6.pull6
 replace hst := at_ref16_State_close (pv := Pt b1177 0) (x := a0) hst ⟨z, f1180, f1183, f1186, f1189⟩
 replace hst := hst.pull6.pull2.pull6.pull6.pull4.pull5.keep6
 obtain rfl := some_inj hm
 exact ⟨_, Nat.lt_succ_self _, _, (z1163 ++ ([t1201])), (i64.wrap (z1166 + (1:Int))), v1218, _, hx1174, (fu 0 (Pt b1177 0) z (fu 3 (Pt b781 0) z (fu 4 (Pt b788 0) z (fu 5 (Pt b797 0) z (fu 7 (.int .i64 (i64.wrap (z1166 + (1:Int)))) z z))))), hL1171, hst⟩
}
 {
 replace hm := bif_f hc1176 hm
 refine wp_iff (cvb hc1176) ?_
 refine wp_exit (then_x (then_x ?_))
 replace hm := inr_up hm hx1174
 refine blk_x (tn (wp_seq (wrl ?_)))
 refine wv (.agg #[Zi, Zu, Zu, v1006, v1164]) z z (x_loadN (cs := [Zi, Zu, Zu, v1006, v1164]) z isAgg33 sizeOf33 (hst.bcs4 0 z)) ?_
 replace hst := hst.pull3
 obtain ⟨w1224, hr1225, hst⟩ := hst.bx [Zi, Zu, Zu, v1006, v1164] sizeOf33 z (oC z (oC z (oC z (oC (one_of_sliceV hst.sv5) (oC (one_of_sliceV hst.sv1) oN))))) (by kernel_rfl)
 refine wl_unit z z (x_unit hr1225) ?_
 refine wl_nil (tn (wp_ret ?_))
 obtain rfl := some_inj hm
 refine post_ret (vs := [.agg #[Zi, Zu, Zu, v1006, v1164]]) results34 (rvs_cons (rv_cell (cs := [Zi, Zu, Zu, v1006, v1164]) z isAgg33 sizeOf33 (hst.bcs0 0 z)) rvs_nil) ?_
 replace hst := hst.pull2.pull2.pull5
 exact ⟨_, v1006, v1164, z, hI0, hst.keep3⟩
}
}
}

theorem ref11_Put_ref {w0 w : World} {I : HL} {R : SP} {a0 : (List ref11_Version)} {r0_0 : Value} {a1 : ref11_Version} {r1_0 : Value} (f0_0 : Ro ty_ref11_Version I r0_0 a0) (f1_0 : Ro (tyInt .u8) I r1_0 a1.Val) (hst : St w0 w I [] R) {r : ((List ref11_Version))} (hm : ref11_Put a0 a1 = some r) :
  Calls prog 72 #[r0_0, .agg #[F6 a1.At, U6 a1.Epoch, U6 a1.Index, .bool a1.Del, r1_0]] w fun e w' => ∃ (q0_0 : Value), e = .returned (q0_0) ∧ St w0 w' I [ownS ty_ref11_Version q0_0 r] R := by {
 unfold ref11_Put at hm
 refine calls_start (args := [r0_0, .agg #[F6 a1.At, U6 a1.Epoch, U6 a1.Index, .bool a1.Del, r1_0]]) func72 z ntmps72 (Nat.le_of_ble_eq_true z) ?_
 refine wp_seq (wrl ?_)
 obtain ⟨b808, w809, ew810, eb811, hst⟩ := hst.box [F6 a1.At, U6 a1.Epoch, U6 a1.Index, .bool a1.Del, r1_0] 139
 refine wl_run (v := Pt b808 0) (w' := w809) z z (x_al (by kernel_rfl) ew810 eb811) ?_
 refine wv ((.slice none 0 0)) z z z (wl_nil (tn (wp_seq (wrl (wv ((.slice none 0 0)) z z z (wl_nil (tn ?_)))))))
 obtain ⟨y1096, hm, hx1097⟩ := bind_some hm
 refine wp_cut (fun a w => ∃ (z1093 : (List ref11_Version)) (v1092 : Value) (σ1094 : Nat → Value), (ref11_Put_j0 a1) z1093 = some r ∧ a = Fr 56 (upd (upd σ1094 3 (Pt b808 0)) 5 (v1092)) ∧ St w0 w I [cells b808 [F6 a1.At, U6 a1.Epoch, U6 a1.Index, .bool a1.Del, r1_0], ownS ty_ref11_Version v1092 z1093] R) ?_ ?_
 {
 refine wp_seq (wrl (wv (.int .i64 (0:Int)) z z z (wl_nil (tn (wp_block ?_)))))
 replace hst := hst.own_nil ty_ref11_Version
 obtain ⟨n1019, hm⟩ := loopO_some hm
 refine wp_loop_n (fun n a w => ∃ (z1014 : (List ref11_Version)) (z1017 : Int) (v1015 : Value) (σ1018 : Nat → Value), loopN (ref11_Put_l1 a0 a1) n (z1014, z1017) = some y1096 ∧ a = Fr 56 (upd (upd (upd (upd σ1018 0 (r0_0)) 3 (Pt b808 0)) 5 (v1015)) 6 (.int .i64 z1017)) ∧ St w0 w I [ownS ty_ref11_Version v1015 z1014, cells b808 [F6 a1.At, U6 a1.Epoch, U6 a1.Index, .bool a1.Del, r1_0]] R) n1019 ⟨[], (0:Int), Zs, _, hm, (fu 0 r0_0 z (fu 3 (Pt b808 0) z (fu 5 (.slice none 0 0) z (fu 6 (.int .i64 (0:Int)) z z)))), hst⟩ ?_
 rintro n1025 _ w1020 ⟨z1014, z1017, v1015, σ1018, hm, rfl, hst⟩
 obtain ⟨n1022, y1023, rfl, hm, hx1024⟩ := loopN_some hm
 dsimp only [ref11_Put_l1] at hm
 refine wp_seq (wp_seq (wrl (wv (.int .i64 z1017) z z z (wv (r0_0) z z z (wv (.int .i64 ((a0).length : Int)) z z (x_len z underlying124 (ro_sliceV f0_0)) (wv (.bool (decide (z1017 < ((a0).length : Int)))) z z z (wl_nil (tn ?_))))))))
 refine bsplit (decide (z1017 < ((a0).length : Int))) (fun hc1026 => ?_) (fun hc1026 => ?_)
 {
 replace hm := bif_t hc1026 hm
 refine wp_ift (cvb hc1026) ?_
 refine wp_skip (tn (wp_seq (wp_block (wp_seq ?_))))
 refine wp_region_St hst 29 [0, 1, 2, 3, 4, 5, 6, 7, 8, 9, 10, 11, 12, 13, 14, 15, 16, 17, 18, 19, 20, 21, 22, 23, 24, 25, 26, 27, 28] [0, 0, 3, 7, 15, 0, 32, 127, 255, 511, 1023, 1023, 4095, 8191, 16383, 1023, 33791, 131071, 262143, 524287, 1048575, 1048575, 4194303, 8388607, 16777215, 1048575, 34603007, 134217727, 268435455] [] z (by kernel_rfl) (by kernel_rfl) Tryz.mixed (by kernel_rfl) ?_
 refine wsr (r0_0) 0 z z z (by kernel_rfl) (fun w hst => z) (wsr (.int .i64 z1017) 1 z z z (by kernel_rfl) (fun w hst => z) ?_)
 obtain ⟨x1027, hx1028, hm⟩ := bind_some hm
 obtain ⟨h1029, h1030, hi1031⟩ := geto_some hx1028
 refine wsr (.pointer (some (eAddr r0_0 (z1017.toNat * 5 + 0)))) 2 z z z (by kernel_rfl) (fun w hst => x_index z z underlying124 sizeOf139 (ro_sliceV f0_0) h1029 h1030) (wsr (.pointer (some (eAddr r0_0 (z1017.toNat * 5 + 0)))) 3 z z z (by kernel_rfl) (fun w hst => x_field_e z underlying139 z sizeOf37 z) ?_)
 obtain ⟨cs1032, hr1033, hc1034⟩ := Ro.getF f0_0 hi1031
 obtain ⟨v1035, rfl, f1036, -⟩ := hr1033
 refine wsr (.float .f64 x1027.At) 4 z z z (by kernel_rfl) (fun w hst => x_load z isAgg37 ((hc1034 (HL.le.refl _) hst) 0 _ z)) (wsr (Pt b808 0) 5 z z z (by kernel_rfl) (fun w hst => x_field z underlying139 z sizeOf37 z) (wsr (.float .f64 a1.At) 6 z z z (by kernel_rfl) (fun w hst => x_load z isAgg37 (hst.bc1 z)) ?_))
 refine ws_e1 7 (by kernel_rfl) ?_
 refine nxe [8, 9, 10, 11, 12, 13, 14, 15, 16, 17, 18, 19, 20, 21, 22, 23, 24, 25, 26, 27, 28] (by kernel_rfl) z z ?_
 clear hst
 intro w hst
 obtain ⟨t1038, ht1039, hm⟩ := bind_some hm
 refine wec call20 [F6 x1027.At, F6 a1.At] z z ?_
 refine (ref01_Same_ref hst.to0 ht1039).mono ?_
 rintro _ w1040 ⟨rfl, hst⟩
 refine ⟨_, z, ?_⟩
 replace hst := hst.of0
 refine ws_next (pend' := []) hst (by kernel_rfl) pk_nil ?_
 refine wsr (.bool (!t1038)) 8 z z z (by kernel_rfl) (fun w hst => z) (wsr (.bool (!t1038)) 9 z z z (by kernel_rfl) (fun w hst => z) ?_)
 refine bsplit (!t1038) (fun hc1043 => ?_) (fun hc1043 => ?_)
 {
 replace hm := bif_t hc1043 hm
 refine ws_q (v := undef) 10 [11, 12, 13, 14, 15, 16, 17, 18, 19, 20, 21, 22, 23, 24, 25, 26, 27, 28] (by kernel_rfl) z z (yi_off ((wanted_eq z z z (cvb hc1043)).trans z)) (ws_q (v := undef) 11 [12, 13, 14, 15, 16, 17, 18, 19, 20, 21, 22, 23, 24, 25, 26, 27, 28] (by kernel_rfl) z z (yi_off ((wanted_eq z z z (cvb hc1043)).trans z)) (ws_q (v := undef) 12 [13, 14, 15, 16, 17, 18, 19, 20, 21, 22, 23, 24, 25, 26, 27, 28] (by kernel_rfl) z z (yi_off ((wanted_eq z z z (cvb hc1043)).trans z)) (ws_q (v := undef) 13 [14, 15, 16, 17, 18, 19, 20, 21, 22, 23, 24, 25, 26, 27, 28] (by kernel_rfl) z z (yi_off ((wanted_eq z z z (cvb hc1043)).trans z)) (ws_q (v := undef) 14 [15, 16, 17, 18, 19, 20, 21, 22, 23, 24, 25, 26, 27, 28] (by kernel_rfl) z z (yi_off ((wanted_eq z z z (cvb hc1043)).trans z)) (ws_q (v := undef) 15 [16, 17, 18, 19, 20, 21, 22, 23, 24, 25, 26, 27, 28] (by kernel_rfl) z z (yi_off ((wanted_eq z z z (cvb hc1043)).trans z)) (ws_q (v := undef) 16 [17, 18, 19, 20, 21, 22, 23, 24, 25, 26, 27, 28] (by kernel_rfl) z z (yi_off ((wanted_eq z z z (cvb hc1043)).trans z)) (ws_q (v := undef) 17 [18, 19, 20, 21, 22, 23, 24, 25, 26, 27, 28] (by kernel_rfl) z z (yi_off ((wanted_eq z z z (cvb hc1043)).trans z)) (wsr (.bool true) 18 z z z (by kernel_rfl) (fun w hst => x_pick_t hc1043 z z) (wsr (.bool true) 19 z z z (by kernel_rfl) (fun w hst => z) (ws_q (v := undef) 20 [21, 22, 23, 24, 25, 26, 27, 28] (by kernel_rfl) z z (yi_off ((wanted_eq z z z z).trans z)) (ws_q (v := undef) 21 [22, 23, 24, 25, 26, 27, 28] (by kernel_rfl) z z (yi_off ((wanted_eq z z z z).trans z)) (ws_q (v := undef) 22 [23, 24, 25, 26, 27, 28] (by kernel_rfl) z z (yi_off ((wanted_eq z z z z).trans z)) ?_))))))))))))
 refine ws_q (v := undef) 23 [24, 25, 26, 27, 28] (by kernel_rfl) z z (yi_off ((wanted_eq z z z z).trans z)) (ws_q (v := undef) 24 [25, 26, 27, 28] (by kernel_rfl) z z (yi_off ((wanted_eq z z z z).trans z)) (ws_q (v := undef) 25 [26, 27, 28] (by kernel_rfl) z z (yi_off ((wanted_eq z z z z).trans z)) (ws_q (v := undef) 26 [27, 28] (by kernel_rfl) z z (yi_off ((wanted_eq z z z z).trans z)) (ws_q (v := undef) 27 [28] (by kernel_rfl) z z (yi_off ((wanted_eq z z z z).trans z)) (wsr (.bool true) 28 z z z (by kernel_rfl) (fun w hst => x_pick_t z z z) ?_)))))
 refine ws_nil ?_
 intro w hst
 refine tn ?_
 refine wp_ift z ?_
 refine wrl (wv (v1015) z z z (wv (r0_0) z z z (wv (.int .i64 z1017) z z z (wv (.pointer (some (eAddr r0_0 (z1017.toNat * 5 + 0)))) z z (x_index z z underlying124 sizeOf139 (ro_sliceV f0_0) h1029 h1030) ?_))))
 obtain ⟨cs1044, hr1045, hc1046⟩ := Ro.getF f0_0 hi1031
 obtain ⟨v1047, rfl, f1048, -⟩ := hr1045
 refine wv (.agg #[F6 x1027.At, U6 x1027.Epoch, U6 x1027.Index, .bool x1027.Del, v1047]) z z (x_loadN (cs := [F6 x1027.At, U6 x1027.Epoch, U6 x1027.Index, .bool x1027.Del, v1047]) z isAgg139 sizeOf139 (eCells (o := 0) (hc1046 (HL.le.refl _) hst) z)) ?_
 obtain ⟨b1051, w1052, ew1053, eb1054, hst⟩ := hst.lits (E := ty_ref11_Version) (xs := [x1027]) [[F6 x1027.At, U6 x1027.Epoch, U6 x1027.Index, .bool x1027.Del, v1047]] 139 1 z (Reps.cons ⟨_, z, f1048, one_of_sliceV (ro_sliceV f1048)⟩ Reps.nil)
 refine wl_run (v := (.slice (some ⟨b1051, 0, none⟩) 1 1)) (w' := w1052) z z (x_als (by kernel_rfl) ew1053 eb1054) ?_
 obtain ⟨hg1056, hm⟩ := gd_some hm
 replace hst := hst.pull1
 obtain ⟨v1057, w1058, hr1059, hst⟩ := run_append elem_124 underlying124 hst hst.src1 (room_of hg1056 z) 124
 refine wl_run (v := v1057) (w' := w1058) z z (x_append z z hr1059) ?_
 refine wv (v1057) z z z (wl_nil (blk_n (tn (wrl (wv (.int .i64 z1017) z z z (wv (.int .i64 (i64.wrap (z1017 + (1:Int)))) z z z (wv (.int .i64 (i64.wrap (z1017 + (1:Int)))) z z z (wl_nil (tn ?_)))))))))
 replace hst := hst.pull2.pull1.keep2
 obtain rfl := some_inj hm
 exact ⟨_, Nat.lt_succ_self _, (z1014 ++ ([x1027])), (i64.wrap (z1017 + (1:Int))), v1057, _, hx1024, (fu 0 r0_0 z (fu 3 (Pt b808 0) z (fu 5 v1057 z (fu 6 (.int .i64 (i64.wrap (z1017 + (1:Int)))) z z)))), hst⟩
}
 {
 replace hm := bif_f hc1043 hm
 refine ws_q (v := r0_0) 10 [11, 12, 13, 14, 15, 16, 17, 18, 19, 20, 21, 22, 23, 24, 25, 26, 27, 28] (by kernel_rfl) z z (yi_run ((wanted_eq z z z (cvb hc1043)).trans z) (fun w hst => z)) (ws_q (v := .int .i64 z1017) 11 [12, 13, 14, 15, 16, 17, 18, 19, 20, 21, 22, 23, 24, 25, 26, 27, 28] (by kernel_rfl) z z (yi_run ((wanted_eq z z z (cvb hc1043)).trans z) (fun w hst => z)) (ws_q (v := .pointer (some (eAddr r0_0 (z1017.toNat * 5 + 0)))) 12 [13, 14, 15, 16, 17, 18, 19, 20, 21, 22, 23, 24, 25, 26, 27, 28] (by kernel_rfl) z z (yi_run ((wanted_eq z z z (cvb hc1043)).trans z) (fun w hst => x_index z z underlying124 sizeOf139 (ro_sliceV f0_0) h1029 h1030)) (ws_q (v := .pointer (some (eAddr r0_0 (z1017.toNat * 5 + 1)))) 13 [14, 15, 16, 17, 18, 19, 20, 21, 22, 23, 24, 25, 26, 27, 28] (by kernel_rfl) z z (yi_run ((wanted_eq z z z (cvb hc1043)).trans z) (fun w hst => x_field_e z underlying139 z sizeOf26 z)) ?_)))
 obtain ⟨cs1061, hr1062, hc1063⟩ := Ro.getF f0_0 hi1031
 obtain ⟨v1064, rfl, f1065, -⟩ := hr1062
 refine ws_q (v := .int .u64 x1027.Epoch) 14 [15, 16, 17, 18, 19, 20, 21, 22, 23, 24, 25, 26, 27, 28] (by kernel_rfl) z z (yi_run ((wanted_eq z z z (cvb hc1043)).trans z) (fun w hst => x_load z isAgg26 ((hc1063 (HL.le.refl _) hst) 1 _ z))) (ws_q (v := Pt b808 1) 15 [16, 17, 18, 19, 20, 21, 22, 23, 24, 25, 26, 27, 28] (by kernel_rfl) z z (yi_run ((wanted_eq z z z (cvb hc1043)).trans z) (fun w hst => x_field z underlying139 z sizeOf26 z)) (ws_q (v := .int .u64 a1.Epoch) 16 [17, 18, 19, 20, 21, 22, 23, 24, 25, 26, 27, 28] (by kernel_rfl) z z (yi_run ((wanted_eq z z z (cvb hc1043)).trans z) (fun w hst => x_load z isAgg26 (hst.bc1 z))) (ws_q (v := .bool (x1027.Epoch != a1.Epoch)) 17 [18, 19, 20, 21, 22, 23, 24, 25, 26, 27, 28] (by kernel_rfl) z z (yi_run ((wanted_eq z z z (cvb hc1043)).trans z) (fun w hst => z)) (wsr (.bool (x1027.Epoch != a1.Epoch)) 18 z z z (by kernel_rfl) (fun w hst => x_pick_f hc1043 z z) (wsr (.bool (x1027.Epoch != a1.Epoch)) 19 z z z (by kernel_rfl) (fun w hst => z) ?_)))))
 refine bsplit (x1027.Epoch != a1.Epoch) (fun hc1067 => ?_) (fun hc1067 => ?_)
 {
 replace hm := bif_t hc1067 hm
 refine ws_q (v := undef) 20 [21, 22, 23, 24, 25, 26, 27, 28] (by kernel_rfl) z z (yi_off ((wanted_eq z z z (cvb hc1067)).trans z)) (ws_q (v := undef) 21 [22, 23, 24, 25, 26, 27, 28] (by kernel_rfl) z z (yi_off ((wanted_eq z z z (cvb hc1067)).trans z)) (ws_q (v := undef) 22 [23, 24, 25, 26, 27, 28] (by kernel_rfl) z z (yi_off ((wanted_eq z z z (cvb hc1067)).trans z)) (ws_q (v := undef) 23 [24, 25, 26, 27, 28] (by kernel_rfl) z z (yi_off ((wanted_eq z z z (cvb hc1067)).trans z)) (ws_q (v := undef) 24 [25, 26, 27, 28] (by kernel_rfl) z z (yi_off ((wanted_eq z z z (cvb hc1067)).trans z)) (ws_q (v := undef) 25 [26, 27, 28] (by kernel_rfl) z z (yi_off ((wanted_eq z z z (cvb hc1067)).trans z)) (ws_q (v := undef) 26 [27, 28] (by kernel_rfl) z z (yi_off ((wanted_eq z z z (cvb hc1067)).trans z)) (ws_q (v := undef) 27 [28] (by kernel_rfl) z z (yi_off ((wanted_eq z z z (cvb hc1067)).trans z)) (wsr (.bool true) 28 z z z (by kernel_rfl) (fun w hst => x_pick_t hc1067 z z) ?_))))))))
 refine ws_nil ?_
 intro w hst
 refine tn ?_
 refine wp_ift z ?_
 refine wrl (wv (v1015) z z z (wv (r0_0) z z z (wv (.int .i64 z1017) z z z (wv (.pointer (some (eAddr r0_0 (z1017.toNat * 5 + 0)))) z z (x_index z z underlying124 sizeOf139 (ro_sliceV f0_0) h1029 h1030) (wv (.agg #[F6 x1027.At, U6 x1027.Epoch, U6 x1027.Index, .bool x1027.Del, v1064]) z z (x_loadN (cs := [F6 x1027.At, U6 x1027.Epoch, U6 x1027.Index, .bool x1027.Del, v1064]) z isAgg139 sizeOf139 (eCells (o := 0) (hc1063 (HL.le.refl _) hst) z)) ?_)))))
 obtain ⟨b1069, w1070, ew1071, eb1072, hst⟩ := hst.lits (E := ty_ref11_Version) (xs := [x1027]) [[F6 x1027.At, U6 x1027.Epoch, U6 x1027.Index, .bool x1027.Del, v1064]] 139 1 z (Reps.cons ⟨_, z, f1065, one_of_sliceV (ro_sliceV f1065)⟩ Reps.nil)
 refine wl_run (v := (.slice (some ⟨b1069, 0, none⟩) 1 1)) (w' := w1070) z z (x_als (by kernel_rfl) ew1071 eb1072) ?_
 obtain ⟨hg1074, hm⟩ := gd_some hm
 replace hst := hst.pull1
 obtain ⟨v1075, w1076, hr1077, hst⟩ := run_append elem_124 underlying124 hst hst.src1 (room_of hg1074 z) 124
 refine wl_run (v := v1075) (w' := w1076) z z (x_append z z hr1077) ?_
 refine wv (v1075) z z z (wl_nil (blk_n (tn (wrl (wv (.int .i64 z1017) z z z (wv (.int .i64 (i64.wrap (z1017 + (1:Int)))) z z z (wv (.int .i64 (i64.wrap (z1017 + (1:Int)))) z z z (wl_nil (tn ?_)))))))))
 replace hst := hst.pull2.pull1.keep2
 obtain rfl := some_inj hm
 exact ⟨_, Nat.lt_succ_self _, (z1014 ++ ([x1027])), (i64.wrap (z1017 + (1:Int))), v1075, _, hx1024, (fu 0 r0_0 z (fu 3 (Pt b808 0) z (fu 5 v1075 z (fu 6 (.int .i64 (i64.wrap (z1017 + (1:Int)))) z z)))), hst⟩
}
 {
 replace hm := bif_f hc1067 hm
 refine ws_q (v := r0_0) 20 [21, 22, 23, 24, 25, 26, 27, 28] (by kernel_rfl) z z (yi_run ((wanted_eq z z z (cvb hc1067)).trans z) (fun w hst => z)) (ws_q (v := .int .i64 z1017) 21 [22, 23, 24, 25, 26, 27, 28] (by kernel_rfl) z z (yi_run ((wanted_eq z z z (cvb hc1067)).trans z) (fun w hst => z)) (ws_q (v := .pointer (some (eAddr r0_0 (z1017.toNat * 5 + 0)))) 22 [23, 24, 25, 26, 27, 28] (by kernel_rfl) z z (yi_run ((wanted_eq z z z (cvb hc1067)).trans z) (fun w hst => x_index z z underlying124 sizeOf139 (ro_sliceV f0_0) h1029 h1030)) (ws_q (v := .pointer (some (eAddr r0_0 (z1017.toNat * 5 + 2)))) 23 [24, 25, 26, 27, 28] (by kernel_rfl) z z (yi_run ((wanted_eq z z z (cvb hc1067)).trans z) (fun w hst => x_field_e z underlying139 z sizeOf26 z)) (ws_q (v := .int .u64 x1027.Index) 24 [25, 26, 27, 28] (by kernel_rfl) z z (yi_run ((wanted_eq z z z (cvb hc1067)).trans z) (fun w hst => x_load z isAgg26 ((hc1063 (HL.le.refl _) hst) 2 _ z))) (ws_q (v := Pt b808 2) 25 [26, 27, 28] (by kernel_rfl) z z (yi_run ((wanted_eq z z z (cvb hc1067)).trans z) (fun w hst => x_field z underlying139 z sizeOf26 z)) (ws_q (v := .int .u64 a1.Index) 26 [27, 28] (by kernel_rfl) z z (yi_run ((wanted_eq z z z (cvb hc1067)).trans z) (fun w hst => x_load z isAgg26 (hst.bc1 z))) (ws_q (v := .bool (x1027.Index != a1.Index)) 27 [28] (by kernel_rfl) z z (yi_run ((wanted_eq z z z (cvb hc1067)).trans z) (fun w hst => z)) (wsr (.bool (x1027.Index != a1.Index)) 28 z z z (by kernel_rfl) (fun w hst => x_pick_f hc1067 z z) ?_))))))))
 refine ws_nil ?_
 intro w hst
 refine tn ?_
 refine bsplit (x1027.Index != a1.Index) (fun hc1079 => ?_) (fun hc1079 => ?_)
 {
 replace hm := bif_t hc1079 hm
 refine wp_ift (cvb hc1079) ?_
 refine wrl (wv (v1015) z z z (wv (r0_0) z z z (wv (.int .i64 z1017) z z z (wv (.pointer (some (eAddr r0_0 (z1017.toNat * 5 + 0)))) z z (x_index z z underlying124 sizeOf139 (ro_sliceV f0_0) h1029 h1030) (wv (.agg #[F6 x1027.At, U6 x1027.Epoch, U6 x1027.Index, .bool x1027.Del, v1064]) z z (x_loadN (cs := [F6 x1027.At, U6 x1027.Epoch, U6 x1027.Index, .bool x1027.Del, v1064]) z isAgg139 sizeOf139 (eCells (o := 0) (hc1063 (HL.le.refl _) hst) z)) ?_)))))
 obtain ⟨b1081, w1082, ew1083, eb1084, hst⟩ := hst.lits (E := ty_ref11_Version) (xs := [x1027]) [[F6 x1027.At, U6 x1027.Epoch, U6 x1027.Index, .bool x1027.Del, v1064]] 139 1 z (Reps.cons ⟨_, z, f1065, one_of_sliceV (ro_sliceV f1065)⟩ Reps.nil)
 refine wl_run (v := (.slice (some ⟨b1081, 0, none⟩) 1 1)) (w' := w1082) z z (x_als (by kernel_rfl) ew1083 eb1084) ?_
 obtain ⟨hg1086, hm⟩ := gd_some hm
 replace hst := hst.pull1
 obtain ⟨v1087, w1088, hr1089, hst⟩ := run_append elem_124 underlying124 hst hst.src1 (room_of hg1086 z) 124
 refine wl_run (v := v1087) (w' := w1088) z z (x_append z z hr1089) ?_
 refine wv (v1087) z z z (wl_nil (blk_n (tn (wrl (wv (.int .i64 z1017) z z z (wv (.int .i64 (i64.wrap (z1017 + (1:Int)))) z z z (wv (.int .i64 (i64.wrap (z1017 + (1:Int)))) z z z (wl_nil (tn ?_)))))))))
 replace hst := hst.pull2.pull1.keep2
 obtain rfl := some_inj hm
 exact ⟨_, Nat.lt_succ_self _, (z1014 ++ ([x1027])), (i64.wrap (z1017 + (1:Int))), v1087, _, hx1024, (fu 0 r0_0 z (fu 3 (Pt b808 0) z (fu 5 v1087 z (fu 6 (.int .i64 (i64.wrap (z1017 + (1:Int)))) z z)))), hst⟩
}
 {
 replace hm := bif_f hc1079 hm
 refine wp_iff (cvb hc1079) ?_
 refine wp_skip (blk_n (tn (wrl ?_)))
 refine wv (.int .i64 z1017) z z z (wv (.int .i64 (i64.wrap (z1017 + (1:Int)))) z z z (wv (.int .i64 (i64.wrap (z1017 + (1:Int)))) z z z (wl_nil (tn ?_))))
 replace hst := hst.pull1.pull1.keep2
 obtain rfl := some_inj hm
 exact ⟨_, Nat.lt_succ_self _, z1014, (i64.wrap (z1017 + (1:Int))), v1015, _, hx1024, (fu 0 r0_0 z (fu 3 (Pt b808 0) z (fu 5 v1015 z (fu 6 (.int .i64 (i64.wrap (z1017 + (1:Int)))) z z)))), hst⟩
}
}
}
}
 {
 replace hm := bif_f hc1026 hm
 refine wp_iff (cvb hc1026) ?_
 refine wp_exit (then_x (then_x ?_))
 replace hm := inr_up hm hx1024
 refine blk_x (tn ?_)
 replace hst := hst.pull1.keep2
 obtain rfl := some_inj hm
 exact ⟨z1014, v1015, _, hx1097, (fu 3 (Pt b808 0) z (fu 5 v1015 z z)), hst⟩
}
}
 {
 clear hst
 rintro _ w1098 ⟨z1093, v1092, σ1094, hm, rfl, hst⟩
 dsimp only [ref11_Put_j0] at hm
 obtain ⟨y1109, hm, hx1110⟩ := bind_some hm
 refine wp_cut (fun a w => ∃ (z1105 : (List Int)) (v1104 : Value) (σ1107 : Nat → Value), (ref11_Put_j2 z1093 a1) z1105 = some r ∧ a = Fr 56 (upd (upd σ1107 3 (Pt b808 0)) 5 (v1092)) ∧ Ro (tyInt .u8) I v1104 z1105 ∧ St w0 w I [cells b808 [F6 a1.At, U6 a1.Epoch, U6 a1.Index, .bool a1.Del, v1104], ownS ty_ref11_Version v1092 z1093] R) ?_ ?_
 {
 refine wp_seq (wrl (wv (Pt b808 3) z z (x_field z underlying139 z sizeOf4 z) (wv (.bool a1.Del) z z (x_load z isAgg4 (hst.bc0 z)) (wl_nil (tn ?_)))))
 refine bsplit a1.Del (fun hc1099 => ?_) (fun hc1099 => ?_)
 {
 replace hm := bif_t hc1099 hm
 refine wp_ift (cvb hc1099) ?_
 refine wrl (wv (Pt b808 4) z z (x_field z underlying139 z sizeOf22 z) ?_)
 obtain ⟨w1101, hr1102, hst⟩ := hst.by_ [F6 a1.At, U6 a1.Epoch, U6 a1.Index, .bool a1.Del, Zs] 4 ((.slice none 0 0)) sizeOf22 z (oC z oN) (by kernel_rfl)
 refine wl_unit z z (x_unit hr1102) ?_
 refine wl_nil (tn ?_)
 have f1103 : Ro (tyInt .u8) I (.slice none 0 0) [] := ro_nil
 replace hst := hst.pull1.pull1.keep2
 obtain rfl := some_inj hm
 exact ⟨([]), Zs, _, hx1110, (fu 3 (Pt b808 0) z (fu 5 v1092 z z)), f1103, hst⟩
}
 {
 replace hm := bif_f hc1099 hm
 refine wp_iff (cvb hc1099) ?_
 refine wp_skip (tn ?_)
 replace hst := hst.pull1.pull1.keep2
 obtain rfl := some_inj hm
 exact ⟨a1.Val, r1_0, _, hx1110, (fu 3 (Pt b808 0) z (fu 5 v1092 z z)), f1_0, hst⟩
}
}
 {
 clear hst
 rintro _ w1111 ⟨z1105, v1104, σ1107, hm, rfl, f1106, hst⟩
 dsimp only [ref11_Put_j2] at hm
 refine wp_seq (wrl (wv (v1092) z z z (wv (.agg #[F6 a1.At, U6 a1.Epoch, U6 a1.Index, .bool a1.Del, v1104]) z z (x_loadN (cs := [F6 a1.At, U6 a1.Epoch, U6 a1.Index, .bool a1.Del, v1104]) z isAgg139 sizeOf139 (hst.bcs0 0 z)) ?_)))
 obtain ⟨b1113, w1114, ew1115, eb1116, hst⟩ := hst.lits (E := ty_ref11_Version) (xs := [({ At := a1.At, Epoch := a1.Epoch, Index := a1.Index, Del := a1.Del, Val := z1105 } : ref11_Version)]) [[F6 a1.At, U6 a1.Epoch, U6 a1.Index, .bool a1.Del, v1104]] 139 1 z (Reps.cons ⟨_, z, f1106, one_of_sliceV (ro_sliceV f1106)⟩ Reps.nil)
 refine wl_run (v := (.slice (some ⟨b1113, 0, none⟩) 1 1)) (w' := w1114) z z (x_als (by kernel_rfl) ew1115 eb1116) ?_
 obtain ⟨hg1118, hm⟩ := gd_some hm
 replace hst := hst.pull2
 obtain ⟨v1119, w1120, hr1121, hst⟩ := run_append elem_124 underlying124 hst hst.src1 (room_of hg1118 z) 124
 refine wl_run (v := v1119) (w' := w1120) z z (x_append z z hr1121) ?_
 refine wv (v1119) z z z (wl_nil (tn (wp_ret ?_)))
 obtain rfl := some_inj hm
 refine post_ret (vs := [v1119]) results72 (rvs_cons (rv_tmp z) rvs_nil) ?_
 exact ⟨v1119, z, hst.keep1⟩
}
}
}

theorem ref11_Revoke_ref {w0 w : World} {I : HL} {R : SP} {a0 : (List ref11_Line)} {r0_0 : Value} {a1 : Int} {a2 : Int} (f0_0 : Rd ty_ref11_Line R I r0_0 a0) (hst : St w0 w I [] R) {r : ((List ref11_Line) × Bool)} (hm : ref11_Revoke a0 a1 a2 = some r) :
  Calls prog 75 #[r0_0, U6 a1, U6 a2] w fun e w' => ∃ (q0_0 : Value), e = .returned (.tuple #[q0_0, .bool r.2]) ∧ St w0 w' I [ownS ty_ref11_Line q0_0 r.1] R := by {
 unfold ref11_Revoke at hm
 refine calls_start (args := [r0_0, U6 a1, U6 a2]) func75 z ntmps75 (Nat.le_of_ble_eq_true z) ?_
 refine wp_seq (wrl (wv ((.slice none 0 0)) z z z (wv (.bool false) z z z (wl_nil (tn (wp_seq (wrl (wv ((.slice none 0 0)) z z z (wl_nil (tn (wp_seq (wrl (wv (.bool false) z z z (wl_nil (tn ?_)))))))))))))))
 obtain ⟨y840, hm, hx841⟩ := bind_some hm
 refine wp_cut (fun a w => ∃ (z837 : Int) (σ838 : Nat → Value), (ref11_Revoke_j0 a0 a1) z837 = some r ∧ a = Fr 42 (upd (upd (upd (upd (upd σ838 0 (r0_0)) 1 (.int .u64 a1)) 2 (.int .u64 z837)) 8 ((.slice none 0 0))) 9 (.bool false)) ∧ St w0 w I [] R) ?_ ?_
 {
 refine wp_seq (wrl (wv (.int .u64 a2) z z z (wv (.bool (a2 == (0:Int))) z z z (wl_nil (tn ?_)))))
 refine bsplit (a2 == (0:Int)) (fun hc836 => ?_) (fun hc836 => ?_)
 {
 replace hm := bif_t hc836 hm
 refine wp_ift (cvb hc836) ?_
 refine wrl (wv (.int .u64 (1:Int)) z z z (wl_nil (tn ?_)))
 replace hst := hst.keep0
 obtain rfl := some_inj hm
 exact ⟨(1:Int), _, hx841, (fu 0 r0_0 z (fu 1 (.int .u64 a1) z (fu 2 (.int .u64 (1:Int)) z (fu 8 (.slice none 0 0) z (fu 9 (.bool false) z z))))), hst⟩
}
 {
 replace hm := bif_f hc836 hm
 refine wp_iff (cvb hc836) ?_
 refine wp_skip (tn ?_)
 replace hst := hst.keep0
 obtain rfl := some_inj hm
 exact ⟨a2, _, hx841, (fu 0 r0_0 z (fu 1 (.int .u64 a1) z (fu 2 (.int .u64 a2) z (fu 8 (.slice none 0 0) z (fu 9 (.bool false) z z))))), hst⟩
}
}
 {
 clear hst
 rintro _ w842 ⟨z837, σ838, hm, rfl, hst⟩
 dsimp only [ref11_Revoke_j0] at hm
 obtain ⟨y1003, hm, hx1004⟩ := bind_some hm
 refine wp_cut (fun a w => ∃ (z999 : (List ref11_Line)) (z1000 : Bool) (v998 : Value) (σ1001 : Nat → Value), (ref11_Revoke_j1) (z999, z1000) = some r ∧ a = Fr 42 (upd (upd σ1001 8 (v998)) 9 (.bool z1000)) ∧ St w0 w I [ownS ty_ref11_Line v998 z999] R) ?_ ?_
 {
 refine wp_seq (wrl (wv (.int .i64 (0:Int)) z z z (wl_nil (tn (wp_block ?_)))))
 replace hst := hst.own_nil ty_ref11_Line
 obtain ⟨n956, hm⟩ := loopO_some hm
 refine wp_loop_n (fun n a w => ∃ (z950 : Int) (z951 : (List ref11_Line)) (z954 : Bool) (v952 : Value) (σ955 : Nat → Value), loopN (ref11_Revoke_l2 a0 a1 z837) n (z950, z951, z954) = some y1003 ∧ a = Fr 42 (upd (upd (upd (upd (upd (upd σ955 0 (r0_0)) 1 (.int .u64 a1)) 2 (.int .u64 z837)) 8 (v952)) 9 (.bool z954)) 10 (.int .i64 z950)) ∧ St w0 w I [ownS ty_ref11_Line v952 z951] R) n956 ⟨(0:Int), [], false, Zs, _, hm, (fu 0 r0_0 z (fu 1 (.int .u64 a1) z (fu 2 (.int .u64 z837) z (fu 8 (.slice none 0 0) z (fu 9 (.bool false) z (fu 10 (.int .i64 (0:Int)) z z)))))), hst⟩ ?_
 rintro n962 _ w957 ⟨z950, z951, z954, v952, σ955, hm, rfl, hst⟩
 obtain ⟨n959, y960, rfl, hm, hx961⟩ := loopN_some hm
 dsimp only [ref11_Revoke_l2] at hm
 refine wp_seq (wp_seq (wrl (wv (.int .i64 z950) z z z (wv (r0_0) z z z (wv (.int .i64 ((a0).length : Int)) z z (x_len z underlying127 (rd_sliceV f0_0)) (wv (.bool (decide (z950 < ((a0).length : Int)))) z z z (wl_nil (tn ?_))))))))
 refine bsplit (decide (z950 < ((a0).length : Int))) (fun hc963 => ?_) (fun hc963 => ?_)
 {
 replace hm := bif_t hc963 hm
 refine wp_ift (cvb hc963) ?_
 refine wp_skip (tn (wp_seq (wp_block (wp_seq (wrl ?_)))))
 refine wv (r0_0) z z z (wv (.int .i64 z950) z z z ?_)
 obtain ⟨x964, hx965, hm⟩ := bind_some hm
 obtain ⟨h966, h967, hi968⟩ := geto_some hx965
 refine wv (.pointer (some (eAddr r0_0 (z950.toNat * 9 + 0)))) z z (x_index z z underlying127 sizeOf144 (rd_sliceV f0_0) h966 h967) (wv (.agg #[U6 x964.R.ID, I6 x964.R.From, I6 x964.R.To, F6 x964.R.Lo, F6 x964.R.Hi, U6 x964.R.Authority, I6 x964.R.Quota, U6 x964.From, U6 x964.To]) z z (x_loadN (cs := [U6 x964.R.ID, I6 x964.R.From, I6 x964.R.To, F6 x964.R.Lo, F6 x964.R.Hi, U6 x964.R.Authority, I6 x964.R.Quota, U6 x964.From, U6 x964.To]) z isAgg144 sizeOf144 (rd_loadN f0_0 (HL.le.refl _) hst hi968 0 (by rintro _ rfl; rfl))) ?_)
 obtain ⟨b969, w970, ew971, eb972, hst⟩ := hst.box [Zu, Zi, Zi, Zf, Zf, Zu, Zi, Zu, Zu] 144
 refine wl_run (v := Pt b969 0) (w' := w970) z z (x_al (by kernel_rfl) ew971 eb972) ?_
 obtain ⟨w974, hr975, hst⟩ := hst.bx [U6 x964.R.ID, I6 x964.R.From, I6 x964.R.To, F6 x964.R.Lo, F6 x964.R.Hi, U6 x964.R.Authority, I6 x964.R.Quota, U6 x964.From, U6 x964.To] sizeOf144 z (oC z (oC z (oC z (oC z (oC z (oC z (oC z (oC z (oC z oN))))))))) (by kernel_rfl)
 refine wl_unit z z (x_unit hr975) ?_
 refine wl_nil (tn ?_)
 obtain ⟨y984, hm, hx985⟩ := bind_some hm
 refine wp_cut (fun a w => ∃ (z980 : Bool) (z981 : Int) (σ982 : Nat → Value), (ref11_Revoke_j3 z951 x964 z950) (z980, z981) = some y960 ∧ a = Fr 42 (upd (upd (upd (upd (upd (upd (upd σ982 0 (r0_0)) 1 (.int .u64 a1)) 2 (.int .u64 z837)) 8 (v952)) 9 (.bool z980)) 10 (.int .i64 z950)) 11 (Pt b969 0)) ∧ St w0 w I [ownS ty_ref11_Line v952 z951, cells b969 [U6 x964.R.ID, I6 x964.R.From, I6 x964.R.To, F6 x964.R.Lo, F6 x964.R.Hi, U6 x964.R.Authority, I6 x964.R.Quota, U6 x964.From, U6 z981]] R) ?_ ?_
 {
 refine wp_seq (wrl (wv (Pt b969 0) z z (x_field z underlying144 z sizeOf39 z) (wv (Pt b969 0) z z (x_field z underlying39 z sizeOf26 z) (wv (.int .u64 x964.R.ID) z z (x_load z isAgg26 (hst.bc0 z)) (wv (.int .u64 a1) z z z (wv (.bool (x964.R.ID == a1)) z z z (wv (.bool (x964.R.ID == a1)) z z z ?_)))))))
 refine bsplit (x964.R.ID == a1) (fun hc976 => ?_) (fun hc976 => ?_)
 {
 replace hm := bif_t hc976 hm
 refine wv (Pt b969 8) ((wanted_eq z z z (cvb hc976)).trans z) z (x_field z underlying144 z sizeOf26 z) (wv (.int .u64 x964.To) ((wanted_eq z z z (cvb hc976)).trans z) z (x_load z isAgg26 (hst.bc0 z)) (wv (.bool (x964.To == (0:Int))) ((wanted_eq z z z (cvb hc976)).trans z) z z (wv (.bool (x964.To == (0:Int))) z z (x_pick_t hc976 z z) (wl_nil (tn ?_)))))
 refine bsplit (x964.To == (0:Int)) (fun hc977 => ?_) (fun hc977 => ?_)
 {
 replace hm := bif_t hc977 hm
 refine wp_ift (cvb hc977) ?_
 refine wp_seq (wrl (wv (.int .u64 z837) z z z (wv (Pt b969 8) z z (x_field z underlying144 z sizeOf26 z) ?_)))
 obtain ⟨w978, hr979, hst⟩ := hst.by_ [U6 x964.R.ID, I6 x964.R.From, I6 x964.R.To, F6 x964.R.Lo, F6 x964.R.Hi, U6 x964.R.Authority, I6 x964.R.Quota, U6 x964.From, U6 z837] 8 (.int .u64 z837) sizeOf26 z (oC z oN) (by kernel_rfl)
 refine wl_unit z z (x_unit hr979) ?_
 refine wl_nil (tn (wrl (wv (.bool true) z z z (wl_nil (tn ?_)))))
 replace hst := hst.pull1.keep2
 obtain rfl := some_inj hm
 exact ⟨true, z837, _, hx985, (fu 0 r0_0 z (fu 1 (.int .u64 a1) z (fu 2 (.int .u64 z837) z (fu 8 v952 z (fu 9 (.bool true) z (fu 10 (.int .i64 z950) z (fu 11 (Pt b969 0) z z))))))), hst⟩
}
 {
 replace hm := bif_f hc977 hm
 refine wp_iff (cvb hc977) ?_
 refine wp_skip (tn ?_)
 replace hst := hst.pull1.keep2
 obtain rfl := some_inj hm
 exact ⟨z954, x964.To, _, hx985, (fu 0 r0_0 z (fu 1 (.int .u64 a1) z (fu 2 (.int .u64 z837) z (fu 8 v952 z (fu 9 (.bool z954) z (fu 10 (.int .i64 z950) z (fu 11 (Pt b969 0) z z))))))), hst⟩
}
}
 {
 replace hm := bif_f hc976 hm
 refine wo hc976 z z z z z z (wo hc976 z z z z z z (wo hc976 z z z z z z (wv (.bool false) z z (x_pick_f hc976 z z) (wl_nil (tn ?_)))))
 refine wp_iff z ?_
 refine wp_skip (tn ?_)
 replace hst := hst.pull1.keep2
 obtain rfl := some_inj hm
 exact ⟨z954, x964.To, _, hx985, (fu 0 r0_0 z (fu 1 (.int .u64 a1) z (fu 2 (.int .u64 z837) z (fu 8 v952 z (fu 9 (.bool z954) z (fu 10 (.int .i64 z950) z (fu 11 (Pt b969 0) z z))))))), hst⟩
}
}
 {
 clear hst
 rintro _ w986 ⟨z980, z981, σ982, hm, rfl, hst⟩
 dsimp only [ref11_Revoke_j3] at hm
 refine wrl (wv (v952) z z z (wv (.agg #[U6 x964.R.ID, I6 x964.R.From, I6 x964.R.To, F6 x964.R.Lo, F6 x964.R.Hi, U6 x964.R.Authority, I6 x964.R.Quota, U6 x964.From, U6 z981]) z z (x_loadN (cs := [U6 x964.R.ID, I6 x964.R.From, I6 x964.R.To, F6 x964.R.Lo, F6 x964.R.Hi, U6 x964.R.Authority, I6 x964.R.Quota, U6 x964.From, U6 z981]) z isAgg144 sizeOf144 (hst.bcs1 0 z)) ?_))
 obtain ⟨b987, w988, ew989, eb990, hst⟩ := hst.lits (E := ty_ref11_Line) (xs := [({ R := x964.R, From := x964.From, To := z981 } : ref11_Line)]) [[U6 x964.R.ID, I6 x964.R.From, I6 x964.R.To, F6 x964.R.Lo, F6 x964.R.Hi, U6 x964.R.Authority, I6 x964.R.Quota, U6 x964.From, U6 z981]] 144 1 z (Reps.cons z Reps.nil)
 refine wl_run (v := (.slice (some ⟨b987, 0, none⟩) 1 1)) (w' := w988) z z (x_als (by kernel_rfl) ew989 eb990) ?_
 obtain ⟨hg992, hm⟩ := gd_some hm
 replace hst := hst.pull1
 obtain ⟨v993, w994, hr995, hst⟩ := run_append elem_127 underlying127 hst hst.src1 (room_of hg992 z) 127
 refine wl_run (v := v993) (w' := w994) z z (x_append z z hr995) ?_
 refine wv (v993) z z z (wl_nil (blk_n (tn (wrl (wv (.int .i64 z950) z z z (wv (.int .i64 (i64.wrap (z950 + (1:Int)))) z z z (wv (.int .i64 (i64.wrap (z950 + (1:Int)))) z z z (wl_nil (tn ?_)))))))))
 replace hst := hst.keep1
 obtain rfl := some_inj hm
 exact ⟨_, Nat.lt_succ_self _, (i64.wrap (z950 + (1:Int))), (z951 ++ ([({ R := x964.R, From := x964.From, To := z981 } : ref11_Line)])), z980, v993, _, hx961, (fu 0 r0_0 z (fu 1 (.int .u64 a1) z (fu 2 (.int .u64 z837) z (fu 8 v993 z (fu 9 (.bool z980) z (fu 10 (.int .i64 (i64.wrap (z950 + (1:Int)))) z z)))))), hst⟩
}
}
 {
 replace hm := bif_f hc963 hm
 refine wp_iff (cvb hc963) ?_
 refine wp_exit (then_x (then_x ?_))
 replace hm := inr_up hm hx961
 refine blk_x (tn ?_)
 replace hst := hst.keep1
 obtain rfl := some_inj hm
 exact ⟨z951, z954, v952, _, hx1004, (fu 8 v952 z (fu 9 (.bool z954) z z)), hst⟩
}
}
 {
 clear hst
 rintro _ w1005 ⟨z999, z1000, v998, σ1001, hm, rfl, hst⟩
 dsimp only [ref11_Revoke_j1] at hm
 refine wp_seq (wrl (wv (v998) z z z (wv (.bool z1000) z z z (wv (v998) z z z (wv (.bool z1000) z z z (wl_nil (tn (wp_ret ?_))))))))
 obtain rfl := some_inj hm
 refine post_ret (vs := [v998, .bool z1000]) results75 (rvs_cons (rv_tmp z) (rvs_cons (rv_tmp z) rvs_nil)) ?_
 exact ⟨v998, z, hst.keep1⟩
}
}
}

end Go.Proofs.YtgnkkopjkgdieaaGreat
