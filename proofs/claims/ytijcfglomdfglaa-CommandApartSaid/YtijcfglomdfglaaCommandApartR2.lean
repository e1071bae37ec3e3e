/- The Go functions refine their models, part 2. -/
import Derived.Test.YtijcfglomdfglaaCommandApartR1
set_option linter.unusedVariables false
set_option linter.unusedSimpArgs false
set_option maxRecDepth 100000
set_option maxHeartbeats 4000000
namespace Go.Proofs.Ytijcfglomdfglaa
open Go Go.V
attribute [local irreducible] wpList Code.wp wpQuiet Calls bodyPost Oper.wp wpS Nx PendOK YieldsIn
theorem ref13_SameWrites_ref {w0 w : World} {I : HL} {R : SP} {a0 : (List api_Write)} {r0_0 : Value} {a1 : (List api_Write)} {r1_0 : Value} (f0_0 : Rd ty_api_Write R I r0_0 a0) (f1_0 : Rd ty_api_Write R I r1_0 a1) (hst : St w0 w I [] R) {r : (Bool)} (hm : ref13_SameWrites a0 a1 = some r) :
    Calls Try.prog 34 #[r0_0, r1_0] w fun e w' => e = .returned (.bool r) ∧ St w0 w' I [] R := by
  unfold ref13_SameWrites at hm
  refine calls_start (args := [r0_0, r1_0]) Try.func34 rfl Try.ntmps34 (Nat.le_of_ble_eq_true rfl) ?_
  refine wp_seq ?_
  refine wp_region_lit ?_
  refine wl_val (v := .bool false) rfl rfl rfl ?_
  refine wl_nil ?_
  refine then_n ?_
  refine wp_seq ?_
  refine wp_seq ?_
  refine wp_region_lit ?_
  refine wl_val (v := r0_0) rfl rfl rfl ?_
  refine wl_val (v := .int .i64 ((a0).length : Int)) rfl rfl (x_len rfl Try.underlying35 (rd_sliceV f0_0)) ?_
  refine wl_val (v := r1_0) rfl rfl rfl ?_
  refine wl_val (v := .int .i64 ((a1).length : Int)) rfl rfl (x_len rfl Try.underlying35 (rd_sliceV f1_0)) ?_
  refine wl_val (v := .bool (((a0).length : Int) != ((a1).length : Int))) rfl rfl rfl ?_
  refine wl_nil ?_
  refine then_n ?_
  refine bsplit (((a0).length : Int) != ((a1).length : Int)) (fun hc291 => ?_) (fun hc291 => ?_)
  · skip
    replace hm := bif_t hc291 hm
    refine wp_ift (congrArg Value.bool hc291) ?_
    refine wp_seq ?_
    refine wp_region_lit ?_
    refine wl_val (v := .bool false) rfl rfl rfl ?_
    refine wl_nil ?_
    refine then_n ?_
    refine wp_ret ?_
    refine then_r ?_
    obtain rfl := some_inj hm
    refine post_ret (vs := [.bool false]) Try.results34 (rvs_cons (rv_tmp rfl) rvs_nil) ?_
    exact ⟨rfl, hst.keep0⟩
  · skip
    replace hm := bif_f hc291 hm
    refine wp_iff (congrArg Value.bool hc291) ?_
    refine wp_skip ?_
    refine then_n ?_
    refine wp_seq ?_
    refine wp_seq ?_
    refine wp_region_lit ?_
    refine wl_val (v := .int .i64 (0:Int)) rfl rfl rfl ?_
    refine wl_nil ?_
    refine then_n ?_
    refine wp_block ?_
    obtain ⟨n381, hm⟩ := loopO_some hm
    refine wp_loop_n (fun n a w => ∃ (z379 : Int) (σ380 : Nat → Value), loopN (ref13_SameWrites_l0 a0 a1) n z379 = some r ∧ a = Fr 57 (upd (upd (upd σ380 0 (r0_0)) 1 (r1_0)) 5 (.int .i64 z379)) ∧ St w0 w I [] R) n381 ⟨(0:Int), _, hm, ((fr_upd (t := 0) (v := r0_0) rfl).trans ((fr_upd (t := 1) (v := r1_0) rfl).trans ((fr_upd (t := 5) (v := .int .i64 (0:Int)) rfl).trans rfl))), hst⟩ ?_
    rintro n387 _ w382 ⟨z379, σ380, hm, rfl, hst⟩
    obtain ⟨n384, y385, rfl, hm, hx386⟩ := loopN_some hm
    dsimp only [ref13_SameWrites_l0] at hm
    refine wp_seq ?_
    refine wp_seq ?_
    refine wp_region_lit ?_
    refine wl_val (v := .int .i64 z379) rfl rfl rfl ?_
    refine wl_val (v := r0_0) rfl rfl rfl ?_
    refine wl_val (v := .int .i64 ((a0).length : Int)) rfl rfl (x_len rfl Try.underlying35 (rd_sliceV f0_0)) ?_
    refine wl_val (v := .bool (decide (z379 < ((a0).length : Int)))) rfl rfl rfl ?_
    refine wl_nil ?_
    refine then_n ?_
    refine bsplit (decide (z379 < ((a0).length : Int))) (fun hc388 => ?_) (fun hc388 => ?_)
    · skip
      replace hm := bif_t hc388 hm
      refine wp_ift (congrArg Value.bool hc388) ?_
      refine wp_skip ?_
      refine then_n ?_
      refine wp_seq ?_
      refine wp_block ?_
      refine wp_seq ?_
      refine wp_region_St hst 40 [0, 1, 2, 3, 4, 5, 6, 7, 8, 9, 10, 11, 12, 13, 14, 15, 16, 17, 18, 19, 20, 21, 22, 23, 24, 25, 26, 27, 28, 29, 30, 31, 32, 33, 34, 35, 36, 37, 38, 39] [0, 0, 3, 7, 15, 0, 0, 96, 224, 480, 1023, 2047, 4095, 8191, 8191, 32767, 65535, 131071, 8191, 8191, 794623, 1843199, 3940351, 8388607, 16777215, 33554431, 67108863, 67108863, 268435455, 536870911, 1073741823, 2147483647, 67108863, 67108863, 12952010751, 30131879935, 64491618303, 133211095039, 274877906943, 549755813887] [] rfl (by kernel_rfl) (by kernel_rfl) Try.mixed (by kernel_rfl) ?_
      refine ws_q (v := r0_0) 0 [1, 2, 3, 4, 5, 6, 7, 8, 9, 10, 11, 12, 13, 14, 15, 16, 17, 18, 19, 20, 21, 22, 23, 24, 25, 26, 27, 28, 29, 30, 31, 32, 33, 34, 35, 36, 37, 38, 39] (by kernel_rfl) rfl rfl (yi_run rfl (fun w hst => rfl)) ?_
      refine ws_q (v := .int .i64 z379) 1 [2, 3, 4, 5, 6, 7, 8, 9, 10, 11, 12, 13, 14, 15, 16, 17, 18, 19, 20, 21, 22, 23, 24, 25, 26, 27, 28, 29, 30, 31, 32, 33, 34, 35, 36, 37, 38, 39] (by kernel_rfl) rfl rfl (yi_run rfl (fun w hst => rfl)) ?_
      obtain ⟨x389, hx390, hm⟩ := bind_some hm
      obtain ⟨h391, h392, hi393⟩ := geto_some hx390
      refine ws_q (v := .pointer (some (eAddr r0_0 (z379.toNat * 3 + 0)))) 2 [3, 4, 5, 6, 7, 8, 9, 10, 11, 12, 13, 14, 15, 16, 17, 18, 19, 20, 21, 22, 23, 24, 25, 26, 27, 28, 29, 30, 31, 32, 33, 34, 35, 36, 37, 38, 39] (by kernel_rfl) rfl rfl (yi_run rfl (fun w hst => x_index rfl rfl Try.underlying35 Try.sizeOf73 (rd_sliceV f0_0) h391 h392)) ?_
      refine ws_q (v := .pointer (some (eAddr r0_0 (z379.toNat * 3 + 0)))) 3 [4, 5, 6, 7, 8, 9, 10, 11, 12, 13, 14, 15, 16, 17, 18, 19, 20, 21, 22, 23, 24, 25, 26, 27, 28, 29, 30, 31, 32, 33, 34, 35, 36, 37, 38, 39] (by kernel_rfl) rfl rfl (yi_run rfl (fun w hst => x_field_e rfl Try.underlying73 rfl Try.sizeOf41 rfl)) ?_
      obtain ⟨cs394, hr395, hc396⟩ := Rd.getF f0_0 hi393
      obtain ⟨v397, rfl, f398, -⟩ := hr395
      refine ws_q (v := .float .f64 x389.At) 4 [5, 6, 7, 8, 9, 10, 11, 12, 13, 14, 15, 16, 17, 18, 19, 20, 21, 22, 23, 24, 25, 26, 27, 28, 29, 30, 31, 32, 33, 34, 35, 36, 37, 38, 39] (by kernel_rfl) rfl rfl (yi_run rfl (fun w hst => x_load rfl Try.isAgg41 ((hc396 (HL.le.refl _) hst) 0 _ rfl))) ?_
      refine ws_q (v := r1_0) 5 [6, 7, 8, 9, 10, 11, 12, 13, 14, 15, 16, 17, 18, 19, 20, 21, 22, 23, 24, 25, 26, 27, 28, 29, 30, 31, 32, 33, 34, 35, 36, 37, 38, 39] (by kernel_rfl) rfl rfl (yi_run rfl (fun w hst => rfl)) ?_
      refine ws_q (v := .int .i64 z379) 6 [7, 8, 9, 10, 11, 12, 13, 14, 15, 16, 17, 18, 19, 20, 21, 22, 23, 24, 25, 26, 27, 28, 29, 30, 31, 32, 33, 34, 35, 36, 37, 38, 39] (by kernel_rfl) rfl rfl (yi_run rfl (fun w hst => rfl)) ?_
      obtain ⟨x400, hx401, hm⟩ := bind_some hm
      obtain ⟨h402, h403, hi404⟩ := geto_some hx401
      refine ws_q (v := .pointer (some (eAddr r1_0 (z379.toNat * 3 + 0)))) 7 [8, 9, 10, 11, 12, 13, 14, 15, 16, 17, 18, 19, 20, 21, 22, 23, 24, 25, 26, 27, 28, 29, 30, 31, 32, 33, 34, 35, 36, 37, 38, 39] (by kernel_rfl) rfl rfl (yi_run rfl (fun w hst => x_index rfl rfl Try.underlying35 Try.sizeOf73 (rd_sliceV f1_0) h402 h403)) ?_
      refine ws_q (v := .pointer (some (eAddr r1_0 (z379.toNat * 3 + 0)))) 8 [9, 10, 11, 12, 13, 14, 15, 16, 17, 18, 19, 20, 21, 22, 23, 24, 25, 26, 27, 28, 29, 30, 31, 32, 33, 34, 35, 36, 37, 38, 39] (by kernel_rfl) rfl rfl (yi_run rfl (fun w hst => x_field_e rfl Try.underlying73 rfl Try.sizeOf41 rfl)) ?_
      obtain ⟨cs405, hr406, hc407⟩ := Rd.getF f1_0 hi404
      obtain ⟨v408, rfl, f409, -⟩ := hr406
      refine ws_q (v := .float .f64 x400.At) 9 [10, 11, 12, 13, 14, 15, 16, 17, 18, 19, 20, 21, 22, 23, 24, 25, 26, 27, 28, 29, 30, 31, 32, 33, 34, 35, 36, 37, 38, 39] (by kernel_rfl) rfl rfl (yi_run rfl (fun w hst => x_load rfl Try.isAgg41 ((hc407 (HL.le.refl _) hst) 0 _ rfl))) ?_
      refine ws_e1 10 (by kernel_rfl) ?_
      refine nxe [11, 12, 13, 14, 15, 16, 17, 18, 19, 20, 21, 22, 23, 24, 25, 26, 27, 28, 29, 30, 31, 32, 33, 34, 35, 36, 37, 38, 39] (by kernel_rfl) rfl rfl ?_
      clear hst
      intro w hst
      obtain ⟨t411, ht412, hm⟩ := bind_some hm
      refine we_call rfl (x_call Try.call62 rfl (vs := [.float .f64 x389.At, .float .f64 x400.At]) rfl) ?_
      refine (ref01_Same_ref hst.to0 ht412).mono ?_
      rintro _ w413 ⟨rfl, hst⟩
      refine ⟨_, rfl, ?_⟩
      replace hst := hst.of0
      refine ws_next (pend' := []) hst (by kernel_rfl) pk_nil ?_
      refine ws_q (v := .bool (!t411)) 11 [12, 13, 14, 15, 16, 17, 18, 19, 20, 21, 22, 23, 24, 25, 26, 27, 28, 29, 30, 31, 32, 33, 34, 35, 36, 37, 38, 39] (by kernel_rfl) rfl rfl (yi_run rfl (fun w hst => rfl)) ?_
      refine ws_q (v := .bool (!t411)) 12 [13, 14, 15, 16, 17, 18, 19, 20, 21, 22, 23, 24, 25, 26, 27, 28, 29, 30, 31, 32, 33, 34, 35, 36, 37, 38, 39] (by kernel_rfl) rfl rfl (yi_run rfl (fun w hst => rfl)) ?_
      refine bsplit (!t411) (fun hc416 => ?_) (fun hc416 => ?_)
      · skip
        replace hm := bif_t hc416 hm
        refine ws_q (v := undef) 13 [14, 15, 16, 17, 18, 19, 20, 21, 22, 23, 24, 25, 26, 27, 28, 29, 30, 31, 32, 33, 34, 35, 36, 37, 38, 39] (by kernel_rfl) rfl rfl (yi_off ((wanted_eq rfl rfl rfl (congrArg Value.bool hc416)).trans rfl)) ?_
        refine ws_q (v := undef) 14 [15, 16, 17, 18, 19, 20, 21, 22, 23, 24, 25, 26, 27, 28, 29, 30, 31, 32, 33, 34, 35, 36, 37, 38, 39] (by kernel_rfl) rfl rfl (yi_off ((wanted_eq rfl rfl rfl (congrArg Value.bool hc416)).trans rfl)) ?_
        refine ws_q (v := undef) 15 [16, 17, 18, 19, 20, 21, 22, 23, 24, 25, 26, 27, 28, 29, 30, 31, 32, 33, 34, 35, 36, 37, 38, 39] (by kernel_rfl) rfl rfl (yi_off ((wanted_eq rfl rfl rfl (congrArg Value.bool hc416)).trans rfl)) ?_
        refine ws_q (v := undef) 16 [17, 18, 19, 20, 21, 22, 23, 24, 25, 26, 27, 28, 29, 30, 31, 32, 33, 34, 35, 36, 37, 38, 39] (by kernel_rfl) rfl rfl (yi_off ((wanted_eq rfl rfl rfl (congrArg Value.bool hc416)).trans rfl)) ?_
        refine ws_q (v := undef) 17 [18, 19, 20, 21, 22, 23, 24, 25, 26, 27, 28, 29, 30, 31, 32, 33, 34, 35, 36, 37, 38, 39] (by kernel_rfl) rfl rfl (yi_off ((wanted_eq rfl rfl rfl (congrArg Value.bool hc416)).trans rfl)) ?_
        refine ws_q (v := undef) 18 [19, 20, 21, 22, 23, 24, 25, 26, 27, 28, 29, 30, 31, 32, 33, 34, 35, 36, 37, 38, 39] (by kernel_rfl) rfl rfl (yi_off ((wanted_eq rfl rfl rfl (congrArg Value.bool hc416)).trans rfl)) ?_
        refine ws_q (v := undef) 19 [20, 21, 22, 23, 24, 25, 26, 27, 28, 29, 30, 31, 32, 33, 34, 35, 36, 37, 38, 39] (by kernel_rfl) rfl rfl (yi_off ((wanted_eq rfl rfl rfl (congrArg Value.bool hc416)).trans rfl)) ?_
        refine ws_q (v := undef) 20 [21, 22, 23, 24, 25, 26, 27, 28, 29, 30, 31, 32, 33, 34, 35, 36, 37, 38, 39] (by kernel_rfl) rfl rfl (yi_off ((wanted_eq rfl rfl rfl (congrArg Value.bool hc416)).trans rfl)) ?_
        refine ws_q (v := undef) 21 [22, 23, 24, 25, 26, 27, 28, 29, 30, 31, 32, 33, 34, 35, 36, 37, 38, 39] (by kernel_rfl) rfl rfl (yi_off ((wanted_eq rfl rfl rfl (congrArg Value.bool hc416)).trans rfl)) ?_
        refine ws_q (v := undef) 22 [23, 24, 25, 26, 27, 28, 29, 30, 31, 32, 33, 34, 35, 36, 37, 38, 39] (by kernel_rfl) rfl rfl (yi_off ((wanted_eq rfl rfl rfl (congrArg Value.bool hc416)).trans rfl)) ?_
        refine ws_q (v := undef) 23 [24, 25, 26, 27, 28, 29, 30, 31, 32, 33, 34, 35, 36, 37, 38, 39] (by kernel_rfl) rfl rfl (yi_off ((wanted_eq rfl rfl rfl (congrArg Value.bool hc416)).trans rfl)) ?_
        refine ws_q (v := .bool true) 24 [25, 26, 27, 28, 29, 30, 31, 32, 33, 34, 35, 36, 37, 38, 39] (by kernel_rfl) rfl rfl (yi_run rfl (fun w hst => x_pick_t hc416 rfl rfl)) ?_
        refine ws_q (v := .bool true) 25 [26, 27, 28, 29, 30, 31, 32, 33, 34, 35, 36, 37, 38, 39] (by kernel_rfl) rfl rfl (yi_run rfl (fun w hst => rfl)) ?_
        refine ws_q (v := undef) 26 [27, 28, 29, 30, 31, 32, 33, 34, 35, 36, 37, 38, 39] (by kernel_rfl) rfl rfl (yi_off ((wanted_eq rfl rfl rfl rfl).trans rfl)) ?_
        refine ws_q (v := undef) 27 [28, 29, 30, 31, 32, 33, 34, 35, 36, 37, 38, 39] (by kernel_rfl) rfl rfl (yi_off ((wanted_eq rfl rfl rfl rfl).trans rfl)) ?_
        refine ws_q (v := undef) 28 [29, 30, 31, 32, 33, 34, 35, 36, 37, 38, 39] (by kernel_rfl) rfl rfl (yi_off ((wanted_eq rfl rfl rfl rfl).trans rfl)) ?_
        refine ws_q (v := undef) 29 [30, 31, 32, 33, 34, 35, 36, 37, 38, 39] (by kernel_rfl) rfl rfl (yi_off ((wanted_eq rfl rfl rfl rfl).trans rfl)) ?_
        refine ws_q (v := undef) 30 [31, 32, 33, 34, 35, 36, 37, 38, 39] (by kernel_rfl) rfl rfl (yi_off ((wanted_eq rfl rfl rfl rfl).trans rfl)) ?_
        refine ws_q (v := undef) 31 [32, 33, 34, 35, 36, 37, 38, 39] (by kernel_rfl) rfl rfl (yi_off ((wanted_eq rfl rfl rfl rfl).trans rfl)) ?_
        refine ws_q (v := undef) 32 [33, 34, 35, 36, 37, 38, 39] (by kernel_rfl) rfl rfl (yi_off ((wanted_eq rfl rfl rfl rfl).trans rfl)) ?_
        refine ws_q (v := undef) 33 [34, 35, 36, 37, 38, 39] (by kernel_rfl) rfl rfl (yi_off ((wanted_eq rfl rfl rfl rfl).trans rfl)) ?_
        refine ws_q (v := undef) 34 [35, 36, 37, 38, 39] (by kernel_rfl) rfl rfl (yi_off ((wanted_eq rfl rfl rfl rfl).trans rfl)) ?_
        refine ws_q (v := undef) 35 [36, 37, 38, 39] (by kernel_rfl) rfl rfl (yi_off ((wanted_eq rfl rfl rfl rfl).trans rfl)) ?_
        refine ws_q (v := undef) 36 [37, 38, 39] (by kernel_rfl) rfl rfl (yi_off ((wanted_eq rfl rfl rfl rfl).trans rfl)) ?_
        refine ws_q (v := undef) 37 [38, 39] (by kernel_rfl) rfl rfl (yi_off ((wanted_eq rfl rfl rfl rfl).trans rfl)) ?_
        refine ws_q (v := undef) 38 [39] (by kernel_rfl) rfl rfl (yi_off ((wanted_eq rfl rfl rfl rfl).trans rfl)) ?_
        refine ws_q (v := .bool true) 39 [] (by kernel_rfl) rfl rfl (yi_run rfl (fun w hst => x_pick_t rfl rfl rfl)) ?_
        refine ws_nil ?_
        intro w hst
        refine then_n ?_
        refine wp_ift rfl ?_
        refine wp_seq ?_
        refine wp_region_lit ?_
        refine wl_val (v := .bool false) rfl rfl rfl ?_
        refine wl_nil ?_
        refine then_n ?_
        refine wp_ret ?_
        refine blk_r ?_
        refine then_r ?_
        refine then_r ?_
        replace hm := inr_up hm hx386
        refine blk_r ?_
        refine then_r ?_
        obtain rfl := some_inj hm
        refine post_ret (vs := [.bool false]) Try.results34 (rvs_cons (rv_tmp rfl) rvs_nil) ?_
        exact ⟨rfl, hst.keep0⟩
      · skip
        replace hm := bif_f hc416 hm
        refine ws_q (v := r0_0) 13 [14, 15, 16, 17, 18, 19, 20, 21, 22, 23, 24, 25, 26, 27, 28, 29, 30, 31, 32, 33, 34, 35, 36, 37, 38, 39] (by kernel_rfl) rfl rfl (yi_run ((wanted_eq rfl rfl rfl (congrArg Value.bool hc416)).trans rfl) (fun w hst => rfl)) ?_
        refine ws_q (v := .int .i64 z379) 14 [15, 16, 17, 18, 19, 20, 21, 22, 23, 24, 25, 26, 27, 28, 29, 30, 31, 32, 33, 34, 35, 36, 37, 38, 39] (by kernel_rfl) rfl rfl (yi_run ((wanted_eq rfl rfl rfl (congrArg Value.bool hc416)).trans rfl) (fun w hst => rfl)) ?_
        refine ws_q (v := .pointer (some (eAddr r0_0 (z379.toNat * 3 + 0)))) 15 [16, 17, 18, 19, 20, 21, 22, 23, 24, 25, 26, 27, 28, 29, 30, 31, 32, 33, 34, 35, 36, 37, 38, 39] (by kernel_rfl) rfl rfl (yi_run ((wanted_eq rfl rfl rfl (congrArg Value.bool hc416)).trans rfl) (fun w hst => x_index rfl rfl Try.underlying35 Try.sizeOf73 (rd_sliceV f0_0) h391 h392)) ?_
        refine ws_q (v := .pointer (some (eAddr r0_0 (z379.toNat * 3 + 1)))) 16 [17, 18, 19, 20, 21, 22, 23, 24, 25, 26, 27, 28, 29, 30, 31, 32, 33, 34, 35, 36, 37, 38, 39] (by kernel_rfl) rfl rfl (yi_run ((wanted_eq rfl rfl rfl (congrArg Value.bool hc416)).trans rfl) (fun w hst => x_field_e rfl Try.underlying73 rfl Try.sizeOf4 rfl)) ?_
        obtain ⟨cs417, hr418, hc419⟩ := Rd.getF f0_0 hi393
        obtain ⟨v420, rfl, f421, -⟩ := hr418
        refine ws_q (v := .bool x389.Del) 17 [18, 19, 20, 21, 22, 23, 24, 25, 26, 27, 28, 29, 30, 31, 32, 33, 34, 35, 36, 37, 38, 39] (by kernel_rfl) rfl rfl (yi_run ((wanted_eq rfl rfl rfl (congrArg Value.bool hc416)).trans rfl) (fun w hst => x_load rfl Try.isAgg4 ((hc419 (HL.le.refl _) hst) 1 _ rfl))) ?_
        refine ws_q (v := r1_0) 18 [19, 20, 21, 22, 23, 24, 25, 26, 27, 28, 29, 30, 31, 32, 33, 34, 35, 36, 37, 38, 39] (by kernel_rfl) rfl rfl (yi_run ((wanted_eq rfl rfl rfl (congrArg Value.bool hc416)).trans rfl) (fun w hst => rfl)) ?_
        refine ws_q (v := .int .i64 z379) 19 [20, 21, 22, 23, 24, 25, 26, 27, 28, 29, 30, 31, 32, 33, 34, 35, 36, 37, 38, 39] (by kernel_rfl) rfl rfl (yi_run ((wanted_eq rfl rfl rfl (congrArg Value.bool hc416)).trans rfl) (fun w hst => rfl)) ?_
        refine ws_q (v := .pointer (some (eAddr r1_0 (z379.toNat * 3 + 0)))) 20 [21, 22, 23, 24, 25, 26, 27, 28, 29, 30, 31, 32, 33, 34, 35, 36, 37, 38, 39] (by kernel_rfl) rfl rfl (yi_run ((wanted_eq rfl rfl rfl (congrArg Value.bool hc416)).trans rfl) (fun w hst => x_index rfl rfl Try.underlying35 Try.sizeOf73 (rd_sliceV f1_0) h402 h403)) ?_
        refine ws_q (v := .pointer (some (eAddr r1_0 (z379.toNat * 3 + 1)))) 21 [22, 23, 24, 25, 26, 27, 28, 29, 30, 31, 32, 33, 34, 35, 36, 37, 38, 39] (by kernel_rfl) rfl rfl (yi_run ((wanted_eq rfl rfl rfl (congrArg Value.bool hc416)).trans rfl) (fun w hst => x_field_e rfl Try.underlying73 rfl Try.sizeOf4 rfl)) ?_
        obtain ⟨cs423, hr424, hc425⟩ := Rd.getF f1_0 hi404
        obtain ⟨v426, rfl, f427, -⟩ := hr424
        refine ws_q (v := .bool x400.Del) 22 [23, 24, 25, 26, 27, 28, 29, 30, 31, 32, 33, 34, 35, 36, 37, 38, 39] (by kernel_rfl) rfl rfl (yi_run ((wanted_eq rfl rfl rfl (congrArg Value.bool hc416)).trans rfl) (fun w hst => x_load rfl Try.isAgg4 ((hc425 (HL.le.refl _) hst) 1 _ rfl))) ?_
        refine ws_q (v := .bool (!(x389.Del == x400.Del))) 23 [24, 25, 26, 27, 28, 29, 30, 31, 32, 33, 34, 35, 36, 37, 38, 39] (by kernel_rfl) rfl rfl (yi_run ((wanted_eq rfl rfl rfl (congrArg Value.bool hc416)).trans rfl) (fun w hst => by kernel_rfl)) ?_
        refine ws_q (v := .bool (!(x389.Del == x400.Del))) 24 [25, 26, 27, 28, 29, 30, 31, 32, 33, 34, 35, 36, 37, 38, 39] (by kernel_rfl) rfl rfl (yi_run rfl (fun w hst => x_pick_f hc416 rfl rfl)) ?_
        refine ws_q (v := .bool (!(x389.Del == x400.Del))) 25 [26, 27, 28, 29, 30, 31, 32, 33, 34, 35, 36, 37, 38, 39] (by kernel_rfl) rfl rfl (yi_run rfl (fun w hst => rfl)) ?_
        refine bsplit (!(x389.Del == x400.Del)) (fun hc429 => ?_) (fun hc429 => ?_)
        · skip
          replace hm := bif_t hc429 hm
          refine ws_q (v := undef) 26 [27, 28, 29, 30, 31, 32, 33, 34, 35, 36, 37, 38, 39] (by kernel_rfl) rfl rfl (yi_off ((wanted_eq rfl rfl rfl (congrArg Value.bool hc429)).trans rfl)) ?_
          refine ws_q (v := undef) 27 [28, 29, 30, 31, 32, 33, 34, 35, 36, 37, 38, 39] (by kernel_rfl) rfl rfl (yi_off ((wanted_eq rfl rfl rfl (congrArg Value.bool hc429)).trans rfl)) ?_
          refine ws_q (v := undef) 28 [29, 30, 31, 32, 33, 34, 35, 36, 37, 38, 39] (by kernel_rfl) rfl rfl (yi_off ((wanted_eq rfl rfl rfl (congrArg Value.bool hc429)).trans rfl)) ?_
          refine ws_q (v := undef) 29 [30, 31, 32, 33, 34, 35, 36, 37, 38, 39] (by kernel_rfl) rfl rfl (yi_off ((wanted_eq rfl rfl rfl (congrArg Value.bool hc429)).trans rfl)) ?_
          refine ws_q (v := undef) 30 [31, 32, 33, 34, 35, 36, 37, 38, 39] (by kernel_rfl) rfl rfl (yi_off ((wanted_eq rfl rfl rfl (congrArg Value.bool hc429)).trans rfl)) ?_
          refine ws_q (v := undef) 31 [32, 33, 34, 35, 36, 37, 38, 39] (by kernel_rfl) rfl rfl (yi_off ((wanted_eq rfl rfl rfl (congrArg Value.bool hc429)).trans rfl)) ?_
          refine ws_q (v := undef) 32 [33, 34, 35, 36, 37, 38, 39] (by kernel_rfl) rfl rfl (yi_off ((wanted_eq rfl rfl rfl (congrArg Value.bool hc429)).trans rfl)) ?_
          refine ws_q (v := undef) 33 [34, 35, 36, 37, 38, 39] (by kernel_rfl) rfl rfl (yi_off ((wanted_eq rfl rfl rfl (congrArg Value.bool hc429)).trans rfl)) ?_
          refine ws_q (v := undef) 34 [35, 36, 37, 38, 39] (by kernel_rfl) rfl rfl (yi_off ((wanted_eq rfl rfl rfl (congrArg Value.bool hc429)).trans rfl)) ?_
          refine ws_q (v := undef) 35 [36, 37, 38, 39] (by kernel_rfl) rfl rfl (yi_off ((wanted_eq rfl rfl rfl (congrArg Value.bool hc429)).trans rfl)) ?_
          refine ws_q (v := undef) 36 [37, 38, 39] (by kernel_rfl) rfl rfl (yi_off ((wanted_eq rfl rfl rfl (congrArg Value.bool hc429)).trans rfl)) ?_
          refine ws_q (v := undef) 37 [38, 39] (by kernel_rfl) rfl rfl (yi_off ((wanted_eq rfl rfl rfl (congrArg Value.bool hc429)).trans rfl)) ?_
          refine ws_q (v := undef) 38 [39] (by kernel_rfl) rfl rfl (yi_off ((wanted_eq rfl rfl rfl (congrArg Value.bool hc429)).trans rfl)) ?_
          refine ws_q (v := .bool true) 39 [] (by kernel_rfl) rfl rfl (yi_run rfl (fun w hst => x_pick_t hc429 rfl rfl)) ?_
          refine ws_nil ?_
          intro w hst
          refine then_n ?_
          refine wp_ift rfl ?_
          refine wp_seq ?_
          refine wp_region_lit ?_
          refine wl_val (v := .bool false) rfl rfl rfl ?_
          refine wl_nil ?_
          refine then_n ?_
          refine wp_ret ?_
          refine blk_r ?_
          refine then_r ?_
          refine then_r ?_
          replace hm := inr_up hm hx386
          refine blk_r ?_
          refine then_r ?_
          obtain rfl := some_inj hm
          refine post_ret (vs := [.bool false]) Try.results34 (rvs_cons (rv_tmp rfl) rvs_nil) ?_
          exact ⟨rfl, hst.keep0⟩
        · skip
          replace hm := bif_f hc429 hm
          refine ws_q (v := r0_0) 26 [27, 28, 29, 30, 31, 32, 33, 34, 35, 36, 37, 38, 39] (by kernel_rfl) rfl rfl (yi_run ((wanted_eq rfl rfl rfl (congrArg Value.bool hc429)).trans rfl) (fun w hst => rfl)) ?_
          refine ws_q (v := .int .i64 z379) 27 [28, 29, 30, 31, 32, 33, 34, 35, 36, 37, 38, 39] (by kernel_rfl) rfl rfl (yi_run ((wanted_eq rfl rfl rfl (congrArg Value.bool hc429)).trans rfl) (fun w hst => rfl)) ?_
          refine ws_q (v := .pointer (some (eAddr r0_0 (z379.toNat * 3 + 0)))) 28 [29, 30, 31, 32, 33, 34, 35, 36, 37, 38, 39] (by kernel_rfl) rfl rfl (yi_run ((wanted_eq rfl rfl rfl (congrArg Value.bool hc429)).trans rfl) (fun w hst => x_index rfl rfl Try.underlying35 Try.sizeOf73 (rd_sliceV f0_0) h391 h392)) ?_
          refine ws_q (v := .pointer (some (eAddr r0_0 (z379.toNat * 3 + 2)))) 29 [30, 31, 32, 33, 34, 35, 36, 37, 38, 39] (by kernel_rfl) rfl rfl (yi_run ((wanted_eq rfl rfl rfl (congrArg Value.bool hc429)).trans rfl) (fun w hst => x_field_e rfl Try.underlying73 rfl Try.sizeOf22 rfl)) ?_
          refine ws_q (v := v420) 30 [31, 32, 33, 34, 35, 36, 37, 38, 39] (by kernel_rfl) rfl rfl (yi_run ((wanted_eq rfl rfl rfl (congrArg Value.bool hc429)).trans rfl) (fun w hst => x_load rfl Try.isAgg22 ((hc419 (HL.le.refl _) hst) 2 _ rfl))) ?_
          refine ws_q (v := .string (toStr x389.Val)) 31 [32, 33, 34, 35, 36, 37, 38, 39] (by kernel_rfl) rfl rfl (yi_run ((wanted_eq rfl rfl rfl (congrArg Value.bool hc429)).trans rfl) (fun w hst => x_tostr Try.underlying22 Try.underlying9 Try.underlying5 rfl (Src.of_rd hst f421 flat_int))) ?_
          refine ws_q (v := r1_0) 32 [33, 34, 35, 36, 37, 38, 39] (by kernel_rfl) rfl rfl (yi_run ((wanted_eq rfl rfl rfl (congrArg Value.bool hc429)).trans rfl) (fun w hst => rfl)) ?_
          refine ws_q (v := .int .i64 z379) 33 [34, 35, 36, 37, 38, 39] (by kernel_rfl) rfl rfl (yi_run ((wanted_eq rfl rfl rfl (congrArg Value.bool hc429)).trans rfl) (fun w hst => rfl)) ?_
          refine ws_q (v := .pointer (some (eAddr r1_0 (z379.toNat * 3 + 0)))) 34 [35, 36, 37, 38, 39] (by kernel_rfl) rfl rfl (yi_run ((wanted_eq rfl rfl rfl (congrArg Value.bool hc429)).trans rfl) (fun w hst => x_index rfl rfl Try.underlying35 Try.sizeOf73 (rd_sliceV f1_0) h402 h403)) ?_
          refine ws_q (v := .pointer (some (eAddr r1_0 (z379.toNat * 3 + 2)))) 35 [36, 37, 38, 39] (by kernel_rfl) rfl rfl (yi_run ((wanted_eq rfl rfl rfl (congrArg Value.bool hc429)).trans rfl) (fun w hst => x_field_e rfl Try.underlying73 rfl Try.sizeOf22 rfl)) ?_
          refine ws_q (v := v426) 36 [37, 38, 39] (by kernel_rfl) rfl rfl (yi_run ((wanted_eq rfl rfl rfl (congrArg Value.bool hc429)).trans rfl) (fun w hst => x_load rfl Try.isAgg22 ((hc425 (HL.le.refl _) hst) 2 _ rfl))) ?_
          refine ws_q (v := .string (toStr x400.Val)) 37 [38, 39] (by kernel_rfl) rfl rfl (yi_run ((wanted_eq rfl rfl rfl (congrArg Value.bool hc429)).trans rfl) (fun w hst => x_tostr Try.underlying22 Try.underlying9 Try.underlying5 rfl (Src.of_rd hst f427 flat_int))) ?_
          refine ws_q (v := .bool (!(sEq (toStr x389.Val) (toStr x400.Val)))) 38 [39] (by kernel_rfl) rfl rfl (yi_run ((wanted_eq rfl rfl rfl (congrArg Value.bool hc429)).trans rfl) (fun w hst => by kernel_rfl)) ?_
          refine ws_q (v := .bool (!(sEq (toStr x389.Val) (toStr x400.Val)))) 39 [] (by kernel_rfl) rfl rfl (yi_run rfl (fun w hst => x_pick_f hc429 rfl rfl)) ?_
          refine ws_nil ?_
          intro w hst
          refine then_n ?_
          refine bsplit (!(sEq (toStr x389.Val) (toStr x400.Val))) (fun hc430 => ?_) (fun hc430 => ?_)
          · skip
            replace hm := bif_t hc430 hm
            refine wp_ift (congrArg Value.bool hc430) ?_
            refine wp_seq ?_
            refine wp_region_lit ?_
            refine wl_val (v := .bool false) rfl rfl rfl ?_
            refine wl_nil ?_
            refine then_n ?_
            refine wp_ret ?_
            refine blk_r ?_
            refine then_r ?_
            refine then_r ?_
            replace hm := inr_up hm hx386
            refine blk_r ?_
            refine then_r ?_
            obtain rfl := some_inj hm
            refine post_ret (vs := [.bool false]) Try.results34 (rvs_cons (rv_tmp rfl) rvs_nil) ?_
            exact ⟨rfl, hst.keep0⟩
          · skip
            replace hm := bif_f hc430 hm
            refine wp_iff (congrArg Value.bool hc430) ?_
            refine wp_skip ?_
            refine blk_n ?_
            refine then_n ?_
            refine wp_region_lit ?_
            refine wl_val (v := .int .i64 z379) rfl rfl rfl ?_
            refine wl_val (v := .int .i64 (IntKind.i64.wrap (z379 + (1:Int)))) rfl rfl rfl ?_
            refine wl_val (v := .int .i64 (IntKind.i64.wrap (z379 + (1:Int)))) rfl rfl rfl ?_
            refine wl_nil ?_
            refine then_n ?_
            replace hst := hst.keep0
            obtain rfl := some_inj hm
            exact ⟨_, Nat.lt_succ_self _, (IntKind.i64.wrap (z379 + (1:Int))), _, hx386, ((fr_upd (t := 0) (v := r0_0) rfl).trans ((fr_upd (t := 1) (v := r1_0) rfl).trans ((fr_upd (t := 5) (v := .int .i64 (IntKind.i64.wrap (z379 + (1:Int)))) rfl).trans rfl))), hst⟩
    · skip
      replace hm := bif_f hc388 hm
      refine wp_iff (congrArg Value.bool hc388) ?_
      refine wp_exit ?_
      refine then_x ?_
      refine then_x ?_
      replace hm := inr_up hm hx386
      refine blk_x ?_
      refine then_n ?_
      refine wp_seq ?_
      refine wp_region_lit ?_
      refine wl_val (v := .bool true) rfl rfl rfl ?_
      refine wl_nil ?_
      refine then_n ?_
      refine wp_ret ?_
      obtain rfl := some_inj hm
      refine post_ret (vs := [.bool true]) Try.results34 (rvs_cons (rv_tmp rfl) rvs_nil) ?_
      exact ⟨rfl, hst.keep0⟩

theorem ref11_SameGots_ref {w0 w : World} {I : HL} {R : SP} {a0 : (List api_Got)} {r0_0 : Value} {a1 : (List api_Got)} {r1_0 : Value} (f0_0 : Rd ty_api_Got R I r0_0 a0) (f1_0 : Rd ty_api_Got R I r1_0 a1) (hst : St w0 w I [] R) {r : (Bool)} (hm : ref11_SameGots a0 a1 = some r) :
    Calls Try.prog 50 #[r0_0, r1_0] w fun e w' => e = .returned (.bool r) ∧ St w0 w' I [] R := by
  unfold ref11_SameGots at hm
  refine calls_start (args := [r0_0, r1_0]) Try.func50 rfl Try.ntmps50 (Nat.le_of_ble_eq_true rfl) ?_
  refine wp_seq ?_
  refine wp_region_lit ?_
  refine wl_val (v := .bool false) rfl rfl rfl ?_
  refine wl_nil ?_
  refine then_n ?_
  refine wp_seq ?_
  refine wp_seq ?_
  refine wp_region_lit ?_
  refine wl_val (v := r0_0) rfl rfl rfl ?_
  refine wl_val (v := .int .i64 ((a0).length : Int)) rfl rfl (x_len rfl Try.underlying36 (rd_sliceV f0_0)) ?_
  refine wl_val (v := r1_0) rfl rfl rfl ?_
  refine wl_val (v := .int .i64 ((a1).length : Int)) rfl rfl (x_len rfl Try.underlying36 (rd_sliceV f1_0)) ?_
  refine wl_val (v := .bool (((a0).length : Int) != ((a1).length : Int))) rfl rfl rfl ?_
  refine wl_nil ?_
  refine then_n ?_
  refine bsplit (((a0).length : Int) != ((a1).length : Int)) (fun hc260 => ?_) (fun hc260 => ?_)
  · skip
    replace hm := bif_t hc260 hm
    refine wp_ift (congrArg Value.bool hc260) ?_
    refine wp_seq ?_
    refine wp_region_lit ?_
    refine wl_val (v := .bool false) rfl rfl rfl ?_
    refine wl_nil ?_
    refine then_n ?_
    refine wp_ret ?_
    refine then_r ?_
    obtain rfl := some_inj hm
    refine post_ret (vs := [.bool false]) Try.results50 (rvs_cons (rv_tmp rfl) rvs_nil) ?_
    exact ⟨rfl, hst.keep0⟩
  · skip
    replace hm := bif_f hc260 hm
    refine wp_iff (congrArg Value.bool hc260) ?_
    refine wp_skip ?_
    refine then_n ?_
    refine wp_seq ?_
    refine wp_seq ?_
    refine wp_region_lit ?_
    refine wl_val (v := .int .i64 (0:Int)) rfl rfl rfl ?_
    refine wl_nil ?_
    refine then_n ?_
    refine wp_block ?_
    obtain ⟨n314, hm⟩ := loopO_some hm
    refine wp_loop_n (fun n a w => ∃ (z312 : Int) (σ313 : Nat → Value), loopN (ref11_SameGots_l0 a0 a1) n z312 = some r ∧ a = Fr 43 (upd (upd (upd σ313 0 (r0_0)) 1 (r1_0)) 5 (.int .i64 z312)) ∧ St w0 w I [] R) n314 ⟨(0:Int), _, hm, ((fr_upd (t := 0) (v := r0_0) rfl).trans ((fr_upd (t := 1) (v := r1_0) rfl).trans ((fr_upd (t := 5) (v := .int .i64 (0:Int)) rfl).trans rfl))), hst⟩ ?_
    rintro n320 _ w315 ⟨z312, σ313, hm, rfl, hst⟩
    obtain ⟨n317, y318, rfl, hm, hx319⟩ := loopN_some hm
    dsimp only [ref11_SameGots_l0] at hm
    refine wp_seq ?_
    refine wp_seq ?_
    refine wp_region_lit ?_
    refine wl_val (v := .int .i64 z312) rfl rfl rfl ?_
    refine wl_val (v := r0_0) rfl rfl rfl ?_
    refine wl_val (v := .int .i64 ((a0).length : Int)) rfl rfl (x_len rfl Try.underlying36 (rd_sliceV f0_0)) ?_
    refine wl_val (v := .bool (decide (z312 < ((a0).length : Int)))) rfl rfl rfl ?_
    refine wl_nil ?_
    refine then_n ?_
    refine bsplit (decide (z312 < ((a0).length : Int))) (fun hc321 => ?_) (fun hc321 => ?_)
    · skip
      replace hm := bif_t hc321 hm
      refine wp_ift (congrArg Value.bool hc321) ?_
      refine wp_skip ?_
      refine then_n ?_
      refine wp_seq ?_
      refine wp_block ?_
      refine wp_seq ?_
      refine wq_regionS hst Try.mixed (by kernel_rfl) ?_
      refine wq_run (v := r0_0) rfl rfl (fun w hst => rfl) ?_
      refine wq_run (v := .int .i64 z312) rfl rfl (fun w hst => rfl) ?_
      obtain ⟨x322, hx323, hm⟩ := bind_some hm
      obtain ⟨h324, h325, hi326⟩ := geto_some hx323
      refine wq_run (v := .pointer (some (eAddr r0_0 (z312.toNat * 2 + 0)))) rfl rfl (fun w hst => x_index rfl rfl Try.underlying36 Try.sizeOf51 (rd_sliceV f0_0) h324 h325) ?_
      refine wq_run (v := .pointer (some (eAddr r0_0 (z312.toNat * 2 + 0)))) rfl rfl (fun w hst => x_field_e rfl Try.underlying51 rfl Try.sizeOf4 rfl) ?_
      obtain ⟨cs327, hr328, hc329⟩ := Rd.getF f0_0 hi326
      obtain ⟨v330, rfl, f331, -⟩ := hr328
      refine wq_run (v := .bool x322.Has) rfl rfl (fun w hst => x_load rfl Try.isAgg4 ((hc329 (HL.le.refl _) hst) 0 _ rfl)) ?_
      refine wq_run (v := r1_0) rfl rfl (fun w hst => rfl) ?_
      refine wq_run (v := .int .i64 z312) rfl rfl (fun w hst => rfl) ?_
      obtain ⟨x333, hx334, hm⟩ := bind_some hm
      obtain ⟨h335, h336, hi337⟩ := geto_some hx334
      refine wq_run (v := .pointer (some (eAddr r1_0 (z312.toNat * 2 + 0)))) rfl rfl (fun w hst => x_index rfl rfl Try.underlying36 Try.sizeOf51 (rd_sliceV f1_0) h335 h336) ?_
      refine wq_run (v := .pointer (some (eAddr r1_0 (z312.toNat * 2 + 0)))) rfl rfl (fun w hst => x_field_e rfl Try.underlying51 rfl Try.sizeOf4 rfl) ?_
      obtain ⟨cs338, hr339, hc340⟩ := Rd.getF f1_0 hi337
      obtain ⟨v341, rfl, f342, -⟩ := hr339
      refine wq_run (v := .bool x333.Has) rfl rfl (fun w hst => x_load rfl Try.isAgg4 ((hc340 (HL.le.refl _) hst) 0 _ rfl)) ?_
      refine wq_run (v := .bool (!(x322.Has == x333.Has))) rfl rfl (fun w hst => by kernel_rfl) ?_
      refine wq_run (v := .bool (!(x322.Has == x333.Has))) rfl rfl (fun w hst => rfl) ?_
      refine bsplit (!(x322.Has == x333.Has)) (fun hc344 => ?_) (fun hc344 => ?_)
      · skip
        replace hm := bif_t hc344 hm
        refine wq_off ((wanted_eq rfl rfl rfl (congrArg Value.bool hc344)).trans rfl) rfl ?_
        refine wq_off ((wanted_eq rfl rfl rfl (congrArg Value.bool hc344)).trans rfl) rfl ?_
        refine wq_off ((wanted_eq rfl rfl rfl (congrArg Value.bool hc344)).trans rfl) rfl ?_
        refine wq_off ((wanted_eq rfl rfl rfl (congrArg Value.bool hc344)).trans rfl) rfl ?_
        refine wq_off ((wanted_eq rfl rfl rfl (congrArg Value.bool hc344)).trans rfl) rfl ?_
        refine wq_off ((wanted_eq rfl rfl rfl (congrArg Value.bool hc344)).trans rfl) rfl ?_
        refine wq_off ((wanted_eq rfl rfl rfl (congrArg Value.bool hc344)).trans rfl) rfl ?_
        refine wq_off ((wanted_eq rfl rfl rfl (congrArg Value.bool hc344)).trans rfl) rfl ?_
        refine wq_off ((wanted_eq rfl rfl rfl (congrArg Value.bool hc344)).trans rfl) rfl ?_
        refine wq_off ((wanted_eq rfl rfl rfl (congrArg Value.bool hc344)).trans rfl) rfl ?_
        refine wq_off ((wanted_eq rfl rfl rfl (congrArg Value.bool hc344)).trans rfl) rfl ?_
        refine wq_off ((wanted_eq rfl rfl rfl (congrArg Value.bool hc344)).trans rfl) rfl ?_
        refine wq_off ((wanted_eq rfl rfl rfl (congrArg Value.bool hc344)).trans rfl) rfl ?_
        refine wq_run (v := .bool true) rfl rfl (fun w hst => x_pick_t hc344 rfl rfl) ?_
        refine wq_nil ?_
        intro w hst
        refine then_n ?_
        refine wp_ift rfl ?_
        refine wp_seq ?_
        refine wp_region_lit ?_
        refine wl_val (v := .bool false) rfl rfl rfl ?_
        refine wl_nil ?_
        refine then_n ?_
        refine wp_ret ?_
        refine blk_r ?_
        refine then_r ?_
        refine then_r ?_
        replace hm := inr_up hm hx319
        refine blk_r ?_
        refine then_r ?_
        obtain rfl := some_inj hm
        refine post_ret (vs := [.bool false]) Try.results50 (rvs_cons (rv_tmp rfl) rvs_nil) ?_
        exact ⟨rfl, hst.keep0⟩
      · skip
        replace hm := bif_f hc344 hm
        refine wq_run (v := r0_0) ((wanted_eq rfl rfl rfl (congrArg Value.bool hc344)).trans rfl) rfl (fun w hst => rfl) ?_
        refine wq_run (v := .int .i64 z312) ((wanted_eq rfl rfl rfl (congrArg Value.bool hc344)).trans rfl) rfl (fun w hst => rfl) ?_
        refine wq_run (v := .pointer (some (eAddr r0_0 (z312.toNat * 2 + 0)))) ((wanted_eq rfl rfl rfl (congrArg Value.bool hc344)).trans rfl) rfl (fun w hst => x_index rfl rfl Try.underlying36 Try.sizeOf51 (rd_sliceV f0_0) h324 h325) ?_
        refine wq_run (v := .pointer (some (eAddr r0_0 (z312.toNat * 2 + 1)))) ((wanted_eq rfl rfl rfl (congrArg Value.bool hc344)).trans rfl) rfl (fun w hst => x_field_e rfl Try.underlying51 rfl Try.sizeOf22 rfl) ?_
        refine wq_run (v := v330) ((wanted_eq rfl rfl rfl (congrArg Value.bool hc344)).trans rfl) rfl (fun w hst => x_load rfl Try.isAgg22 ((hc329 (HL.le.refl _) hst) 1 _ rfl)) ?_
        refine wq_run (v := .string (toStr x322.Val)) ((wanted_eq rfl rfl rfl (congrArg Value.bool hc344)).trans rfl) rfl (fun w hst => x_tostr Try.underlying22 Try.underlying9 Try.underlying5 rfl (Src.of_rd hst f331 flat_int)) ?_
        refine wq_run (v := r1_0) ((wanted_eq rfl rfl rfl (congrArg Value.bool hc344)).trans rfl) rfl (fun w hst => rfl) ?_
        refine wq_run (v := .int .i64 z312) ((wanted_eq rfl rfl rfl (congrArg Value.bool hc344)).trans rfl) rfl (fun w hst => rfl) ?_
        refine wq_run (v := .pointer (some (eAddr r1_0 (z312.toNat * 2 + 0)))) ((wanted_eq rfl rfl rfl (congrArg Value.bool hc344)).trans rfl) rfl (fun w hst => x_index rfl rfl Try.underlying36 Try.sizeOf51 (rd_sliceV f1_0) h335 h336) ?_
        refine wq_run (v := .pointer (some (eAddr r1_0 (z312.toNat * 2 + 1)))) ((wanted_eq rfl rfl rfl (congrArg Value.bool hc344)).trans rfl) rfl (fun w hst => x_field_e rfl Try.underlying51 rfl Try.sizeOf22 rfl) ?_
        refine wq_run (v := v341) ((wanted_eq rfl rfl rfl (congrArg Value.bool hc344)).trans rfl) rfl (fun w hst => x_load rfl Try.isAgg22 ((hc340 (HL.le.refl _) hst) 1 _ rfl)) ?_
        refine wq_run (v := .string (toStr x333.Val)) ((wanted_eq rfl rfl rfl (congrArg Value.bool hc344)).trans rfl) rfl (fun w hst => x_tostr Try.underlying22 Try.underlying9 Try.underlying5 rfl (Src.of_rd hst f342 flat_int)) ?_
        refine wq_run (v := .bool (!(sEq (toStr x322.Val) (toStr x333.Val)))) ((wanted_eq rfl rfl rfl (congrArg Value.bool hc344)).trans rfl) rfl (fun w hst => by kernel_rfl) ?_
        refine wq_run (v := .bool (!(sEq (toStr x322.Val) (toStr x333.Val)))) rfl rfl (fun w hst => x_pick_f hc344 rfl rfl) ?_
        refine wq_nil ?_
        intro w hst
        refine then_n ?_
        refine bsplit (!(sEq (toStr x322.Val) (toStr x333.Val))) (fun hc345 => ?_) (fun hc345 => ?_)
        · skip
          replace hm := bif_t hc345 hm
          refine wp_ift (congrArg Value.bool hc345) ?_
          refine wp_seq ?_
          refine wp_region_lit ?_
          refine wl_val (v := .bool false) rfl rfl rfl ?_
          refine wl_nil ?_
          refine then_n ?_
          refine wp_ret ?_
          refine blk_r ?_
          refine then_r ?_
          refine then_r ?_
          replace hm := inr_up hm hx319
          refine blk_r ?_
          refine then_r ?_
          obtain rfl := some_inj hm
          refine post_ret (vs := [.bool false]) Try.results50 (rvs_cons (rv_tmp rfl) rvs_nil) ?_
          exact ⟨rfl, hst.keep0⟩
        · skip
          replace hm := bif_f hc345 hm
          refine wp_iff (congrArg Value.bool hc345) ?_
          refine wp_skip ?_
          refine blk_n ?_
          refine then_n ?_
          refine wp_region_lit ?_
          refine wl_val (v := .int .i64 z312) rfl rfl rfl ?_
          refine wl_val (v := .int .i64 (IntKind.i64.wrap (z312 + (1:Int)))) rfl rfl rfl ?_
          refine wl_val (v := .int .i64 (IntKind.i64.wrap (z312 + (1:Int)))) rfl rfl rfl ?_
          refine wl_nil ?_
          refine then_n ?_
          replace hst := hst.keep0
          obtain rfl := some_inj hm
          exact ⟨_, Nat.lt_succ_self _, (IntKind.i64.wrap (z312 + (1:Int))), _, hx319, ((fr_upd (t := 0) (v := r0_0) rfl).trans ((fr_upd (t := 1) (v := r1_0) rfl).trans ((fr_upd (t := 5) (v := .int .i64 (IntKind.i64.wrap (z312 + (1:Int)))) rfl).trans rfl))), hst⟩
    · skip
      replace hm := bif_f hc321 hm
      refine wp_iff (congrArg Value.bool hc321) ?_
      refine wp_exit ?_
      refine then_x ?_
      refine then_x ?_
      replace hm := inr_up hm hx319
      refine blk_x ?_
      refine then_n ?_
      refine wp_seq ?_
      refine wp_region_lit ?_
      refine wl_val (v := .bool true) rfl rfl rfl ?_
      refine wl_nil ?_
      refine then_n ?_
      refine wp_ret ?_
      obtain rfl := some_inj hm
      refine post_ret (vs := [.bool true]) Try.results50 (rvs_cons (rv_tmp rfl) rvs_nil) ?_
      exact ⟨rfl, hst.keep0⟩

theorem ref11_SamePairs_ref {w0 w : World} {I : HL} {R : SP} {a0 : (List api_Pair)} {r0_0 : Value} {a1 : (List api_Pair)} {r1_0 : Value} (f0_0 : Rd ty_api_Pair R I r0_0 a0) (f1_0 : Rd ty_api_Pair R I r1_0 a1) (hst : St w0 w I [] R) {r : (Bool)} (hm : ref11_SamePairs a0 a1 = some r) :
    Calls Try.prog 51 #[r0_0, r1_0] w fun e w' => e = .returned (.bool r) ∧ St w0 w' I [] R := by
  unfold ref11_SamePairs at hm
  refine calls_start (args := [r0_0, r1_0]) Try.func51 rfl Try.ntmps51 (Nat.le_of_ble_eq_true rfl) ?_
  refine wp_seq ?_
  refine wp_region_lit ?_
  refine wl_val (v := .bool false) rfl rfl rfl ?_
  refine wl_nil ?_
  refine then_n ?_
  refine wp_seq ?_
  refine wp_seq ?_
  refine wp_region_lit ?_
  refine wl_val (v := r0_0) rfl rfl rfl ?_
  refine wl_val (v := .int .i64 ((a0).length : Int)) rfl rfl (x_len rfl Try.underlying52 (rd_sliceV f0_0)) ?_
  refine wl_val (v := r1_0) rfl rfl rfl ?_
  refine wl_val (v := .int .i64 ((a1).length : Int)) rfl rfl (x_len rfl Try.underlying52 (rd_sliceV f1_0)) ?_
  refine wl_val (v := .bool (((a0).length : Int) != ((a1).length : Int))) rfl rfl rfl ?_
  refine wl_nil ?_
  refine then_n ?_
  refine bsplit (((a0).length : Int) != ((a1).length : Int)) (fun hc319 => ?_) (fun hc319 => ?_)
  · skip
    replace hm := bif_t hc319 hm
    refine wp_ift (congrArg Value.bool hc319) ?_
    refine wp_seq ?_
    refine wp_region_lit ?_
    refine wl_val (v := .bool false) rfl rfl rfl ?_
    refine wl_nil ?_
    refine then_n ?_
    refine wp_ret ?_
    refine then_r ?_
    obtain rfl := some_inj hm
    refine post_ret (vs := [.bool false]) Try.results51 (rvs_cons (rv_tmp rfl) rvs_nil) ?_
    exact ⟨rfl, hst.keep0⟩
  · skip
    replace hm := bif_f hc319 hm
    refine wp_iff (congrArg Value.bool hc319) ?_
    refine wp_skip ?_
    refine then_n ?_
    refine wp_seq ?_
    refine wp_seq ?_
    refine wp_region_lit ?_
    refine wl_val (v := .int .i64 (0:Int)) rfl rfl rfl ?_
    refine wl_nil ?_
    refine then_n ?_
    refine wp_block ?_
    obtain ⟨n407, hm⟩ := loopO_some hm
    refine wp_loop_n (fun n a w => ∃ (z405 : Int) (σ406 : Nat → Value), loopN (ref11_SamePairs_l0 a0 a1) n z405 = some r ∧ a = Fr 44 (upd (upd (upd σ406 0 (r0_0)) 1 (r1_0)) 5 (.int .i64 z405)) ∧ St w0 w I [] R) n407 ⟨(0:Int), _, hm, ((fr_upd (t := 0) (v := r0_0) rfl).trans ((fr_upd (t := 1) (v := r1_0) rfl).trans ((fr_upd (t := 5) (v := .int .i64 (0:Int)) rfl).trans rfl))), hst⟩ ?_
    rintro n413 _ w408 ⟨z405, σ406, hm, rfl, hst⟩
    obtain ⟨n410, y411, rfl, hm, hx412⟩ := loopN_some hm
    dsimp only [ref11_SamePairs_l0] at hm
    refine wp_seq ?_
    refine wp_seq ?_
    refine wp_region_lit ?_
    refine wl_val (v := .int .i64 z405) rfl rfl rfl ?_
    refine wl_val (v := r0_0) rfl rfl rfl ?_
    refine wl_val (v := .int .i64 ((a0).length : Int)) rfl rfl (x_len rfl Try.underlying52 (rd_sliceV f0_0)) ?_
    refine wl_val (v := .bool (decide (z405 < ((a0).length : Int)))) rfl rfl rfl ?_
    refine wl_nil ?_
    refine then_n ?_
    refine bsplit (decide (z405 < ((a0).length : Int))) (fun hc414 => ?_) (fun hc414 => ?_)
    · skip
      replace hm := bif_t hc414 hm
      refine wp_ift (congrArg Value.bool hc414) ?_
      refine wp_skip ?_
      refine then_n ?_
      refine wp_seq ?_
      refine wp_block ?_
      refine wp_seq ?_
      refine wp_region_St hst 27 [0, 1, 2, 3, 4, 5, 6, 7, 8, 9, 10, 11, 12, 13, 14, 15, 16, 17, 18, 19, 20, 21, 22, 23, 24, 25, 26] [0, 0, 3, 7, 15, 0, 0, 96, 224, 480, 1023, 2047, 4095, 8191, 8191, 32767, 65535, 131071, 262143, 8191, 8191, 1581055, 3678207, 7872511, 16261119, 33554431, 67108863] [] rfl (by kernel_rfl) (by kernel_rfl) Try.mixed (by kernel_rfl) ?_
      refine ws_q (v := r0_0) 0 [1, 2, 3, 4, 5, 6, 7, 8, 9, 10, 11, 12, 13, 14, 15, 16, 17, 18, 19, 20, 21, 22, 23, 24, 25, 26] (by kernel_rfl) rfl rfl (yi_run rfl (fun w hst => rfl)) ?_
      refine ws_q (v := .int .i64 z405) 1 [2, 3, 4, 5, 6, 7, 8, 9, 10, 11, 12, 13, 14, 15, 16, 17, 18, 19, 20, 21, 22, 23, 24, 25, 26] (by kernel_rfl) rfl rfl (yi_run rfl (fun w hst => rfl)) ?_
      obtain ⟨x415, hx416, hm⟩ := bind_some hm
      obtain ⟨h417, h418, hi419⟩ := geto_some hx416
      refine ws_q (v := .pointer (some (eAddr r0_0 (z405.toNat * 2 + 0)))) 2 [3, 4, 5, 6, 7, 8, 9, 10, 11, 12, 13, 14, 15, 16, 17, 18, 19, 20, 21, 22, 23, 24, 25, 26] (by kernel_rfl) rfl rfl (yi_run rfl (fun w hst => x_index rfl rfl Try.underlying52 Try.sizeOf54 (rd_sliceV f0_0) h417 h418)) ?_
      refine ws_q (v := .pointer (some (eAddr r0_0 (z405.toNat * 2 + 0)))) 3 [4, 5, 6, 7, 8, 9, 10, 11, 12, 13, 14, 15, 16, 17, 18, 19, 20, 21, 22, 23, 24, 25, 26] (by kernel_rfl) rfl rfl (yi_run rfl (fun w hst => x_field_e rfl Try.underlying54 rfl Try.sizeOf41 rfl)) ?_
      obtain ⟨cs420, hr421, hc422⟩ := Rd.getF f0_0 hi419
      obtain ⟨v423, rfl, f424, -⟩ := hr421
      refine ws_q (v := .float .f64 x415.At) 4 [5, 6, 7, 8, 9, 10, 11, 12, 13, 14, 15, 16, 17, 18, 19, 20, 21, 22, 23, 24, 25, 26] (by kernel_rfl) rfl rfl (yi_run rfl (fun w hst => x_load rfl Try.isAgg41 ((hc422 (HL.le.refl _) hst) 0 _ rfl))) ?_
      refine ws_q (v := r1_0) 5 [6, 7, 8, 9, 10, 11, 12, 13, 14, 15, 16, 17, 18, 19, 20, 21, 22, 23, 24, 25, 26] (by kernel_rfl) rfl rfl (yi_run rfl (fun w hst => rfl)) ?_
      refine ws_q (v := .int .i64 z405) 6 [7, 8, 9, 10, 11, 12, 13, 14, 15, 16, 17, 18, 19, 20, 21, 22, 23, 24, 25, 26] (by kernel_rfl) rfl rfl (yi_run rfl (fun w hst => rfl)) ?_
      obtain ⟨x426, hx427, hm⟩ := bind_some hm
      obtain ⟨h428, h429, hi430⟩ := geto_some hx427
      refine ws_q (v := .pointer (some (eAddr r1_0 (z405.toNat * 2 + 0)))) 7 [8, 9, 10, 11, 12, 13, 14, 15, 16, 17, 18, 19, 20, 21, 22, 23, 24, 25, 26] (by kernel_rfl) rfl rfl (yi_run rfl (fun w hst => x_index rfl rfl Try.underlying52 Try.sizeOf54 (rd_sliceV f1_0) h428 h429)) ?_
      refine ws_q (v := .pointer (some (eAddr r1_0 (z405.toNat * 2 + 0)))) 8 [9, 10, 11, 12, 13, 14, 15, 16, 17, 18, 19, 20, 21, 22, 23, 24, 25, 26] (by kernel_rfl) rfl rfl (yi_run rfl (fun w hst => x_field_e rfl Try.underlying54 rfl Try.sizeOf41 rfl)) ?_
      obtain ⟨cs431, hr432, hc433⟩ := Rd.getF f1_0 hi430
      obtain ⟨v434, rfl, f435, -⟩ := hr432
      refine ws_q (v := .float .f64 x426.At) 9 [10, 11, 12, 13, 14, 15, 16, 17, 18, 19, 20, 21, 22, 23, 24, 25, 26] (by kernel_rfl) rfl rfl (yi_run rfl (fun w hst => x_load rfl Try.isAgg41 ((hc433 (HL.le.refl _) hst) 0 _ rfl))) ?_
      refine ws_e1 10 (by kernel_rfl) ?_
      refine nxe [11, 12, 13, 14, 15, 16, 17, 18, 19, 20, 21, 22, 23, 24, 25, 26] (by kernel_rfl) rfl rfl ?_
      clear hst
      intro w hst
      obtain ⟨t437, ht438, hm⟩ := bind_some hm
      refine we_call rfl (x_call Try.call62 rfl (vs := [.float .f64 x415.At, .float .f64 x426.At]) rfl) ?_
      refine (ref01_Same_ref hst.to0 ht438).mono ?_
      rintro _ w439 ⟨rfl, hst⟩
      refine ⟨_, rfl, ?_⟩
      replace hst := hst.of0
      refine ws_next (pend' := []) hst (by kernel_rfl) pk_nil ?_
      refine ws_q (v := .bool (!t437)) 11 [12, 13, 14, 15, 16, 17, 18, 19, 20, 21, 22, 23, 24, 25, 26] (by kernel_rfl) rfl rfl (yi_run rfl (fun w hst => rfl)) ?_
      refine ws_q (v := .bool (!t437)) 12 [13, 14, 15, 16, 17, 18, 19, 20, 21, 22, 23, 24, 25, 26] (by kernel_rfl) rfl rfl (yi_run rfl (fun w hst => rfl)) ?_
      refine bsplit (!t437) (fun hc442 => ?_) (fun hc442 => ?_)
      · skip
        replace hm := bif_t hc442 hm
        refine ws_q (v := undef) 13 [14, 15, 16, 17, 18, 19, 20, 21, 22, 23, 24, 25, 26] (by kernel_rfl) rfl rfl (yi_off ((wanted_eq rfl rfl rfl (congrArg Value.bool hc442)).trans rfl)) ?_
        refine ws_q (v := undef) 14 [15, 16, 17, 18, 19, 20, 21, 22, 23, 24, 25, 26] (by kernel_rfl) rfl rfl (yi_off ((wanted_eq rfl rfl rfl (congrArg Value.bool hc442)).trans rfl)) ?_
        refine ws_q (v := undef) 15 [16, 17, 18, 19, 20, 21, 22, 23, 24, 25, 26] (by kernel_rfl) rfl rfl (yi_off ((wanted_eq rfl rfl rfl (congrArg Value.bool hc442)).trans rfl)) ?_
        refine ws_q (v := undef) 16 [17, 18, 19, 20, 21, 22, 23, 24, 25, 26] (by kernel_rfl) rfl rfl (yi_off ((wanted_eq rfl rfl rfl (congrArg Value.bool hc442)).trans rfl)) ?_
        refine ws_q (v := undef) 17 [18, 19, 20, 21, 22, 23, 24, 25, 26] (by kernel_rfl) rfl rfl (yi_off ((wanted_eq rfl rfl rfl (congrArg Value.bool hc442)).trans rfl)) ?_
        refine ws_q (v := undef) 18 [19, 20, 21, 22, 23, 24, 25, 26] (by kernel_rfl) rfl rfl (yi_off ((wanted_eq rfl rfl rfl (congrArg Value.bool hc442)).trans rfl)) ?_
        refine ws_q (v := undef) 19 [20, 21, 22, 23, 24, 25, 26] (by kernel_rfl) rfl rfl (yi_off ((wanted_eq rfl rfl rfl (congrArg Value.bool hc442)).trans rfl)) ?_
        refine ws_q (v := undef) 20 [21, 22, 23, 24, 25, 26] (by kernel_rfl) rfl rfl (yi_off ((wanted_eq rfl rfl rfl (congrArg Value.bool hc442)).trans rfl)) ?_
        refine ws_q (v := undef) 21 [22, 23, 24, 25, 26] (by kernel_rfl) rfl rfl (yi_off ((wanted_eq rfl rfl rfl (congrArg Value.bool hc442)).trans rfl)) ?_
        refine ws_q (v := undef) 22 [23, 24, 25, 26] (by kernel_rfl) rfl rfl (yi_off ((wanted_eq rfl rfl rfl (congrArg Value.bool hc442)).trans rfl)) ?_
        refine ws_q (v := undef) 23 [24, 25, 26] (by kernel_rfl) rfl rfl (yi_off ((wanted_eq rfl rfl rfl (congrArg Value.bool hc442)).trans rfl)) ?_
        refine ws_q (v := undef) 24 [25, 26] (by kernel_rfl) rfl rfl (yi_off ((wanted_eq rfl rfl rfl (congrArg Value.bool hc442)).trans rfl)) ?_
        refine ws_q (v := undef) 25 [26] (by kernel_rfl) rfl rfl (yi_off ((wanted_eq rfl rfl rfl (congrArg Value.bool hc442)).trans rfl)) ?_
        refine ws_q (v := .bool true) 26 [] (by kernel_rfl) rfl rfl (yi_run rfl (fun w hst => x_pick_t hc442 rfl rfl)) ?_
        refine ws_nil ?_
        intro w hst
        refine then_n ?_
        refine wp_ift rfl ?_
        refine wp_seq ?_
        refine wp_region_lit ?_
        refine wl_val (v := .bool false) rfl rfl rfl ?_
        refine wl_nil ?_
        refine then_n ?_
        refine wp_ret ?_
        refine blk_r ?_
        refine then_r ?_
        refine then_r ?_
        replace hm := inr_up hm hx412
        refine blk_r ?_
        refine then_r ?_
        obtain rfl := some_inj hm
        refine post_ret (vs := [.bool false]) Try.results51 (rvs_cons (rv_tmp rfl) rvs_nil) ?_
        exact ⟨rfl, hst.keep0⟩
      · skip
        replace hm := bif_f hc442 hm
        refine ws_q (v := r0_0) 13 [14, 15, 16, 17, 18, 19, 20, 21, 22, 23, 24, 25, 26] (by kernel_rfl) rfl rfl (yi_run ((wanted_eq rfl rfl rfl (congrArg Value.bool hc442)).trans rfl) (fun w hst => rfl)) ?_
        refine ws_q (v := .int .i64 z405) 14 [15, 16, 17, 18, 19, 20, 21, 22, 23, 24, 25, 26] (by kernel_rfl) rfl rfl (yi_run ((wanted_eq rfl rfl rfl (congrArg Value.bool hc442)).trans rfl) (fun w hst => rfl)) ?_
        refine ws_q (v := .pointer (some (eAddr r0_0 (z405.toNat * 2 + 0)))) 15 [16, 17, 18, 19, 20, 21, 22, 23, 24, 25, 26] (by kernel_rfl) rfl rfl (yi_run ((wanted_eq rfl rfl rfl (congrArg Value.bool hc442)).trans rfl) (fun w hst => x_index rfl rfl Try.underlying52 Try.sizeOf54 (rd_sliceV f0_0) h417 h418)) ?_
        refine ws_q (v := .pointer (some (eAddr r0_0 (z405.toNat * 2 + 1)))) 16 [17, 18, 19, 20, 21, 22, 23, 24, 25, 26] (by kernel_rfl) rfl rfl (yi_run ((wanted_eq rfl rfl rfl (congrArg Value.bool hc442)).trans rfl) (fun w hst => x_field_e rfl Try.underlying54 rfl Try.sizeOf22 rfl)) ?_
        obtain ⟨cs443, hr444, hc445⟩ := Rd.getF f0_0 hi419
        obtain ⟨v446, rfl, f447, -⟩ := hr444
        refine ws_q (v := v446) 17 [18, 19, 20, 21, 22, 23, 24, 25, 26] (by kernel_rfl) rfl rfl (yi_run ((wanted_eq rfl rfl rfl (congrArg Value.bool hc442)).trans rfl) (fun w hst => x_load rfl Try.isAgg22 ((hc445 (HL.le.refl _) hst) 1 _ rfl))) ?_
        refine ws_q (v := .string (toStr x415.Val)) 18 [19, 20, 21, 22, 23, 24, 25, 26] (by kernel_rfl) rfl rfl (yi_run ((wanted_eq rfl rfl rfl (congrArg Value.bool hc442)).trans rfl) (fun w hst => x_tostr Try.underlying22 Try.underlying9 Try.underlying5 rfl (Src.of_rd hst f447 flat_int))) ?_
        refine ws_q (v := r1_0) 19 [20, 21, 22, 23, 24, 25, 26] (by kernel_rfl) rfl rfl (yi_run ((wanted_eq rfl rfl rfl (congrArg Value.bool hc442)).trans rfl) (fun w hst => rfl)) ?_
        refine ws_q (v := .int .i64 z405) 20 [21, 22, 23, 24, 25, 26] (by kernel_rfl) rfl rfl (yi_run ((wanted_eq rfl rfl rfl (congrArg Value.bool hc442)).trans rfl) (fun w hst => rfl)) ?_
        refine ws_q (v := .pointer (some (eAddr r1_0 (z405.toNat * 2 + 0)))) 21 [22, 23, 24, 25, 26] (by kernel_rfl) rfl rfl (yi_run ((wanted_eq rfl rfl rfl (congrArg Value.bool hc442)).trans rfl) (fun w hst => x_index rfl rfl Try.underlying52 Try.sizeOf54 (rd_sliceV f1_0) h428 h429)) ?_
        refine ws_q (v := .pointer (some (eAddr r1_0 (z405.toNat * 2 + 1)))) 22 [23, 24, 25, 26] (by kernel_rfl) rfl rfl (yi_run ((wanted_eq rfl rfl rfl (congrArg Value.bool hc442)).trans rfl) (fun w hst => x_field_e rfl Try.underlying54 rfl Try.sizeOf22 rfl)) ?_
        obtain ⟨cs449, hr450, hc451⟩ := Rd.getF f1_0 hi430
        obtain ⟨v452, rfl, f453, -⟩ := hr450
        refine ws_q (v := v452) 23 [24, 25, 26] (by kernel_rfl) rfl rfl (yi_run ((wanted_eq rfl rfl rfl (congrArg Value.bool hc442)).trans rfl) (fun w hst => x_load rfl Try.isAgg22 ((hc451 (HL.le.refl _) hst) 1 _ rfl))) ?_
        refine ws_q (v := .string (toStr x426.Val)) 24 [25, 26] (by kernel_rfl) rfl rfl (yi_run ((wanted_eq rfl rfl rfl (congrArg Value.bool hc442)).trans rfl) (fun w hst => x_tostr Try.underlying22 Try.underlying9 Try.underlying5 rfl (Src.of_rd hst f453 flat_int))) ?_
        refine ws_q (v := .bool (!(sEq (toStr x415.Val) (toStr x426.Val)))) 25 [26] (by kernel_rfl) rfl rfl (yi_run ((wanted_eq rfl rfl rfl (congrArg Value.bool hc442)).trans rfl) (fun w hst => by kernel_rfl)) ?_
        refine ws_q (v := .bool (!(sEq (toStr x415.Val) (toStr x426.Val)))) 26 [] (by kernel_rfl) rfl rfl (yi_run rfl (fun w hst => x_pick_f hc442 rfl rfl)) ?_
        refine ws_nil ?_
        intro w hst
        refine then_n ?_
        refine bsplit (!(sEq (toStr x415.Val) (toStr x426.Val))) (fun hc455 => ?_) (fun hc455 => ?_)
        · skip
          replace hm := bif_t hc455 hm
          refine wp_ift (congrArg Value.bool hc455) ?_
          refine wp_seq ?_
          refine wp_region_lit ?_
          refine wl_val (v := .bool false) rfl rfl rfl ?_
          refine wl_nil ?_
          refine then_n ?_
          refine wp_ret ?_
          refine blk_r ?_
          refine then_r ?_
          refine then_r ?_
          replace hm := inr_up hm hx412
          refine blk_r ?_
          refine then_r ?_
          obtain rfl := some_inj hm
          refine post_ret (vs := [.bool false]) Try.results51 (rvs_cons (rv_tmp rfl) rvs_nil) ?_
          exact ⟨rfl, hst.keep0⟩
        · skip
          replace hm := bif_f hc455 hm
          refine wp_iff (congrArg Value.bool hc455) ?_
          refine wp_skip ?_
          refine blk_n ?_
          refine then_n ?_
          refine wp_region_lit ?_
          refine wl_val (v := .int .i64 z405) rfl rfl rfl ?_
          refine wl_val (v := .int .i64 (IntKind.i64.wrap (z405 + (1:Int)))) rfl rfl rfl ?_
          refine wl_val (v := .int .i64 (IntKind.i64.wrap (z405 + (1:Int)))) rfl rfl rfl ?_
          refine wl_nil ?_
          refine then_n ?_
          replace hst := hst.keep0
          obtain rfl := some_inj hm
          exact ⟨_, Nat.lt_succ_self _, (IntKind.i64.wrap (z405 + (1:Int))), _, hx412, ((fr_upd (t := 0) (v := r0_0) rfl).trans ((fr_upd (t := 1) (v := r1_0) rfl).trans ((fr_upd (t := 5) (v := .int .i64 (IntKind.i64.wrap (z405 + (1:Int)))) rfl).trans rfl))), hst⟩
    · skip
      replace hm := bif_f hc414 hm
      refine wp_iff (congrArg Value.bool hc414) ?_
      refine wp_exit ?_
      refine then_x ?_
      refine then_x ?_
      replace hm := inr_up hm hx412
      refine blk_x ?_
      refine then_n ?_
      refine wp_seq ?_
      refine wp_region_lit ?_
      refine wl_val (v := .bool true) rfl rfl rfl ?_
      refine wl_nil ?_
      refine then_n ?_
      refine wp_ret ?_
      obtain rfl := some_inj hm
      refine post_ret (vs := [.bool true]) Try.results51 (rvs_cons (rv_tmp rfl) rvs_nil) ?_
      exact ⟨rfl, hst.keep0⟩

theorem ref11_SameReply_ref {w0 w : World} {I : HL} {R : SP} {a0 : api_Reply} {r0_0 : Value} {r0_1 : Value} {a1 : api_Reply} {r1_0 : Value} {r1_1 : Value} (f0_0 : Rd ty_api_Got R I r0_0 a0.Gots) (f0_1 : Rd (tySl ty_api_Pair) R I r0_1 a0.Scans) (f1_0 : Rd ty_api_Got R I r1_0 a1.Gots) (f1_1 : Rd (tySl ty_api_Pair) R I r1_1 a1.Scans) (hst : St w0 w I [] R) {r : (Bool)} (hm : ref11_SameReply a0 a1 = some r) :
    Calls Try.prog 19 #[.agg #[.int .i64 a0.E, .int .u64 a0.Epoch, .int .u64 a0.Index, r0_0, r0_1], .agg #[.int .i64 a1.E, .int .u64 a1.Epoch, .int .u64 a1.Index, r1_0, r1_1]] w fun e w' => e = .returned (.bool r) ∧ St w0 w' I [] R := by
  unfold ref11_SameReply at hm
  refine calls_start (args := [.agg #[.int .i64 a0.E, .int .u64 a0.Epoch, .int .u64 a0.Index, r0_0, r0_1], .agg #[.int .i64 a1.E, .int .u64 a1.Epoch, .int .u64 a1.Index, r1_0, r1_1]]) Try.func19 rfl Try.ntmps19 (Nat.le_of_ble_eq_true rfl) ?_
  refine wp_seq ?_
  refine wp_region_lit ?_
  obtain ⟨b278, w279, ew280, eb281, hst⟩ := hst.box [.int .i64 a0.E, .int .u64 a0.Epoch, .int .u64 a0.Index, r0_0, r0_1] 39
  refine wl_run (v := .pointer (some ⟨b278, 0, none⟩)) (w' := w279) rfl rfl (x_al (by kernel_rfl) ew280 eb281) ?_
  obtain ⟨b283, w284, ew285, eb286, hst⟩ := hst.box [.int .i64 a1.E, .int .u64 a1.Epoch, .int .u64 a1.Index, r1_0, r1_1] 39
  refine wl_run (v := .pointer (some ⟨b283, 0, none⟩)) (w' := w284) rfl rfl (x_al (by kernel_rfl) ew285 eb286) ?_
  refine wl_val (v := .bool false) rfl rfl rfl ?_
  refine wl_nil ?_
  refine then_n ?_
  refine wp_seq ?_
  refine wp_seq ?_
  refine wp_region_lit ?_
  refine wl_val (v := .pointer (some ⟨b278, 0, none⟩)) rfl rfl (x_field rfl Try.underlying39 rfl Try.sizeOf30 rfl) ?_
  refine wl_val (v := .int .i64 a0.E) rfl rfl (x_load rfl Try.isAgg30 (hst.bc1 rfl)) ?_
  refine wl_val (v := .pointer (some ⟨b283, 0, none⟩)) rfl rfl (x_field rfl Try.underlying39 rfl Try.sizeOf30 rfl) ?_
  refine wl_val (v := .int .i64 a1.E) rfl rfl (x_load rfl Try.isAgg30 (hst.bc0 rfl)) ?_
  refine wl_val (v := .bool (a0.E != a1.E)) rfl rfl rfl ?_
  refine wl_val (v := .bool (a0.E != a1.E)) rfl rfl rfl ?_
  refine bsplit (a0.E != a1.E) (fun hc288 => ?_) (fun hc288 => ?_)
  · skip
    replace hm := bif_t hc288 hm
    refine wl_off ((wanted_eq rfl rfl rfl (congrArg Value.bool hc288)).trans rfl) rfl ?_
    refine wl_off ((wanted_eq rfl rfl rfl (congrArg Value.bool hc288)).trans rfl) rfl ?_
    refine wl_off ((wanted_eq rfl rfl rfl (congrArg Value.bool hc288)).trans rfl) rfl ?_
    refine wl_off ((wanted_eq rfl rfl rfl (congrArg Value.bool hc288)).trans rfl) rfl ?_
    refine wl_off ((wanted_eq rfl rfl rfl (congrArg Value.bool hc288)).trans rfl) rfl ?_
    refine wl_val (v := .bool true) rfl rfl (x_pick_t hc288 rfl rfl) ?_
    refine wl_val (v := .bool true) rfl rfl rfl ?_
    refine wl_off ((wanted_eq rfl rfl rfl rfl).trans rfl) rfl ?_
    refine wl_off ((wanted_eq rfl rfl rfl rfl).trans rfl) rfl ?_
    refine wl_off ((wanted_eq rfl rfl rfl rfl).trans rfl) rfl ?_
    refine wl_off ((wanted_eq rfl rfl rfl rfl).trans rfl) rfl ?_
    refine wl_off ((wanted_eq rfl rfl rfl rfl).trans rfl) rfl ?_
    refine wl_val (v := .bool true) rfl rfl (x_pick_t rfl rfl rfl) ?_
    refine wl_val (v := .bool true) rfl rfl rfl ?_
    refine wl_off ((wanted_eq rfl rfl rfl rfl).trans rfl) rfl ?_
    refine wl_off ((wanted_eq rfl rfl rfl rfl).trans rfl) rfl ?_
    refine wl_off ((wanted_eq rfl rfl rfl rfl).trans rfl) rfl ?_
    refine wl_off ((wanted_eq rfl rfl rfl rfl).trans rfl) rfl ?_
    refine wl_off ((wanted_eq rfl rfl rfl rfl).trans rfl) rfl ?_
    refine wl_off ((wanted_eq rfl rfl rfl rfl).trans rfl) rfl ?_
    refine wl_val (v := .bool true) rfl rfl (x_pick_t rfl rfl rfl) ?_
    refine wl_val (v := .bool true) rfl rfl rfl ?_
    refine wl_off ((wanted_eq rfl rfl rfl rfl).trans rfl) rfl ?_
    refine wl_off ((wanted_eq rfl rfl rfl rfl).trans rfl) rfl ?_
    refine wl_off ((wanted_eq rfl rfl rfl rfl).trans rfl) rfl ?_
    refine wl_off ((wanted_eq rfl rfl rfl rfl).trans rfl) rfl ?_
    refine wl_off ((wanted_eq rfl rfl rfl rfl).trans rfl) rfl ?_
    refine wl_off ((wanted_eq rfl rfl rfl rfl).trans rfl) rfl ?_
    refine wl_off ((wanted_eq rfl rfl rfl rfl).trans rfl) rfl ?_
    refine wl_val (v := .bool true) rfl rfl (x_pick_t rfl rfl rfl) ?_
    refine wl_nil ?_
    refine then_n ?_
    refine wp_ift rfl ?_
    refine wp_seq ?_
    refine wp_region_lit ?_
    refine wl_val (v := .bool false) rfl rfl rfl ?_
    refine wl_nil ?_
    refine then_n ?_
    refine wp_ret ?_
    refine then_r ?_
    obtain rfl := some_inj hm
    refine post_ret (vs := [.bool false]) Try.results19 (rvs_cons (rv_tmp rfl) rvs_nil) ?_
    exact ⟨rfl, hst.keep0⟩
  · skip
    replace hm := bif_f hc288 hm
    refine wl_val (v := .pointer (some ⟨b278, 1, none⟩)) ((wanted_eq rfl rfl rfl (congrArg Value.bool hc288)).trans rfl) rfl (x_field rfl Try.underlying39 rfl Try.sizeOf27 rfl) ?_
    refine wl_val (v := .int .u64 a0.Epoch) ((wanted_eq rfl rfl rfl (congrArg Value.bool hc288)).trans rfl) rfl (x_load rfl Try.isAgg27 (hst.bc1 rfl)) ?_
    refine wl_val (v := .pointer (some ⟨b283, 1, none⟩)) ((wanted_eq rfl rfl rfl (congrArg Value.bool hc288)).trans rfl) rfl (x_field rfl Try.underlying39 rfl Try.sizeOf27 rfl) ?_
    refine wl_val (v := .int .u64 a1.Epoch) ((wanted_eq rfl rfl rfl (congrArg Value.bool hc288)).trans rfl) rfl (x_load rfl Try.isAgg27 (hst.bc0 rfl)) ?_
    refine wl_val (v := .bool (a0.Epoch != a1.Epoch)) ((wanted_eq rfl rfl rfl (congrArg Value.bool hc288)).trans rfl) rfl rfl ?_
    refine wl_val (v := .bool (a0.Epoch != a1.Epoch)) rfl rfl (x_pick_f hc288 rfl rfl) ?_
    refine wl_val (v := .bool (a0.Epoch != a1.Epoch)) rfl rfl rfl ?_
    refine bsplit (a0.Epoch != a1.Epoch) (fun hc289 => ?_) (fun hc289 => ?_)
    · skip
      replace hm := bif_t hc289 hm
      refine wl_off ((wanted_eq rfl rfl rfl (congrArg Value.bool hc289)).trans rfl) rfl ?_
      refine wl_off ((wanted_eq rfl rfl rfl (congrArg Value.bool hc289)).trans rfl) rfl ?_
      refine wl_off ((wanted_eq rfl rfl rfl (congrArg Value.bool hc289)).trans rfl) rfl ?_
      refine wl_off ((wanted_eq rfl rfl rfl (congrArg Value.bool hc289)).trans rfl) rfl ?_
      refine wl_off ((wanted_eq rfl rfl rfl (congrArg Value.bool hc289)).trans rfl) rfl ?_
      refine wl_val (v := .bool true) rfl rfl (x_pick_t hc289 rfl rfl) ?_
      refine wl_val (v := .bool true) rfl rfl rfl ?_
      refine wl_off ((wanted_eq rfl rfl rfl rfl).trans rfl) rfl ?_
      refine wl_off ((wanted_eq rfl rfl rfl rfl).trans rfl) rfl ?_
      refine wl_off ((wanted_eq rfl rfl rfl rfl).trans rfl) rfl ?_
      refine wl_off ((wanted_eq rfl rfl rfl rfl).trans rfl) rfl ?_
      refine wl_off ((wanted_eq rfl rfl rfl rfl).trans rfl) rfl ?_
      refine wl_off ((wanted_eq rfl rfl rfl rfl).trans rfl) rfl ?_
      refine wl_val (v := .bool true) rfl rfl (x_pick_t rfl rfl rfl) ?_
      refine wl_val (v := .bool true) rfl rfl rfl ?_
      refine wl_off ((wanted_eq rfl rfl rfl rfl).trans rfl) rfl ?_
      refine wl_off ((wanted_eq rfl rfl rfl rfl).trans rfl) rfl ?_
      refine wl_off ((wanted_eq rfl rfl rfl rfl).trans rfl) rfl ?_
      refine wl_off ((wanted_eq rfl rfl rfl rfl).trans rfl) rfl ?_
      refine wl_off ((wanted_eq rfl rfl rfl rfl).trans rfl) rfl ?_
      refine wl_off ((wanted_eq rfl rfl rfl rfl).trans rfl) rfl ?_
      refine wl_off ((wanted_eq rfl rfl rfl rfl).trans rfl) rfl ?_
      refine wl_val (v := .bool true) rfl rfl (x_pick_t rfl rfl rfl) ?_
      refine wl_nil ?_
      refine then_n ?_
      refine wp_ift rfl ?_
      refine wp_seq ?_
      refine wp_region_lit ?_
      refine wl_val (v := .bool false) rfl rfl rfl ?_
      refine wl_nil ?_
      refine then_n ?_
      refine wp_ret ?_
      refine then_r ?_
      obtain rfl := some_inj hm
      refine post_ret (vs := [.bool false]) Try.results19 (rvs_cons (rv_tmp rfl) rvs_nil) ?_
      exact ⟨rfl, hst.keep0⟩
    · skip
      replace hm := bif_f hc289 hm
      refine wl_val (v := .pointer (some ⟨b278, 2, none⟩)) ((wanted_eq rfl rfl rfl (congrArg Value.bool hc289)).trans rfl) rfl (x_field rfl Try.underlying39 rfl Try.sizeOf27 rfl) ?_
      refine wl_val (v := .int .u64 a0.Index) ((wanted_eq rfl rfl rfl (congrArg Value.bool hc289)).trans rfl) rfl (x_load rfl Try.isAgg27 (hst.bc1 rfl)) ?_
      refine wl_val (v := .pointer (some ⟨b283, 2, none⟩)) ((wanted_eq rfl rfl rfl (congrArg Value.bool hc289)).trans rfl) rfl (x_field rfl Try.underlying39 rfl Try.sizeOf27 rfl) ?_
      refine wl_val (v := .int .u64 a1.Index) ((wanted_eq rfl rfl rfl (congrArg Value.bool hc289)).trans rfl) rfl (x_load rfl Try.isAgg27 (hst.bc0 rfl)) ?_
      refine wl_val (v := .bool (a0.Index != a1.Index)) ((wanted_eq rfl rfl rfl (congrArg Value.bool hc289)).trans rfl) rfl rfl ?_
      refine wl_val (v := .bool (a0.Index != a1.Index)) rfl rfl (x_pick_f hc289 rfl rfl) ?_
      refine wl_val (v := .bool (a0.Index != a1.Index)) rfl rfl rfl ?_
      refine bsplit (a0.Index != a1.Index) (fun hc290 => ?_) (fun hc290 => ?_)
      · skip
        replace hm := bif_t hc290 hm
        refine wl_off ((wanted_eq rfl rfl rfl (congrArg Value.bool hc290)).trans rfl) rfl ?_
        refine wl_off ((wanted_eq rfl rfl rfl (congrArg Value.bool hc290)).trans rfl) rfl ?_
        refine wl_off ((wanted_eq rfl rfl rfl (congrArg Value.bool hc290)).trans rfl) rfl ?_
        refine wl_off ((wanted_eq rfl rfl rfl (congrArg Value.bool hc290)).trans rfl) rfl ?_
        refine wl_off ((wanted_eq rfl rfl rfl (congrArg Value.bool hc290)).trans rfl) rfl ?_
        refine wl_off ((wanted_eq rfl rfl rfl (congrArg Value.bool hc290)).trans rfl) rfl ?_
        refine wl_val (v := .bool true) rfl rfl (x_pick_t hc290 rfl rfl) ?_
        refine wl_val (v := .bool true) rfl rfl rfl ?_
        refine wl_off ((wanted_eq rfl rfl rfl rfl).trans rfl) rfl ?_
        refine wl_off ((wanted_eq rfl rfl rfl rfl).trans rfl) rfl ?_
        refine wl_off ((wanted_eq rfl rfl rfl rfl).trans rfl) rfl ?_
        refine wl_off ((wanted_eq rfl rfl rfl rfl).trans rfl) rfl ?_
        refine wl_off ((wanted_eq rfl rfl rfl rfl).trans rfl) rfl ?_
        refine wl_off ((wanted_eq rfl rfl rfl rfl).trans rfl) rfl ?_
        refine wl_off ((wanted_eq rfl rfl rfl rfl).trans rfl) rfl ?_
        refine wl_val (v := .bool true) rfl rfl (x_pick_t rfl rfl rfl) ?_
        refine wl_nil ?_
        refine then_n ?_
        refine wp_ift rfl ?_
        refine wp_seq ?_
        refine wp_region_lit ?_
        refine wl_val (v := .bool false) rfl rfl rfl ?_
        refine wl_nil ?_
        refine then_n ?_
        refine wp_ret ?_
        refine then_r ?_
        obtain rfl := some_inj hm
        refine post_ret (vs := [.bool false]) Try.results19 (rvs_cons (rv_tmp rfl) rvs_nil) ?_
        exact ⟨rfl, hst.keep0⟩
      · skip
        replace hm := bif_f hc290 hm
        refine wl_val (v := .pointer (some ⟨b278, 3, none⟩)) ((wanted_eq rfl rfl rfl (congrArg Value.bool hc290)).trans rfl) rfl (x_field rfl Try.underlying39 rfl Try.sizeOf36 rfl) ?_
        refine wl_val (v := r0_0) ((wanted_eq rfl rfl rfl (congrArg Value.bool hc290)).trans rfl) rfl (x_load rfl Try.isAgg36 (hst.bc1 rfl)) ?_
        refine wl_val (v := .pointer (some ⟨b283, 3, none⟩)) ((wanted_eq rfl rfl rfl (congrArg Value.bool hc290)).trans rfl) rfl (x_field rfl Try.underlying39 rfl Try.sizeOf36 rfl) ?_
        refine wl_val (v := r1_0) ((wanted_eq rfl rfl rfl (congrArg Value.bool hc290)).trans rfl) rfl (x_load rfl Try.isAgg36 (hst.bc0 rfl)) ?_
        obtain ⟨t291, ht292, hm⟩ := bind_some hm
        refine wl_call ((wanted_eq rfl rfl rfl (congrArg Value.bool hc290)).trans rfl) rfl (x_call Try.call50 rfl (vs := [r0_0, r1_0]) rfl) ?_
        refine (ref11_SameGots_ref (f0_0.mono (rd_weak _)) (f1_0.mono (rd_weak _)) hst.to0 ht292).mono ?_
        rintro _ w293 ⟨rfl, hst⟩
        refine ⟨_, rfl, ?_⟩
        replace hst := hst.of0
        refine wl_val (v := .bool (!t291)) ((wanted_eq rfl rfl rfl (congrArg Value.bool hc290)).trans rfl) rfl rfl ?_
        refine wl_val (v := .bool (!t291)) rfl rfl (x_pick_f hc290 rfl rfl) ?_
        refine wl_val (v := .bool (!t291)) rfl rfl rfl ?_
        refine bsplit (!t291) (fun hc296 => ?_) (fun hc296 => ?_)
        · skip
          replace hm := bif_t hc296 hm
          refine wl_off ((wanted_eq rfl rfl rfl (congrArg Value.bool hc296)).trans rfl) rfl ?_
          refine wl_off ((wanted_eq rfl rfl rfl (congrArg Value.bool hc296)).trans rfl) rfl ?_
          refine wl_off ((wanted_eq rfl rfl rfl (congrArg Value.bool hc296)).trans rfl) rfl ?_
          refine wl_off ((wanted_eq rfl rfl rfl (congrArg Value.bool hc296)).trans rfl) rfl ?_
          refine wl_off ((wanted_eq rfl rfl rfl (congrArg Value.bool hc296)).trans rfl) rfl ?_
          refine wl_off ((wanted_eq rfl rfl rfl (congrArg Value.bool hc296)).trans rfl) rfl ?_
          refine wl_off ((wanted_eq rfl rfl rfl (congrArg Value.bool hc296)).trans rfl) rfl ?_
          refine wl_val (v := .bool true) rfl rfl (x_pick_t hc296 rfl rfl) ?_
          refine wl_nil ?_
          refine then_n ?_
          refine wp_ift rfl ?_
          refine wp_seq ?_
          refine wp_region_lit ?_
          refine wl_val (v := .bool false) rfl rfl rfl ?_
          refine wl_nil ?_
          refine then_n ?_
          refine wp_ret ?_
          refine then_r ?_
          obtain rfl := some_inj hm
          refine post_ret (vs := [.bool false]) Try.results19 (rvs_cons (rv_tmp rfl) rvs_nil) ?_
          exact ⟨rfl, hst.keep0⟩
        · skip
          replace hm := bif_f hc296 hm
          refine wl_val (v := .pointer (some ⟨b278, 4, none⟩)) ((wanted_eq rfl rfl rfl (congrArg Value.bool hc296)).trans rfl) rfl (x_field rfl Try.underlying39 rfl Try.sizeOf37 rfl) ?_
          refine wl_val (v := r0_1) ((wanted_eq rfl rfl rfl (congrArg Value.bool hc296)).trans rfl) rfl (x_load rfl Try.isAgg37 (hst.bc1 rfl)) ?_
          refine wl_val (v := .int .i64 ((a0.Scans).length : Int)) ((wanted_eq rfl rfl rfl (congrArg Value.bool hc296)).trans rfl) rfl (x_len rfl Try.underlying37 (rd_sliceV f0_1)) ?_
          refine wl_val (v := .pointer (some ⟨b283, 4, none⟩)) ((wanted_eq rfl rfl rfl (congrArg Value.bool hc296)).trans rfl) rfl (x_field rfl Try.underlying39 rfl Try.sizeOf37 rfl) ?_
          refine wl_val (v := r1_1) ((wanted_eq rfl rfl rfl (congrArg Value.bool hc296)).trans rfl) rfl (x_load rfl Try.isAgg37 (hst.bc0 rfl)) ?_
          refine wl_val (v := .int .i64 ((a1.Scans).length : Int)) ((wanted_eq rfl rfl rfl (congrArg Value.bool hc296)).trans rfl) rfl (x_len rfl Try.underlying37 (rd_sliceV f1_1)) ?_
          refine wl_val (v := .bool (((a0.Scans).length : Int) != ((a1.Scans).length : Int))) ((wanted_eq rfl rfl rfl (congrArg Value.bool hc296)).trans rfl) rfl rfl ?_
          refine wl_val (v := .bool (((a0.Scans).length : Int) != ((a1.Scans).length : Int))) rfl rfl (x_pick_f hc296 rfl rfl) ?_
          refine wl_nil ?_
          refine then_n ?_
          refine bsplit (((a0.Scans).length : Int) != ((a1.Scans).length : Int)) (fun hc297 => ?_) (fun hc297 => ?_)
          · skip
            replace hm := bif_t hc297 hm
            refine wp_ift (congrArg Value.bool hc297) ?_
            refine wp_seq ?_
            refine wp_region_lit ?_
            refine wl_val (v := .bool false) rfl rfl rfl ?_
            refine wl_nil ?_
            refine then_n ?_
            refine wp_ret ?_
            refine then_r ?_
            obtain rfl := some_inj hm
            refine post_ret (vs := [.bool false]) Try.results19 (rvs_cons (rv_tmp rfl) rvs_nil) ?_
            exact ⟨rfl, hst.keep0⟩
          · skip
            replace hm := bif_f hc297 hm
            refine wp_iff (congrArg Value.bool hc297) ?_
            refine wp_skip ?_
            refine then_n ?_
            refine wp_seq ?_
            refine wp_seq ?_
            refine wp_region_lit ?_
            refine wl_val (v := .int .i64 (0:Int)) rfl rfl rfl ?_
            refine wl_nil ?_
            refine then_n ?_
            refine wp_block ?_
            obtain ⟨n359, hm⟩ := loopO_some hm
            refine wp_loop_n (fun n a w => ∃ (z357 : Int) (σ358 : Nat → Value), loopN (ref11_SameReply_l0 a0 a1) n z357 = some r ∧ a = Fr 61 (upd (upd (upd σ358 2 (.pointer (some ⟨b278, 0, none⟩))) 3 (.pointer (some ⟨b283, 0, none⟩))) 5 (.int .i64 z357)) ∧ St w0 w I [cells b283 [.int .i64 a1.E, .int .u64 a1.Epoch, .int .u64 a1.Index, r1_0, r1_1], cells b278 [.int .i64 a0.E, .int .u64 a0.Epoch, .int .u64 a0.Index, r0_0, r0_1]] R) n359 ⟨(0:Int), _, hm, ((fr_upd (t := 2) (v := .pointer (some ⟨b278, 0, none⟩)) rfl).trans ((fr_upd (t := 3) (v := .pointer (some ⟨b283, 0, none⟩)) rfl).trans ((fr_upd (t := 5) (v := .int .i64 (0:Int)) rfl).trans rfl))), hst⟩ ?_
            rintro n365 _ w360 ⟨z357, σ358, hm, rfl, hst⟩
            obtain ⟨n362, y363, rfl, hm, hx364⟩ := loopN_some hm
            dsimp only [ref11_SameReply_l0] at hm
            refine wp_seq ?_
            refine wp_seq ?_
            refine wp_region_lit ?_
            refine wl_val (v := .int .i64 z357) rfl rfl rfl ?_
            refine wl_val (v := .pointer (some ⟨b278, 4, none⟩)) rfl rfl (x_field rfl Try.underlying39 rfl Try.sizeOf37 rfl) ?_
            refine wl_val (v := r0_1) rfl rfl (x_load rfl Try.isAgg37 (hst.bc1 rfl)) ?_
            refine wl_val (v := .int .i64 ((a0.Scans).length : Int)) rfl rfl (x_len rfl Try.underlying37 (rd_sliceV f0_1)) ?_
            refine wl_val (v := .bool (decide (z357 < ((a0.Scans).length : Int)))) rfl rfl rfl ?_
            refine wl_nil ?_
            refine then_n ?_
            refine bsplit (decide (z357 < ((a0.Scans).length : Int))) (fun hc366 => ?_) (fun hc366 => ?_)
            · skip
              replace hm := bif_t hc366 hm
              refine wp_ift (congrArg Value.bool hc366) ?_
              refine wp_skip ?_
              refine then_n ?_
              refine wp_seq ?_
              refine wp_block ?_
              refine wp_seq ?_
              refine wp_region_St hst 12 [0, 1, 2, 3, 4, 5, 6, 7, 8, 9, 10, 11] [0, 1, 0, 7, 15, 0, 32, 0, 224, 480, 1023, 2047] [] rfl (by kernel_rfl) (by kernel_rfl) Try.mixed (by kernel_rfl) ?_
              refine ws_q (v := .pointer (some ⟨b278, 4, none⟩)) 0 [1, 2, 3, 4, 5, 6, 7, 8, 9, 10, 11] (by kernel_rfl) rfl rfl (yi_run rfl (fun w hst => x_field rfl Try.underlying39 rfl Try.sizeOf37 rfl)) ?_
              refine ws_q (v := r0_1) 1 [2, 3, 4, 5, 6, 7, 8, 9, 10, 11] (by kernel_rfl) rfl rfl (yi_run rfl (fun w hst => x_load rfl Try.isAgg37 (hst.bc1 rfl))) ?_
              refine ws_q (v := .int .i64 z357) 2 [3, 4, 5, 6, 7, 8, 9, 10, 11] (by kernel_rfl) rfl rfl (yi_run rfl (fun w hst => rfl)) ?_
              obtain ⟨x367, hx368, hm⟩ := bind_some hm
              obtain ⟨h369, h370, hi371⟩ := geto_some hx368
              refine ws_q (v := .pointer (some (eAddr r0_1 (z357.toNat * 1 + 0)))) 3 [4, 5, 6, 7, 8, 9, 10, 11] (by kernel_rfl) rfl rfl (yi_run rfl (fun w hst => x_index rfl rfl Try.underlying37 Try.sizeOf52 (rd_sliceV f0_1) h369 h370)) ?_
              obtain ⟨cs372, hr373, hc374⟩ := Rd.getF f0_1 hi371
              obtain ⟨v375, rfl, f376, -⟩ := hr373
              refine ws_q (v := v375) 4 [5, 6, 7, 8, 9, 10, 11] (by kernel_rfl) rfl rfl (yi_run rfl (fun w hst => x_load rfl Try.isAgg52 ((hc374 (HL.le.refl _) hst) 0 _ rfl))) ?_
              refine ws_q (v := .pointer (some ⟨b283, 4, none⟩)) 5 [6, 7, 8, 9, 10, 11] (by kernel_rfl) rfl rfl (yi_run rfl (fun w hst => x_field rfl Try.underlying39 rfl Try.sizeOf37 rfl)) ?_
              refine ws_q (v := r1_1) 6 [7, 8, 9, 10, 11] (by kernel_rfl) rfl rfl (yi_run rfl (fun w hst => x_load rfl Try.isAgg37 (hst.bc0 rfl))) ?_
              refine ws_q (v := .int .i64 z357) 7 [8, 9, 10, 11] (by kernel_rfl) rfl rfl (yi_run rfl (fun w hst => rfl)) ?_
              obtain ⟨x378, hx379, hm⟩ := bind_some hm
              obtain ⟨h380, h381, hi382⟩ := geto_some hx379
              refine ws_q (v := .pointer (some (eAddr r1_1 (z357.toNat * 1 + 0)))) 8 [9, 10, 11] (by kernel_rfl) rfl rfl (yi_run rfl (fun w hst => x_index rfl rfl Try.underlying37 Try.sizeOf52 (rd_sliceV f1_1) h380 h381)) ?_
              obtain ⟨cs383, hr384, hc385⟩ := Rd.getF f1_1 hi382
              obtain ⟨v386, rfl, f387, -⟩ := hr384
              refine ws_q (v := v386) 9 [10, 11] (by kernel_rfl) rfl rfl (yi_run rfl (fun w hst => x_load rfl Try.isAgg52 ((hc385 (HL.le.refl _) hst) 0 _ rfl))) ?_
              refine ws_e1 10 (by kernel_rfl) ?_
              refine nxe [11] (by kernel_rfl) rfl rfl ?_
              clear hst
              intro w hst
              obtain ⟨t389, ht390, hm⟩ := bind_some hm
              refine we_call rfl (x_call Try.call51 rfl (vs := [v375, v386]) rfl) ?_
              refine (ref11_SamePairs_ref (f376.mono (rd_weak _)) (f387.mono (rd_weak _)) hst.to0 ht390).mono ?_
              rintro _ w391 ⟨rfl, hst⟩
              refine ⟨_, rfl, ?_⟩
              replace hst := hst.of0
              refine ws_next (pend' := []) hst (by kernel_rfl) pk_nil ?_
              refine ws_q (v := .bool (!t389)) 11 [] (by kernel_rfl) rfl rfl (yi_run rfl (fun w hst => rfl)) ?_
              refine ws_nil ?_
              intro w hst
              refine then_n ?_
              refine bsplit (!t389) (fun hc394 => ?_) (fun hc394 => ?_)
              · skip
                replace hm := bif_t hc394 hm
                refine wp_ift (congrArg Value.bool hc394) ?_
                refine wp_seq ?_
                refine wp_region_lit ?_
                refine wl_val (v := .bool false) rfl rfl rfl ?_
                refine wl_nil ?_
                refine then_n ?_
                refine wp_ret ?_
                refine blk_r ?_
                refine then_r ?_
                refine then_r ?_
                replace hm := inr_up hm hx364
                refine blk_r ?_
                refine then_r ?_
                obtain rfl := some_inj hm
                refine post_ret (vs := [.bool false]) Try.results19 (rvs_cons (rv_tmp rfl) rvs_nil) ?_
                exact ⟨rfl, hst.keep0⟩
              · skip
                replace hm := bif_f hc394 hm
                refine wp_iff (congrArg Value.bool hc394) ?_
                refine wp_skip ?_
                refine blk_n ?_
                refine then_n ?_
                refine wp_region_lit ?_
                refine wl_val (v := .int .i64 z357) rfl rfl rfl ?_
                refine wl_val (v := .int .i64 (IntKind.i64.wrap (z357 + (1:Int)))) rfl rfl rfl ?_
                refine wl_val (v := .int .i64 (IntKind.i64.wrap (z357 + (1:Int)))) rfl rfl rfl ?_
                refine wl_nil ?_
                refine then_n ?_
                replace hst := hst.pull1
                replace hst := hst.pull1
                replace hst := hst.keep2
                obtain rfl := some_inj hm
                exact ⟨_, Nat.lt_succ_self _, (IntKind.i64.wrap (z357 + (1:Int))), _, hx364, ((fr_upd (t := 2) (v := .pointer (some ⟨b278, 0, none⟩)) rfl).trans ((fr_upd (t := 3) (v := .pointer (some ⟨b283, 0, none⟩)) rfl).trans ((fr_upd (t := 5) (v := .int .i64 (IntKind.i64.wrap (z357 + (1:Int)))) rfl).trans rfl))), hst⟩
            · skip
              replace hm := bif_f hc366 hm
              refine wp_iff (congrArg Value.bool hc366) ?_
              refine wp_exit ?_
              refine then_x ?_
              refine then_x ?_
              replace hm := inr_up hm hx364
              refine blk_x ?_
              refine then_n ?_
              refine wp_seq ?_
              refine wp_region_lit ?_
              refine wl_val (v := .bool true) rfl rfl rfl ?_
              refine wl_nil ?_
              refine then_n ?_
              refine wp_ret ?_
              obtain rfl := some_inj hm
              refine post_ret (vs := [.bool true]) Try.results19 (rvs_cons (rv_tmp rfl) rvs_nil) ?_
              exact ⟨rfl, hst.keep0⟩

theorem ref11_SameRule_ref {w0 w : World} {I : HL} {R : SP} {a0 : api_Rule} {a1 : api_Rule}  (hst : St w0 w I [] R) {r : (Bool)} (hm : ref11_SameRule a0 a1 = some r) :
    Calls Try.prog 35 #[.agg #[.int .u64 a0.ID, .int .i64 a0.From, .int .i64 a0.To, .float .f64 a0.Lo, .float .f64 a0.Hi, .int .u64 a0.Authority, .int .i64 a0.Quota], .agg #[.int .u64 a1.ID, .int .i64 a1.From, .int .i64 a1.To, .float .f64 a1.Lo, .float .f64 a1.Hi, .int .u64 a1.Authority, .int .i64 a1.Quota]] w fun e w' => e = .returned (.bool r) ∧ St w0 w' I [] R := by
  unfold ref11_SameRule at hm
  refine calls_start (args := [.agg #[.int .u64 a0.ID, .int .i64 a0.From, .int .i64 a0.To, .float .f64 a0.Lo, .float .f64 a0.Hi, .int .u64 a0.Authority, .int .i64 a0.Quota], .agg #[.int .u64 a1.ID, .int .i64 a1.From, .int .i64 a1.To, .float .f64 a1.Lo, .float .f64 a1.Hi, .int .u64 a1.Authority, .int .i64 a1.Quota]]) Try.func35 rfl Try.ntmps35 (Nat.le_of_ble_eq_true rfl) ?_
  refine wp_seq ?_
  refine wp_region_lit ?_
  obtain ⟨b187, w188, ew189, eb190, hst⟩ := hst.box [.int .u64 a0.ID, .int .i64 a0.From, .int .i64 a0.To, .float .f64 a0.Lo, .float .f64 a0.Hi, .int .u64 a0.Authority, .int .i64 a0.Quota] 43
  refine wl_run (v := .pointer (some ⟨b187, 0, none⟩)) (w' := w188) rfl rfl (x_al (by kernel_rfl) ew189 eb190) ?_
  obtain ⟨b192, w193, ew194, eb195, hst⟩ := hst.box [.int .u64 a1.ID, .int .i64 a1.From, .int .i64 a1.To, .float .f64 a1.Lo, .float .f64 a1.Hi, .int .u64 a1.Authority, .int .i64 a1.Quota] 43
  refine wl_run (v := .pointer (some ⟨b192, 0, none⟩)) (w' := w193) rfl rfl (x_al (by kernel_rfl) ew194 eb195) ?_
  refine wl_val (v := .bool false) rfl rfl rfl ?_
  refine wl_nil ?_
  refine then_n ?_
  refine wp_seq ?_
  refine wp_region_lit ?_
  refine wl_val (v := .pointer (some ⟨b187, 0, none⟩)) rfl rfl (x_field rfl Try.underlying43 rfl Try.sizeOf27 rfl) ?_
  refine wl_val (v := .int .u64 a0.ID) rfl rfl (x_load rfl Try.isAgg27 (hst.bc1 rfl)) ?_
  refine wl_val (v := .pointer (some ⟨b192, 0, none⟩)) rfl rfl (x_field rfl Try.underlying43 rfl Try.sizeOf27 rfl) ?_
  refine wl_val (v := .int .u64 a1.ID) rfl rfl (x_load rfl Try.isAgg27 (hst.bc0 rfl)) ?_
  refine wl_val (v := .bool (a0.ID == a1.ID)) rfl rfl rfl ?_
  refine wl_val (v := .bool (a0.ID == a1.ID)) rfl rfl rfl ?_
  refine bsplit (a0.ID == a1.ID) (fun hc197 => ?_) (fun hc197 => ?_)
  · skip
    replace hm := bif_t hc197 hm
    refine wl_val (v := .pointer (some ⟨b187, 1, none⟩)) ((wanted_eq rfl rfl rfl (congrArg Value.bool hc197)).trans rfl) rfl (x_field rfl Try.underlying43 rfl Try.sizeOf3 rfl) ?_
    refine wl_val (v := .int .i64 a0.From) ((wanted_eq rfl rfl rfl (congrArg Value.bool hc197)).trans rfl) rfl (x_load rfl Try.isAgg3 (hst.bc1 rfl)) ?_
    refine wl_val (v := .pointer (some ⟨b192, 1, none⟩)) ((wanted_eq rfl rfl rfl (congrArg Value.bool hc197)).trans rfl) rfl (x_field rfl Try.underlying43 rfl Try.sizeOf3 rfl) ?_
    refine wl_val (v := .int .i64 a1.From) ((wanted_eq rfl rfl rfl (congrArg Value.bool hc197)).trans rfl) rfl (x_load rfl Try.isAgg3 (hst.bc0 rfl)) ?_
    refine wl_val (v := .bool (a0.From == a1.From)) ((wanted_eq rfl rfl rfl (congrArg Value.bool hc197)).trans rfl) rfl rfl ?_
    refine wl_val (v := .bool (a0.From == a1.From)) rfl rfl (x_pick_t hc197 rfl rfl) ?_
    refine wl_val (v := .bool (a0.From == a1.From)) rfl rfl rfl ?_
    refine bsplit (a0.From == a1.From) (fun hc198 => ?_) (fun hc198 => ?_)
    · skip
      replace hm := bif_t hc198 hm
      refine wl_val (v := .pointer (some ⟨b187, 2, none⟩)) ((wanted_eq rfl rfl rfl (congrArg Value.bool hc198)).trans rfl) rfl (x_field rfl Try.underlying43 rfl Try.sizeOf3 rfl) ?_
      refine wl_val (v := .int .i64 a0.To) ((wanted_eq rfl rfl rfl (congrArg Value.bool hc198)).trans rfl) rfl (x_load rfl Try.isAgg3 (hst.bc1 rfl)) ?_
      refine wl_val (v := .pointer (some ⟨b192, 2, none⟩)) ((wanted_eq rfl rfl rfl (congrArg Value.bool hc198)).trans rfl) rfl (x_field rfl Try.underlying43 rfl Try.sizeOf3 rfl) ?_
      refine wl_val (v := .int .i64 a1.To) ((wanted_eq rfl rfl rfl (congrArg Value.bool hc198)).trans rfl) rfl (x_load rfl Try.isAgg3 (hst.bc0 rfl)) ?_
      refine wl_val (v := .bool (a0.To == a1.To)) ((wanted_eq rfl rfl rfl (congrArg Value.bool hc198)).trans rfl) rfl rfl ?_
      refine wl_val (v := .bool (a0.To == a1.To)) rfl rfl (x_pick_t hc198 rfl rfl) ?_
      refine wl_val (v := .bool (a0.To == a1.To)) rfl rfl rfl ?_
      refine bsplit (a0.To == a1.To) (fun hc199 => ?_) (fun hc199 => ?_)
      · skip
        replace hm := bif_t hc199 hm
        refine wl_val (v := .pointer (some ⟨b187, 3, none⟩)) ((wanted_eq rfl rfl rfl (congrArg Value.bool hc199)).trans rfl) rfl (x_field rfl Try.underlying43 rfl Try.sizeOf41 rfl) ?_
        refine wl_val (v := .float .f64 a0.Lo) ((wanted_eq rfl rfl rfl (congrArg Value.bool hc199)).trans rfl) rfl (x_load rfl Try.isAgg41 (hst.bc1 rfl)) ?_
        refine wl_val (v := .pointer (some ⟨b192, 3, none⟩)) ((wanted_eq rfl rfl rfl (congrArg Value.bool hc199)).trans rfl) rfl (x_field rfl Try.underlying43 rfl Try.sizeOf41 rfl) ?_
        refine wl_val (v := .float .f64 a1.Lo) ((wanted_eq rfl rfl rfl (congrArg Value.bool hc199)).trans rfl) rfl (x_load rfl Try.isAgg41 (hst.bc0 rfl)) ?_
        obtain ⟨t200, ht201, hm⟩ := bind_some hm
        refine wl_call ((wanted_eq rfl rfl rfl (congrArg Value.bool hc199)).trans rfl) rfl (x_call Try.call62 rfl (vs := [.float .f64 a0.Lo, .float .f64 a1.Lo]) rfl) ?_
        refine (ref01_Same_ref hst.to0 ht201).mono ?_
        rintro _ w202 ⟨rfl, hst⟩
        refine ⟨_, rfl, ?_⟩
        replace hst := hst.of0
        refine wl_val (v := .bool t200) rfl rfl (x_pick_t hc199 rfl rfl) ?_
        refine wl_val (v := .bool t200) rfl rfl rfl ?_
        refine bsplit t200 (fun hc205 => ?_) (fun hc205 => ?_)
        · skip
          replace hm := bif_t hc205 hm
          refine wl_val (v := .pointer (some ⟨b187, 4, none⟩)) ((wanted_eq rfl rfl rfl (congrArg Value.bool hc205)).trans rfl) rfl (x_field rfl Try.underlying43 rfl Try.sizeOf41 rfl) ?_
          refine wl_val (v := .float .f64 a0.Hi) ((wanted_eq rfl rfl rfl (congrArg Value.bool hc205)).trans rfl) rfl (x_load rfl Try.isAgg41 (hst.bc1 rfl)) ?_
          refine wl_val (v := .pointer (some ⟨b192, 4, none⟩)) ((wanted_eq rfl rfl rfl (congrArg Value.bool hc205)).trans rfl) rfl (x_field rfl Try.underlying43 rfl Try.sizeOf41 rfl) ?_
          refine wl_val (v := .float .f64 a1.Hi) ((wanted_eq rfl rfl rfl (congrArg Value.bool hc205)).trans rfl) rfl (x_load rfl Try.isAgg41 (hst.bc0 rfl)) ?_
          obtain ⟨t206, ht207, hm⟩ := bind_some hm
          refine wl_call ((wanted_eq rfl rfl rfl (congrArg Value.bool hc205)).trans rfl) rfl (x_call Try.call62 rfl (vs := [.float .f64 a0.Hi, .float .f64 a1.Hi]) rfl) ?_
          refine (ref01_Same_ref hst.to0 ht207).mono ?_
          rintro _ w208 ⟨rfl, hst⟩
          refine ⟨_, rfl, ?_⟩
          replace hst := hst.of0
          refine wl_val (v := .bool t206) rfl rfl (x_pick_t hc205 rfl rfl) ?_
          refine wl_val (v := .bool t206) rfl rfl rfl ?_
          refine bsplit t206 (fun hc211 => ?_) (fun hc211 => ?_)
          · skip
            replace hm := bif_t hc211 hm
            refine wl_val (v := .pointer (some ⟨b187, 5, none⟩)) ((wanted_eq rfl rfl rfl (congrArg Value.bool hc211)).trans rfl) rfl (x_field rfl Try.underlying43 rfl Try.sizeOf27 rfl) ?_
            refine wl_val (v := .int .u64 a0.Authority) ((wanted_eq rfl rfl rfl (congrArg Value.bool hc211)).trans rfl) rfl (x_load rfl Try.isAgg27 (hst.bc1 rfl)) ?_
            refine wl_val (v := .pointer (some ⟨b192, 5, none⟩)) ((wanted_eq rfl rfl rfl (congrArg Value.bool hc211)).trans rfl) rfl (x_field rfl Try.underlying43 rfl Try.sizeOf27 rfl) ?_
            refine wl_val (v := .int .u64 a1.Authority) ((wanted_eq rfl rfl rfl (congrArg Value.bool hc211)).trans rfl) rfl (x_load rfl Try.isAgg27 (hst.bc0 rfl)) ?_
            refine wl_val (v := .bool (a0.Authority == a1.Authority)) ((wanted_eq rfl rfl rfl (congrArg Value.bool hc211)).trans rfl) rfl rfl ?_
            refine wl_val (v := .bool (a0.Authority == a1.Authority)) rfl rfl (x_pick_t hc211 rfl rfl) ?_
            refine wl_val (v := .bool (a0.Authority == a1.Authority)) rfl rfl rfl ?_
            refine bsplit (a0.Authority == a1.Authority) (fun hc212 => ?_) (fun hc212 => ?_)
            · skip
              replace hm := bif_t hc212 hm
              refine wl_val (v := .pointer (some ⟨b187, 6, none⟩)) ((wanted_eq rfl rfl rfl (congrArg Value.bool hc212)).trans rfl) rfl (x_field rfl Try.underlying43 rfl Try.sizeOf3 rfl) ?_
              refine wl_val (v := .int .i64 a0.Quota) ((wanted_eq rfl rfl rfl (congrArg Value.bool hc212)).trans rfl) rfl (x_load rfl Try.isAgg3 (hst.bc1 rfl)) ?_
              refine wl_val (v := .pointer (some ⟨b192, 6, none⟩)) ((wanted_eq rfl rfl rfl (congrArg Value.bool hc212)).trans rfl) rfl (x_field rfl Try.underlying43 rfl Try.sizeOf3 rfl) ?_
              refine wl_val (v := .int .i64 a1.Quota) ((wanted_eq rfl rfl rfl (congrArg Value.bool hc212)).trans rfl) rfl (x_load rfl Try.isAgg3 (hst.bc0 rfl)) ?_
              refine wl_val (v := .bool (a0.Quota == a1.Quota)) ((wanted_eq rfl rfl rfl (congrArg Value.bool hc212)).trans rfl) rfl rfl ?_
              refine wl_val (v := .bool (a0.Quota == a1.Quota)) rfl rfl (x_pick_t hc212 rfl rfl) ?_
              refine wl_val (v := .bool (a0.Quota == a1.Quota)) rfl rfl rfl ?_
              refine wl_nil ?_
              refine then_n ?_
              refine wp_ret ?_
              obtain rfl := some_inj hm
              refine post_ret (vs := [.bool (a0.Quota == a1.Quota)]) Try.results35 (rvs_cons (rv_tmp rfl) rvs_nil) ?_
              exact ⟨rfl, hst.keep0⟩
            · skip
              replace hm := bif_f hc212 hm
              refine wl_off ((wanted_eq rfl rfl rfl (congrArg Value.bool hc212)).trans rfl) rfl ?_
              refine wl_off ((wanted_eq rfl rfl rfl (congrArg Value.bool hc212)).trans rfl) rfl ?_
              refine wl_off ((wanted_eq rfl rfl rfl (congrArg Value.bool hc212)).trans rfl) rfl ?_
              refine wl_off ((wanted_eq rfl rfl rfl (congrArg Value.bool hc212)).trans rfl) rfl ?_
              refine wl_off ((wanted_eq rfl rfl rfl (congrArg Value.bool hc212)).trans rfl) rfl ?_
              refine wl_val (v := .bool false) rfl rfl (x_pick_f hc212 rfl rfl) ?_
              refine wl_val (v := .bool false) rfl rfl rfl ?_
              refine wl_nil ?_
              refine then_n ?_
              refine wp_ret ?_
              obtain rfl := some_inj hm
              refine post_ret (vs := [.bool false]) Try.results35 (rvs_cons (rv_tmp rfl) rvs_nil) ?_
              exact ⟨rfl, hst.keep0⟩
          · skip
            replace hm := bif_f hc211 hm
            refine wl_off ((wanted_eq rfl rfl rfl (congrArg Value.bool hc211)).trans rfl) rfl ?_
            refine wl_off ((wanted_eq rfl rfl rfl (congrArg Value.bool hc211)).trans rfl) rfl ?_
            refine wl_off ((wanted_eq rfl rfl rfl (congrArg Value.bool hc211)).trans rfl) rfl ?_
            refine wl_off ((wanted_eq rfl rfl rfl (congrArg Value.bool hc211)).trans rfl) rfl ?_
            refine wl_off ((wanted_eq rfl rfl rfl (congrArg Value.bool hc211)).trans rfl) rfl ?_
            refine wl_val (v := .bool false) rfl rfl (x_pick_f hc211 rfl rfl) ?_
            refine wl_val (v := .bool false) rfl rfl rfl ?_
            refine wl_off ((wanted_eq rfl rfl rfl rfl).trans rfl) rfl ?_
            refine wl_off ((wanted_eq rfl rfl rfl rfl).trans rfl) rfl ?_
            refine wl_off ((wanted_eq rfl rfl rfl rfl).trans rfl) rfl ?_
            refine wl_off ((wanted_eq rfl rfl rfl rfl).trans rfl) rfl ?_
            refine wl_off ((wanted_eq rfl rfl rfl rfl).trans rfl) rfl ?_
            refine wl_val (v := .bool false) rfl rfl (x_pick_f rfl rfl rfl) ?_
            refine wl_val (v := .bool false) rfl rfl rfl ?_
            refine wl_nil ?_
            refine then_n ?_
            refine wp_ret ?_
            obtain rfl := some_inj hm
            refine post_ret (vs := [.bool false]) Try.results35 (rvs_cons (rv_tmp rfl) rvs_nil) ?_
            exact ⟨rfl, hst.keep0⟩
        · skip
          replace hm := bif_f hc205 hm
          refine wl_off ((wanted_eq rfl rfl rfl (congrArg Value.bool hc205)).trans rfl) rfl ?_
          refine wl_off ((wanted_eq rfl rfl rfl (congrArg Value.bool hc205)).trans rfl) rfl ?_
          refine wl_off ((wanted_eq rfl rfl rfl (congrArg Value.bool hc205)).trans rfl) rfl ?_
          refine wl_off ((wanted_eq rfl rfl rfl (congrArg Value.bool hc205)).trans rfl) rfl ?_
          refine wl_off ((wanted_eq rfl rfl rfl (congrArg Value.bool hc205)).trans rfl) rfl ?_
          refine wl_val (v := .bool false) rfl rfl (x_pick_f hc205 rfl rfl) ?_
          refine wl_val (v := .bool false) rfl rfl rfl ?_
          refine wl_off ((wanted_eq rfl rfl rfl rfl).trans rfl) rfl ?_
          refine wl_off ((wanted_eq rfl rfl rfl rfl).trans rfl) rfl ?_
          refine wl_off ((wanted_eq rfl rfl rfl rfl).trans rfl) rfl ?_
          refine wl_off ((wanted_eq rfl rfl rfl rfl).trans rfl) rfl ?_
          refine wl_off ((wanted_eq rfl rfl rfl rfl).trans rfl) rfl ?_
          refine wl_val (v := .bool false) rfl rfl (x_pick_f rfl rfl rfl) ?_
          refine wl_val (v := .bool false) rfl rfl rfl ?_
          refine wl_off ((wanted_eq rfl rfl rfl rfl).trans rfl) rfl ?_
          refine wl_off ((wanted_eq rfl rfl rfl rfl).trans rfl) rfl ?_
          refine wl_off ((wanted_eq rfl rfl rfl rfl).trans rfl) rfl ?_
          refine wl_off ((wanted_eq rfl rfl rfl rfl).trans rfl) rfl ?_
          refine wl_off ((wanted_eq rfl rfl rfl rfl).trans rfl) rfl ?_
          refine wl_val (v := .bool false) rfl rfl (x_pick_f rfl rfl rfl) ?_
          refine wl_val (v := .bool false) rfl rfl rfl ?_
          refine wl_nil ?_
          refine then_n ?_
          refine wp_ret ?_
          obtain rfl := some_inj hm
          refine post_ret (vs := [.bool false]) Try.results35 (rvs_cons (rv_tmp rfl) rvs_nil) ?_
          exact ⟨rfl, hst.keep0⟩
      · skip
        replace hm := bif_f hc199 hm
        refine wl_off ((wanted_eq rfl rfl rfl (congrArg Value.bool hc199)).trans rfl) rfl ?_
        refine wl_off ((wanted_eq rfl rfl rfl (congrArg Value.bool hc199)).trans rfl) rfl ?_
        refine wl_off ((wanted_eq rfl rfl rfl (congrArg Value.bool hc199)).trans rfl) rfl ?_
        refine wl_off ((wanted_eq rfl rfl rfl (congrArg Value.bool hc199)).trans rfl) rfl ?_
        refine wl_off ((wanted_eq rfl rfl rfl (congrArg Value.bool hc199)).trans rfl) rfl ?_
        refine wl_val (v := .bool false) rfl rfl (x_pick_f hc199 rfl rfl) ?_
        refine wl_val (v := .bool false) rfl rfl rfl ?_
        refine wl_off ((wanted_eq rfl rfl rfl rfl).trans rfl) rfl ?_
        refine wl_off ((wanted_eq rfl rfl rfl rfl).trans rfl) rfl ?_
        refine wl_off ((wanted_eq rfl rfl rfl rfl).trans rfl) rfl ?_
        refine wl_off ((wanted_eq rfl rfl rfl rfl).trans rfl) rfl ?_
        refine wl_off ((wanted_eq rfl rfl rfl rfl).trans rfl) rfl ?_
        refine wl_val (v := .bool false) rfl rfl (x_pick_f rfl rfl rfl) ?_
        refine wl_val (v := .bool false) rfl rfl rfl ?_
        refine wl_off ((wanted_eq rfl rfl rfl rfl).trans rfl) rfl ?_
        refine wl_off ((wanted_eq rfl rfl rfl rfl).trans rfl) rfl ?_
        refine wl_off ((wanted_eq rfl rfl rfl rfl).trans rfl) rfl ?_
        refine wl_off ((wanted_eq rfl rfl rfl rfl).trans rfl) rfl ?_
        refine wl_off ((wanted_eq rfl rfl rfl rfl).trans rfl) rfl ?_
        refine wl_val (v := .bool false) rfl rfl (x_pick_f rfl rfl rfl) ?_
        refine wl_val (v := .bool false) rfl rfl rfl ?_
        refine wl_off ((wanted_eq rfl rfl rfl rfl).trans rfl) rfl ?_
        refine wl_off ((wanted_eq rfl rfl rfl rfl).trans rfl) rfl ?_
        refine wl_off ((wanted_eq rfl rfl rfl rfl).trans rfl) rfl ?_
        refine wl_off ((wanted_eq rfl rfl rfl rfl).trans rfl) rfl ?_
        refine wl_off ((wanted_eq rfl rfl rfl rfl).trans rfl) rfl ?_
        refine wl_val (v := .bool false) rfl rfl (x_pick_f rfl rfl rfl) ?_
        refine wl_val (v := .bool false) rfl rfl rfl ?_
        refine wl_nil ?_
        refine then_n ?_
        refine wp_ret ?_
        obtain rfl := some_inj hm
        refine post_ret (vs := [.bool false]) Try.results35 (rvs_cons (rv_tmp rfl) rvs_nil) ?_
        exact ⟨rfl, hst.keep0⟩
    · skip
      replace hm := bif_f hc198 hm
      refine wl_off ((wanted_eq rfl rfl rfl (congrArg Value.bool hc198)).trans rfl) rfl ?_
      refine wl_off ((wanted_eq rfl rfl rfl (congrArg Value.bool hc198)).trans rfl) rfl ?_
      refine wl_off ((wanted_eq rfl rfl rfl (congrArg Value.bool hc198)).trans rfl) rfl ?_
      refine wl_off ((wanted_eq rfl rfl rfl (congrArg Value.bool hc198)).trans rfl) rfl ?_
      refine wl_off ((wanted_eq rfl rfl rfl (congrArg Value.bool hc198)).trans rfl) rfl ?_
      refine wl_val (v := .bool false) rfl rfl (x_pick_f hc198 rfl rfl) ?_
      refine wl_val (v := .bool false) rfl rfl rfl ?_
      refine wl_off ((wanted_eq rfl rfl rfl rfl).trans rfl) rfl ?_
      refine wl_off ((wanted_eq rfl rfl rfl rfl).trans rfl) rfl ?_
      refine wl_off ((wanted_eq rfl rfl rfl rfl).trans rfl) rfl ?_
      refine wl_off ((wanted_eq rfl rfl rfl rfl).trans rfl) rfl ?_
      refine wl_off ((wanted_eq rfl rfl rfl rfl).trans rfl) rfl ?_
      refine wl_val (v := .bool false) rfl rfl (x_pick_f rfl rfl rfl) ?_
      refine wl_val (v := .bool false) rfl rfl rfl ?_
      refine wl_off ((wanted_eq rfl rfl rfl rfl).trans rfl) rfl ?_
      refine wl_off ((wanted_eq rfl rfl rfl rfl).trans rfl) rfl ?_
      refine wl_off ((wanted_eq rfl rfl rfl rfl).trans rfl) rfl ?_
      refine wl_off ((wanted_eq rfl rfl rfl rfl).trans rfl) rfl ?_
      refine wl_off ((wanted_eq rfl rfl rfl rfl).trans rfl) rfl ?_
      refine wl_val (v := .bool false) rfl rfl (x_pick_f rfl rfl rfl) ?_
      refine wl_val (v := .bool false) rfl rfl rfl ?_
      refine wl_off ((wanted_eq rfl rfl rfl rfl).trans rfl) rfl ?_
      refine wl_off ((wanted_eq rfl rfl rfl rfl).trans rfl) rfl ?_
      refine wl_off ((wanted_eq rfl rfl rfl rfl).trans rfl) rfl ?_
      refine wl_off ((wanted_eq rfl rfl rfl rfl).trans rfl) rfl ?_
      refine wl_off ((wanted_eq rfl rfl rfl rfl).trans rfl) rfl ?_
      refine wl_val (v := .bool false) rfl rfl (x_pick_f rfl rfl rfl) ?_
      refine wl_val (v := .bool false) rfl rfl rfl ?_
      refine wl_off ((wanted_eq rfl rfl rfl rfl).trans rfl) rfl ?_
      refine wl_off ((wanted_eq rfl rfl rfl rfl).trans rfl) rfl ?_
      refine wl_off ((wanted_eq rfl rfl rfl rfl).trans rfl) rfl ?_
      refine wl_off ((wanted_eq rfl rfl rfl rfl).trans rfl) rfl ?_
      refine wl_off ((wanted_eq rfl rfl rfl rfl).trans rfl) rfl ?_
      refine wl_val (v := .bool false) rfl rfl (x_pick_f rfl rfl rfl) ?_
      refine wl_val (v := .bool false) rfl rfl rfl ?_
      refine wl_nil ?_
      refine then_n ?_
      refine wp_ret ?_
      obtain rfl := some_inj hm
      refine post_ret (vs := [.bool false]) Try.results35 (rvs_cons (rv_tmp rfl) rvs_nil) ?_
      exact ⟨rfl, hst.keep0⟩
  · skip
    replace hm := bif_f hc197 hm
    refine wl_off ((wanted_eq rfl rfl rfl (congrArg Value.bool hc197)).trans rfl) rfl ?_
    refine wl_off ((wanted_eq rfl rfl rfl (congrArg Value.bool hc197)).trans rfl) rfl ?_
    refine wl_off ((wanted_eq rfl rfl rfl (congrArg Value.bool hc197)).trans rfl) rfl ?_
    refine wl_off ((wanted_eq rfl rfl rfl (congrArg Value.bool hc197)).trans rfl) rfl ?_
    refine wl_off ((wanted_eq rfl rfl rfl (congrArg Value.bool hc197)).trans rfl) rfl ?_
    refine wl_val (v := .bool false) rfl rfl (x_pick_f hc197 rfl rfl) ?_
    refine wl_val (v := .bool false) rfl rfl rfl ?_
    refine wl_off ((wanted_eq rfl rfl rfl rfl).trans rfl) rfl ?_
    refine wl_off ((wanted_eq rfl rfl rfl rfl).trans rfl) rfl ?_
    refine wl_off ((wanted_eq rfl rfl rfl rfl).trans rfl) rfl ?_
    refine wl_off ((wanted_eq rfl rfl rfl rfl).trans rfl) rfl ?_
    refine wl_off ((wanted_eq rfl rfl rfl rfl).trans rfl) rfl ?_
    refine wl_val (v := .bool false) rfl rfl (x_pick_f rfl rfl rfl) ?_
    refine wl_val (v := .bool false) rfl rfl rfl ?_
    refine wl_off ((wanted_eq rfl rfl rfl rfl).trans rfl) rfl ?_
    refine wl_off ((wanted_eq rfl rfl rfl rfl).trans rfl) rfl ?_
    refine wl_off ((wanted_eq rfl rfl rfl rfl).trans rfl) rfl ?_
    refine wl_off ((wanted_eq rfl rfl rfl rfl).trans rfl) rfl ?_
    refine wl_off ((wanted_eq rfl rfl rfl rfl).trans rfl) rfl ?_
    refine wl_val (v := .bool false) rfl rfl (x_pick_f rfl rfl rfl) ?_
    refine wl_val (v := .bool false) rfl rfl rfl ?_
    refine wl_off ((wanted_eq rfl rfl rfl rfl).trans rfl) rfl ?_
    refine wl_off ((wanted_eq rfl rfl rfl rfl).trans rfl) rfl ?_
    refine wl_off ((wanted_eq rfl rfl rfl rfl).trans rfl) rfl ?_
    refine wl_off ((wanted_eq rfl rfl rfl rfl).trans rfl) rfl ?_
    refine wl_off ((wanted_eq rfl rfl rfl rfl).trans rfl) rfl ?_
    refine wl_val (v := .bool false) rfl rfl (x_pick_f rfl rfl rfl) ?_
    refine wl_val (v := .bool false) rfl rfl rfl ?_
    refine wl_off ((wanted_eq rfl rfl rfl rfl).trans rfl) rfl ?_
    refine wl_off ((wanted_eq rfl rfl rfl rfl).trans rfl) rfl ?_
    refine wl_off ((wanted_eq rfl rfl rfl rfl).trans rfl) rfl ?_
    refine wl_off ((wanted_eq rfl rfl rfl rfl).trans rfl) rfl ?_
    refine wl_off ((wanted_eq rfl rfl rfl rfl).trans rfl) rfl ?_
    refine wl_val (v := .bool false) rfl rfl (x_pick_f rfl rfl rfl) ?_
    refine wl_val (v := .bool false) rfl rfl rfl ?_
    refine wl_off ((wanted_eq rfl rfl rfl rfl).trans rfl) rfl ?_
    refine wl_off ((wanted_eq rfl rfl rfl rfl).trans rfl) rfl ?_
    refine wl_off ((wanted_eq rfl rfl rfl rfl).trans rfl) rfl ?_
    refine wl_off ((wanted_eq rfl rfl rfl rfl).trans rfl) rfl ?_
    refine wl_off ((wanted_eq rfl rfl rfl rfl).trans rfl) rfl ?_
    refine wl_val (v := .bool false) rfl rfl (x_pick_f rfl rfl rfl) ?_
    refine wl_val (v := .bool false) rfl rfl rfl ?_
    refine wl_nil ?_
    refine then_n ?_
    refine wp_ret ?_
    obtain rfl := some_inj hm
    refine post_ret (vs := [.bool false]) Try.results35 (rvs_cons (rv_tmp rfl) rvs_nil) ?_
    exact ⟨rfl, hst.keep0⟩

theorem law13_same_ref {w0 w : World} {I : HL} {R : SP} {a0 : api_Command} {r0_0 : Value} {r0_1 : Value} {r0_2 : Value} {r0_3 : Value} {r0_4 : Value} {r0_5 : Value} {r0_6 : Value} {r0_7 : Value} {a1 : api_Command} {r1_0 : Value} {r1_1 : Value} {r1_2 : Value} {r1_3 : Value} {r1_4 : Value} {r1_5 : Value} {r1_6 : Value} {r1_7 : Value} (f0_0 : Rd tyF64 R I r0_0 a0.Hold.Gets) (f0_1 : Rd tyF2 R I r0_1 a0.Hold.Scans) (f0_2 : Rd tyF64 R I r0_2 a0.Hold.Puts) (f0_3 : Rd (tyInt .u8) R I r0_3 a0.Hold.Data) (f0_4 : Rd ty_api_Write R I r0_4 a0.Writes) (f0_5 : Rd ty_api_Got R I r0_5 a0.R.Gots) (f0_6 : Rd (tySl ty_api_Pair) R I r0_6 a0.R.Scans) (f0_7 : Rd ty_api_Part R I r0_7 a0.Parts) (f1_0 : Rd tyF64 R I r1_0 a1.Hold.Gets) (f1_1 : Rd tyF2 R I r1_1 a1.Hold.Scans) (f1_2 : Rd tyF64 R I r1_2 a1.Hold.Puts) (f1_3 : Rd (tyInt .u8) R I r1_3 a1.Hold.Data) (f1_4 : Rd ty_api_Write R I r1_4 a1.Writes) (f1_5 : Rd ty_api_Got R I r1_5 a1.R.Gots) (f1_6 : Rd (tySl ty_api_Pair) R I r1_6 a1.R.Scans) (f1_7 : Rd ty_api_Part R I r1_7 a1.Parts) (hst : St w0 w I [] R) {r : (Bool)} (hm : law13_same a0 a1 = some r) :
    Calls Try.prog 11 #[.agg #[.int .u8 a0.Kind, .int .u64 a0.ID.Session, .int .u64 a0.ID.Seq, .int .u64 a0.Epoch, .int .u64 a0.Index, .int .i64 a0.E, .int .u64 a0.Hold.ID.Session, .int .u64 a0.Hold.ID.Seq, .int .u64 a0.Hold.Epoch, r0_0, r0_1, r0_2, r0_3, r0_4, .int .i64 a0.R.E, .int .u64 a0.R.Epoch, .int .u64 a0.R.Index, r0_5, r0_6, .int .u64 a0.Shards, r0_7, .int .u64 a0.Rule.ID, .int .i64 a0.Rule.From, .int .i64 a0.Rule.To, .float .f64 a0.Rule.Lo, .float .f64 a0.Rule.Hi, .int .u64 a0.Rule.Authority, .int .i64 a0.Rule.Quota, .bool a0.On], .agg #[.int .u8 a1.Kind, .int .u64 a1.ID.Session, .int .u64 a1.ID.Seq, .int .u64 a1.Epoch, .int .u64 a1.Index, .int .i64 a1.E, .int .u64 a1.Hold.ID.Session, .int .u64 a1.Hold.ID.Seq, .int .u64 a1.Hold.Epoch, r1_0, r1_1, r1_2, r1_3, r1_4, .int .i64 a1.R.E, .int .u64 a1.R.Epoch, .int .u64 a1.R.Index, r1_5, r1_6, .int .u64 a1.Shards, r1_7, .int .u64 a1.Rule.ID, .int .i64 a1.Rule.From, .int .i64 a1.Rule.To, .float .f64 a1.Rule.Lo, .float .f64 a1.Rule.Hi, .int .u64 a1.Rule.Authority, .int .i64 a1.Rule.Quota, .bool a1.On]] w fun e w' => e = .returned (.bool r) ∧ St w0 w' I [] R := by
  unfold law13_same at hm
  refine calls_start (args := [.agg #[.int .u8 a0.Kind, .int .u64 a0.ID.Session, .int .u64 a0.ID.Seq, .int .u64 a0.Epoch, .int .u64 a0.Index, .int .i64 a0.E, .int .u64 a0.Hold.ID.Session, .int .u64 a0.Hold.ID.Seq, .int .u64 a0.Hold.Epoch, r0_0, r0_1, r0_2, r0_3, r0_4, .int .i64 a0.R.E, .int .u64 a0.R.Epoch, .int .u64 a0.R.Index, r0_5, r0_6, .int .u64 a0.Shards, r0_7, .int .u64 a0.Rule.ID, .int .i64 a0.Rule.From, .int .i64 a0.Rule.To, .float .f64 a0.Rule.Lo, .float .f64 a0.Rule.Hi, .int .u64 a0.Rule.Authority, .int .i64 a0.Rule.Quota, .bool a0.On], .agg #[.int .u8 a1.Kind, .int .u64 a1.ID.Session, .int .u64 a1.ID.Seq, .int .u64 a1.Epoch, .int .u64 a1.Index, .int .i64 a1.E, .int .u64 a1.Hold.ID.Session, .int .u64 a1.Hold.ID.Seq, .int .u64 a1.Hold.Epoch, r1_0, r1_1, r1_2, r1_3, r1_4, .int .i64 a1.R.E, .int .u64 a1.R.Epoch, .int .u64 a1.R.Index, r1_5, r1_6, .int .u64 a1.Shards, r1_7, .int .u64 a1.Rule.ID, .int .i64 a1.Rule.From, .int .i64 a1.Rule.To, .float .f64 a1.Rule.Lo, .float .f64 a1.Rule.Hi, .int .u64 a1.Rule.Authority, .int .i64 a1.Rule.Quota, .bool a1.On]]) Try.func11 rfl Try.ntmps11 (Nat.le_of_ble_eq_true rfl) ?_
  refine wp_seq ?_
  refine wp_region_lit ?_
  obtain ⟨b284, w285, ew286, eb287, hst⟩ := hst.box [.int .u8 a0.Kind, .int .u64 a0.ID.Session, .int .u64 a0.ID.Seq, .int .u64 a0.Epoch, .int .u64 a0.Index, .int .i64 a0.E, .int .u64 a0.Hold.ID.Session, .int .u64 a0.Hold.ID.Seq, .int .u64 a0.Hold.Epoch, r0_0, r0_1, r0_2, r0_3, r0_4, .int .i64 a0.R.E, .int .u64 a0.R.Epoch, .int .u64 a0.R.Index, r0_5, r0_6, .int .u64 a0.Shards, r0_7, .int .u64 a0.Rule.ID, .int .i64 a0.Rule.From, .int .i64 a0.Rule.To, .float .f64 a0.Rule.Lo, .float .f64 a0.Rule.Hi, .int .u64 a0.Rule.Authority, .int .i64 a0.Rule.Quota, .bool a0.On] 45
  refine wl_run (v := .pointer (some ⟨b284, 0, none⟩)) (w' := w285) rfl rfl (x_al (by kernel_rfl) ew286 eb287) ?_
  obtain ⟨b289, w290, ew291, eb292, hst⟩ := hst.box [.int .u8 a1.Kind, .int .u64 a1.ID.Session, .int .u64 a1.ID.Seq, .int .u64 a1.Epoch, .int .u64 a1.Index, .int .i64 a1.E, .int .u64 a1.Hold.ID.Session, .int .u64 a1.Hold.ID.Seq, .int .u64 a1.Hold.Epoch, r1_0, r1_1, r1_2, r1_3, r1_4, .int .i64 a1.R.E, .int .u64 a1.R.Epoch, .int .u64 a1.R.Index, r1_5, r1_6, .int .u64 a1.Shards, r1_7, .int .u64 a1.Rule.ID, .int .i64 a1.Rule.From, .int .i64 a1.Rule.To, .float .f64 a1.Rule.Lo, .float .f64 a1.Rule.Hi, .int .u64 a1.Rule.Authority, .int .i64 a1.Rule.Quota, .bool a1.On] 45
  refine wl_run (v := .pointer (some ⟨b289, 0, none⟩)) (w' := w290) rfl rfl (x_al (by kernel_rfl) ew291 eb292) ?_
  refine wl_val (v := .bool false) rfl rfl rfl ?_
  refine wl_nil ?_
  refine then_n ?_
  refine wp_seq ?_
  refine wp_seq ?_
  refine wp_region_lit ?_
  refine wl_val (v := .pointer (some ⟨b284, 0, none⟩)) rfl rfl (x_field rfl Try.underlying45 rfl Try.sizeOf5 rfl) ?_
  refine wl_val (v := .int .u8 a0.Kind) rfl rfl (x_load rfl Try.isAgg5 (hst.bc1 rfl)) ?_
  refine wl_val (v := .pointer (some ⟨b289, 0, none⟩)) rfl rfl (x_field rfl Try.underlying45 rfl Try.sizeOf5 rfl) ?_
  refine wl_val (v := .int .u8 a1.Kind) rfl rfl (x_load rfl Try.isAgg5 (hst.bc0 rfl)) ?_
  refine wl_val (v := .bool (a0.Kind != a1.Kind)) rfl rfl rfl ?_
  refine wl_val (v := .bool (a0.Kind != a1.Kind)) rfl rfl rfl ?_
  refine bsplit (a0.Kind != a1.Kind) (fun hc294 => ?_) (fun hc294 => ?_)
  · skip
    replace hm := bif_t hc294 hm
    refine wl_off ((wanted_eq rfl rfl rfl (congrArg Value.bool hc294)).trans rfl) rfl ?_
    refine wl_off ((wanted_eq rfl rfl rfl (congrArg Value.bool hc294)).trans rfl) rfl ?_
    refine wl_off ((wanted_eq rfl rfl rfl (congrArg Value.bool hc294)).trans rfl) rfl ?_
    refine wl_off ((wanted_eq rfl rfl rfl (congrArg Value.bool hc294)).trans rfl) rfl ?_
    refine wl_off ((wanted_eq rfl rfl rfl (congrArg Value.bool hc294)).trans rfl) rfl ?_
    refine wl_val (v := .bool true) rfl rfl (x_pick_t hc294 rfl rfl) ?_
    refine wl_val (v := .bool true) rfl rfl rfl ?_
    refine wl_off ((wanted_eq rfl rfl rfl rfl).trans rfl) rfl ?_
    refine wl_off ((wanted_eq rfl rfl rfl rfl).trans rfl) rfl ?_
    refine wl_off ((wanted_eq rfl rfl rfl rfl).trans rfl) rfl ?_
    refine wl_off ((wanted_eq rfl rfl rfl rfl).trans rfl) rfl ?_
    refine wl_off ((wanted_eq rfl rfl rfl rfl).trans rfl) rfl ?_
    refine wl_val (v := .bool true) rfl rfl (x_pick_t rfl rfl rfl) ?_
    refine wl_val (v := .bool true) rfl rfl rfl ?_
    refine wl_off ((wanted_eq rfl rfl rfl rfl).trans rfl) rfl ?_
    refine wl_off ((wanted_eq rfl rfl rfl rfl).trans rfl) rfl ?_
    refine wl_off ((wanted_eq rfl rfl rfl rfl).trans rfl) rfl ?_
    refine wl_off ((wanted_eq rfl rfl rfl rfl).trans rfl) rfl ?_
    refine wl_off ((wanted_eq rfl rfl rfl rfl).trans rfl) rfl ?_
    refine wl_val (v := .bool true) rfl rfl (x_pick_t rfl rfl rfl) ?_
    refine wl_val (v := .bool true) rfl rfl rfl ?_
    refine wl_off ((wanted_eq rfl rfl rfl rfl).trans rfl) rfl ?_
    refine wl_off ((wanted_eq rfl rfl rfl rfl).trans rfl) rfl ?_
    refine wl_off ((wanted_eq rfl rfl rfl rfl).trans rfl) rfl ?_
    refine wl_off ((wanted_eq rfl rfl rfl rfl).trans rfl) rfl ?_
    refine wl_off ((wanted_eq rfl rfl rfl rfl).trans rfl) rfl ?_
    refine wl_val (v := .bool true) rfl rfl (x_pick_t rfl rfl rfl) ?_
    refine wl_val (v := .bool true) rfl rfl rfl ?_
    refine wl_off ((wanted_eq rfl rfl rfl rfl).trans rfl) rfl ?_
    refine wl_off ((wanted_eq rfl rfl rfl rfl).trans rfl) rfl ?_
    refine wl_off ((wanted_eq rfl rfl rfl rfl).trans rfl) rfl ?_
    refine wl_off ((wanted_eq rfl rfl rfl rfl).trans rfl) rfl ?_
    refine wl_off ((wanted_eq rfl rfl rfl rfl).trans rfl) rfl ?_
    refine wl_off ((wanted_eq rfl rfl rfl rfl).trans rfl) rfl ?_
    refine wl_val (v := .bool true) rfl rfl (x_pick_t rfl rfl rfl) ?_
    refine wl_val (v := .bool true) rfl rfl rfl ?_
    refine wl_off ((wanted_eq rfl rfl rfl rfl).trans rfl) rfl ?_
    refine wl_off ((wanted_eq rfl rfl rfl rfl).trans rfl) rfl ?_
    refine wl_off ((wanted_eq rfl rfl rfl rfl).trans rfl) rfl ?_
    refine wl_off ((wanted_eq rfl rfl rfl rfl).trans rfl) rfl ?_
    refine wl_off ((wanted_eq rfl rfl rfl rfl).trans rfl) rfl ?_
    refine wl_off ((wanted_eq rfl rfl rfl rfl).trans rfl) rfl ?_
    refine wl_val (v := .bool true) rfl rfl (x_pick_t rfl rfl rfl) ?_
    refine wl_val (v := .bool true) rfl rfl rfl ?_
    refine wl_off ((wanted_eq rfl rfl rfl rfl).trans rfl) rfl ?_
    refine wl_off ((wanted_eq rfl rfl rfl rfl).trans rfl) rfl ?_
    refine wl_off ((wanted_eq rfl rfl rfl rfl).trans rfl) rfl ?_
    refine wl_off ((wanted_eq rfl rfl rfl rfl).trans rfl) rfl ?_
    refine wl_off ((wanted_eq rfl rfl rfl rfl).trans rfl) rfl ?_
    refine wl_off ((wanted_eq rfl rfl rfl rfl).trans rfl) rfl ?_
    refine wl_val (v := .bool true) rfl rfl (x_pick_t rfl rfl rfl) ?_
    refine wl_val (v := .bool true) rfl rfl rfl ?_
    refine wl_off ((wanted_eq rfl rfl rfl rfl).trans rfl) rfl ?_
    refine wl_off ((wanted_eq rfl rfl rfl rfl).trans rfl) rfl ?_
    refine wl_off ((wanted_eq rfl rfl rfl rfl).trans rfl) rfl ?_
    refine wl_off ((wanted_eq rfl rfl rfl rfl).trans rfl) rfl ?_
    refine wl_off ((wanted_eq rfl rfl rfl rfl).trans rfl) rfl ?_
    refine wl_val (v := .bool true) rfl rfl (x_pick_t rfl rfl rfl) ?_
    refine wl_val (v := .bool true) rfl rfl rfl ?_
    refine wl_off ((wanted_eq rfl rfl rfl rfl).trans rfl) rfl ?_
    refine wl_off ((wanted_eq rfl rfl rfl rfl).trans rfl) rfl ?_
    refine wl_off ((wanted_eq rfl rfl rfl rfl).trans rfl) rfl ?_
    refine wl_off ((wanted_eq rfl rfl rfl rfl).trans rfl) rfl ?_
    refine wl_off ((wanted_eq rfl rfl rfl rfl).trans rfl) rfl ?_
    refine wl_off ((wanted_eq rfl rfl rfl rfl).trans rfl) rfl ?_
    refine wl_off ((wanted_eq rfl rfl rfl rfl).trans rfl) rfl ?_
    refine wl_val (v := .bool true) rfl rfl (x_pick_t rfl rfl rfl) ?_
    refine wl_val (v := .bool true) rfl rfl rfl ?_
    refine wl_off ((wanted_eq rfl rfl rfl rfl).trans rfl) rfl ?_
    refine wl_off ((wanted_eq rfl rfl rfl rfl).trans rfl) rfl ?_
    refine wl_off ((wanted_eq rfl rfl rfl rfl).trans rfl) rfl ?_
    refine wl_off ((wanted_eq rfl rfl rfl rfl).trans rfl) rfl ?_
    refine wl_off ((wanted_eq rfl rfl rfl rfl).trans rfl) rfl ?_
    refine wl_off ((wanted_eq rfl rfl rfl rfl).trans rfl) rfl ?_
    refine wl_val (v := .bool true) rfl rfl (x_pick_t rfl rfl rfl) ?_
    refine wl_val (v := .bool true) rfl rfl rfl ?_
    refine wl_off ((wanted_eq rfl rfl rfl rfl).trans rfl) rfl ?_
    refine wl_off ((wanted_eq rfl rfl rfl rfl).trans rfl) rfl ?_
    refine wl_off ((wanted_eq rfl rfl rfl rfl).trans rfl) rfl ?_
    refine wl_off ((wanted_eq rfl rfl rfl rfl).trans rfl) rfl ?_
    refine wl_off ((wanted_eq rfl rfl rfl rfl).trans rfl) rfl ?_
    refine wl_val (v := .bool true) rfl rfl (x_pick_t rfl rfl rfl) ?_
    refine wl_nil ?_
    refine then_n ?_
    refine wp_ift rfl ?_
    refine wp_seq ?_
    refine wp_region_lit ?_
    refine wl_val (v := .bool false) rfl rfl rfl ?_
    refine wl_nil ?_
    refine then_n ?_
    refine wp_ret ?_
    refine then_r ?_
    obtain rfl := some_inj hm
    refine post_ret (vs := [.bool false]) Try.results11 (rvs_cons (rv_tmp rfl) rvs_nil) ?_
    exact ⟨rfl, hst.keep0⟩
  · skip
    replace hm := bif_f hc294 hm
    refine wl_val (v := .pointer (some ⟨b284, 1, none⟩)) ((wanted_eq rfl rfl rfl (congrArg Value.bool hc294)).trans rfl) rfl (x_field rfl Try.underlying45 rfl Try.sizeOf29 rfl) ?_
    refine wl_val (v := .agg #[.int .u64 a0.ID.Session, .int .u64 a0.ID.Seq]) ((wanted_eq rfl rfl rfl (congrArg Value.bool hc294)).trans rfl) rfl (x_loadN (cs := [.int .u64 a0.ID.Session, .int .u64 a0.ID.Seq]) rfl Try.isAgg29 Try.sizeOf29 (hst.bcs1 1 rfl)) ?_
    refine wl_val (v := .pointer (some ⟨b289, 1, none⟩)) ((wanted_eq rfl rfl rfl (congrArg Value.bool hc294)).trans rfl) rfl (x_field rfl Try.underlying45 rfl Try.sizeOf29 rfl) ?_
    refine wl_val (v := .agg #[.int .u64 a1.ID.Session, .int .u64 a1.ID.Seq]) ((wanted_eq rfl rfl rfl (congrArg Value.bool hc294)).trans rfl) rfl (x_loadN (cs := [.int .u64 a1.ID.Session, .int .u64 a1.ID.Seq]) rfl Try.isAgg29 Try.sizeOf29 (hst.bcs0 1 rfl)) ?_
    refine wl_val (v := .bool (!((a0.ID.Session == a1.ID.Session) && (a0.ID.Seq == a1.ID.Seq)))) ((wanted_eq rfl rfl rfl (congrArg Value.bool hc294)).trans rfl) rfl (x_aggne2 rfl rfl (by kernel_rfl) Try.underlying29 (by kernel_rfl) (by kernel_rfl) (by kernel_rfl) Try.underlying27 Try.underlying27 (fun _ _ _ => by kernel_rfl) (fun _ _ _ => by kernel_rfl)) ?_
    refine wl_val (v := .bool (!((a0.ID.Session == a1.ID.Session) && (a0.ID.Seq == a1.ID.Seq)))) rfl rfl (x_pick_f hc294 rfl rfl) ?_
    refine wl_val (v := .bool (!((a0.ID.Session == a1.ID.Session) && (a0.ID.Seq == a1.ID.Seq)))) rfl rfl rfl ?_
    refine bsplit (!((a0.ID.Session == a1.ID.Session) && (a0.ID.Seq == a1.ID.Seq))) (fun hc295 => ?_) (fun hc295 => ?_)
    · skip
      replace hm := bif_t hc295 hm
      refine wl_off ((wanted_eq rfl rfl rfl (congrArg Value.bool hc295)).trans rfl) rfl ?_
      refine wl_off ((wanted_eq rfl rfl rfl (congrArg Value.bool hc295)).trans rfl) rfl ?_
      refine wl_off ((wanted_eq rfl rfl rfl (congrArg Value.bool hc295)).trans rfl) rfl ?_
      refine wl_off ((wanted_eq rfl rfl rfl (congrArg Value.bool hc295)).trans rfl) rfl ?_
      refine wl_off ((wanted_eq rfl rfl rfl (congrArg Value.bool hc295)).trans rfl) rfl ?_
      refine wl_val (v := .bool true) rfl rfl (x_pick_t hc295 rfl rfl) ?_
      refine wl_val (v := .bool true) rfl rfl rfl ?_
      refine wl_off ((wanted_eq rfl rfl rfl rfl).trans rfl) rfl ?_
      refine wl_off ((wanted_eq rfl rfl rfl rfl).trans rfl) rfl ?_
      refine wl_off ((wanted_eq rfl rfl rfl rfl).trans rfl) rfl ?_
      refine wl_off ((wanted_eq rfl rfl rfl rfl).trans rfl) rfl ?_
      refine wl_off ((wanted_eq rfl rfl rfl rfl).trans rfl) rfl ?_
      refine wl_val (v := .bool true) rfl rfl (x_pick_t rfl rfl rfl) ?_
      refine wl_val (v := .bool true) rfl rfl rfl ?_
      refine wl_off ((wanted_eq rfl rfl rfl rfl).trans rfl) rfl ?_
      refine wl_off ((wanted_eq rfl rfl rfl rfl).trans rfl) rfl ?_
      refine wl_off ((wanted_eq rfl rfl rfl rfl).trans rfl) rfl ?_
      refine wl_off ((wanted_eq rfl rfl rfl rfl).trans rfl) rfl ?_
      refine wl_off ((wanted_eq rfl rfl rfl rfl).trans rfl) rfl ?_
      refine wl_val (v := .bool true) rfl rfl (x_pick_t rfl rfl rfl) ?_
      refine wl_val (v := .bool true) rfl rfl rfl ?_
      refine wl_off ((wanted_eq rfl rfl rfl rfl).trans rfl) rfl ?_
      refine wl_off ((wanted_eq rfl rfl rfl rfl).trans rfl) rfl ?_
      refine wl_off ((wanted_eq rfl rfl rfl rfl).trans rfl) rfl ?_
      refine wl_off ((wanted_eq rfl rfl rfl rfl).trans rfl) rfl ?_
      refine wl_off ((wanted_eq rfl rfl rfl rfl).trans rfl) rfl ?_
      refine wl_off ((wanted_eq rfl rfl rfl rfl).trans rfl) rfl ?_
      refine wl_val (v := .bool true) rfl rfl (x_pick_t rfl rfl rfl) ?_
      refine wl_val (v := .bool true) rfl rfl rfl ?_
      refine wl_off ((wanted_eq rfl rfl rfl rfl).trans rfl) rfl ?_
      refine wl_off ((wanted_eq rfl rfl rfl rfl).trans rfl) rfl ?_
      refine wl_off ((wanted_eq rfl rfl rfl rfl).trans rfl) rfl ?_
      refine wl_off ((wanted_eq rfl rfl rfl rfl).trans rfl) rfl ?_
      refine wl_off ((wanted_eq rfl rfl rfl rfl).trans rfl) rfl ?_
      refine wl_off ((wanted_eq rfl rfl rfl rfl).trans rfl) rfl ?_
      refine wl_val (v := .bool true) rfl rfl (x_pick_t rfl rfl rfl) ?_
      refine wl_val (v := .bool true) rfl rfl rfl ?_
      refine wl_off ((wanted_eq rfl rfl rfl rfl).trans rfl) rfl ?_
      refine wl_off ((wanted_eq rfl rfl rfl rfl).trans rfl) rfl ?_
      refine wl_off ((wanted_eq rfl rfl rfl rfl).trans rfl) rfl ?_
      refine wl_off ((wanted_eq rfl rfl rfl rfl).trans rfl) rfl ?_
      refine wl_off ((wanted_eq rfl rfl rfl rfl).trans rfl) rfl ?_
      refine wl_off ((wanted_eq rfl rfl rfl rfl).trans rfl) rfl ?_
      refine wl_val (v := .bool true) rfl rfl (x_pick_t rfl rfl rfl) ?_
      refine wl_val (v := .bool true) rfl rfl rfl ?_
      refine wl_off ((wanted_eq rfl rfl rfl rfl).trans rfl) rfl ?_
      refine wl_off ((wanted_eq rfl rfl rfl rfl).trans rfl) rfl ?_
      refine wl_off ((wanted_eq rfl rfl rfl rfl).trans rfl) rfl ?_
      refine wl_off ((wanted_eq rfl rfl rfl rfl).trans rfl) rfl ?_
      refine wl_off ((wanted_eq rfl rfl rfl rfl).trans rfl) rfl ?_
      refine wl_val (v := .bool true) rfl rfl (x_pick_t rfl rfl rfl) ?_
      refine wl_val (v := .bool true) rfl rfl rfl ?_
      refine wl_off ((wanted_eq rfl rfl rfl rfl).trans rfl) rfl ?_
      refine wl_off ((wanted_eq rfl rfl rfl rfl).trans rfl) rfl ?_
      refine wl_off ((wanted_eq rfl rfl rfl rfl).trans rfl) rfl ?_
      refine wl_off ((wanted_eq rfl rfl rfl rfl).trans rfl) rfl ?_
      refine wl_off ((wanted_eq rfl rfl rfl rfl).trans rfl) rfl ?_
      refine wl_off ((wanted_eq rfl rfl rfl rfl).trans rfl) rfl ?_
      refine wl_off ((wanted_eq rfl rfl rfl rfl).trans rfl) rfl ?_
      refine wl_val (v := .bool true) rfl rfl (x_pick_t rfl rfl rfl) ?_
      refine wl_val (v := .bool true) rfl rfl rfl ?_
      refine wl_off ((wanted_eq rfl rfl rfl rfl).trans rfl) rfl ?_
      refine wl_off ((wanted_eq rfl rfl rfl rfl).trans rfl) rfl ?_
      refine wl_off ((wanted_eq rfl rfl rfl rfl).trans rfl) rfl ?_
      refine wl_off ((wanted_eq rfl rfl rfl rfl).trans rfl) rfl ?_
      refine wl_off ((wanted_eq rfl rfl rfl rfl).trans rfl) rfl ?_
      refine wl_off ((wanted_eq rfl rfl rfl rfl).trans rfl) rfl ?_
      refine wl_val (v := .bool true) rfl rfl (x_pick_t rfl rfl rfl) ?_
      refine wl_val (v := .bool true) rfl rfl rfl ?_
      refine wl_off ((wanted_eq rfl rfl rfl rfl).trans rfl) rfl ?_
      refine wl_off ((wanted_eq rfl rfl rfl rfl).trans rfl) rfl ?_
      refine wl_off ((wanted_eq rfl rfl rfl rfl).trans rfl) rfl ?_
      refine wl_off ((wanted_eq rfl rfl rfl rfl).trans rfl) rfl ?_
      refine wl_off ((wanted_eq rfl rfl rfl rfl).trans rfl) rfl ?_
      refine wl_val (v := .bool true) rfl rfl (x_pick_t rfl rfl rfl) ?_
      refine wl_nil ?_
      refine then_n ?_
      refine wp_ift rfl ?_
      refine wp_seq ?_
      refine wp_region_lit ?_
      refine wl_val (v := .bool false) rfl rfl rfl ?_
      refine wl_nil ?_
      refine then_n ?_
      refine wp_ret ?_
      refine then_r ?_
      obtain rfl := some_inj hm
      refine post_ret (vs := [.bool false]) Try.results11 (rvs_cons (rv_tmp rfl) rvs_nil) ?_
      exact ⟨rfl, hst.keep0⟩
    · skip
      replace hm := bif_f hc295 hm
      refine wl_val (v := .pointer (some ⟨b284, 3, none⟩)) ((wanted_eq rfl rfl rfl (congrArg Value.bool hc295)).trans rfl) rfl (x_field rfl Try.underlying45 rfl Try.sizeOf27 rfl) ?_
      refine wl_val (v := .int .u64 a0.Epoch) ((wanted_eq rfl rfl rfl (congrArg Value.bool hc295)).trans rfl) rfl (x_load rfl Try.isAgg27 (hst.bc1 rfl)) ?_
      refine wl_val (v := .pointer (some ⟨b289, 3, none⟩)) ((wanted_eq rfl rfl rfl (congrArg Value.bool hc295)).trans rfl) rfl (x_field rfl Try.underlying45 rfl Try.sizeOf27 rfl) ?_
      refine wl_val (v := .int .u64 a1.Epoch) ((wanted_eq rfl rfl rfl (congrArg Value.bool hc295)).trans rfl) rfl (x_load rfl Try.isAgg27 (hst.bc0 rfl)) ?_
      refine wl_val (v := .bool (a0.Epoch != a1.Epoch)) ((wanted_eq rfl rfl rfl (congrArg Value.bool hc295)).trans rfl) rfl rfl ?_
      refine wl_val (v := .bool (a0.Epoch != a1.Epoch)) rfl rfl (x_pick_f hc295 rfl rfl) ?_
      refine wl_val (v := .bool (a0.Epoch != a1.Epoch)) rfl rfl rfl ?_
      refine bsplit (a0.Epoch != a1.Epoch) (fun hc296 => ?_) (fun hc296 => ?_)
      · skip
        replace hm := bif_t hc296 hm
        refine wl_off ((wanted_eq rfl rfl rfl (congrArg Value.bool hc296)).trans rfl) rfl ?_
        refine wl_off ((wanted_eq rfl rfl rfl (congrArg Value.bool hc296)).trans rfl) rfl ?_
        refine wl_off ((wanted_eq rfl rfl rfl (congrArg Value.bool hc296)).trans rfl) rfl ?_
        refine wl_off ((wanted_eq rfl rfl rfl (congrArg Value.bool hc296)).trans rfl) rfl ?_
        refine wl_off ((wanted_eq rfl rfl rfl (congrArg Value.bool hc296)).trans rfl) rfl ?_
        refine wl_val (v := .bool true) rfl rfl (x_pick_t hc296 rfl rfl) ?_
        refine wl_val (v := .bool true) rfl rfl rfl ?_
        refine wl_off ((wanted_eq rfl rfl rfl rfl).trans rfl) rfl ?_
        refine wl_off ((wanted_eq rfl rfl rfl rfl).trans rfl) rfl ?_
        refine wl_off ((wanted_eq rfl rfl rfl rfl).trans rfl) rfl ?_
        refine wl_off ((wanted_eq rfl rfl rfl rfl).trans rfl) rfl ?_
        refine wl_off ((wanted_eq rfl rfl rfl rfl).trans rfl) rfl ?_
        refine wl_val (v := .bool true) rfl rfl (x_pick_t rfl rfl rfl) ?_
        refine wl_val (v := .bool true) rfl rfl rfl ?_
        refine wl_off ((wanted_eq rfl rfl rfl rfl).trans rfl) rfl ?_
        refine wl_off ((wanted_eq rfl rfl rfl rfl).trans rfl) rfl ?_
        refine wl_off ((wanted_eq rfl rfl rfl rfl).trans rfl) rfl ?_
        refine wl_off ((wanted_eq rfl rfl rfl rfl).trans rfl) rfl ?_
        refine wl_off ((wanted_eq rfl rfl rfl rfl).trans rfl) rfl ?_
        refine wl_off ((wanted_eq rfl rfl rfl rfl).trans rfl) rfl ?_
        refine wl_val (v := .bool true) rfl rfl (x_pick_t rfl rfl rfl) ?_
        refine wl_val (v := .bool true) rfl rfl rfl ?_
        refine wl_off ((wanted_eq rfl rfl rfl rfl).trans rfl) rfl ?_
        refine wl_off ((wanted_eq rfl rfl rfl rfl).trans rfl) rfl ?_
        refine wl_off ((wanted_eq rfl rfl rfl rfl).trans rfl) rfl ?_
        refine wl_off ((wanted_eq rfl rfl rfl rfl).trans rfl) rfl ?_
        refine wl_off ((wanted_eq rfl rfl rfl rfl).trans rfl) rfl ?_
        refine wl_off ((wanted_eq rfl rfl rfl rfl).trans rfl) rfl ?_
        refine wl_val (v := .bool true) rfl rfl (x_pick_t rfl rfl rfl) ?_
        refine wl_val (v := .bool true) rfl rfl rfl ?_
        refine wl_off ((wanted_eq rfl rfl rfl rfl).trans rfl) rfl ?_
        refine wl_off ((wanted_eq rfl rfl rfl rfl).trans rfl) rfl ?_
        refine wl_off ((wanted_eq rfl rfl rfl rfl).trans rfl) rfl ?_
        refine wl_off ((wanted_eq rfl rfl rfl rfl).trans rfl) rfl ?_
        refine wl_off ((wanted_eq rfl rfl rfl rfl).trans rfl) rfl ?_
        refine wl_off ((wanted_eq rfl rfl rfl rfl).trans rfl) rfl ?_
        refine wl_val (v := .bool true) rfl rfl (x_pick_t rfl rfl rfl) ?_
        refine wl_val (v := .bool true) rfl rfl rfl ?_
        refine wl_off ((wanted_eq rfl rfl rfl rfl).trans rfl) rfl ?_
        refine wl_off ((wanted_eq rfl rfl rfl rfl).trans rfl) rfl ?_
        refine wl_off ((wanted_eq rfl rfl rfl rfl).trans rfl) rfl ?_
        refine wl_off ((wanted_eq rfl rfl rfl rfl).trans rfl) rfl ?_
        refine wl_off ((wanted_eq rfl rfl rfl rfl).trans rfl) rfl ?_
        refine wl_val (v := .bool true) rfl rfl (x_pick_t rfl rfl rfl) ?_
        refine wl_val (v := .bool true) rfl rfl rfl ?_
        refine wl_off ((wanted_eq rfl rfl rfl rfl).trans rfl) rfl ?_
        refine wl_off ((wanted_eq rfl rfl rfl rfl).trans rfl) rfl ?_
        refine wl_off ((wanted_eq rfl rfl rfl rfl).trans rfl) rfl ?_
        refine wl_off ((wanted_eq rfl rfl rfl rfl).trans rfl) rfl ?_
        refine wl_off ((wanted_eq rfl rfl rfl rfl).trans rfl) rfl ?_
        refine wl_off ((wanted_eq rfl rfl rfl rfl).trans rfl) rfl ?_
        refine wl_off ((wanted_eq rfl rfl rfl rfl).trans rfl) rfl ?_
        refine wl_val (v := .bool true) rfl rfl (x_pick_t rfl rfl rfl) ?_
        refine wl_val (v := .bool true) rfl rfl rfl ?_
        refine wl_off ((wanted_eq rfl rfl rfl rfl).trans rfl) rfl ?_
        refine wl_off ((wanted_eq rfl rfl rfl rfl).trans rfl) rfl ?_
        refine wl_off ((wanted_eq rfl rfl rfl rfl).trans rfl) rfl ?_
        refine wl_off ((wanted_eq rfl rfl rfl rfl).trans rfl) rfl ?_
        refine wl_off ((wanted_eq rfl rfl rfl rfl).trans rfl) rfl ?_
        refine wl_off ((wanted_eq rfl rfl rfl rfl).trans rfl) rfl ?_
        refine wl_val (v := .bool true) rfl rfl (x_pick_t rfl rfl rfl) ?_
        refine wl_val (v := .bool true) rfl rfl rfl ?_
        refine wl_off ((wanted_eq rfl rfl rfl rfl).trans rfl) rfl ?_
        refine wl_off ((wanted_eq rfl rfl rfl rfl).trans rfl) rfl ?_
        refine wl_off ((wanted_eq rfl rfl rfl rfl).trans rfl) rfl ?_
        refine wl_off ((wanted_eq rfl rfl rfl rfl).trans rfl) rfl ?_
        refine wl_off ((wanted_eq rfl rfl rfl rfl).trans rfl) rfl ?_
        refine wl_val (v := .bool true) rfl rfl (x_pick_t rfl rfl rfl) ?_
        refine wl_nil ?_
        refine then_n ?_
        refine wp_ift rfl ?_
        refine wp_seq ?_
        refine wp_region_lit ?_
        refine wl_val (v := .bool false) rfl rfl rfl ?_
        refine wl_nil ?_
        refine then_n ?_
        refine wp_ret ?_
        refine then_r ?_
        obtain rfl := some_inj hm
        refine post_ret (vs := [.bool false]) Try.results11 (rvs_cons (rv_tmp rfl) rvs_nil) ?_
        exact ⟨rfl, hst.keep0⟩
      · skip
        replace hm := bif_f hc296 hm
        refine wl_val (v := .pointer (some ⟨b284, 4, none⟩)) ((wanted_eq rfl rfl rfl (congrArg Value.bool hc296)).trans rfl) rfl (x_field rfl Try.underlying45 rfl Try.sizeOf27 rfl) ?_
        refine wl_val (v := .int .u64 a0.Index) ((wanted_eq rfl rfl rfl (congrArg Value.bool hc296)).trans rfl) rfl (x_load rfl Try.isAgg27 (hst.bc1 rfl)) ?_
        refine wl_val (v := .pointer (some ⟨b289, 4, none⟩)) ((wanted_eq rfl rfl rfl (congrArg Value.bool hc296)).trans rfl) rfl (x_field rfl Try.underlying45 rfl Try.sizeOf27 rfl) ?_
        refine wl_val (v := .int .u64 a1.Index) ((wanted_eq rfl rfl rfl (congrArg Value.bool hc296)).trans rfl) rfl (x_load rfl Try.isAgg27 (hst.bc0 rfl)) ?_
        refine wl_val (v := .bool (a0.Index != a1.Index)) ((wanted_eq rfl rfl rfl (congrArg Value.bool hc296)).trans rfl) rfl rfl ?_
        refine wl_val (v := .bool (a0.Index != a1.Index)) rfl rfl (x_pick_f hc296 rfl rfl) ?_
        refine wl_val (v := .bool (a0.Index != a1.Index)) rfl rfl rfl ?_
        refine bsplit (a0.Index != a1.Index) (fun hc297 => ?_) (fun hc297 => ?_)
        · skip
          replace hm := bif_t hc297 hm
          refine wl_off ((wanted_eq rfl rfl rfl (congrArg Value.bool hc297)).trans rfl) rfl ?_
          refine wl_off ((wanted_eq rfl rfl rfl (congrArg Value.bool hc297)).trans rfl) rfl ?_
          refine wl_off ((wanted_eq rfl rfl rfl (congrArg Value.bool hc297)).trans rfl) rfl ?_
          refine wl_off ((wanted_eq rfl rfl rfl (congrArg Value.bool hc297)).trans rfl) rfl ?_
          refine wl_off ((wanted_eq rfl rfl rfl (congrArg Value.bool hc297)).trans rfl) rfl ?_
          refine wl_val (v := .bool true) rfl rfl (x_pick_t hc297 rfl rfl) ?_
          refine wl_val (v := .bool true) rfl rfl rfl ?_
          refine wl_off ((wanted_eq rfl rfl rfl rfl).trans rfl) rfl ?_
          refine wl_off ((wanted_eq rfl rfl rfl rfl).trans rfl) rfl ?_
          refine wl_off ((wanted_eq rfl rfl rfl rfl).trans rfl) rfl ?_
          refine wl_off ((wanted_eq rfl rfl rfl rfl).trans rfl) rfl ?_
          refine wl_off ((wanted_eq rfl rfl rfl rfl).trans rfl) rfl ?_
          refine wl_off ((wanted_eq rfl rfl rfl rfl).trans rfl) rfl ?_
          refine wl_val (v := .bool true) rfl rfl (x_pick_t rfl rfl rfl) ?_
          refine wl_val (v := .bool true) rfl rfl rfl ?_
          refine wl_off ((wanted_eq rfl rfl rfl rfl).trans rfl) rfl ?_
          refine wl_off ((wanted_eq rfl rfl rfl rfl).trans rfl) rfl ?_
          refine wl_off ((wanted_eq rfl rfl rfl rfl).trans rfl) rfl ?_
          refine wl_off ((wanted_eq rfl rfl rfl rfl).trans rfl) rfl ?_
          refine wl_off ((wanted_eq rfl rfl rfl rfl).trans rfl) rfl ?_
          refine wl_off ((wanted_eq rfl rfl rfl rfl).trans rfl) rfl ?_
          refine wl_val (v := .bool true) rfl rfl (x_pick_t rfl rfl rfl) ?_
          refine wl_val (v := .bool true) rfl rfl rfl ?_
          refine wl_off ((wanted_eq rfl rfl rfl rfl).trans rfl) rfl ?_
          refine wl_off ((wanted_eq rfl rfl rfl rfl).trans rfl) rfl ?_
          refine wl_off ((wanted_eq rfl rfl rfl rfl).trans rfl) rfl ?_
          refine wl_off ((wanted_eq rfl rfl rfl rfl).trans rfl) rfl ?_
          refine wl_off ((wanted_eq rfl rfl rfl rfl).trans rfl) rfl ?_
          refine wl_off ((wanted_eq rfl rfl rfl rfl).trans rfl) rfl ?_
          refine wl_val (v := .bool true) rfl rfl (x_pick_t rfl rfl rfl) ?_
          refine wl_val (v := .bool true) rfl rfl rfl ?_
          refine wl_off ((wanted_eq rfl rfl rfl rfl).trans rfl) rfl ?_
          refine wl_off ((wanted_eq rfl rfl rfl rfl).trans rfl) rfl ?_
          refine wl_off ((wanted_eq rfl rfl rfl rfl).trans rfl) rfl ?_
          refine wl_off ((wanted_eq rfl rfl rfl rfl).trans rfl) rfl ?_
          refine wl_off ((wanted_eq rfl rfl rfl rfl).trans rfl) rfl ?_
          refine wl_val (v := .bool true) rfl rfl (x_pick_t rfl rfl rfl) ?_
          refine wl_val (v := .bool true) rfl rfl rfl ?_
          refine wl_off ((wanted_eq rfl rfl rfl rfl).trans rfl) rfl ?_
          refine wl_off ((wanted_eq rfl rfl rfl rfl).trans rfl) rfl ?_
          refine wl_off ((wanted_eq rfl rfl rfl rfl).trans rfl) rfl ?_
          refine wl_off ((wanted_eq rfl rfl rfl rfl).trans rfl) rfl ?_
          refine wl_off ((wanted_eq rfl rfl rfl rfl).trans rfl) rfl ?_
          refine wl_off ((wanted_eq rfl rfl rfl rfl).trans rfl) rfl ?_
          refine wl_off ((wanted_eq rfl rfl rfl rfl).trans rfl) rfl ?_
          refine wl_val (v := .bool true) rfl rfl (x_pick_t rfl rfl rfl) ?_
          refine wl_val (v := .bool true) rfl rfl rfl ?_
          refine wl_off ((wanted_eq rfl rfl rfl rfl).trans rfl) rfl ?_
          refine wl_off ((wanted_eq rfl rfl rfl rfl).trans rfl) rfl ?_
          refine wl_off ((wanted_eq rfl rfl rfl rfl).trans rfl) rfl ?_
          refine wl_off ((wanted_eq rfl rfl rfl rfl).trans rfl) rfl ?_
          refine wl_off ((wanted_eq rfl rfl rfl rfl).trans rfl) rfl ?_
          refine wl_off ((wanted_eq rfl rfl rfl rfl).trans rfl) rfl ?_
          refine wl_val (v := .bool true) rfl rfl (x_pick_t rfl rfl rfl) ?_
          refine wl_val (v := .bool true) rfl rfl rfl ?_
          refine wl_off ((wanted_eq rfl rfl rfl rfl).trans rfl) rfl ?_
          refine wl_off ((wanted_eq rfl rfl rfl rfl).trans rfl) rfl ?_
          refine wl_off ((wanted_eq rfl rfl rfl rfl).trans rfl) rfl ?_
          refine wl_off ((wanted_eq rfl rfl rfl rfl).trans rfl) rfl ?_
          refine wl_off ((wanted_eq rfl rfl rfl rfl).trans rfl) rfl ?_
          refine wl_val (v := .bool true) rfl rfl (x_pick_t rfl rfl rfl) ?_
          refine wl_nil ?_
          refine then_n ?_
          refine wp_ift rfl ?_
          refine wp_seq ?_
          refine wp_region_lit ?_
          refine wl_val (v := .bool false) rfl rfl rfl ?_
          refine wl_nil ?_
          refine then_n ?_
          refine wp_ret ?_
          refine then_r ?_
          obtain rfl := some_inj hm
          refine post_ret (vs := [.bool false]) Try.results11 (rvs_cons (rv_tmp rfl) rvs_nil) ?_
          exact ⟨rfl, hst.keep0⟩
        · skip
          replace hm := bif_f hc297 hm
          refine wl_val (v := .pointer (some ⟨b284, 5, none⟩)) ((wanted_eq rfl rfl rfl (congrArg Value.bool hc297)).trans rfl) rfl (x_field rfl Try.underlying45 rfl Try.sizeOf30 rfl) ?_
          refine wl_val (v := .int .i64 a0.E) ((wanted_eq rfl rfl rfl (congrArg Value.bool hc297)).trans rfl) rfl (x_load rfl Try.isAgg30 (hst.bc1 rfl)) ?_
          refine wl_val (v := .pointer (some ⟨b289, 5, none⟩)) ((wanted_eq rfl rfl rfl (congrArg Value.bool hc297)).trans rfl) rfl (x_field rfl Try.underlying45 rfl Try.sizeOf30 rfl) ?_
          refine wl_val (v := .int .i64 a1.E) ((wanted_eq rfl rfl rfl (congrArg Value.bool hc297)).trans rfl) rfl (x_load rfl Try.isAgg30 (hst.bc0 rfl)) ?_
          refine wl_val (v := .bool (a0.E != a1.E)) ((wanted_eq rfl rfl rfl (congrArg Value.bool hc297)).trans rfl) rfl rfl ?_
          refine wl_val (v := .bool (a0.E != a1.E)) rfl rfl (x_pick_f hc297 rfl rfl) ?_
          refine wl_val (v := .bool (a0.E != a1.E)) rfl rfl rfl ?_
          refine bsplit (a0.E != a1.E) (fun hc298 => ?_) (fun hc298 => ?_)
          · skip
            replace hm := bif_t hc298 hm
            refine wl_off ((wanted_eq rfl rfl rfl (congrArg Value.bool hc298)).trans rfl) rfl ?_
            refine wl_off ((wanted_eq rfl rfl rfl (congrArg Value.bool hc298)).trans rfl) rfl ?_
            refine wl_off ((wanted_eq rfl rfl rfl (congrArg Value.bool hc298)).trans rfl) rfl ?_
            refine wl_off ((wanted_eq rfl rfl rfl (congrArg Value.bool hc298)).trans rfl) rfl ?_
            refine wl_off ((wanted_eq rfl rfl rfl (congrArg Value.bool hc298)).trans rfl) rfl ?_
            refine wl_off ((wanted_eq rfl rfl rfl (congrArg Value.bool hc298)).trans rfl) rfl ?_
            refine wl_val (v := .bool true) rfl rfl (x_pick_t hc298 rfl rfl) ?_
            refine wl_val (v := .bool true) rfl rfl rfl ?_
            refine wl_off ((wanted_eq rfl rfl rfl rfl).trans rfl) rfl ?_
            refine wl_off ((wanted_eq rfl rfl rfl rfl).trans rfl) rfl ?_
            refine wl_off ((wanted_eq rfl rfl rfl rfl).trans rfl) rfl ?_
            refine wl_off ((wanted_eq rfl rfl rfl rfl).trans rfl) rfl ?_
            refine wl_off ((wanted_eq rfl rfl rfl rfl).trans rfl) rfl ?_
            refine wl_off ((wanted_eq rfl rfl rfl rfl).trans rfl) rfl ?_
            refine wl_val (v := .bool true) rfl rfl (x_pick_t rfl rfl rfl) ?_
            refine wl_val (v := .bool true) rfl rfl rfl ?_
            refine wl_off ((wanted_eq rfl rfl rfl rfl).trans rfl) rfl ?_
            refine wl_off ((wanted_eq rfl rfl rfl rfl).trans rfl) rfl ?_
            refine wl_off ((wanted_eq rfl rfl rfl rfl).trans rfl) rfl ?_
            refine wl_off ((wanted_eq rfl rfl rfl rfl).trans rfl) rfl ?_
            refine wl_off ((wanted_eq rfl rfl rfl rfl).trans rfl) rfl ?_
            refine wl_off ((wanted_eq rfl rfl rfl rfl).trans rfl) rfl ?_
            refine wl_val (v := .bool true) rfl rfl (x_pick_t rfl rfl rfl) ?_
            refine wl_val (v := .bool true) rfl rfl rfl ?_
            refine wl_off ((wanted_eq rfl rfl rfl rfl).trans rfl) rfl ?_
            refine wl_off ((wanted_eq rfl rfl rfl rfl).trans rfl) rfl ?_
            refine wl_off ((wanted_eq rfl rfl rfl rfl).trans rfl) rfl ?_
            refine wl_off ((wanted_eq rfl rfl rfl rfl).trans rfl) rfl ?_
            refine wl_off ((wanted_eq rfl rfl rfl rfl).trans rfl) rfl ?_
            refine wl_val (v := .bool true) rfl rfl (x_pick_t rfl rfl rfl) ?_
            refine wl_val (v := .bool true) rfl rfl rfl ?_
            refine wl_off ((wanted_eq rfl rfl rfl rfl).trans rfl) rfl ?_
            refine wl_off ((wanted_eq rfl rfl rfl rfl).trans rfl) rfl ?_
            refine wl_off ((wanted_eq rfl rfl rfl rfl).trans rfl) rfl ?_
            refine wl_off ((wanted_eq rfl rfl rfl rfl).trans rfl) rfl ?_
            refine wl_off ((wanted_eq rfl rfl rfl rfl).trans rfl) rfl ?_
            refine wl_off ((wanted_eq rfl rfl rfl rfl).trans rfl) rfl ?_
            refine wl_off ((wanted_eq rfl rfl rfl rfl).trans rfl) rfl ?_
            refine wl_val (v := .bool true) rfl rfl (x_pick_t rfl rfl rfl) ?_
            refine wl_val (v := .bool true) rfl rfl rfl ?_
            refine wl_off ((wanted_eq rfl rfl rfl rfl).trans rfl) rfl ?_
            refine wl_off ((wanted_eq rfl rfl rfl rfl).trans rfl) rfl ?_
            refine wl_off ((wanted_eq rfl rfl rfl rfl).trans rfl) rfl ?_
            refine wl_off ((wanted_eq rfl rfl rfl rfl).trans rfl) rfl ?_
            refine wl_off ((wanted_eq rfl rfl rfl rfl).trans rfl) rfl ?_
            refine wl_off ((wanted_eq rfl rfl rfl rfl).trans rfl) rfl ?_
            refine wl_val (v := .bool true) rfl rfl (x_pick_t rfl rfl rfl) ?_
            refine wl_val (v := .bool true) rfl rfl rfl ?_
            refine wl_off ((wanted_eq rfl rfl rfl rfl).trans rfl) rfl ?_
            refine wl_off ((wanted_eq rfl rfl rfl rfl).trans rfl) rfl ?_
            refine wl_off ((wanted_eq rfl rfl rfl rfl).trans rfl) rfl ?_
            refine wl_off ((wanted_eq rfl rfl rfl rfl).trans rfl) rfl ?_
            refine wl_off ((wanted_eq rfl rfl rfl rfl).trans rfl) rfl ?_
            refine wl_val (v := .bool true) rfl rfl (x_pick_t rfl rfl rfl) ?_
            refine wl_nil ?_
            refine then_n ?_
            refine wp_ift rfl ?_
            refine wp_seq ?_
            refine wp_region_lit ?_
            refine wl_val (v := .bool false) rfl rfl rfl ?_
            refine wl_nil ?_
            refine then_n ?_
            refine wp_ret ?_
            refine then_r ?_
            obtain rfl := some_inj hm
            refine post_ret (vs := [.bool false]) Try.results11 (rvs_cons (rv_tmp rfl) rvs_nil) ?_
            exact ⟨rfl, hst.keep0⟩
          · skip
            replace hm := bif_f hc298 hm
            refine wl_val (v := .pointer (some ⟨b284, 6, none⟩)) ((wanted_eq rfl rfl rfl (congrArg Value.bool hc298)).trans rfl) rfl (x_field rfl Try.underlying45 rfl Try.sizeOf34 rfl) ?_
            refine wl_val (v := .agg #[.int .u64 a0.Hold.ID.Session, .int .u64 a0.Hold.ID.Seq, .int .u64 a0.Hold.Epoch, r0_0, r0_1, r0_2, r0_3]) ((wanted_eq rfl rfl rfl (congrArg Value.bool hc298)).trans rfl) rfl (x_loadN (cs := [.int .u64 a0.Hold.ID.Session, .int .u64 a0.Hold.ID.Seq, .int .u64 a0.Hold.Epoch, r0_0, r0_1, r0_2, r0_3]) rfl Try.isAgg34 Try.sizeOf34 (hst.bcs1 6 rfl)) ?_
            refine wl_val (v := .pointer (some ⟨b289, 6, none⟩)) ((wanted_eq rfl rfl rfl (congrArg Value.bool hc298)).trans rfl) rfl (x_field rfl Try.underlying45 rfl Try.sizeOf34 rfl) ?_
            refine wl_val (v := .agg #[.int .u64 a1.Hold.ID.Session, .int .u64 a1.Hold.ID.Seq, .int .u64 a1.Hold.Epoch, r1_0, r1_1, r1_2, r1_3]) ((wanted_eq rfl rfl rfl (congrArg Value.bool hc298)).trans rfl) rfl (x_loadN (cs := [.int .u64 a1.Hold.ID.Session, .int .u64 a1.Hold.ID.Seq, .int .u64 a1.Hold.Epoch, r1_0, r1_1, r1_2, r1_3]) rfl Try.isAgg34 Try.sizeOf34 (hst.bcs0 6 rfl)) ?_
            obtain ⟨t299, ht300, hm⟩ := bind_some hm
            refine wl_call ((wanted_eq rfl rfl rfl (congrArg Value.bool hc298)).trans rfl) rfl (x_call Try.call33 rfl (vs := [.agg #[.int .u64 a0.Hold.ID.Session, .int .u64 a0.Hold.ID.Seq, .int .u64 a0.Hold.Epoch, r0_0, r0_1, r0_2, r0_3], .agg #[.int .u64 a1.Hold.ID.Session, .int .u64 a1.Hold.ID.Seq, .int .u64 a1.Hold.Epoch, r1_0, r1_1, r1_2, r1_3]]) rfl) ?_
            refine (ref11_SameHold_ref (f0_0.mono (rd_weak _)) (f0_1.mono (rd_weak _)) (f0_2.mono (rd_weak _)) (f0_3.mono (rd_weak _)) (f1_0.mono (rd_weak _)) (f1_1.mono (rd_weak _)) (f1_2.mono (rd_weak _)) (f1_3.mono (rd_weak _)) hst.to0 ht300).mono ?_
            rintro _ w301 ⟨rfl, hst⟩
            refine ⟨_, rfl, ?_⟩
            replace hst := hst.of0
            refine wl_val (v := .bool (!t299)) ((wanted_eq rfl rfl rfl (congrArg Value.bool hc298)).trans rfl) rfl rfl ?_
            refine wl_val (v := .bool (!t299)) rfl rfl (x_pick_f hc298 rfl rfl) ?_
            refine wl_val (v := .bool (!t299)) rfl rfl rfl ?_
            refine bsplit (!t299) (fun hc304 => ?_) (fun hc304 => ?_)
            · skip
              replace hm := bif_t hc304 hm
              refine wl_off ((wanted_eq rfl rfl rfl (congrArg Value.bool hc304)).trans rfl) rfl ?_
              refine wl_off ((wanted_eq rfl rfl rfl (congrArg Value.bool hc304)).trans rfl) rfl ?_
              refine wl_off ((wanted_eq rfl rfl rfl (congrArg Value.bool hc304)).trans rfl) rfl ?_
              refine wl_off ((wanted_eq rfl rfl rfl (congrArg Value.bool hc304)).trans rfl) rfl ?_
              refine wl_off ((wanted_eq rfl rfl rfl (congrArg Value.bool hc304)).trans rfl) rfl ?_
              refine wl_off ((wanted_eq rfl rfl rfl (congrArg Value.bool hc304)).trans rfl) rfl ?_
              refine wl_val (v := .bool true) rfl rfl (x_pick_t hc304 rfl rfl) ?_
              refine wl_val (v := .bool true) rfl rfl rfl ?_
              refine wl_off ((wanted_eq rfl rfl rfl rfl).trans rfl) rfl ?_
              refine wl_off ((wanted_eq rfl rfl rfl rfl).trans rfl) rfl ?_
              refine wl_off ((wanted_eq rfl rfl rfl rfl).trans rfl) rfl ?_
              refine wl_off ((wanted_eq rfl rfl rfl rfl).trans rfl) rfl ?_
              refine wl_off ((wanted_eq rfl rfl rfl rfl).trans rfl) rfl ?_
              refine wl_off ((wanted_eq rfl rfl rfl rfl).trans rfl) rfl ?_
              refine wl_val (v := .bool true) rfl rfl (x_pick_t rfl rfl rfl) ?_
              refine wl_val (v := .bool true) rfl rfl rfl ?_
              refine wl_off ((wanted_eq rfl rfl rfl rfl).trans rfl) rfl ?_
              refine wl_off ((wanted_eq rfl rfl rfl rfl).trans rfl) rfl ?_
              refine wl_off ((wanted_eq rfl rfl rfl rfl).trans rfl) rfl ?_
              refine wl_off ((wanted_eq rfl rfl rfl rfl).trans rfl) rfl ?_
              refine wl_off ((wanted_eq rfl rfl rfl rfl).trans rfl) rfl ?_
              refine wl_val (v := .bool true) rfl rfl (x_pick_t rfl rfl rfl) ?_
              refine wl_val (v := .bool true) rfl rfl rfl ?_
              refine wl_off ((wanted_eq rfl rfl rfl rfl).trans rfl) rfl ?_
              refine wl_off ((wanted_eq rfl rfl rfl rfl).trans rfl) rfl ?_
              refine wl_off ((wanted_eq rfl rfl rfl rfl).trans rfl) rfl ?_
              refine wl_off ((wanted_eq rfl rfl rfl rfl).trans rfl) rfl ?_
              refine wl_off ((wanted_eq rfl rfl rfl rfl).trans rfl) rfl ?_
              refine wl_off ((wanted_eq rfl rfl rfl rfl).trans rfl) rfl ?_
              refine wl_off ((wanted_eq rfl rfl rfl rfl).trans rfl) rfl ?_
              refine wl_val (v := .bool true) rfl rfl (x_pick_t rfl rfl rfl) ?_
              refine wl_val (v := .bool true) rfl rfl rfl ?_
              refine wl_off ((wanted_eq rfl rfl rfl rfl).trans rfl) rfl ?_
              refine wl_off ((wanted_eq rfl rfl rfl rfl).trans rfl) rfl ?_
              refine wl_off ((wanted_eq rfl rfl rfl rfl).trans rfl) rfl ?_
              refine wl_off ((wanted_eq rfl rfl rfl rfl).trans rfl) rfl ?_
              refine wl_off ((wanted_eq rfl rfl rfl rfl).trans rfl) rfl ?_
              refine wl_off ((wanted_eq rfl rfl rfl rfl).trans rfl) rfl ?_
              refine wl_val (v := .bool true) rfl rfl (x_pick_t rfl rfl rfl) ?_
              refine wl_val (v := .bool true) rfl rfl rfl ?_
              refine wl_off ((wanted_eq rfl rfl rfl rfl).trans rfl) rfl ?_
              refine wl_off ((wanted_eq rfl rfl rfl rfl).trans rfl) rfl ?_
              refine wl_off ((wanted_eq rfl rfl rfl rfl).trans rfl) rfl ?_
              refine wl_off ((wanted_eq rfl rfl rfl rfl).trans rfl) rfl ?_
              refine wl_off ((wanted_eq rfl rfl rfl rfl).trans rfl) rfl ?_
              refine wl_val (v := .bool true) rfl rfl (x_pick_t rfl rfl rfl) ?_
              refine wl_nil ?_
              refine then_n ?_
              refine wp_ift rfl ?_
              refine wp_seq ?_
              refine wp_region_lit ?_
              refine wl_val (v := .bool false) rfl rfl rfl ?_
              refine wl_nil ?_
              refine then_n ?_
              refine wp_ret ?_
              refine then_r ?_
              obtain rfl := some_inj hm
              refine post_ret (vs := [.bool false]) Try.results11 (rvs_cons (rv_tmp rfl) rvs_nil) ?_
              exact ⟨rfl, hst.keep0⟩
            · skip
              replace hm := bif_f hc304 hm
              refine wl_val (v := .pointer (some ⟨b284, 13, none⟩)) ((wanted_eq rfl rfl rfl (congrArg Value.bool hc304)).trans rfl) rfl (x_field rfl Try.underlying45 rfl Try.sizeOf35 rfl) ?_
              refine wl_val (v := r0_4) ((wanted_eq rfl rfl rfl (congrArg Value.bool hc304)).trans rfl) rfl (x_load rfl Try.isAgg35 (hst.bc1 rfl)) ?_
              refine wl_val (v := .pointer (some ⟨b289, 13, none⟩)) ((wanted_eq rfl rfl rfl (congrArg Value.bool hc304)).trans rfl) rfl (x_field rfl Try.underlying45 rfl Try.sizeOf35 rfl) ?_
              refine wl_val (v := r1_4) ((wanted_eq rfl rfl rfl (congrArg Value.bool hc304)).trans rfl) rfl (x_load rfl Try.isAgg35 (hst.bc0 rfl)) ?_
              obtain ⟨t305, ht306, hm⟩ := bind_some hm
              refine wl_call ((wanted_eq rfl rfl rfl (congrArg Value.bool hc304)).trans rfl) rfl (x_call Try.call34 rfl (vs := [r0_4, r1_4]) rfl) ?_
              refine (ref13_SameWrites_ref (f0_4.mono (rd_weak _)) (f1_4.mono (rd_weak _)) hst.to0 ht306).mono ?_
              rintro _ w307 ⟨rfl, hst⟩
              refine ⟨_, rfl, ?_⟩
              replace hst := hst.of0
              refine wl_val (v := .bool (!t305)) ((wanted_eq rfl rfl rfl (congrArg Value.bool hc304)).trans rfl) rfl rfl ?_
              refine wl_val (v := .bool (!t305)) rfl rfl (x_pick_f hc304 rfl rfl) ?_
              refine wl_val (v := .bool (!t305)) rfl rfl rfl ?_
              refine bsplit (!t305) (fun hc310 => ?_) (fun hc310 => ?_)
              · skip
                replace hm := bif_t hc310 hm
                refine wl_off ((wanted_eq rfl rfl rfl (congrArg Value.bool hc310)).trans rfl) rfl ?_
                refine wl_off ((wanted_eq rfl rfl rfl (congrArg Value.bool hc310)).trans rfl) rfl ?_
                refine wl_off ((wanted_eq rfl rfl rfl (congrArg Value.bool hc310)).trans rfl) rfl ?_
                refine wl_off ((wanted_eq rfl rfl rfl (congrArg Value.bool hc310)).trans rfl) rfl ?_
                refine wl_off ((wanted_eq rfl rfl rfl (congrArg Value.bool hc310)).trans rfl) rfl ?_
                refine wl_off ((wanted_eq rfl rfl rfl (congrArg Value.bool hc310)).trans rfl) rfl ?_
                refine wl_val (v := .bool true) rfl rfl (x_pick_t hc310 rfl rfl) ?_
                refine wl_val (v := .bool true) rfl rfl rfl ?_
                refine wl_off ((wanted_eq rfl rfl rfl rfl).trans rfl) rfl ?_
                refine wl_off ((wanted_eq rfl rfl rfl rfl).trans rfl) rfl ?_
                refine wl_off ((wanted_eq rfl rfl rfl rfl).trans rfl) rfl ?_
                refine wl_off ((wanted_eq rfl rfl rfl rfl).trans rfl) rfl ?_
                refine wl_off ((wanted_eq rfl rfl rfl rfl).trans rfl) rfl ?_
                refine wl_val (v := .bool true) rfl rfl (x_pick_t rfl rfl rfl) ?_
                refine wl_val (v := .bool true) rfl rfl rfl ?_
                refine wl_off ((wanted_eq rfl rfl rfl rfl).trans rfl) rfl ?_
                refine wl_off ((wanted_eq rfl rfl rfl rfl).trans rfl) rfl ?_
                refine wl_off ((wanted_eq rfl rfl rfl rfl).trans rfl) rfl ?_
                refine wl_off ((wanted_eq rfl rfl rfl rfl).trans rfl) rfl ?_
                refine wl_off ((wanted_eq rfl rfl rfl rfl).trans rfl) rfl ?_
                refine wl_off ((wanted_eq rfl rfl rfl rfl).trans rfl) rfl ?_
                refine wl_off ((wanted_eq rfl rfl rfl rfl).trans rfl) rfl ?_
                refine wl_val (v := .bool true) rfl rfl (x_pick_t rfl rfl rfl) ?_
                refine wl_val (v := .bool true) rfl rfl rfl ?_
                refine wl_off ((wanted_eq rfl rfl rfl rfl).trans rfl) rfl ?_
                refine wl_off ((wanted_eq rfl rfl rfl rfl).trans rfl) rfl ?_
                refine wl_off ((wanted_eq rfl rfl rfl rfl).trans rfl) rfl ?_
                refine wl_off ((wanted_eq rfl rfl rfl rfl).trans rfl) rfl ?_
                refine wl_off ((wanted_eq rfl rfl rfl rfl).trans rfl) rfl ?_
                refine wl_off ((wanted_eq rfl rfl rfl rfl).trans rfl) rfl ?_
                refine wl_val (v := .bool true) rfl rfl (x_pick_t rfl rfl rfl) ?_
                refine wl_val (v := .bool true) rfl rfl rfl ?_
                refine wl_off ((wanted_eq rfl rfl rfl rfl).trans rfl) rfl ?_
                refine wl_off ((wanted_eq rfl rfl rfl rfl).trans rfl) rfl ?_
                refine wl_off ((wanted_eq rfl rfl rfl rfl).trans rfl) rfl ?_
                refine wl_off ((wanted_eq rfl rfl rfl rfl).trans rfl) rfl ?_
                refine wl_off ((wanted_eq rfl rfl rfl rfl).trans rfl) rfl ?_
                refine wl_val (v := .bool true) rfl rfl (x_pick_t rfl rfl rfl) ?_
                refine wl_nil ?_
                refine then_n ?_
                refine wp_ift rfl ?_
                refine wp_seq ?_
                refine wp_region_lit ?_
                refine wl_val (v := .bool false) rfl rfl rfl ?_
                refine wl_nil ?_
                refine then_n ?_
                refine wp_ret ?_
                refine then_r ?_
                obtain rfl := some_inj hm
                refine post_ret (vs := [.bool false]) Try.results11 (rvs_cons (rv_tmp rfl) rvs_nil) ?_
                exact ⟨rfl, hst.keep0⟩
              · skip
                replace hm := bif_f hc310 hm
                refine wl_val (v := .pointer (some ⟨b284, 14, none⟩)) ((wanted_eq rfl rfl rfl (congrArg Value.bool hc310)).trans rfl) rfl (x_field rfl Try.underlying45 rfl Try.sizeOf39 rfl) ?_
                refine wl_val (v := .agg #[.int .i64 a0.R.E, .int .u64 a0.R.Epoch, .int .u64 a0.R.Index, r0_5, r0_6]) ((wanted_eq rfl rfl rfl (congrArg Value.bool hc310)).trans rfl) rfl (x_loadN (cs := [.int .i64 a0.R.E, .int .u64 a0.R.Epoch, .int .u64 a0.R.Index, r0_5, r0_6]) rfl Try.isAgg39 Try.sizeOf39 (hst.bcs1 14 rfl)) ?_
                refine wl_val (v := .pointer (some ⟨b289, 14, none⟩)) ((wanted_eq rfl rfl rfl (congrArg Value.bool hc310)).trans rfl) rfl (x_field rfl Try.underlying45 rfl Try.sizeOf39 rfl) ?_
                refine wl_val (v := .agg #[.int .i64 a1.R.E, .int .u64 a1.R.Epoch, .int .u64 a1.R.Index, r1_5, r1_6]) ((wanted_eq rfl rfl rfl (congrArg Value.bool hc310)).trans rfl) rfl (x_loadN (cs := [.int .i64 a1.R.E, .int .u64 a1.R.Epoch, .int .u64 a1.R.Index, r1_5, r1_6]) rfl Try.isAgg39 Try.sizeOf39 (hst.bcs0 14 rfl)) ?_
                obtain ⟨t311, ht312, hm⟩ := bind_some hm
                refine wl_call ((wanted_eq rfl rfl rfl (congrArg Value.bool hc310)).trans rfl) rfl (x_call Try.call19 rfl (vs := [.agg #[.int .i64 a0.R.E, .int .u64 a0.R.Epoch, .int .u64 a0.R.Index, r0_5, r0_6], .agg #[.int .i64 a1.R.E, .int .u64 a1.R.Epoch, .int .u64 a1.R.Index, r1_5, r1_6]]) rfl) ?_
                refine (ref11_SameReply_ref (f0_5.mono (rd_weak _)) (f0_6.mono (rd_weak _)) (f1_5.mono (rd_weak _)) (f1_6.mono (rd_weak _)) hst.to0 ht312).mono ?_
                rintro _ w313 ⟨rfl, hst⟩
                refine ⟨_, rfl, ?_⟩
                replace hst := hst.of0
                refine wl_val (v := .bool (!t311)) ((wanted_eq rfl rfl rfl (congrArg Value.bool hc310)).trans rfl) rfl rfl ?_
                refine wl_val (v := .bool (!t311)) rfl rfl (x_pick_f hc310 rfl rfl) ?_
                refine wl_val (v := .bool (!t311)) rfl rfl rfl ?_
                refine bsplit (!t311) (fun hc316 => ?_) (fun hc316 => ?_)
                · skip
                  replace hm := bif_t hc316 hm
                  refine wl_off ((wanted_eq rfl rfl rfl (congrArg Value.bool hc316)).trans rfl) rfl ?_
                  refine wl_off ((wanted_eq rfl rfl rfl (congrArg Value.bool hc316)).trans rfl) rfl ?_
                  refine wl_off ((wanted_eq rfl rfl rfl (congrArg Value.bool hc316)).trans rfl) rfl ?_
                  refine wl_off ((wanted_eq rfl rfl rfl (congrArg Value.bool hc316)).trans rfl) rfl ?_
                  refine wl_off ((wanted_eq rfl rfl rfl (congrArg Value.bool hc316)).trans rfl) rfl ?_
                  refine wl_val (v := .bool true) rfl rfl (x_pick_t hc316 rfl rfl) ?_
                  refine wl_val (v := .bool true) rfl rfl rfl ?_
                  refine wl_off ((wanted_eq rfl rfl rfl rfl).trans rfl) rfl ?_
                  refine wl_off ((wanted_eq rfl rfl rfl rfl).trans rfl) rfl ?_
                  refine wl_off ((wanted_eq rfl rfl rfl rfl).trans rfl) rfl ?_
                  refine wl_off ((wanted_eq rfl rfl rfl rfl).trans rfl) rfl ?_
                  refine wl_off ((wanted_eq rfl rfl rfl rfl).trans rfl) rfl ?_
                  refine wl_off ((wanted_eq rfl rfl rfl rfl).trans rfl) rfl ?_
                  refine wl_off ((wanted_eq rfl rfl rfl rfl).trans rfl) rfl ?_
                  refine wl_val (v := .bool true) rfl rfl (x_pick_t rfl rfl rfl) ?_
                  refine wl_val (v := .bool true) rfl rfl rfl ?_
                  refine wl_off ((wanted_eq rfl rfl rfl rfl).trans rfl) rfl ?_
                  refine wl_off ((wanted_eq rfl rfl rfl rfl).trans rfl) rfl ?_
                  refine wl_off ((wanted_eq rfl rfl rfl rfl).trans rfl) rfl ?_
                  refine wl_off ((wanted_eq rfl rfl rfl rfl).trans rfl) rfl ?_
                  refine wl_off ((wanted_eq rfl rfl rfl rfl).trans rfl) rfl ?_
                  refine wl_off ((wanted_eq rfl rfl rfl rfl).trans rfl) rfl ?_
                  refine wl_val (v := .bool true) rfl rfl (x_pick_t rfl rfl rfl) ?_
                  refine wl_val (v := .bool true) rfl rfl rfl ?_
                  refine wl_off ((wanted_eq rfl rfl rfl rfl).trans rfl) rfl ?_
                  refine wl_off ((wanted_eq rfl rfl rfl rfl).trans rfl) rfl ?_
                  refine wl_off ((wanted_eq rfl rfl rfl rfl).trans rfl) rfl ?_
                  refine wl_off ((wanted_eq rfl rfl rfl rfl).trans rfl) rfl ?_
                  refine wl_off ((wanted_eq rfl rfl rfl rfl).trans rfl) rfl ?_
                  refine wl_val (v := .bool true) rfl rfl (x_pick_t rfl rfl rfl) ?_
                  refine wl_nil ?_
                  refine then_n ?_
                  refine wp_ift rfl ?_
                  refine wp_seq ?_
                  refine wp_region_lit ?_
                  refine wl_val (v := .bool false) rfl rfl rfl ?_
                  refine wl_nil ?_
                  refine then_n ?_
                  refine wp_ret ?_
                  refine then_r ?_
                  obtain rfl := some_inj hm
                  refine post_ret (vs := [.bool false]) Try.results11 (rvs_cons (rv_tmp rfl) rvs_nil) ?_
                  exact ⟨rfl, hst.keep0⟩
                · skip
                  replace hm := bif_f hc316 hm
                  refine wl_val (v := .pointer (some ⟨b284, 19, none⟩)) ((wanted_eq rfl rfl rfl (congrArg Value.bool hc316)).trans rfl) rfl (x_field rfl Try.underlying45 rfl Try.sizeOf27 rfl) ?_
                  refine wl_val (v := .int .u64 a0.Shards) ((wanted_eq rfl rfl rfl (congrArg Value.bool hc316)).trans rfl) rfl (x_load rfl Try.isAgg27 (hst.bc1 rfl)) ?_
                  refine wl_val (v := .pointer (some ⟨b289, 19, none⟩)) ((wanted_eq rfl rfl rfl (congrArg Value.bool hc316)).trans rfl) rfl (x_field rfl Try.underlying45 rfl Try.sizeOf27 rfl) ?_
                  refine wl_val (v := .int .u64 a1.Shards) ((wanted_eq rfl rfl rfl (congrArg Value.bool hc316)).trans rfl) rfl (x_load rfl Try.isAgg27 (hst.bc0 rfl)) ?_
                  refine wl_val (v := .bool (a0.Shards != a1.Shards)) ((wanted_eq rfl rfl rfl (congrArg Value.bool hc316)).trans rfl) rfl rfl ?_
                  refine wl_val (v := .bool (a0.Shards != a1.Shards)) rfl rfl (x_pick_f hc316 rfl rfl) ?_
                  refine wl_val (v := .bool (a0.Shards != a1.Shards)) rfl rfl rfl ?_
                  refine bsplit (a0.Shards != a1.Shards) (fun hc317 => ?_) (fun hc317 => ?_)
                  · skip
                    replace hm := bif_t hc317 hm
                    refine wl_off ((wanted_eq rfl rfl rfl (congrArg Value.bool hc317)).trans rfl) rfl ?_
                    refine wl_off ((wanted_eq rfl rfl rfl (congrArg Value.bool hc317)).trans rfl) rfl ?_
                    refine wl_off ((wanted_eq rfl rfl rfl (congrArg Value.bool hc317)).trans rfl) rfl ?_
                    refine wl_off ((wanted_eq rfl rfl rfl (congrArg Value.bool hc317)).trans rfl) rfl ?_
                    refine wl_off ((wanted_eq rfl rfl rfl (congrArg Value.bool hc317)).trans rfl) rfl ?_
                    refine wl_off ((wanted_eq rfl rfl rfl (congrArg Value.bool hc317)).trans rfl) rfl ?_
                    refine wl_off ((wanted_eq rfl rfl rfl (congrArg Value.bool hc317)).trans rfl) rfl ?_
                    refine wl_val (v := .bool true) rfl rfl (x_pick_t hc317 rfl rfl) ?_
                    refine wl_val (v := .bool true) rfl rfl rfl ?_
                    refine wl_off ((wanted_eq rfl rfl rfl rfl).trans rfl) rfl ?_
                    refine wl_off ((wanted_eq rfl rfl rfl rfl).trans rfl) rfl ?_
                    refine wl_off ((wanted_eq rfl rfl rfl rfl).trans rfl) rfl ?_
                    refine wl_off ((wanted_eq rfl rfl rfl rfl).trans rfl) rfl ?_
                    refine wl_off ((wanted_eq rfl rfl rfl rfl).trans rfl) rfl ?_
                    refine wl_off ((wanted_eq rfl rfl rfl rfl).trans rfl) rfl ?_
                    refine wl_val (v := .bool true) rfl rfl (x_pick_t rfl rfl rfl) ?_
                    refine wl_val (v := .bool true) rfl rfl rfl ?_
                    refine wl_off ((wanted_eq rfl rfl rfl rfl).trans rfl) rfl ?_
                    refine wl_off ((wanted_eq rfl rfl rfl rfl).trans rfl) rfl ?_
                    refine wl_off ((wanted_eq rfl rfl rfl rfl).trans rfl) rfl ?_
                    refine wl_off ((wanted_eq rfl rfl rfl rfl).trans rfl) rfl ?_
                    refine wl_off ((wanted_eq rfl rfl rfl rfl).trans rfl) rfl ?_
                    refine wl_val (v := .bool true) rfl rfl (x_pick_t rfl rfl rfl) ?_
                    refine wl_nil ?_
                    refine then_n ?_
                    refine wp_ift rfl ?_
                    refine wp_seq ?_
                    refine wp_region_lit ?_
                    refine wl_val (v := .bool false) rfl rfl rfl ?_
                    refine wl_nil ?_
                    refine then_n ?_
                    refine wp_ret ?_
                    refine then_r ?_
                    obtain rfl := some_inj hm
                    refine post_ret (vs := [.bool false]) Try.results11 (rvs_cons (rv_tmp rfl) rvs_nil) ?_
                    exact ⟨rfl, hst.keep0⟩
                  · skip
                    replace hm := bif_f hc317 hm
                    refine wl_val (v := .pointer (some ⟨b284, 20, none⟩)) ((wanted_eq rfl rfl rfl (congrArg Value.bool hc317)).trans rfl) rfl (x_field rfl Try.underlying45 rfl Try.sizeOf40 rfl) ?_
                    refine wl_val (v := r0_7) ((wanted_eq rfl rfl rfl (congrArg Value.bool hc317)).trans rfl) rfl (x_load rfl Try.isAgg40 (hst.bc1 rfl)) ?_
                    refine wl_val (v := .int .i64 ((a0.Parts).length : Int)) ((wanted_eq rfl rfl rfl (congrArg Value.bool hc317)).trans rfl) rfl (x_len rfl Try.underlying40 (rd_sliceV f0_7)) ?_
                    refine wl_val (v := .pointer (some ⟨b289, 20, none⟩)) ((wanted_eq rfl rfl rfl (congrArg Value.bool hc317)).trans rfl) rfl (x_field rfl Try.underlying45 rfl Try.sizeOf40 rfl) ?_
                    refine wl_val (v := r1_7) ((wanted_eq rfl rfl rfl (congrArg Value.bool hc317)).trans rfl) rfl (x_load rfl Try.isAgg40 (hst.bc0 rfl)) ?_
                    refine wl_val (v := .int .i64 ((a1.Parts).length : Int)) ((wanted_eq rfl rfl rfl (congrArg Value.bool hc317)).trans rfl) rfl (x_len rfl Try.underlying40 (rd_sliceV f1_7)) ?_
                    refine wl_val (v := .bool (((a0.Parts).length : Int) != ((a1.Parts).length : Int))) ((wanted_eq rfl rfl rfl (congrArg Value.bool hc317)).trans rfl) rfl rfl ?_
                    refine wl_val (v := .bool (((a0.Parts).length : Int) != ((a1.Parts).length : Int))) rfl rfl (x_pick_f hc317 rfl rfl) ?_
                    refine wl_val (v := .bool (((a0.Parts).length : Int) != ((a1.Parts).length : Int))) rfl rfl rfl ?_
                    refine bsplit (((a0.Parts).length : Int) != ((a1.Parts).length : Int)) (fun hc318 => ?_) (fun hc318 => ?_)
                    · skip
                      replace hm := bif_t hc318 hm
                      refine wl_off ((wanted_eq rfl rfl rfl (congrArg Value.bool hc318)).trans rfl) rfl ?_
                      refine wl_off ((wanted_eq rfl rfl rfl (congrArg Value.bool hc318)).trans rfl) rfl ?_
                      refine wl_off ((wanted_eq rfl rfl rfl (congrArg Value.bool hc318)).trans rfl) rfl ?_
                      refine wl_off ((wanted_eq rfl rfl rfl (congrArg Value.bool hc318)).trans rfl) rfl ?_
                      refine wl_off ((wanted_eq rfl rfl rfl (congrArg Value.bool hc318)).trans rfl) rfl ?_
                      refine wl_off ((wanted_eq rfl rfl rfl (congrArg Value.bool hc318)).trans rfl) rfl ?_
                      refine wl_val (v := .bool true) rfl rfl (x_pick_t hc318 rfl rfl) ?_
                      refine wl_val (v := .bool true) rfl rfl rfl ?_
                      refine wl_off ((wanted_eq rfl rfl rfl rfl).trans rfl) rfl ?_
                      refine wl_off ((wanted_eq rfl rfl rfl rfl).trans rfl) rfl ?_
                      refine wl_off ((wanted_eq rfl rfl rfl rfl).trans rfl) rfl ?_
                      refine wl_off ((wanted_eq rfl rfl rfl rfl).trans rfl) rfl ?_
                      refine wl_off ((wanted_eq rfl rfl rfl rfl).trans rfl) rfl ?_
                      refine wl_val (v := .bool true) rfl rfl (x_pick_t rfl rfl rfl) ?_
                      refine wl_nil ?_
                      refine then_n ?_
                      refine wp_ift rfl ?_
                      refine wp_seq ?_
                      refine wp_region_lit ?_
                      refine wl_val (v := .bool false) rfl rfl rfl ?_
                      refine wl_nil ?_
                      refine then_n ?_
                      refine wp_ret ?_
                      refine then_r ?_
                      obtain rfl := some_inj hm
                      refine post_ret (vs := [.bool false]) Try.results11 (rvs_cons (rv_tmp rfl) rvs_nil) ?_
                      exact ⟨rfl, hst.keep0⟩
                    · skip
                      replace hm := bif_f hc318 hm
                      refine wl_val (v := .pointer (some ⟨b284, 21, none⟩)) ((wanted_eq rfl rfl rfl (congrArg Value.bool hc318)).trans rfl) rfl (x_field rfl Try.underlying45 rfl Try.sizeOf43 rfl) ?_
                      refine wl_val (v := .agg #[.int .u64 a0.Rule.ID, .int .i64 a0.Rule.From, .int .i64 a0.Rule.To, .float .f64 a0.Rule.Lo, .float .f64 a0.Rule.Hi, .int .u64 a0.Rule.Authority, .int .i64 a0.Rule.Quota]) ((wanted_eq rfl rfl rfl (congrArg Value.bool hc318)).trans rfl) rfl (x_loadN (cs := [.int .u64 a0.Rule.ID, .int .i64 a0.Rule.From, .int .i64 a0.Rule.To, .float .f64 a0.Rule.Lo, .float .f64 a0.Rule.Hi, .int .u64 a0.Rule.Authority, .int .i64 a0.Rule.Quota]) rfl Try.isAgg43 Try.sizeOf43 (hst.bcs1 21 rfl)) ?_
                      refine wl_val (v := .pointer (some ⟨b289, 21, none⟩)) ((wanted_eq rfl rfl rfl (congrArg Value.bool hc318)).trans rfl) rfl (x_field rfl Try.underlying45 rfl Try.sizeOf43 rfl) ?_
                      refine wl_val (v := .agg #[.int .u64 a1.Rule.ID, .int .i64 a1.Rule.From, .int .i64 a1.Rule.To, .float .f64 a1.Rule.Lo, .float .f64 a1.Rule.Hi, .int .u64 a1.Rule.Authority, .int .i64 a1.Rule.Quota]) ((wanted_eq rfl rfl rfl (congrArg Value.bool hc318)).trans rfl) rfl (x_loadN (cs := [.int .u64 a1.Rule.ID, .int .i64 a1.Rule.From, .int .i64 a1.Rule.To, .float .f64 a1.Rule.Lo, .float .f64 a1.Rule.Hi, .int .u64 a1.Rule.Authority, .int .i64 a1.Rule.Quota]) rfl Try.isAgg43 Try.sizeOf43 (hst.bcs0 21 rfl)) ?_
                      obtain ⟨t319, ht320, hm⟩ := bind_some hm
                      refine wl_call ((wanted_eq rfl rfl rfl (congrArg Value.bool hc318)).trans rfl) rfl (x_call Try.call35 rfl (vs := [.agg #[.int .u64 a0.Rule.ID, .int .i64 a0.Rule.From, .int .i64 a0.Rule.To, .float .f64 a0.Rule.Lo, .float .f64 a0.Rule.Hi, .int .u64 a0.Rule.Authority, .int .i64 a0.Rule.Quota], .agg #[.int .u64 a1.Rule.ID, .int .i64 a1.Rule.From, .int .i64 a1.Rule.To, .float .f64 a1.Rule.Lo, .float .f64 a1.Rule.Hi, .int .u64 a1.Rule.Authority, .int .i64 a1.Rule.Quota]]) rfl) ?_
                      refine (ref11_SameRule_ref hst.to0 ht320).mono ?_
                      rintro _ w321 ⟨rfl, hst⟩
                      refine ⟨_, rfl, ?_⟩
                      replace hst := hst.of0
                      refine wl_val (v := .bool (!t319)) ((wanted_eq rfl rfl rfl (congrArg Value.bool hc318)).trans rfl) rfl rfl ?_
                      refine wl_val (v := .bool (!t319)) rfl rfl (x_pick_f hc318 rfl rfl) ?_
                      refine wl_val (v := .bool (!t319)) rfl rfl rfl ?_
                      refine bsplit (!t319) (fun hc324 => ?_) (fun hc324 => ?_)
                      · skip
                        replace hm := bif_t hc324 hm
                        refine wl_off ((wanted_eq rfl rfl rfl (congrArg Value.bool hc324)).trans rfl) rfl ?_
                        refine wl_off ((wanted_eq rfl rfl rfl (congrArg Value.bool hc324)).trans rfl) rfl ?_
                        refine wl_off ((wanted_eq rfl rfl rfl (congrArg Value.bool hc324)).trans rfl) rfl ?_
                        refine wl_off ((wanted_eq rfl rfl rfl (congrArg Value.bool hc324)).trans rfl) rfl ?_
                        refine wl_off ((wanted_eq rfl rfl rfl (congrArg Value.bool hc324)).trans rfl) rfl ?_
                        refine wl_val (v := .bool true) rfl rfl (x_pick_t hc324 rfl rfl) ?_
                        refine wl_nil ?_
                        refine then_n ?_
                        refine wp_ift rfl ?_
                        refine wp_seq ?_
                        refine wp_region_lit ?_
                        refine wl_val (v := .bool false) rfl rfl rfl ?_
                        refine wl_nil ?_
                        refine then_n ?_
                        refine wp_ret ?_
                        refine then_r ?_
                        obtain rfl := some_inj hm
                        refine post_ret (vs := [.bool false]) Try.results11 (rvs_cons (rv_tmp rfl) rvs_nil) ?_
                        exact ⟨rfl, hst.keep0⟩
                      · skip
                        replace hm := bif_f hc324 hm
                        refine wl_val (v := .pointer (some ⟨b284, 28, none⟩)) ((wanted_eq rfl rfl rfl (congrArg Value.bool hc324)).trans rfl) rfl (x_field rfl Try.underlying45 rfl Try.sizeOf4 rfl) ?_
                        refine wl_val (v := .bool a0.On) ((wanted_eq rfl rfl rfl (congrArg Value.bool hc324)).trans rfl) rfl (x_load rfl Try.isAgg4 (hst.bc1 rfl)) ?_
                        refine wl_val (v := .pointer (some ⟨b289, 28, none⟩)) ((wanted_eq rfl rfl rfl (congrArg Value.bool hc324)).trans rfl) rfl (x_field rfl Try.underlying45 rfl Try.sizeOf4 rfl) ?_
                        refine wl_val (v := .bool a1.On) ((wanted_eq rfl rfl rfl (congrArg Value.bool hc324)).trans rfl) rfl (x_load rfl Try.isAgg4 (hst.bc0 rfl)) ?_
                        refine wl_val (v := .bool (!(a0.On == a1.On))) ((wanted_eq rfl rfl rfl (congrArg Value.bool hc324)).trans rfl) rfl (by kernel_rfl) ?_
                        refine wl_val (v := .bool (!(a0.On == a1.On))) rfl rfl (x_pick_f hc324 rfl rfl) ?_
                        refine wl_nil ?_
                        refine then_n ?_
                        refine bsplit (!(a0.On == a1.On)) (fun hc325 => ?_) (fun hc325 => ?_)
                        · skip
                          replace hm := bif_t hc325 hm
                          refine wp_ift (congrArg Value.bool hc325) ?_
                          refine wp_seq ?_
                          refine wp_region_lit ?_
                          refine wl_val (v := .bool false) rfl rfl rfl ?_
                          refine wl_nil ?_
                          refine then_n ?_
                          refine wp_ret ?_
                          refine then_r ?_
                          obtain rfl := some_inj hm
                          refine post_ret (vs := [.bool false]) Try.results11 (rvs_cons (rv_tmp rfl) rvs_nil) ?_
                          exact ⟨rfl, hst.keep0⟩
                        · skip
                          replace hm := bif_f hc325 hm
                          refine wp_iff (congrArg Value.bool hc325) ?_
                          refine wp_skip ?_
                          refine then_n ?_
                          refine wp_seq ?_
                          refine wp_seq ?_
                          refine wp_region_lit ?_
                          refine wl_val (v := .int .i64 (0:Int)) rfl rfl rfl ?_
                          refine wl_nil ?_
                          refine then_n ?_
                          refine wp_block ?_
                          obtain ⟨n389, hm⟩ := loopO_some hm
                          refine wp_loop_n (fun n a w => ∃ (z387 : Int) (σ388 : Nat → Value), loopN (law13_same_l0 a0 a1) n z387 = some r ∧ a = Fr 130 (upd (upd (upd σ388 2 (.pointer (some ⟨b284, 0, none⟩))) 3 (.pointer (some ⟨b289, 0, none⟩))) 5 (.int .i64 z387)) ∧ St w0 w I [cells b289 [.int .u8 a1.Kind, .int .u64 a1.ID.Session, .int .u64 a1.ID.Seq, .int .u64 a1.Epoch, .int .u64 a1.Index, .int .i64 a1.E, .int .u64 a1.Hold.ID.Session, .int .u64 a1.Hold.ID.Seq, .int .u64 a1.Hold.Epoch, r1_0, r1_1, r1_2, r1_3, r1_4, .int .i64 a1.R.E, .int .u64 a1.R.Epoch, .int .u64 a1.R.Index, r1_5, r1_6, .int .u64 a1.Shards, r1_7, .int .u64 a1.Rule.ID, .int .i64 a1.Rule.From, .int .i64 a1.Rule.To, .float .f64 a1.Rule.Lo, .float .f64 a1.Rule.Hi, .int .u64 a1.Rule.Authority, .int .i64 a1.Rule.Quota, .bool a1.On], cells b284 [.int .u8 a0.Kind, .int .u64 a0.ID.Session, .int .u64 a0.ID.Seq, .int .u64 a0.Epoch, .int .u64 a0.Index, .int .i64 a0.E, .int .u64 a0.Hold.ID.Session, .int .u64 a0.Hold.ID.Seq, .int .u64 a0.Hold.Epoch, r0_0, r0_1, r0_2, r0_3, r0_4, .int .i64 a0.R.E, .int .u64 a0.R.Epoch, .int .u64 a0.R.Index, r0_5, r0_6, .int .u64 a0.Shards, r0_7, .int .u64 a0.Rule.ID, .int .i64 a0.Rule.From, .int .i64 a0.Rule.To, .float .f64 a0.Rule.Lo, .float .f64 a0.Rule.Hi, .int .u64 a0.Rule.Authority, .int .i64 a0.Rule.Quota, .bool a0.On]] R) n389 ⟨(0:Int), _, hm, ((fr_upd (t := 2) (v := .pointer (some ⟨b284, 0, none⟩)) rfl).trans ((fr_upd (t := 3) (v := .pointer (some ⟨b289, 0, none⟩)) rfl).trans ((fr_upd (t := 5) (v := .int .i64 (0:Int)) rfl).trans rfl))), hst⟩ ?_
                          rintro n395 _ w390 ⟨z387, σ388, hm, rfl, hst⟩
                          obtain ⟨n392, y393, rfl, hm, hx394⟩ := loopN_some hm
                          dsimp only [law13_same_l0] at hm
                          refine wp_seq ?_
                          refine wp_seq ?_
                          refine wp_region_lit ?_
                          refine wl_val (v := .int .i64 z387) rfl rfl rfl ?_
                          refine wl_val (v := .pointer (some ⟨b284, 20, none⟩)) rfl rfl (x_field rfl Try.underlying45 rfl Try.sizeOf40 rfl) ?_
                          refine wl_val (v := r0_7) rfl rfl (x_load rfl Try.isAgg40 (hst.bc1 rfl)) ?_
                          refine wl_val (v := .int .i64 ((a0.Parts).length : Int)) rfl rfl (x_len rfl Try.underlying40 (rd_sliceV f0_7)) ?_
                          refine wl_val (v := .bool (decide (z387 < ((a0.Parts).length : Int)))) rfl rfl rfl ?_
                          refine wl_nil ?_
                          refine then_n ?_
                          refine bsplit (decide (z387 < ((a0.Parts).length : Int))) (fun hc396 => ?_) (fun hc396 => ?_)
                          · skip
                            replace hm := bif_t hc396 hm
                            refine wp_ift (congrArg Value.bool hc396) ?_
                            refine wp_skip ?_
                            refine then_n ?_
                            refine wp_seq ?_
                            refine wp_block ?_
                            refine wp_seq ?_
                            refine wp_region_St hst 29 [0, 1, 2, 3, 4, 5, 6, 7, 8, 9, 10, 11, 12, 13, 14, 15, 16, 17, 18, 19, 20, 21, 22, 23, 24, 25, 26, 27, 28] [0, 1, 0, 7, 15, 31, 0, 64, 0, 448, 960, 1984, 4095, 8191, 16383, 32767, 16383, 131071, 262143, 524287, 16383, 1064959, 16383, 7356415, 15745023, 32522239, 67108863, 134217727, 268435455] [] rfl (by kernel_rfl) (by kernel_rfl) Try.mixed (by kernel_rfl) ?_
                            refine ws_q (v := .pointer (some ⟨b284, 20, none⟩)) 0 [1, 2, 3, 4, 5, 6, 7, 8, 9, 10, 11, 12, 13, 14, 15, 16, 17, 18, 19, 20, 21, 22, 23, 24, 25, 26, 27, 28] (by kernel_rfl) rfl rfl (yi_run rfl (fun w hst => x_field rfl Try.underlying45 rfl Try.sizeOf40 rfl)) ?_
                            refine ws_q (v := r0_7) 1 [2, 3, 4, 5, 6, 7, 8, 9, 10, 11, 12, 13, 14, 15, 16, 17, 18, 19, 20, 21, 22, 23, 24, 25, 26, 27, 28] (by kernel_rfl) rfl rfl (yi_run rfl (fun w hst => x_load rfl Try.isAgg40 (hst.bc1 rfl))) ?_
                            refine ws_q (v := .int .i64 z387) 2 [3, 4, 5, 6, 7, 8, 9, 10, 11, 12, 13, 14, 15, 16, 17, 18, 19, 20, 21, 22, 23, 24, 25, 26, 27, 28] (by kernel_rfl) rfl rfl (yi_run rfl (fun w hst => rfl)) ?_
                            obtain ⟨x397, hx398, hm⟩ := bind_some hm
                            obtain ⟨h399, h400, hi401⟩ := geto_some hx398
                            refine ws_q (v := .pointer (some (eAddr r0_7 (z387.toNat * 2 + 0)))) 3 [4, 5, 6, 7, 8, 9, 10, 11, 12, 13, 14, 15, 16, 17, 18, 19, 20, 21, 22, 23, 24, 25, 26, 27, 28] (by kernel_rfl) rfl rfl (yi_run rfl (fun w hst => x_index rfl rfl Try.underlying40 Try.sizeOf81 (rd_sliceV f0_7) h399 h400)) ?_
                            refine ws_q (v := .pointer (some (eAddr r0_7 (z387.toNat * 2 + 0)))) 4 [5, 6, 7, 8, 9, 10, 11, 12, 13, 14, 15, 16, 17, 18, 19, 20, 21, 22, 23, 24, 25, 26, 27, 28] (by kernel_rfl) rfl rfl (yi_run rfl (fun w hst => x_field_e rfl Try.underlying81 rfl Try.sizeOf3 rfl)) ?_
                            obtain ⟨cs402, hr403, hc404⟩ := Rd.getF f0_7 hi401
                            obtain ⟨v405, rfl, f406, -⟩ := hr403
                            refine ws_q (v := .int .i64 x397.Shard) 5 [6, 7, 8, 9, 10, 11, 12, 13, 14, 15, 16, 17, 18, 19, 20, 21, 22, 23, 24, 25, 26, 27, 28] (by kernel_rfl) rfl rfl (yi_run rfl (fun w hst => x_load rfl Try.isAgg3 ((hc404 (HL.le.refl _) hst) 0 _ rfl))) ?_
                            refine ws_q (v := .pointer (some ⟨b289, 20, none⟩)) 6 [7, 8, 9, 10, 11, 12, 13, 14, 15, 16, 17, 18, 19, 20, 21, 22, 23, 24, 25, 26, 27, 28] (by kernel_rfl) rfl rfl (yi_run rfl (fun w hst => x_field rfl Try.underlying45 rfl Try.sizeOf40 rfl)) ?_
                            refine ws_q (v := r1_7) 7 [8, 9, 10, 11, 12, 13, 14, 15, 16, 17, 18, 19, 20, 21, 22, 23, 24, 25, 26, 27, 28] (by kernel_rfl) rfl rfl (yi_run rfl (fun w hst => x_load rfl Try.isAgg40 (hst.bc0 rfl))) ?_
                            refine ws_q (v := .int .i64 z387) 8 [9, 10, 11, 12, 13, 14, 15, 16, 17, 18, 19, 20, 21, 22, 23, 24, 25, 26, 27, 28] (by kernel_rfl) rfl rfl (yi_run rfl (fun w hst => rfl)) ?_
                            obtain ⟨x408, hx409, hm⟩ := bind_some hm
                            obtain ⟨h410, h411, hi412⟩ := geto_some hx409
                            refine ws_q (v := .pointer (some (eAddr r1_7 (z387.toNat * 2 + 0)))) 9 [10, 11, 12, 13, 14, 15, 16, 17, 18, 19, 20, 21, 22, 23, 24, 25, 26, 27, 28] (by kernel_rfl) rfl rfl (yi_run rfl (fun w hst => x_index rfl rfl Try.underlying40 Try.sizeOf81 (rd_sliceV f1_7) h410 h411)) ?_
                            refine ws_q (v := .pointer (some (eAddr r1_7 (z387.toNat * 2 + 0)))) 10 [11, 12, 13, 14, 15, 16, 17, 18, 19, 20, 21, 22, 23, 24, 25, 26, 27, 28] (by kernel_rfl) rfl rfl (yi_run rfl (fun w hst => x_field_e rfl Try.underlying81 rfl Try.sizeOf3 rfl)) ?_
                            obtain ⟨cs413, hr414, hc415⟩ := Rd.getF f1_7 hi412
                            obtain ⟨v416, rfl, f417, -⟩ := hr414
                            refine ws_q (v := .int .i64 x408.Shard) 11 [12, 13, 14, 15, 16, 17, 18, 19, 20, 21, 22, 23, 24, 25, 26, 27, 28] (by kernel_rfl) rfl rfl (yi_run rfl (fun w hst => x_load rfl Try.isAgg3 ((hc415 (HL.le.refl _) hst) 0 _ rfl))) ?_
                            refine ws_q (v := .bool (x397.Shard != x408.Shard)) 12 [13, 14, 15, 16, 17, 18, 19, 20, 21, 22, 23, 24, 25, 26, 27, 28] (by kernel_rfl) rfl rfl (yi_run rfl (fun w hst => rfl)) ?_
                            refine ws_q (v := .bool (x397.Shard != x408.Shard)) 13 [14, 15, 16, 17, 18, 19, 20, 21, 22, 23, 24, 25, 26, 27, 28] (by kernel_rfl) rfl rfl (yi_run rfl (fun w hst => rfl)) ?_
                            refine bsplit (x397.Shard != x408.Shard) (fun hc419 => ?_) (fun hc419 => ?_)
                            · skip
                              replace hm := bif_t hc419 hm
                              refine ws_q (v := undef) 14 [15, 16, 17, 18, 19, 20, 21, 22, 23, 24, 25, 26, 27, 28] (by kernel_rfl) rfl rfl (yi_off ((wanted_eq rfl rfl rfl (congrArg Value.bool hc419)).trans rfl)) ?_
                              refine ws_q (v := undef) 15 [16, 17, 18, 19, 20, 21, 22, 23, 24, 25, 26, 27, 28] (by kernel_rfl) rfl rfl (yi_off ((wanted_eq rfl rfl rfl (congrArg Value.bool hc419)).trans rfl)) ?_
                              refine ws_q (v := undef) 16 [17, 18, 19, 20, 21, 22, 23, 24, 25, 26, 27, 28] (by kernel_rfl) rfl rfl (yi_off ((wanted_eq rfl rfl rfl (congrArg Value.bool hc419)).trans rfl)) ?_
                              refine ws_q (v := undef) 17 [18, 19, 20, 21, 22, 23, 24, 25, 26, 27, 28] (by kernel_rfl) rfl rfl (yi_off ((wanted_eq rfl rfl rfl (congrArg Value.bool hc419)).trans rfl)) ?_
                              refine ws_q (v := undef) 18 [19, 20, 21, 22, 23, 24, 25, 26, 27, 28] (by kernel_rfl) rfl rfl (yi_off ((wanted_eq rfl rfl rfl (congrArg Value.bool hc419)).trans rfl)) ?_
                              refine ws_q (v := undef) 19 [20, 21, 22, 23, 24, 25, 26, 27, 28] (by kernel_rfl) rfl rfl (yi_off ((wanted_eq rfl rfl rfl (congrArg Value.bool hc419)).trans rfl)) ?_
                              refine ws_q (v := undef) 20 [21, 22, 23, 24, 25, 26, 27, 28] (by kernel_rfl) rfl rfl (yi_off ((wanted_eq rfl rfl rfl (congrArg Value.bool hc419)).trans rfl)) ?_
                              refine ws_q (v := undef) 21 [22, 23, 24, 25, 26, 27, 28] (by kernel_rfl) rfl rfl (yi_off ((wanted_eq rfl rfl rfl (congrArg Value.bool hc419)).trans rfl)) ?_
                              refine ws_q (v := undef) 22 [23, 24, 25, 26, 27, 28] (by kernel_rfl) rfl rfl (yi_off ((wanted_eq rfl rfl rfl (congrArg Value.bool hc419)).trans rfl)) ?_
                              refine ws_q (v := undef) 23 [24, 25, 26, 27, 28] (by kernel_rfl) rfl rfl (yi_off ((wanted_eq rfl rfl rfl (congrArg Value.bool hc419)).trans rfl)) ?_
                              refine ws_q (v := undef) 24 [25, 26, 27, 28] (by kernel_rfl) rfl rfl (yi_off ((wanted_eq rfl rfl rfl (congrArg Value.bool hc419)).trans rfl)) ?_
                              refine ws_q (v := undef) 25 [26, 27, 28] (by kernel_rfl) rfl rfl (yi_off ((wanted_eq rfl rfl rfl (congrArg Value.bool hc419)).trans rfl)) ?_
                              refine ws_q (v := undef) 26 [27, 28] (by kernel_rfl) rfl rfl (yi_off ((wanted_eq rfl rfl rfl (congrArg Value.bool hc419)).trans rfl)) ?_
                              refine ws_q (v := undef) 27 [28] (by kernel_rfl) rfl rfl (yi_off ((wanted_eq rfl rfl rfl (congrArg Value.bool hc419)).trans rfl)) ?_
                              refine ws_q (v := .bool true) 28 [] (by kernel_rfl) rfl rfl (yi_run rfl (fun w hst => x_pick_t hc419 rfl rfl)) ?_
                              refine ws_nil ?_
                              intro w hst
                              refine then_n ?_
                              refine wp_ift rfl ?_
                              refine wp_seq ?_
                              refine wp_region_lit ?_
                              refine wl_val (v := .bool false) rfl rfl rfl ?_
                              refine wl_nil ?_
                              refine then_n ?_
                              refine wp_ret ?_
                              refine blk_r ?_
                              refine then_r ?_
                              refine then_r ?_
                              replace hm := inr_up hm hx394
                              refine blk_r ?_
                              refine then_r ?_
                              obtain rfl := some_inj hm
                              refine post_ret (vs := [.bool false]) Try.results11 (rvs_cons (rv_tmp rfl) rvs_nil) ?_
                              exact ⟨rfl, hst.keep0⟩
                            · skip
                              replace hm := bif_f hc419 hm
                              refine ws_q (v := .pointer (some ⟨b284, 20, none⟩)) 14 [15, 16, 17, 18, 19, 20, 21, 22, 23, 24, 25, 26, 27, 28] (by kernel_rfl) rfl rfl (yi_run ((wanted_eq rfl rfl rfl (congrArg Value.bool hc419)).trans rfl) (fun w hst => x_field rfl Try.underlying45 rfl Try.sizeOf40 rfl)) ?_
                              refine ws_q (v := r0_7) 15 [16, 17, 18, 19, 20, 21, 22, 23, 24, 25, 26, 27, 28] (by kernel_rfl) rfl rfl (yi_run ((wanted_eq rfl rfl rfl (congrArg Value.bool hc419)).trans rfl) (fun w hst => x_load rfl Try.isAgg40 (hst.bc1 rfl))) ?_
                              refine ws_q (v := .int .i64 z387) 16 [17, 18, 19, 20, 21, 22, 23, 24, 25, 26, 27, 28] (by kernel_rfl) rfl rfl (yi_run ((wanted_eq rfl rfl rfl (congrArg Value.bool hc419)).trans rfl) (fun w hst => rfl)) ?_
                              refine ws_q (v := .pointer (some (eAddr r0_7 (z387.toNat * 2 + 0)))) 17 [18, 19, 20, 21, 22, 23, 24, 25, 26, 27, 28] (by kernel_rfl) rfl rfl (yi_run ((wanted_eq rfl rfl rfl (congrArg Value.bool hc419)).trans rfl) (fun w hst => x_index rfl rfl Try.underlying40 Try.sizeOf81 (rd_sliceV f0_7) h399 h400)) ?_
                              refine ws_q (v := .pointer (some (eAddr r0_7 (z387.toNat * 2 + 1)))) 18 [19, 20, 21, 22, 23, 24, 25, 26, 27, 28] (by kernel_rfl) rfl rfl (yi_run ((wanted_eq rfl rfl rfl (congrArg Value.bool hc419)).trans rfl) (fun w hst => x_field_e rfl Try.underlying81 rfl Try.sizeOf35 rfl)) ?_
                              refine ws_q (v := v405) 19 [20, 21, 22, 23, 24, 25, 26, 27, 28] (by kernel_rfl) rfl rfl (yi_run ((wanted_eq rfl rfl rfl (congrArg Value.bool hc419)).trans rfl) (fun w hst => x_load rfl Try.isAgg35 ((hc404 (HL.le.refl _) hst) 1 _ rfl))) ?_
                              refine ws_q (v := .pointer (some ⟨b289, 20, none⟩)) 20 [21, 22, 23, 24, 25, 26, 27, 28] (by kernel_rfl) rfl rfl (yi_run ((wanted_eq rfl rfl rfl (congrArg Value.bool hc419)).trans rfl) (fun w hst => x_field rfl Try.underlying45 rfl Try.sizeOf40 rfl)) ?_
                              refine ws_q (v := r1_7) 21 [22, 23, 24, 25, 26, 27, 28] (by kernel_rfl) rfl rfl (yi_run ((wanted_eq rfl rfl rfl (congrArg Value.bool hc419)).trans rfl) (fun w hst => x_load rfl Try.isAgg40 (hst.bc0 rfl))) ?_
                              refine ws_q (v := .int .i64 z387) 22 [23, 24, 25, 26, 27, 28] (by kernel_rfl) rfl rfl (yi_run ((wanted_eq rfl rfl rfl (congrArg Value.bool hc419)).trans rfl) (fun w hst => rfl)) ?_
                              refine ws_q (v := .pointer (some (eAddr r1_7 (z387.toNat * 2 + 0)))) 23 [24, 25, 26, 27, 28] (by kernel_rfl) rfl rfl (yi_run ((wanted_eq rfl rfl rfl (congrArg Value.bool hc419)).trans rfl) (fun w hst => x_index rfl rfl Try.underlying40 Try.sizeOf81 (rd_sliceV f1_7) h410 h411)) ?_
                              refine ws_q (v := .pointer (some (eAddr r1_7 (z387.toNat * 2 + 1)))) 24 [25, 26, 27, 28] (by kernel_rfl) rfl rfl (yi_run ((wanted_eq rfl rfl rfl (congrArg Value.bool hc419)).trans rfl) (fun w hst => x_field_e rfl Try.underlying81 rfl Try.sizeOf35 rfl)) ?_
                              refine ws_q (v := v416) 25 [26, 27, 28] (by kernel_rfl) rfl rfl (yi_run ((wanted_eq rfl rfl rfl (congrArg Value.bool hc419)).trans rfl) (fun w hst => x_load rfl Try.isAgg35 ((hc415 (HL.le.refl _) hst) 1 _ rfl))) ?_
                              refine ws_e1 26 (by kernel_rfl) ?_
                              refine nxe [27, 28] (by kernel_rfl) rfl ((wanted_eq rfl rfl rfl (congrArg Value.bool hc419)).trans rfl) ?_
                              clear hst
                              intro w hst
                              obtain ⟨t420, ht421, hm⟩ := bind_some hm
                              refine we_call rfl (x_call Try.call34 rfl (vs := [v405, v416]) rfl) ?_
                              refine (ref13_SameWrites_ref (f406.mono (rd_weak _)) (f417.mono (rd_weak _)) hst.to0 ht421).mono ?_
                              rintro _ w422 ⟨rfl, hst⟩
                              refine ⟨_, rfl, ?_⟩
                              replace hst := hst.of0
                              refine ws_next (pend' := []) hst (by kernel_rfl) pk_nil ?_
                              refine ws_q (v := .bool (!t420)) 27 [28] (by kernel_rfl) rfl rfl (yi_run ((wanted_eq rfl rfl rfl (congrArg Value.bool hc419)).trans rfl) (fun w hst => rfl)) ?_
                              refine ws_q (v := .bool (!t420)) 28 [] (by kernel_rfl) rfl rfl (yi_run rfl (fun w hst => x_pick_f hc419 rfl rfl)) ?_
                              refine ws_nil ?_
                              intro w hst
                              refine then_n ?_
                              refine bsplit (!t420) (fun hc425 => ?_) (fun hc425 => ?_)
                              · skip
                                replace hm := bif_t hc425 hm
                                refine wp_ift (congrArg Value.bool hc425) ?_
                                refine wp_seq ?_
                                refine wp_region_lit ?_
                                refine wl_val (v := .bool false) rfl rfl rfl ?_
                                refine wl_nil ?_
                                refine then_n ?_
                                refine wp_ret ?_
                                refine blk_r ?_
                                refine then_r ?_
                                refine then_r ?_
                                replace hm := inr_up hm hx394
                                refine blk_r ?_
                                refine then_r ?_
                                obtain rfl := some_inj hm
                                refine post_ret (vs := [.bool false]) Try.results11 (rvs_cons (rv_tmp rfl) rvs_nil) ?_
                                exact ⟨rfl, hst.keep0⟩
                              · skip
                                replace hm := bif_f hc425 hm
                                refine wp_iff (congrArg Value.bool hc425) ?_
                                refine wp_skip ?_
                                refine blk_n ?_
                                refine then_n ?_
                                refine wp_region_lit ?_
                                refine wl_val (v := .int .i64 z387) rfl rfl rfl ?_
                                refine wl_val (v := .int .i64 (IntKind.i64.wrap (z387 + (1:Int)))) rfl rfl rfl ?_
                                refine wl_val (v := .int .i64 (IntKind.i64.wrap (z387 + (1:Int)))) rfl rfl rfl ?_
                                refine wl_nil ?_
                                refine then_n ?_
                                replace hst := hst.pull1
                                replace hst := hst.pull1
                                replace hst := hst.keep2
                                obtain rfl := some_inj hm
                                exact ⟨_, Nat.lt_succ_self _, (IntKind.i64.wrap (z387 + (1:Int))), _, hx394, ((fr_upd (t := 2) (v := .pointer (some ⟨b284, 0, none⟩)) rfl).trans ((fr_upd (t := 3) (v := .pointer (some ⟨b289, 0, none⟩)) rfl).trans ((fr_upd (t := 5) (v := .int .i64 (IntKind.i64.wrap (z387 + (1:Int)))) rfl).trans rfl))), hst⟩
                          · skip
                            replace hm := bif_f hc396 hm
                            refine wp_iff (congrArg Value.bool hc396) ?_
                            refine wp_exit ?_
                            refine then_x ?_
                            refine then_x ?_
                            replace hm := inr_up hm hx394
                            refine blk_x ?_
                            refine then_n ?_
                            refine wp_seq ?_
                            refine wp_region_lit ?_
                            refine wl_val (v := .bool true) rfl rfl rfl ?_
                            refine wl_nil ?_
                            refine then_n ?_
                            refine wp_ret ?_
                            obtain rfl := some_inj hm
                            refine post_ret (vs := [.bool true]) Try.results11 (rvs_cons (rv_tmp rfl) rvs_nil) ?_
                            exact ⟨rfl, hst.keep0⟩

theorem law13_CommandApart_ref {w0 w : World} {I : HL} {R : SP} {a0 : (List Int)} {r0_0 : Value} {a1 : (List Int)} {r1_0 : Value} (f0_0 : Ro (tyInt .u8) I r0_0 a0) (f1_0 : Ro (tyInt .u8) I r1_0 a1) (hst : St w0 w I [] R) {r : (Bool)} (hm : law13_CommandApart a0 a1 = some r) :
    Calls Try.prog 3 #[r0_0, r1_0] w fun e w' => ∃ (I' : HL), e = .returned (.bool r) ∧ I.le I' ∧ St w0 w' I' [] R := by
  unfold law13_CommandApart at hm
  refine calls_start (args := [r0_0, r1_0]) Try.func3 rfl Try.ntmps3 (Nat.le_of_ble_eq_true rfl) ?_
  have hI0 := HL.le.refl I
  refine wp_seq ?_
  refine wp_region_lit ?_
  refine wl_val (v := .bool false) rfl rfl rfl ?_
  refine wl_nil ?_
  refine then_n ?_
  refine wp_seq ?_
  refine wp_seq ?_
  refine wp_region_lit ?_
  obtain ⟨t195, ht196, hm⟩ := bind_some hm
  refine wl_call rfl rfl (x_call Try.call8 rfl (vs := []) rfl) ?_
  refine (law13_awake_ref hst.to0 ht196).mono ?_
  rintro _ w197 ⟨rfl, hst⟩
  refine ⟨_, rfl, ?_⟩
  replace hst := hst.of0
  refine wl_val (v := .bool (!t195)) rfl rfl rfl ?_
  refine wl_val (v := .bool (!t195)) rfl rfl rfl ?_
  refine bsplit (!t195) (fun hc200 => ?_) (fun hc200 => ?_)
  · skip
    replace hm := bif_t hc200 hm
    refine wl_off ((wanted_eq rfl rfl rfl (congrArg Value.bool hc200)).trans rfl) rfl ?_
    refine wl_off ((wanted_eq rfl rfl rfl (congrArg Value.bool hc200)).trans rfl) rfl ?_
    refine wl_off ((wanted_eq rfl rfl rfl (congrArg Value.bool hc200)).trans rfl) rfl ?_
    refine wl_val (v := .bool true) rfl rfl (x_pick_t hc200 rfl rfl) ?_
    refine wl_val (v := .bool true) rfl rfl rfl ?_
    refine wl_off ((wanted_eq rfl rfl rfl rfl).trans rfl) rfl ?_
    refine wl_off ((wanted_eq rfl rfl rfl rfl).trans rfl) rfl ?_
    refine wl_off ((wanted_eq rfl rfl rfl rfl).trans rfl) rfl ?_
    refine wl_val (v := .bool true) rfl rfl (x_pick_t rfl rfl rfl) ?_
    refine wl_nil ?_
    refine then_n ?_
    refine wp_ift rfl ?_
    refine wp_seq ?_
    refine wp_region_lit ?_
    obtain ⟨t201, ht202, hm⟩ := bind_some hm
    refine wl_call rfl rfl (x_call Try.call8 rfl (vs := []) rfl) ?_
    refine (law13_awake_ref hst.to0 ht202).mono ?_
    rintro _ w203 ⟨rfl, hst⟩
    refine ⟨_, rfl, ?_⟩
    replace hst := hst.of0
    refine wl_val (v := .bool t201) rfl rfl rfl ?_
    refine wl_nil ?_
    refine then_n ?_
    refine wp_ret ?_
    refine then_r ?_
    obtain rfl := some_inj hm
    refine post_ret (vs := [.bool t201]) Try.results3 (rvs_cons (rv_tmp rfl) rvs_nil) ?_
    exact ⟨_, rfl, hI0, hst.keep0⟩
  · skip
    replace hm := bif_f hc200 hm
    refine wl_val (v := r0_0) ((wanted_eq rfl rfl rfl (congrArg Value.bool hc200)).trans rfl) rfl rfl ?_
    refine wl_val (v := .int .i64 ((a0).length : Int)) ((wanted_eq rfl rfl rfl (congrArg Value.bool hc200)).trans rfl) rfl (x_len rfl Try.underlying22 (ro_sliceV f0_0)) ?_
    refine wl_val (v := .bool (decide (((a0).length : Int) > (100:Int)))) ((wanted_eq rfl rfl rfl (congrArg Value.bool hc200)).trans rfl) rfl rfl ?_
    refine wl_val (v := .bool (decide (((a0).length : Int) > (100:Int)))) rfl rfl (x_pick_f hc200 rfl rfl) ?_
    refine wl_val (v := .bool (decide (((a0).length : Int) > (100:Int)))) rfl rfl rfl ?_
    refine bsplit (decide (((a0).length : Int) > (100:Int))) (fun hc206 => ?_) (fun hc206 => ?_)
    · skip
      replace hm := bif_t hc206 hm
      refine wl_off ((wanted_eq rfl rfl rfl (congrArg Value.bool hc206)).trans rfl) rfl ?_
      refine wl_off ((wanted_eq rfl rfl rfl (congrArg Value.bool hc206)).trans rfl) rfl ?_
      refine wl_off ((wanted_eq rfl rfl rfl (congrArg Value.bool hc206)).trans rfl) rfl ?_
      refine wl_val (v := .bool true) rfl rfl (x_pick_t hc206 rfl rfl) ?_
      refine wl_nil ?_
      refine then_n ?_
      refine wp_ift rfl ?_
      refine wp_seq ?_
      refine wp_region_lit ?_
      obtain ⟨t207, ht208, hm⟩ := bind_some hm
      refine wl_call rfl rfl (x_call Try.call8 rfl (vs := []) rfl) ?_
      refine (law13_awake_ref hst.to0 ht208).mono ?_
      rintro _ w209 ⟨rfl, hst⟩
      refine ⟨_, rfl, ?_⟩
      replace hst := hst.of0
      refine wl_val (v := .bool t207) rfl rfl rfl ?_
      refine wl_nil ?_
      refine then_n ?_
      refine wp_ret ?_
      refine then_r ?_
      obtain rfl := some_inj hm
      refine post_ret (vs := [.bool t207]) Try.results3 (rvs_cons (rv_tmp rfl) rvs_nil) ?_
      exact ⟨_, rfl, hI0, hst.keep0⟩
    · skip
      replace hm := bif_f hc206 hm
      refine wl_val (v := r1_0) ((wanted_eq rfl rfl rfl (congrArg Value.bool hc206)).trans rfl) rfl rfl ?_
      refine wl_val (v := .int .i64 ((a1).length : Int)) ((wanted_eq rfl rfl rfl (congrArg Value.bool hc206)).trans rfl) rfl (x_len rfl Try.underlying22 (ro_sliceV f1_0)) ?_
      refine wl_val (v := .bool (decide (((a1).length : Int) > (100:Int)))) ((wanted_eq rfl rfl rfl (congrArg Value.bool hc206)).trans rfl) rfl rfl ?_
      refine wl_val (v := .bool (decide (((a1).length : Int) > (100:Int)))) rfl rfl (x_pick_f hc206 rfl rfl) ?_
      refine wl_nil ?_
      refine then_n ?_
      refine bsplit (decide (((a1).length : Int) > (100:Int))) (fun hc212 => ?_) (fun hc212 => ?_)
      · skip
        replace hm := bif_t hc212 hm
        refine wp_ift (congrArg Value.bool hc212) ?_
        refine wp_seq ?_
        refine wp_region_lit ?_
        obtain ⟨t213, ht214, hm⟩ := bind_some hm
        refine wl_call rfl rfl (x_call Try.call8 rfl (vs := []) rfl) ?_
        refine (law13_awake_ref hst.to0 ht214).mono ?_
        rintro _ w215 ⟨rfl, hst⟩
        refine ⟨_, rfl, ?_⟩
        replace hst := hst.of0
        refine wl_val (v := .bool t213) rfl rfl rfl ?_
        refine wl_nil ?_
        refine then_n ?_
        refine wp_ret ?_
        refine then_r ?_
        obtain rfl := some_inj hm
        refine post_ret (vs := [.bool t213]) Try.results3 (rvs_cons (rv_tmp rfl) rvs_nil) ?_
        exact ⟨_, rfl, hI0, hst.keep0⟩
      · skip
        replace hm := bif_f hc212 hm
        refine wp_iff (congrArg Value.bool hc212) ?_
        refine wp_skip ?_
        refine then_n ?_
        refine wp_seq ?_
        refine wp_region_lit ?_
        refine wl_val (v := r0_0) rfl rfl rfl ?_
        refine wl_val (v := .agg #[r0_0, .int .i64 (0:Int)]) rfl rfl (by obtain ⟨_, _, hv_, _⟩ := (ro_sliceV f0_0); rw [hv_]; kernel_rfl) ?_
        obtain ⟨b219, w220, ew221, eb222, hst⟩ := hst.box [r0_0, .int .i64 (0:Int)] 26
        refine wl_run (v := .pointer (some ⟨b219, 0, none⟩)) (w' := w220) rfl rfl (x_al (by kernel_rfl) ew221 eb222) ?_
        refine wl_val (v := .pointer (some ⟨b219, 0, none⟩)) rfl rfl rfl ?_
        refine wl_nil ?_
        refine then_n ?_
        refine wp_seq ?_
        refine wp_region_lit ?_
        refine wl_val (v := r1_0) rfl rfl rfl ?_
        refine wl_val (v := .agg #[r1_0, .int .i64 (0:Int)]) rfl rfl (by obtain ⟨_, _, hv_, _⟩ := (ro_sliceV f1_0); rw [hv_]; kernel_rfl) ?_
        obtain ⟨b225, w226, ew227, eb228, hst⟩ := hst.box [r1_0, .int .i64 (0:Int)] 26
        refine wl_run (v := .pointer (some ⟨b225, 0, none⟩)) (w' := w226) rfl rfl (x_al (by kernel_rfl) ew227 eb228) ?_
        refine wl_val (v := .pointer (some ⟨b225, 0, none⟩)) rfl rfl rfl ?_
        refine wl_nil ?_
        refine then_n ?_
        refine wp_seq ?_
        refine wp_region_lit ?_
        refine wl_val (v := .pointer (some ⟨b219, 0, none⟩)) rfl rfl rfl ?_
        replace hst := hst.pull1
        replace hst := at_ref12_Tape_close (pv := .pointer (some ⟨b219, 0, none⟩)) (x := ({ L := a0, I := (0:Int) } : ref12_Tape)) hst ⟨rfl, f0_0⟩
        obtain ⟨t230, ht231, hm⟩ := bind_some hm
        refine wl_call rfl rfl (x_call Try.call9 rfl (vs := [.pointer (some ⟨b219, 0, none⟩)]) rfl) ?_
        refine (ref13_OfCommand_ref hst.to1 ht231).mono ?_
        rintro _ w232 ⟨I233, v235, v237, v239, v241, v243, v245, v247, v249, rfl, hI234, hst⟩
        refine ⟨_, rfl, ?_⟩
        replace hst := hst.of9
        replace f0_0 := f0_0.mono (ro_le hI234)
        replace f1_0 := f1_0.mono (ro_le hI234)
        replace hI0 := hI0.trans hI234
        obtain ⟨b259, w260, ew261, eb262, hst⟩ := hst.box [.int .u8 (0:Int), .int .u64 (0:Int), .int .u64 (0:Int), .int .u64 (0:Int), .int .u64 (0:Int), .int .i64 (0:Int), .int .u64 (0:Int), .int .u64 (0:Int), .int .u64 (0:Int), (.slice none 0 0), (.slice none 0 0), (.slice none 0 0), (.slice none 0 0), (.slice none 0 0), .int .i64 (0:Int), .int .u64 (0:Int), .int .u64 (0:Int), (.slice none 0 0), (.slice none 0 0), .int .u64 (0:Int), (.slice none 0 0), .int .u64 (0:Int), .int .i64 (0:Int), .int .i64 (0:Int), .float .f64 (0:Nat), .float .f64 (0:Nat), .int .u64 (0:Int), .int .i64 (0:Int), .bool false] 45
        refine wl_run (v := .pointer (some ⟨b259, 0, none⟩)) (w' := w260) rfl rfl (x_al (by kernel_rfl) ew261 eb262) ?_
        obtain ⟨w264, hr265, hst⟩ := hst.boxStore (P := Try.prog) (t := 45) (cs' := [.int .u8 t230.1.Kind, .int .u64 t230.1.ID.Session, .int .u64 t230.1.ID.Seq, .int .u64 t230.1.Epoch, .int .u64 t230.1.Index, .int .i64 t230.1.E, .int .u64 t230.1.Hold.ID.Session, .int .u64 t230.1.Hold.ID.Seq, .int .u64 t230.1.Hold.Epoch, v235, v237, v239, v241, v243, .int .i64 t230.1.R.E, .int .u64 t230.1.R.Epoch, .int .u64 t230.1.R.Index, v245, v247, .int .u64 t230.1.Shards, v249, .int .u64 t230.1.Rule.ID, .int .i64 t230.1.Rule.From, .int .i64 t230.1.Rule.To, .float .f64 t230.1.Rule.Lo, .float .f64 t230.1.Rule.Hi, .int .u64 t230.1.Rule.Authority, .int .i64 t230.1.Rule.Quota, .bool t230.1.On]) 0 (.agg #[.int .u8 t230.1.Kind, .int .u64 t230.1.ID.Session, .int .u64 t230.1.ID.Seq, .int .u64 t230.1.Epoch, .int .u64 t230.1.Index, .int .i64 t230.1.E, .int .u64 t230.1.Hold.ID.Session, .int .u64 t230.1.Hold.ID.Seq, .int .u64 t230.1.Hold.Epoch, v235, v237, v239, v241, v243, .int .i64 t230.1.R.E, .int .u64 t230.1.R.Epoch, .int .u64 t230.1.R.Index, v245, v247, .int .u64 t230.1.Shards, v249, .int .u64 t230.1.Rule.ID, .int .i64 t230.1.Rule.From, .int .i64 t230.1.Rule.To, .float .f64 t230.1.Rule.Lo, .float .f64 t230.1.Rule.Hi, .int .u64 t230.1.Rule.Authority, .int .i64 t230.1.Rule.Quota, .bool t230.1.On]) Try.sizeOf45 (Nat.le_of_ble_eq_true rfl) (ones_cons rfl (ones_cons rfl (ones_cons rfl (ones_cons rfl (ones_cons rfl (ones_cons rfl (ones_cons rfl (ones_cons rfl (ones_cons rfl (ones_cons (one_of_sliceV hst.sv1) (ones_cons (one_of_sliceV hst.sv2) (ones_cons (one_of_sliceV hst.sv3) (ones_cons (one_of_sliceV hst.sv4) (ones_cons (one_of_sliceV hst.sv5) (ones_cons rfl (ones_cons rfl (ones_cons rfl (ones_cons (one_of_sliceV hst.sv6) (ones_cons (one_of_sliceV hst.sv7) (ones_cons rfl (ones_cons (one_of_sliceV hst.sv8) (ones_cons rfl (ones_cons rfl (ones_cons rfl (ones_cons rfl (ones_cons rfl (ones_cons rfl (ones_cons rfl (ones_cons rfl ones_nil))))))))))))))))))))))))))))) (by kernel_rfl)
        refine wl_unit rfl rfl (x_unit hr265) ?_
        refine wl_nil ?_
        refine then_n ?_
        refine wp_seq ?_
        refine wp_region_lit ?_
        refine wl_val (v := .pointer (some ⟨b225, 0, none⟩)) rfl rfl rfl ?_
        replace hst := hst.pull10
        replace hst := at_ref12_Tape_close (pv := .pointer (some ⟨b225, 0, none⟩)) (x := ({ L := a1, I := (0:Int) } : ref12_Tape)) hst ⟨rfl, f1_0⟩
        obtain ⟨t266, ht267, hm⟩ := bind_some hm
        refine wl_call rfl rfl (x_call Try.call9 rfl (vs := [.pointer (some ⟨b225, 0, none⟩)]) rfl) ?_
        refine (ref13_OfCommand_ref hst.to1 ht267).mono ?_
        rintro _ w268 ⟨I269, v271, v273, v275, v277, v279, v281, v283, v285, rfl, hI270, hst⟩
        refine ⟨_, rfl, ?_⟩
        replace hst := hst.of9
        replace f0_0 := f0_0.mono (ro_le hI270)
        replace f1_0 := f1_0.mono (ro_le hI270)
        replace hI0 := hI0.trans hI270
        obtain ⟨b295, w296, ew297, eb298, hst⟩ := hst.box [.int .u8 (0:Int), .int .u64 (0:Int), .int .u64 (0:Int), .int .u64 (0:Int), .int .u64 (0:Int), .int .i64 (0:Int), .int .u64 (0:Int), .int .u64 (0:Int), .int .u64 (0:Int), (.slice none 0 0), (.slice none 0 0), (.slice none 0 0), (.slice none 0 0), (.slice none 0 0), .int .i64 (0:Int), .int .u64 (0:Int), .int .u64 (0:Int), (.slice none 0 0), (.slice none 0 0), .int .u64 (0:Int), (.slice none 0 0), .int .u64 (0:Int), .int .i64 (0:Int), .int .i64 (0:Int), .float .f64 (0:Nat), .float .f64 (0:Nat), .int .u64 (0:Int), .int .i64 (0:Int), .bool false] 45
        refine wl_run (v := .pointer (some ⟨b295, 0, none⟩)) (w' := w296) rfl rfl (x_al (by kernel_rfl) ew297 eb298) ?_
        obtain ⟨w300, hr301, hst⟩ := hst.boxStore (P := Try.prog) (t := 45) (cs' := [.int .u8 t266.1.Kind, .int .u64 t266.1.ID.Session, .int .u64 t266.1.ID.Seq, .int .u64 t266.1.Epoch, .int .u64 t266.1.Index, .int .i64 t266.1.E, .int .u64 t266.1.Hold.ID.Session, .int .u64 t266.1.Hold.ID.Seq, .int .u64 t266.1.Hold.Epoch, v271, v273, v275, v277, v279, .int .i64 t266.1.R.E, .int .u64 t266.1.R.Epoch, .int .u64 t266.1.R.Index, v281, v283, .int .u64 t266.1.Shards, v285, .int .u64 t266.1.Rule.ID, .int .i64 t266.1.Rule.From, .int .i64 t266.1.Rule.To, .float .f64 t266.1.Rule.Lo, .float .f64 t266.1.Rule.Hi, .int .u64 t266.1.Rule.Authority, .int .i64 t266.1.Rule.Quota, .bool t266.1.On]) 0 (.agg #[.int .u8 t266.1.Kind, .int .u64 t266.1.ID.Session, .int .u64 t266.1.ID.Seq, .int .u64 t266.1.Epoch, .int .u64 t266.1.Index, .int .i64 t266.1.E, .int .u64 t266.1.Hold.ID.Session, .int .u64 t266.1.Hold.ID.Seq, .int .u64 t266.1.Hold.Epoch, v271, v273, v275, v277, v279, .int .i64 t266.1.R.E, .int .u64 t266.1.R.Epoch, .int .u64 t266.1.R.Index, v281, v283, .int .u64 t266.1.Shards, v285, .int .u64 t266.1.Rule.ID, .int .i64 t266.1.Rule.From, .int .i64 t266.1.Rule.To, .float .f64 t266.1.Rule.Lo, .float .f64 t266.1.Rule.Hi, .int .u64 t266.1.Rule.Authority, .int .i64 t266.1.Rule.Quota, .bool t266.1.On]) Try.sizeOf45 (Nat.le_of_ble_eq_true rfl) (ones_cons rfl (ones_cons rfl (ones_cons rfl (ones_cons rfl (ones_cons rfl (ones_cons rfl (ones_cons rfl (ones_cons rfl (ones_cons rfl (ones_cons (one_of_sliceV hst.sv1) (ones_cons (one_of_sliceV hst.sv2) (ones_cons (one_of_sliceV hst.sv3) (ones_cons (one_of_sliceV hst.sv4) (ones_cons (one_of_sliceV hst.sv5) (ones_cons rfl (ones_cons rfl (ones_cons rfl (ones_cons (one_of_sliceV hst.sv6) (ones_cons (one_of_sliceV hst.sv7) (ones_cons rfl (ones_cons (one_of_sliceV hst.sv8) (ones_cons rfl (ones_cons rfl (ones_cons rfl (ones_cons rfl (ones_cons rfl (ones_cons rfl (ones_cons rfl (ones_cons rfl ones_nil))))))))))))))))))))))))))))) (by kernel_rfl)
        refine wl_unit rfl rfl (x_unit hr301) ?_
        refine wl_nil ?_
        refine then_n ?_
        refine wp_seq ?_
        refine wp_region_St hst 12 [0, 1, 2, 3, 4, 5, 6, 7, 8, 9, 10, 11] [0, 1, 3, 0, 11, 27, 63, 0, 0, 411, 1023, 2047] [] rfl (by kernel_rfl) (by kernel_rfl) Try.mixed (by kernel_rfl) ?_
        refine ws_q (v := .agg #[.int .u8 t230.1.Kind, .int .u64 t230.1.ID.Session, .int .u64 t230.1.ID.Seq, .int .u64 t230.1.Epoch, .int .u64 t230.1.Index, .int .i64 t230.1.E, .int .u64 t230.1.Hold.ID.Session, .int .u64 t230.1.Hold.ID.Seq, .int .u64 t230.1.Hold.Epoch, v235, v237, v239, v241, v243, .int .i64 t230.1.R.E, .int .u64 t230.1.R.Epoch, .int .u64 t230.1.R.Index, v245, v247, .int .u64 t230.1.Shards, v249, .int .u64 t230.1.Rule.ID, .int .i64 t230.1.Rule.From, .int .i64 t230.1.Rule.To, .float .f64 t230.1.Rule.Lo, .float .f64 t230.1.Rule.Hi, .int .u64 t230.1.Rule.Authority, .int .i64 t230.1.Rule.Quota, .bool t230.1.On]) 0 [1, 2, 3, 4, 5, 6, 7, 8, 9, 10, 11] (by kernel_rfl) rfl rfl (yi_run rfl (fun w hst => x_loadN (cs := [.int .u8 t230.1.Kind, .int .u64 t230.1.ID.Session, .int .u64 t230.1.ID.Seq, .int .u64 t230.1.Epoch, .int .u64 t230.1.Index, .int .i64 t230.1.E, .int .u64 t230.1.Hold.ID.Session, .int .u64 t230.1.Hold.ID.Seq, .int .u64 t230.1.Hold.Epoch, v235, v237, v239, v241, v243, .int .i64 t230.1.R.E, .int .u64 t230.1.R.Epoch, .int .u64 t230.1.R.Index, v245, v247, .int .u64 t230.1.Shards, v249, .int .u64 t230.1.Rule.ID, .int .i64 t230.1.Rule.From, .int .i64 t230.1.Rule.To, .float .f64 t230.1.Rule.Lo, .float .f64 t230.1.Rule.Hi, .int .u64 t230.1.Rule.Authority, .int .i64 t230.1.Rule.Quota, .bool t230.1.On]) rfl Try.isAgg45 Try.sizeOf45 (hst.bcs10 0 rfl))) ?_
        refine ws_q (v := .agg #[.int .u8 t266.1.Kind, .int .u64 t266.1.ID.Session, .int .u64 t266.1.ID.Seq, .int .u64 t266.1.Epoch, .int .u64 t266.1.Index, .int .i64 t266.1.E, .int .u64 t266.1.Hold.ID.Session, .int .u64 t266.1.Hold.ID.Seq, .int .u64 t266.1.Hold.Epoch, v271, v273, v275, v277, v279, .int .i64 t266.1.R.E, .int .u64 t266.1.R.Epoch, .int .u64 t266.1.R.Index, v281, v283, .int .u64 t266.1.Shards, v285, .int .u64 t266.1.Rule.ID, .int .i64 t266.1.Rule.From, .int .i64 t266.1.Rule.To, .float .f64 t266.1.Rule.Lo, .float .f64 t266.1.Rule.Hi, .int .u64 t266.1.Rule.Authority, .int .i64 t266.1.Rule.Quota, .bool t266.1.On]) 3 [1, 2, 4, 5, 6, 7, 8, 9, 10, 11] (by kernel_rfl) rfl rfl (yi_run rfl (fun w hst => x_loadN (cs := [.int .u8 t266.1.Kind, .int .u64 t266.1.ID.Session, .int .u64 t266.1.ID.Seq, .int .u64 t266.1.Epoch, .int .u64 t266.1.Index, .int .i64 t266.1.E, .int .u64 t266.1.Hold.ID.Session, .int .u64 t266.1.Hold.ID.Seq, .int .u64 t266.1.Hold.Epoch, v271, v273, v275, v277, v279, .int .i64 t266.1.R.E, .int .u64 t266.1.R.Epoch, .int .u64 t266.1.R.Index, v281, v283, .int .u64 t266.1.Shards, v285, .int .u64 t266.1.Rule.ID, .int .i64 t266.1.Rule.From, .int .i64 t266.1.Rule.To, .float .f64 t266.1.Rule.Lo, .float .f64 t266.1.Rule.Hi, .int .u64 t266.1.Rule.Authority, .int .i64 t266.1.Rule.Quota, .bool t266.1.On]) rfl Try.isAgg45 Try.sizeOf45 (hst.bcs0 0 rfl))) ?_
        refine ws_q (v := .agg #[.int .u8 t230.1.Kind, .int .u64 t230.1.ID.Session, .int .u64 t230.1.ID.Seq, .int .u64 t230.1.Epoch, .int .u64 t230.1.Index, .int .i64 t230.1.E, .int .u64 t230.1.Hold.ID.Session, .int .u64 t230.1.Hold.ID.Seq, .int .u64 t230.1.Hold.Epoch, v235, v237, v239, v241, v243, .int .i64 t230.1.R.E, .int .u64 t230.1.R.Epoch, .int .u64 t230.1.R.Index, v245, v247, .int .u64 t230.1.Shards, v249, .int .u64 t230.1.Rule.ID, .int .i64 t230.1.Rule.From, .int .i64 t230.1.Rule.To, .float .f64 t230.1.Rule.Lo, .float .f64 t230.1.Rule.Hi, .int .u64 t230.1.Rule.Authority, .int .i64 t230.1.Rule.Quota, .bool t230.1.On]) 7 [1, 2, 4, 5, 6, 8, 9, 10, 11] (by kernel_rfl) rfl rfl (yi_run rfl (fun w hst => x_loadN (cs := [.int .u8 t230.1.Kind, .int .u64 t230.1.ID.Session, .int .u64 t230.1.ID.Seq, .int .u64 t230.1.Epoch, .int .u64 t230.1.Index, .int .i64 t230.1.E, .int .u64 t230.1.Hold.ID.Session, .int .u64 t230.1.Hold.ID.Seq, .int .u64 t230.1.Hold.Epoch, v235, v237, v239, v241, v243, .int .i64 t230.1.R.E, .int .u64 t230.1.R.Epoch, .int .u64 t230.1.R.Index, v245, v247, .int .u64 t230.1.Shards, v249, .int .u64 t230.1.Rule.ID, .int .i64 t230.1.Rule.From, .int .i64 t230.1.Rule.To, .float .f64 t230.1.Rule.Lo, .float .f64 t230.1.Rule.Hi, .int .u64 t230.1.Rule.Authority, .int .i64 t230.1.Rule.Quota, .bool t230.1.On]) rfl Try.isAgg45 Try.sizeOf45 (hst.bcs10 0 rfl))) ?_
        refine ws_q (v := .agg #[.int .u8 t266.1.Kind, .int .u64 t266.1.ID.Session, .int .u64 t266.1.ID.Seq, .int .u64 t266.1.Epoch, .int .u64 t266.1.Index, .int .i64 t266.1.E, .int .u64 t266.1.Hold.ID.Session, .int .u64 t266.1.Hold.ID.Seq, .int .u64 t266.1.Hold.Epoch, v271, v273, v275, v277, v279, .int .i64 t266.1.R.E, .int .u64 t266.1.R.Epoch, .int .u64 t266.1.R.Index, v281, v283, .int .u64 t266.1.Shards, v285, .int .u64 t266.1.Rule.ID, .int .i64 t266.1.Rule.From, .int .i64 t266.1.Rule.To, .float .f64 t266.1.Rule.Lo, .float .f64 t266.1.Rule.Hi, .int .u64 t266.1.Rule.Authority, .int .i64 t266.1.Rule.Quota, .bool t266.1.On]) 8 [1, 2, 4, 5, 6, 9, 10, 11] (by kernel_rfl) rfl rfl (yi_run rfl (fun w hst => x_loadN (cs := [.int .u8 t266.1.Kind, .int .u64 t266.1.ID.Session, .int .u64 t266.1.ID.Seq, .int .u64 t266.1.Epoch, .int .u64 t266.1.Index, .int .i64 t266.1.E, .int .u64 t266.1.Hold.ID.Session, .int .u64 t266.1.Hold.ID.Seq, .int .u64 t266.1.Hold.Epoch, v271, v273, v275, v277, v279, .int .i64 t266.1.R.E, .int .u64 t266.1.R.Epoch, .int .u64 t266.1.R.Index, v281, v283, .int .u64 t266.1.Shards, v285, .int .u64 t266.1.Rule.ID, .int .i64 t266.1.Rule.From, .int .i64 t266.1.Rule.To, .float .f64 t266.1.Rule.Lo, .float .f64 t266.1.Rule.Hi, .int .u64 t266.1.Rule.Authority, .int .i64 t266.1.Rule.Quota, .bool t266.1.On]) rfl Try.isAgg45 Try.sizeOf45 (hst.bcs0 0 rfl))) ?_
        refine ws_e1 1 (by kernel_rfl) ?_
        refine nxe [2, 4, 5, 6, 9, 10, 11] (by kernel_rfl) rfl rfl ?_
        clear hst
        intro w hst
        replace hst := hst.pull11
        obtain ⟨css302, hq303, hst⟩ := hst.own_open
        replace hst := hst.pull12
        obtain ⟨css304, hq305, hst⟩ := hst.own_open
        replace hst := hst.pull13
        obtain ⟨css306, hq307, hst⟩ := hst.own_open
        replace hst := hst.pull14
        obtain ⟨css308, hq309, hst⟩ := hst.own_open
        replace hst := hst.pull15
        obtain ⟨css310, hq311, hst⟩ := hst.own_open
        replace hst := hst.pull16
        obtain ⟨css312, hq313, hst⟩ := hst.own_open
        replace hst := hst.pull17
        obtain ⟨css314, hq315, hst⟩ := hst.own_open
        replace hst := hst.pull18
        obtain ⟨css316, hq317, hst⟩ := hst.own_open
        obtain ⟨t318, ht319, hm⟩ := bind_some hm
        refine we_call rfl (x_call Try.call10 rfl (vs := [.agg #[.int .u8 t230.1.Kind, .int .u64 t230.1.ID.Session, .int .u64 t230.1.ID.Seq, .int .u64 t230.1.Epoch, .int .u64 t230.1.Index, .int .i64 t230.1.E, .int .u64 t230.1.Hold.ID.Session, .int .u64 t230.1.Hold.ID.Seq, .int .u64 t230.1.Hold.Epoch, v235, v237, v239, v241, v243, .int .i64 t230.1.R.E, .int .u64 t230.1.R.Epoch, .int .u64 t230.1.R.Index, v245, v247, .int .u64 t230.1.Shards, v249, .int .u64 t230.1.Rule.ID, .int .i64 t230.1.Rule.From, .int .i64 t230.1.Rule.To, .float .f64 t230.1.Rule.Lo, .float .f64 t230.1.Rule.Hi, .int .u64 t230.1.Rule.Authority, .int .i64 t230.1.Rule.Quota, .bool t230.1.On]]) rfl) ?_
        refine (command_Encode_ref (hst.rdrow7 hq303) (hst.rdrow6 hq305) (hst.rdrow5 hq307) (hst.rdrow4 hq309) (hst.rdrow3 hq311) (hst.rdrow2 hq313) (hst.rdrow1 hq315) (hst.rdrow0 hq317) hst.to0 ht319).mono ?_
        rintro _ w320 ⟨v323, rfl, hst⟩
        refine ⟨_, rfl, ?_⟩
        replace hst := hst.of1
        replace hst := hst.pull8
        replace hst := hst.own_close hq303
        replace hst := hst.pull8
        replace hst := hst.own_close hq305
        replace hst := hst.pull8
        replace hst := hst.own_close hq307
        replace hst := hst.pull8
        replace hst := hst.own_close hq309
        replace hst := hst.pull8
        replace hst := hst.own_close hq311
        replace hst := hst.pull8
        replace hst := hst.own_close hq313
        replace hst := hst.pull8
        replace hst := hst.own_close hq315
        replace hst := hst.pull8
        replace hst := hst.own_close hq317
        refine ws_next (pend' := [(8, .agg #[.int .u8 t266.1.Kind, .int .u64 t266.1.ID.Session, .int .u64 t266.1.ID.Seq, .int .u64 t266.1.Epoch, .int .u64 t266.1.Index, .int .i64 t266.1.E, .int .u64 t266.1.Hold.ID.Session, .int .u64 t266.1.Hold.ID.Seq, .int .u64 t266.1.Hold.Epoch, v271, v273, v275, v277, v279, .int .i64 t266.1.R.E, .int .u64 t266.1.R.Epoch, .int .u64 t266.1.R.Index, v281, v283, .int .u64 t266.1.Shards, v285, .int .u64 t266.1.Rule.ID, .int .i64 t266.1.Rule.From, .int .i64 t266.1.Rule.To, .float .f64 t266.1.Rule.Lo, .float .f64 t266.1.Rule.Hi, .int .u64 t266.1.Rule.Authority, .int .i64 t266.1.Rule.Quota, .bool t266.1.On]), (7, .agg #[.int .u8 t230.1.Kind, .int .u64 t230.1.ID.Session, .int .u64 t230.1.ID.Seq, .int .u64 t230.1.Epoch, .int .u64 t230.1.Index, .int .i64 t230.1.E, .int .u64 t230.1.Hold.ID.Session, .int .u64 t230.1.Hold.ID.Seq, .int .u64 t230.1.Hold.Epoch, v235, v237, v239, v241, v243, .int .i64 t230.1.R.E, .int .u64 t230.1.R.Epoch, .int .u64 t230.1.R.Index, v245, v247, .int .u64 t230.1.Shards, v249, .int .u64 t230.1.Rule.ID, .int .i64 t230.1.Rule.From, .int .i64 t230.1.Rule.To, .float .f64 t230.1.Rule.Lo, .float .f64 t230.1.Rule.Hi, .int .u64 t230.1.Rule.Authority, .int .i64 t230.1.Rule.Quota, .bool t230.1.On]), (3, .agg #[.int .u8 t266.1.Kind, .int .u64 t266.1.ID.Session, .int .u64 t266.1.ID.Seq, .int .u64 t266.1.Epoch, .int .u64 t266.1.Index, .int .i64 t266.1.E, .int .u64 t266.1.Hold.ID.Session, .int .u64 t266.1.Hold.ID.Seq, .int .u64 t266.1.Hold.Epoch, v271, v273, v275, v277, v279, .int .i64 t266.1.R.E, .int .u64 t266.1.R.Epoch, .int .u64 t266.1.R.Index, v281, v283, .int .u64 t266.1.Shards, v285, .int .u64 t266.1.Rule.ID, .int .i64 t266.1.Rule.From, .int .i64 t266.1.Rule.To, .float .f64 t266.1.Rule.Lo, .float .f64 t266.1.Rule.Hi, .int .u64 t266.1.Rule.Authority, .int .i64 t266.1.Rule.Quota, .bool t266.1.On])]) hst (by kernel_rfl) (pk_cons rfl (yi_run rfl (fun w hst => x_loadN (cs := [.int .u8 t266.1.Kind, .int .u64 t266.1.ID.Session, .int .u64 t266.1.ID.Seq, .int .u64 t266.1.Epoch, .int .u64 t266.1.Index, .int .i64 t266.1.E, .int .u64 t266.1.Hold.ID.Session, .int .u64 t266.1.Hold.ID.Seq, .int .u64 t266.1.Hold.Epoch, v271, v273, v275, v277, v279, .int .i64 t266.1.R.E, .int .u64 t266.1.R.Epoch, .int .u64 t266.1.R.Index, v281, v283, .int .u64 t266.1.Shards, v285, .int .u64 t266.1.Rule.ID, .int .i64 t266.1.Rule.From, .int .i64 t266.1.Rule.To, .float .f64 t266.1.Rule.Lo, .float .f64 t266.1.Rule.Hi, .int .u64 t266.1.Rule.Authority, .int .i64 t266.1.Rule.Quota, .bool t266.1.On]) rfl Try.isAgg45 Try.sizeOf45 (hst.bcs9 0 rfl))) (pk_cons rfl (yi_run rfl (fun w hst => x_loadN (cs := [.int .u8 t230.1.Kind, .int .u64 t230.1.ID.Session, .int .u64 t230.1.ID.Seq, .int .u64 t230.1.Epoch, .int .u64 t230.1.Index, .int .i64 t230.1.E, .int .u64 t230.1.Hold.ID.Session, .int .u64 t230.1.Hold.ID.Seq, .int .u64 t230.1.Hold.Epoch, v235, v237, v239, v241, v243, .int .i64 t230.1.R.E, .int .u64 t230.1.R.Epoch, .int .u64 t230.1.R.Index, v245, v247, .int .u64 t230.1.Shards, v249, .int .u64 t230.1.Rule.ID, .int .i64 t230.1.Rule.From, .int .i64 t230.1.Rule.To, .float .f64 t230.1.Rule.Lo, .float .f64 t230.1.Rule.Hi, .int .u64 t230.1.Rule.Authority, .int .i64 t230.1.Rule.Quota, .bool t230.1.On]) rfl Try.isAgg45 Try.sizeOf45 (hst.bcs19 0 rfl))) (pk_cons rfl (yi_run rfl (fun w hst => x_loadN (cs := [.int .u8 t266.1.Kind, .int .u64 t266.1.ID.Session, .int .u64 t266.1.ID.Seq, .int .u64 t266.1.Epoch, .int .u64 t266.1.Index, .int .i64 t266.1.E, .int .u64 t266.1.Hold.ID.Session, .int .u64 t266.1.Hold.ID.Seq, .int .u64 t266.1.Hold.Epoch, v271, v273, v275, v277, v279, .int .i64 t266.1.R.E, .int .u64 t266.1.R.Epoch, .int .u64 t266.1.R.Index, v281, v283, .int .u64 t266.1.Shards, v285, .int .u64 t266.1.Rule.ID, .int .i64 t266.1.Rule.From, .int .i64 t266.1.Rule.To, .float .f64 t266.1.Rule.Lo, .float .f64 t266.1.Rule.Hi, .int .u64 t266.1.Rule.Authority, .int .i64 t266.1.Rule.Quota, .bool t266.1.On]) rfl Try.isAgg45 Try.sizeOf45 (hst.bcs9 0 rfl))) pk_nil))) ?_
        refine ws_q (v := .string (toStr t318)) 2 [4, 5, 6, 9, 10, 11] (by kernel_rfl) rfl rfl (yi_run rfl (fun w hst => x_tostr Try.underlying22 Try.underlying9 Try.underlying5 rfl hst.src8)) ?_
        refine ws_e1 4 (by kernel_rfl) ?_
        refine nxe [5, 6, 9, 10, 11] (by kernel_rfl) rfl rfl ?_
        clear hst
        intro w hst
        replace hst := hst.pull10
        obtain ⟨css325, hq326, hst⟩ := hst.own_open
        replace hst := hst.pull11
        obtain ⟨css327, hq328, hst⟩ := hst.own_open
        replace hst := hst.pull12
        obtain ⟨css329, hq330, hst⟩ := hst.own_open
        replace hst := hst.pull13
        obtain ⟨css331, hq332, hst⟩ := hst.own_open
        replace hst := hst.pull14
        obtain ⟨css333, hq334, hst⟩ := hst.own_open
        replace hst := hst.pull15
        obtain ⟨css335, hq336, hst⟩ := hst.own_open
        replace hst := hst.pull16
        obtain ⟨css337, hq338, hst⟩ := hst.own_open
        replace hst := hst.pull17
        obtain ⟨css339, hq340, hst⟩ := hst.own_open
        obtain ⟨t341, ht342, hm⟩ := bind_some hm
        refine we_call rfl (x_call Try.call10 rfl (vs := [.agg #[.int .u8 t266.1.Kind, .int .u64 t266.1.ID.Session, .int .u64 t266.1.ID.Seq, .int .u64 t266.1.Epoch, .int .u64 t266.1.Index, .int .i64 t266.1.E, .int .u64 t266.1.Hold.ID.Session, .int .u64 t266.1.Hold.ID.Seq, .int .u64 t266.1.Hold.Epoch, v271, v273, v275, v277, v279, .int .i64 t266.1.R.E, .int .u64 t266.1.R.Epoch, .int .u64 t266.1.R.Index, v281, v283, .int .u64 t266.1.Shards, v285, .int .u64 t266.1.Rule.ID, .int .i64 t266.1.Rule.From, .int .i64 t266.1.Rule.To, .float .f64 t266.1.Rule.Lo, .float .f64 t266.1.Rule.Hi, .int .u64 t266.1.Rule.Authority, .int .i64 t266.1.Rule.Quota, .bool t266.1.On]]) rfl) ?_
        refine (command_Encode_ref (hst.rdrow7 hq326) (hst.rdrow6 hq328) (hst.rdrow5 hq330) (hst.rdrow4 hq332) (hst.rdrow3 hq334) (hst.rdrow2 hq336) (hst.rdrow1 hq338) (hst.rdrow0 hq340) hst.to0 ht342).mono ?_
        rintro _ w343 ⟨v346, rfl, hst⟩
        refine ⟨_, rfl, ?_⟩
        replace hst := hst.of1
        replace hst := hst.pull8
        replace hst := hst.own_close hq326
        replace hst := hst.pull8
        replace hst := hst.own_close hq328
        replace hst := hst.pull8
        replace hst := hst.own_close hq330
        replace hst := hst.pull8
        replace hst := hst.own_close hq332
        replace hst := hst.pull8
        replace hst := hst.own_close hq334
        replace hst := hst.pull8
        replace hst := hst.own_close hq336
        replace hst := hst.pull8
        replace hst := hst.own_close hq338
        replace hst := hst.pull8
        replace hst := hst.own_close hq340
        refine ws_next (pend' := [(2, .string (toStr t318)), (8, .agg #[.int .u8 t266.1.Kind, .int .u64 t266.1.ID.Session, .int .u64 t266.1.ID.Seq, .int .u64 t266.1.Epoch, .int .u64 t266.1.Index, .int .i64 t266.1.E, .int .u64 t266.1.Hold.ID.Session, .int .u64 t266.1.Hold.ID.Seq, .int .u64 t266.1.Hold.Epoch, v271, v273, v275, v277, v279, .int .i64 t266.1.R.E, .int .u64 t266.1.R.Epoch, .int .u64 t266.1.R.Index, v281, v283, .int .u64 t266.1.Shards, v285, .int .u64 t266.1.Rule.ID, .int .i64 t266.1.Rule.From, .int .i64 t266.1.Rule.To, .float .f64 t266.1.Rule.Lo, .float .f64 t266.1.Rule.Hi, .int .u64 t266.1.Rule.Authority, .int .i64 t266.1.Rule.Quota, .bool t266.1.On]), (7, .agg #[.int .u8 t230.1.Kind, .int .u64 t230.1.ID.Session, .int .u64 t230.1.ID.Seq, .int .u64 t230.1.Epoch, .int .u64 t230.1.Index, .int .i64 t230.1.E, .int .u64 t230.1.Hold.ID.Session, .int .u64 t230.1.Hold.ID.Seq, .int .u64 t230.1.Hold.Epoch, v235, v237, v239, v241, v243, .int .i64 t230.1.R.E, .int .u64 t230.1.R.Epoch, .int .u64 t230.1.R.Index, v245, v247, .int .u64 t230.1.Shards, v249, .int .u64 t230.1.Rule.ID, .int .i64 t230.1.Rule.From, .int .i64 t230.1.Rule.To, .float .f64 t230.1.Rule.Lo, .float .f64 t230.1.Rule.Hi, .int .u64 t230.1.Rule.Authority, .int .i64 t230.1.Rule.Quota, .bool t230.1.On])]) hst (by kernel_rfl) (pk_cons rfl (yi_run rfl (fun w hst => x_tostr Try.underlying22 Try.underlying9 Try.underlying5 rfl hst.src17)) (pk_cons rfl (yi_run rfl (fun w hst => x_loadN (cs := [.int .u8 t266.1.Kind, .int .u64 t266.1.ID.Session, .int .u64 t266.1.ID.Seq, .int .u64 t266.1.Epoch, .int .u64 t266.1.Index, .int .i64 t266.1.E, .int .u64 t266.1.Hold.ID.Session, .int .u64 t266.1.Hold.ID.Seq, .int .u64 t266.1.Hold.Epoch, v271, v273, v275, v277, v279, .int .i64 t266.1.R.E, .int .u64 t266.1.R.Epoch, .int .u64 t266.1.R.Index, v281, v283, .int .u64 t266.1.Shards, v285, .int .u64 t266.1.Rule.ID, .int .i64 t266.1.Rule.From, .int .i64 t266.1.Rule.To, .float .f64 t266.1.Rule.Lo, .float .f64 t266.1.Rule.Hi, .int .u64 t266.1.Rule.Authority, .int .i64 t266.1.Rule.Quota, .bool t266.1.On]) rfl Try.isAgg45 Try.sizeOf45 (hst.bcs18 0 rfl))) (pk_cons rfl (yi_run rfl (fun w hst => x_loadN (cs := [.int .u8 t230.1.Kind, .int .u64 t230.1.ID.Session, .int .u64 t230.1.ID.Seq, .int .u64 t230.1.Epoch, .int .u64 t230.1.Index, .int .i64 t230.1.E, .int .u64 t230.1.Hold.ID.Session, .int .u64 t230.1.Hold.ID.Seq, .int .u64 t230.1.Hold.Epoch, v235, v237, v239, v241, v243, .int .i64 t230.1.R.E, .int .u64 t230.1.R.Epoch, .int .u64 t230.1.R.Index, v245, v247, .int .u64 t230.1.Shards, v249, .int .u64 t230.1.Rule.ID, .int .i64 t230.1.Rule.From, .int .i64 t230.1.Rule.To, .float .f64 t230.1.Rule.Lo, .float .f64 t230.1.Rule.Hi, .int .u64 t230.1.Rule.Authority, .int .i64 t230.1.Rule.Quota, .bool t230.1.On]) rfl Try.isAgg45 Try.sizeOf45 (hst.bcs20 0 rfl))) pk_nil))) ?_
        refine ws_q (v := .string (toStr t341)) 5 [6, 9, 10, 11] (by kernel_rfl) rfl rfl (yi_run rfl (fun w hst => x_tostr Try.underlying22 Try.underlying9 Try.underlying5 rfl hst.src8)) ?_
        refine ws_q (v := .bool (sEq (toStr t318) (toStr t341))) 6 [9, 10, 11] (by kernel_rfl) rfl rfl (yi_run rfl (fun w hst => by kernel_rfl)) ?_
        refine ws_e1 9 (by kernel_rfl) ?_
        refine nxe [10, 11] (by kernel_rfl) rfl rfl ?_
        clear hst
        intro w hst
        replace hst := hst.pull16
        obtain ⟨css348, hq349, hst⟩ := hst.own_open
        replace hst := hst.pull16
        obtain ⟨css350, hq351, hst⟩ := hst.own_open
        replace hst := hst.pull16
        obtain ⟨css352, hq353, hst⟩ := hst.own_open
        replace hst := hst.pull16
        obtain ⟨css354, hq355, hst⟩ := hst.own_open
        replace hst := hst.pull16
        obtain ⟨css356, hq357, hst⟩ := hst.own_open
        replace hst := hst.pull16
        obtain ⟨css358, hq359, hst⟩ := hst.own_open
        replace hst := hst.pull16
        obtain ⟨css360, hq361, hst⟩ := hst.own_open
        replace hst := hst.pull16
        obtain ⟨css362, hq363, hst⟩ := hst.own_open
        replace hst := hst.pull15
        obtain ⟨css364, hq365, hst⟩ := hst.own_open
        replace hst := hst.pull15
        obtain ⟨css366, hq367, hst⟩ := hst.own_open
        replace hst := hst.pull15
        obtain ⟨css368, hq369, hst⟩ := hst.own_open
        replace hst := hst.pull15
        obtain ⟨css370, hq371, hst⟩ := hst.own_open
        replace hst := hst.pull15
        obtain ⟨css372, hq373, hst⟩ := hst.own_open
        replace hst := hst.pull15
        obtain ⟨css374, hq375, hst⟩ := hst.own_open
        replace hst := hst.pull15
        obtain ⟨css376, hq377, hst⟩ := hst.own_open
        replace hst := hst.pull15
        obtain ⟨css378, hq379, hst⟩ := hst.own_open
        obtain ⟨t380, ht381, hm⟩ := bind_some hm
        refine we_call rfl (x_call Try.call11 rfl (vs := [.agg #[.int .u8 t230.1.Kind, .int .u64 t230.1.ID.Session, .int .u64 t230.1.ID.Seq, .int .u64 t230.1.Epoch, .int .u64 t230.1.Index, .int .i64 t230.1.E, .int .u64 t230.1.Hold.ID.Session, .int .u64 t230.1.Hold.ID.Seq, .int .u64 t230.1.Hold.Epoch, v235, v237, v239, v241, v243, .int .i64 t230.1.R.E, .int .u64 t230.1.R.Epoch, .int .u64 t230.1.R.Index, v245, v247, .int .u64 t230.1.Shards, v249, .int .u64 t230.1.Rule.ID, .int .i64 t230.1.Rule.From, .int .i64 t230.1.Rule.To, .float .f64 t230.1.Rule.Lo, .float .f64 t230.1.Rule.Hi, .int .u64 t230.1.Rule.Authority, .int .i64 t230.1.Rule.Quota, .bool t230.1.On], .agg #[.int .u8 t266.1.Kind, .int .u64 t266.1.ID.Session, .int .u64 t266.1.ID.Seq, .int .u64 t266.1.Epoch, .int .u64 t266.1.Index, .int .i64 t266.1.E, .int .u64 t266.1.Hold.ID.Session, .int .u64 t266.1.Hold.ID.Seq, .int .u64 t266.1.Hold.Epoch, v271, v273, v275, v277, v279, .int .i64 t266.1.R.E, .int .u64 t266.1.R.Epoch, .int .u64 t266.1.R.Index, v281, v283, .int .u64 t266.1.Shards, v285, .int .u64 t266.1.Rule.ID, .int .i64 t266.1.Rule.From, .int .i64 t266.1.Rule.To, .float .f64 t266.1.Rule.Lo, .float .f64 t266.1.Rule.Hi, .int .u64 t266.1.Rule.Authority, .int .i64 t266.1.Rule.Quota, .bool t266.1.On]]) rfl) ?_
        refine (law13_same_ref (hst.rdrow15 hq349) (hst.rdrow14 hq351) (hst.rdrow13 hq353) (hst.rdrow12 hq355) (hst.rdrow11 hq357) (hst.rdrow10 hq359) (hst.rdrow9 hq361) (hst.rdrow8 hq363) (hst.rdrow7 hq365) (hst.rdrow6 hq367) (hst.rdrow5 hq369) (hst.rdrow4 hq371) (hst.rdrow3 hq373) (hst.rdrow2 hq375) (hst.rdrow1 hq377) (hst.rdrow0 hq379) hst.to0 ht381).mono ?_
        rintro _ w382 ⟨rfl, hst⟩
        refine ⟨_, rfl, ?_⟩
        replace hst := hst.of0
        replace hst := hst.pull15
        replace hst := hst.own_close hq349
        replace hst := hst.pull15
        replace hst := hst.own_close hq351
        replace hst := hst.pull15
        replace hst := hst.own_close hq353
        replace hst := hst.pull15
        replace hst := hst.own_close hq355
        replace hst := hst.pull15
        replace hst := hst.own_close hq357
        replace hst := hst.pull15
        replace hst := hst.own_close hq359
        replace hst := hst.pull15
        replace hst := hst.own_close hq361
        replace hst := hst.pull15
        replace hst := hst.own_close hq363
        replace hst := hst.pull15
        replace hst := hst.own_close hq365
        replace hst := hst.pull15
        replace hst := hst.own_close hq367
        replace hst := hst.pull15
        replace hst := hst.own_close hq369
        replace hst := hst.pull15
        replace hst := hst.own_close hq371
        replace hst := hst.pull15
        replace hst := hst.own_close hq373
        replace hst := hst.pull15
        replace hst := hst.own_close hq375
        replace hst := hst.pull15
        replace hst := hst.own_close hq377
        replace hst := hst.pull15
        replace hst := hst.own_close hq379
        refine ws_next (pend' := [(6, .bool (sEq (toStr t318) (toStr t341))), (5, .string (toStr t341)), (2, .string (toStr t318))]) hst (by kernel_rfl) (pk_cons rfl (yi_run rfl (fun w hst => by kernel_rfl)) (pk_cons rfl (yi_run rfl (fun w hst => x_tostr Try.underlying22 Try.underlying9 Try.underlying5 rfl hst.src16)) (pk_cons rfl (yi_run rfl (fun w hst => x_tostr Try.underlying22 Try.underlying9 Try.underlying5 rfl hst.src17)) pk_nil))) ?_
        refine ws_q (v := .bool ((sEq (toStr t318) (toStr t341)) == t380)) 10 [11] (by kernel_rfl) rfl rfl (yi_run rfl (fun w hst => by kernel_rfl)) ?_
        refine ws_q (v := .bool ((sEq (toStr t318) (toStr t341)) == t380)) 11 [] (by kernel_rfl) rfl rfl (yi_run rfl (fun w hst => rfl)) ?_
        refine ws_nil ?_
        intro w hst
        refine then_n ?_
        refine wp_ret ?_
        obtain rfl := some_inj hm
        refine post_ret (vs := [.bool ((sEq (toStr t318) (toStr t341)) == t380)]) Try.results3 (rvs_cons (rv_tmp rfl) rvs_nil) ?_
        exact ⟨_, rfl, hI0, hst.keep0⟩

end Go.Proofs.Ytijcfglomdfglaa
