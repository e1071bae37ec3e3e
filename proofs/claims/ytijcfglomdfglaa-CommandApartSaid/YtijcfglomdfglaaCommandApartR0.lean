/- The Go functions refine their models, part 0. -/
import Derived.Test.YtijcfglomdfglaaCommandApartT
set_option linter.unusedVariables false
set_option linter.unusedSimpArgs false
set_option maxRecDepth 100000
set_option maxHeartbeats 4000000
namespace Go.Proofs.Ytijcfglomdfglaa
open Go Go.V
attribute [local irreducible] wpList Code.wp wpQuiet Calls bodyPost Oper.wp wpS Nx PendOK YieldsIn
theorem octet_Writer_lay_ref {w0 w : World} {I : HL} {R : SP} {a0 : octet_Writer} {p0 : Value} {a1 : (List Int)} {r1_0 : Value} (f1_0 : Rd (tyInt .u8) R I r1_0 a1) (hst : St w0 w I [at_octet_Writer p0 a0] R) {r : (octet_Writer)} (hm : octet_Writer_lay a0 a1 = some r) :
    Calls Try.prog 61 #[p0, r1_0] w fun e w' => e = .returned (p0) ∧ St w0 w' I [at_octet_Writer p0 r] R := by
  unfold octet_Writer_lay at hm
  refine calls_start (args := [p0, r1_0]) Try.func61 rfl Try.ntmps61 (Nat.le_of_ble_eq_true rfl) ?_
  refine wp_seq ?_
  refine wp_region_lit ?_
  refine wl_val (v := .pointer none) rfl rfl rfl ?_
  refine wl_nil ?_
  refine then_n ?_
  refine wp_seq ?_
  refine wp_region_lit ?_
  refine wl_val (v := p0) rfl rfl rfl ?_
  refine wl_val (v := p0) rfl rfl rfl ?_
  obtain ⟨b60, v61, rfl, hst'⟩ := at_octet_Writer_open hst
  clear hst
  have hst := hst'
  clear hst'
  refine wl_val (v := .pointer (some ⟨b60, 0, none⟩)) rfl rfl rfl ?_
  refine wl_val (v := .pointer (some ⟨b60, 0, none⟩)) rfl rfl (x_field rfl Try.underlying58 rfl Try.sizeOf22 rfl) ?_
  refine wl_val (v := v61) rfl rfl (x_load rfl Try.isAgg22 (hst.bc0 rfl)) ?_
  refine wl_val (v := r1_0) rfl rfl rfl ?_
  obtain ⟨hg63, hm⟩ := gd_some hm
  replace hst := hst.pull1
  obtain ⟨v64, w65, hr66, hst⟩ := run_append elem_22 Try.underlying22 hst (Src.of_rd hst f1_0 flat_int) (room_of hg63 rfl) 22
  refine wl_run (v := v64) (w' := w65) rfl rfl (x_append rfl rfl hr66) ?_
  refine wl_val (v := .pointer (some ⟨b60, 0, none⟩)) rfl rfl rfl ?_
  refine wl_val (v := .pointer (some ⟨b60, 0, none⟩)) rfl rfl (x_field rfl Try.underlying58 rfl Try.sizeOf22 rfl) ?_
  replace hst := hst.pull1
  obtain ⟨w67, hr68, hst⟩ := hst.boxStore1 (P := Try.prog) (t := 22) (cs' := [v64]) 0 v64 (one_of_sliceV hst.sv1) Try.sizeOf22 rfl rfl
  refine wl_unit rfl rfl (x_unit hr68) ?_
  refine wl_nil ?_
  refine then_n ?_
  refine wp_seq ?_
  refine wp_region_lit ?_
  refine wl_val (v := .pointer (some ⟨b60, 0, none⟩)) rfl rfl rfl ?_
  refine wl_val (v := .pointer (some ⟨b60, 0, none⟩)) rfl rfl rfl ?_
  refine wl_nil ?_
  refine then_n ?_
  refine wp_ret ?_
  replace hst := hst.pull1
  replace hst := hst.pull1
  replace hst := at_octet_Writer_close (pv := .pointer (some ⟨b60, 0, none⟩)) (x := ({ p := (a0.p ++ a1) } : octet_Writer)) hst rfl
  obtain rfl := some_inj hm
  refine post_ret (vs := [.pointer (some ⟨b60, 0, none⟩)]) Try.results61 (rvs_cons (rv_tmp rfl) rvs_nil) ?_
  exact ⟨rfl, hst.keep1⟩

theorem octet_Writer_Num_ref {w0 w : World} {I : HL} {R : SP} {a0 : octet_Writer} {p0 : Value} {a1 : Int} {a2 : Int}  (hst : St w0 w I [at_octet_Writer p0 a0] R) {r : (octet_Writer)} (hm : octet_Writer_Num a0 a1 a2 = some r) :
    Calls Try.prog 27 #[p0, .int .u64 a1, .int .i64 a2] w fun e w' => e = .returned (p0) ∧ St w0 w' I [at_octet_Writer p0 r] R := by
  unfold octet_Writer_Num at hm
  refine calls_start (args := [p0, .int .u64 a1, .int .i64 a2]) Try.func27 rfl Try.ntmps27 (Nat.le_of_ble_eq_true rfl) ?_
  refine wp_seq ?_
  refine wp_region_lit ?_
  refine wl_val (v := .pointer none) rfl rfl rfl ?_
  refine wl_nil ?_
  refine then_n ?_
  refine wp_seq ?_
  refine wp_seq ?_
  refine wp_region_lit ?_
  refine wl_val (v := .int .i64 a2) rfl rfl rfl ?_
  refine wl_val (v := .int .i64 (0:Int)) rfl rfl rfl ?_
  refine wl_nil ?_
  refine then_n ?_
  refine wp_block ?_
  obtain ⟨n128, hm⟩ := loopO_some hm
  refine wp_loop_n (fun n a w => ∃ (z125 : octet_Writer) (z126 : Int) (σ127 : Nat → Value), loopN (octet_Writer_Num_l0 a2 a1) n (z125, z126) = some r ∧ a = Fr 22 (upd (upd (upd (upd σ127 0 (p0)) 1 (.int .u64 a1)) 8 (.int .i64 a2)) 9 (.int .i64 z126)) ∧ St w0 w I [at_octet_Writer p0 z125] R) n128 ⟨a0, (0:Int), _, hm, ((fr_upd (t := 0) (v := p0) rfl).trans ((fr_upd (t := 1) (v := .int .u64 a1) rfl).trans ((fr_upd (t := 8) (v := .int .i64 a2) rfl).trans ((fr_upd (t := 9) (v := .int .i64 (0:Int)) rfl).trans rfl)))), hst⟩ ?_
  rintro n134 _ w129 ⟨z125, z126, σ127, hm, rfl, hst⟩
  obtain ⟨n131, y132, rfl, hm, hx133⟩ := loopN_some hm
  dsimp only [octet_Writer_Num_l0] at hm
  refine wp_seq ?_
  refine wp_region_lit ?_
  refine wl_val (v := .bool (decide (z126 < a2))) rfl rfl rfl ?_
  refine wl_nil ?_
  refine then_n ?_
  refine wp_seq ?_
  refine bsplit (decide (z126 < a2)) (fun hc135 => ?_) (fun hc135 => ?_)
  · skip
    replace hm := bif_t hc135 hm
    refine wp_ift (congrArg Value.bool hc135) ?_
    refine wp_skip ?_
    refine then_n ?_
    refine wp_seq ?_
    refine wp_block ?_
    refine wp_seq ?_
    refine wp_region_lit ?_
    refine wl_val (v := .int .i64 z126) rfl rfl rfl ?_
    refine wl_val (v := .int .i64 z126) rfl rfl rfl ?_
    refine wl_nil ?_
    refine then_n ?_
    refine wp_region_lit ?_
    refine wl_val (v := p0) rfl rfl rfl ?_
    refine wl_val (v := .int .u64 a1) rfl rfl rfl ?_
    refine wl_val (v := .int .i64 z126) rfl rfl rfl ?_
    refine wl_val (v := .int .i64 (IntKind.i64.wrap ((8:Int) * z126))) rfl rfl rfl ?_
    obtain ⟨hg136, hm⟩ := gd_some hm
    refine wl_val (v := .int .u64 (iShr .u64 a1 (IntKind.i64.wrap ((8:Int) * z126)))) rfl rfl (x_shr (of_decide_eq_true hg136) rfl rfl) ?_
    refine wl_val (v := .int .u8 (IntKind.u8.wrap (iShr .u64 a1 (IntKind.i64.wrap ((8:Int) * z126))))) rfl rfl (by kernel_rfl) ?_
    obtain ⟨b137, w138, ew139, eb140, hst⟩ := hst.lits (E := (tyInt .u8)) (xs := [(IntKind.u8.wrap (iShr .u64 a1 (IntKind.i64.wrap ((8:Int) * z126))))]) [[.int .u8 (IntKind.u8.wrap (iShr .u64 a1 (IntKind.i64.wrap ((8:Int) * z126))))]] 5 1 rfl (Reps.cons rfl Reps.nil)
    refine wl_run (v := (.slice (some ⟨b137, 0, none⟩) 1 1)) (w' := w138) rfl rfl (x_als (by kernel_rfl) ew139 eb140) ?_
    obtain ⟨css142, hq143, hst⟩ := hst.own_open
    replace hst := hst.pull1
    obtain ⟨t144, ht145, hm⟩ := bind_some hm
    refine wl_call rfl rfl (x_call Try.call61 rfl (vs := [p0, (.slice (some ⟨b137, 0, none⟩) 1 1)]) rfl) ?_
    refine (octet_Writer_lay_ref (hst.sub.rdrow0 hq143) hst.to1 ht145).mono ?_
    rintro _ w146 ⟨rfl, hst⟩
    refine ⟨_, rfl, ?_⟩
    replace hst := hst.of1
    replace hst := hst.pull1
    replace hst := hst.own_close hq143
    refine wl_nil ?_
    refine blk_n ?_
    refine then_n ?_
    refine wp_region_lit ?_
    refine wl_val (v := .int .i64 (IntKind.i64.wrap (z126 + (1:Int)))) rfl rfl rfl ?_
    refine wl_val (v := .int .i64 (IntKind.i64.wrap (z126 + (1:Int)))) rfl rfl rfl ?_
    refine wl_nil ?_
    refine then_n ?_
    replace hst := hst.pull1
    replace hst := hst.keep1
    obtain rfl := some_inj hm
    exact ⟨_, Nat.lt_succ_self _, t144, (IntKind.i64.wrap (z126 + (1:Int))), _, hx133, ((fr_upd (t := 0) (v := p0) rfl).trans ((fr_upd (t := 1) (v := .int .u64 a1) rfl).trans ((fr_upd (t := 8) (v := .int .i64 a2) rfl).trans ((fr_upd (t := 9) (v := .int .i64 (IntKind.i64.wrap (z126 + (1:Int)))) rfl).trans rfl)))), hst⟩
  · skip
    replace hm := bif_f hc135 hm
    refine wp_iff (congrArg Value.bool hc135) ?_
    refine wp_exit ?_
    refine then_x ?_
    refine then_x ?_
    replace hm := inr_up hm hx133
    refine blk_x ?_
    refine then_n ?_
    refine wp_seq ?_
    refine wp_region_lit ?_
    refine wl_val (v := p0) rfl rfl rfl ?_
    refine wl_val (v := p0) rfl rfl rfl ?_
    refine wl_nil ?_
    refine then_n ?_
    refine wp_ret ?_
    obtain rfl := some_inj hm
    refine post_ret (vs := [p0]) Try.results27 (rvs_cons (rv_tmp rfl) rvs_nil) ?_
    exact ⟨rfl, hst.keep1⟩

theorem octet_Writer_Done_ref {w0 w : World} {I : HL} {R : SP} {a0 : octet_Writer} {p0 : Value}  (hst : St w0 w I [at_octet_Writer p0 a0] R) {r : ((List Int))} (hm : octet_Writer_Done a0 = some r) :
    Calls Try.prog 14 #[p0] w fun e w' => ∃ (q0_0 : Value), e = .returned (q0_0) ∧ St w0 w' I [ownS (tyInt .u8) q0_0 r] R := by
  unfold octet_Writer_Done at hm
  refine calls_start (args := [p0]) Try.func14 rfl Try.ntmps14 (Nat.le_of_ble_eq_true rfl) ?_
  refine wp_seq ?_
  refine wp_region_lit ?_
  refine wl_val (v := (.slice none 0 0)) rfl rfl rfl ?_
  refine wl_nil ?_
  refine then_n ?_
  refine wp_seq ?_
  refine wp_region_lit ?_
  refine wl_val (v := p0) rfl rfl rfl ?_
  obtain ⟨b57, v58, rfl, hst'⟩ := at_octet_Writer_open hst
  clear hst
  have hst := hst'
  clear hst'
  refine wl_val (v := .pointer (some ⟨b57, 0, none⟩)) rfl rfl rfl ?_
  refine wl_val (v := .pointer (some ⟨b57, 0, none⟩)) rfl rfl (x_field rfl Try.underlying58 rfl Try.sizeOf22 rfl) ?_
  refine wl_val (v := v58) rfl rfl (x_load rfl Try.isAgg22 (hst.bc0 rfl)) ?_
  refine wl_val (v := v58) rfl rfl rfl ?_
  refine wl_nil ?_
  refine then_n ?_
  refine wp_ret ?_
  obtain rfl := some_inj hm
  refine post_ret (vs := [v58]) Try.results14 (rvs_cons (rv_tmp rfl) rvs_nil) ?_
  replace hst := hst.pull1
  exact ⟨v58, rfl, hst.keep1⟩

theorem math_IsNaN_ref {w0 w : World} {I : HL} {R : SP} {a0 : Nat}  (hst : St w0 w I [] R) {r : (Bool)} (hm : math_IsNaN a0 = some r) :
    Calls Try.prog 64 #[.float .f64 a0] w fun e w' => e = .returned (.bool r) ∧ St w0 w' I [] R := by
  unfold math_IsNaN at hm
  refine calls_start (args := [.float .f64 a0]) Try.func64 rfl Try.ntmps64 (Nat.le_of_ble_eq_true rfl) ?_
  refine wp_seq ?_
  refine wp_region_lit ?_
  refine wl_val (v := .bool false) rfl rfl rfl ?_
  refine wl_nil ?_
  refine then_n ?_
  refine wp_seq ?_
  refine wp_region_lit ?_
  refine wl_val (v := .float .f64 a0) rfl rfl rfl ?_
  refine wl_val (v := .float .f64 a0) rfl rfl rfl ?_
  refine wl_val (v := .bool (fNe a0 a0)) rfl rfl rfl ?_
  refine wl_val (v := .bool (fNe a0 a0)) rfl rfl rfl ?_
  refine wl_nil ?_
  refine then_n ?_
  refine wp_ret ?_
  obtain rfl := some_inj hm
  refine post_ret (vs := [.bool (fNe a0 a0)]) Try.results64 (rvs_cons (rv_tmp rfl) rvs_nil) ?_
  exact ⟨rfl, hst.keep0⟩

theorem number_Rank_ref {w0 w : World} {I : HL} {R : SP} {a0 : Nat}  (hst : St w0 w I [] R) {r : (Int)} (hm : number_Rank a0 = some r) :
    Calls Try.prog 39 #[.float .f64 a0] w fun e w' => e = .returned (.int .u64 r) ∧ St w0 w' I [] R := by
  unfold number_Rank at hm
  refine calls_start (args := [.float .f64 a0]) Try.func39 rfl Try.ntmps39 (Nat.le_of_ble_eq_true rfl) ?_
  refine wp_seq ?_
  refine wp_region_lit ?_
  refine wl_val (v := .int .u64 (0:Int)) rfl rfl rfl ?_
  refine wl_nil ?_
  refine then_n ?_
  refine wp_seq ?_
  refine wp_seq ?_
  refine wp_region_lit ?_
  refine wl_val (v := .float .f64 a0) rfl rfl rfl ?_
  obtain ⟨t101, ht102, hm⟩ := bind_some hm
  refine wl_call rfl rfl (x_call Try.call64 rfl (vs := [.float .f64 a0]) rfl) ?_
  refine (math_IsNaN_ref hst.to0 ht102).mono ?_
  rintro _ w103 ⟨rfl, hst⟩
  refine ⟨_, rfl, ?_⟩
  replace hst := hst.of0
  refine wl_nil ?_
  refine then_n ?_
  refine bsplit t101 (fun hc106 => ?_) (fun hc106 => ?_)
  · skip
    replace hm := bif_t hc106 hm
    refine wp_ift (congrArg Value.bool hc106) ?_
    refine wp_seq ?_
    refine wp_region_lit ?_
    refine wl_val (v := .int .u64 (18446744073709551615:Int)) rfl rfl rfl ?_
    refine wl_nil ?_
    refine then_n ?_
    refine wp_ret ?_
    refine then_r ?_
    obtain rfl := some_inj hm
    refine post_ret (vs := [.int .u64 (18446744073709551615:Int)]) Try.results39 (rvs_cons (rv_tmp rfl) rvs_nil) ?_
    exact ⟨rfl, hst.keep0⟩
  · skip
    replace hm := bif_f hc106 hm
    refine wp_iff (congrArg Value.bool hc106) ?_
    refine wp_skip ?_
    refine then_n ?_
    refine wp_seq ?_
    refine wp_region_lit ?_
    refine wl_val (v := .float .f64 a0) rfl rfl rfl ?_
    refine wl_val (v := .int .u64 (Int.ofNat a0)) rfl rfl (by kernel_rfl) ?_
    refine wl_val (v := .int .u64 (Int.ofNat a0)) rfl rfl rfl ?_
    refine wl_nil ?_
    refine then_n ?_
    refine wp_seq ?_
    refine wp_seq ?_
    refine wp_region_lit ?_
    refine wl_val (v := .int .u64 (Int.ofNat a0)) rfl rfl rfl ?_
    refine wl_val (v := .int .u64 (iShr .u64 (Int.ofNat a0) (63:Int))) rfl rfl (x_shr (by decide) rfl rfl) ?_
    refine wl_val (v := .bool ((iShr .u64 (Int.ofNat a0) (63:Int)) == (1:Int))) rfl rfl rfl ?_
    refine wl_nil ?_
    refine then_n ?_
    refine bsplit ((iShr .u64 (Int.ofNat a0) (63:Int)) == (1:Int)) (fun hc107 => ?_) (fun hc107 => ?_)
    · skip
      replace hm := bif_t hc107 hm
      refine wp_ift (congrArg Value.bool hc107) ?_
      refine wp_seq ?_
      refine wp_region_lit ?_
      refine wl_val (v := .int .u64 (Int.ofNat a0)) rfl rfl rfl ?_
      refine wl_val (v := .int .u64 (bXor .u64 ((18446744073709551615):Int) (Int.ofNat a0))) rfl rfl (by kernel_rfl) ?_
      refine wl_val (v := .int .u64 (bXor .u64 ((18446744073709551615):Int) (Int.ofNat a0))) rfl rfl rfl ?_
      refine wl_nil ?_
      refine then_n ?_
      refine wp_ret ?_
      refine then_r ?_
      obtain rfl := some_inj hm
      refine post_ret (vs := [.int .u64 (bXor .u64 ((18446744073709551615):Int) (Int.ofNat a0))]) Try.results39 (rvs_cons (rv_tmp rfl) rvs_nil) ?_
      exact ⟨rfl, hst.keep0⟩
    · skip
      replace hm := bif_f hc107 hm
      refine wp_iff (congrArg Value.bool hc107) ?_
      refine wp_skip ?_
      refine then_n ?_
      refine wp_seq ?_
      refine wp_region_lit ?_
      refine wl_val (v := .int .u64 (Int.ofNat a0)) rfl rfl rfl ?_
      refine wl_val (v := .int .u64 (bOr .u64 (Int.ofNat a0) (9223372036854775808:Int))) rfl rfl rfl ?_
      refine wl_val (v := .int .u64 (bOr .u64 (Int.ofNat a0) (9223372036854775808:Int))) rfl rfl rfl ?_
      refine wl_nil ?_
      refine then_n ?_
      refine wp_ret ?_
      obtain rfl := some_inj hm
      refine post_ret (vs := [.int .u64 (bOr .u64 (Int.ofNat a0) (9223372036854775808:Int))]) Try.results39 (rvs_cons (rv_tmp rfl) rvs_nil) ?_
      exact ⟨rfl, hst.keep0⟩

theorem octet_Writer_Bytes_ref {w0 w : World} {I : HL} {R : SP} {a0 : octet_Writer} {p0 : Value} {a1 : (List Int)} {r1_0 : Value} (f1_0 : Rd (tyInt .u8) R I r1_0 a1) (hst : St w0 w I [at_octet_Writer p0 a0] R) {r : (octet_Writer)} (hm : octet_Writer_Bytes a0 a1 = some r) :
    Calls Try.prog 38 #[p0, r1_0] w fun e w' => e = .returned (p0) ∧ St w0 w' I [at_octet_Writer p0 r] R := by
  unfold octet_Writer_Bytes at hm
  refine calls_start (args := [p0, r1_0]) Try.func38 rfl Try.ntmps38 (Nat.le_of_ble_eq_true rfl) ?_
  refine wp_seq ?_
  refine wp_region_lit ?_
  refine wl_val (v := .pointer none) rfl rfl rfl ?_
  refine wl_nil ?_
  refine then_n ?_
  refine wp_seq ?_
  refine wp_region_lit ?_
  refine wl_val (v := p0) rfl rfl rfl ?_
  refine wl_val (v := r1_0) rfl rfl rfl ?_
  refine wl_val (v := .int .i64 ((a1).length : Int)) rfl rfl (x_len rfl Try.underlying22 (rd_sliceV f1_0)) ?_
  refine wl_val (v := .int .u64 (IntKind.u64.wrap ((a1).length : Int))) rfl rfl (by kernel_rfl) ?_
  obtain ⟨t361, ht362, hm⟩ := bind_some hm
  refine wl_call rfl rfl (x_call Try.call27 rfl (vs := [p0, .int .u64 (IntKind.u64.wrap ((a1).length : Int)), .int .i64 (4:Int)]) rfl) ?_
  refine (octet_Writer_Num_ref hst.to1 ht362).mono ?_
  rintro _ w363 ⟨rfl, hst⟩
  refine ⟨_, rfl, ?_⟩
  replace hst := hst.of1
  refine wl_val (v := r1_0) rfl rfl rfl ?_
  obtain ⟨t366, ht367, hm⟩ := bind_some hm
  refine wl_call rfl rfl (x_call Try.call61 rfl (vs := [p0, r1_0]) rfl) ?_
  refine (octet_Writer_lay_ref (f1_0.mono (rd_weak _)) hst.to1 ht367).mono ?_
  rintro _ w368 ⟨rfl, hst⟩
  refine ⟨_, rfl, ?_⟩
  replace hst := hst.of1
  refine wl_val (v := p0) rfl rfl rfl ?_
  refine wl_nil ?_
  refine then_n ?_
  refine wp_ret ?_
  obtain rfl := some_inj hm
  refine post_ret (vs := [p0]) Try.results38 (rvs_cons (rv_tmp rfl) rvs_nil) ?_
  exact ⟨rfl, hst.keep1⟩

theorem locks_Lay_ref {w0 w : World} {I : HL} {R : SP} {a0 : octet_Writer} {p0 : Value} {a1 : api_Hold} {r1_0 : Value} {r1_1 : Value} {r1_2 : Value} {r1_3 : Value} (f1_0 : Rd tyF64 R I r1_0 a1.Gets) (f1_1 : Rd tyF2 R I r1_1 a1.Scans) (f1_2 : Rd tyF64 R I r1_2 a1.Puts) (f1_3 : Rd (tyInt .u8) R I r1_3 a1.Data) (hst : St w0 w I [at_octet_Writer p0 a0] R) {r : (octet_Writer)} (hm : locks_Lay a0 a1 = some r) :
    Calls Try.prog 29 #[p0, .agg #[.int .u64 a1.ID.Session, .int .u64 a1.ID.Seq, .int .u64 a1.Epoch, r1_0, r1_1, r1_2, r1_3]] w fun e w' => e = .returned (.tuple #[]) ∧ St w0 w' I [at_octet_Writer p0 r] R := by
  unfold locks_Lay at hm
  refine calls_start (args := [p0, .agg #[.int .u64 a1.ID.Session, .int .u64 a1.ID.Seq, .int .u64 a1.Epoch, r1_0, r1_1, r1_2, r1_3]]) Try.func29 rfl Try.ntmps29 (Nat.le_of_ble_eq_true rfl) ?_
  refine wp_seq ?_
  refine wp_region_lit ?_
  obtain ⟨b357, w358, ew359, eb360, hst⟩ := hst.box [.int .u64 a1.ID.Session, .int .u64 a1.ID.Seq, .int .u64 a1.Epoch, r1_0, r1_1, r1_2, r1_3] 34
  refine wl_run (v := .pointer (some ⟨b357, 0, none⟩)) (w' := w358) rfl rfl (x_al (by kernel_rfl) ew359 eb360) ?_
  refine wl_nil ?_
  refine then_n ?_
  refine wp_seq ?_
  refine wp_region_St hst 17 [0, 1, 2, 3, 4, 5, 6, 7, 8, 9, 10, 11, 12, 13, 14, 15, 16] [0, 0, 2, 6, 15, 0, 32, 96, 255, 0, 512, 2047, 0, 4096, 12288, 28672, 65535] [] rfl (by kernel_rfl) (by kernel_rfl) Try.mixed (by kernel_rfl) ?_
  refine ws_q (v := p0) 0 [1, 2, 3, 4, 5, 6, 7, 8, 9, 10, 11, 12, 13, 14, 15, 16] (by kernel_rfl) rfl rfl (yi_run rfl (fun w hst => rfl)) ?_
  refine ws_q (v := .pointer (some ⟨b357, 0, none⟩)) 1 [2, 3, 4, 5, 6, 7, 8, 9, 10, 11, 12, 13, 14, 15, 16] (by kernel_rfl) rfl rfl (yi_run rfl (fun w hst => x_field rfl Try.underlying34 rfl Try.sizeOf29 rfl)) ?_
  refine ws_q (v := .pointer (some ⟨b357, 0, none⟩)) 2 [3, 4, 5, 6, 7, 8, 9, 10, 11, 12, 13, 14, 15, 16] (by kernel_rfl) rfl rfl (yi_run rfl (fun w hst => x_field rfl Try.underlying29 rfl Try.sizeOf27 rfl)) ?_
  refine ws_q (v := .int .u64 a1.ID.Session) 3 [4, 5, 6, 7, 8, 9, 10, 11, 12, 13, 14, 15, 16] (by kernel_rfl) rfl rfl (yi_run rfl (fun w hst => x_load rfl Try.isAgg27 (hst.bc0 rfl))) ?_
  refine ws_q (v := .pointer (some ⟨b357, 0, none⟩)) 5 [4, 6, 7, 8, 9, 10, 11, 12, 13, 14, 15, 16] (by kernel_rfl) rfl rfl (yi_run rfl (fun w hst => x_field rfl Try.underlying34 rfl Try.sizeOf29 rfl)) ?_
  refine ws_q (v := .pointer (some ⟨b357, 1, none⟩)) 6 [4, 7, 8, 9, 10, 11, 12, 13, 14, 15, 16] (by kernel_rfl) rfl rfl (yi_run rfl (fun w hst => x_field rfl Try.underlying29 rfl Try.sizeOf27 rfl)) ?_
  refine ws_q (v := .int .u64 a1.ID.Seq) 7 [4, 8, 9, 10, 11, 12, 13, 14, 15, 16] (by kernel_rfl) rfl rfl (yi_run rfl (fun w hst => x_load rfl Try.isAgg27 (hst.bc0 rfl))) ?_
  refine ws_q (v := .pointer (some ⟨b357, 2, none⟩)) 9 [4, 8, 10, 11, 12, 13, 14, 15, 16] (by kernel_rfl) rfl rfl (yi_run rfl (fun w hst => x_field rfl Try.underlying34 rfl Try.sizeOf27 rfl)) ?_
  refine ws_q (v := .int .u64 a1.Epoch) 10 [4, 8, 11, 12, 13, 14, 15, 16] (by kernel_rfl) rfl rfl (yi_run rfl (fun w hst => x_load rfl Try.isAgg27 (hst.bc0 rfl))) ?_
  refine ws_q (v := .pointer (some ⟨b357, 3, none⟩)) 12 [4, 8, 11, 13, 14, 15, 16] (by kernel_rfl) rfl rfl (yi_run rfl (fun w hst => x_field rfl Try.underlying34 rfl Try.sizeOf31 rfl)) ?_
  refine ws_q (v := r1_0) 13 [4, 8, 11, 14, 15, 16] (by kernel_rfl) rfl rfl (yi_run rfl (fun w hst => x_load rfl Try.isAgg31 (hst.bc0 rfl))) ?_
  refine ws_q (v := .int .i64 ((a1.Gets).length : Int)) 14 [4, 8, 11, 15, 16] (by kernel_rfl) rfl rfl (yi_run rfl (fun w hst => x_len rfl Try.underlying31 (rd_sliceV f1_0))) ?_
  refine ws_q (v := .int .u64 (IntKind.u64.wrap ((a1.Gets).length : Int))) 15 [4, 8, 11, 16] (by kernel_rfl) rfl rfl (yi_run rfl (fun w hst => by kernel_rfl)) ?_
  refine ws_e1 4 (by kernel_rfl) ?_
  refine nxe [8, 11, 16] (by kernel_rfl) rfl rfl ?_
  clear hst
  intro w hst
  replace hst := hst.pull1
  obtain ⟨t362, ht363, hm⟩ := bind_some hm
  refine we_call rfl (x_call Try.call27 rfl (vs := [p0, .int .u64 a1.ID.Session, .int .i64 (8:Int)]) rfl) ?_
  refine (octet_Writer_Num_ref hst.to1 ht363).mono ?_
  rintro _ w364 ⟨rfl, hst⟩
  refine ⟨_, rfl, ?_⟩
  replace hst := hst.of1
  refine ws_next (pend' := [(15, .int .u64 (IntKind.u64.wrap ((a1.Gets).length : Int))), (14, .int .i64 ((a1.Gets).length : Int)), (13, r1_0), (12, .pointer (some ⟨b357, 3, none⟩)), (10, .int .u64 a1.Epoch), (9, .pointer (some ⟨b357, 2, none⟩)), (7, .int .u64 a1.ID.Seq), (6, .pointer (some ⟨b357, 1, none⟩)), (5, .pointer (some ⟨b357, 0, none⟩))]) hst (by kernel_rfl) (pk_cons rfl (yi_run rfl (fun w hst => by kernel_rfl)) (pk_cons rfl (yi_run rfl (fun w hst => x_len rfl Try.underlying31 (rd_sliceV f1_0))) (pk_cons rfl (yi_run rfl (fun w hst => x_load rfl Try.isAgg31 (hst.bc1 rfl))) (pk_cons rfl (yi_run rfl (fun w hst => x_field rfl Try.underlying34 rfl Try.sizeOf31 rfl)) (pk_cons rfl (yi_run rfl (fun w hst => x_load rfl Try.isAgg27 (hst.bc1 rfl))) (pk_cons rfl (yi_run rfl (fun w hst => x_field rfl Try.underlying34 rfl Try.sizeOf27 rfl)) (pk_cons rfl (yi_run rfl (fun w hst => x_load rfl Try.isAgg27 (hst.bc1 rfl))) (pk_cons rfl (yi_run rfl (fun w hst => x_field rfl Try.underlying29 rfl Try.sizeOf27 rfl)) (pk_cons rfl (yi_run rfl (fun w hst => x_field rfl Try.underlying34 rfl Try.sizeOf29 rfl)) pk_nil))))))))) ?_
  refine ws_e1 8 (by kernel_rfl) ?_
  refine nxe [11, 16] (by kernel_rfl) rfl rfl ?_
  clear hst
  intro w hst
  obtain ⟨t367, ht368, hm⟩ := bind_some hm
  refine we_call rfl (x_call Try.call27 rfl (vs := [p0, .int .u64 a1.ID.Seq, .int .i64 (8:Int)]) rfl) ?_
  refine (octet_Writer_Num_ref hst.to1 ht368).mono ?_
  rintro _ w369 ⟨rfl, hst⟩
  refine ⟨_, rfl, ?_⟩
  replace hst := hst.of1
  refine ws_next (pend' := [(15, .int .u64 (IntKind.u64.wrap ((a1.Gets).length : Int))), (14, .int .i64 ((a1.Gets).length : Int)), (13, r1_0), (12, .pointer (some ⟨b357, 3, none⟩)), (10, .int .u64 a1.Epoch), (9, .pointer (some ⟨b357, 2, none⟩))]) hst (by kernel_rfl) (pk_cons rfl (yi_run rfl (fun w hst => by kernel_rfl)) (pk_cons rfl (yi_run rfl (fun w hst => x_len rfl Try.underlying31 (rd_sliceV f1_0))) (pk_cons rfl (yi_run rfl (fun w hst => x_load rfl Try.isAgg31 (hst.bc1 rfl))) (pk_cons rfl (yi_run rfl (fun w hst => x_field rfl Try.underlying34 rfl Try.sizeOf31 rfl)) (pk_cons rfl (yi_run rfl (fun w hst => x_load rfl Try.isAgg27 (hst.bc1 rfl))) (pk_cons rfl (yi_run rfl (fun w hst => x_field rfl Try.underlying34 rfl Try.sizeOf27 rfl)) pk_nil)))))) ?_
  refine ws_e1 11 (by kernel_rfl) ?_
  refine nxe [16] (by kernel_rfl) rfl rfl ?_
  clear hst
  intro w hst
  obtain ⟨t372, ht373, hm⟩ := bind_some hm
  refine we_call rfl (x_call Try.call27 rfl (vs := [p0, .int .u64 a1.Epoch, .int .i64 (8:Int)]) rfl) ?_
  refine (octet_Writer_Num_ref hst.to1 ht373).mono ?_
  rintro _ w374 ⟨rfl, hst⟩
  refine ⟨_, rfl, ?_⟩
  replace hst := hst.of1
  refine ws_next (pend' := [(15, .int .u64 (IntKind.u64.wrap ((a1.Gets).length : Int))), (14, .int .i64 ((a1.Gets).length : Int)), (13, r1_0), (12, .pointer (some ⟨b357, 3, none⟩))]) hst (by kernel_rfl) (pk_cons rfl (yi_run rfl (fun w hst => by kernel_rfl)) (pk_cons rfl (yi_run rfl (fun w hst => x_len rfl Try.underlying31 (rd_sliceV f1_0))) (pk_cons rfl (yi_run rfl (fun w hst => x_load rfl Try.isAgg31 (hst.bc1 rfl))) (pk_cons rfl (yi_run rfl (fun w hst => x_field rfl Try.underlying34 rfl Try.sizeOf31 rfl)) pk_nil)))) ?_
  refine ws_e1 16 (by kernel_rfl) ?_
  refine nxe [] (by kernel_rfl) rfl rfl ?_
  clear hst
  intro w hst
  obtain ⟨t377, ht378, hm⟩ := bind_some hm
  refine we_call rfl (x_call Try.call27 rfl (vs := [p0, .int .u64 (IntKind.u64.wrap ((a1.Gets).length : Int)), .int .i64 (4:Int)]) rfl) ?_
  refine (octet_Writer_Num_ref hst.to1 ht378).mono ?_
  rintro _ w379 ⟨rfl, hst⟩
  refine ⟨_, rfl, ?_⟩
  replace hst := hst.of1
  refine ws_next (pend' := []) hst (by kernel_rfl) pk_nil ?_
  refine ws_nil ?_
  intro w hst
  refine then_n ?_
  obtain ⟨y445, hm, hx446⟩ := bind_some hm
  refine wp_cut (fun a w => ∃ (z442 : octet_Writer) (σ443 : Nat → Value), (locks_Lay_j0 a1) z442 = some r ∧ a = Fr 84 (upd (upd σ443 0 (p0)) 3 (.pointer (some ⟨b357, 0, none⟩))) ∧ St w0 w I [at_octet_Writer p0 z442, cells b357 [.int .u64 a1.ID.Session, .int .u64 a1.ID.Seq, .int .u64 a1.Epoch, r1_0, r1_1, r1_2, r1_3]] R) ?_ ?_
  · skip
    refine wp_seq ?_
    refine wp_region_lit ?_
    refine wl_val (v := .pointer (some ⟨b357, 3, none⟩)) rfl rfl (x_field rfl Try.underlying34 rfl Try.sizeOf31 rfl) ?_
    refine wl_val (v := r1_0) rfl rfl (x_load rfl Try.isAgg31 (hst.bc1 rfl)) ?_
    refine wl_val (v := .int .i64 ((a1.Gets).length : Int)) rfl rfl (x_len rfl Try.underlying31 (rd_sliceV f1_0)) ?_
    refine wl_val (v := .int .i64 (0:Int)) rfl rfl rfl ?_
    refine wl_nil ?_
    refine then_n ?_
    refine wp_block ?_
    obtain ⟨n419, hm⟩ := loopO_some hm
    refine wp_loop_n (fun n a w => ∃ (z416 : octet_Writer) (z417 : Int) (σ418 : Nat → Value), loopN (locks_Lay_l1 a1) n (z416, z417) = some y445 ∧ a = Fr 84 (upd (upd (upd (upd (upd σ418 0 (p0)) 3 (.pointer (some ⟨b357, 0, none⟩))) 28 (r1_0)) 29 (.int .i64 ((a1.Gets).length : Int))) 30 (.int .i64 z417)) ∧ St w0 w I [at_octet_Writer p0 z416, cells b357 [.int .u64 a1.ID.Session, .int .u64 a1.ID.Seq, .int .u64 a1.Epoch, r1_0, r1_1, r1_2, r1_3]] R) n419 ⟨t377, (0:Int), _, hm, ((fr_upd (t := 0) (v := p0) rfl).trans ((fr_upd (t := 3) (v := .pointer (some ⟨b357, 0, none⟩)) rfl).trans ((fr_upd (t := 28) (v := r1_0) rfl).trans ((fr_upd (t := 29) (v := .int .i64 ((a1.Gets).length : Int)) rfl).trans ((fr_upd (t := 30) (v := .int .i64 (0:Int)) rfl).trans rfl))))), hst⟩ ?_
    rintro n425 _ w420 ⟨z416, z417, σ418, hm, rfl, hst⟩
    obtain ⟨n422, y423, rfl, hm, hx424⟩ := loopN_some hm
    dsimp only [locks_Lay_l1] at hm
    refine wp_seq ?_
    refine wp_region_lit ?_
    refine wl_val (v := .bool (decide (z417 < ((a1.Gets).length : Int)))) rfl rfl rfl ?_
    refine wl_nil ?_
    refine then_n ?_
    refine wp_seq ?_
    refine bsplit (decide (z417 < ((a1.Gets).length : Int))) (fun hc426 => ?_) (fun hc426 => ?_)
    · skip
      replace hm := bif_t hc426 hm
      refine wp_ift (congrArg Value.bool hc426) ?_
      refine wp_skip ?_
      refine then_n ?_
      refine wp_seq ?_
      refine wp_block ?_
      refine wp_seq ?_
      refine wp_region_lit ?_
      obtain ⟨x427, hx428, hm⟩ := bind_some hm
      obtain ⟨h429, h430, hi431⟩ := geto_some hx428
      refine wl_val (v := .pointer (some (eAddr r1_0 (z417.toNat * 1 + 0)))) rfl rfl (x_index rfl rfl Try.underlying31 Try.sizeOf41 (rd_sliceV f1_0) h429 h430) ?_
      refine wl_val (v := .float .f64 x427) rfl rfl (x_load rfl Try.isAgg41 (rd_load f1_0 (HL.le.refl _) hst hi431 (by rintro _ rfl; rfl))) ?_
      refine wl_val (v := .float .f64 x427) rfl rfl rfl ?_
      refine wl_nil ?_
      refine then_n ?_
      refine wp_region_lit ?_
      refine wl_val (v := p0) rfl rfl rfl ?_
      refine wl_val (v := .float .f64 x427) rfl rfl rfl ?_
      obtain ⟨t432, ht433, hm⟩ := bind_some hm
      refine wl_call rfl rfl (x_call Try.call39 rfl (vs := [.float .f64 x427]) rfl) ?_
      refine (number_Rank_ref hst.to0 ht433).mono ?_
      rintro _ w434 ⟨rfl, hst⟩
      refine ⟨_, rfl, ?_⟩
      replace hst := hst.of0
      obtain ⟨t437, ht438, hm⟩ := bind_some hm
      refine wl_call rfl rfl (x_call Try.call27 rfl (vs := [p0, .int .u64 t432, .int .i64 (8:Int)]) rfl) ?_
      refine (octet_Writer_Num_ref hst.to1 ht438).mono ?_
      rintro _ w439 ⟨rfl, hst⟩
      refine ⟨_, rfl, ?_⟩
      replace hst := hst.of1
      refine wl_nil ?_
      refine blk_n ?_
      refine then_n ?_
      refine wp_region_lit ?_
      refine wl_val (v := .int .i64 (IntKind.i64.wrap (z417 + (1:Int)))) rfl rfl rfl ?_
      refine wl_val (v := .int .i64 (IntKind.i64.wrap (z417 + (1:Int)))) rfl rfl rfl ?_
      refine wl_nil ?_
      refine then_n ?_
      replace hst := hst.pull1
      replace hst := hst.pull1
      replace hst := hst.keep2
      obtain rfl := some_inj hm
      exact ⟨_, Nat.lt_succ_self _, t437, (IntKind.i64.wrap (z417 + (1:Int))), _, hx424, ((fr_upd (t := 0) (v := p0) rfl).trans ((fr_upd (t := 3) (v := .pointer (some ⟨b357, 0, none⟩)) rfl).trans ((fr_upd (t := 28) (v := r1_0) rfl).trans ((fr_upd (t := 29) (v := .int .i64 ((a1.Gets).length : Int)) rfl).trans ((fr_upd (t := 30) (v := .int .i64 (IntKind.i64.wrap (z417 + (1:Int)))) rfl).trans rfl))))), hst⟩
    · skip
      replace hm := bif_f hc426 hm
      refine wp_iff (congrArg Value.bool hc426) ?_
      refine wp_exit ?_
      refine then_x ?_
      refine then_x ?_
      replace hm := inr_up hm hx424
      refine blk_x ?_
      refine then_n ?_
      replace hst := hst.pull1
      replace hst := hst.pull1
      replace hst := hst.keep2
      obtain rfl := some_inj hm
      exact ⟨z416, _, hx446, ((fr_upd (t := 0) (v := p0) rfl).trans ((fr_upd (t := 3) (v := .pointer (some ⟨b357, 0, none⟩)) rfl).trans rfl)), hst⟩
  · skip
    clear hst
    rintro _ w447 ⟨z442, σ443, hm, rfl, hst⟩
    dsimp only [locks_Lay_j0] at hm
    refine wp_seq ?_
    refine wp_region_lit ?_
    refine wl_val (v := p0) rfl rfl rfl ?_
    refine wl_val (v := .pointer (some ⟨b357, 4, none⟩)) rfl rfl (x_field rfl Try.underlying34 rfl Try.sizeOf32 rfl) ?_
    refine wl_val (v := r1_1) rfl rfl (x_load rfl Try.isAgg32 (hst.bc1 rfl)) ?_
    refine wl_val (v := .int .i64 ((a1.Scans).length : Int)) rfl rfl (x_len rfl Try.underlying32 (rd_sliceV f1_1)) ?_
    refine wl_val (v := .int .u64 (IntKind.u64.wrap ((a1.Scans).length : Int))) rfl rfl (by kernel_rfl) ?_
    obtain ⟨t448, ht449, hm⟩ := bind_some hm
    refine wl_call rfl rfl (x_call Try.call27 rfl (vs := [p0, .int .u64 (IntKind.u64.wrap ((a1.Scans).length : Int)), .int .i64 (4:Int)]) rfl) ?_
    refine (octet_Writer_Num_ref hst.to1 ht449).mono ?_
    rintro _ w450 ⟨rfl, hst⟩
    refine ⟨_, rfl, ?_⟩
    replace hst := hst.of1
    refine wl_nil ?_
    refine then_n ?_
    obtain ⟨y567, hm, hx568⟩ := bind_some hm
    refine wp_cut (fun a w => ∃ (z564 : octet_Writer) (σ565 : Nat → Value), (locks_Lay_j2 a1) z564 = some r ∧ a = Fr 84 (upd (upd σ565 0 (p0)) 3 (.pointer (some ⟨b357, 0, none⟩))) ∧ St w0 w I [at_octet_Writer p0 z564, cells b357 [.int .u64 a1.ID.Session, .int .u64 a1.ID.Seq, .int .u64 a1.Epoch, r1_0, r1_1, r1_2, r1_3]] R) ?_ ?_
    · skip
      refine wp_seq ?_
      refine wp_region_lit ?_
      refine wl_val (v := .pointer (some ⟨b357, 4, none⟩)) rfl rfl (x_field rfl Try.underlying34 rfl Try.sizeOf32 rfl) ?_
      refine wl_val (v := r1_1) rfl rfl (x_load rfl Try.isAgg32 (hst.bc1 rfl)) ?_
      refine wl_val (v := .int .i64 ((a1.Scans).length : Int)) rfl rfl (x_len rfl Try.underlying32 (rd_sliceV f1_1)) ?_
      refine wl_val (v := .int .i64 (0:Int)) rfl rfl rfl ?_
      refine wl_nil ?_
      refine then_n ?_
      refine wp_block ?_
      obtain ⟨n524, hm⟩ := loopO_some hm
      refine wp_loop_n (fun n a w => ∃ (z521 : octet_Writer) (z522 : Int) (σ523 : Nat → Value), loopN (locks_Lay_l3 a1) n (z521, z522) = some y567 ∧ a = Fr 84 (upd (upd (upd (upd (upd σ523 0 (p0)) 3 (.pointer (some ⟨b357, 0, none⟩))) 46 (r1_1)) 47 (.int .i64 ((a1.Scans).length : Int))) 48 (.int .i64 z522)) ∧ St w0 w I [at_octet_Writer p0 z521, cells b357 [.int .u64 a1.ID.Session, .int .u64 a1.ID.Seq, .int .u64 a1.Epoch, r1_0, r1_1, r1_2, r1_3]] R) n524 ⟨t448, (0:Int), _, hm, ((fr_upd (t := 0) (v := p0) rfl).trans ((fr_upd (t := 3) (v := .pointer (some ⟨b357, 0, none⟩)) rfl).trans ((fr_upd (t := 46) (v := r1_1) rfl).trans ((fr_upd (t := 47) (v := .int .i64 ((a1.Scans).length : Int)) rfl).trans ((fr_upd (t := 48) (v := .int .i64 (0:Int)) rfl).trans rfl))))), hst⟩ ?_
      rintro n530 _ w525 ⟨z521, z522, σ523, hm, rfl, hst⟩
      obtain ⟨n527, y528, rfl, hm, hx529⟩ := loopN_some hm
      dsimp only [locks_Lay_l3] at hm
      refine wp_seq ?_
      refine wp_region_lit ?_
      refine wl_val (v := .bool (decide (z522 < ((a1.Scans).length : Int)))) rfl rfl rfl ?_
      refine wl_nil ?_
      refine then_n ?_
      refine wp_seq ?_
      refine bsplit (decide (z522 < ((a1.Scans).length : Int))) (fun hc531 => ?_) (fun hc531 => ?_)
      · skip
        replace hm := bif_t hc531 hm
        refine wp_ift (congrArg Value.bool hc531) ?_
        refine wp_skip ?_
        refine then_n ?_
        refine wp_seq ?_
        refine wp_block ?_
        refine wp_seq ?_
        refine wp_region_lit ?_
        obtain ⟨x532, hx533, hm⟩ := bind_some hm
        obtain ⟨h534, h535, hi536⟩ := geto_some hx533
        refine wl_val (v := .pointer (some (eAddr r1_1 (z522.toNat * 2 + 0)))) rfl rfl (x_index rfl rfl Try.underlying32 Try.sizeOf111 (rd_sliceV f1_1) h534 h535) ?_
        refine wl_val (v := .agg #[.float .f64 x532.1, .float .f64 x532.2]) rfl rfl (x_loadN (cs := [.float .f64 x532.1, .float .f64 x532.2]) rfl Try.isAgg111 Try.sizeOf111 (rd_loadN f1_1 (HL.le.refl _) hst hi536 0 (by rintro _ rfl; rfl))) ?_
        obtain ⟨b537, w538, ew539, eb540, hst⟩ := hst.box [.float .f64 (0:Nat), .float .f64 (0:Nat)] 111
        refine wl_run (v := .pointer (some ⟨b537, 0, none⟩)) (w' := w538) rfl rfl (x_al (by kernel_rfl) ew539 eb540) ?_
        obtain ⟨w542, hr543, hst⟩ := hst.boxStore (P := Try.prog) (t := 111) (cs' := [.float .f64 x532.1, .float .f64 x532.2]) 0 (.agg #[.float .f64 x532.1, .float .f64 x532.2]) Try.sizeOf111 (Nat.le_of_ble_eq_true rfl) (ones_cons rfl (ones_cons rfl ones_nil)) (by kernel_rfl)
        refine wl_unit rfl rfl (x_unit hr543) ?_
        refine wl_nil ?_
        refine then_n ?_
        refine wp_region_St hst 9 [0, 1, 2, 3, 4, 5, 6, 7, 8] [0, 0, 2, 6, 15, 0, 32, 127, 255] [] rfl (by kernel_rfl) (by kernel_rfl) Try.mixed (by kernel_rfl) ?_
        refine ws_q (v := p0) 0 [1, 2, 3, 4, 5, 6, 7, 8] (by kernel_rfl) rfl rfl (yi_run rfl (fun w hst => rfl)) ?_
        refine ws_q (v := .pointer (some ⟨b537, 0, none⟩)) 1 [2, 3, 4, 5, 6, 7, 8] (by kernel_rfl) rfl rfl (yi_run rfl (fun w hst => x_index_arr (i := (0:Int)) rfl rfl Try.underlying111 Try.sizeOf41 (by decide) (by decide))) ?_
        refine ws_q (v := .float .f64 x532.1) 2 [3, 4, 5, 6, 7, 8] (by kernel_rfl) rfl rfl (yi_run rfl (fun w hst => x_load rfl Try.isAgg41 (hst.bc0 rfl))) ?_
        refine ws_q (v := .pointer (some ⟨b537, 1, none⟩)) 5 [3, 4, 6, 7, 8] (by kernel_rfl) rfl rfl (yi_run rfl (fun w hst => x_index_arr (i := (1:Int)) rfl rfl Try.underlying111 Try.sizeOf41 (by decide) (by decide))) ?_
        refine ws_q (v := .float .f64 x532.2) 6 [3, 4, 7, 8] (by kernel_rfl) rfl rfl (yi_run rfl (fun w hst => x_load rfl Try.isAgg41 (hst.bc0 rfl))) ?_
        refine ws_e1 3 (by kernel_rfl) ?_
        refine nxe [4, 7, 8] (by kernel_rfl) rfl rfl ?_
        clear hst
        intro w hst
        obtain ⟨t544, ht545, hm⟩ := bind_some hm
        refine we_call rfl (x_call Try.call39 rfl (vs := [.float .f64 x532.1]) rfl) ?_
        refine (number_Rank_ref hst.to0 ht545).mono ?_
        rintro _ w546 ⟨rfl, hst⟩
        refine ⟨_, rfl, ?_⟩
        replace hst := hst.of0
        refine ws_next (pend' := [(6, .float .f64 x532.2), (5, .pointer (some ⟨b537, 1, none⟩)), (0, p0)]) hst (by kernel_rfl) (pk_cons rfl (yi_run rfl (fun w hst => x_load rfl Try.isAgg41 (hst.bc0 rfl))) (pk_cons rfl (yi_run rfl (fun w hst => x_index_arr (i := (1:Int)) rfl rfl Try.underlying111 Try.sizeOf41 (by decide) (by decide))) (pk_cons rfl (yi_run rfl (fun w hst => rfl)) pk_nil))) ?_
        refine ws_e1 4 (by kernel_rfl) ?_
        refine nxe [7, 8] (by kernel_rfl) rfl rfl ?_
        clear hst
        intro w hst
        replace hst := hst.pull1
        obtain ⟨t549, ht550, hm⟩ := bind_some hm
        refine we_call rfl (x_call Try.call27 rfl (vs := [p0, .int .u64 t544, .int .i64 (8:Int)]) rfl) ?_
        refine (octet_Writer_Num_ref hst.to1 ht550).mono ?_
        rintro _ w551 ⟨rfl, hst⟩
        refine ⟨_, rfl, ?_⟩
        replace hst := hst.of1
        refine ws_next (pend' := [(6, .float .f64 x532.2), (5, .pointer (some ⟨b537, 1, none⟩))]) hst (by kernel_rfl) (pk_cons rfl (yi_run rfl (fun w hst => x_load rfl Try.isAgg41 (hst.bc1 rfl))) (pk_cons rfl (yi_run rfl (fun w hst => x_index_arr (i := (1:Int)) rfl rfl Try.underlying111 Try.sizeOf41 (by decide) (by decide))) pk_nil)) ?_
        refine ws_e1 7 (by kernel_rfl) ?_
        refine nxe [8] (by kernel_rfl) rfl rfl ?_
        clear hst
        intro w hst
        obtain ⟨t554, ht555, hm⟩ := bind_some hm
        refine we_call rfl (x_call Try.call39 rfl (vs := [.float .f64 x532.2]) rfl) ?_
        refine (number_Rank_ref hst.to0 ht555).mono ?_
        rintro _ w556 ⟨rfl, hst⟩
        refine ⟨_, rfl, ?_⟩
        replace hst := hst.of0
        refine ws_next (pend' := []) hst (by kernel_rfl) pk_nil ?_
        refine ws_e1 8 (by kernel_rfl) ?_
        refine nxe [] (by kernel_rfl) rfl rfl ?_
        clear hst
        intro w hst
        obtain ⟨t559, ht560, hm⟩ := bind_some hm
        refine we_call rfl (x_call Try.call27 rfl (vs := [p0, .int .u64 t554, .int .i64 (8:Int)]) rfl) ?_
        refine (octet_Writer_Num_ref hst.to1 ht560).mono ?_
        rintro _ w561 ⟨rfl, hst⟩
        refine ⟨_, rfl, ?_⟩
        replace hst := hst.of1
        refine ws_next (pend' := []) hst (by kernel_rfl) pk_nil ?_
        refine ws_nil ?_
        intro w hst
        refine blk_n ?_
        refine then_n ?_
        refine wp_region_lit ?_
        refine wl_val (v := .int .i64 (IntKind.i64.wrap (z522 + (1:Int)))) rfl rfl rfl ?_
        refine wl_val (v := .int .i64 (IntKind.i64.wrap (z522 + (1:Int)))) rfl rfl rfl ?_
        refine wl_nil ?_
        refine then_n ?_
        replace hst := hst.pull2
        replace hst := hst.pull1
        replace hst := hst.keep2
        obtain rfl := some_inj hm
        exact ⟨_, Nat.lt_succ_self _, t559, (IntKind.i64.wrap (z522 + (1:Int))), _, hx529, ((fr_upd (t := 0) (v := p0) rfl).trans ((fr_upd (t := 3) (v := .pointer (some ⟨b357, 0, none⟩)) rfl).trans ((fr_upd (t := 46) (v := r1_1) rfl).trans ((fr_upd (t := 47) (v := .int .i64 ((a1.Scans).length : Int)) rfl).trans ((fr_upd (t := 48) (v := .int .i64 (IntKind.i64.wrap (z522 + (1:Int)))) rfl).trans rfl))))), hst⟩
      · skip
        replace hm := bif_f hc531 hm
        refine wp_iff (congrArg Value.bool hc531) ?_
        refine wp_exit ?_
        refine then_x ?_
        refine then_x ?_
        replace hm := inr_up hm hx529
        refine blk_x ?_
        refine then_n ?_
        replace hst := hst.pull1
        replace hst := hst.pull1
        replace hst := hst.keep2
        obtain rfl := some_inj hm
        exact ⟨z521, _, hx568, ((fr_upd (t := 0) (v := p0) rfl).trans ((fr_upd (t := 3) (v := .pointer (some ⟨b357, 0, none⟩)) rfl).trans rfl)), hst⟩
    · skip
      clear hst
      rintro _ w569 ⟨z564, σ565, hm, rfl, hst⟩
      dsimp only [locks_Lay_j2] at hm
      refine wp_seq ?_
      refine wp_region_lit ?_
      refine wl_val (v := p0) rfl rfl rfl ?_
      refine wl_val (v := .pointer (some ⟨b357, 5, none⟩)) rfl rfl (x_field rfl Try.underlying34 rfl Try.sizeOf31 rfl) ?_
      refine wl_val (v := r1_2) rfl rfl (x_load rfl Try.isAgg31 (hst.bc1 rfl)) ?_
      refine wl_val (v := .int .i64 ((a1.Puts).length : Int)) rfl rfl (x_len rfl Try.underlying31 (rd_sliceV f1_2)) ?_
      refine wl_val (v := .int .u64 (IntKind.u64.wrap ((a1.Puts).length : Int))) rfl rfl (by kernel_rfl) ?_
      obtain ⟨t570, ht571, hm⟩ := bind_some hm
      refine wl_call rfl rfl (x_call Try.call27 rfl (vs := [p0, .int .u64 (IntKind.u64.wrap ((a1.Puts).length : Int)), .int .i64 (4:Int)]) rfl) ?_
      refine (octet_Writer_Num_ref hst.to1 ht571).mono ?_
      rintro _ w572 ⟨rfl, hst⟩
      refine ⟨_, rfl, ?_⟩
      replace hst := hst.of1
      refine wl_nil ?_
      refine then_n ?_
      obtain ⟨y638, hm, hx639⟩ := bind_some hm
      refine wp_cut (fun a w => ∃ (z635 : octet_Writer) (σ636 : Nat → Value), (locks_Lay_j4 a1) z635 = some r ∧ a = Fr 84 (upd (upd σ636 0 (p0)) 3 (.pointer (some ⟨b357, 0, none⟩))) ∧ St w0 w I [at_octet_Writer p0 z635, cells b357 [.int .u64 a1.ID.Session, .int .u64 a1.ID.Seq, .int .u64 a1.Epoch, r1_0, r1_1, r1_2, r1_3]] R) ?_ ?_
      · skip
        refine wp_seq ?_
        refine wp_region_lit ?_
        refine wl_val (v := .pointer (some ⟨b357, 5, none⟩)) rfl rfl (x_field rfl Try.underlying34 rfl Try.sizeOf31 rfl) ?_
        refine wl_val (v := r1_2) rfl rfl (x_load rfl Try.isAgg31 (hst.bc1 rfl)) ?_
        refine wl_val (v := .int .i64 ((a1.Puts).length : Int)) rfl rfl (x_len rfl Try.underlying31 (rd_sliceV f1_2)) ?_
        refine wl_val (v := .int .i64 (0:Int)) rfl rfl rfl ?_
        refine wl_nil ?_
        refine then_n ?_
        refine wp_block ?_
        obtain ⟨n612, hm⟩ := loopO_some hm
        refine wp_loop_n (fun n a w => ∃ (z609 : octet_Writer) (z610 : Int) (σ611 : Nat → Value), loopN (locks_Lay_l5 a1) n (z609, z610) = some y638 ∧ a = Fr 84 (upd (upd (upd (upd (upd σ611 0 (p0)) 3 (.pointer (some ⟨b357, 0, none⟩))) 69 (r1_2)) 70 (.int .i64 ((a1.Puts).length : Int))) 71 (.int .i64 z610)) ∧ St w0 w I [at_octet_Writer p0 z609, cells b357 [.int .u64 a1.ID.Session, .int .u64 a1.ID.Seq, .int .u64 a1.Epoch, r1_0, r1_1, r1_2, r1_3]] R) n612 ⟨t570, (0:Int), _, hm, ((fr_upd (t := 0) (v := p0) rfl).trans ((fr_upd (t := 3) (v := .pointer (some ⟨b357, 0, none⟩)) rfl).trans ((fr_upd (t := 69) (v := r1_2) rfl).trans ((fr_upd (t := 70) (v := .int .i64 ((a1.Puts).length : Int)) rfl).trans ((fr_upd (t := 71) (v := .int .i64 (0:Int)) rfl).trans rfl))))), hst⟩ ?_
        rintro n618 _ w613 ⟨z609, z610, σ611, hm, rfl, hst⟩
        obtain ⟨n615, y616, rfl, hm, hx617⟩ := loopN_some hm
        dsimp only [locks_Lay_l5] at hm
        refine wp_seq ?_
        refine wp_region_lit ?_
        refine wl_val (v := .bool (decide (z610 < ((a1.Puts).length : Int)))) rfl rfl rfl ?_
        refine wl_nil ?_
        refine then_n ?_
        refine wp_seq ?_
        refine bsplit (decide (z610 < ((a1.Puts).length : Int))) (fun hc619 => ?_) (fun hc619 => ?_)
        · skip
          replace hm := bif_t hc619 hm
          refine wp_ift (congrArg Value.bool hc619) ?_
          refine wp_skip ?_
          refine then_n ?_
          refine wp_seq ?_
          refine wp_block ?_
          refine wp_seq ?_
          refine wp_region_lit ?_
          obtain ⟨x620, hx621, hm⟩ := bind_some hm
          obtain ⟨h622, h623, hi624⟩ := geto_some hx621
          refine wl_val (v := .pointer (some (eAddr r1_2 (z610.toNat * 1 + 0)))) rfl rfl (x_index rfl rfl Try.underlying31 Try.sizeOf41 (rd_sliceV f1_2) h622 h623) ?_
          refine wl_val (v := .float .f64 x620) rfl rfl (x_load rfl Try.isAgg41 (rd_load f1_2 (HL.le.refl _) hst hi624 (by rintro _ rfl; rfl))) ?_
          refine wl_val (v := .float .f64 x620) rfl rfl rfl ?_
          refine wl_nil ?_
          refine then_n ?_
          refine wp_region_lit ?_
          refine wl_val (v := p0) rfl rfl rfl ?_
          refine wl_val (v := .float .f64 x620) rfl rfl rfl ?_
          obtain ⟨t625, ht626, hm⟩ := bind_some hm
          refine wl_call rfl rfl (x_call Try.call39 rfl (vs := [.float .f64 x620]) rfl) ?_
          refine (number_Rank_ref hst.to0 ht626).mono ?_
          rintro _ w627 ⟨rfl, hst⟩
          refine ⟨_, rfl, ?_⟩
          replace hst := hst.of0
          obtain ⟨t630, ht631, hm⟩ := bind_some hm
          refine wl_call rfl rfl (x_call Try.call27 rfl (vs := [p0, .int .u64 t625, .int .i64 (8:Int)]) rfl) ?_
          refine (octet_Writer_Num_ref hst.to1 ht631).mono ?_
          rintro _ w632 ⟨rfl, hst⟩
          refine ⟨_, rfl, ?_⟩
          replace hst := hst.of1
          refine wl_nil ?_
          refine blk_n ?_
          refine then_n ?_
          refine wp_region_lit ?_
          refine wl_val (v := .int .i64 (IntKind.i64.wrap (z610 + (1:Int)))) rfl rfl rfl ?_
          refine wl_val (v := .int .i64 (IntKind.i64.wrap (z610 + (1:Int)))) rfl rfl rfl ?_
          refine wl_nil ?_
          refine then_n ?_
          replace hst := hst.pull1
          replace hst := hst.pull1
          replace hst := hst.keep2
          obtain rfl := some_inj hm
          exact ⟨_, Nat.lt_succ_self _, t630, (IntKind.i64.wrap (z610 + (1:Int))), _, hx617, ((fr_upd (t := 0) (v := p0) rfl).trans ((fr_upd (t := 3) (v := .pointer (some ⟨b357, 0, none⟩)) rfl).trans ((fr_upd (t := 69) (v := r1_2) rfl).trans ((fr_upd (t := 70) (v := .int .i64 ((a1.Puts).length : Int)) rfl).trans ((fr_upd (t := 71) (v := .int .i64 (IntKind.i64.wrap (z610 + (1:Int)))) rfl).trans rfl))))), hst⟩
        · skip
          replace hm := bif_f hc619 hm
          refine wp_iff (congrArg Value.bool hc619) ?_
          refine wp_exit ?_
          refine then_x ?_
          refine then_x ?_
          replace hm := inr_up hm hx617
          refine blk_x ?_
          refine then_n ?_
          replace hst := hst.pull1
          replace hst := hst.pull1
          replace hst := hst.keep2
          obtain rfl := some_inj hm
          exact ⟨z609, _, hx639, ((fr_upd (t := 0) (v := p0) rfl).trans ((fr_upd (t := 3) (v := .pointer (some ⟨b357, 0, none⟩)) rfl).trans rfl)), hst⟩
      · skip
        clear hst
        rintro _ w640 ⟨z635, σ636, hm, rfl, hst⟩
        dsimp only [locks_Lay_j4] at hm
        refine wp_region_lit ?_
        refine wl_val (v := p0) rfl rfl rfl ?_
        refine wl_val (v := .pointer (some ⟨b357, 6, none⟩)) rfl rfl (x_field rfl Try.underlying34 rfl Try.sizeOf22 rfl) ?_
        refine wl_val (v := r1_3) rfl rfl (x_load rfl Try.isAgg22 (hst.bc1 rfl)) ?_
        obtain ⟨t641, ht642, hm⟩ := bind_some hm
        refine wl_call rfl rfl (x_call Try.call38 rfl (vs := [p0, r1_3]) rfl) ?_
        refine (octet_Writer_Bytes_ref (f1_3.mono (rd_weak _)) hst.to1 ht642).mono ?_
        rintro _ w643 ⟨rfl, hst⟩
        refine ⟨_, rfl, ?_⟩
        replace hst := hst.of1
        refine wl_nil ?_
        obtain rfl := some_inj hm
        refine post_end (vs := []) Try.results29 rvs_nil ?_
        exact ⟨rfl, hst.keep1⟩

theorem octet_Writer_Flag_ref {w0 w : World} {I : HL} {R : SP} {a0 : octet_Writer} {p0 : Value} {a1 : Bool}  (hst : St w0 w I [at_octet_Writer p0 a0] R) {r : (octet_Writer)} (hm : octet_Writer_Flag a0 a1 = some r) :
    Calls Try.prog 32 #[p0, .bool a1] w fun e w' => e = .returned (p0) ∧ St w0 w' I [at_octet_Writer p0 r] R := by
  unfold octet_Writer_Flag at hm
  refine calls_start (args := [p0, .bool a1]) Try.func32 rfl Try.ntmps32 (Nat.le_of_ble_eq_true rfl) ?_
  refine wp_seq ?_
  refine wp_region_lit ?_
  refine wl_val (v := .pointer none) rfl rfl rfl ?_
  refine wl_nil ?_
  refine then_n ?_
  refine wp_seq ?_
  refine wp_seq ?_
  refine wp_region_lit ?_
  refine wl_val (v := .bool a1) rfl rfl rfl ?_
  refine wl_nil ?_
  refine then_n ?_
  refine bsplit a1 (fun hc141 => ?_) (fun hc141 => ?_)
  · skip
    replace hm := bif_t hc141 hm
    refine wp_ift (congrArg Value.bool hc141) ?_
    refine wp_seq ?_
    refine wp_region_lit ?_
    refine wl_val (v := p0) rfl rfl rfl ?_
    obtain ⟨t142, ht143, hm⟩ := bind_some hm
    refine wl_call rfl rfl (x_call Try.call27 rfl (vs := [p0, .int .u64 (1:Int), .int .i64 (1:Int)]) rfl) ?_
    refine (octet_Writer_Num_ref hst.to1 ht143).mono ?_
    rintro _ w144 ⟨rfl, hst⟩
    refine ⟨_, rfl, ?_⟩
    replace hst := hst.of1
    refine wl_val (v := p0) rfl rfl rfl ?_
    refine wl_nil ?_
    refine then_n ?_
    refine wp_ret ?_
    refine then_r ?_
    obtain rfl := some_inj hm
    refine post_ret (vs := [p0]) Try.results32 (rvs_cons (rv_tmp rfl) rvs_nil) ?_
    exact ⟨rfl, hst.keep1⟩
  · skip
    replace hm := bif_f hc141 hm
    refine wp_iff (congrArg Value.bool hc141) ?_
    refine wp_skip ?_
    refine then_n ?_
    refine wp_seq ?_
    refine wp_region_lit ?_
    refine wl_val (v := p0) rfl rfl rfl ?_
    obtain ⟨t147, ht148, hm⟩ := bind_some hm
    refine wl_call rfl rfl (x_call Try.call27 rfl (vs := [p0, .int .u64 (0:Int), .int .i64 (1:Int)]) rfl) ?_
    refine (octet_Writer_Num_ref hst.to1 ht148).mono ?_
    rintro _ w149 ⟨rfl, hst⟩
    refine ⟨_, rfl, ?_⟩
    replace hst := hst.of1
    refine wl_val (v := p0) rfl rfl rfl ?_
    refine wl_nil ?_
    refine then_n ?_
    refine wp_ret ?_
    obtain rfl := some_inj hm
    refine post_ret (vs := [p0]) Try.results32 (rvs_cons (rv_tmp rfl) rvs_nil) ?_
    exact ⟨rfl, hst.keep1⟩

theorem command_writes_ref {w0 w : World} {I : HL} {R : SP} {a0 : octet_Writer} {p0 : Value} {a1 : (List api_Write)} {r1_0 : Value} (f1_0 : Rd ty_api_Write R I r1_0 a1) (hst : St w0 w I [at_octet_Writer p0 a0] R) {r : (octet_Writer)} (hm : command_writes a0 a1 = some r) :
    Calls Try.prog 30 #[p0, r1_0] w fun e w' => e = .returned (.tuple #[]) ∧ St w0 w' I [at_octet_Writer p0 r] R := by
  unfold command_writes at hm
  refine calls_start (args := [p0, r1_0]) Try.func30 rfl Try.ntmps30 (Nat.le_of_ble_eq_true rfl) ?_
  refine wp_seq ?_
  refine wp_region_lit ?_
  refine wl_val (v := p0) rfl rfl rfl ?_
  refine wl_val (v := r1_0) rfl rfl rfl ?_
  refine wl_val (v := .int .i64 ((a1).length : Int)) rfl rfl (x_len rfl Try.underlying35 (rd_sliceV f1_0)) ?_
  refine wl_val (v := .int .u64 (IntKind.u64.wrap ((a1).length : Int))) rfl rfl (by kernel_rfl) ?_
  obtain ⟨t242, ht243, hm⟩ := bind_some hm
  refine wl_call rfl rfl (x_call Try.call27 rfl (vs := [p0, .int .u64 (IntKind.u64.wrap ((a1).length : Int)), .int .i64 (4:Int)]) rfl) ?_
  refine (octet_Writer_Num_ref hst.to1 ht243).mono ?_
  rintro _ w244 ⟨rfl, hst⟩
  refine ⟨_, rfl, ?_⟩
  replace hst := hst.of1
  refine wl_nil ?_
  refine then_n ?_
  refine wp_seq ?_
  refine wp_region_lit ?_
  refine wl_val (v := r1_0) rfl rfl rfl ?_
  refine wl_val (v := .int .i64 ((a1).length : Int)) rfl rfl (x_len rfl Try.underlying35 (rd_sliceV f1_0)) ?_
  refine wl_val (v := .int .i64 (0:Int)) rfl rfl rfl ?_
  refine wl_nil ?_
  refine then_n ?_
  refine wp_block ?_
  obtain ⟨n332, hm⟩ := loopO_some hm
  refine wp_loop_n (fun n a w => ∃ (z329 : octet_Writer) (z330 : Int) (σ331 : Nat → Value), loopN (command_writes_l0 a1) n (z329, z330) = some r ∧ a = Fr 29 (upd (upd (upd (upd σ331 0 (p0)) 11 (r1_0)) 12 (.int .i64 ((a1).length : Int))) 13 (.int .i64 z330)) ∧ St w0 w I [at_octet_Writer p0 z329] R) n332 ⟨t242, (0:Int), _, hm, ((fr_upd (t := 0) (v := p0) rfl).trans ((fr_upd (t := 11) (v := r1_0) rfl).trans ((fr_upd (t := 12) (v := .int .i64 ((a1).length : Int)) rfl).trans ((fr_upd (t := 13) (v := .int .i64 (0:Int)) rfl).trans rfl)))), hst⟩ ?_
  rintro n338 _ w333 ⟨z329, z330, σ331, hm, rfl, hst⟩
  obtain ⟨n335, y336, rfl, hm, hx337⟩ := loopN_some hm
  dsimp only [command_writes_l0] at hm
  refine wp_seq ?_
  refine wp_region_lit ?_
  refine wl_val (v := .bool (decide (z330 < ((a1).length : Int)))) rfl rfl rfl ?_
  refine wl_nil ?_
  refine then_n ?_
  refine wp_seq ?_
  refine bsplit (decide (z330 < ((a1).length : Int))) (fun hc339 => ?_) (fun hc339 => ?_)
  · skip
    replace hm := bif_t hc339 hm
    refine wp_ift (congrArg Value.bool hc339) ?_
    refine wp_skip ?_
    refine then_n ?_
    refine wp_seq ?_
    refine wp_block ?_
    refine wp_seq ?_
    refine wp_region_lit ?_
    obtain ⟨x340, hx341, hm⟩ := bind_some hm
    obtain ⟨h342, h343, hi344⟩ := geto_some hx341
    refine wl_val (v := .pointer (some (eAddr r1_0 (z330.toNat * 3 + 0)))) rfl rfl (x_index rfl rfl Try.underlying35 Try.sizeOf73 (rd_sliceV f1_0) h342 h343) ?_
    obtain ⟨cs345, hr346, hc347⟩ := Rd.getF f1_0 hi344
    obtain ⟨v348, rfl, f349, -⟩ := hr346
    refine wl_val (v := .agg #[.float .f64 x340.At, .bool x340.Del, v348]) rfl rfl (x_loadN (cs := [.float .f64 x340.At, .bool x340.Del, v348]) rfl Try.isAgg73 Try.sizeOf73 (eCells (o := 0) (hc347 (HL.le.refl _) hst) rfl)) ?_
    obtain ⟨b352, w353, ew354, eb355, hst⟩ := hst.box [.float .f64 (0:Nat), .bool false, (.slice none 0 0)] 73
    refine wl_run (v := .pointer (some ⟨b352, 0, none⟩)) (w' := w353) rfl rfl (x_al (by kernel_rfl) ew354 eb355) ?_
    obtain ⟨w357, hr358, hst⟩ := hst.boxStore (P := Try.prog) (t := 73) (cs' := [.float .f64 x340.At, .bool x340.Del, v348]) 0 (.agg #[.float .f64 x340.At, .bool x340.Del, v348]) Try.sizeOf73 (Nat.le_of_ble_eq_true rfl) (ones_cons rfl (ones_cons rfl (ones_cons (one_of_sliceV (rd_sliceV f349)) ones_nil))) (by kernel_rfl)
    refine wl_unit rfl rfl (x_unit hr358) ?_
    refine wl_nil ?_
    refine then_n ?_
    refine wp_region_St hst 11 [0, 1, 2, 3, 4, 5, 6, 7, 8, 9, 10] [0, 0, 2, 6, 15, 0, 32, 127, 0, 256, 1023] [] rfl (by kernel_rfl) (by kernel_rfl) Try.mixed (by kernel_rfl) ?_
    refine ws_q (v := p0) 0 [1, 2, 3, 4, 5, 6, 7, 8, 9, 10] (by kernel_rfl) rfl rfl (yi_run rfl (fun w hst => rfl)) ?_
    refine ws_q (v := .pointer (some ⟨b352, 0, none⟩)) 1 [2, 3, 4, 5, 6, 7, 8, 9, 10] (by kernel_rfl) rfl rfl (yi_run rfl (fun w hst => x_field rfl Try.underlying73 rfl Try.sizeOf41 rfl)) ?_
    refine ws_q (v := .float .f64 x340.At) 2 [3, 4, 5, 6, 7, 8, 9, 10] (by kernel_rfl) rfl rfl (yi_run rfl (fun w hst => x_load rfl Try.isAgg41 (hst.bc0 rfl))) ?_
    refine ws_q (v := .pointer (some ⟨b352, 1, none⟩)) 5 [3, 4, 6, 7, 8, 9, 10] (by kernel_rfl) rfl rfl (yi_run rfl (fun w hst => x_field rfl Try.underlying73 rfl Try.sizeOf4 rfl)) ?_
    refine ws_q (v := .bool x340.Del) 6 [3, 4, 7, 8, 9, 10] (by kernel_rfl) rfl rfl (yi_run rfl (fun w hst => x_load rfl Try.isAgg4 (hst.bc0 rfl))) ?_
    refine ws_q (v := .pointer (some ⟨b352, 2, none⟩)) 8 [3, 4, 7, 9, 10] (by kernel_rfl) rfl rfl (yi_run rfl (fun w hst => x_field rfl Try.underlying73 rfl Try.sizeOf22 rfl)) ?_
    refine ws_q (v := v348) 9 [3, 4, 7, 10] (by kernel_rfl) rfl rfl (yi_run rfl (fun w hst => x_load rfl Try.isAgg22 (hst.bc0 rfl))) ?_
    refine ws_e1 3 (by kernel_rfl) ?_
    refine nxe [4, 7, 10] (by kernel_rfl) rfl rfl ?_
    clear hst
    intro w hst
    obtain ⟨t359, ht360, hm⟩ := bind_some hm
    refine we_call rfl (x_call Try.call39 rfl (vs := [.float .f64 x340.At]) rfl) ?_
    refine (number_Rank_ref hst.to0 ht360).mono ?_
    rintro _ w361 ⟨rfl, hst⟩
    refine ⟨_, rfl, ?_⟩
    replace hst := hst.of0
    refine ws_next (pend' := [(9, v348), (8, .pointer (some ⟨b352, 2, none⟩)), (6, .bool x340.Del), (5, .pointer (some ⟨b352, 1, none⟩)), (0, p0)]) hst (by kernel_rfl) (pk_cons rfl (yi_run rfl (fun w hst => x_load rfl Try.isAgg22 (hst.bc0 rfl))) (pk_cons rfl (yi_run rfl (fun w hst => x_field rfl Try.underlying73 rfl Try.sizeOf22 rfl)) (pk_cons rfl (yi_run rfl (fun w hst => x_load rfl Try.isAgg4 (hst.bc0 rfl))) (pk_cons rfl (yi_run rfl (fun w hst => x_field rfl Try.underlying73 rfl Try.sizeOf4 rfl)) (pk_cons rfl (yi_run rfl (fun w hst => rfl)) pk_nil))))) ?_
    refine ws_e1 4 (by kernel_rfl) ?_
    refine nxe [7, 10] (by kernel_rfl) rfl rfl ?_
    clear hst
    intro w hst
    replace hst := hst.pull1
    obtain ⟨t364, ht365, hm⟩ := bind_some hm
    refine we_call rfl (x_call Try.call27 rfl (vs := [p0, .int .u64 t359, .int .i64 (8:Int)]) rfl) ?_
    refine (octet_Writer_Num_ref hst.to1 ht365).mono ?_
    rintro _ w366 ⟨rfl, hst⟩
    refine ⟨_, rfl, ?_⟩
    replace hst := hst.of1
    refine ws_next (pend' := [(9, v348), (8, .pointer (some ⟨b352, 2, none⟩)), (6, .bool x340.Del), (5, .pointer (some ⟨b352, 1, none⟩))]) hst (by kernel_rfl) (pk_cons rfl (yi_run rfl (fun w hst => x_load rfl Try.isAgg22 (hst.bc1 rfl))) (pk_cons rfl (yi_run rfl (fun w hst => x_field rfl Try.underlying73 rfl Try.sizeOf22 rfl)) (pk_cons rfl (yi_run rfl (fun w hst => x_load rfl Try.isAgg4 (hst.bc1 rfl))) (pk_cons rfl (yi_run rfl (fun w hst => x_field rfl Try.underlying73 rfl Try.sizeOf4 rfl)) pk_nil)))) ?_
    refine ws_e1 7 (by kernel_rfl) ?_
    refine nxe [10] (by kernel_rfl) rfl rfl ?_
    clear hst
    intro w hst
    obtain ⟨t369, ht370, hm⟩ := bind_some hm
    refine we_call rfl (x_call Try.call32 rfl (vs := [p0, .bool x340.Del]) rfl) ?_
    refine (octet_Writer_Flag_ref hst.to1 ht370).mono ?_
    rintro _ w371 ⟨rfl, hst⟩
    refine ⟨_, rfl, ?_⟩
    replace hst := hst.of1
    refine ws_next (pend' := [(9, v348), (8, .pointer (some ⟨b352, 2, none⟩))]) hst (by kernel_rfl) (pk_cons rfl (yi_run rfl (fun w hst => x_load rfl Try.isAgg22 (hst.bc1 rfl))) (pk_cons rfl (yi_run rfl (fun w hst => x_field rfl Try.underlying73 rfl Try.sizeOf22 rfl)) pk_nil)) ?_
    refine ws_e1 10 (by kernel_rfl) ?_
    refine nxe [] (by kernel_rfl) rfl rfl ?_
    clear hst
    intro w hst
    obtain ⟨t374, ht375, hm⟩ := bind_some hm
    refine we_call rfl (x_call Try.call38 rfl (vs := [p0, v348]) rfl) ?_
    refine (octet_Writer_Bytes_ref (f349.mono (rd_weak _)) hst.to1 ht375).mono ?_
    rintro _ w376 ⟨rfl, hst⟩
    refine ⟨_, rfl, ?_⟩
    replace hst := hst.of1
    refine ws_next (pend' := []) hst (by kernel_rfl) pk_nil ?_
    refine ws_nil ?_
    intro w hst
    refine blk_n ?_
    refine then_n ?_
    refine wp_region_lit ?_
    refine wl_val (v := .int .i64 (IntKind.i64.wrap (z330 + (1:Int)))) rfl rfl rfl ?_
    refine wl_val (v := .int .i64 (IntKind.i64.wrap (z330 + (1:Int)))) rfl rfl rfl ?_
    refine wl_nil ?_
    refine then_n ?_
    replace hst := hst.keep1
    obtain rfl := some_inj hm
    exact ⟨_, Nat.lt_succ_self _, t374, (IntKind.i64.wrap (z330 + (1:Int))), _, hx337, ((fr_upd (t := 0) (v := p0) rfl).trans ((fr_upd (t := 11) (v := r1_0) rfl).trans ((fr_upd (t := 12) (v := .int .i64 ((a1).length : Int)) rfl).trans ((fr_upd (t := 13) (v := .int .i64 (IntKind.i64.wrap (z330 + (1:Int)))) rfl).trans rfl)))), hst⟩
  · skip
    replace hm := bif_f hc339 hm
    refine wp_iff (congrArg Value.bool hc339) ?_
    refine wp_exit ?_
    refine then_x ?_
    refine then_x ?_
    replace hm := inr_up hm hx337
    refine blk_x ?_
    obtain rfl := some_inj hm
    refine post_end (vs := []) Try.results30 rvs_nil ?_
    exact ⟨rfl, hst.keep1⟩

theorem command_LayReply_ref {w0 w : World} {I : HL} {R : SP} {a0 : octet_Writer} {p0 : Value} {a1 : api_Reply} {r1_0 : Value} {r1_1 : Value} (f1_0 : Rd ty_api_Got R I r1_0 a1.Gots) (f1_1 : Rd (tySl ty_api_Pair) R I r1_1 a1.Scans) (hst : St w0 w I [at_octet_Writer p0 a0] R) {r : (octet_Writer)} (hm : command_LayReply a0 a1 = some r) :
    Calls Try.prog 13 #[p0, .agg #[.int .i64 a1.E, .int .u64 a1.Epoch, .int .u64 a1.Index, r1_0, r1_1]] w fun e w' => e = .returned (.tuple #[]) ∧ St w0 w' I [at_octet_Writer p0 r] R := by
  unfold command_LayReply at hm
  refine calls_start (args := [p0, .agg #[.int .i64 a1.E, .int .u64 a1.Epoch, .int .u64 a1.Index, r1_0, r1_1]]) Try.func13 rfl Try.ntmps13 (Nat.le_of_ble_eq_true rfl) ?_
  refine wp_seq ?_
  refine wp_region_lit ?_
  obtain ⟨b810, w811, ew812, eb813, hst⟩ := hst.box [.int .i64 a1.E, .int .u64 a1.Epoch, .int .u64 a1.Index, r1_0, r1_1] 39
  refine wl_run (v := .pointer (some ⟨b810, 0, none⟩)) (w' := w811) rfl rfl (x_al (by kernel_rfl) ew812 eb813) ?_
  refine wl_nil ?_
  refine then_n ?_
  refine wp_seq ?_
  refine wp_region_St hst 16 [0, 1, 2, 3, 4, 5, 6, 7, 8, 9, 10, 11, 12, 13, 14, 15] [0, 0, 2, 6, 15, 0, 32, 127, 0, 256, 1023, 0, 2048, 6144, 14336, 32767] [] rfl (by kernel_rfl) (by kernel_rfl) Try.mixed (by kernel_rfl) ?_
  refine ws_q (v := p0) 0 [1, 2, 3, 4, 5, 6, 7, 8, 9, 10, 11, 12, 13, 14, 15] (by kernel_rfl) rfl rfl (yi_run rfl (fun w hst => rfl)) ?_
  refine ws_q (v := .pointer (some ⟨b810, 0, none⟩)) 1 [2, 3, 4, 5, 6, 7, 8, 9, 10, 11, 12, 13, 14, 15] (by kernel_rfl) rfl rfl (yi_run rfl (fun w hst => x_field rfl Try.underlying39 rfl Try.sizeOf30 rfl)) ?_
  refine ws_q (v := .int .i64 a1.E) 2 [3, 4, 5, 6, 7, 8, 9, 10, 11, 12, 13, 14, 15] (by kernel_rfl) rfl rfl (yi_run rfl (fun w hst => x_load rfl Try.isAgg30 (hst.bc0 rfl))) ?_
  refine ws_q (v := .int .u64 (IntKind.u64.wrap a1.E)) 3 [4, 5, 6, 7, 8, 9, 10, 11, 12, 13, 14, 15] (by kernel_rfl) rfl rfl (yi_run rfl (fun w hst => by kernel_rfl)) ?_
  refine ws_q (v := .pointer (some ⟨b810, 1, none⟩)) 5 [4, 6, 7, 8, 9, 10, 11, 12, 13, 14, 15] (by kernel_rfl) rfl rfl (yi_run rfl (fun w hst => x_field rfl Try.underlying39 rfl Try.sizeOf27 rfl)) ?_
  refine ws_q (v := .int .u64 a1.Epoch) 6 [4, 7, 8, 9, 10, 11, 12, 13, 14, 15] (by kernel_rfl) rfl rfl (yi_run rfl (fun w hst => x_load rfl Try.isAgg27 (hst.bc0 rfl))) ?_
  refine ws_q (v := .pointer (some ⟨b810, 2, none⟩)) 8 [4, 7, 9, 10, 11, 12, 13, 14, 15] (by kernel_rfl) rfl rfl (yi_run rfl (fun w hst => x_field rfl Try.underlying39 rfl Try.sizeOf27 rfl)) ?_
  refine ws_q (v := .int .u64 a1.Index) 9 [4, 7, 10, 11, 12, 13, 14, 15] (by kernel_rfl) rfl rfl (yi_run rfl (fun w hst => x_load rfl Try.isAgg27 (hst.bc0 rfl))) ?_
  refine ws_q (v := .pointer (some ⟨b810, 3, none⟩)) 11 [4, 7, 10, 12, 13, 14, 15] (by kernel_rfl) rfl rfl (yi_run rfl (fun w hst => x_field rfl Try.underlying39 rfl Try.sizeOf36 rfl)) ?_
  refine ws_q (v := r1_0) 12 [4, 7, 10, 13, 14, 15] (by kernel_rfl) rfl rfl (yi_run rfl (fun w hst => x_load rfl Try.isAgg36 (hst.bc0 rfl))) ?_
  refine ws_q (v := .int .i64 ((a1.Gots).length : Int)) 13 [4, 7, 10, 14, 15] (by kernel_rfl) rfl rfl (yi_run rfl (fun w hst => x_len rfl Try.underlying36 (rd_sliceV f1_0))) ?_
  refine ws_q (v := .int .u64 (IntKind.u64.wrap ((a1.Gots).length : Int))) 14 [4, 7, 10, 15] (by kernel_rfl) rfl rfl (yi_run rfl (fun w hst => by kernel_rfl)) ?_
  refine ws_e1 4 (by kernel_rfl) ?_
  refine nxe [7, 10, 15] (by kernel_rfl) rfl rfl ?_
  clear hst
  intro w hst
  replace hst := hst.pull1
  obtain ⟨t815, ht816, hm⟩ := bind_some hm
  refine we_call rfl (x_call Try.call27 rfl (vs := [p0, .int .u64 (IntKind.u64.wrap a1.E), .int .i64 (1:Int)]) rfl) ?_
  refine (octet_Writer_Num_ref hst.to1 ht816).mono ?_
  rintro _ w817 ⟨rfl, hst⟩
  refine ⟨_, rfl, ?_⟩
  replace hst := hst.of1
  refine ws_next (pend' := [(14, .int .u64 (IntKind.u64.wrap ((a1.Gots).length : Int))), (13, .int .i64 ((a1.Gots).length : Int)), (12, r1_0), (11, .pointer (some ⟨b810, 3, none⟩)), (9, .int .u64 a1.Index), (8, .pointer (some ⟨b810, 2, none⟩)), (6, .int .u64 a1.Epoch), (5, .pointer (some ⟨b810, 1, none⟩))]) hst (by kernel_rfl) (pk_cons rfl (yi_run rfl (fun w hst => by kernel_rfl)) (pk_cons rfl (yi_run rfl (fun w hst => x_len rfl Try.underlying36 (rd_sliceV f1_0))) (pk_cons rfl (yi_run rfl (fun w hst => x_load rfl Try.isAgg36 (hst.bc1 rfl))) (pk_cons rfl (yi_run rfl (fun w hst => x_field rfl Try.underlying39 rfl Try.sizeOf36 rfl)) (pk_cons rfl (yi_run rfl (fun w hst => x_load rfl Try.isAgg27 (hst.bc1 rfl))) (pk_cons rfl (yi_run rfl (fun w hst => x_field rfl Try.underlying39 rfl Try.sizeOf27 rfl)) (pk_cons rfl (yi_run rfl (fun w hst => x_load rfl Try.isAgg27 (hst.bc1 rfl))) (pk_cons rfl (yi_run rfl (fun w hst => x_field rfl Try.underlying39 rfl Try.sizeOf27 rfl)) pk_nil)))))))) ?_
  refine ws_e1 7 (by kernel_rfl) ?_
  refine nxe [10, 15] (by kernel_rfl) rfl rfl ?_
  clear hst
  intro w hst
  obtain ⟨t820, ht821, hm⟩ := bind_some hm
  refine we_call rfl (x_call Try.call27 rfl (vs := [p0, .int .u64 a1.Epoch, .int .i64 (8:Int)]) rfl) ?_
  refine (octet_Writer_Num_ref hst.to1 ht821).mono ?_
  rintro _ w822 ⟨rfl, hst⟩
  refine ⟨_, rfl, ?_⟩
  replace hst := hst.of1
  refine ws_next (pend' := [(14, .int .u64 (IntKind.u64.wrap ((a1.Gots).length : Int))), (13, .int .i64 ((a1.Gots).length : Int)), (12, r1_0), (11, .pointer (some ⟨b810, 3, none⟩)), (9, .int .u64 a1.Index), (8, .pointer (some ⟨b810, 2, none⟩))]) hst (by kernel_rfl) (pk_cons rfl (yi_run rfl (fun w hst => by kernel_rfl)) (pk_cons rfl (yi_run rfl (fun w hst => x_len rfl Try.underlying36 (rd_sliceV f1_0))) (pk_cons rfl (yi_run rfl (fun w hst => x_load rfl Try.isAgg36 (hst.bc1 rfl))) (pk_cons rfl (yi_run rfl (fun w hst => x_field rfl Try.underlying39 rfl Try.sizeOf36 rfl)) (pk_cons rfl (yi_run rfl (fun w hst => x_load rfl Try.isAgg27 (hst.bc1 rfl))) (pk_cons rfl (yi_run rfl (fun w hst => x_field rfl Try.underlying39 rfl Try.sizeOf27 rfl)) pk_nil)))))) ?_
  refine ws_e1 10 (by kernel_rfl) ?_
  refine nxe [15] (by kernel_rfl) rfl rfl ?_
  clear hst
  intro w hst
  obtain ⟨t825, ht826, hm⟩ := bind_some hm
  refine we_call rfl (x_call Try.call27 rfl (vs := [p0, .int .u64 a1.Index, .int .i64 (8:Int)]) rfl) ?_
  refine (octet_Writer_Num_ref hst.to1 ht826).mono ?_
  rintro _ w827 ⟨rfl, hst⟩
  refine ⟨_, rfl, ?_⟩
  replace hst := hst.of1
  refine ws_next (pend' := [(14, .int .u64 (IntKind.u64.wrap ((a1.Gots).length : Int))), (13, .int .i64 ((a1.Gots).length : Int)), (12, r1_0), (11, .pointer (some ⟨b810, 3, none⟩))]) hst (by kernel_rfl) (pk_cons rfl (yi_run rfl (fun w hst => by kernel_rfl)) (pk_cons rfl (yi_run rfl (fun w hst => x_len rfl Try.underlying36 (rd_sliceV f1_0))) (pk_cons rfl (yi_run rfl (fun w hst => x_load rfl Try.isAgg36 (hst.bc1 rfl))) (pk_cons rfl (yi_run rfl (fun w hst => x_field rfl Try.underlying39 rfl Try.sizeOf36 rfl)) pk_nil)))) ?_
  refine ws_e1 15 (by kernel_rfl) ?_
  refine nxe [] (by kernel_rfl) rfl rfl ?_
  clear hst
  intro w hst
  obtain ⟨t830, ht831, hm⟩ := bind_some hm
  refine we_call rfl (x_call Try.call27 rfl (vs := [p0, .int .u64 (IntKind.u64.wrap ((a1.Gots).length : Int)), .int .i64 (4:Int)]) rfl) ?_
  refine (octet_Writer_Num_ref hst.to1 ht831).mono ?_
  rintro _ w832 ⟨rfl, hst⟩
  refine ⟨_, rfl, ?_⟩
  replace hst := hst.of1
  refine ws_next (pend' := []) hst (by kernel_rfl) pk_nil ?_
  refine ws_nil ?_
  intro w hst
  refine then_n ?_
  obtain ⟨y940, hm, hx941⟩ := bind_some hm
  refine wp_cut (fun a w => ∃ (z937 : octet_Writer) (σ938 : Nat → Value), (command_LayReply_j0 a1) z937 = some r ∧ a = Fr 75 (upd (upd σ938 0 (p0)) 3 (.pointer (some ⟨b810, 0, none⟩))) ∧ St w0 w I [at_octet_Writer p0 z937, cells b810 [.int .i64 a1.E, .int .u64 a1.Epoch, .int .u64 a1.Index, r1_0, r1_1]] R) ?_ ?_
  · skip
    refine wp_seq ?_
    refine wp_region_lit ?_
    refine wl_val (v := .pointer (some ⟨b810, 3, none⟩)) rfl rfl (x_field rfl Try.underlying39 rfl Try.sizeOf36 rfl) ?_
    refine wl_val (v := r1_0) rfl rfl (x_load rfl Try.isAgg36 (hst.bc1 rfl)) ?_
    refine wl_val (v := .int .i64 ((a1.Gots).length : Int)) rfl rfl (x_len rfl Try.underlying36 (rd_sliceV f1_0)) ?_
    refine wl_val (v := .int .i64 (0:Int)) rfl rfl rfl ?_
    refine wl_nil ?_
    refine then_n ?_
    refine wp_block ?_
    obtain ⟨n900, hm⟩ := loopO_some hm
    refine wp_loop_n (fun n a w => ∃ (z897 : octet_Writer) (z898 : Int) (σ899 : Nat → Value), loopN (command_LayReply_l1 a1) n (z897, z898) = some y940 ∧ a = Fr 75 (upd (upd (upd (upd (upd σ899 0 (p0)) 3 (.pointer (some ⟨b810, 0, none⟩))) 27 (r1_0)) 28 (.int .i64 ((a1.Gots).length : Int))) 29 (.int .i64 z898)) ∧ St w0 w I [at_octet_Writer p0 z897, cells b810 [.int .i64 a1.E, .int .u64 a1.Epoch, .int .u64 a1.Index, r1_0, r1_1]] R) n900 ⟨t830, (0:Int), _, hm, ((fr_upd (t := 0) (v := p0) rfl).trans ((fr_upd (t := 3) (v := .pointer (some ⟨b810, 0, none⟩)) rfl).trans ((fr_upd (t := 27) (v := r1_0) rfl).trans ((fr_upd (t := 28) (v := .int .i64 ((a1.Gots).length : Int)) rfl).trans ((fr_upd (t := 29) (v := .int .i64 (0:Int)) rfl).trans rfl))))), hst⟩ ?_
    rintro n906 _ w901 ⟨z897, z898, σ899, hm, rfl, hst⟩
    obtain ⟨n903, y904, rfl, hm, hx905⟩ := loopN_some hm
    dsimp only [command_LayReply_l1] at hm
    refine wp_seq ?_
    refine wp_region_lit ?_
    refine wl_val (v := .bool (decide (z898 < ((a1.Gots).length : Int)))) rfl rfl rfl ?_
    refine wl_nil ?_
    refine then_n ?_
    refine wp_seq ?_
    refine bsplit (decide (z898 < ((a1.Gots).length : Int))) (fun hc907 => ?_) (fun hc907 => ?_)
    · skip
      replace hm := bif_t hc907 hm
      refine wp_ift (congrArg Value.bool hc907) ?_
      refine wp_skip ?_
      refine then_n ?_
      refine wp_seq ?_
      refine wp_block ?_
      refine wp_seq ?_
      refine wp_region_lit ?_
      obtain ⟨x908, hx909, hm⟩ := bind_some hm
      obtain ⟨h910, h911, hi912⟩ := geto_some hx909
      refine wl_val (v := .pointer (some (eAddr r1_0 (z898.toNat * 2 + 0)))) rfl rfl (x_index rfl rfl Try.underlying36 Try.sizeOf51 (rd_sliceV f1_0) h910 h911) ?_
      obtain ⟨cs913, hr914, hc915⟩ := Rd.getF f1_0 hi912
      obtain ⟨v916, rfl, f917, -⟩ := hr914
      refine wl_val (v := .agg #[.bool x908.Has, v916]) rfl rfl (x_loadN (cs := [.bool x908.Has, v916]) rfl Try.isAgg51 Try.sizeOf51 (eCells (o := 0) (hc915 (HL.le.refl _) hst) rfl)) ?_
      obtain ⟨b920, w921, ew922, eb923, hst⟩ := hst.box [.bool false, (.slice none 0 0)] 51
      refine wl_run (v := .pointer (some ⟨b920, 0, none⟩)) (w' := w921) rfl rfl (x_al (by kernel_rfl) ew922 eb923) ?_
      obtain ⟨w925, hr926, hst⟩ := hst.boxStore (P := Try.prog) (t := 51) (cs' := [.bool x908.Has, v916]) 0 (.agg #[.bool x908.Has, v916]) Try.sizeOf51 (Nat.le_of_ble_eq_true rfl) (ones_cons rfl (ones_cons (one_of_sliceV (rd_sliceV f917)) ones_nil)) (by kernel_rfl)
      refine wl_unit rfl rfl (x_unit hr926) ?_
      refine wl_nil ?_
      refine then_n ?_
      refine wp_region_St hst 7 [0, 1, 2, 3, 4, 5, 6] [0, 0, 2, 7, 0, 16, 63] [] rfl (by kernel_rfl) (by kernel_rfl) Try.mixed (by kernel_rfl) ?_
      refine ws_q (v := p0) 0 [1, 2, 3, 4, 5, 6] (by kernel_rfl) rfl rfl (yi_run rfl (fun w hst => rfl)) ?_
      refine ws_q (v := .pointer (some ⟨b920, 0, none⟩)) 1 [2, 3, 4, 5, 6] (by kernel_rfl) rfl rfl (yi_run rfl (fun w hst => x_field rfl Try.underlying51 rfl Try.sizeOf4 rfl)) ?_
      refine ws_q (v := .bool x908.Has) 2 [3, 4, 5, 6] (by kernel_rfl) rfl rfl (yi_run rfl (fun w hst => x_load rfl Try.isAgg4 (hst.bc0 rfl))) ?_
      refine ws_q (v := .pointer (some ⟨b920, 1, none⟩)) 4 [3, 5, 6] (by kernel_rfl) rfl rfl (yi_run rfl (fun w hst => x_field rfl Try.underlying51 rfl Try.sizeOf22 rfl)) ?_
      refine ws_q (v := v916) 5 [3, 6] (by kernel_rfl) rfl rfl (yi_run rfl (fun w hst => x_load rfl Try.isAgg22 (hst.bc0 rfl))) ?_
      refine ws_e1 3 (by kernel_rfl) ?_
      refine nxe [6] (by kernel_rfl) rfl rfl ?_
      clear hst
      intro w hst
      replace hst := hst.pull1
      obtain ⟨t927, ht928, hm⟩ := bind_some hm
      refine we_call rfl (x_call Try.call32 rfl (vs := [p0, .bool x908.Has]) rfl) ?_
      refine (octet_Writer_Flag_ref hst.to1 ht928).mono ?_
      rintro _ w929 ⟨rfl, hst⟩
      refine ⟨_, rfl, ?_⟩
      replace hst := hst.of1
      refine ws_next (pend' := [(5, v916), (4, .pointer (some ⟨b920, 1, none⟩))]) hst (by kernel_rfl) (pk_cons rfl (yi_run rfl (fun w hst => x_load rfl Try.isAgg22 (hst.bc1 rfl))) (pk_cons rfl (yi_run rfl (fun w hst => x_field rfl Try.underlying51 rfl Try.sizeOf22 rfl)) pk_nil)) ?_
      refine ws_e1 6 (by kernel_rfl) ?_
      refine nxe [] (by kernel_rfl) rfl rfl ?_
      clear hst
      intro w hst
      obtain ⟨t932, ht933, hm⟩ := bind_some hm
      refine we_call rfl (x_call Try.call38 rfl (vs := [p0, v916]) rfl) ?_
      refine (octet_Writer_Bytes_ref (f917.mono (rd_weak _)) hst.to1 ht933).mono ?_
      rintro _ w934 ⟨rfl, hst⟩
      refine ⟨_, rfl, ?_⟩
      replace hst := hst.of1
      refine ws_next (pend' := []) hst (by kernel_rfl) pk_nil ?_
      refine ws_nil ?_
      intro w hst
      refine blk_n ?_
      refine then_n ?_
      refine wp_region_lit ?_
      refine wl_val (v := .int .i64 (IntKind.i64.wrap (z898 + (1:Int)))) rfl rfl rfl ?_
      refine wl_val (v := .int .i64 (IntKind.i64.wrap (z898 + (1:Int)))) rfl rfl rfl ?_
      refine wl_nil ?_
      refine then_n ?_
      replace hst := hst.pull2
      replace hst := hst.pull1
      replace hst := hst.keep2
      obtain rfl := some_inj hm
      exact ⟨_, Nat.lt_succ_self _, t932, (IntKind.i64.wrap (z898 + (1:Int))), _, hx905, ((fr_upd (t := 0) (v := p0) rfl).trans ((fr_upd (t := 3) (v := .pointer (some ⟨b810, 0, none⟩)) rfl).trans ((fr_upd (t := 27) (v := r1_0) rfl).trans ((fr_upd (t := 28) (v := .int .i64 ((a1.Gots).length : Int)) rfl).trans ((fr_upd (t := 29) (v := .int .i64 (IntKind.i64.wrap (z898 + (1:Int)))) rfl).trans rfl))))), hst⟩
    · skip
      replace hm := bif_f hc907 hm
      refine wp_iff (congrArg Value.bool hc907) ?_
      refine wp_exit ?_
      refine then_x ?_
      refine then_x ?_
      replace hm := inr_up hm hx905
      refine blk_x ?_
      refine then_n ?_
      replace hst := hst.pull1
      replace hst := hst.pull1
      replace hst := hst.keep2
      obtain rfl := some_inj hm
      exact ⟨z897, _, hx941, ((fr_upd (t := 0) (v := p0) rfl).trans ((fr_upd (t := 3) (v := .pointer (some ⟨b810, 0, none⟩)) rfl).trans rfl)), hst⟩
  · skip
    clear hst
    rintro _ w942 ⟨z937, σ938, hm, rfl, hst⟩
    dsimp only [command_LayReply_j0] at hm
    refine wp_seq ?_
    refine wp_region_lit ?_
    refine wl_val (v := p0) rfl rfl rfl ?_
    refine wl_val (v := .pointer (some ⟨b810, 4, none⟩)) rfl rfl (x_field rfl Try.underlying39 rfl Try.sizeOf37 rfl) ?_
    refine wl_val (v := r1_1) rfl rfl (x_load rfl Try.isAgg37 (hst.bc1 rfl)) ?_
    refine wl_val (v := .int .i64 ((a1.Scans).length : Int)) rfl rfl (x_len rfl Try.underlying37 (rd_sliceV f1_1)) ?_
    refine wl_val (v := .int .u64 (IntKind.u64.wrap ((a1.Scans).length : Int))) rfl rfl (by kernel_rfl) ?_
    obtain ⟨t943, ht944, hm⟩ := bind_some hm
    refine wl_call rfl rfl (x_call Try.call27 rfl (vs := [p0, .int .u64 (IntKind.u64.wrap ((a1.Scans).length : Int)), .int .i64 (4:Int)]) rfl) ?_
    refine (octet_Writer_Num_ref hst.to1 ht944).mono ?_
    rintro _ w945 ⟨rfl, hst⟩
    refine ⟨_, rfl, ?_⟩
    replace hst := hst.of1
    refine wl_nil ?_
    refine then_n ?_
    refine wp_seq ?_
    refine wp_region_lit ?_
    refine wl_val (v := .pointer (some ⟨b810, 4, none⟩)) rfl rfl (x_field rfl Try.underlying39 rfl Try.sizeOf37 rfl) ?_
    refine wl_val (v := r1_1) rfl rfl (x_load rfl Try.isAgg37 (hst.bc1 rfl)) ?_
    refine wl_val (v := .int .i64 ((a1.Scans).length : Int)) rfl rfl (x_len rfl Try.underlying37 (rd_sliceV f1_1)) ?_
    refine wl_val (v := .int .i64 (0:Int)) rfl rfl rfl ?_
    refine wl_nil ?_
    refine then_n ?_
    refine wp_block ?_
    replace hst := hst.pull1
    replace hst := hst.sub
    obtain ⟨n1221, hm⟩ := loopO_some hm
    refine wp_loop_n (fun n a w => ∃ (z1218 : octet_Writer) (z1219 : Int) (σ1220 : Nat → Value), loopN (command_LayReply_l2 a1) n (z1218, z1219) = some r ∧ a = Fr 75 (upd (upd (upd (upd σ1220 0 (p0)) 48 (r1_1)) 49 (.int .i64 ((a1.Scans).length : Int))) 50 (.int .i64 z1219)) ∧ St w0 w I [at_octet_Writer p0 z1218] R) n1221 ⟨t943, (0:Int), _, hm, ((fr_upd (t := 0) (v := p0) rfl).trans ((fr_upd (t := 48) (v := r1_1) rfl).trans ((fr_upd (t := 49) (v := .int .i64 ((a1.Scans).length : Int)) rfl).trans ((fr_upd (t := 50) (v := .int .i64 (0:Int)) rfl).trans rfl)))), hst⟩ ?_
    rintro n1227 _ w1222 ⟨z1218, z1219, σ1220, hm, rfl, hst⟩
    obtain ⟨n1224, y1225, rfl, hm, hx1226⟩ := loopN_some hm
    dsimp only [command_LayReply_l2] at hm
    refine wp_seq ?_
    refine wp_region_lit ?_
    refine wl_val (v := .bool (decide (z1219 < ((a1.Scans).length : Int)))) rfl rfl rfl ?_
    refine wl_nil ?_
    refine then_n ?_
    refine wp_seq ?_
    refine bsplit (decide (z1219 < ((a1.Scans).length : Int))) (fun hc1228 => ?_) (fun hc1228 => ?_)
    · skip
      replace hm := bif_t hc1228 hm
      refine wp_ift (congrArg Value.bool hc1228) ?_
      refine wp_skip ?_
      refine then_n ?_
      refine wp_seq ?_
      refine wp_block ?_
      refine wp_seq ?_
      refine wp_region_lit ?_
      obtain ⟨x1229, hx1230, hm⟩ := bind_some hm
      obtain ⟨h1231, h1232, hi1233⟩ := geto_some hx1230
      refine wl_val (v := .pointer (some (eAddr r1_1 (z1219.toNat * 1 + 0)))) rfl rfl (x_index rfl rfl Try.underlying37 Try.sizeOf52 (rd_sliceV f1_1) h1231 h1232) ?_
      obtain ⟨cs1234, hr1235, hc1236⟩ := Rd.getF f1_1 hi1233
      obtain ⟨v1237, rfl, f1238, -⟩ := hr1235
      refine wl_val (v := v1237) rfl rfl (x_load rfl Try.isAgg52 ((hc1236 (HL.le.refl _) hst) 0 _ rfl)) ?_
      refine wl_val (v := v1237) rfl rfl rfl ?_
      refine wl_nil ?_
      refine then_n ?_
      refine wp_seq ?_
      refine wp_region_lit ?_
      refine wl_val (v := p0) rfl rfl rfl ?_
      refine wl_val (v := v1237) rfl rfl rfl ?_
      refine wl_val (v := .int .i64 ((x1229).length : Int)) rfl rfl (x_len rfl Try.underlying52 (rd_sliceV f1238)) ?_
      refine wl_val (v := .int .u64 (IntKind.u64.wrap ((x1229).length : Int))) rfl rfl (by kernel_rfl) ?_
      obtain ⟨t1240, ht1241, hm⟩ := bind_some hm
      refine wl_call rfl rfl (x_call Try.call27 rfl (vs := [p0, .int .u64 (IntKind.u64.wrap ((x1229).length : Int)), .int .i64 (4:Int)]) rfl) ?_
      refine (octet_Writer_Num_ref hst.to1 ht1241).mono ?_
      rintro _ w1242 ⟨rfl, hst⟩
      refine ⟨_, rfl, ?_⟩
      replace hst := hst.of1
      refine wl_nil ?_
      refine then_n ?_
      refine wp_seq ?_
      refine wp_region_lit ?_
      refine wl_val (v := v1237) rfl rfl rfl ?_
      refine wl_val (v := .int .i64 ((x1229).length : Int)) rfl rfl (x_len rfl Try.underlying52 (rd_sliceV f1238)) ?_
      refine wl_val (v := .int .i64 (0:Int)) rfl rfl rfl ?_
      refine wl_nil ?_
      refine then_n ?_
      refine wp_block ?_
      obtain ⟨n1320, hm⟩ := loopO_some hm
      refine wp_loop_n (fun n a w => ∃ (z1317 : octet_Writer) (z1318 : Int) (σ1319 : Nat → Value), loopN (command_LayReply_l3 x1229 z1219) n (z1317, z1318) = some y1225 ∧ a = Fr 75 (upd (upd (upd (upd (upd (upd (upd σ1319 0 (p0)) 48 (r1_1)) 49 (.int .i64 ((a1.Scans).length : Int))) 50 (.int .i64 z1219)) 59 (v1237)) 60 (.int .i64 ((x1229).length : Int))) 61 (.int .i64 z1318)) ∧ St w0 w I [at_octet_Writer p0 z1317] R) n1320 ⟨t1240, (0:Int), _, hm, ((fr_upd (t := 0) (v := p0) rfl).trans ((fr_upd (t := 48) (v := r1_1) rfl).trans ((fr_upd (t := 49) (v := .int .i64 ((a1.Scans).length : Int)) rfl).trans ((fr_upd (t := 50) (v := .int .i64 z1219) rfl).trans ((fr_upd (t := 59) (v := v1237) rfl).trans ((fr_upd (t := 60) (v := .int .i64 ((x1229).length : Int)) rfl).trans ((fr_upd (t := 61) (v := .int .i64 (0:Int)) rfl).trans rfl))))))), hst⟩ ?_
      rintro n1326 _ w1321 ⟨z1317, z1318, σ1319, hm, rfl, hst⟩
      obtain ⟨n1323, y1324, rfl, hm, hx1325⟩ := loopN_some hm
      dsimp only [command_LayReply_l3] at hm
      refine wp_seq ?_
      refine wp_region_lit ?_
      refine wl_val (v := .bool (decide (z1318 < ((x1229).length : Int)))) rfl rfl rfl ?_
      refine wl_nil ?_
      refine then_n ?_
      refine wp_seq ?_
      refine bsplit (decide (z1318 < ((x1229).length : Int))) (fun hc1327 => ?_) (fun hc1327 => ?_)
      · skip
        replace hm := bif_t hc1327 hm
        refine wp_ift (congrArg Value.bool hc1327) ?_
        refine wp_skip ?_
        refine then_n ?_
        refine wp_seq ?_
        refine wp_block ?_
        refine wp_seq ?_
        refine wp_region_lit ?_
        obtain ⟨x1328, hx1329, hm⟩ := bind_some hm
        obtain ⟨h1330, h1331, hi1332⟩ := geto_some hx1329
        refine wl_val (v := .pointer (some (eAddr v1237 (z1318.toNat * 2 + 0)))) rfl rfl (x_index rfl rfl Try.underlying52 Try.sizeOf54 (rd_sliceV f1238) h1330 h1331) ?_
        obtain ⟨cs1333, hr1334, hc1335⟩ := Rd.getF f1238 hi1332
        obtain ⟨v1336, rfl, f1337, -⟩ := hr1334
        refine wl_val (v := .agg #[.float .f64 x1328.At, v1336]) rfl rfl (x_loadN (cs := [.float .f64 x1328.At, v1336]) rfl Try.isAgg54 Try.sizeOf54 (eCells (o := 0) (hc1335 (HL.le.refl _) hst) rfl)) ?_
        obtain ⟨b1340, w1341, ew1342, eb1343, hst⟩ := hst.box [.float .f64 (0:Nat), (.slice none 0 0)] 54
        refine wl_run (v := .pointer (some ⟨b1340, 0, none⟩)) (w' := w1341) rfl rfl (x_al (by kernel_rfl) ew1342 eb1343) ?_
        obtain ⟨w1345, hr1346, hst⟩ := hst.boxStore (P := Try.prog) (t := 54) (cs' := [.float .f64 x1328.At, v1336]) 0 (.agg #[.float .f64 x1328.At, v1336]) Try.sizeOf54 (Nat.le_of_ble_eq_true rfl) (ones_cons rfl (ones_cons (one_of_sliceV (rd_sliceV f1337)) ones_nil)) (by kernel_rfl)
        refine wl_unit rfl rfl (x_unit hr1346) ?_
        refine wl_nil ?_
        refine then_n ?_
        refine wp_region_St hst 8 [0, 1, 2, 3, 4, 5, 6, 7] [0, 0, 2, 6, 15, 0, 32, 127] [] rfl (by kernel_rfl) (by kernel_rfl) Try.mixed (by kernel_rfl) ?_
        refine ws_q (v := p0) 0 [1, 2, 3, 4, 5, 6, 7] (by kernel_rfl) rfl rfl (yi_run rfl (fun w hst => rfl)) ?_
        refine ws_q (v := .pointer (some ⟨b1340, 0, none⟩)) 1 [2, 3, 4, 5, 6, 7] (by kernel_rfl) rfl rfl (yi_run rfl (fun w hst => x_field rfl Try.underlying54 rfl Try.sizeOf41 rfl)) ?_
        refine ws_q (v := .float .f64 x1328.At) 2 [3, 4, 5, 6, 7] (by kernel_rfl) rfl rfl (yi_run rfl (fun w hst => x_load rfl Try.isAgg41 (hst.bc0 rfl))) ?_
        refine ws_q (v := .pointer (some ⟨b1340, 1, none⟩)) 5 [3, 4, 6, 7] (by kernel_rfl) rfl rfl (yi_run rfl (fun w hst => x_field rfl Try.underlying54 rfl Try.sizeOf22 rfl)) ?_
        refine ws_q (v := v1336) 6 [3, 4, 7] (by kernel_rfl) rfl rfl (yi_run rfl (fun w hst => x_load rfl Try.isAgg22 (hst.bc0 rfl))) ?_
        refine ws_e1 3 (by kernel_rfl) ?_
        refine nxe [4, 7] (by kernel_rfl) rfl rfl ?_
        clear hst
        intro w hst
        obtain ⟨t1347, ht1348, hm⟩ := bind_some hm
        refine we_call rfl (x_call Try.call39 rfl (vs := [.float .f64 x1328.At]) rfl) ?_
        refine (number_Rank_ref hst.to0 ht1348).mono ?_
        rintro _ w1349 ⟨rfl, hst⟩
        refine ⟨_, rfl, ?_⟩
        replace hst := hst.of0
        refine ws_next (pend' := [(6, v1336), (5, .pointer (some ⟨b1340, 1, none⟩)), (0, p0)]) hst (by kernel_rfl) (pk_cons rfl (yi_run rfl (fun w hst => x_load rfl Try.isAgg22 (hst.bc0 rfl))) (pk_cons rfl (yi_run rfl (fun w hst => x_field rfl Try.underlying54 rfl Try.sizeOf22 rfl)) (pk_cons rfl (yi_run rfl (fun w hst => rfl)) pk_nil))) ?_
        refine ws_e1 4 (by kernel_rfl) ?_
        refine nxe [7] (by kernel_rfl) rfl rfl ?_
        clear hst
        intro w hst
        replace hst := hst.pull1
        obtain ⟨t1352, ht1353, hm⟩ := bind_some hm
        refine we_call rfl (x_call Try.call27 rfl (vs := [p0, .int .u64 t1347, .int .i64 (8:Int)]) rfl) ?_
        refine (octet_Writer_Num_ref hst.to1 ht1353).mono ?_
        rintro _ w1354 ⟨rfl, hst⟩
        refine ⟨_, rfl, ?_⟩
        replace hst := hst.of1
        refine ws_next (pend' := [(6, v1336), (5, .pointer (some ⟨b1340, 1, none⟩))]) hst (by kernel_rfl) (pk_cons rfl (yi_run rfl (fun w hst => x_load rfl Try.isAgg22 (hst.bc1 rfl))) (pk_cons rfl (yi_run rfl (fun w hst => x_field rfl Try.underlying54 rfl Try.sizeOf22 rfl)) pk_nil)) ?_
        refine ws_e1 7 (by kernel_rfl) ?_
        refine nxe [] (by kernel_rfl) rfl rfl ?_
        clear hst
        intro w hst
        obtain ⟨t1357, ht1358, hm⟩ := bind_some hm
        refine we_call rfl (x_call Try.call38 rfl (vs := [p0, v1336]) rfl) ?_
        refine (octet_Writer_Bytes_ref (f1337.mono (rd_weak _)) hst.to1 ht1358).mono ?_
        rintro _ w1359 ⟨rfl, hst⟩
        refine ⟨_, rfl, ?_⟩
        replace hst := hst.of1
        refine ws_next (pend' := []) hst (by kernel_rfl) pk_nil ?_
        refine ws_nil ?_
        intro w hst
        refine blk_n ?_
        refine then_n ?_
        refine wp_region_lit ?_
        refine wl_val (v := .int .i64 (IntKind.i64.wrap (z1318 + (1:Int)))) rfl rfl rfl ?_
        refine wl_val (v := .int .i64 (IntKind.i64.wrap (z1318 + (1:Int)))) rfl rfl rfl ?_
        refine wl_nil ?_
        refine then_n ?_
        replace hst := hst.keep1
        obtain rfl := some_inj hm
        exact ⟨_, Nat.lt_succ_self _, t1357, (IntKind.i64.wrap (z1318 + (1:Int))), _, hx1325, ((fr_upd (t := 0) (v := p0) rfl).trans ((fr_upd (t := 48) (v := r1_1) rfl).trans ((fr_upd (t := 49) (v := .int .i64 ((a1.Scans).length : Int)) rfl).trans ((fr_upd (t := 50) (v := .int .i64 z1219) rfl).trans ((fr_upd (t := 59) (v := v1237) rfl).trans ((fr_upd (t := 60) (v := .int .i64 ((x1229).length : Int)) rfl).trans ((fr_upd (t := 61) (v := .int .i64 (IntKind.i64.wrap (z1318 + (1:Int)))) rfl).trans rfl))))))), hst⟩
      · skip
        replace hm := bif_f hc1327 hm
        refine wp_iff (congrArg Value.bool hc1327) ?_
        refine wp_exit ?_
        refine then_x ?_
        refine then_x ?_
        replace hm := inr_up hm hx1325
        refine blk_x ?_
        refine blk_n ?_
        refine then_n ?_
        refine wp_region_lit ?_
        refine wl_val (v := .int .i64 (IntKind.i64.wrap (z1219 + (1:Int)))) rfl rfl rfl ?_
        refine wl_val (v := .int .i64 (IntKind.i64.wrap (z1219 + (1:Int)))) rfl rfl rfl ?_
        refine wl_nil ?_
        refine then_n ?_
        replace hst := hst.keep1
        obtain rfl := some_inj hm
        exact ⟨_, Nat.lt_succ_self _, z1317, (IntKind.i64.wrap (z1219 + (1:Int))), _, hx1226, ((fr_upd (t := 0) (v := p0) rfl).trans ((fr_upd (t := 48) (v := r1_1) rfl).trans ((fr_upd (t := 49) (v := .int .i64 ((a1.Scans).length : Int)) rfl).trans ((fr_upd (t := 50) (v := .int .i64 (IntKind.i64.wrap (z1219 + (1:Int)))) rfl).trans rfl)))), hst⟩
    · skip
      replace hm := bif_f hc1228 hm
      refine wp_iff (congrArg Value.bool hc1228) ?_
      refine wp_exit ?_
      refine then_x ?_
      refine then_x ?_
      replace hm := inr_up hm hx1226
      refine blk_x ?_
      obtain rfl := some_inj hm
      refine post_end (vs := []) Try.results13 rvs_nil ?_
      exact ⟨rfl, hst.keep1⟩

theorem command_layRule_ref {w0 w : World} {I : HL} {R : SP} {a0 : octet_Writer} {p0 : Value} {a1 : api_Rule}  (hst : St w0 w I [at_octet_Writer p0 a0] R) {r : (octet_Writer)} (hm : command_layRule a0 a1 = some r) :
    Calls Try.prog 31 #[p0, .agg #[.int .u64 a1.ID, .int .i64 a1.From, .int .i64 a1.To, .float .f64 a1.Lo, .float .f64 a1.Hi, .int .u64 a1.Authority, .int .i64 a1.Quota]] w fun e w' => e = .returned (.tuple #[]) ∧ St w0 w' I [at_octet_Writer p0 r] R := by
  unfold command_layRule at hm
  refine calls_start (args := [p0, .agg #[.int .u64 a1.ID, .int .i64 a1.From, .int .i64 a1.To, .float .f64 a1.Lo, .float .f64 a1.Hi, .int .u64 a1.Authority, .int .i64 a1.Quota]]) Try.func31 rfl Try.ntmps31 (Nat.le_of_ble_eq_true rfl) ?_
  refine wp_seq ?_
  refine wp_region_lit ?_
  obtain ⟨b340, w341, ew342, eb343, hst⟩ := hst.box [.int .u64 a1.ID, .int .i64 a1.From, .int .i64 a1.To, .float .f64 a1.Lo, .float .f64 a1.Hi, .int .u64 a1.Authority, .int .i64 a1.Quota] 43
  refine wl_run (v := .pointer (some ⟨b340, 0, none⟩)) (w' := w341) rfl rfl (x_al (by kernel_rfl) ew342 eb343) ?_
  refine wl_nil ?_
  refine then_n ?_
  refine wp_region_St hst 27 [0, 1, 2, 3, 4, 5, 6, 7, 8, 9, 10, 11, 12, 13, 14, 15, 16, 17, 18, 19, 20, 21, 22, 23, 24, 25, 26] [0, 0, 2, 7, 0, 16, 48, 127, 0, 256, 768, 2047, 0, 4096, 16383, 32767, 0, 65536, 262143, 524287, 0, 1048576, 4194303, 0, 8388608, 25165824, 67108863] [] rfl (by kernel_rfl) (by kernel_rfl) Try.mixed (by kernel_rfl) ?_
  refine ws_q (v := p0) 0 [1, 2, 3, 4, 5, 6, 7, 8, 9, 10, 11, 12, 13, 14, 15, 16, 17, 18, 19, 20, 21, 22, 23, 24, 25, 26] (by kernel_rfl) rfl rfl (yi_run rfl (fun w hst => rfl)) ?_
  refine ws_q (v := .pointer (some ⟨b340, 0, none⟩)) 1 [2, 3, 4, 5, 6, 7, 8, 9, 10, 11, 12, 13, 14, 15, 16, 17, 18, 19, 20, 21, 22, 23, 24, 25, 26] (by kernel_rfl) rfl rfl (yi_run rfl (fun w hst => x_field rfl Try.underlying43 rfl Try.sizeOf27 rfl)) ?_
  refine ws_q (v := .int .u64 a1.ID) 2 [3, 4, 5, 6, 7, 8, 9, 10, 11, 12, 13, 14, 15, 16, 17, 18, 19, 20, 21, 22, 23, 24, 25, 26] (by kernel_rfl) rfl rfl (yi_run rfl (fun w hst => x_load rfl Try.isAgg27 (hst.bc0 rfl))) ?_
  refine ws_q (v := .pointer (some ⟨b340, 1, none⟩)) 4 [3, 5, 6, 7, 8, 9, 10, 11, 12, 13, 14, 15, 16, 17, 18, 19, 20, 21, 22, 23, 24, 25, 26] (by kernel_rfl) rfl rfl (yi_run rfl (fun w hst => x_field rfl Try.underlying43 rfl Try.sizeOf3 rfl)) ?_
  refine ws_q (v := .int .i64 a1.From) 5 [3, 6, 7, 8, 9, 10, 11, 12, 13, 14, 15, 16, 17, 18, 19, 20, 21, 22, 23, 24, 25, 26] (by kernel_rfl) rfl rfl (yi_run rfl (fun w hst => x_load rfl Try.isAgg3 (hst.bc0 rfl))) ?_
  refine ws_q (v := .int .u64 (IntKind.u64.wrap a1.From)) 6 [3, 7, 8, 9, 10, 11, 12, 13, 14, 15, 16, 17, 18, 19, 20, 21, 22, 23, 24, 25, 26] (by kernel_rfl) rfl rfl (yi_run rfl (fun w hst => by kernel_rfl)) ?_
  refine ws_q (v := .pointer (some ⟨b340, 2, none⟩)) 8 [3, 7, 9, 10, 11, 12, 13, 14, 15, 16, 17, 18, 19, 20, 21, 22, 23, 24, 25, 26] (by kernel_rfl) rfl rfl (yi_run rfl (fun w hst => x_field rfl Try.underlying43 rfl Try.sizeOf3 rfl)) ?_
  refine ws_q (v := .int .i64 a1.To) 9 [3, 7, 10, 11, 12, 13, 14, 15, 16, 17, 18, 19, 20, 21, 22, 23, 24, 25, 26] (by kernel_rfl) rfl rfl (yi_run rfl (fun w hst => x_load rfl Try.isAgg3 (hst.bc0 rfl))) ?_
  refine ws_q (v := .int .u64 (IntKind.u64.wrap a1.To)) 10 [3, 7, 11, 12, 13, 14, 15, 16, 17, 18, 19, 20, 21, 22, 23, 24, 25, 26] (by kernel_rfl) rfl rfl (yi_run rfl (fun w hst => by kernel_rfl)) ?_
  refine ws_q (v := .pointer (some ⟨b340, 3, none⟩)) 12 [3, 7, 11, 13, 14, 15, 16, 17, 18, 19, 20, 21, 22, 23, 24, 25, 26] (by kernel_rfl) rfl rfl (yi_run rfl (fun w hst => x_field rfl Try.underlying43 rfl Try.sizeOf41 rfl)) ?_
  refine ws_q (v := .float .f64 a1.Lo) 13 [3, 7, 11, 14, 15, 16, 17, 18, 19, 20, 21, 22, 23, 24, 25, 26] (by kernel_rfl) rfl rfl (yi_run rfl (fun w hst => x_load rfl Try.isAgg41 (hst.bc0 rfl))) ?_
  refine ws_q (v := .pointer (some ⟨b340, 4, none⟩)) 16 [3, 7, 11, 14, 15, 17, 18, 19, 20, 21, 22, 23, 24, 25, 26] (by kernel_rfl) rfl rfl (yi_run rfl (fun w hst => x_field rfl Try.underlying43 rfl Try.sizeOf41 rfl)) ?_
  refine ws_q (v := .float .f64 a1.Hi) 17 [3, 7, 11, 14, 15, 18, 19, 20, 21, 22, 23, 24, 25, 26] (by kernel_rfl) rfl rfl (yi_run rfl (fun w hst => x_load rfl Try.isAgg41 (hst.bc0 rfl))) ?_
  refine ws_q (v := .pointer (some ⟨b340, 5, none⟩)) 20 [3, 7, 11, 14, 15, 18, 19, 21, 22, 23, 24, 25, 26] (by kernel_rfl) rfl rfl (yi_run rfl (fun w hst => x_field rfl Try.underlying43 rfl Try.sizeOf27 rfl)) ?_
  refine ws_q (v := .int .u64 a1.Authority) 21 [3, 7, 11, 14, 15, 18, 19, 22, 23, 24, 25, 26] (by kernel_rfl) rfl rfl (yi_run rfl (fun w hst => x_load rfl Try.isAgg27 (hst.bc0 rfl))) ?_
  refine ws_q (v := .pointer (some ⟨b340, 6, none⟩)) 23 [3, 7, 11, 14, 15, 18, 19, 22, 24, 25, 26] (by kernel_rfl) rfl rfl (yi_run rfl (fun w hst => x_field rfl Try.underlying43 rfl Try.sizeOf3 rfl)) ?_
  refine ws_q (v := .int .i64 a1.Quota) 24 [3, 7, 11, 14, 15, 18, 19, 22, 25, 26] (by kernel_rfl) rfl rfl (yi_run rfl (fun w hst => x_load rfl Try.isAgg3 (hst.bc0 rfl))) ?_
  refine ws_q (v := .int .u64 (IntKind.u64.wrap a1.Quota)) 25 [3, 7, 11, 14, 15, 18, 19, 22, 26] (by kernel_rfl) rfl rfl (yi_run rfl (fun w hst => by kernel_rfl)) ?_
  refine ws_e1 3 (by kernel_rfl) ?_
  refine nxe [7, 11, 14, 15, 18, 19, 22, 26] (by kernel_rfl) rfl rfl ?_
  clear hst
  intro w hst
  replace hst := hst.pull1
  obtain ⟨t345, ht346, hm⟩ := bind_some hm
  refine we_call rfl (x_call Try.call27 rfl (vs := [p0, .int .u64 a1.ID, .int .i64 (8:Int)]) rfl) ?_
  refine (octet_Writer_Num_ref hst.to1 ht346).mono ?_
  rintro _ w347 ⟨rfl, hst⟩
  refine ⟨_, rfl, ?_⟩
  replace hst := hst.of1
  refine ws_next (pend' := [(25, .int .u64 (IntKind.u64.wrap a1.Quota)), (24, .int .i64 a1.Quota), (23, .pointer (some ⟨b340, 6, none⟩)), (21, .int .u64 a1.Authority), (20, .pointer (some ⟨b340, 5, none⟩)), (17, .float .f64 a1.Hi), (16, .pointer (some ⟨b340, 4, none⟩)), (13, .float .f64 a1.Lo), (12, .pointer (some ⟨b340, 3, none⟩)), (10, .int .u64 (IntKind.u64.wrap a1.To)), (9, .int .i64 a1.To), (8, .pointer (some ⟨b340, 2, none⟩)), (6, .int .u64 (IntKind.u64.wrap a1.From)), (5, .int .i64 a1.From), (4, .pointer (some ⟨b340, 1, none⟩))]) hst (by kernel_rfl) (pk_cons rfl (yi_run rfl (fun w hst => by kernel_rfl)) (pk_cons rfl (yi_run rfl (fun w hst => x_load rfl Try.isAgg3 (hst.bc1 rfl))) (pk_cons rfl (yi_run rfl (fun w hst => x_field rfl Try.underlying43 rfl Try.sizeOf3 rfl)) (pk_cons rfl (yi_run rfl (fun w hst => x_load rfl Try.isAgg27 (hst.bc1 rfl))) (pk_cons rfl (yi_run rfl (fun w hst => x_field rfl Try.underlying43 rfl Try.sizeOf27 rfl)) (pk_cons rfl (yi_run rfl (fun w hst => x_load rfl Try.isAgg41 (hst.bc1 rfl))) (pk_cons rfl (yi_run rfl (fun w hst => x_field rfl Try.underlying43 rfl Try.sizeOf41 rfl)) (pk_cons rfl (yi_run rfl (fun w hst => x_load rfl Try.isAgg41 (hst.bc1 rfl))) (pk_cons rfl (yi_run rfl (fun w hst => x_field rfl Try.underlying43 rfl Try.sizeOf41 rfl)) (pk_cons rfl (yi_run rfl (fun w hst => by kernel_rfl)) (pk_cons rfl (yi_run rfl (fun w hst => x_load rfl Try.isAgg3 (hst.bc1 rfl))) (pk_cons rfl (yi_run rfl (fun w hst => x_field rfl Try.underlying43 rfl Try.sizeOf3 rfl)) (pk_cons rfl (yi_run rfl (fun w hst => by kernel_rfl)) (pk_cons rfl (yi_run rfl (fun w hst => x_load rfl Try.isAgg3 (hst.bc1 rfl))) (pk_cons rfl (yi_run rfl (fun w hst => x_field rfl Try.underlying43 rfl Try.sizeOf3 rfl)) pk_nil))))))))))))))) ?_
  refine ws_e1 7 (by kernel_rfl) ?_
  refine nxe [11, 14, 15, 18, 19, 22, 26] (by kernel_rfl) rfl rfl ?_
  clear hst
  intro w hst
  obtain ⟨t350, ht351, hm⟩ := bind_some hm
  refine we_call rfl (x_call Try.call27 rfl (vs := [p0, .int .u64 (IntKind.u64.wrap a1.From), .int .i64 (1:Int)]) rfl) ?_
  refine (octet_Writer_Num_ref hst.to1 ht351).mono ?_
  rintro _ w352 ⟨rfl, hst⟩
  refine ⟨_, rfl, ?_⟩
  replace hst := hst.of1
  refine ws_next (pend' := [(25, .int .u64 (IntKind.u64.wrap a1.Quota)), (24, .int .i64 a1.Quota), (23, .pointer (some ⟨b340, 6, none⟩)), (21, .int .u64 a1.Authority), (20, .pointer (some ⟨b340, 5, none⟩)), (17, .float .f64 a1.Hi), (16, .pointer (some ⟨b340, 4, none⟩)), (13, .float .f64 a1.Lo), (12, .pointer (some ⟨b340, 3, none⟩)), (10, .int .u64 (IntKind.u64.wrap a1.To)), (9, .int .i64 a1.To), (8, .pointer (some ⟨b340, 2, none⟩))]) hst (by kernel_rfl) (pk_cons rfl (yi_run rfl (fun w hst => by kernel_rfl)) (pk_cons rfl (yi_run rfl (fun w hst => x_load rfl Try.isAgg3 (hst.bc1 rfl))) (pk_cons rfl (yi_run rfl (fun w hst => x_field rfl Try.underlying43 rfl Try.sizeOf3 rfl)) (pk_cons rfl (yi_run rfl (fun w hst => x_load rfl Try.isAgg27 (hst.bc1 rfl))) (pk_cons rfl (yi_run rfl (fun w hst => x_field rfl Try.underlying43 rfl Try.sizeOf27 rfl)) (pk_cons rfl (yi_run rfl (fun w hst => x_load rfl Try.isAgg41 (hst.bc1 rfl))) (pk_cons rfl (yi_run rfl (fun w hst => x_field rfl Try.underlying43 rfl Try.sizeOf41 rfl)) (pk_cons rfl (yi_run rfl (fun w hst => x_load rfl Try.isAgg41 (hst.bc1 rfl))) (pk_cons rfl (yi_run rfl (fun w hst => x_field rfl Try.underlying43 rfl Try.sizeOf41 rfl)) (pk_cons rfl (yi_run rfl (fun w hst => by kernel_rfl)) (pk_cons rfl (yi_run rfl (fun w hst => x_load rfl Try.isAgg3 (hst.bc1 rfl))) (pk_cons rfl (yi_run rfl (fun w hst => x_field rfl Try.underlying43 rfl Try.sizeOf3 rfl)) pk_nil)))))))))))) ?_
  refine ws_e1 11 (by kernel_rfl) ?_
  refine nxe [14, 15, 18, 19, 22, 26] (by kernel_rfl) rfl rfl ?_
  clear hst
  intro w hst
  obtain ⟨t355, ht356, hm⟩ := bind_some hm
  refine we_call rfl (x_call Try.call27 rfl (vs := [p0, .int .u64 (IntKind.u64.wrap a1.To), .int .i64 (1:Int)]) rfl) ?_
  refine (octet_Writer_Num_ref hst.to1 ht356).mono ?_
  rintro _ w357 ⟨rfl, hst⟩
  refine ⟨_, rfl, ?_⟩
  replace hst := hst.of1
  refine ws_next (pend' := [(25, .int .u64 (IntKind.u64.wrap a1.Quota)), (24, .int .i64 a1.Quota), (23, .pointer (some ⟨b340, 6, none⟩)), (21, .int .u64 a1.Authority), (20, .pointer (some ⟨b340, 5, none⟩)), (17, .float .f64 a1.Hi), (16, .pointer (some ⟨b340, 4, none⟩)), (13, .float .f64 a1.Lo), (12, .pointer (some ⟨b340, 3, none⟩))]) hst (by kernel_rfl) (pk_cons rfl (yi_run rfl (fun w hst => by kernel_rfl)) (pk_cons rfl (yi_run rfl (fun w hst => x_load rfl Try.isAgg3 (hst.bc1 rfl))) (pk_cons rfl (yi_run rfl (fun w hst => x_field rfl Try.underlying43 rfl Try.sizeOf3 rfl)) (pk_cons rfl (yi_run rfl (fun w hst => x_load rfl Try.isAgg27 (hst.bc1 rfl))) (pk_cons rfl (yi_run rfl (fun w hst => x_field rfl Try.underlying43 rfl Try.sizeOf27 rfl)) (pk_cons rfl (yi_run rfl (fun w hst => x_load rfl Try.isAgg41 (hst.bc1 rfl))) (pk_cons rfl (yi_run rfl (fun w hst => x_field rfl Try.underlying43 rfl Try.sizeOf41 rfl)) (pk_cons rfl (yi_run rfl (fun w hst => x_load rfl Try.isAgg41 (hst.bc1 rfl))) (pk_cons rfl (yi_run rfl (fun w hst => x_field rfl Try.underlying43 rfl Try.sizeOf41 rfl)) pk_nil))))))))) ?_
  refine ws_e1 14 (by kernel_rfl) ?_
  refine nxe [15, 18, 19, 22, 26] (by kernel_rfl) rfl rfl ?_
  clear hst
  intro w hst
  obtain ⟨t360, ht361, hm⟩ := bind_some hm
  refine we_call rfl (x_call Try.call39 rfl (vs := [.float .f64 a1.Lo]) rfl) ?_
  refine (number_Rank_ref hst.to0 ht361).mono ?_
  rintro _ w362 ⟨rfl, hst⟩
  refine ⟨_, rfl, ?_⟩
  replace hst := hst.of0
  refine ws_next (pend' := [(25, .int .u64 (IntKind.u64.wrap a1.Quota)), (24, .int .i64 a1.Quota), (23, .pointer (some ⟨b340, 6, none⟩)), (21, .int .u64 a1.Authority), (20, .pointer (some ⟨b340, 5, none⟩)), (17, .float .f64 a1.Hi), (16, .pointer (some ⟨b340, 4, none⟩))]) hst (by kernel_rfl) (pk_cons rfl (yi_run rfl (fun w hst => by kernel_rfl)) (pk_cons rfl (yi_run rfl (fun w hst => x_load rfl Try.isAgg3 (hst.bc1 rfl))) (pk_cons rfl (yi_run rfl (fun w hst => x_field rfl Try.underlying43 rfl Try.sizeOf3 rfl)) (pk_cons rfl (yi_run rfl (fun w hst => x_load rfl Try.isAgg27 (hst.bc1 rfl))) (pk_cons rfl (yi_run rfl (fun w hst => x_field rfl Try.underlying43 rfl Try.sizeOf27 rfl)) (pk_cons rfl (yi_run rfl (fun w hst => x_load rfl Try.isAgg41 (hst.bc1 rfl))) (pk_cons rfl (yi_run rfl (fun w hst => x_field rfl Try.underlying43 rfl Try.sizeOf41 rfl)) pk_nil))))))) ?_
  refine ws_e1 15 (by kernel_rfl) ?_
  refine nxe [18, 19, 22, 26] (by kernel_rfl) rfl rfl ?_
  clear hst
  intro w hst
  obtain ⟨t365, ht366, hm⟩ := bind_some hm
  refine we_call rfl (x_call Try.call27 rfl (vs := [p0, .int .u64 t360, .int .i64 (8:Int)]) rfl) ?_
  refine (octet_Writer_Num_ref hst.to1 ht366).mono ?_
  rintro _ w367 ⟨rfl, hst⟩
  refine ⟨_, rfl, ?_⟩
  replace hst := hst.of1
  refine ws_next (pend' := [(25, .int .u64 (IntKind.u64.wrap a1.Quota)), (24, .int .i64 a1.Quota), (23, .pointer (some ⟨b340, 6, none⟩)), (21, .int .u64 a1.Authority), (20, .pointer (some ⟨b340, 5, none⟩)), (17, .float .f64 a1.Hi), (16, .pointer (some ⟨b340, 4, none⟩))]) hst (by kernel_rfl) (pk_cons rfl (yi_run rfl (fun w hst => by kernel_rfl)) (pk_cons rfl (yi_run rfl (fun w hst => x_load rfl Try.isAgg3 (hst.bc1 rfl))) (pk_cons rfl (yi_run rfl (fun w hst => x_field rfl Try.underlying43 rfl Try.sizeOf3 rfl)) (pk_cons rfl (yi_run rfl (fun w hst => x_load rfl Try.isAgg27 (hst.bc1 rfl))) (pk_cons rfl (yi_run rfl (fun w hst => x_field rfl Try.underlying43 rfl Try.sizeOf27 rfl)) (pk_cons rfl (yi_run rfl (fun w hst => x_load rfl Try.isAgg41 (hst.bc1 rfl))) (pk_cons rfl (yi_run rfl (fun w hst => x_field rfl Try.underlying43 rfl Try.sizeOf41 rfl)) pk_nil))))))) ?_
  refine ws_e1 18 (by kernel_rfl) ?_
  refine nxe [19, 22, 26] (by kernel_rfl) rfl rfl ?_
  clear hst
  intro w hst
  obtain ⟨t370, ht371, hm⟩ := bind_some hm
  refine we_call rfl (x_call Try.call39 rfl (vs := [.float .f64 a1.Hi]) rfl) ?_
  refine (number_Rank_ref hst.to0 ht371).mono ?_
  rintro _ w372 ⟨rfl, hst⟩
  refine ⟨_, rfl, ?_⟩
  replace hst := hst.of0
  refine ws_next (pend' := [(25, .int .u64 (IntKind.u64.wrap a1.Quota)), (24, .int .i64 a1.Quota), (23, .pointer (some ⟨b340, 6, none⟩)), (21, .int .u64 a1.Authority), (20, .pointer (some ⟨b340, 5, none⟩))]) hst (by kernel_rfl) (pk_cons rfl (yi_run rfl (fun w hst => by kernel_rfl)) (pk_cons rfl (yi_run rfl (fun w hst => x_load rfl Try.isAgg3 (hst.bc1 rfl))) (pk_cons rfl (yi_run rfl (fun w hst => x_field rfl Try.underlying43 rfl Try.sizeOf3 rfl)) (pk_cons rfl (yi_run rfl (fun w hst => x_load rfl Try.isAgg27 (hst.bc1 rfl))) (pk_cons rfl (yi_run rfl (fun w hst => x_field rfl Try.underlying43 rfl Try.sizeOf27 rfl)) pk_nil))))) ?_
  refine ws_e1 19 (by kernel_rfl) ?_
  refine nxe [22, 26] (by kernel_rfl) rfl rfl ?_
  clear hst
  intro w hst
  obtain ⟨t375, ht376, hm⟩ := bind_some hm
  refine we_call rfl (x_call Try.call27 rfl (vs := [p0, .int .u64 t370, .int .i64 (8:Int)]) rfl) ?_
  refine (octet_Writer_Num_ref hst.to1 ht376).mono ?_
  rintro _ w377 ⟨rfl, hst⟩
  refine ⟨_, rfl, ?_⟩
  replace hst := hst.of1
  refine ws_next (pend' := [(25, .int .u64 (IntKind.u64.wrap a1.Quota)), (24, .int .i64 a1.Quota), (23, .pointer (some ⟨b340, 6, none⟩)), (21, .int .u64 a1.Authority), (20, .pointer (some ⟨b340, 5, none⟩))]) hst (by kernel_rfl) (pk_cons rfl (yi_run rfl (fun w hst => by kernel_rfl)) (pk_cons rfl (yi_run rfl (fun w hst => x_load rfl Try.isAgg3 (hst.bc1 rfl))) (pk_cons rfl (yi_run rfl (fun w hst => x_field rfl Try.underlying43 rfl Try.sizeOf3 rfl)) (pk_cons rfl (yi_run rfl (fun w hst => x_load rfl Try.isAgg27 (hst.bc1 rfl))) (pk_cons rfl (yi_run rfl (fun w hst => x_field rfl Try.underlying43 rfl Try.sizeOf27 rfl)) pk_nil))))) ?_
  refine ws_e1 22 (by kernel_rfl) ?_
  refine nxe [26] (by kernel_rfl) rfl rfl ?_
  clear hst
  intro w hst
  obtain ⟨t380, ht381, hm⟩ := bind_some hm
  refine we_call rfl (x_call Try.call27 rfl (vs := [p0, .int .u64 a1.Authority, .int .i64 (8:Int)]) rfl) ?_
  refine (octet_Writer_Num_ref hst.to1 ht381).mono ?_
  rintro _ w382 ⟨rfl, hst⟩
  refine ⟨_, rfl, ?_⟩
  replace hst := hst.of1
  refine ws_next (pend' := [(25, .int .u64 (IntKind.u64.wrap a1.Quota)), (24, .int .i64 a1.Quota), (23, .pointer (some ⟨b340, 6, none⟩))]) hst (by kernel_rfl) (pk_cons rfl (yi_run rfl (fun w hst => by kernel_rfl)) (pk_cons rfl (yi_run rfl (fun w hst => x_load rfl Try.isAgg3 (hst.bc1 rfl))) (pk_cons rfl (yi_run rfl (fun w hst => x_field rfl Try.underlying43 rfl Try.sizeOf3 rfl)) pk_nil))) ?_
  refine ws_e1 26 (by kernel_rfl) ?_
  refine nxe [] (by kernel_rfl) rfl rfl ?_
  clear hst
  intro w hst
  obtain ⟨t385, ht386, hm⟩ := bind_some hm
  refine we_call rfl (x_call Try.call27 rfl (vs := [p0, .int .u64 (IntKind.u64.wrap a1.Quota), .int .i64 (4:Int)]) rfl) ?_
  refine (octet_Writer_Num_ref hst.to1 ht386).mono ?_
  rintro _ w387 ⟨rfl, hst⟩
  refine ⟨_, rfl, ?_⟩
  replace hst := hst.of1
  refine ws_next (pend' := []) hst (by kernel_rfl) pk_nil ?_
  refine ws_nil ?_
  intro w hst
  obtain rfl := some_inj hm
  refine post_end (vs := []) Try.results31 rvs_nil ?_
  exact ⟨rfl, hst.keep1⟩

theorem command_Encode_ref {w0 w : World} {I : HL} {R : SP} {a0 : api_Command} {r0_0 : Value} {r0_1 : Value} {r0_2 : Value} {r0_3 : Value} {r0_4 : Value} {r0_5 : Value} {r0_6 : Value} {r0_7 : Value} (f0_0 : Rd tyF64 R I r0_0 a0.Hold.Gets) (f0_1 : Rd tyF2 R I r0_1 a0.Hold.Scans) (f0_2 : Rd tyF64 R I r0_2 a0.Hold.Puts) (f0_3 : Rd (tyInt .u8) R I r0_3 a0.Hold.Data) (f0_4 : Rd ty_api_Write R I r0_4 a0.Writes) (f0_5 : Rd ty_api_Got R I r0_5 a0.R.Gots) (f0_6 : Rd (tySl ty_api_Pair) R I r0_6 a0.R.Scans) (f0_7 : Rd ty_api_Part R I r0_7 a0.Parts) (hst : St w0 w I [] R) {r : ((List Int))} (hm : command_Encode a0 = some r) :
    Calls Try.prog 10 #[.agg #[.int .u8 a0.Kind, .int .u64 a0.ID.Session, .int .u64 a0.ID.Seq, .int .u64 a0.Epoch, .int .u64 a0.Index, .int .i64 a0.E, .int .u64 a0.Hold.ID.Session, .int .u64 a0.Hold.ID.Seq, .int .u64 a0.Hold.Epoch, r0_0, r0_1, r0_2, r0_3, r0_4, .int .i64 a0.R.E, .int .u64 a0.R.Epoch, .int .u64 a0.R.Index, r0_5, r0_6, .int .u64 a0.Shards, r0_7, .int .u64 a0.Rule.ID, .int .i64 a0.Rule.From, .int .i64 a0.Rule.To, .float .f64 a0.Rule.Lo, .float .f64 a0.Rule.Hi, .int .u64 a0.Rule.Authority, .int .i64 a0.Rule.Quota, .bool a0.On]] w fun e w' => ∃ (q0_0 : Value), e = .returned (q0_0) ∧ St w0 w' I [ownS (tyInt .u8) q0_0 r] R := by
  unfold command_Encode at hm
  refine calls_start (args := [.agg #[.int .u8 a0.Kind, .int .u64 a0.ID.Session, .int .u64 a0.ID.Seq, .int .u64 a0.Epoch, .int .u64 a0.Index, .int .i64 a0.E, .int .u64 a0.Hold.ID.Session, .int .u64 a0.Hold.ID.Seq, .int .u64 a0.Hold.Epoch, r0_0, r0_1, r0_2, r0_3, r0_4, .int .i64 a0.R.E, .int .u64 a0.R.Epoch, .int .u64 a0.R.Index, r0_5, r0_6, .int .u64 a0.Shards, r0_7, .int .u64 a0.Rule.ID, .int .i64 a0.Rule.From, .int .i64 a0.Rule.To, .float .f64 a0.Rule.Lo, .float .f64 a0.Rule.Hi, .int .u64 a0.Rule.Authority, .int .i64 a0.Rule.Quota, .bool a0.On]]) Try.func10 rfl Try.ntmps10 (Nat.le_of_ble_eq_true rfl) ?_
  refine wp_seq ?_
  refine wp_region_lit ?_
  obtain ⟨b363, w364, ew365, eb366, hst⟩ := hst.box [.int .u8 a0.Kind, .int .u64 a0.ID.Session, .int .u64 a0.ID.Seq, .int .u64 a0.Epoch, .int .u64 a0.Index, .int .i64 a0.E, .int .u64 a0.Hold.ID.Session, .int .u64 a0.Hold.ID.Seq, .int .u64 a0.Hold.Epoch, r0_0, r0_1, r0_2, r0_3, r0_4, .int .i64 a0.R.E, .int .u64 a0.R.Epoch, .int .u64 a0.R.Index, r0_5, r0_6, .int .u64 a0.Shards, r0_7, .int .u64 a0.Rule.ID, .int .i64 a0.Rule.From, .int .i64 a0.Rule.To, .float .f64 a0.Rule.Lo, .float .f64 a0.Rule.Hi, .int .u64 a0.Rule.Authority, .int .i64 a0.Rule.Quota, .bool a0.On] 45
  refine wl_run (v := .pointer (some ⟨b363, 0, none⟩)) (w' := w364) rfl rfl (x_al (by kernel_rfl) ew365 eb366) ?_
  refine wl_val (v := (.slice none 0 0)) rfl rfl rfl ?_
  refine wl_nil ?_
  refine then_n ?_
  refine wp_seq ?_
  refine wp_region_lit ?_
  refine wl_val (v := .agg #[(.slice none 0 0)]) rfl rfl (by kernel_rfl) ?_
  obtain ⟨b370, w371, ew372, eb373, hst⟩ := hst.box [(.slice none 0 0)] 58
  refine wl_run (v := .pointer (some ⟨b370, 0, none⟩)) (w' := w371) rfl rfl (x_al (by kernel_rfl) ew372 eb373) ?_
  obtain ⟨b376, w377, ew378, eb379, hst⟩ := hst.box [.pointer none] 56
  refine wl_run (v := .pointer (some ⟨b376, 0, none⟩)) (w' := w377) rfl rfl (x_al (by kernel_rfl) ew378 eb379) ?_
  obtain ⟨w381, hr382, hst⟩ := hst.boxStore (P := Try.prog) (t := 56) (cs' := [.pointer (some ⟨b370, 0, none⟩)]) 0 (.pointer (some ⟨b370, 0, none⟩)) Try.sizeOf56 (Nat.le_of_ble_eq_true rfl) (ones_cons rfl ones_nil) (by kernel_rfl)
  refine wl_unit rfl rfl (x_unit hr382) ?_
  refine wl_nil ?_
  refine then_n ?_
  refine wp_seq ?_
  refine wp_region_lit ?_
  refine wl_val (v := .pointer (some ⟨b370, 0, none⟩)) rfl rfl (x_load rfl Try.isAgg56 (hst.bc0 rfl)) ?_
  refine wl_val (v := .pointer (some ⟨b363, 0, none⟩)) rfl rfl (x_field rfl Try.underlying45 rfl Try.sizeOf5 rfl) ?_
  refine wl_val (v := .int .u8 a0.Kind) rfl rfl (x_load rfl Try.isAgg5 (hst.bc2 rfl)) ?_
  refine wl_val (v := .int .u64 (IntKind.u64.wrap a0.Kind)) rfl rfl (by kernel_rfl) ?_
  replace hst := hst.own_nil (tyInt .u8)
  replace hst := hst.pull2
  replace hst := at_octet_Writer_close (pv := .pointer (some ⟨b370, 0, none⟩)) (x := ({ p := [] } : octet_Writer)) hst rfl
  obtain ⟨t383, ht384, hm⟩ := bind_some hm
  refine wl_call rfl rfl (x_call Try.call27 rfl (vs := [.pointer (some ⟨b370, 0, none⟩), .int .u64 (IntKind.u64.wrap a0.Kind), .int .i64 (1:Int)]) rfl) ?_
  refine (octet_Writer_Num_ref hst.to1 ht384).mono ?_
  rintro _ w385 ⟨rfl, hst⟩
  refine ⟨_, rfl, ?_⟩
  replace hst := hst.of1
  refine wl_nil ?_
  refine then_n ?_
  refine wp_seq ?_
  refine wp_region_lit ?_
  refine wl_val (v := .func (.func 28) #[] #[.pointer (some ⟨b376, 0, none⟩), .pointer (some ⟨b363, 0, none⟩)]) rfl rfl (by kernel_rfl) ?_
  refine wl_val (v := .func (.func 28) #[] #[.pointer (some ⟨b376, 0, none⟩), .pointer (some ⟨b363, 0, none⟩)]) rfl rfl rfl ?_
  refine wl_nil ?_
  refine then_n ?_
  refine wp_seq ?_
  refine wp_seq ?_
  refine wp_region_lit ?_
  refine wl_val (v := .pointer (some ⟨b363, 0, none⟩)) rfl rfl (x_field rfl Try.underlying45 rfl Try.sizeOf5 rfl) ?_
  refine wl_val (v := .int .u8 a0.Kind) rfl rfl (x_load rfl Try.isAgg5 (hst.bc2 rfl)) ?_
  refine wl_nil ?_
  refine then_n ?_
  refine wp_block ?_
  refine wp_seq ?_
  refine wp_region_lit ?_
  refine wl_val (v := .bool (a0.Kind == (1:Int))) rfl rfl rfl ?_
  refine wl_val (v := .bool (a0.Kind == (1:Int))) rfl rfl rfl ?_
  refine wl_nil ?_
  refine then_n ?_
  refine bsplit (a0.Kind == (1:Int)) (fun hc388 => ?_) (fun hc388 => ?_)
  · skip
    replace hm := bif_t hc388 hm
    refine wp_ift (congrArg Value.bool hc388) ?_
    refine wp_region_lit ?_
    refine wl_val (v := .pointer (some ⟨b370, 0, none⟩)) rfl rfl (x_load rfl Try.isAgg56 (hst.bc1 rfl)) ?_
    refine wl_val (v := .pointer (some ⟨b363, 3, none⟩)) rfl rfl (x_field rfl Try.underlying45 rfl Try.sizeOf27 rfl) ?_
    refine wl_val (v := .int .u64 a0.Epoch) rfl rfl (x_load rfl Try.isAgg27 (hst.bc2 rfl)) ?_
    obtain ⟨t389, ht390, hm⟩ := bind_some hm
    refine wl_call rfl rfl (x_call Try.call27 rfl (vs := [.pointer (some ⟨b370, 0, none⟩), .int .u64 a0.Epoch, .int .i64 (8:Int)]) rfl) ?_
    refine (octet_Writer_Num_ref hst.to1 ht390).mono ?_
    rintro _ w391 ⟨rfl, hst⟩
    refine ⟨_, rfl, ?_⟩
    replace hst := hst.of1
    refine wl_nil ?_
    refine blk_n ?_
    refine then_n ?_
    refine wp_seq ?_
    refine wp_region_lit ?_
    refine wl_val (v := .pointer (some ⟨b370, 0, none⟩)) rfl rfl (x_load rfl Try.isAgg56 (hst.bc1 rfl)) ?_
    obtain ⟨t394, ht395, hm⟩ := bind_some hm
    refine wl_call rfl rfl (x_call Try.call14 rfl (vs := [.pointer (some ⟨b370, 0, none⟩)]) rfl) ?_
    refine (octet_Writer_Done_ref hst.to1 ht395).mono ?_
    rintro _ w396 ⟨v399, rfl, hst⟩
    refine ⟨_, rfl, ?_⟩
    replace hst := hst.of1
    refine wl_val (v := v399) rfl rfl rfl ?_
    refine wl_nil ?_
    refine then_n ?_
    refine wp_ret ?_
    obtain rfl := some_inj hm
    refine post_ret (vs := [v399]) Try.results10 (rvs_cons (rv_tmp rfl) rvs_nil) ?_
    exact ⟨v399, rfl, hst.keep1⟩
  · skip
    replace hm := bif_f hc388 hm
    refine wp_iff (congrArg Value.bool hc388) ?_
    refine wp_seq ?_
    refine wp_region_lit ?_
    refine wl_val (v := .bool (a0.Kind == (2:Int))) rfl rfl rfl ?_
    refine wl_val (v := .bool (a0.Kind == (2:Int))) rfl rfl rfl ?_
    refine wl_nil ?_
    refine then_n ?_
    refine bsplit (a0.Kind == (2:Int)) (fun hc401 => ?_) (fun hc401 => ?_)
    · skip
      replace hm := bif_t hc401 hm
      refine wp_ift (congrArg Value.bool hc401) ?_
      refine wp_region_lit ?_
      refine wl_val (v := .pointer (some ⟨b370, 0, none⟩)) rfl rfl (x_load rfl Try.isAgg56 (hst.bc1 rfl)) ?_
      refine wl_val (v := .pointer (some ⟨b363, 6, none⟩)) rfl rfl (x_field rfl Try.underlying45 rfl Try.sizeOf34 rfl) ?_
      refine wl_val (v := .agg #[.int .u64 a0.Hold.ID.Session, .int .u64 a0.Hold.ID.Seq, .int .u64 a0.Hold.Epoch, r0_0, r0_1, r0_2, r0_3]) rfl rfl (x_loadN (cs := [.int .u64 a0.Hold.ID.Session, .int .u64 a0.Hold.ID.Seq, .int .u64 a0.Hold.Epoch, r0_0, r0_1, r0_2, r0_3]) rfl Try.isAgg34 Try.sizeOf34 (hst.bcs2 6 rfl)) ?_
      obtain ⟨t402, ht403, hm⟩ := bind_some hm
      refine wl_call rfl rfl (x_call Try.call29 rfl (vs := [.pointer (some ⟨b370, 0, none⟩), .agg #[.int .u64 a0.Hold.ID.Session, .int .u64 a0.Hold.ID.Seq, .int .u64 a0.Hold.Epoch, r0_0, r0_1, r0_2, r0_3]]) rfl) ?_
      refine (locks_Lay_ref (f0_0.mono (rd_weak _)) (f0_1.mono (rd_weak _)) (f0_2.mono (rd_weak _)) (f0_3.mono (rd_weak _)) hst.to1 ht403).mono ?_
      rintro _ w404 ⟨rfl, hst⟩
      refine ⟨_, rfl, ?_⟩
      replace hst := hst.of1
      refine wl_nil ?_
      refine blk_n ?_
      refine then_n ?_
      refine wp_seq ?_
      refine wp_region_lit ?_
      refine wl_val (v := .pointer (some ⟨b370, 0, none⟩)) rfl rfl (x_load rfl Try.isAgg56 (hst.bc1 rfl)) ?_
      obtain ⟨t407, ht408, hm⟩ := bind_some hm
      refine wl_call rfl rfl (x_call Try.call14 rfl (vs := [.pointer (some ⟨b370, 0, none⟩)]) rfl) ?_
      refine (octet_Writer_Done_ref hst.to1 ht408).mono ?_
      rintro _ w409 ⟨v412, rfl, hst⟩
      refine ⟨_, rfl, ?_⟩
      replace hst := hst.of1
      refine wl_val (v := v412) rfl rfl rfl ?_
      refine wl_nil ?_
      refine then_n ?_
      refine wp_ret ?_
      obtain rfl := some_inj hm
      refine post_ret (vs := [v412]) Try.results10 (rvs_cons (rv_tmp rfl) rvs_nil) ?_
      exact ⟨v412, rfl, hst.keep1⟩
    · skip
      replace hm := bif_f hc401 hm
      refine wp_iff (congrArg Value.bool hc401) ?_
      refine wp_seq ?_
      refine wp_region_lit ?_
      refine wl_val (v := .bool (a0.Kind == (3:Int))) rfl rfl rfl ?_
      refine wl_val (v := .bool (a0.Kind == (3:Int))) rfl rfl rfl ?_
      refine wl_nil ?_
      refine then_n ?_
      refine bsplit (a0.Kind == (3:Int)) (fun hc414 => ?_) (fun hc414 => ?_)
      · skip
        replace hm := bif_t hc414 hm
        refine wp_ift (congrArg Value.bool hc414) ?_
        refine wp_seq ?_
        refine wp_region_lit ?_
        refine wl_val (v := .func (.func 28) #[] #[.pointer (some ⟨b376, 0, none⟩), .pointer (some ⟨b363, 0, none⟩)]) rfl rfl rfl ?_
        obtain ⟨y427, hq428, hm⟩ := bind_some hm
        refine wl_call rfl rfl (x_callv Try.call28 (caps := [.pointer (some ⟨b376, 0, none⟩), .pointer (some ⟨b363, 0, none⟩)]) rfl (vs := []) rfl) ?_
        refine Calls.mono (show Calls Try.prog 28 #[.pointer (some ⟨b376, 0, none⟩), .pointer (some ⟨b363, 0, none⟩)] _ (fun e w' => ∃ (z425 : octet_Writer), y427 = z425 ∧ e = .returned (.tuple #[]) ∧ St w0 w' I [cells b363 [.int .u8 a0.Kind, .int .u64 a0.ID.Session, .int .u64 a0.ID.Seq, .int .u64 a0.Epoch, .int .u64 a0.Index, .int .i64 a0.E, .int .u64 a0.Hold.ID.Session, .int .u64 a0.Hold.ID.Seq, .int .u64 a0.Hold.Epoch, r0_0, r0_1, r0_2, r0_3, r0_4, .int .i64 a0.R.E, .int .u64 a0.R.Epoch, .int .u64 a0.R.Index, r0_5, r0_6, .int .u64 a0.Shards, r0_7, .int .u64 a0.Rule.ID, .int .i64 a0.Rule.From, .int .i64 a0.Rule.To, .float .f64 a0.Rule.Lo, .float .f64 a0.Rule.Hi, .int .u64 a0.Rule.Authority, .int .i64 a0.Rule.Quota, .bool a0.On], at_octet_Writer (.pointer (some ⟨b370, 0, none⟩)) z425, cells b376 [.pointer (some ⟨b370, 0, none⟩)]] R) from ?_) ?_
        · skip
          clear hm; have hm := hq428
          refine calls_start (args := [.pointer (some ⟨b376, 0, none⟩), .pointer (some ⟨b363, 0, none⟩)]) Try.func28 rfl Try.ntmps28 (Nat.le_of_ble_eq_true rfl) ?_
          refine wp_region_St hst 9 [0, 1, 2, 3, 4, 5, 6, 7, 8] [0, 0, 2, 6, 15, 0, 32, 96, 255] [] rfl (by kernel_rfl) (by kernel_rfl) Try.mixed (by kernel_rfl) ?_
          refine ws_q (v := .pointer (some ⟨b370, 0, none⟩)) 0 [1, 2, 3, 4, 5, 6, 7, 8] (by kernel_rfl) rfl rfl (yi_run rfl (fun w hst => x_load rfl Try.isAgg56 (hst.bc1 rfl))) ?_
          refine ws_q (v := .pointer (some ⟨b363, 1, none⟩)) 1 [2, 3, 4, 5, 6, 7, 8] (by kernel_rfl) rfl rfl (yi_run rfl (fun w hst => x_field rfl Try.underlying45 rfl Try.sizeOf29 rfl)) ?_
          refine ws_q (v := .pointer (some ⟨b363, 1, none⟩)) 2 [3, 4, 5, 6, 7, 8] (by kernel_rfl) rfl rfl (yi_run rfl (fun w hst => x_field rfl Try.underlying29 rfl Try.sizeOf27 rfl)) ?_
          refine ws_q (v := .int .u64 a0.ID.Session) 3 [4, 5, 6, 7, 8] (by kernel_rfl) rfl rfl (yi_run rfl (fun w hst => x_load rfl Try.isAgg27 (hst.bc2 rfl))) ?_
          refine ws_q (v := .pointer (some ⟨b363, 1, none⟩)) 5 [4, 6, 7, 8] (by kernel_rfl) rfl rfl (yi_run rfl (fun w hst => x_field rfl Try.underlying45 rfl Try.sizeOf29 rfl)) ?_
          refine ws_q (v := .pointer (some ⟨b363, 2, none⟩)) 6 [4, 7, 8] (by kernel_rfl) rfl rfl (yi_run rfl (fun w hst => x_field rfl Try.underlying29 rfl Try.sizeOf27 rfl)) ?_
          refine ws_q (v := .int .u64 a0.ID.Seq) 7 [4, 8] (by kernel_rfl) rfl rfl (yi_run rfl (fun w hst => x_load rfl Try.isAgg27 (hst.bc2 rfl))) ?_
          refine ws_e1 4 (by kernel_rfl) ?_
          refine nxe [8] (by kernel_rfl) rfl rfl ?_
          clear hst
          intro w hst
          obtain ⟨t415, ht416, hm⟩ := bind_some hm
          refine we_call rfl (x_call Try.call27 rfl (vs := [.pointer (some ⟨b370, 0, none⟩), .int .u64 a0.ID.Session, .int .i64 (8:Int)]) rfl) ?_
          refine (octet_Writer_Num_ref hst.to1 ht416).mono ?_
          rintro _ w417 ⟨rfl, hst⟩
          refine ⟨_, rfl, ?_⟩
          replace hst := hst.of1
          refine ws_next (pend' := [(7, .int .u64 a0.ID.Seq), (6, .pointer (some ⟨b363, 2, none⟩)), (5, .pointer (some ⟨b363, 1, none⟩))]) hst (by kernel_rfl) (pk_cons rfl (yi_run rfl (fun w hst => x_load rfl Try.isAgg27 (hst.bc2 rfl))) (pk_cons rfl (yi_run rfl (fun w hst => x_field rfl Try.underlying29 rfl Try.sizeOf27 rfl)) (pk_cons rfl (yi_run rfl (fun w hst => x_field rfl Try.underlying45 rfl Try.sizeOf29 rfl)) pk_nil))) ?_
          refine ws_e1 8 (by kernel_rfl) ?_
          refine nxe [] (by kernel_rfl) rfl rfl ?_
          clear hst
          intro w hst
          obtain ⟨t420, ht421, hm⟩ := bind_some hm
          refine we_call rfl (x_call Try.call27 rfl (vs := [.pointer (some ⟨b370, 0, none⟩), .int .u64 a0.ID.Seq, .int .i64 (8:Int)]) rfl) ?_
          refine (octet_Writer_Num_ref hst.to1 ht421).mono ?_
          rintro _ w422 ⟨rfl, hst⟩
          refine ⟨_, rfl, ?_⟩
          replace hst := hst.of1
          refine ws_next (pend' := []) hst (by kernel_rfl) pk_nil ?_
          refine ws_nil ?_
          intro w hst
          refine post_end (vs := []) Try.results28 rvs_nil ?_
          replace hst := hst.pull1
          replace hst := hst.pull1
          replace hst := hst.pull2
          replace hst := hst.keep3
          obtain rfl := some_inj hm
          exact ⟨t420, rfl, rfl, hst⟩
        clear hst
        rintro _ w429 ⟨z425, rfl, rfl, hst⟩
        refine ⟨_, rfl, ?_⟩
        try dsimp only at hm
        refine wl_nil ?_
        refine then_n ?_
        refine wp_seq ?_
        refine wp_region_St hst 11 [0, 1, 2, 3, 4, 5, 6, 7, 8, 9, 10] [0, 0, 2, 6, 15, 0, 32, 127, 0, 256, 1023] [] rfl (by kernel_rfl) (by kernel_rfl) Try.mixed (by kernel_rfl) ?_
        refine ws_q (v := .pointer (some ⟨b370, 0, none⟩)) 0 [1, 2, 3, 4, 5, 6, 7, 8, 9, 10] (by kernel_rfl) rfl rfl (yi_run rfl (fun w hst => x_load rfl Try.isAgg56 (hst.bc2 rfl))) ?_
        refine ws_q (v := .pointer (some ⟨b363, 5, none⟩)) 1 [2, 3, 4, 5, 6, 7, 8, 9, 10] (by kernel_rfl) rfl rfl (yi_run rfl (fun w hst => x_field rfl Try.underlying45 rfl Try.sizeOf30 rfl)) ?_
        refine ws_q (v := .int .i64 a0.E) 2 [3, 4, 5, 6, 7, 8, 9, 10] (by kernel_rfl) rfl rfl (yi_run rfl (fun w hst => x_load rfl Try.isAgg30 (hst.bc0 rfl))) ?_
        refine ws_q (v := .int .u64 (IntKind.u64.wrap a0.E)) 3 [4, 5, 6, 7, 8, 9, 10] (by kernel_rfl) rfl rfl (yi_run rfl (fun w hst => by kernel_rfl)) ?_
        refine ws_q (v := .pointer (some ⟨b363, 3, none⟩)) 5 [4, 6, 7, 8, 9, 10] (by kernel_rfl) rfl rfl (yi_run rfl (fun w hst => x_field rfl Try.underlying45 rfl Try.sizeOf27 rfl)) ?_
        refine ws_q (v := .int .u64 a0.Epoch) 6 [4, 7, 8, 9, 10] (by kernel_rfl) rfl rfl (yi_run rfl (fun w hst => x_load rfl Try.isAgg27 (hst.bc0 rfl))) ?_
        refine ws_q (v := .pointer (some ⟨b363, 4, none⟩)) 8 [4, 7, 9, 10] (by kernel_rfl) rfl rfl (yi_run rfl (fun w hst => x_field rfl Try.underlying45 rfl Try.sizeOf27 rfl)) ?_
        refine ws_q (v := .int .u64 a0.Index) 9 [4, 7, 10] (by kernel_rfl) rfl rfl (yi_run rfl (fun w hst => x_load rfl Try.isAgg27 (hst.bc0 rfl))) ?_
        refine ws_e1 4 (by kernel_rfl) ?_
        refine nxe [7, 10] (by kernel_rfl) rfl rfl ?_
        clear hst
        intro w hst
        replace hst := hst.pull1
        obtain ⟨t430, ht431, hm⟩ := bind_some hm
        refine we_call rfl (x_call Try.call27 rfl (vs := [.pointer (some ⟨b370, 0, none⟩), .int .u64 (IntKind.u64.wrap a0.E), .int .i64 (1:Int)]) rfl) ?_
        refine (octet_Writer_Num_ref hst.to1 ht431).mono ?_
        rintro _ w432 ⟨rfl, hst⟩
        refine ⟨_, rfl, ?_⟩
        replace hst := hst.of1
        refine ws_next (pend' := [(9, .int .u64 a0.Index), (8, .pointer (some ⟨b363, 4, none⟩)), (6, .int .u64 a0.Epoch), (5, .pointer (some ⟨b363, 3, none⟩))]) hst (by kernel_rfl) (pk_cons rfl (yi_run rfl (fun w hst => x_load rfl Try.isAgg27 (hst.bc1 rfl))) (pk_cons rfl (yi_run rfl (fun w hst => x_field rfl Try.underlying45 rfl Try.sizeOf27 rfl)) (pk_cons rfl (yi_run rfl (fun w hst => x_load rfl Try.isAgg27 (hst.bc1 rfl))) (pk_cons rfl (yi_run rfl (fun w hst => x_field rfl Try.underlying45 rfl Try.sizeOf27 rfl)) pk_nil)))) ?_
        refine ws_e1 7 (by kernel_rfl) ?_
        refine nxe [10] (by kernel_rfl) rfl rfl ?_
        clear hst
        intro w hst
        obtain ⟨t435, ht436, hm⟩ := bind_some hm
        refine we_call rfl (x_call Try.call27 rfl (vs := [.pointer (some ⟨b370, 0, none⟩), .int .u64 a0.Epoch, .int .i64 (8:Int)]) rfl) ?_
        refine (octet_Writer_Num_ref hst.to1 ht436).mono ?_
        rintro _ w437 ⟨rfl, hst⟩
        refine ⟨_, rfl, ?_⟩
        replace hst := hst.of1
        refine ws_next (pend' := [(9, .int .u64 a0.Index), (8, .pointer (some ⟨b363, 4, none⟩))]) hst (by kernel_rfl) (pk_cons rfl (yi_run rfl (fun w hst => x_load rfl Try.isAgg27 (hst.bc1 rfl))) (pk_cons rfl (yi_run rfl (fun w hst => x_field rfl Try.underlying45 rfl Try.sizeOf27 rfl)) pk_nil)) ?_
        refine ws_e1 10 (by kernel_rfl) ?_
        refine nxe [] (by kernel_rfl) rfl rfl ?_
        clear hst
        intro w hst
        obtain ⟨t440, ht441, hm⟩ := bind_some hm
        refine we_call rfl (x_call Try.call27 rfl (vs := [.pointer (some ⟨b370, 0, none⟩), .int .u64 a0.Index, .int .i64 (8:Int)]) rfl) ?_
        refine (octet_Writer_Num_ref hst.to1 ht441).mono ?_
        rintro _ w442 ⟨rfl, hst⟩
        refine ⟨_, rfl, ?_⟩
        replace hst := hst.of1
        refine ws_next (pend' := []) hst (by kernel_rfl) pk_nil ?_
        refine ws_nil ?_
        intro w hst
        refine then_n ?_
        refine wp_region_lit ?_
        refine wl_val (v := .pointer (some ⟨b370, 0, none⟩)) rfl rfl (x_load rfl Try.isAgg56 (hst.bc2 rfl)) ?_
        refine wl_val (v := .pointer (some ⟨b363, 13, none⟩)) rfl rfl (x_field rfl Try.underlying45 rfl Try.sizeOf35 rfl) ?_
        refine wl_val (v := r0_4) rfl rfl (x_load rfl Try.isAgg35 (hst.bc1 rfl)) ?_
        obtain ⟨t445, ht446, hm⟩ := bind_some hm
        refine wl_call rfl rfl (x_call Try.call30 rfl (vs := [.pointer (some ⟨b370, 0, none⟩), r0_4]) rfl) ?_
        refine (command_writes_ref (f0_4.mono (rd_weak _)) hst.to1 ht446).mono ?_
        rintro _ w447 ⟨rfl, hst⟩
        refine ⟨_, rfl, ?_⟩
        replace hst := hst.of1
        refine wl_nil ?_
        refine blk_n ?_
        refine then_n ?_
        refine wp_seq ?_
        refine wp_region_lit ?_
        refine wl_val (v := .pointer (some ⟨b370, 0, none⟩)) rfl rfl (x_load rfl Try.isAgg56 (hst.bc2 rfl)) ?_
        obtain ⟨t450, ht451, hm⟩ := bind_some hm
        refine wl_call rfl rfl (x_call Try.call14 rfl (vs := [.pointer (some ⟨b370, 0, none⟩)]) rfl) ?_
        refine (octet_Writer_Done_ref hst.to1 ht451).mono ?_
        rintro _ w452 ⟨v455, rfl, hst⟩
        refine ⟨_, rfl, ?_⟩
        replace hst := hst.of1
        refine wl_val (v := v455) rfl rfl rfl ?_
        refine wl_nil ?_
        refine then_n ?_
        refine wp_ret ?_
        obtain rfl := some_inj hm
        refine post_ret (vs := [v455]) Try.results10 (rvs_cons (rv_tmp rfl) rvs_nil) ?_
        exact ⟨v455, rfl, hst.keep1⟩
      · skip
        replace hm := bif_f hc414 hm
        refine wp_iff (congrArg Value.bool hc414) ?_
        refine wp_seq ?_
        refine wp_region_lit ?_
        refine wl_val (v := .bool (a0.Kind == (4:Int))) rfl rfl rfl ?_
        refine wl_val (v := .bool (a0.Kind == (4:Int))) rfl rfl rfl ?_
        refine wl_nil ?_
        refine then_n ?_
        refine bsplit (a0.Kind == (4:Int)) (fun hc457 => ?_) (fun hc457 => ?_)
        · skip
          replace hm := bif_t hc457 hm
          refine wp_ift (congrArg Value.bool hc457) ?_
          refine wp_seq ?_
          refine wp_region_lit ?_
          refine wl_val (v := .func (.func 28) #[] #[.pointer (some ⟨b376, 0, none⟩), .pointer (some ⟨b363, 0, none⟩)]) rfl rfl rfl ?_
          obtain ⟨y470, hq471, hm⟩ := bind_some hm
          refine wl_call rfl rfl (x_callv Try.call28 (caps := [.pointer (some ⟨b376, 0, none⟩), .pointer (some ⟨b363, 0, none⟩)]) rfl (vs := []) rfl) ?_
          refine Calls.mono (show Calls Try.prog 28 #[.pointer (some ⟨b376, 0, none⟩), .pointer (some ⟨b363, 0, none⟩)] _ (fun e w' => ∃ (z468 : octet_Writer), y470 = z468 ∧ e = .returned (.tuple #[]) ∧ St w0 w' I [cells b363 [.int .u8 a0.Kind, .int .u64 a0.ID.Session, .int .u64 a0.ID.Seq, .int .u64 a0.Epoch, .int .u64 a0.Index, .int .i64 a0.E, .int .u64 a0.Hold.ID.Session, .int .u64 a0.Hold.ID.Seq, .int .u64 a0.Hold.Epoch, r0_0, r0_1, r0_2, r0_3, r0_4, .int .i64 a0.R.E, .int .u64 a0.R.Epoch, .int .u64 a0.R.Index, r0_5, r0_6, .int .u64 a0.Shards, r0_7, .int .u64 a0.Rule.ID, .int .i64 a0.Rule.From, .int .i64 a0.Rule.To, .float .f64 a0.Rule.Lo, .float .f64 a0.Rule.Hi, .int .u64 a0.Rule.Authority, .int .i64 a0.Rule.Quota, .bool a0.On], at_octet_Writer (.pointer (some ⟨b370, 0, none⟩)) z468, cells b376 [.pointer (some ⟨b370, 0, none⟩)]] R) from ?_) ?_
          · skip
            clear hm; have hm := hq471
            refine calls_start (args := [.pointer (some ⟨b376, 0, none⟩), .pointer (some ⟨b363, 0, none⟩)]) Try.func28 rfl Try.ntmps28 (Nat.le_of_ble_eq_true rfl) ?_
            refine wp_region_St hst 9 [0, 1, 2, 3, 4, 5, 6, 7, 8] [0, 0, 2, 6, 15, 0, 32, 96, 255] [] rfl (by kernel_rfl) (by kernel_rfl) Try.mixed (by kernel_rfl) ?_
            refine ws_q (v := .pointer (some ⟨b370, 0, none⟩)) 0 [1, 2, 3, 4, 5, 6, 7, 8] (by kernel_rfl) rfl rfl (yi_run rfl (fun w hst => x_load rfl Try.isAgg56 (hst.bc1 rfl))) ?_
            refine ws_q (v := .pointer (some ⟨b363, 1, none⟩)) 1 [2, 3, 4, 5, 6, 7, 8] (by kernel_rfl) rfl rfl (yi_run rfl (fun w hst => x_field rfl Try.underlying45 rfl Try.sizeOf29 rfl)) ?_
            refine ws_q (v := .pointer (some ⟨b363, 1, none⟩)) 2 [3, 4, 5, 6, 7, 8] (by kernel_rfl) rfl rfl (yi_run rfl (fun w hst => x_field rfl Try.underlying29 rfl Try.sizeOf27 rfl)) ?_
            refine ws_q (v := .int .u64 a0.ID.Session) 3 [4, 5, 6, 7, 8] (by kernel_rfl) rfl rfl (yi_run rfl (fun w hst => x_load rfl Try.isAgg27 (hst.bc2 rfl))) ?_
            refine ws_q (v := .pointer (some ⟨b363, 1, none⟩)) 5 [4, 6, 7, 8] (by kernel_rfl) rfl rfl (yi_run rfl (fun w hst => x_field rfl Try.underlying45 rfl Try.sizeOf29 rfl)) ?_
            refine ws_q (v := .pointer (some ⟨b363, 2, none⟩)) 6 [4, 7, 8] (by kernel_rfl) rfl rfl (yi_run rfl (fun w hst => x_field rfl Try.underlying29 rfl Try.sizeOf27 rfl)) ?_
            refine ws_q (v := .int .u64 a0.ID.Seq) 7 [4, 8] (by kernel_rfl) rfl rfl (yi_run rfl (fun w hst => x_load rfl Try.isAgg27 (hst.bc2 rfl))) ?_
            refine ws_e1 4 (by kernel_rfl) ?_
            refine nxe [8] (by kernel_rfl) rfl rfl ?_
            clear hst
            intro w hst
            obtain ⟨t458, ht459, hm⟩ := bind_some hm
            refine we_call rfl (x_call Try.call27 rfl (vs := [.pointer (some ⟨b370, 0, none⟩), .int .u64 a0.ID.Session, .int .i64 (8:Int)]) rfl) ?_
            refine (octet_Writer_Num_ref hst.to1 ht459).mono ?_
            rintro _ w460 ⟨rfl, hst⟩
            refine ⟨_, rfl, ?_⟩
            replace hst := hst.of1
            refine ws_next (pend' := [(7, .int .u64 a0.ID.Seq), (6, .pointer (some ⟨b363, 2, none⟩)), (5, .pointer (some ⟨b363, 1, none⟩))]) hst (by kernel_rfl) (pk_cons rfl (yi_run rfl (fun w hst => x_load rfl Try.isAgg27 (hst.bc2 rfl))) (pk_cons rfl (yi_run rfl (fun w hst => x_field rfl Try.underlying29 rfl Try.sizeOf27 rfl)) (pk_cons rfl (yi_run rfl (fun w hst => x_field rfl Try.underlying45 rfl Try.sizeOf29 rfl)) pk_nil))) ?_
            refine ws_e1 8 (by kernel_rfl) ?_
            refine nxe [] (by kernel_rfl) rfl rfl ?_
            clear hst
            intro w hst
            obtain ⟨t463, ht464, hm⟩ := bind_some hm
            refine we_call rfl (x_call Try.call27 rfl (vs := [.pointer (some ⟨b370, 0, none⟩), .int .u64 a0.ID.Seq, .int .i64 (8:Int)]) rfl) ?_
            refine (octet_Writer_Num_ref hst.to1 ht464).mono ?_
            rintro _ w465 ⟨rfl, hst⟩
            refine ⟨_, rfl, ?_⟩
            replace hst := hst.of1
            refine ws_next (pend' := []) hst (by kernel_rfl) pk_nil ?_
            refine ws_nil ?_
            intro w hst
            refine post_end (vs := []) Try.results28 rvs_nil ?_
            replace hst := hst.pull1
            replace hst := hst.pull1
            replace hst := hst.pull2
            replace hst := hst.keep3
            obtain rfl := some_inj hm
            exact ⟨t463, rfl, rfl, hst⟩
          clear hst
          rintro _ w472 ⟨z468, rfl, rfl, hst⟩
          refine ⟨_, rfl, ?_⟩
          try dsimp only at hm
          refine wl_nil ?_
          refine then_n ?_
          refine wp_seq ?_
          refine wp_region_St hst 12 [0, 1, 2, 3, 4, 5, 6, 7, 8, 9, 10, 11] [0, 0, 2, 7, 0, 16, 63, 0, 128, 384, 896, 2047] [] rfl (by kernel_rfl) (by kernel_rfl) Try.mixed (by kernel_rfl) ?_
          refine ws_q (v := .pointer (some ⟨b370, 0, none⟩)) 0 [1, 2, 3, 4, 5, 6, 7, 8, 9, 10, 11] (by kernel_rfl) rfl rfl (yi_run rfl (fun w hst => x_load rfl Try.isAgg56 (hst.bc2 rfl))) ?_
          refine ws_q (v := .pointer (some ⟨b363, 3, none⟩)) 1 [2, 3, 4, 5, 6, 7, 8, 9, 10, 11] (by kernel_rfl) rfl rfl (yi_run rfl (fun w hst => x_field rfl Try.underlying45 rfl Try.sizeOf27 rfl)) ?_
          refine ws_q (v := .int .u64 a0.Epoch) 2 [3, 4, 5, 6, 7, 8, 9, 10, 11] (by kernel_rfl) rfl rfl (yi_run rfl (fun w hst => x_load rfl Try.isAgg27 (hst.bc0 rfl))) ?_
          refine ws_q (v := .pointer (some ⟨b363, 19, none⟩)) 4 [3, 5, 6, 7, 8, 9, 10, 11] (by kernel_rfl) rfl rfl (yi_run rfl (fun w hst => x_field rfl Try.underlying45 rfl Try.sizeOf27 rfl)) ?_
          refine ws_q (v := .int .u64 a0.Shards) 5 [3, 6, 7, 8, 9, 10, 11] (by kernel_rfl) rfl rfl (yi_run rfl (fun w hst => x_load rfl Try.isAgg27 (hst.bc0 rfl))) ?_
          refine ws_q (v := .pointer (some ⟨b363, 20, none⟩)) 7 [3, 6, 8, 9, 10, 11] (by kernel_rfl) rfl rfl (yi_run rfl (fun w hst => x_field rfl Try.underlying45 rfl Try.sizeOf40 rfl)) ?_
          refine ws_q (v := r0_7) 8 [3, 6, 9, 10, 11] (by kernel_rfl) rfl rfl (yi_run rfl (fun w hst => x_load rfl Try.isAgg40 (hst.bc0 rfl))) ?_
          refine ws_q (v := .int .i64 ((a0.Parts).length : Int)) 9 [3, 6, 10, 11] (by kernel_rfl) rfl rfl (yi_run rfl (fun w hst => x_len rfl Try.underlying40 (rd_sliceV f0_7))) ?_
          refine ws_q (v := .int .u64 (IntKind.u64.wrap ((a0.Parts).length : Int))) 10 [3, 6, 11] (by kernel_rfl) rfl rfl (yi_run rfl (fun w hst => by kernel_rfl)) ?_
          refine ws_e1 3 (by kernel_rfl) ?_
          refine nxe [6, 11] (by kernel_rfl) rfl rfl ?_
          clear hst
          intro w hst
          replace hst := hst.pull1
          obtain ⟨t473, ht474, hm⟩ := bind_some hm
          refine we_call rfl (x_call Try.call27 rfl (vs := [.pointer (some ⟨b370, 0, none⟩), .int .u64 a0.Epoch, .int .i64 (8:Int)]) rfl) ?_
          refine (octet_Writer_Num_ref hst.to1 ht474).mono ?_
          rintro _ w475 ⟨rfl, hst⟩
          refine ⟨_, rfl, ?_⟩
          replace hst := hst.of1
          refine ws_next (pend' := [(10, .int .u64 (IntKind.u64.wrap ((a0.Parts).length : Int))), (9, .int .i64 ((a0.Parts).length : Int)), (8, r0_7), (7, .pointer (some ⟨b363, 20, none⟩)), (5, .int .u64 a0.Shards), (4, .pointer (some ⟨b363, 19, none⟩))]) hst (by kernel_rfl) (pk_cons rfl (yi_run rfl (fun w hst => by kernel_rfl)) (pk_cons rfl (yi_run rfl (fun w hst => x_len rfl Try.underlying40 (rd_sliceV f0_7))) (pk_cons rfl (yi_run rfl (fun w hst => x_load rfl Try.isAgg40 (hst.bc1 rfl))) (pk_cons rfl (yi_run rfl (fun w hst => x_field rfl Try.underlying45 rfl Try.sizeOf40 rfl)) (pk_cons rfl (yi_run rfl (fun w hst => x_load rfl Try.isAgg27 (hst.bc1 rfl))) (pk_cons rfl (yi_run rfl (fun w hst => x_field rfl Try.underlying45 rfl Try.sizeOf27 rfl)) pk_nil)))))) ?_
          refine ws_e1 6 (by kernel_rfl) ?_
          refine nxe [11] (by kernel_rfl) rfl rfl ?_
          clear hst
          intro w hst
          obtain ⟨t478, ht479, hm⟩ := bind_some hm
          refine we_call rfl (x_call Try.call27 rfl (vs := [.pointer (some ⟨b370, 0, none⟩), .int .u64 a0.Shards, .int .i64 (2:Int)]) rfl) ?_
          refine (octet_Writer_Num_ref hst.to1 ht479).mono ?_
          rintro _ w480 ⟨rfl, hst⟩
          refine ⟨_, rfl, ?_⟩
          replace hst := hst.of1
          refine ws_next (pend' := [(10, .int .u64 (IntKind.u64.wrap ((a0.Parts).length : Int))), (9, .int .i64 ((a0.Parts).length : Int)), (8, r0_7), (7, .pointer (some ⟨b363, 20, none⟩))]) hst (by kernel_rfl) (pk_cons rfl (yi_run rfl (fun w hst => by kernel_rfl)) (pk_cons rfl (yi_run rfl (fun w hst => x_len rfl Try.underlying40 (rd_sliceV f0_7))) (pk_cons rfl (yi_run rfl (fun w hst => x_load rfl Try.isAgg40 (hst.bc1 rfl))) (pk_cons rfl (yi_run rfl (fun w hst => x_field rfl Try.underlying45 rfl Try.sizeOf40 rfl)) pk_nil)))) ?_
          refine ws_e1 11 (by kernel_rfl) ?_
          refine nxe [] (by kernel_rfl) rfl rfl ?_
          clear hst
          intro w hst
          obtain ⟨t483, ht484, hm⟩ := bind_some hm
          refine we_call rfl (x_call Try.call27 rfl (vs := [.pointer (some ⟨b370, 0, none⟩), .int .u64 (IntKind.u64.wrap ((a0.Parts).length : Int)), .int .i64 (4:Int)]) rfl) ?_
          refine (octet_Writer_Num_ref hst.to1 ht484).mono ?_
          rintro _ w485 ⟨rfl, hst⟩
          refine ⟨_, rfl, ?_⟩
          replace hst := hst.of1
          refine ws_next (pend' := []) hst (by kernel_rfl) pk_nil ?_
          refine ws_nil ?_
          intro w hst
          refine then_n ?_
          obtain ⟨y593, hm, hx594⟩ := bind_some hm
          refine wp_cut (fun a w => ∃ (z590 : octet_Writer) (σ591 : Nat → Value), (command_Encode_j0 a0) z590 = some r ∧ a = Fr 121 (upd (upd σ591 1 (.pointer (some ⟨b363, 0, none⟩))) 3 (.pointer (some ⟨b376, 0, none⟩))) ∧ St w0 w I [cells b363 [.int .u8 a0.Kind, .int .u64 a0.ID.Session, .int .u64 a0.ID.Seq, .int .u64 a0.Epoch, .int .u64 a0.Index, .int .i64 a0.E, .int .u64 a0.Hold.ID.Session, .int .u64 a0.Hold.ID.Seq, .int .u64 a0.Hold.Epoch, r0_0, r0_1, r0_2, r0_3, r0_4, .int .i64 a0.R.E, .int .u64 a0.R.Epoch, .int .u64 a0.R.Index, r0_5, r0_6, .int .u64 a0.Shards, r0_7, .int .u64 a0.Rule.ID, .int .i64 a0.Rule.From, .int .i64 a0.Rule.To, .float .f64 a0.Rule.Lo, .float .f64 a0.Rule.Hi, .int .u64 a0.Rule.Authority, .int .i64 a0.Rule.Quota, .bool a0.On], cells b376 [.pointer (some ⟨b370, 0, none⟩)], at_octet_Writer (.pointer (some ⟨b370, 0, none⟩)) z590] R) ?_ ?_
          · skip
            refine wp_seq ?_
            refine wp_region_lit ?_
            refine wl_val (v := .pointer (some ⟨b363, 20, none⟩)) rfl rfl (x_field rfl Try.underlying45 rfl Try.sizeOf40 rfl) ?_
            refine wl_val (v := r0_7) rfl rfl (x_load rfl Try.isAgg40 (hst.bc1 rfl)) ?_
            refine wl_val (v := .int .i64 ((a0.Parts).length : Int)) rfl rfl (x_len rfl Try.underlying40 (rd_sliceV f0_7)) ?_
            refine wl_val (v := .int .i64 (0:Int)) rfl rfl rfl ?_
            refine wl_nil ?_
            refine then_n ?_
            refine wp_block ?_
            obtain ⟨n553, hm⟩ := loopO_some hm
            refine wp_loop_n (fun n a w => ∃ (z550 : octet_Writer) (z551 : Int) (σ552 : Nat → Value), loopN (command_Encode_l1 a0) n (z550, z551) = some y593 ∧ a = Fr 121 (upd (upd (upd (upd (upd σ552 1 (.pointer (some ⟨b363, 0, none⟩))) 3 (.pointer (some ⟨b376, 0, none⟩))) 65 (r0_7)) 66 (.int .i64 ((a0.Parts).length : Int))) 67 (.int .i64 z551)) ∧ St w0 w I [at_octet_Writer (.pointer (some ⟨b370, 0, none⟩)) z550, cells b363 [.int .u8 a0.Kind, .int .u64 a0.ID.Session, .int .u64 a0.ID.Seq, .int .u64 a0.Epoch, .int .u64 a0.Index, .int .i64 a0.E, .int .u64 a0.Hold.ID.Session, .int .u64 a0.Hold.ID.Seq, .int .u64 a0.Hold.Epoch, r0_0, r0_1, r0_2, r0_3, r0_4, .int .i64 a0.R.E, .int .u64 a0.R.Epoch, .int .u64 a0.R.Index, r0_5, r0_6, .int .u64 a0.Shards, r0_7, .int .u64 a0.Rule.ID, .int .i64 a0.Rule.From, .int .i64 a0.Rule.To, .float .f64 a0.Rule.Lo, .float .f64 a0.Rule.Hi, .int .u64 a0.Rule.Authority, .int .i64 a0.Rule.Quota, .bool a0.On], cells b376 [.pointer (some ⟨b370, 0, none⟩)]] R) n553 ⟨t483, (0:Int), _, hm, ((fr_upd (t := 1) (v := .pointer (some ⟨b363, 0, none⟩)) rfl).trans ((fr_upd (t := 3) (v := .pointer (some ⟨b376, 0, none⟩)) rfl).trans ((fr_upd (t := 65) (v := r0_7) rfl).trans ((fr_upd (t := 66) (v := .int .i64 ((a0.Parts).length : Int)) rfl).trans ((fr_upd (t := 67) (v := .int .i64 (0:Int)) rfl).trans rfl))))), hst⟩ ?_
            rintro n559 _ w554 ⟨z550, z551, σ552, hm, rfl, hst⟩
            obtain ⟨n556, y557, rfl, hm, hx558⟩ := loopN_some hm
            dsimp only [command_Encode_l1] at hm
            refine wp_seq ?_
            refine wp_region_lit ?_
            refine wl_val (v := .bool (decide (z551 < ((a0.Parts).length : Int)))) rfl rfl rfl ?_
            refine wl_nil ?_
            refine then_n ?_
            refine wp_seq ?_
            refine bsplit (decide (z551 < ((a0.Parts).length : Int))) (fun hc560 => ?_) (fun hc560 => ?_)
            · skip
              replace hm := bif_t hc560 hm
              refine wp_ift (congrArg Value.bool hc560) ?_
              refine wp_skip ?_
              refine then_n ?_
              refine wp_seq ?_
              refine wp_block ?_
              refine wp_seq ?_
              refine wp_region_lit ?_
              obtain ⟨x561, hx562, hm⟩ := bind_some hm
              obtain ⟨h563, h564, hi565⟩ := geto_some hx562
              refine wl_val (v := .pointer (some (eAddr r0_7 (z551.toNat * 2 + 0)))) rfl rfl (x_index rfl rfl Try.underlying40 Try.sizeOf81 (rd_sliceV f0_7) h563 h564) ?_
              obtain ⟨cs566, hr567, hc568⟩ := Rd.getF f0_7 hi565
              obtain ⟨v569, rfl, f570, -⟩ := hr567
              refine wl_val (v := .agg #[.int .i64 x561.Shard, v569]) rfl rfl (x_loadN (cs := [.int .i64 x561.Shard, v569]) rfl Try.isAgg81 Try.sizeOf81 (eCells (o := 0) (hc568 (HL.le.refl _) hst) rfl)) ?_
              obtain ⟨b573, w574, ew575, eb576, hst⟩ := hst.box [.int .i64 (0:Int), (.slice none 0 0)] 81
              refine wl_run (v := .pointer (some ⟨b573, 0, none⟩)) (w' := w574) rfl rfl (x_al (by kernel_rfl) ew575 eb576) ?_
              obtain ⟨w578, hr579, hst⟩ := hst.boxStore (P := Try.prog) (t := 81) (cs' := [.int .i64 x561.Shard, v569]) 0 (.agg #[.int .i64 x561.Shard, v569]) Try.sizeOf81 (Nat.le_of_ble_eq_true rfl) (ones_cons rfl (ones_cons (one_of_sliceV (rd_sliceV f570)) ones_nil)) (by kernel_rfl)
              refine wl_unit rfl rfl (x_unit hr579) ?_
              refine wl_nil ?_
              refine then_n ?_
              refine wp_seq ?_
              refine wp_region_lit ?_
              refine wl_val (v := .pointer (some ⟨b370, 0, none⟩)) rfl rfl (x_load rfl Try.isAgg56 (hst.bc3 rfl)) ?_
              refine wl_val (v := .pointer (some ⟨b573, 0, none⟩)) rfl rfl (x_field rfl Try.underlying81 rfl Try.sizeOf3 rfl) ?_
              refine wl_val (v := .int .i64 x561.Shard) rfl rfl (x_load rfl Try.isAgg3 (hst.bc0 rfl)) ?_
              refine wl_val (v := .int .u64 (IntKind.u64.wrap x561.Shard)) rfl rfl (by kernel_rfl) ?_
              replace hst := hst.pull1
              obtain ⟨t580, ht581, hm⟩ := bind_some hm
              refine wl_call rfl rfl (x_call Try.call27 rfl (vs := [.pointer (some ⟨b370, 0, none⟩), .int .u64 (IntKind.u64.wrap x561.Shard), .int .i64 (1:Int)]) rfl) ?_
              refine (octet_Writer_Num_ref hst.to1 ht581).mono ?_
              rintro _ w582 ⟨rfl, hst⟩
              refine ⟨_, rfl, ?_⟩
              replace hst := hst.of1
              refine wl_nil ?_
              refine then_n ?_
              refine wp_region_lit ?_
              refine wl_val (v := .pointer (some ⟨b370, 0, none⟩)) rfl rfl (x_load rfl Try.isAgg56 (hst.bc3 rfl)) ?_
              refine wl_val (v := .pointer (some ⟨b573, 1, none⟩)) rfl rfl (x_field rfl Try.underlying81 rfl Try.sizeOf35 rfl) ?_
              refine wl_val (v := v569) rfl rfl (x_load rfl Try.isAgg35 (hst.bc1 rfl)) ?_
              obtain ⟨t585, ht586, hm⟩ := bind_some hm
              refine wl_call rfl rfl (x_call Try.call30 rfl (vs := [.pointer (some ⟨b370, 0, none⟩), v569]) rfl) ?_
              refine (command_writes_ref (f570.mono (rd_weak _)) hst.to1 ht586).mono ?_
              rintro _ w587 ⟨rfl, hst⟩
              refine ⟨_, rfl, ?_⟩
              replace hst := hst.of1
              refine wl_nil ?_
              refine blk_n ?_
              refine then_n ?_
              refine wp_region_lit ?_
              refine wl_val (v := .int .i64 (IntKind.i64.wrap (z551 + (1:Int)))) rfl rfl rfl ?_
              refine wl_val (v := .int .i64 (IntKind.i64.wrap (z551 + (1:Int)))) rfl rfl rfl ?_
              refine wl_nil ?_
              refine then_n ?_
              replace hst := hst.pull3
              replace hst := hst.pull3
              replace hst := hst.pull2
              replace hst := hst.keep3
              obtain rfl := some_inj hm
              exact ⟨_, Nat.lt_succ_self _, t585, (IntKind.i64.wrap (z551 + (1:Int))), _, hx558, ((fr_upd (t := 1) (v := .pointer (some ⟨b363, 0, none⟩)) rfl).trans ((fr_upd (t := 3) (v := .pointer (some ⟨b376, 0, none⟩)) rfl).trans ((fr_upd (t := 65) (v := r0_7) rfl).trans ((fr_upd (t := 66) (v := .int .i64 ((a0.Parts).length : Int)) rfl).trans ((fr_upd (t := 67) (v := .int .i64 (IntKind.i64.wrap (z551 + (1:Int)))) rfl).trans rfl))))), hst⟩
            · skip
              replace hm := bif_f hc560 hm
              refine wp_iff (congrArg Value.bool hc560) ?_
              refine wp_exit ?_
              refine then_x ?_
              refine then_x ?_
              replace hm := inr_up hm hx558
              refine blk_x ?_
              refine then_n ?_
              replace hst := hst.pull2
              replace hst := hst.pull2
              replace hst := hst.keep3
              obtain rfl := some_inj hm
              exact ⟨z550, _, hx594, ((fr_upd (t := 1) (v := .pointer (some ⟨b363, 0, none⟩)) rfl).trans ((fr_upd (t := 3) (v := .pointer (some ⟨b376, 0, none⟩)) rfl).trans rfl)), hst⟩
          · skip
            clear hst
            rintro _ w595 ⟨z590, σ591, hm, rfl, hst⟩
            dsimp only [command_Encode_j0] at hm
            refine wp_region_lit ?_
            refine wl_val (v := .pointer (some ⟨b370, 0, none⟩)) rfl rfl (x_load rfl Try.isAgg56 (hst.bc1 rfl)) ?_
            refine wl_val (v := .pointer (some ⟨b363, 14, none⟩)) rfl rfl (x_field rfl Try.underlying45 rfl Try.sizeOf39 rfl) ?_
            refine wl_val (v := .agg #[.int .i64 a0.R.E, .int .u64 a0.R.Epoch, .int .u64 a0.R.Index, r0_5, r0_6]) rfl rfl (x_loadN (cs := [.int .i64 a0.R.E, .int .u64 a0.R.Epoch, .int .u64 a0.R.Index, r0_5, r0_6]) rfl Try.isAgg39 Try.sizeOf39 (hst.bcs0 14 rfl)) ?_
            replace hst := hst.pull2
            obtain ⟨t596, ht597, hm⟩ := bind_some hm
            refine wl_call rfl rfl (x_call Try.call13 rfl (vs := [.pointer (some ⟨b370, 0, none⟩), .agg #[.int .i64 a0.R.E, .int .u64 a0.R.Epoch, .int .u64 a0.R.Index, r0_5, r0_6]]) rfl) ?_
            refine (command_LayReply_ref (f0_5.mono (rd_weak _)) (f0_6.mono (rd_weak _)) hst.to1 ht597).mono ?_
            rintro _ w598 ⟨rfl, hst⟩
            refine ⟨_, rfl, ?_⟩
            replace hst := hst.of1
            refine wl_nil ?_
            refine blk_n ?_
            refine then_n ?_
            refine wp_seq ?_
            refine wp_region_lit ?_
            refine wl_val (v := .pointer (some ⟨b370, 0, none⟩)) rfl rfl (x_load rfl Try.isAgg56 (hst.bc2 rfl)) ?_
            obtain ⟨t601, ht602, hm⟩ := bind_some hm
            refine wl_call rfl rfl (x_call Try.call14 rfl (vs := [.pointer (some ⟨b370, 0, none⟩)]) rfl) ?_
            refine (octet_Writer_Done_ref hst.to1 ht602).mono ?_
            rintro _ w603 ⟨v606, rfl, hst⟩
            refine ⟨_, rfl, ?_⟩
            replace hst := hst.of1
            refine wl_val (v := v606) rfl rfl rfl ?_
            refine wl_nil ?_
            refine then_n ?_
            refine wp_ret ?_
            obtain rfl := some_inj hm
            refine post_ret (vs := [v606]) Try.results10 (rvs_cons (rv_tmp rfl) rvs_nil) ?_
            exact ⟨v606, rfl, hst.keep1⟩
        · skip
          replace hm := bif_f hc457 hm
          refine wp_iff (congrArg Value.bool hc457) ?_
          refine wp_seq ?_
          refine wp_region_lit ?_
          refine wl_val (v := .bool (a0.Kind == (5:Int))) rfl rfl rfl ?_
          refine wl_val (v := .bool (a0.Kind == (5:Int))) rfl rfl rfl ?_
          refine wl_nil ?_
          refine then_n ?_
          refine bsplit (a0.Kind == (5:Int)) (fun hc608 => ?_) (fun hc608 => ?_)
          · skip
            replace hm := bif_t hc608 hm
            refine wp_ift (congrArg Value.bool hc608) ?_
            refine wp_region_lit ?_
            refine wl_val (v := .func (.func 28) #[] #[.pointer (some ⟨b376, 0, none⟩), .pointer (some ⟨b363, 0, none⟩)]) rfl rfl rfl ?_
            obtain ⟨y621, hq622, hm⟩ := bind_some hm
            refine wl_call rfl rfl (x_callv Try.call28 (caps := [.pointer (some ⟨b376, 0, none⟩), .pointer (some ⟨b363, 0, none⟩)]) rfl (vs := []) rfl) ?_
            refine Calls.mono (show Calls Try.prog 28 #[.pointer (some ⟨b376, 0, none⟩), .pointer (some ⟨b363, 0, none⟩)] _ (fun e w' => ∃ (z619 : octet_Writer), y621 = z619 ∧ e = .returned (.tuple #[]) ∧ St w0 w' I [cells b363 [.int .u8 a0.Kind, .int .u64 a0.ID.Session, .int .u64 a0.ID.Seq, .int .u64 a0.Epoch, .int .u64 a0.Index, .int .i64 a0.E, .int .u64 a0.Hold.ID.Session, .int .u64 a0.Hold.ID.Seq, .int .u64 a0.Hold.Epoch, r0_0, r0_1, r0_2, r0_3, r0_4, .int .i64 a0.R.E, .int .u64 a0.R.Epoch, .int .u64 a0.R.Index, r0_5, r0_6, .int .u64 a0.Shards, r0_7, .int .u64 a0.Rule.ID, .int .i64 a0.Rule.From, .int .i64 a0.Rule.To, .float .f64 a0.Rule.Lo, .float .f64 a0.Rule.Hi, .int .u64 a0.Rule.Authority, .int .i64 a0.Rule.Quota, .bool a0.On], at_octet_Writer (.pointer (some ⟨b370, 0, none⟩)) z619, cells b376 [.pointer (some ⟨b370, 0, none⟩)]] R) from ?_) ?_
            · skip
              clear hm; have hm := hq622
              refine calls_start (args := [.pointer (some ⟨b376, 0, none⟩), .pointer (some ⟨b363, 0, none⟩)]) Try.func28 rfl Try.ntmps28 (Nat.le_of_ble_eq_true rfl) ?_
              refine wp_region_St hst 9 [0, 1, 2, 3, 4, 5, 6, 7, 8] [0, 0, 2, 6, 15, 0, 32, 96, 255] [] rfl (by kernel_rfl) (by kernel_rfl) Try.mixed (by kernel_rfl) ?_
              refine ws_q (v := .pointer (some ⟨b370, 0, none⟩)) 0 [1, 2, 3, 4, 5, 6, 7, 8] (by kernel_rfl) rfl rfl (yi_run rfl (fun w hst => x_load rfl Try.isAgg56 (hst.bc1 rfl))) ?_
              refine ws_q (v := .pointer (some ⟨b363, 1, none⟩)) 1 [2, 3, 4, 5, 6, 7, 8] (by kernel_rfl) rfl rfl (yi_run rfl (fun w hst => x_field rfl Try.underlying45 rfl Try.sizeOf29 rfl)) ?_
              refine ws_q (v := .pointer (some ⟨b363, 1, none⟩)) 2 [3, 4, 5, 6, 7, 8] (by kernel_rfl) rfl rfl (yi_run rfl (fun w hst => x_field rfl Try.underlying29 rfl Try.sizeOf27 rfl)) ?_
              refine ws_q (v := .int .u64 a0.ID.Session) 3 [4, 5, 6, 7, 8] (by kernel_rfl) rfl rfl (yi_run rfl (fun w hst => x_load rfl Try.isAgg27 (hst.bc2 rfl))) ?_
              refine ws_q (v := .pointer (some ⟨b363, 1, none⟩)) 5 [4, 6, 7, 8] (by kernel_rfl) rfl rfl (yi_run rfl (fun w hst => x_field rfl Try.underlying45 rfl Try.sizeOf29 rfl)) ?_
              refine ws_q (v := .pointer (some ⟨b363, 2, none⟩)) 6 [4, 7, 8] (by kernel_rfl) rfl rfl (yi_run rfl (fun w hst => x_field rfl Try.underlying29 rfl Try.sizeOf27 rfl)) ?_
              refine ws_q (v := .int .u64 a0.ID.Seq) 7 [4, 8] (by kernel_rfl) rfl rfl (yi_run rfl (fun w hst => x_load rfl Try.isAgg27 (hst.bc2 rfl))) ?_
              refine ws_e1 4 (by kernel_rfl) ?_
              refine nxe [8] (by kernel_rfl) rfl rfl ?_
              clear hst
              intro w hst
              obtain ⟨t609, ht610, hm⟩ := bind_some hm
              refine we_call rfl (x_call Try.call27 rfl (vs := [.pointer (some ⟨b370, 0, none⟩), .int .u64 a0.ID.Session, .int .i64 (8:Int)]) rfl) ?_
              refine (octet_Writer_Num_ref hst.to1 ht610).mono ?_
              rintro _ w611 ⟨rfl, hst⟩
              refine ⟨_, rfl, ?_⟩
              replace hst := hst.of1
              refine ws_next (pend' := [(7, .int .u64 a0.ID.Seq), (6, .pointer (some ⟨b363, 2, none⟩)), (5, .pointer (some ⟨b363, 1, none⟩))]) hst (by kernel_rfl) (pk_cons rfl (yi_run rfl (fun w hst => x_load rfl Try.isAgg27 (hst.bc2 rfl))) (pk_cons rfl (yi_run rfl (fun w hst => x_field rfl Try.underlying29 rfl Try.sizeOf27 rfl)) (pk_cons rfl (yi_run rfl (fun w hst => x_field rfl Try.underlying45 rfl Try.sizeOf29 rfl)) pk_nil))) ?_
              refine ws_e1 8 (by kernel_rfl) ?_
              refine nxe [] (by kernel_rfl) rfl rfl ?_
              clear hst
              intro w hst
              obtain ⟨t614, ht615, hm⟩ := bind_some hm
              refine we_call rfl (x_call Try.call27 rfl (vs := [.pointer (some ⟨b370, 0, none⟩), .int .u64 a0.ID.Seq, .int .i64 (8:Int)]) rfl) ?_
              refine (octet_Writer_Num_ref hst.to1 ht615).mono ?_
              rintro _ w616 ⟨rfl, hst⟩
              refine ⟨_, rfl, ?_⟩
              replace hst := hst.of1
              refine ws_next (pend' := []) hst (by kernel_rfl) pk_nil ?_
              refine ws_nil ?_
              intro w hst
              refine post_end (vs := []) Try.results28 rvs_nil ?_
              replace hst := hst.pull1
              replace hst := hst.pull1
              replace hst := hst.pull2
              replace hst := hst.keep3
              obtain rfl := some_inj hm
              exact ⟨t614, rfl, rfl, hst⟩
            clear hst
            rintro _ w623 ⟨z619, rfl, rfl, hst⟩
            refine ⟨_, rfl, ?_⟩
            try dsimp only at hm
            refine wl_nil ?_
            refine blk_n ?_
            refine then_n ?_
            refine wp_seq ?_
            refine wp_region_lit ?_
            refine wl_val (v := .pointer (some ⟨b370, 0, none⟩)) rfl rfl (x_load rfl Try.isAgg56 (hst.bc2 rfl)) ?_
            replace hst := hst.pull1
            obtain ⟨t624, ht625, hm⟩ := bind_some hm
            refine wl_call rfl rfl (x_call Try.call14 rfl (vs := [.pointer (some ⟨b370, 0, none⟩)]) rfl) ?_
            refine (octet_Writer_Done_ref hst.to1 ht625).mono ?_
            rintro _ w626 ⟨v629, rfl, hst⟩
            refine ⟨_, rfl, ?_⟩
            replace hst := hst.of1
            refine wl_val (v := v629) rfl rfl rfl ?_
            refine wl_nil ?_
            refine then_n ?_
            refine wp_ret ?_
            obtain rfl := some_inj hm
            refine post_ret (vs := [v629]) Try.results10 (rvs_cons (rv_tmp rfl) rvs_nil) ?_
            exact ⟨v629, rfl, hst.keep1⟩
          · skip
            replace hm := bif_f hc608 hm
            refine wp_iff (congrArg Value.bool hc608) ?_
            refine wp_seq ?_
            refine wp_region_lit ?_
            refine wl_val (v := .bool (a0.Kind == (6:Int))) rfl rfl rfl ?_
            refine wl_val (v := .bool (a0.Kind == (6:Int))) rfl rfl rfl ?_
            refine wl_nil ?_
            refine then_n ?_
            refine bsplit (a0.Kind == (6:Int)) (fun hc631 => ?_) (fun hc631 => ?_)
            · skip
              replace hm := bif_t hc631 hm
              refine wp_ift (congrArg Value.bool hc631) ?_
              refine wp_seq ?_
              refine wp_region_lit ?_
              refine wl_val (v := .pointer (some ⟨b370, 0, none⟩)) rfl rfl (x_load rfl Try.isAgg56 (hst.bc1 rfl)) ?_
              refine wl_val (v := .pointer (some ⟨b363, 21, none⟩)) rfl rfl (x_field rfl Try.underlying45 rfl Try.sizeOf43 rfl) ?_
              refine wl_val (v := .agg #[.int .u64 a0.Rule.ID, .int .i64 a0.Rule.From, .int .i64 a0.Rule.To, .float .f64 a0.Rule.Lo, .float .f64 a0.Rule.Hi, .int .u64 a0.Rule.Authority, .int .i64 a0.Rule.Quota]) rfl rfl (x_loadN (cs := [.int .u64 a0.Rule.ID, .int .i64 a0.Rule.From, .int .i64 a0.Rule.To, .float .f64 a0.Rule.Lo, .float .f64 a0.Rule.Hi, .int .u64 a0.Rule.Authority, .int .i64 a0.Rule.Quota]) rfl Try.isAgg43 Try.sizeOf43 (hst.bcs2 21 rfl)) ?_
              obtain ⟨t632, ht633, hm⟩ := bind_some hm
              refine wl_call rfl rfl (x_call Try.call31 rfl (vs := [.pointer (some ⟨b370, 0, none⟩), .agg #[.int .u64 a0.Rule.ID, .int .i64 a0.Rule.From, .int .i64 a0.Rule.To, .float .f64 a0.Rule.Lo, .float .f64 a0.Rule.Hi, .int .u64 a0.Rule.Authority, .int .i64 a0.Rule.Quota]]) rfl) ?_
              refine (command_layRule_ref hst.to1 ht633).mono ?_
              rintro _ w634 ⟨rfl, hst⟩
              refine ⟨_, rfl, ?_⟩
              replace hst := hst.of1
              refine wl_nil ?_
              refine then_n ?_
              refine wp_region_lit ?_
              refine wl_val (v := .pointer (some ⟨b370, 0, none⟩)) rfl rfl (x_load rfl Try.isAgg56 (hst.bc1 rfl)) ?_
              refine wl_val (v := .pointer (some ⟨b363, 28, none⟩)) rfl rfl (x_field rfl Try.underlying45 rfl Try.sizeOf4 rfl) ?_
              refine wl_val (v := .bool a0.On) rfl rfl (x_load rfl Try.isAgg4 (hst.bc2 rfl)) ?_
              obtain ⟨t637, ht638, hm⟩ := bind_some hm
              refine wl_call rfl rfl (x_call Try.call32 rfl (vs := [.pointer (some ⟨b370, 0, none⟩), .bool a0.On]) rfl) ?_
              refine (octet_Writer_Flag_ref hst.to1 ht638).mono ?_
              rintro _ w639 ⟨rfl, hst⟩
              refine ⟨_, rfl, ?_⟩
              replace hst := hst.of1
              refine wl_nil ?_
              refine blk_n ?_
              refine then_n ?_
              refine wp_seq ?_
              refine wp_region_lit ?_
              refine wl_val (v := .pointer (some ⟨b370, 0, none⟩)) rfl rfl (x_load rfl Try.isAgg56 (hst.bc1 rfl)) ?_
              obtain ⟨t642, ht643, hm⟩ := bind_some hm
              refine wl_call rfl rfl (x_call Try.call14 rfl (vs := [.pointer (some ⟨b370, 0, none⟩)]) rfl) ?_
              refine (octet_Writer_Done_ref hst.to1 ht643).mono ?_
              rintro _ w644 ⟨v647, rfl, hst⟩
              refine ⟨_, rfl, ?_⟩
              replace hst := hst.of1
              refine wl_val (v := v647) rfl rfl rfl ?_
              refine wl_nil ?_
              refine then_n ?_
              refine wp_ret ?_
              obtain rfl := some_inj hm
              refine post_ret (vs := [v647]) Try.results10 (rvs_cons (rv_tmp rfl) rvs_nil) ?_
              exact ⟨v647, rfl, hst.keep1⟩
            · skip
              replace hm := bif_f hc631 hm
              refine wp_iff (congrArg Value.bool hc631) ?_
              refine wp_seq ?_
              refine wp_region_lit ?_
              refine wl_val (v := .bool (a0.Kind == (7:Int))) rfl rfl rfl ?_
              refine wl_val (v := .bool (a0.Kind == (7:Int))) rfl rfl rfl ?_
              refine wl_nil ?_
              refine then_n ?_
              refine bsplit (a0.Kind == (7:Int)) (fun hc649 => ?_) (fun hc649 => ?_)
              · skip
                replace hm := bif_t hc649 hm
                refine wp_ift (congrArg Value.bool hc649) ?_
                refine wp_seq ?_
                refine wp_region_lit ?_
                refine wl_val (v := .func (.func 28) #[] #[.pointer (some ⟨b376, 0, none⟩), .pointer (some ⟨b363, 0, none⟩)]) rfl rfl rfl ?_
                obtain ⟨y662, hq663, hm⟩ := bind_some hm
                refine wl_call rfl rfl (x_callv Try.call28 (caps := [.pointer (some ⟨b376, 0, none⟩), .pointer (some ⟨b363, 0, none⟩)]) rfl (vs := []) rfl) ?_
                refine Calls.mono (show Calls Try.prog 28 #[.pointer (some ⟨b376, 0, none⟩), .pointer (some ⟨b363, 0, none⟩)] _ (fun e w' => ∃ (z660 : octet_Writer), y662 = z660 ∧ e = .returned (.tuple #[]) ∧ St w0 w' I [cells b363 [.int .u8 a0.Kind, .int .u64 a0.ID.Session, .int .u64 a0.ID.Seq, .int .u64 a0.Epoch, .int .u64 a0.Index, .int .i64 a0.E, .int .u64 a0.Hold.ID.Session, .int .u64 a0.Hold.ID.Seq, .int .u64 a0.Hold.Epoch, r0_0, r0_1, r0_2, r0_3, r0_4, .int .i64 a0.R.E, .int .u64 a0.R.Epoch, .int .u64 a0.R.Index, r0_5, r0_6, .int .u64 a0.Shards, r0_7, .int .u64 a0.Rule.ID, .int .i64 a0.Rule.From, .int .i64 a0.Rule.To, .float .f64 a0.Rule.Lo, .float .f64 a0.Rule.Hi, .int .u64 a0.Rule.Authority, .int .i64 a0.Rule.Quota, .bool a0.On], at_octet_Writer (.pointer (some ⟨b370, 0, none⟩)) z660, cells b376 [.pointer (some ⟨b370, 0, none⟩)]] R) from ?_) ?_
                · skip
                  clear hm; have hm := hq663
                  refine calls_start (args := [.pointer (some ⟨b376, 0, none⟩), .pointer (some ⟨b363, 0, none⟩)]) Try.func28 rfl Try.ntmps28 (Nat.le_of_ble_eq_true rfl) ?_
                  refine wp_region_St hst 9 [0, 1, 2, 3, 4, 5, 6, 7, 8] [0, 0, 2, 6, 15, 0, 32, 96, 255] [] rfl (by kernel_rfl) (by kernel_rfl) Try.mixed (by kernel_rfl) ?_
                  refine ws_q (v := .pointer (some ⟨b370, 0, none⟩)) 0 [1, 2, 3, 4, 5, 6, 7, 8] (by kernel_rfl) rfl rfl (yi_run rfl (fun w hst => x_load rfl Try.isAgg56 (hst.bc1 rfl))) ?_
                  refine ws_q (v := .pointer (some ⟨b363, 1, none⟩)) 1 [2, 3, 4, 5, 6, 7, 8] (by kernel_rfl) rfl rfl (yi_run rfl (fun w hst => x_field rfl Try.underlying45 rfl Try.sizeOf29 rfl)) ?_
                  refine ws_q (v := .pointer (some ⟨b363, 1, none⟩)) 2 [3, 4, 5, 6, 7, 8] (by kernel_rfl) rfl rfl (yi_run rfl (fun w hst => x_field rfl Try.underlying29 rfl Try.sizeOf27 rfl)) ?_
                  refine ws_q (v := .int .u64 a0.ID.Session) 3 [4, 5, 6, 7, 8] (by kernel_rfl) rfl rfl (yi_run rfl (fun w hst => x_load rfl Try.isAgg27 (hst.bc2 rfl))) ?_
                  refine ws_q (v := .pointer (some ⟨b363, 1, none⟩)) 5 [4, 6, 7, 8] (by kernel_rfl) rfl rfl (yi_run rfl (fun w hst => x_field rfl Try.underlying45 rfl Try.sizeOf29 rfl)) ?_
                  refine ws_q (v := .pointer (some ⟨b363, 2, none⟩)) 6 [4, 7, 8] (by kernel_rfl) rfl rfl (yi_run rfl (fun w hst => x_field rfl Try.underlying29 rfl Try.sizeOf27 rfl)) ?_
                  refine ws_q (v := .int .u64 a0.ID.Seq) 7 [4, 8] (by kernel_rfl) rfl rfl (yi_run rfl (fun w hst => x_load rfl Try.isAgg27 (hst.bc2 rfl))) ?_
                  refine ws_e1 4 (by kernel_rfl) ?_
                  refine nxe [8] (by kernel_rfl) rfl rfl ?_
                  clear hst
                  intro w hst
                  obtain ⟨t650, ht651, hm⟩ := bind_some hm
                  refine we_call rfl (x_call Try.call27 rfl (vs := [.pointer (some ⟨b370, 0, none⟩), .int .u64 a0.ID.Session, .int .i64 (8:Int)]) rfl) ?_
                  refine (octet_Writer_Num_ref hst.to1 ht651).mono ?_
                  rintro _ w652 ⟨rfl, hst⟩
                  refine ⟨_, rfl, ?_⟩
                  replace hst := hst.of1
                  refine ws_next (pend' := [(7, .int .u64 a0.ID.Seq), (6, .pointer (some ⟨b363, 2, none⟩)), (5, .pointer (some ⟨b363, 1, none⟩))]) hst (by kernel_rfl) (pk_cons rfl (yi_run rfl (fun w hst => x_load rfl Try.isAgg27 (hst.bc2 rfl))) (pk_cons rfl (yi_run rfl (fun w hst => x_field rfl Try.underlying29 rfl Try.sizeOf27 rfl)) (pk_cons rfl (yi_run rfl (fun w hst => x_field rfl Try.underlying45 rfl Try.sizeOf29 rfl)) pk_nil))) ?_
                  refine ws_e1 8 (by kernel_rfl) ?_
                  refine nxe [] (by kernel_rfl) rfl rfl ?_
                  clear hst
                  intro w hst
                  obtain ⟨t655, ht656, hm⟩ := bind_some hm
                  refine we_call rfl (x_call Try.call27 rfl (vs := [.pointer (some ⟨b370, 0, none⟩), .int .u64 a0.ID.Seq, .int .i64 (8:Int)]) rfl) ?_
                  refine (octet_Writer_Num_ref hst.to1 ht656).mono ?_
                  rintro _ w657 ⟨rfl, hst⟩
                  refine ⟨_, rfl, ?_⟩
                  replace hst := hst.of1
                  refine ws_next (pend' := []) hst (by kernel_rfl) pk_nil ?_
                  refine ws_nil ?_
                  intro w hst
                  refine post_end (vs := []) Try.results28 rvs_nil ?_
                  replace hst := hst.pull1
                  replace hst := hst.pull1
                  replace hst := hst.pull2
                  replace hst := hst.keep3
                  obtain rfl := some_inj hm
                  exact ⟨t655, rfl, rfl, hst⟩
                clear hst
                rintro _ w664 ⟨z660, rfl, rfl, hst⟩
                refine ⟨_, rfl, ?_⟩
                try dsimp only at hm
                refine wl_nil ?_
                refine then_n ?_
                refine wp_seq ?_
                refine wp_region_lit ?_
                refine wl_val (v := .pointer (some ⟨b370, 0, none⟩)) rfl rfl (x_load rfl Try.isAgg56 (hst.bc2 rfl)) ?_
                refine wl_val (v := .pointer (some ⟨b363, 3, none⟩)) rfl rfl (x_field rfl Try.underlying45 rfl Try.sizeOf27 rfl) ?_
                refine wl_val (v := .int .u64 a0.Epoch) rfl rfl (x_load rfl Try.isAgg27 (hst.bc0 rfl)) ?_
                replace hst := hst.pull1
                obtain ⟨t665, ht666, hm⟩ := bind_some hm
                refine wl_call rfl rfl (x_call Try.call27 rfl (vs := [.pointer (some ⟨b370, 0, none⟩), .int .u64 a0.Epoch, .int .i64 (8:Int)]) rfl) ?_
                refine (octet_Writer_Num_ref hst.to1 ht666).mono ?_
                rintro _ w667 ⟨rfl, hst⟩
                refine ⟨_, rfl, ?_⟩
                replace hst := hst.of1
                refine wl_nil ?_
                refine then_n ?_
                refine wp_seq ?_
                refine wp_region_lit ?_
                refine wl_val (v := .pointer (some ⟨b370, 0, none⟩)) rfl rfl (x_load rfl Try.isAgg56 (hst.bc2 rfl)) ?_
                refine wl_val (v := .pointer (some ⟨b363, 21, none⟩)) rfl rfl (x_field rfl Try.underlying45 rfl Try.sizeOf43 rfl) ?_
                refine wl_val (v := .agg #[.int .u64 a0.Rule.ID, .int .i64 a0.Rule.From, .int .i64 a0.Rule.To, .float .f64 a0.Rule.Lo, .float .f64 a0.Rule.Hi, .int .u64 a0.Rule.Authority, .int .i64 a0.Rule.Quota]) rfl rfl (x_loadN (cs := [.int .u64 a0.Rule.ID, .int .i64 a0.Rule.From, .int .i64 a0.Rule.To, .float .f64 a0.Rule.Lo, .float .f64 a0.Rule.Hi, .int .u64 a0.Rule.Authority, .int .i64 a0.Rule.Quota]) rfl Try.isAgg43 Try.sizeOf43 (hst.bcs1 21 rfl)) ?_
                obtain ⟨t670, ht671, hm⟩ := bind_some hm
                refine wl_call rfl rfl (x_call Try.call31 rfl (vs := [.pointer (some ⟨b370, 0, none⟩), .agg #[.int .u64 a0.Rule.ID, .int .i64 a0.Rule.From, .int .i64 a0.Rule.To, .float .f64 a0.Rule.Lo, .float .f64 a0.Rule.Hi, .int .u64 a0.Rule.Authority, .int .i64 a0.Rule.Quota]]) rfl) ?_
                refine (command_layRule_ref hst.to1 ht671).mono ?_
                rintro _ w672 ⟨rfl, hst⟩
                refine ⟨_, rfl, ?_⟩
                replace hst := hst.of1
                refine wl_nil ?_
                refine then_n ?_
                refine wp_seq ?_
                refine wp_region_lit ?_
                refine wl_val (v := .pointer (some ⟨b370, 0, none⟩)) rfl rfl (x_load rfl Try.isAgg56 (hst.bc2 rfl)) ?_
                refine wl_val (v := .pointer (some ⟨b363, 13, none⟩)) rfl rfl (x_field rfl Try.underlying45 rfl Try.sizeOf35 rfl) ?_
                refine wl_val (v := r0_4) rfl rfl (x_load rfl Try.isAgg35 (hst.bc1 rfl)) ?_
                obtain ⟨t675, ht676, hm⟩ := bind_some hm
                refine wl_call rfl rfl (x_call Try.call30 rfl (vs := [.pointer (some ⟨b370, 0, none⟩), r0_4]) rfl) ?_
                refine (command_writes_ref (f0_4.mono (rd_weak _)) hst.to1 ht676).mono ?_
                rintro _ w677 ⟨rfl, hst⟩
                refine ⟨_, rfl, ?_⟩
                replace hst := hst.of1
                refine wl_nil ?_
                refine then_n ?_
                refine wp_region_lit ?_
                refine wl_val (v := .pointer (some ⟨b370, 0, none⟩)) rfl rfl (x_load rfl Try.isAgg56 (hst.bc2 rfl)) ?_
                refine wl_val (v := .pointer (some ⟨b363, 14, none⟩)) rfl rfl (x_field rfl Try.underlying45 rfl Try.sizeOf39 rfl) ?_
                refine wl_val (v := .agg #[.int .i64 a0.R.E, .int .u64 a0.R.Epoch, .int .u64 a0.R.Index, r0_5, r0_6]) rfl rfl (x_loadN (cs := [.int .i64 a0.R.E, .int .u64 a0.R.Epoch, .int .u64 a0.R.Index, r0_5, r0_6]) rfl Try.isAgg39 Try.sizeOf39 (hst.bcs1 14 rfl)) ?_
                obtain ⟨t680, ht681, hm⟩ := bind_some hm
                refine wl_call rfl rfl (x_call Try.call13 rfl (vs := [.pointer (some ⟨b370, 0, none⟩), .agg #[.int .i64 a0.R.E, .int .u64 a0.R.Epoch, .int .u64 a0.R.Index, r0_5, r0_6]]) rfl) ?_
                refine (command_LayReply_ref (f0_5.mono (rd_weak _)) (f0_6.mono (rd_weak _)) hst.to1 ht681).mono ?_
                rintro _ w682 ⟨rfl, hst⟩
                refine ⟨_, rfl, ?_⟩
                replace hst := hst.of1
                refine wl_nil ?_
                refine blk_n ?_
                refine then_n ?_
                refine wp_seq ?_
                refine wp_region_lit ?_
                refine wl_val (v := .pointer (some ⟨b370, 0, none⟩)) rfl rfl (x_load rfl Try.isAgg56 (hst.bc2 rfl)) ?_
                obtain ⟨t685, ht686, hm⟩ := bind_some hm
                refine wl_call rfl rfl (x_call Try.call14 rfl (vs := [.pointer (some ⟨b370, 0, none⟩)]) rfl) ?_
                refine (octet_Writer_Done_ref hst.to1 ht686).mono ?_
                rintro _ w687 ⟨v690, rfl, hst⟩
                refine ⟨_, rfl, ?_⟩
                replace hst := hst.of1
                refine wl_val (v := v690) rfl rfl rfl ?_
                refine wl_nil ?_
                refine then_n ?_
                refine wp_ret ?_
                obtain rfl := some_inj hm
                refine post_ret (vs := [v690]) Try.results10 (rvs_cons (rv_tmp rfl) rvs_nil) ?_
                exact ⟨v690, rfl, hst.keep1⟩
              · skip
                replace hm := bif_f hc649 hm
                refine wp_iff (congrArg Value.bool hc649) ?_
                refine wp_skip ?_
                refine blk_n ?_
                refine then_n ?_
                refine wp_seq ?_
                refine wp_region_lit ?_
                refine wl_val (v := .pointer (some ⟨b370, 0, none⟩)) rfl rfl (x_load rfl Try.isAgg56 (hst.bc1 rfl)) ?_
                obtain ⟨t692, ht693, hm⟩ := bind_some hm
                refine wl_call rfl rfl (x_call Try.call14 rfl (vs := [.pointer (some ⟨b370, 0, none⟩)]) rfl) ?_
                refine (octet_Writer_Done_ref hst.to1 ht693).mono ?_
                rintro _ w694 ⟨v697, rfl, hst⟩
                refine ⟨_, rfl, ?_⟩
                replace hst := hst.of1
                refine wl_val (v := v697) rfl rfl rfl ?_
                refine wl_nil ?_
                refine then_n ?_
                refine wp_ret ?_
                obtain rfl := some_inj hm
                refine post_ret (vs := [v697]) Try.results10 (rvs_cons (rv_tmp rfl) rvs_nil) ?_
                exact ⟨v697, rfl, hst.keep1⟩

theorem law13_awake_ref {w0 w : World} {I : HL} {R : SP}   (hst : St w0 w I [] R) {r : (Bool)} (hm : law13_awake = some r) :
    Calls Try.prog 8 #[] w fun e w' => e = .returned (.bool r) ∧ St w0 w' I [] R := by
  unfold law13_awake at hm
  refine calls_start (args := []) Try.func8 rfl Try.ntmps8 (Nat.le_of_ble_eq_true rfl) ?_
  refine wp_seq ?_
  refine wp_region_lit ?_
  refine wl_val (v := .bool false) rfl rfl rfl ?_
  refine wl_nil ?_
  refine then_n ?_
  refine wp_seq ?_
  refine wp_region_lit ?_
  refine wl_val (v := .agg #[.int .u8 (1:Int), .int .u64 (0:Int), .int .u64 (0:Int), .int .u64 (3:Int), .int .u64 (0:Int), .int .i64 (0:Int), .int .u64 (0:Int), .int .u64 (0:Int), .int .u64 (0:Int), (.slice none 0 0), (.slice none 0 0), (.slice none 0 0), (.slice none 0 0), (.slice none 0 0), .int .i64 (0:Int), .int .u64 (0:Int), .int .u64 (0:Int), (.slice none 0 0), (.slice none 0 0), .int .u64 (0:Int), (.slice none 0 0), .int .u64 (0:Int), .int .i64 (0:Int), .int .i64 (0:Int), .float .f64 (0:Nat), .float .f64 (0:Nat), .int .u64 (0:Int), .int .i64 (0:Int), .bool false]) rfl rfl (by kernel_rfl) ?_
  have f35 : Ro tyF64 I (.slice none 0 0) [] := ro_nil
  have f36 : Ro tyF2 I (.slice none 0 0) [] := ro_nil
  have f37 : Ro tyF64 I (.slice none 0 0) [] := ro_nil
  have f38 : Ro (tyInt .u8) I (.slice none 0 0) [] := ro_nil
  have f39 : Ro ty_api_Write I (.slice none 0 0) [] := ro_nil
  have f40 : Ro ty_api_Got I (.slice none 0 0) [] := ro_nil
  have f41 : Ro (tySl ty_api_Pair) I (.slice none 0 0) [] := ro_nil
  have f42 : Ro ty_api_Part I (.slice none 0 0) [] := ro_nil
  obtain ⟨t43, ht44, hm⟩ := bind_some hm
  refine wl_call rfl rfl (x_call Try.call10 rfl (vs := [.agg #[.int .u8 (1:Int), .int .u64 (0:Int), .int .u64 (0:Int), .int .u64 (3:Int), .int .u64 (0:Int), .int .i64 (0:Int), .int .u64 (0:Int), .int .u64 (0:Int), .int .u64 (0:Int), (.slice none 0 0), (.slice none 0 0), (.slice none 0 0), (.slice none 0 0), (.slice none 0 0), .int .i64 (0:Int), .int .u64 (0:Int), .int .u64 (0:Int), (.slice none 0 0), (.slice none 0 0), .int .u64 (0:Int), (.slice none 0 0), .int .u64 (0:Int), .int .i64 (0:Int), .int .i64 (0:Int), .float .f64 (0:Nat), .float .f64 (0:Nat), .int .u64 (0:Int), .int .i64 (0:Int), .bool false]]) rfl) ?_
  refine (command_Encode_ref (f35.mono ro_rd) (f36.mono ro_rd) (f37.mono ro_rd) (f38.mono ro_rd) (f39.mono ro_rd) (f40.mono ro_rd) (f41.mono ro_rd) (f42.mono ro_rd) hst.to0 ht44).mono ?_
  rintro _ w45 ⟨v48, rfl, hst⟩
  refine ⟨_, rfl, ?_⟩
  replace hst := hst.of1
  refine wl_val (v := v48) rfl rfl rfl ?_
  refine wl_nil ?_
  refine then_n ?_
  refine wp_seq ?_
  refine wp_region_lit ?_
  refine wl_val (v := v48) rfl rfl rfl ?_
  refine wl_val (v := .string (toStr t43)) rfl rfl (x_tostr Try.underlying22 Try.underlying9 Try.underlying5 rfl hst.src0) ?_
  refine wl_val (v := .bool (sEq (toStr t43) (ByteArray.mk #[1, 3, 0, 0, 0, 0, 0, 0, 0]))) rfl rfl (by kernel_rfl) ?_
  refine wl_val (v := .bool (sEq (toStr t43) (ByteArray.mk #[1, 3, 0, 0, 0, 0, 0, 0, 0]))) rfl rfl rfl ?_
  refine bsplit (sEq (toStr t43) (ByteArray.mk #[1, 3, 0, 0, 0, 0, 0, 0, 0])) (fun hc50 => ?_) (fun hc50 => ?_)
  · skip
    replace hm := bif_t hc50 hm
    refine wl_val (v := .bool true) rfl rfl (x_pick_t hc50 rfl rfl) ?_
    refine wl_val (v := .bool true) rfl rfl rfl ?_
    refine wl_nil ?_
    refine then_n ?_
    refine wp_ret ?_
    obtain rfl := some_inj hm
    refine post_ret (vs := [.bool true]) Try.results8 (rvs_cons (rv_tmp rfl) rvs_nil) ?_
    exact ⟨rfl, hst.keep0⟩
  · skip
    replace hm := bif_f hc50 hm
    refine wl_val (v := .bool false) rfl rfl (x_pick_f hc50 rfl rfl) ?_
    refine wl_val (v := .bool false) rfl rfl rfl ?_
    refine wl_nil ?_
    refine then_n ?_
    refine wp_ret ?_
    obtain rfl := some_inj hm
    refine post_ret (vs := [.bool false]) Try.results8 (rvs_cons (rv_tmp rfl) rvs_nil) ?_
    exact ⟨rfl, hst.keep0⟩

theorem ref12_Tape_Next_ref {w0 w : World} {I : HL} {R : SP} {a0 : ref12_Tape} {p0 : Value} {a1 : Int}  (hst : St w0 w I [at_ref12_Tape p0 a0] R) {r : (Int × ref12_Tape)} (hm : ref12_Tape_Next a0 a1 = some r) :
    Calls Try.prog 22 #[p0, .int .i64 a1] w fun e w' => e = .returned (.int .i64 r.1) ∧ St w0 w' I [at_ref12_Tape p0 r.2] R := by
  unfold ref12_Tape_Next at hm
  refine calls_start (args := [p0, .int .i64 a1]) Try.func22 rfl Try.ntmps22 (Nat.le_of_ble_eq_true rfl) ?_
  refine wp_seq ?_
  refine wp_region_lit ?_
  refine wl_val (v := .int .i64 (0:Int)) rfl rfl rfl ?_
  refine wl_nil ?_
  refine then_n ?_
  refine wp_seq ?_
  refine wp_seq ?_
  obtain ⟨b67, v68, ⟨rfl, f70⟩, hst'⟩ := at_ref12_Tape_open hst
  clear hst
  have hst := hst'
  clear hst'
  refine wq_regionS hst Try.mixed (by kernel_rfl) ?_
  refine wq_run (v := .pointer (some ⟨b67, 0, none⟩)) rfl rfl (fun w hst => rfl) ?_
  refine wq_run (v := .pointer (some ⟨b67, 0, none⟩)) rfl rfl (fun w hst => rfl) ?_
  refine wq_run (v := .pointer (some ⟨b67, 1, none⟩)) rfl rfl (fun w hst => x_field rfl Try.underlying26 rfl Try.sizeOf3 rfl) ?_
  refine wq_run (v := .int .i64 a0.I) rfl rfl (fun w hst => x_load rfl Try.isAgg3 (hst.bc0 rfl)) ?_
  refine wq_run (v := .pointer (some ⟨b67, 0, none⟩)) rfl rfl (fun w hst => rfl) ?_
  refine wq_run (v := .pointer (some ⟨b67, 0, none⟩)) rfl rfl (fun w hst => rfl) ?_
  refine wq_run (v := .pointer (some ⟨b67, 0, none⟩)) rfl rfl (fun w hst => x_field rfl Try.underlying26 rfl Try.sizeOf22 rfl) ?_
  refine wq_run (v := v68) rfl rfl (fun w hst => x_load rfl Try.isAgg22 (hst.bc0 rfl)) ?_
  refine wq_run (v := .int .i64 ((a0.L).length : Int)) rfl rfl (fun w hst => x_len rfl Try.underlying22 (ro_sliceV f70)) ?_
  refine wq_run (v := .bool (decide (a0.I ≥ ((a0.L).length : Int)))) rfl rfl (fun w hst => rfl) ?_
  refine wq_nil ?_
  intro w hst
  refine then_n ?_
  refine bsplit (decide (a0.I ≥ ((a0.L).length : Int))) (fun hc71 => ?_) (fun hc71 => ?_)
  · skip
    replace hm := bif_t hc71 hm
    refine wp_ift (congrArg Value.bool hc71) ?_
    refine wp_seq ?_
    refine wp_region_lit ?_
    refine wl_val (v := .int .i64 (0:Int)) rfl rfl rfl ?_
    refine wl_nil ?_
    refine then_n ?_
    refine wp_ret ?_
    refine then_r ?_
    replace hst := at_ref12_Tape_close (pv := .pointer (some ⟨b67, 0, none⟩)) (x := a0) hst ⟨rfl, f70⟩
    obtain rfl := some_inj hm
    refine post_ret (vs := [.int .i64 (0:Int)]) Try.results22 (rvs_cons (rv_tmp rfl) rvs_nil) ?_
    exact ⟨rfl, hst.keep1⟩
  · skip
    replace hm := bif_f hc71 hm
    refine wp_iff (congrArg Value.bool hc71) ?_
    refine wp_skip ?_
    refine then_n ?_
    refine wp_seq ?_
    refine wp_region_lit ?_
    refine wl_val (v := .pointer (some ⟨b67, 0, none⟩)) rfl rfl rfl ?_
    refine wl_val (v := .pointer (some ⟨b67, 0, none⟩)) rfl rfl rfl ?_
    refine wl_val (v := .pointer (some ⟨b67, 1, none⟩)) rfl rfl (x_field rfl Try.underlying26 rfl Try.sizeOf3 rfl) ?_
    refine wl_val (v := .int .i64 a0.I) rfl rfl (x_load rfl Try.isAgg3 (hst.bc0 rfl)) ?_
    refine wl_val (v := .int .i64 (IntKind.i64.wrap (a0.I + (1:Int)))) rfl rfl rfl ?_
    refine wl_val (v := .pointer (some ⟨b67, 0, none⟩)) rfl rfl rfl ?_
    refine wl_val (v := .pointer (some ⟨b67, 1, none⟩)) rfl rfl (x_field rfl Try.underlying26 rfl Try.sizeOf3 rfl) ?_
    obtain ⟨w72, hr73, hst⟩ := hst.boxStore (P := Try.prog) (t := 3) (cs' := [v68, .int .i64 (IntKind.i64.wrap (a0.I + (1:Int)))]) 1 (.int .i64 (IntKind.i64.wrap (a0.I + (1:Int)))) Try.sizeOf3 (Nat.le_of_ble_eq_true rfl) (ones_cons rfl ones_nil) (by kernel_rfl)
    refine wl_unit rfl rfl (x_unit hr73) ?_
    refine wl_nil ?_
    refine then_n ?_
    refine wp_seq ?_
    refine wq_regionS hst Try.mixed (by kernel_rfl) ?_
    refine wq_run (v := .pointer (some ⟨b67, 0, none⟩)) rfl rfl (fun w hst => rfl) ?_
    refine wq_run (v := .pointer (some ⟨b67, 0, none⟩)) rfl rfl (fun w hst => rfl) ?_
    refine wq_run (v := .pointer (some ⟨b67, 0, none⟩)) rfl rfl (fun w hst => x_field rfl Try.underlying26 rfl Try.sizeOf22 rfl) ?_
    refine wq_run (v := v68) rfl rfl (fun w hst => x_load rfl Try.isAgg22 (hst.bc0 rfl)) ?_
    refine wq_run (v := .pointer (some ⟨b67, 0, none⟩)) rfl rfl (fun w hst => rfl) ?_
    refine wq_run (v := .pointer (some ⟨b67, 0, none⟩)) rfl rfl (fun w hst => rfl) ?_
    refine wq_run (v := .pointer (some ⟨b67, 1, none⟩)) rfl rfl (fun w hst => x_field rfl Try.underlying26 rfl Try.sizeOf3 rfl) ?_
    refine wq_run (v := .int .i64 (IntKind.i64.wrap (a0.I + (1:Int)))) rfl rfl (fun w hst => x_load rfl Try.isAgg3 (hst.bc0 rfl)) ?_
    refine wq_run (v := .int .i64 (IntKind.i64.wrap ((IntKind.i64.wrap (a0.I + (1:Int))) - (1:Int)))) rfl rfl (fun w hst => rfl) ?_
    obtain ⟨x74, hx75, hm⟩ := bind_some hm
    obtain ⟨h76, h77, hi78⟩ := geto_some hx75
    refine wq_run (v := .pointer (some (eAddr v68 ((IntKind.i64.wrap ((IntKind.i64.wrap (a0.I + (1:Int))) - (1:Int))).toNat * 1 + 0)))) rfl rfl (fun w hst => x_index rfl rfl Try.underlying22 Try.sizeOf5 (ro_sliceV f70) h76 h77) ?_
    refine wq_run (v := .int .u8 x74) rfl rfl (fun w hst => x_load rfl Try.isAgg5 (ro_load f70 hst hi78 (by rintro _ rfl; rfl))) ?_
    refine wq_run (v := .int .i64 (IntKind.i64.wrap x74)) rfl rfl (fun w hst => by kernel_rfl) ?_
    refine wq_run (v := .int .i64 a1) rfl rfl (fun w hst => rfl) ?_
    obtain ⟨hg79, hm⟩ := gd_some hm
    refine wq_run (v := .int .i64 (Int.tmod (IntKind.i64.wrap x74) a1)) rfl rfl (fun w hst => x_rem (not_t hg79) rfl rfl) ?_
    refine wq_run (v := .int .i64 (Int.tmod (IntKind.i64.wrap x74) a1)) rfl rfl (fun w hst => rfl) ?_
    refine wq_nil ?_
    intro w hst
    refine then_n ?_
    refine wp_ret ?_
    replace hst := at_ref12_Tape_close (pv := .pointer (some ⟨b67, 0, none⟩)) (x := ({ L := a0.L, I := (IntKind.i64.wrap (a0.I + (1:Int))) } : ref12_Tape)) hst ⟨rfl, f70⟩
    obtain rfl := some_inj hm
    refine post_ret (vs := [.int .i64 (Int.tmod (IntKind.i64.wrap x74) a1)]) Try.results22 (rvs_cons (rv_tmp rfl) rvs_nil) ?_
    exact ⟨rfl, hst.keep1⟩

theorem ref12_Tape_Of_ref {w0 w : World} {I : HL} {R : SP} {a0 : ref12_Tape} {p0 : Value}  (hst : St w0 w I [at_ref12_Tape p0 a0] R) {r : (api_ID × ref12_Tape)} (hm : ref12_Tape_Of a0 = some r) :
    Calls Try.prog 24 #[p0] w fun e w' => e = .returned (.agg #[.int .u64 r.1.Session, .int .u64 r.1.Seq]) ∧ St w0 w' I [at_ref12_Tape p0 r.2] R := by
  unfold ref12_Tape_Of at hm
  refine calls_start (args := [p0]) Try.func24 rfl Try.ntmps24 (Nat.le_of_ble_eq_true rfl) ?_
  refine wp_seq ?_
  refine wp_region_lit ?_
  obtain ⟨b120, w121, ew122, eb123, hst⟩ := hst.box [.int .u64 (0:Int), .int .u64 (0:Int)] 29
  refine wl_run (v := .pointer (some ⟨b120, 0, none⟩)) (w' := w121) rfl rfl (x_al (by kernel_rfl) ew122 eb123) ?_
  refine wl_nil ?_
  refine then_n ?_
  refine wp_seq ?_
  refine wp_region_lit ?_
  refine wl_val (v := p0) rfl rfl rfl ?_
  replace hst := hst.pull1
  obtain ⟨t125, ht126, hm⟩ := bind_some hm
  refine wl_call rfl rfl (x_call Try.call22 rfl (vs := [p0, .int .i64 (4:Int)]) rfl) ?_
  refine (ref12_Tape_Next_ref hst.to1 ht126).mono ?_
  rintro _ w127 ⟨rfl, hst⟩
  refine ⟨_, rfl, ?_⟩
  replace hst := hst.of1
  refine wl_val (v := .int .u64 (IntKind.u64.wrap t125.1)) rfl rfl (by kernel_rfl) ?_
  refine wl_val (v := p0) rfl rfl rfl ?_
  obtain ⟨t130, ht131, hm⟩ := bind_some hm
  refine wl_call rfl rfl (x_call Try.call22 rfl (vs := [p0, .int .i64 (4:Int)]) rfl) ?_
  refine (ref12_Tape_Next_ref hst.to1 ht131).mono ?_
  rintro _ w132 ⟨rfl, hst⟩
  refine ⟨_, rfl, ?_⟩
  replace hst := hst.of1
  refine wl_val (v := .int .i64 (IntKind.i64.wrap ((1:Int) + t130.1))) rfl rfl rfl ?_
  refine wl_val (v := .int .u64 (IntKind.u64.wrap (IntKind.i64.wrap ((1:Int) + t130.1)))) rfl rfl (by kernel_rfl) ?_
  refine wl_val (v := .agg #[.int .u64 (IntKind.u64.wrap t125.1), .int .u64 (IntKind.u64.wrap (IntKind.i64.wrap ((1:Int) + t130.1)))]) rfl rfl (by kernel_rfl) ?_
  replace hst := hst.pull1
  obtain ⟨w135, hr136, hst⟩ := hst.boxStore (P := Try.prog) (t := 29) (cs' := [.int .u64 (IntKind.u64.wrap t125.1), .int .u64 (IntKind.u64.wrap (IntKind.i64.wrap ((1:Int) + t130.1)))]) 0 (.agg #[.int .u64 (IntKind.u64.wrap t125.1), .int .u64 (IntKind.u64.wrap (IntKind.i64.wrap ((1:Int) + t130.1)))]) Try.sizeOf29 (Nat.le_of_ble_eq_true rfl) (ones_cons rfl (ones_cons rfl ones_nil)) (by kernel_rfl)
  refine wl_unit rfl rfl (x_unit hr136) ?_
  refine wl_nil ?_
  refine then_n ?_
  refine wp_ret ?_
  obtain rfl := some_inj hm
  refine post_ret (vs := [.agg #[.int .u64 (IntKind.u64.wrap t125.1), .int .u64 (IntKind.u64.wrap (IntKind.i64.wrap ((1:Int) + t130.1)))]]) Try.results24 (rvs_cons (rv_cell (cs := [.int .u64 (IntKind.u64.wrap t125.1), .int .u64 (IntKind.u64.wrap (IntKind.i64.wrap ((1:Int) + t130.1)))]) rfl Try.isAgg29 Try.sizeOf29 (hst.bcs0 0 rfl)) rvs_nil) ?_
  replace hst := hst.pull1
  exact ⟨rfl, hst.keep1⟩

theorem ref12_small_ref {w0 w : World} {I : HL} {R : SP} {a0 : Int}  (hst : St w0 w I [] R) {r : (Nat)} (hm : ref12_small a0 = some r) :
    Calls Try.prog 63 #[.int .u8 a0] w fun e w' => e = .returned (.float .f64 r) ∧ St w0 w' I [] R := by
  unfold ref12_small at hm
  refine calls_start (args := [.int .u8 a0]) Try.func63 rfl Try.ntmps63 (Nat.le_of_ble_eq_true rfl) ?_
  refine wp_seq ?_
  refine wp_region_lit ?_
  refine wl_val (v := .float .f64 (0:Nat)) rfl rfl rfl ?_
  refine wl_nil ?_
  refine then_n ?_
  refine wp_seq ?_
  refine wp_region_lit ?_
  obtain ⟨b148, w149, ew150, eb151, hst⟩ := hst.lits (E := tyF64) (xs := [(0:Nat), (4607182418800017408:Nat), (13830554455654793216:Nat), (4612811918334230528:Nat), (9094988921128908188:Nat), (18318360957983683996:Nat), (4602678819172646912:Nat), (4613937818241073152:Nat)]) [[.float .f64 (0:Nat)], [.float .f64 (4607182418800017408:Nat)], [.float .f64 (13830554455654793216:Nat)], [.float .f64 (4612811918334230528:Nat)], [.float .f64 (9094988921128908188:Nat)], [.float .f64 (18318360957983683996:Nat)], [.float .f64 (4602678819172646912:Nat)], [.float .f64 (4613937818241073152:Nat)]] 41 8 rfl (Reps.cons rfl (Reps.cons rfl (Reps.cons rfl (Reps.cons rfl (Reps.cons rfl (Reps.cons rfl (Reps.cons rfl (Reps.cons rfl Reps.nil))))))))
  refine wl_run (v := (.slice (some ⟨b148, 0, none⟩) 8 8)) (w' := w149) rfl rfl (x_als (by kernel_rfl) ew150 eb151) ?_
  refine wl_val (v := (.slice (some ⟨b148, 0, none⟩) 8 8)) rfl rfl rfl ?_
  refine wl_nil ?_
  refine then_n ?_
  refine wp_seq ?_
  refine wp_region_lit ?_
  refine wl_val (v := (.slice (some ⟨b148, 0, none⟩) 8 8)) rfl rfl rfl ?_
  refine wl_val (v := .int .u8 a0) rfl rfl rfl ?_
  refine wl_val (v := .int .u8 (Int.tmod a0 (8:Int))) rfl rfl (x_rem (by decide) rfl rfl) ?_
  obtain ⟨x153, hx154, hm⟩ := bind_some hm
  obtain ⟨h155, h156, hi157⟩ := geto_some hx154
  refine wl_val (v := .pointer (some (eAddr (.slice (some ⟨b148, 0, none⟩) 8 8) ((Int.tmod a0 (8:Int)).toNat * 1 + 0)))) rfl rfl (x_index rfl rfl Try.underlying31 Try.sizeOf41 hst.sv0 h155 h156) ?_
  refine wl_val (v := .float .f64 x153) rfl rfl (x_load rfl Try.isAgg41 (hst.ol0 hi157 (by rintro _ rfl; rfl))) ?_
  refine wl_val (v := .float .f64 x153) rfl rfl rfl ?_
  refine wl_nil ?_
  refine then_n ?_
  refine wp_ret ?_
  obtain rfl := some_inj hm
  refine post_ret (vs := [.float .f64 x153]) Try.results63 (rvs_cons (rv_tmp rfl) rvs_nil) ?_
  exact ⟨rfl, hst.keep0⟩

theorem ref12_Tape_Float_ref {w0 w : World} {I : HL} {R : SP} {a0 : ref12_Tape} {p0 : Value}  (hst : St w0 w I [at_ref12_Tape p0 a0] R) {r : (Nat × ref12_Tape)} (hm : ref12_Tape_Float a0 = some r) :
    Calls Try.prog 37 #[p0] w fun e w' => e = .returned (.float .f64 r.1) ∧ St w0 w' I [at_ref12_Tape p0 r.2] R := by
  unfold ref12_Tape_Float at hm
  refine calls_start (args := [p0]) Try.func37 rfl Try.ntmps37 (Nat.le_of_ble_eq_true rfl) ?_
  refine wp_seq ?_
  refine wp_region_lit ?_
  refine wl_val (v := .float .f64 (0:Nat)) rfl rfl rfl ?_
  refine wl_nil ?_
  refine then_n ?_
  refine wp_seq ?_
  refine wp_region_lit ?_
  refine wl_val (v := p0) rfl rfl rfl ?_
  obtain ⟨t144, ht145, hm⟩ := bind_some hm
  refine wl_call rfl rfl (x_call Try.call22 rfl (vs := [p0, .int .i64 (8:Int)]) rfl) ?_
  refine (ref12_Tape_Next_ref hst.to1 ht145).mono ?_
  rintro _ w146 ⟨rfl, hst⟩
  refine ⟨_, rfl, ?_⟩
  replace hst := hst.of1
  refine wl_val (v := .int .u8 (IntKind.u8.wrap t144.1)) rfl rfl (by kernel_rfl) ?_
  obtain ⟨t149, ht150, hm⟩ := bind_some hm
  refine wl_call rfl rfl (x_call Try.call63 rfl (vs := [.int .u8 (IntKind.u8.wrap t144.1)]) rfl) ?_
  refine (ref12_small_ref hst.to0 ht150).mono ?_
  rintro _ w151 ⟨rfl, hst⟩
  refine ⟨_, rfl, ?_⟩
  replace hst := hst.of0
  refine wl_val (v := .float .f64 t149) rfl rfl rfl ?_
  refine wl_nil ?_
  refine then_n ?_
  refine wp_ret ?_
  obtain rfl := some_inj hm
  refine post_ret (vs := [.float .f64 t149]) Try.results37 (rvs_cons (rv_tmp rfl) rvs_nil) ?_
  exact ⟨rfl, hst.keep1⟩

theorem ref12_Tape_Val_ref {w0 w : World} {I : HL} {R : SP} {a0 : ref12_Tape} {p0 : Value}  (hst : St w0 w I [at_ref12_Tape p0 a0] R) {r : ((List Int) × ref12_Tape)} (hm : ref12_Tape_Val a0 = some r) :
    Calls Try.prog 36 #[p0] w fun e w' => ∃ (q0_0 : Value), e = .returned (q0_0) ∧ St w0 w' I [ownS (tyInt .u8) q0_0 r.1, at_ref12_Tape p0 r.2] R := by
  unfold ref12_Tape_Val at hm
  refine calls_start (args := [p0]) Try.func36 rfl Try.ntmps36 (Nat.le_of_ble_eq_true rfl) ?_
  refine wp_seq ?_
  refine wp_region_lit ?_
  refine wl_val (v := (.slice none 0 0)) rfl rfl rfl ?_
  refine wl_nil ?_
  refine then_n ?_
  refine wp_seq ?_
  refine wp_region_lit ?_
  refine wl_val (v := (.slice none 0 0)) rfl rfl rfl ?_
  refine wl_nil ?_
  refine then_n ?_
  refine wp_seq ?_
  refine wp_region_lit ?_
  refine wl_val (v := p0) rfl rfl rfl ?_
  obtain ⟨t541, ht542, hm⟩ := bind_some hm
  refine wl_call rfl rfl (x_call Try.call22 rfl (vs := [p0, .int .i64 (4:Int)]) rfl) ?_
  refine (ref12_Tape_Next_ref hst.to1 ht542).mono ?_
  rintro _ w543 ⟨rfl, hst⟩
  refine ⟨_, rfl, ?_⟩
  replace hst := hst.of1
  refine wl_val (v := .int .i64 t541.1) rfl rfl rfl ?_
  refine wl_nil ?_
  refine then_n ?_
  refine wp_seq ?_
  refine wp_seq ?_
  refine wp_region_lit ?_
  refine wl_val (v := .int .i64 (0:Int)) rfl rfl rfl ?_
  refine wl_nil ?_
  refine then_n ?_
  refine wp_block ?_
  replace hst := hst.own_nil (tyInt .u8)
  obtain ⟨n602, hm⟩ := loopO_some hm
  refine wp_loop_n (fun n a w => ∃ (z596 : ref12_Tape) (z597 : (List Int)) (z600 : Int) (v598 : Value) (σ601 : Nat → Value), loopN (ref12_Tape_Val_l0 t541) n (z596, z597, z600) = some r ∧ a = Fr 21 (upd (upd (upd (upd σ601 0 (p0)) 3 (v598)) 4 (.int .i64 t541.1)) 5 (.int .i64 z600)) ∧ St w0 w I [ownS (tyInt .u8) v598 z597, at_ref12_Tape p0 z596] R) n602 ⟨t541.2, [], (0:Int), (.slice none 0 0), _, hm, ((fr_upd (t := 0) (v := p0) rfl).trans ((fr_upd (t := 3) (v := (.slice none 0 0)) rfl).trans ((fr_upd (t := 4) (v := .int .i64 t541.1) rfl).trans ((fr_upd (t := 5) (v := .int .i64 (0:Int)) rfl).trans rfl)))), hst⟩ ?_
  rintro n608 _ w603 ⟨z596, z597, z600, v598, σ601, hm, rfl, hst⟩
  obtain ⟨n605, y606, rfl, hm, hx607⟩ := loopN_some hm
  dsimp only [ref12_Tape_Val_l0] at hm
  refine wp_seq ?_
  refine wp_seq ?_
  refine wp_region_lit ?_
  refine wl_val (v := .int .i64 z600) rfl rfl rfl ?_
  refine wl_val (v := .int .i64 t541.1) rfl rfl rfl ?_
  refine wl_val (v := .bool (decide (z600 < t541.1))) rfl rfl rfl ?_
  refine wl_nil ?_
  refine then_n ?_
  refine bsplit (decide (z600 < t541.1)) (fun hc609 => ?_) (fun hc609 => ?_)
  · skip
    replace hm := bif_t hc609 hm
    refine wp_ift (congrArg Value.bool hc609) ?_
    refine wp_skip ?_
    refine then_n ?_
    refine wp_seq ?_
    refine wp_block ?_
    refine wp_region_lit ?_
    refine wl_val (v := v598) rfl rfl rfl ?_
    refine wl_val (v := p0) rfl rfl rfl ?_
    replace hst := hst.pull1
    obtain ⟨t610, ht611, hm⟩ := bind_some hm
    refine wl_call rfl rfl (x_call Try.call22 rfl (vs := [p0, .int .i64 (26:Int)]) rfl) ?_
    refine (ref12_Tape_Next_ref hst.to1 ht611).mono ?_
    rintro _ w612 ⟨rfl, hst⟩
    refine ⟨_, rfl, ?_⟩
    replace hst := hst.of1
    refine wl_val (v := .int .i64 (IntKind.i64.wrap ((97:Int) + t610.1))) rfl rfl rfl ?_
    refine wl_val (v := .int .u8 (IntKind.u8.wrap (IntKind.i64.wrap ((97:Int) + t610.1)))) rfl rfl (by kernel_rfl) ?_
    obtain ⟨b615, w616, ew617, eb618, hst⟩ := hst.lits (E := (tyInt .u8)) (xs := [(IntKind.u8.wrap (IntKind.i64.wrap ((97:Int) + t610.1)))]) [[.int .u8 (IntKind.u8.wrap (IntKind.i64.wrap ((97:Int) + t610.1)))]] 5 1 rfl (Reps.cons rfl Reps.nil)
    refine wl_run (v := (.slice (some ⟨b615, 0, none⟩) 1 1)) (w' := w616) rfl rfl (x_als (by kernel_rfl) ew617 eb618) ?_
    obtain ⟨hg620, hm⟩ := gd_some hm
    replace hst := hst.pull2
    obtain ⟨v621, w622, hr623, hst⟩ := run_append elem_22 Try.underlying22 hst hst.src1 (room_of hg620 rfl) 22
    refine wl_run (v := v621) (w' := w622) rfl rfl (x_append rfl rfl hr623) ?_
    refine wl_val (v := v621) rfl rfl rfl ?_
    refine wl_nil ?_
    refine blk_n ?_
    refine then_n ?_
    refine wp_region_lit ?_
    refine wl_val (v := .int .i64 z600) rfl rfl rfl ?_
    refine wl_val (v := .int .i64 (IntKind.i64.wrap (z600 + (1:Int)))) rfl rfl rfl ?_
    refine wl_val (v := .int .i64 (IntKind.i64.wrap (z600 + (1:Int)))) rfl rfl rfl ?_
    refine wl_nil ?_
    refine then_n ?_
    replace hst := hst.pull2
    replace hst := hst.pull1
    replace hst := hst.keep2
    obtain rfl := some_inj hm
    exact ⟨_, Nat.lt_succ_self _, t610.2, (z597 ++ ([(IntKind.u8.wrap (IntKind.i64.wrap ((97:Int) + t610.1)))])), (IntKind.i64.wrap (z600 + (1:Int))), v621, _, hx607, ((fr_upd (t := 0) (v := p0) rfl).trans ((fr_upd (t := 3) (v := v621) rfl).trans ((fr_upd (t := 4) (v := .int .i64 t541.1) rfl).trans ((fr_upd (t := 5) (v := .int .i64 (IntKind.i64.wrap (z600 + (1:Int)))) rfl).trans rfl)))), hst⟩
  · skip
    replace hm := bif_f hc609 hm
    refine wp_iff (congrArg Value.bool hc609) ?_
    refine wp_exit ?_
    refine then_x ?_
    refine then_x ?_
    replace hm := inr_up hm hx607
    refine blk_x ?_
    refine then_n ?_
    refine wp_seq ?_
    refine wp_region_lit ?_
    refine wl_val (v := v598) rfl rfl rfl ?_
    refine wl_val (v := v598) rfl rfl rfl ?_
    refine wl_nil ?_
    refine then_n ?_
    refine wp_ret ?_
    obtain rfl := some_inj hm
    refine post_ret (vs := [v598]) Try.results36 (rvs_cons (rv_tmp rfl) rvs_nil) ?_
    replace hst := hst.pull1
    replace hst := hst.pull1
    exact ⟨v598, rfl, hst.keep2⟩

theorem ref12_Tape_Hold_ref {w0 w : World} {I : HL} {R : SP} {a0 : ref12_Tape} {p0 : Value}  (hst : St w0 w I [at_ref12_Tape p0 a0] R) {r : (api_Hold × ref12_Tape)} (hm : ref12_Tape_Hold a0 = some r) :
    Calls Try.prog 23 #[p0] w fun e w' => ∃ (q0_0 : Value) (q0_1 : Value) (q0_2 : Value) (q0_3 : Value), e = .returned (.agg #[.int .u64 r.1.ID.Session, .int .u64 r.1.ID.Seq, .int .u64 r.1.Epoch, q0_0, q0_1, q0_2, q0_3]) ∧ St w0 w' I [ownS tyF64 q0_0 r.1.Gets, ownS tyF2 q0_1 r.1.Scans, ownS tyF64 q0_2 r.1.Puts, ownS (tyInt .u8) q0_3 r.1.Data, at_ref12_Tape p0 r.2] R := by
  unfold ref12_Tape_Hold at hm
  refine calls_start (args := [p0]) Try.func23 rfl Try.ntmps23 (Nat.le_of_ble_eq_true rfl) ?_
  refine wp_seq ?_
  refine wp_region_lit ?_
  obtain ⟨b470, w471, ew472, eb473, hst⟩ := hst.box [.int .u64 (0:Int), .int .u64 (0:Int), .int .u64 (0:Int), (.slice none 0 0), (.slice none 0 0), (.slice none 0 0), (.slice none 0 0)] 34
  refine wl_run (v := .pointer (some ⟨b470, 0, none⟩)) (w' := w471) rfl rfl (x_al (by kernel_rfl) ew472 eb473) ?_
  refine wl_nil ?_
  refine then_n ?_
  refine wp_seq ?_
  refine wp_region_lit ?_
  refine wl_val (v := p0) rfl rfl rfl ?_
  replace hst := hst.pull1
  obtain ⟨t475, ht476, hm⟩ := bind_some hm
  refine wl_call rfl rfl (x_call Try.call24 rfl (vs := [p0]) rfl) ?_
  refine (ref12_Tape_Of_ref hst.to1 ht476).mono ?_
  rintro _ w477 ⟨rfl, hst⟩
  refine ⟨_, rfl, ?_⟩
  replace hst := hst.of1
  refine wl_val (v := p0) rfl rfl rfl ?_
  obtain ⟨t480, ht481, hm⟩ := bind_some hm
  refine wl_call rfl rfl (x_call Try.call22 rfl (vs := [p0, .int .i64 (4:Int)]) rfl) ?_
  refine (ref12_Tape_Next_ref hst.to1 ht481).mono ?_
  rintro _ w482 ⟨rfl, hst⟩
  refine ⟨_, rfl, ?_⟩
  replace hst := hst.of1
  refine wl_val (v := .int .i64 (IntKind.i64.wrap ((1:Int) + t480.1))) rfl rfl rfl ?_
  refine wl_val (v := .int .u64 (IntKind.u64.wrap (IntKind.i64.wrap ((1:Int) + t480.1)))) rfl rfl (by kernel_rfl) ?_
  refine wl_val (v := .agg #[.int .u64 t475.1.Session, .int .u64 t475.1.Seq, .int .u64 (IntKind.u64.wrap (IntKind.i64.wrap ((1:Int) + t480.1))), (.slice none 0 0), (.slice none 0 0), (.slice none 0 0), (.slice none 0 0)]) rfl rfl (by kernel_rfl) ?_
  obtain ⟨b493, w494, ew495, eb496, hst⟩ := hst.box [.int .u64 (0:Int), .int .u64 (0:Int), .int .u64 (0:Int), (.slice none 0 0), (.slice none 0 0), (.slice none 0 0), (.slice none 0 0)] 34
  refine wl_run (v := .pointer (some ⟨b493, 0, none⟩)) (w' := w494) rfl rfl (x_al (by kernel_rfl) ew495 eb496) ?_
  obtain ⟨w498, hr499, hst⟩ := hst.boxStore (P := Try.prog) (t := 34) (cs' := [.int .u64 t475.1.Session, .int .u64 t475.1.Seq, .int .u64 (IntKind.u64.wrap (IntKind.i64.wrap ((1:Int) + t480.1))), (.slice none 0 0), (.slice none 0 0), (.slice none 0 0), (.slice none 0 0)]) 0 (.agg #[.int .u64 t475.1.Session, .int .u64 t475.1.Seq, .int .u64 (IntKind.u64.wrap (IntKind.i64.wrap ((1:Int) + t480.1))), (.slice none 0 0), (.slice none 0 0), (.slice none 0 0), (.slice none 0 0)]) Try.sizeOf34 (Nat.le_of_ble_eq_true rfl) (ones_cons rfl (ones_cons rfl (ones_cons rfl (ones_cons rfl (ones_cons rfl (ones_cons rfl (ones_cons rfl ones_nil))))))) (by kernel_rfl)
  refine wl_unit rfl rfl (x_unit hr499) ?_
  refine wl_nil ?_
  refine then_n ?_
  refine wp_seq ?_
  refine wp_region_lit ?_
  refine wl_val (v := p0) rfl rfl rfl ?_
  replace hst := hst.pull1
  obtain ⟨t500, ht501, hm⟩ := bind_some hm
  refine wl_call rfl rfl (x_call Try.call22 rfl (vs := [p0, .int .i64 (3:Int)]) rfl) ?_
  refine (ref12_Tape_Next_ref hst.to1 ht501).mono ?_
  rintro _ w502 ⟨rfl, hst⟩
  refine ⟨_, rfl, ?_⟩
  replace hst := hst.of1
  refine wl_val (v := .int .i64 t500.1) rfl rfl rfl ?_
  refine wl_nil ?_
  refine then_n ?_
  obtain ⟨y597, hm, hx598⟩ := bind_some hm
  refine wp_cut (fun a w => ∃ (z591 : ref12_Tape) (z594 : (List Nat)) (v593 : Value) (σ595 : Nat → Value), (ref12_Tape_Hold_j0 t475 t480) (z591, z594) = some r ∧ a = Fr 68 (upd (upd (upd σ595 0 (p0)) 2 (.pointer (some ⟨b470, 0, none⟩))) 3 (.pointer (some ⟨b493, 0, none⟩))) ∧ St w0 w I [at_ref12_Tape p0 z591, cells b470 [.int .u64 (0:Int), .int .u64 (0:Int), .int .u64 (0:Int), (.slice none 0 0), (.slice none 0 0), (.slice none 0 0), (.slice none 0 0)], cells b493 [.int .u64 t475.1.Session, .int .u64 t475.1.Seq, .int .u64 (IntKind.u64.wrap (IntKind.i64.wrap ((1:Int) + t480.1))), v593, (.slice none 0 0), (.slice none 0 0), (.slice none 0 0)], ownS tyF64 v593 z594] R) ?_ ?_
  · skip
    refine wp_seq ?_
    refine wp_region_lit ?_
    refine wl_val (v := .int .i64 (0:Int)) rfl rfl rfl ?_
    refine wl_nil ?_
    refine then_n ?_
    refine wp_block ?_
    replace hst := hst.own_nil tyF64
    obtain ⟨n567, hm⟩ := loopO_some hm
    refine wp_loop_n (fun n a w => ∃ (z561 : (List Nat)) (z564 : ref12_Tape) (z565 : Int) (v562 : Value) (σ566 : Nat → Value), loopN (ref12_Tape_Hold_l1 t500) n (z561, z564, z565) = some y597 ∧ a = Fr 68 (upd (upd (upd (upd (upd σ566 0 (p0)) 2 (.pointer (some ⟨b470, 0, none⟩))) 3 (.pointer (some ⟨b493, 0, none⟩))) 4 (.int .i64 t500.1)) 5 (.int .i64 z565)) ∧ St w0 w I [ownS tyF64 v562 z561, at_ref12_Tape p0 z564, cells b493 [.int .u64 t475.1.Session, .int .u64 t475.1.Seq, .int .u64 (IntKind.u64.wrap (IntKind.i64.wrap ((1:Int) + t480.1))), v562, (.slice none 0 0), (.slice none 0 0), (.slice none 0 0)], cells b470 [.int .u64 (0:Int), .int .u64 (0:Int), .int .u64 (0:Int), (.slice none 0 0), (.slice none 0 0), (.slice none 0 0), (.slice none 0 0)]] R) n567 ⟨[], t500.2, (0:Int), (.slice none 0 0), _, hm, ((fr_upd (t := 0) (v := p0) rfl).trans ((fr_upd (t := 2) (v := .pointer (some ⟨b470, 0, none⟩)) rfl).trans ((fr_upd (t := 3) (v := .pointer (some ⟨b493, 0, none⟩)) rfl).trans ((fr_upd (t := 4) (v := .int .i64 t500.1) rfl).trans ((fr_upd (t := 5) (v := .int .i64 (0:Int)) rfl).trans rfl))))), hst⟩ ?_
    rintro n573 _ w568 ⟨z561, z564, z565, v562, σ566, hm, rfl, hst⟩
    obtain ⟨n570, y571, rfl, hm, hx572⟩ := loopN_some hm
    dsimp only [ref12_Tape_Hold_l1] at hm
    refine wp_seq ?_
    refine wp_seq ?_
    refine wp_region_lit ?_
    refine wl_val (v := .int .i64 z565) rfl rfl rfl ?_
    refine wl_val (v := .int .i64 t500.1) rfl rfl rfl ?_
    refine wl_val (v := .bool (decide (z565 < t500.1))) rfl rfl rfl ?_
    refine wl_nil ?_
    refine then_n ?_
    refine bsplit (decide (z565 < t500.1)) (fun hc574 => ?_) (fun hc574 => ?_)
    · skip
      replace hm := bif_t hc574 hm
      refine wp_ift (congrArg Value.bool hc574) ?_
      refine wp_skip ?_
      refine then_n ?_
      refine wp_seq ?_
      refine wp_block ?_
      refine wp_region_St hst 8 [0, 1, 2, 3, 4, 5, 6, 7] [0, 1, 0, 4, 12, 31, 63, 127] [] rfl (by kernel_rfl) (by kernel_rfl) Try.mixed (by kernel_rfl) ?_
      refine ws_q (v := .pointer (some ⟨b493, 3, none⟩)) 0 [1, 2, 3, 4, 5, 6, 7] (by kernel_rfl) rfl rfl (yi_run rfl (fun w hst => x_field rfl Try.underlying34 rfl Try.sizeOf31 rfl)) ?_
      refine ws_q (v := v562) 1 [2, 3, 4, 5, 6, 7] (by kernel_rfl) rfl rfl (yi_run rfl (fun w hst => x_load rfl Try.isAgg31 (hst.bc2 rfl))) ?_
      refine ws_q (v := p0) 2 [3, 4, 5, 6, 7] (by kernel_rfl) rfl rfl (yi_run rfl (fun w hst => rfl)) ?_
      refine ws_e1 3 (by kernel_rfl) ?_
      refine nxe [4, 5, 6, 7] (by kernel_rfl) rfl rfl ?_
      clear hst
      intro w hst
      replace hst := hst.pull1
      obtain ⟨t575, ht576, hm⟩ := bind_some hm
      refine we_call rfl (x_call Try.call37 rfl (vs := [p0]) rfl) ?_
      refine (ref12_Tape_Float_ref hst.to1 ht576).mono ?_
      rintro _ w577 ⟨rfl, hst⟩
      refine ⟨_, rfl, ?_⟩
      replace hst := hst.of1
      refine ws_next (pend' := [(1, v562), (0, .pointer (some ⟨b493, 3, none⟩))]) hst (by kernel_rfl) (pk_cons rfl (yi_run rfl (fun w hst => x_load rfl Try.isAgg31 (hst.bc2 rfl))) (pk_cons rfl (yi_run rfl (fun w hst => x_field rfl Try.underlying34 rfl Try.sizeOf31 rfl)) pk_nil)) ?_
      refine ws_e1 4 (by kernel_rfl) ?_
      refine nxe [5, 6, 7] (by kernel_rfl) rfl rfl ?_
      clear hst
      intro w hst
      obtain ⟨b580, w581, ew582, eb583, hst⟩ := hst.lits (E := tyF64) (xs := [t575.1]) [[.float .f64 t575.1]] 41 1 rfl (Reps.cons rfl Reps.nil)
      refine we_run (v := (.slice (some ⟨b580, 0, none⟩) 1 1)) (w' := w581) rfl (x_als (by kernel_rfl) ew582 eb583) ?_
      refine ws_next (pend' := [(1, v562), (0, .pointer (some ⟨b493, 3, none⟩))]) hst (by kernel_rfl) (pk_cons rfl (yi_run rfl (fun w hst => x_load rfl Try.isAgg31 (hst.bc3 rfl))) (pk_cons rfl (yi_run rfl (fun w hst => x_field rfl Try.underlying34 rfl Try.sizeOf31 rfl)) pk_nil)) ?_
      refine ws_e1 5 (by kernel_rfl) ?_
      refine nxe [6, 7] (by kernel_rfl) rfl rfl ?_
      clear hst
      intro w hst
      obtain ⟨hg585, hm⟩ := gd_some hm
      replace hst := hst.pull2
      obtain ⟨v586, w587, hr588, hst⟩ := run_append elem_31 Try.underlying31 hst hst.src1 (room_of hg585 rfl) 31
      refine we_run (v := v586) (w' := w587) rfl (x_append rfl rfl hr588) ?_
      refine ws_next (pend' := []) hst (by kernel_rfl) pk_nil ?_
      refine ws_q (v := .pointer (some ⟨b493, 3, none⟩)) 6 [7] (by kernel_rfl) rfl rfl (yi_run rfl (fun w hst => x_field rfl Try.underlying34 rfl Try.sizeOf31 rfl)) ?_
      refine ws_e1 7 (by kernel_rfl) ?_
      refine nxe [] (by kernel_rfl) rfl rfl ?_
      clear hst
      intro w hst
      replace hst := hst.pull3
      obtain ⟨w589, hr590, hst⟩ := hst.boxStore1 (P := Try.prog) (t := 31) (cs' := [.int .u64 t475.1.Session, .int .u64 t475.1.Seq, .int .u64 (IntKind.u64.wrap (IntKind.i64.wrap ((1:Int) + t480.1))), v586, (.slice none 0 0), (.slice none 0 0), (.slice none 0 0)]) 3 v586 (one_of_sliceV hst.sv1) Try.sizeOf31 rfl rfl
      refine we_unit rfl (x_unit hr590) ?_
      refine ws_next (pend' := []) hst (by kernel_rfl) pk_nil ?_
      refine ws_nil ?_
      intro w hst
      refine blk_n ?_
      refine then_n ?_
      refine wp_region_lit ?_
      refine wl_val (v := .int .i64 z565) rfl rfl rfl ?_
      refine wl_val (v := .int .i64 (IntKind.i64.wrap (z565 + (1:Int)))) rfl rfl rfl ?_
      refine wl_val (v := .int .i64 (IntKind.i64.wrap (z565 + (1:Int)))) rfl rfl rfl ?_
      refine wl_nil ?_
      refine then_n ?_
      replace hst := hst.pull4
      replace hst := hst.pull1
      replace hst := hst.pull4
      replace hst := hst.pull3
      replace hst := hst.keep4
      obtain rfl := some_inj hm
      exact ⟨_, Nat.lt_succ_self _, (z561 ++ ([t575.1])), t575.2, (IntKind.i64.wrap (z565 + (1:Int))), v586, _, hx572, ((fr_upd (t := 0) (v := p0) rfl).trans ((fr_upd (t := 2) (v := .pointer (some ⟨b470, 0, none⟩)) rfl).trans ((fr_upd (t := 3) (v := .pointer (some ⟨b493, 0, none⟩)) rfl).trans ((fr_upd (t := 4) (v := .int .i64 t500.1) rfl).trans ((fr_upd (t := 5) (v := .int .i64 (IntKind.i64.wrap (z565 + (1:Int)))) rfl).trans rfl))))), hst⟩
    · skip
      replace hm := bif_f hc574 hm
      refine wp_iff (congrArg Value.bool hc574) ?_
      refine wp_exit ?_
      refine then_x ?_
      refine then_x ?_
      replace hm := inr_up hm hx572
      refine blk_x ?_
      refine then_n ?_
      replace hst := hst.pull2
      replace hst := hst.pull3
      replace hst := hst.pull3
      replace hst := hst.keep4
      obtain rfl := some_inj hm
      exact ⟨z564, z561, v562, _, hx598, ((fr_upd (t := 0) (v := p0) rfl).trans ((fr_upd (t := 2) (v := .pointer (some ⟨b470, 0, none⟩)) rfl).trans ((fr_upd (t := 3) (v := .pointer (some ⟨b493, 0, none⟩)) rfl).trans rfl))), hst⟩
  · skip
    clear hst
    rintro _ w599 ⟨z591, z594, v593, σ595, hm, rfl, hst⟩
    dsimp only [ref12_Tape_Hold_j0] at hm
    refine wp_seq ?_
    refine wp_region_lit ?_
    refine wl_val (v := p0) rfl rfl rfl ?_
    obtain ⟨t600, ht601, hm⟩ := bind_some hm
    refine wl_call rfl rfl (x_call Try.call22 rfl (vs := [p0, .int .i64 (3:Int)]) rfl) ?_
    refine (ref12_Tape_Next_ref hst.to1 ht601).mono ?_
    rintro _ w602 ⟨rfl, hst⟩
    refine ⟨_, rfl, ?_⟩
    replace hst := hst.of1
    refine wl_val (v := .int .i64 (IntKind.i64.wrap (Int.tdiv t600.1 (2:Int)))) rfl rfl (x_quo (by decide) rfl rfl) ?_
    refine wl_val (v := .int .i64 (IntKind.i64.wrap (Int.tdiv t600.1 (2:Int)))) rfl rfl rfl ?_
    refine wl_nil ?_
    refine then_n ?_
    obtain ⟨y717, hm, hx718⟩ := bind_some hm
    refine wp_cut (fun a w => ∃ (z711 : ref12_Tape) (z714 : (List (Nat × Nat))) (v713 : Value) (σ715 : Nat → Value), (ref12_Tape_Hold_j2 t475 t480 z594) (z711, z714) = some r ∧ a = Fr 68 (upd (upd (upd σ715 0 (p0)) 2 (.pointer (some ⟨b470, 0, none⟩))) 3 (.pointer (some ⟨b493, 0, none⟩))) ∧ St w0 w I [at_ref12_Tape p0 z711, cells b470 [.int .u64 (0:Int), .int .u64 (0:Int), .int .u64 (0:Int), (.slice none 0 0), (.slice none 0 0), (.slice none 0 0), (.slice none 0 0)], cells b493 [.int .u64 t475.1.Session, .int .u64 t475.1.Seq, .int .u64 (IntKind.u64.wrap (IntKind.i64.wrap ((1:Int) + t480.1))), v593, v713, (.slice none 0 0), (.slice none 0 0)], ownS tyF64 v593 z594, ownS tyF2 v713 z714] R) ?_ ?_
    · skip
      refine wp_seq ?_
      refine wp_region_lit ?_
      refine wl_val (v := .int .i64 (0:Int)) rfl rfl rfl ?_
      refine wl_nil ?_
      refine then_n ?_
      refine wp_block ?_
      replace hst := hst.own_nil tyF2
      obtain ⟨n682, hm⟩ := loopO_some hm
      refine wp_loop_n (fun n a w => ∃ (z676 : (List (Nat × Nat))) (z679 : ref12_Tape) (z680 : Int) (v677 : Value) (σ681 : Nat → Value), loopN (ref12_Tape_Hold_l3 t600) n (z676, z679, z680) = some y717 ∧ a = Fr 68 (upd (upd (upd (upd (upd σ681 0 (p0)) 2 (.pointer (some ⟨b470, 0, none⟩))) 3 (.pointer (some ⟨b493, 0, none⟩))) 4 (.int .i64 (IntKind.i64.wrap (Int.tdiv t600.1 (2:Int))))) 6 (.int .i64 z680)) ∧ St w0 w I [ownS tyF2 v677 z676, at_ref12_Tape p0 z679, cells b470 [.int .u64 (0:Int), .int .u64 (0:Int), .int .u64 (0:Int), (.slice none 0 0), (.slice none 0 0), (.slice none 0 0), (.slice none 0 0)], cells b493 [.int .u64 t475.1.Session, .int .u64 t475.1.Seq, .int .u64 (IntKind.u64.wrap (IntKind.i64.wrap ((1:Int) + t480.1))), v593, v677, (.slice none 0 0), (.slice none 0 0)], ownS tyF64 v593 z594] R) n682 ⟨[], t600.2, (0:Int), (.slice none 0 0), _, hm, ((fr_upd (t := 0) (v := p0) rfl).trans ((fr_upd (t := 2) (v := .pointer (some ⟨b470, 0, none⟩)) rfl).trans ((fr_upd (t := 3) (v := .pointer (some ⟨b493, 0, none⟩)) rfl).trans ((fr_upd (t := 4) (v := .int .i64 (IntKind.i64.wrap (Int.tdiv t600.1 (2:Int)))) rfl).trans ((fr_upd (t := 6) (v := .int .i64 (0:Int)) rfl).trans rfl))))), hst⟩ ?_
      rintro n688 _ w683 ⟨z676, z679, z680, v677, σ681, hm, rfl, hst⟩
      obtain ⟨n685, y686, rfl, hm, hx687⟩ := loopN_some hm
      dsimp only [ref12_Tape_Hold_l3] at hm
      refine wp_seq ?_
      refine wp_seq ?_
      refine wp_region_lit ?_
      refine wl_val (v := .int .i64 z680) rfl rfl rfl ?_
      refine wl_val (v := .int .i64 (IntKind.i64.wrap (Int.tdiv t600.1 (2:Int)))) rfl rfl rfl ?_
      refine wl_val (v := .bool (decide (z680 < (IntKind.i64.wrap (Int.tdiv t600.1 (2:Int)))))) rfl rfl rfl ?_
      refine wl_nil ?_
      refine then_n ?_
      refine bsplit (decide (z680 < (IntKind.i64.wrap (Int.tdiv t600.1 (2:Int))))) (fun hc689 => ?_) (fun hc689 => ?_)
      · skip
        replace hm := bif_t hc689 hm
        refine wp_ift (congrArg Value.bool hc689) ?_
        refine wp_skip ?_
        refine then_n ?_
        refine wp_seq ?_
        refine wp_block ?_
        refine wp_region_St hst 11 [0, 1, 2, 3, 4, 5, 6, 7, 8, 9, 10] [0, 1, 0, 4, 0, 28, 60, 124, 255, 511, 1023] [] rfl (by kernel_rfl) (by kernel_rfl) Try.mixed (by kernel_rfl) ?_
        refine ws_q (v := .pointer (some ⟨b493, 4, none⟩)) 0 [1, 2, 3, 4, 5, 6, 7, 8, 9, 10] (by kernel_rfl) rfl rfl (yi_run rfl (fun w hst => x_field rfl Try.underlying34 rfl Try.sizeOf32 rfl)) ?_
        refine ws_q (v := v677) 1 [2, 3, 4, 5, 6, 7, 8, 9, 10] (by kernel_rfl) rfl rfl (yi_run rfl (fun w hst => x_load rfl Try.isAgg32 (hst.bc3 rfl))) ?_
        refine ws_q (v := p0) 2 [3, 4, 5, 6, 7, 8, 9, 10] (by kernel_rfl) rfl rfl (yi_run rfl (fun w hst => rfl)) ?_
        refine ws_q (v := p0) 4 [3, 5, 6, 7, 8, 9, 10] (by kernel_rfl) rfl rfl (yi_run rfl (fun w hst => rfl)) ?_
        refine ws_e1 3 (by kernel_rfl) ?_
        refine nxe [5, 6, 7, 8, 9, 10] (by kernel_rfl) rfl rfl ?_
        clear hst
        intro w hst
        replace hst := hst.pull1
        obtain ⟨t690, ht691, hm⟩ := bind_some hm
        refine we_call rfl (x_call Try.call37 rfl (vs := [p0]) rfl) ?_
        refine (ref12_Tape_Float_ref hst.to1 ht691).mono ?_
        rintro _ w692 ⟨rfl, hst⟩
        refine ⟨_, rfl, ?_⟩
        replace hst := hst.of1
        refine ws_next (pend' := [(4, p0), (1, v677), (0, .pointer (some ⟨b493, 4, none⟩))]) hst (by kernel_rfl) (pk_cons rfl (yi_run rfl (fun w hst => rfl)) (pk_cons rfl (yi_run rfl (fun w hst => x_load rfl Try.isAgg32 (hst.bc3 rfl))) (pk_cons rfl (yi_run rfl (fun w hst => x_field rfl Try.underlying34 rfl Try.sizeOf32 rfl)) pk_nil))) ?_
        refine ws_e1 5 (by kernel_rfl) ?_
        refine nxe [6, 7, 8, 9, 10] (by kernel_rfl) rfl rfl ?_
        clear hst
        intro w hst
        obtain ⟨t695, ht696, hm⟩ := bind_some hm
        refine we_call rfl (x_call Try.call37 rfl (vs := [p0]) rfl) ?_
        refine (ref12_Tape_Float_ref hst.to1 ht696).mono ?_
        rintro _ w697 ⟨rfl, hst⟩
        refine ⟨_, rfl, ?_⟩
        replace hst := hst.of1
        refine ws_next (pend' := [(1, v677), (0, .pointer (some ⟨b493, 4, none⟩))]) hst (by kernel_rfl) (pk_cons rfl (yi_run rfl (fun w hst => x_load rfl Try.isAgg32 (hst.bc3 rfl))) (pk_cons rfl (yi_run rfl (fun w hst => x_field rfl Try.underlying34 rfl Try.sizeOf32 rfl)) pk_nil)) ?_
        refine ws_q (v := .agg #[.float .f64 t690.1, .float .f64 t695.1]) 6 [7, 8, 9, 10] (by kernel_rfl) rfl rfl (yi_run rfl (fun w hst => by kernel_rfl)) ?_
        refine ws_e1 7 (by kernel_rfl) ?_
        refine nxe [8, 9, 10] (by kernel_rfl) rfl rfl ?_
        clear hst
        intro w hst
        obtain ⟨b700, w701, ew702, eb703, hst⟩ := hst.lits (E := tyF2) (xs := [(t690.1, t695.1)]) [[.float .f64 t690.1, .float .f64 t695.1]] 111 1 rfl (Reps.cons rfl Reps.nil)
        refine we_run (v := (.slice (some ⟨b700, 0, none⟩) 1 1)) (w' := w701) rfl (x_als (by kernel_rfl) ew702 eb703) ?_
        refine ws_next (pend' := [(1, v677), (0, .pointer (some ⟨b493, 4, none⟩))]) hst (by kernel_rfl) (pk_cons rfl (yi_run rfl (fun w hst => x_load rfl Try.isAgg32 (hst.bc4 rfl))) (pk_cons rfl (yi_run rfl (fun w hst => x_field rfl Try.underlying34 rfl Try.sizeOf32 rfl)) pk_nil)) ?_
        refine ws_e1 8 (by kernel_rfl) ?_
        refine nxe [9, 10] (by kernel_rfl) rfl rfl ?_
        clear hst
        intro w hst
        obtain ⟨hg705, hm⟩ := gd_some hm
        replace hst := hst.pull2
        obtain ⟨v706, w707, hr708, hst⟩ := run_append elem_32 Try.underlying32 hst hst.src1 (room_of hg705 rfl) 32
        refine we_run (v := v706) (w' := w707) rfl (x_append rfl rfl hr708) ?_
        refine ws_next (pend' := []) hst (by kernel_rfl) pk_nil ?_
        refine ws_q (v := .pointer (some ⟨b493, 4, none⟩)) 9 [10] (by kernel_rfl) rfl rfl (yi_run rfl (fun w hst => x_field rfl Try.underlying34 rfl Try.sizeOf32 rfl)) ?_
        refine ws_e1 10 (by kernel_rfl) ?_
        refine nxe [] (by kernel_rfl) rfl rfl ?_
        clear hst
        intro w hst
        replace hst := hst.pull4
        obtain ⟨w709, hr710, hst⟩ := hst.boxStore1 (P := Try.prog) (t := 32) (cs' := [.int .u64 t475.1.Session, .int .u64 t475.1.Seq, .int .u64 (IntKind.u64.wrap (IntKind.i64.wrap ((1:Int) + t480.1))), v593, v706, (.slice none 0 0), (.slice none 0 0)]) 4 v706 (one_of_sliceV hst.sv1) Try.sizeOf32 rfl rfl
        refine we_unit rfl (x_unit hr710) ?_
        refine ws_next (pend' := []) hst (by kernel_rfl) pk_nil ?_
        refine ws_nil ?_
        intro w hst
        refine blk_n ?_
        refine then_n ?_
        refine wp_region_lit ?_
        refine wl_val (v := .int .i64 z680) rfl rfl rfl ?_
        refine wl_val (v := .int .i64 (IntKind.i64.wrap (z680 + (1:Int)))) rfl rfl rfl ?_
        refine wl_val (v := .int .i64 (IntKind.i64.wrap (z680 + (1:Int)))) rfl rfl rfl ?_
        refine wl_nil ?_
        refine then_n ?_
        replace hst := hst.pull5
        replace hst := hst.pull1
        replace hst := hst.pull5
        replace hst := hst.pull5
        replace hst := hst.pull4
        replace hst := hst.keep5
        obtain rfl := some_inj hm
        exact ⟨_, Nat.lt_succ_self _, (z676 ++ ([(t690.1, t695.1)])), t695.2, (IntKind.i64.wrap (z680 + (1:Int))), v706, _, hx687, ((fr_upd (t := 0) (v := p0) rfl).trans ((fr_upd (t := 2) (v := .pointer (some ⟨b470, 0, none⟩)) rfl).trans ((fr_upd (t := 3) (v := .pointer (some ⟨b493, 0, none⟩)) rfl).trans ((fr_upd (t := 4) (v := .int .i64 (IntKind.i64.wrap (Int.tdiv t600.1 (2:Int)))) rfl).trans ((fr_upd (t := 6) (v := .int .i64 (IntKind.i64.wrap (z680 + (1:Int)))) rfl).trans rfl))))), hst⟩
      · skip
        replace hm := bif_f hc689 hm
        refine wp_iff (congrArg Value.bool hc689) ?_
        refine wp_exit ?_
        refine then_x ?_
        refine then_x ?_
        replace hm := inr_up hm hx687
        refine blk_x ?_
        refine then_n ?_
        replace hst := hst.pull4
        replace hst := hst.pull4
        replace hst := hst.pull4
        replace hst := hst.pull4
        replace hst := hst.keep5
        obtain rfl := some_inj hm
        exact ⟨z679, z676, v677, _, hx718, ((fr_upd (t := 0) (v := p0) rfl).trans ((fr_upd (t := 2) (v := .pointer (some ⟨b470, 0, none⟩)) rfl).trans ((fr_upd (t := 3) (v := .pointer (some ⟨b493, 0, none⟩)) rfl).trans rfl))), hst⟩
    · skip
      clear hst
      rintro _ w719 ⟨z711, z714, v713, σ715, hm, rfl, hst⟩
      dsimp only [ref12_Tape_Hold_j2] at hm
      refine wp_seq ?_
      refine wp_region_lit ?_
      refine wl_val (v := p0) rfl rfl rfl ?_
      obtain ⟨t720, ht721, hm⟩ := bind_some hm
      refine wl_call rfl rfl (x_call Try.call22 rfl (vs := [p0, .int .i64 (3:Int)]) rfl) ?_
      refine (ref12_Tape_Next_ref hst.to1 ht721).mono ?_
      rintro _ w722 ⟨rfl, hst⟩
      refine ⟨_, rfl, ?_⟩
      replace hst := hst.of1
      refine wl_val (v := .int .i64 t720.1) rfl rfl rfl ?_
      refine wl_nil ?_
      refine then_n ?_
      obtain ⟨y817, hm, hx818⟩ := bind_some hm
      refine wp_cut (fun a w => ∃ (z811 : ref12_Tape) (z814 : (List Nat)) (v813 : Value) (σ815 : Nat → Value), (ref12_Tape_Hold_j4 t475 t480 z594 z714) (z811, z814) = some r ∧ a = Fr 68 (upd (upd (upd σ815 0 (p0)) 2 (.pointer (some ⟨b470, 0, none⟩))) 3 (.pointer (some ⟨b493, 0, none⟩))) ∧ St w0 w I [at_ref12_Tape p0 z811, cells b470 [.int .u64 (0:Int), .int .u64 (0:Int), .int .u64 (0:Int), (.slice none 0 0), (.slice none 0 0), (.slice none 0 0), (.slice none 0 0)], cells b493 [.int .u64 t475.1.Session, .int .u64 t475.1.Seq, .int .u64 (IntKind.u64.wrap (IntKind.i64.wrap ((1:Int) + t480.1))), v593, v713, v813, (.slice none 0 0)], ownS tyF64 v593 z594, ownS tyF2 v713 z714, ownS tyF64 v813 z814] R) ?_ ?_
      · skip
        refine wp_seq ?_
        refine wp_region_lit ?_
        refine wl_val (v := .int .i64 (0:Int)) rfl rfl rfl ?_
        refine wl_nil ?_
        refine then_n ?_
        refine wp_block ?_
        replace hst := hst.own_nil tyF64
        obtain ⟨n787, hm⟩ := loopO_some hm
        refine wp_loop_n (fun n a w => ∃ (z781 : (List Nat)) (z784 : ref12_Tape) (z785 : Int) (v782 : Value) (σ786 : Nat → Value), loopN (ref12_Tape_Hold_l5 t720) n (z781, z784, z785) = some y817 ∧ a = Fr 68 (upd (upd (upd (upd (upd σ786 0 (p0)) 2 (.pointer (some ⟨b470, 0, none⟩))) 3 (.pointer (some ⟨b493, 0, none⟩))) 4 (.int .i64 t720.1)) 7 (.int .i64 z785)) ∧ St w0 w I [ownS tyF64 v782 z781, at_ref12_Tape p0 z784, cells b470 [.int .u64 (0:Int), .int .u64 (0:Int), .int .u64 (0:Int), (.slice none 0 0), (.slice none 0 0), (.slice none 0 0), (.slice none 0 0)], cells b493 [.int .u64 t475.1.Session, .int .u64 t475.1.Seq, .int .u64 (IntKind.u64.wrap (IntKind.i64.wrap ((1:Int) + t480.1))), v593, v713, v782, (.slice none 0 0)], ownS tyF64 v593 z594, ownS tyF2 v713 z714] R) n787 ⟨[], t720.2, (0:Int), (.slice none 0 0), _, hm, ((fr_upd (t := 0) (v := p0) rfl).trans ((fr_upd (t := 2) (v := .pointer (some ⟨b470, 0, none⟩)) rfl).trans ((fr_upd (t := 3) (v := .pointer (some ⟨b493, 0, none⟩)) rfl).trans ((fr_upd (t := 4) (v := .int .i64 t720.1) rfl).trans ((fr_upd (t := 7) (v := .int .i64 (0:Int)) rfl).trans rfl))))), hst⟩ ?_
        rintro n793 _ w788 ⟨z781, z784, z785, v782, σ786, hm, rfl, hst⟩
        obtain ⟨n790, y791, rfl, hm, hx792⟩ := loopN_some hm
        dsimp only [ref12_Tape_Hold_l5] at hm
        refine wp_seq ?_
        refine wp_seq ?_
        refine wp_region_lit ?_
        refine wl_val (v := .int .i64 z785) rfl rfl rfl ?_
        refine wl_val (v := .int .i64 t720.1) rfl rfl rfl ?_
        refine wl_val (v := .bool (decide (z785 < t720.1))) rfl rfl rfl ?_
        refine wl_nil ?_
        refine then_n ?_
        refine bsplit (decide (z785 < t720.1)) (fun hc794 => ?_) (fun hc794 => ?_)
        · skip
          replace hm := bif_t hc794 hm
          refine wp_ift (congrArg Value.bool hc794) ?_
          refine wp_skip ?_
          refine then_n ?_
          refine wp_seq ?_
          refine wp_block ?_
          refine wp_region_St hst 8 [0, 1, 2, 3, 4, 5, 6, 7] [0, 1, 0, 4, 12, 31, 63, 127] [] rfl (by kernel_rfl) (by kernel_rfl) Try.mixed (by kernel_rfl) ?_
          refine ws_q (v := .pointer (some ⟨b493, 5, none⟩)) 0 [1, 2, 3, 4, 5, 6, 7] (by kernel_rfl) rfl rfl (yi_run rfl (fun w hst => x_field rfl Try.underlying34 rfl Try.sizeOf31 rfl)) ?_
          refine ws_q (v := v782) 1 [2, 3, 4, 5, 6, 7] (by kernel_rfl) rfl rfl (yi_run rfl (fun w hst => x_load rfl Try.isAgg31 (hst.bc3 rfl))) ?_
          refine ws_q (v := p0) 2 [3, 4, 5, 6, 7] (by kernel_rfl) rfl rfl (yi_run rfl (fun w hst => rfl)) ?_
          refine ws_e1 3 (by kernel_rfl) ?_
          refine nxe [4, 5, 6, 7] (by kernel_rfl) rfl rfl ?_
          clear hst
          intro w hst
          replace hst := hst.pull1
          obtain ⟨t795, ht796, hm⟩ := bind_some hm
          refine we_call rfl (x_call Try.call37 rfl (vs := [p0]) rfl) ?_
          refine (ref12_Tape_Float_ref hst.to1 ht796).mono ?_
          rintro _ w797 ⟨rfl, hst⟩
          refine ⟨_, rfl, ?_⟩
          replace hst := hst.of1
          refine ws_next (pend' := [(1, v782), (0, .pointer (some ⟨b493, 5, none⟩))]) hst (by kernel_rfl) (pk_cons rfl (yi_run rfl (fun w hst => x_load rfl Try.isAgg31 (hst.bc3 rfl))) (pk_cons rfl (yi_run rfl (fun w hst => x_field rfl Try.underlying34 rfl Try.sizeOf31 rfl)) pk_nil)) ?_
          refine ws_e1 4 (by kernel_rfl) ?_
          refine nxe [5, 6, 7] (by kernel_rfl) rfl rfl ?_
          clear hst
          intro w hst
          obtain ⟨b800, w801, ew802, eb803, hst⟩ := hst.lits (E := tyF64) (xs := [t795.1]) [[.float .f64 t795.1]] 41 1 rfl (Reps.cons rfl Reps.nil)
          refine we_run (v := (.slice (some ⟨b800, 0, none⟩) 1 1)) (w' := w801) rfl (x_als (by kernel_rfl) ew802 eb803) ?_
          refine ws_next (pend' := [(1, v782), (0, .pointer (some ⟨b493, 5, none⟩))]) hst (by kernel_rfl) (pk_cons rfl (yi_run rfl (fun w hst => x_load rfl Try.isAgg31 (hst.bc4 rfl))) (pk_cons rfl (yi_run rfl (fun w hst => x_field rfl Try.underlying34 rfl Try.sizeOf31 rfl)) pk_nil)) ?_
          refine ws_e1 5 (by kernel_rfl) ?_
          refine nxe [6, 7] (by kernel_rfl) rfl rfl ?_
          clear hst
          intro w hst
          obtain ⟨hg805, hm⟩ := gd_some hm
          replace hst := hst.pull2
          obtain ⟨v806, w807, hr808, hst⟩ := run_append elem_31 Try.underlying31 hst hst.src1 (room_of hg805 rfl) 31
          refine we_run (v := v806) (w' := w807) rfl (x_append rfl rfl hr808) ?_
          refine ws_next (pend' := []) hst (by kernel_rfl) pk_nil ?_
          refine ws_q (v := .pointer (some ⟨b493, 5, none⟩)) 6 [7] (by kernel_rfl) rfl rfl (yi_run rfl (fun w hst => x_field rfl Try.underlying34 rfl Try.sizeOf31 rfl)) ?_
          refine ws_e1 7 (by kernel_rfl) ?_
          refine nxe [] (by kernel_rfl) rfl rfl ?_
          clear hst
          intro w hst
          replace hst := hst.pull4
          obtain ⟨w809, hr810, hst⟩ := hst.boxStore1 (P := Try.prog) (t := 31) (cs' := [.int .u64 t475.1.Session, .int .u64 t475.1.Seq, .int .u64 (IntKind.u64.wrap (IntKind.i64.wrap ((1:Int) + t480.1))), v593, v713, v806, (.slice none 0 0)]) 5 v806 (one_of_sliceV hst.sv1) Try.sizeOf31 rfl rfl
          refine we_unit rfl (x_unit hr810) ?_
          refine ws_next (pend' := []) hst (by kernel_rfl) pk_nil ?_
          refine ws_nil ?_
          intro w hst
          refine blk_n ?_
          refine then_n ?_
          refine wp_region_lit ?_
          refine wl_val (v := .int .i64 z785) rfl rfl rfl ?_
          refine wl_val (v := .int .i64 (IntKind.i64.wrap (z785 + (1:Int)))) rfl rfl rfl ?_
          refine wl_val (v := .int .i64 (IntKind.i64.wrap (z785 + (1:Int)))) rfl rfl rfl ?_
          refine wl_nil ?_
          refine then_n ?_
          replace hst := hst.pull6
          replace hst := hst.pull6
          replace hst := hst.pull2
          replace hst := hst.pull6
          replace hst := hst.pull6
          replace hst := hst.pull5
          replace hst := hst.keep6
          obtain rfl := some_inj hm
          exact ⟨_, Nat.lt_succ_self _, (z781 ++ ([t795.1])), t795.2, (IntKind.i64.wrap (z785 + (1:Int))), v806, _, hx792, ((fr_upd (t := 0) (v := p0) rfl).trans ((fr_upd (t := 2) (v := .pointer (some ⟨b470, 0, none⟩)) rfl).trans ((fr_upd (t := 3) (v := .pointer (some ⟨b493, 0, none⟩)) rfl).trans ((fr_upd (t := 4) (v := .int .i64 t720.1) rfl).trans ((fr_upd (t := 7) (v := .int .i64 (IntKind.i64.wrap (z785 + (1:Int)))) rfl).trans rfl))))), hst⟩
        · skip
          replace hm := bif_f hc794 hm
          refine wp_iff (congrArg Value.bool hc794) ?_
          refine wp_exit ?_
          refine then_x ?_
          refine then_x ?_
          replace hm := inr_up hm hx792
          refine blk_x ?_
          refine then_n ?_
          replace hst := hst.pull5
          replace hst := hst.pull5
          replace hst := hst.pull5
          replace hst := hst.pull5
          replace hst := hst.pull5
          replace hst := hst.keep6
          obtain rfl := some_inj hm
          exact ⟨z784, z781, v782, _, hx818, ((fr_upd (t := 0) (v := p0) rfl).trans ((fr_upd (t := 2) (v := .pointer (some ⟨b470, 0, none⟩)) rfl).trans ((fr_upd (t := 3) (v := .pointer (some ⟨b493, 0, none⟩)) rfl).trans rfl))), hst⟩
      · skip
        clear hst
        rintro _ w819 ⟨z811, z814, v813, σ815, hm, rfl, hst⟩
        dsimp only [ref12_Tape_Hold_j4] at hm
        refine wp_seq ?_
        refine wp_seq ?_
        refine wp_region_lit ?_
        refine wl_val (v := p0) rfl rfl rfl ?_
        obtain ⟨t820, ht821, hm⟩ := bind_some hm
        refine wl_call rfl rfl (x_call Try.call22 rfl (vs := [p0, .int .i64 (4:Int)]) rfl) ?_
        refine (ref12_Tape_Next_ref hst.to1 ht821).mono ?_
        rintro _ w822 ⟨rfl, hst⟩
        refine ⟨_, rfl, ?_⟩
        replace hst := hst.of1
        refine wl_val (v := .bool (t820.1 == (0:Int))) rfl rfl rfl ?_
        refine wl_nil ?_
        refine then_n ?_
        refine bsplit (t820.1 == (0:Int)) (fun hc825 => ?_) (fun hc825 => ?_)
        · skip
          replace hm := bif_t hc825 hm
          refine wp_ift (congrArg Value.bool hc825) ?_
          refine wp_region_lit ?_
          refine wl_val (v := p0) rfl rfl rfl ?_
          obtain ⟨t826, ht827, hm⟩ := bind_some hm
          refine wl_call rfl rfl (x_call Try.call36 rfl (vs := [p0]) rfl) ?_
          refine (ref12_Tape_Val_ref hst.to1 ht827).mono ?_
          rintro _ w828 ⟨v831, rfl, hst⟩
          refine ⟨_, rfl, ?_⟩
          replace hst := hst.of2
          refine wl_val (v := .pointer (some ⟨b493, 6, none⟩)) rfl rfl (x_field rfl Try.underlying34 rfl Try.sizeOf22 rfl) ?_
          replace hst := hst.pull3
          obtain ⟨w833, hr834, hst⟩ := hst.boxStore1 (P := Try.prog) (t := 22) (cs' := [.int .u64 t475.1.Session, .int .u64 t475.1.Seq, .int .u64 (IntKind.u64.wrap (IntKind.i64.wrap ((1:Int) + t480.1))), v593, v713, v813, v831]) 6 v831 (one_of_sliceV hst.sv1) Try.sizeOf22 rfl rfl
          refine wl_unit rfl rfl (x_unit hr834) ?_
          refine wl_nil ?_
          refine then_n ?_
          refine wp_seq ?_
          refine wp_region_lit ?_
          refine wl_val (v := .agg #[.int .u64 t475.1.Session, .int .u64 t475.1.Seq, .int .u64 (IntKind.u64.wrap (IntKind.i64.wrap ((1:Int) + t480.1))), v593, v713, v813, v831]) rfl rfl (x_loadN (cs := [.int .u64 t475.1.Session, .int .u64 t475.1.Seq, .int .u64 (IntKind.u64.wrap (IntKind.i64.wrap ((1:Int) + t480.1))), v593, v713, v813, v831]) rfl Try.isAgg34 Try.sizeOf34 (hst.bcs0 0 rfl)) ?_
          replace hst := hst.pull3
          obtain ⟨w835, hr836, hst⟩ := hst.boxStore (P := Try.prog) (t := 34) (cs' := [.int .u64 t475.1.Session, .int .u64 t475.1.Seq, .int .u64 (IntKind.u64.wrap (IntKind.i64.wrap ((1:Int) + t480.1))), v593, v713, v813, v831]) 0 (.agg #[.int .u64 t475.1.Session, .int .u64 t475.1.Seq, .int .u64 (IntKind.u64.wrap (IntKind.i64.wrap ((1:Int) + t480.1))), v593, v713, v813, v831]) Try.sizeOf34 (Nat.le_of_ble_eq_true rfl) (ones_cons rfl (ones_cons rfl (ones_cons rfl (ones_cons (one_of_sliceV hst.sv4) (ones_cons (one_of_sliceV hst.sv5) (ones_cons (one_of_sliceV hst.sv6) (ones_cons (one_of_sliceV hst.sv2) ones_nil))))))) (by kernel_rfl)
          refine wl_unit rfl rfl (x_unit hr836) ?_
          refine wl_nil ?_
          refine then_n ?_
          refine wp_ret ?_
          obtain rfl := some_inj hm
          refine post_ret (vs := [.agg #[.int .u64 t475.1.Session, .int .u64 t475.1.Seq, .int .u64 (IntKind.u64.wrap (IntKind.i64.wrap ((1:Int) + t480.1))), v593, v713, v813, v831]]) Try.results23 (rvs_cons (rv_cell (cs := [.int .u64 t475.1.Session, .int .u64 t475.1.Seq, .int .u64 (IntKind.u64.wrap (IntKind.i64.wrap ((1:Int) + t480.1))), v593, v713, v813, v831]) rfl Try.isAgg34 Try.sizeOf34 (hst.bcs0 0 rfl)) rvs_nil) ?_
          replace hst := hst.pull3
          replace hst := hst.pull3
          replace hst := hst.pull6
          replace hst := hst.pull6
          replace hst := hst.pull6
          exact ⟨v593, v713, v813, v831, rfl, hst.keep5⟩
        · skip
          replace hm := bif_f hc825 hm
          refine wp_iff (congrArg Value.bool hc825) ?_
          refine wp_skip ?_
          refine then_n ?_
          refine wp_seq ?_
          refine wp_region_lit ?_
          refine wl_val (v := .agg #[.int .u64 t475.1.Session, .int .u64 t475.1.Seq, .int .u64 (IntKind.u64.wrap (IntKind.i64.wrap ((1:Int) + t480.1))), v593, v713, v813, (.slice none 0 0)]) rfl rfl (x_loadN (cs := [.int .u64 t475.1.Session, .int .u64 t475.1.Seq, .int .u64 (IntKind.u64.wrap (IntKind.i64.wrap ((1:Int) + t480.1))), v593, v713, v813, (.slice none 0 0)]) rfl Try.isAgg34 Try.sizeOf34 (hst.bcs2 0 rfl)) ?_
          replace hst := hst.pull1
          obtain ⟨w837, hr838, hst⟩ := hst.boxStore (P := Try.prog) (t := 34) (cs' := [.int .u64 t475.1.Session, .int .u64 t475.1.Seq, .int .u64 (IntKind.u64.wrap (IntKind.i64.wrap ((1:Int) + t480.1))), v593, v713, v813, (.slice none 0 0)]) 0 (.agg #[.int .u64 t475.1.Session, .int .u64 t475.1.Seq, .int .u64 (IntKind.u64.wrap (IntKind.i64.wrap ((1:Int) + t480.1))), v593, v713, v813, (.slice none 0 0)]) Try.sizeOf34 (Nat.le_of_ble_eq_true rfl) (ones_cons rfl (ones_cons rfl (ones_cons rfl (ones_cons (one_of_sliceV hst.sv3) (ones_cons (one_of_sliceV hst.sv4) (ones_cons (one_of_sliceV hst.sv5) (ones_cons rfl ones_nil))))))) (by kernel_rfl)
          refine wl_unit rfl rfl (x_unit hr838) ?_
          refine wl_nil ?_
          refine then_n ?_
          refine wp_ret ?_
          replace hst := hst.own_nil (tyInt .u8)
          obtain rfl := some_inj hm
          refine post_ret (vs := [.agg #[.int .u64 t475.1.Session, .int .u64 t475.1.Seq, .int .u64 (IntKind.u64.wrap (IntKind.i64.wrap ((1:Int) + t480.1))), v593, v713, v813, (.slice none 0 0)]]) Try.results23 (rvs_cons (rv_cell (cs := [.int .u64 t475.1.Session, .int .u64 t475.1.Seq, .int .u64 (IntKind.u64.wrap (IntKind.i64.wrap ((1:Int) + t480.1))), v593, v713, v813, (.slice none 0 0)]) rfl Try.isAgg34 Try.sizeOf34 (hst.bcs1 0 rfl)) rvs_nil) ?_
          replace hst := hst.pull2
          replace hst := hst.pull1
          replace hst := hst.pull6
          replace hst := hst.pull6
          replace hst := hst.pull6
          exact ⟨v593, v713, v813, (.slice none 0 0), rfl, hst.keep5⟩

theorem ref13_OfWrites_ref {w0 w : World} {I : HL} {R : SP} {a0 : ref12_Tape} {p0 : Value}  (hst : St w0 w I [at_ref12_Tape p0 a0] R) {r : ((List api_Write) × ref12_Tape)} (hm : ref13_OfWrites a0 = some r) :
    Calls Try.prog 25 #[p0] w fun e w' => ∃ (I' : HL) (q0_0 : Value), e = .returned (q0_0) ∧ I.le I' ∧ St w0 w' I' [ownS ty_api_Write q0_0 r.1, at_ref12_Tape p0 r.2] R := by
  unfold ref13_OfWrites at hm
  refine calls_start (args := [p0]) Try.func25 rfl Try.ntmps25 (Nat.le_of_ble_eq_true rfl) ?_
  have hI0 := HL.le.refl I
  refine wp_seq ?_
  refine wp_region_lit ?_
  refine wl_val (v := (.slice none 0 0)) rfl rfl rfl ?_
  refine wl_nil ?_
  refine then_n ?_
  refine wp_seq ?_
  refine wp_region_lit ?_
  refine wl_val (v := (.slice none 0 0)) rfl rfl rfl ?_
  refine wl_nil ?_
  refine then_n ?_
  refine wp_seq ?_
  refine wp_region_lit ?_
  refine wl_val (v := p0) rfl rfl rfl ?_
  obtain ⟨t385, ht386, hm⟩ := bind_some hm
  refine wl_call rfl rfl (x_call Try.call22 rfl (vs := [p0, .int .i64 (3:Int)]) rfl) ?_
  refine (ref12_Tape_Next_ref hst.to1 ht386).mono ?_
  rintro _ w387 ⟨rfl, hst⟩
  refine ⟨_, rfl, ?_⟩
  replace hst := hst.of1
  refine wl_val (v := .int .i64 t385.1) rfl rfl rfl ?_
  refine wl_nil ?_
  refine then_n ?_
  refine wp_seq ?_
  refine wp_seq ?_
  refine wp_region_lit ?_
  refine wl_val (v := .int .i64 (0:Int)) rfl rfl rfl ?_
  refine wl_nil ?_
  refine then_n ?_
  refine wp_block ?_
  replace hst := hst.own_nil ty_api_Write
  obtain ⟨n558, hm⟩ := loopO_some hm
  refine wp_loop_n (fun n a w => ∃ (I556 : HL) (z551 : ref12_Tape) (z552 : (List api_Write)) (z555 : Int) (v553 : Value) (σ557 : Nat → Value), loopN (ref13_OfWrites_l0 t385) n (z551, z552, z555) = some r ∧ a = Fr 31 (upd (upd (upd (upd σ557 0 (p0)) 3 (v553)) 4 (.int .i64 t385.1)) 5 (.int .i64 z555)) ∧ I.le I556 ∧ St w0 w I556 [ownS ty_api_Write v553 z552, at_ref12_Tape p0 z551] R) n558 ⟨_, t385.2, [], (0:Int), (.slice none 0 0), _, hm, ((fr_upd (t := 0) (v := p0) rfl).trans ((fr_upd (t := 3) (v := (.slice none 0 0)) rfl).trans ((fr_upd (t := 4) (v := .int .i64 t385.1) rfl).trans ((fr_upd (t := 5) (v := .int .i64 (0:Int)) rfl).trans rfl)))), (HL.le.refl _), hst⟩ ?_
  rintro n564 _ w559 ⟨I556, z551, z552, z555, v553, σ557, hm, rfl, hL560, hst⟩
  obtain ⟨n561, y562, rfl, hm, hx563⟩ := loopN_some hm
  dsimp only [ref13_OfWrites_l0] at hm
  replace hI0 := hI0.trans hL560
  refine wp_seq ?_
  refine wp_seq ?_
  refine wp_region_lit ?_
  refine wl_val (v := .int .i64 z555) rfl rfl rfl ?_
  refine wl_val (v := .int .i64 t385.1) rfl rfl rfl ?_
  refine wl_val (v := .bool (decide (z555 < t385.1))) rfl rfl rfl ?_
  refine wl_nil ?_
  refine then_n ?_
  refine bsplit (decide (z555 < t385.1)) (fun hc565 => ?_) (fun hc565 => ?_)
  · skip
    replace hm := bif_t hc565 hm
    refine wp_ift (congrArg Value.bool hc565) ?_
    refine wp_skip ?_
    refine then_n ?_
    refine wp_seq ?_
    refine wp_block ?_
    refine wp_seq ?_
    refine wp_region_lit ?_
    refine wl_val (v := p0) rfl rfl rfl ?_
    replace hst := hst.pull1
    obtain ⟨t566, ht567, hm⟩ := bind_some hm
    refine wl_call rfl rfl (x_call Try.call37 rfl (vs := [p0]) rfl) ?_
    refine (ref12_Tape_Float_ref hst.to1 ht567).mono ?_
    rintro _ w568 ⟨rfl, hst⟩
    refine ⟨_, rfl, ?_⟩
    replace hst := hst.of1
    refine wl_val (v := p0) rfl rfl rfl ?_
    obtain ⟨t571, ht572, hm⟩ := bind_some hm
    refine wl_call rfl rfl (x_call Try.call22 rfl (vs := [p0, .int .i64 (4:Int)]) rfl) ?_
    refine (ref12_Tape_Next_ref hst.to1 ht572).mono ?_
    rintro _ w573 ⟨rfl, hst⟩
    refine ⟨_, rfl, ?_⟩
    replace hst := hst.of1
    refine wl_val (v := .bool (t571.1 == (0:Int))) rfl rfl rfl ?_
    refine wl_val (v := .agg #[.float .f64 t566.1, .bool (t571.1 == (0:Int)), (.slice none 0 0)]) rfl rfl (by kernel_rfl) ?_
    obtain ⟨b578, w579, ew580, eb581, hst⟩ := hst.box [.float .f64 (0:Nat), .bool false, (.slice none 0 0)] 73
    refine wl_run (v := .pointer (some ⟨b578, 0, none⟩)) (w' := w579) rfl rfl (x_al (by kernel_rfl) ew580 eb581) ?_
    obtain ⟨w583, hr584, hst⟩ := hst.boxStore (P := Try.prog) (t := 73) (cs' := [.float .f64 t566.1, .bool (t571.1 == (0:Int)), (.slice none 0 0)]) 0 (.agg #[.float .f64 t566.1, .bool (t571.1 == (0:Int)), (.slice none 0 0)]) Try.sizeOf73 (Nat.le_of_ble_eq_true rfl) (ones_cons rfl (ones_cons rfl (ones_cons rfl ones_nil))) (by kernel_rfl)
    refine wl_unit rfl rfl (x_unit hr584) ?_
    refine wl_nil ?_
    refine then_n ?_
    obtain ⟨y601, hm, hx602⟩ := bind_some hm
    refine wp_cut (fun a w => ∃ (z595 : ref12_Tape) (z598 : (List Int)) (v597 : Value) (σ599 : Nat → Value), (ref13_OfWrites_j1 z552 t566 t571 z555) (z595, z598) = some y562 ∧ a = Fr 31 (upd (upd (upd (upd (upd σ599 0 (p0)) 3 (v553)) 4 (.int .i64 t385.1)) 5 (.int .i64 z555)) 6 (.pointer (some ⟨b578, 0, none⟩))) ∧ St w0 w I556 [at_ref12_Tape p0 z595, ownS ty_api_Write v553 z552, cells b578 [.float .f64 t566.1, .bool (t571.1 == (0:Int)), v597], ownS (tyInt .u8) v597 z598] R) ?_ ?_
    · skip
      refine wp_seq ?_
      refine wp_region_lit ?_
      refine wl_val (v := .pointer (some ⟨b578, 1, none⟩)) rfl rfl (x_field rfl Try.underlying73 rfl Try.sizeOf4 rfl) ?_
      refine wl_val (v := .bool (t571.1 == (0:Int))) rfl rfl (x_load rfl Try.isAgg4 (hst.bc0 rfl)) ?_
      refine wl_val (v := .bool (!(t571.1 == (0:Int)))) rfl rfl rfl ?_
      refine wl_nil ?_
      refine then_n ?_
      refine bsplit (!(t571.1 == (0:Int))) (fun hc585 => ?_) (fun hc585 => ?_)
      · skip
        replace hm := bif_t hc585 hm
        refine wp_ift (congrArg Value.bool hc585) ?_
        refine wp_region_lit ?_
        refine wl_val (v := p0) rfl rfl rfl ?_
        replace hst := hst.pull1
        obtain ⟨t586, ht587, hm⟩ := bind_some hm
        refine wl_call rfl rfl (x_call Try.call36 rfl (vs := [p0]) rfl) ?_
        refine (ref12_Tape_Val_ref hst.to1 ht587).mono ?_
        rintro _ w588 ⟨v591, rfl, hst⟩
        refine ⟨_, rfl, ?_⟩
        replace hst := hst.of2
        refine wl_val (v := .pointer (some ⟨b578, 2, none⟩)) rfl rfl (x_field rfl Try.underlying73 rfl Try.sizeOf22 rfl) ?_
        replace hst := hst.pull2
        obtain ⟨w593, hr594, hst⟩ := hst.boxStore1 (P := Try.prog) (t := 22) (cs' := [.float .f64 t566.1, .bool (t571.1 == (0:Int)), v591]) 2 v591 (one_of_sliceV hst.sv1) Try.sizeOf22 rfl rfl
        refine wl_unit rfl rfl (x_unit hr594) ?_
        refine wl_nil ?_
        refine then_n ?_
        replace hst := hst.pull1
        replace hst := hst.pull1
        replace hst := hst.pull3
        replace hst := hst.pull3
        replace hst := hst.keep4
        obtain rfl := some_inj hm
        exact ⟨t586.2, t586.1, v591, _, hx602, ((fr_upd (t := 0) (v := p0) rfl).trans ((fr_upd (t := 3) (v := v553) rfl).trans ((fr_upd (t := 4) (v := .int .i64 t385.1) rfl).trans ((fr_upd (t := 5) (v := .int .i64 z555) rfl).trans ((fr_upd (t := 6) (v := .pointer (some ⟨b578, 0, none⟩)) rfl).trans rfl))))), hst⟩
      · skip
        replace hm := bif_f hc585 hm
        refine wp_iff (congrArg Value.bool hc585) ?_
        refine wp_skip ?_
        refine then_n ?_
        replace hst := hst.own_nil (tyInt .u8)
        replace hst := hst.pull1
        replace hst := hst.pull3
        replace hst := hst.pull3
        replace hst := hst.keep4
        obtain rfl := some_inj hm
        exact ⟨t571.2, ([]), (.slice none 0 0), _, hx602, ((fr_upd (t := 0) (v := p0) rfl).trans ((fr_upd (t := 3) (v := v553) rfl).trans ((fr_upd (t := 4) (v := .int .i64 t385.1) rfl).trans ((fr_upd (t := 5) (v := .int .i64 z555) rfl).trans ((fr_upd (t := 6) (v := .pointer (some ⟨b578, 0, none⟩)) rfl).trans rfl))))), hst⟩
    · skip
      clear hst
      rintro _ w603 ⟨z595, z598, v597, σ599, hm, rfl, hst⟩
      dsimp only [ref13_OfWrites_j1] at hm
      refine wp_region_lit ?_
      refine wl_val (v := v553) rfl rfl rfl ?_
      refine wl_val (v := .agg #[.float .f64 t566.1, .bool (t571.1 == (0:Int)), v597]) rfl rfl (x_loadN (cs := [.float .f64 t566.1, .bool (t571.1 == (0:Int)), v597]) rfl Try.isAgg73 Try.sizeOf73 (hst.bcs2 0 rfl)) ?_
      replace hst := hst.pull3
      obtain ⟨I605, hI606, f607, hst⟩ := hst.own_fix
      replace hI0 := hI0.trans hI606
      replace hL560 := hL560.trans hI606
      obtain ⟨b608, w609, ew610, eb611, hst⟩ := hst.lits (E := ty_api_Write) (xs := [({ At := t566.1, Del := (t571.1 == (0:Int)), Val := z598 } : api_Write)]) [[.float .f64 t566.1, .bool (t571.1 == (0:Int)), v597]] 73 1 rfl (Reps.cons ⟨_, rfl, f607, one_of_sliceV (ro_sliceV f607)⟩ Reps.nil)
      refine wl_run (v := (.slice (some ⟨b608, 0, none⟩) 1 1)) (w' := w609) rfl rfl (x_als (by kernel_rfl) ew610 eb611) ?_
      obtain ⟨hg613, hm⟩ := gd_some hm
      replace hst := hst.pull2
      obtain ⟨v614, w615, hr616, hst⟩ := run_append elem_35 Try.underlying35 hst hst.src1 (room_of hg613 rfl) 35
      refine wl_run (v := v614) (w' := w615) rfl rfl (x_append rfl rfl hr616) ?_
      refine wl_val (v := v614) rfl rfl rfl ?_
      refine wl_nil ?_
      refine blk_n ?_
      refine then_n ?_
      refine wp_region_lit ?_
      refine wl_val (v := .int .i64 z555) rfl rfl rfl ?_
      refine wl_val (v := .int .i64 (IntKind.i64.wrap (z555 + (1:Int)))) rfl rfl rfl ?_
      refine wl_val (v := .int .i64 (IntKind.i64.wrap (z555 + (1:Int)))) rfl rfl rfl ?_
      refine wl_nil ?_
      refine then_n ?_
      replace hst := hst.pull2
      replace hst := hst.pull1
      replace hst := hst.keep2
      obtain rfl := some_inj hm
      exact ⟨_, Nat.lt_succ_self _, _, z595, (z552 ++ ([({ At := t566.1, Del := (t571.1 == (0:Int)), Val := z598 } : api_Write)])), (IntKind.i64.wrap (z555 + (1:Int))), v614, _, hx563, ((fr_upd (t := 0) (v := p0) rfl).trans ((fr_upd (t := 3) (v := v614) rfl).trans ((fr_upd (t := 4) (v := .int .i64 t385.1) rfl).trans ((fr_upd (t := 5) (v := .int .i64 (IntKind.i64.wrap (z555 + (1:Int)))) rfl).trans rfl)))), hL560, hst⟩
  · skip
    replace hm := bif_f hc565 hm
    refine wp_iff (congrArg Value.bool hc565) ?_
    refine wp_exit ?_
    refine then_x ?_
    refine then_x ?_
    replace hm := inr_up hm hx563
    refine blk_x ?_
    refine then_n ?_
    refine wp_seq ?_
    refine wp_region_lit ?_
    refine wl_val (v := v553) rfl rfl rfl ?_
    refine wl_val (v := v553) rfl rfl rfl ?_
    refine wl_nil ?_
    refine then_n ?_
    refine wp_ret ?_
    obtain rfl := some_inj hm
    refine post_ret (vs := [v553]) Try.results25 (rvs_cons (rv_tmp rfl) rvs_nil) ?_
    replace hst := hst.pull1
    replace hst := hst.pull1
    exact ⟨_, v553, rfl, hI0, hst.keep2⟩

end Go.Proofs.Ytijcfglomdfglaa
