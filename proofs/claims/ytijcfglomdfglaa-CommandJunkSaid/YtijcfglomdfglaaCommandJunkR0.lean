/- The Go functions refine their models, part 0. -/
import Derived.Test.YtijcfglomdfglaaCommandJunkT
set_option linter.unusedVariables false
set_option linter.unusedSimpArgs false
set_option maxRecDepth 100000
set_option maxHeartbeats 4000000
namespace Go.Proofs.Ytijcfglomdfglaa
open Go Go.V
attribute [local irreducible] wpList Code.wp wpQuiet Calls bodyPost Oper.wp wpS Nx PendOK YieldsIn
theorem octet_Writer_lay_ref {w0 w : World} {I : HL} {R : SP} {a0 : octet_Writer} {p0 : Value} {a1 : (List Int)} {r1_0 : Value} (f1_0 : Rd (tyInt .u8) R I r1_0 a1) (hst : St w0 w I [at_octet_Writer p0 a0] R) {r : (octet_Writer)} (hm : octet_Writer_lay a0 a1 = some r) :
    Calls Try.prog 61 #[p0, r1_0] w fun e w' => e = .returned (p0) ∧ St w0 w' I [at_octet_Writer p0 r] R := by
  unfold octet_Writer_lay at hm
  refine calls_start (args := [p0, r1_0]) Try.func61 rfl Try.ntmps61 (Nat.le_of_ble_eq_true rfl) ?_
  refine wp_seq ?_
  refine wp_region_lit ?_
  refine wl_val (v := .pointer none) rfl rfl rfl ?_
  refine wl_nil ?_
  refine then_n ?_
  refine wp_seq ?_
  refine wp_region_lit ?_
  refine wl_val (v := p0) rfl rfl rfl ?_
  refine wl_val (v := p0) rfl rfl rfl ?_
  obtain ⟨b60, v61, rfl, hst'⟩ := at_octet_Writer_open hst
  clear hst
  have hst := hst'
  clear hst'
  refine wl_val (v := .pointer (some ⟨b60, 0, none⟩)) rfl rfl rfl ?_
  refine wl_val (v := .pointer (some ⟨b60, 0, none⟩)) rfl rfl (x_field rfl Try.underlying58 rfl Try.sizeOf22 rfl) ?_
  refine wl_val (v := v61) rfl rfl (x_load rfl Try.isAgg22 (hst.bc0 rfl)) ?_
  refine wl_val (v := r1_0) rfl rfl rfl ?_
  obtain ⟨hg63, hm⟩ := gd_some hm
  replace hst := hst.pull1
  obtain ⟨v64, w65, hr66, hst⟩ := run_append elem_22 Try.underlying22 hst (Src.of_rd hst f1_0 flat_int) (room_of hg63 rfl) 22
  refine wl_run (v := v64) (w' := w65) rfl rfl (x_append rfl rfl hr66) ?_
  refine wl_val (v := .pointer (some ⟨b60, 0, none⟩)) rfl rfl rfl ?_
  refine wl_val (v := .pointer (some ⟨b60, 0, none⟩)) rfl rfl (x_field rfl Try.underlying58 rfl Try.sizeOf22 rfl) ?_
  replace hst := hst.pull1
  obtain ⟨w67, hr68, hst⟩ := hst.boxStore1 (P := Try.prog) (t := 22) (cs' := [v64]) 0 v64 (one_of_sliceV hst.sv1) Try.sizeOf22 rfl rfl
  refine wl_unit rfl rfl (x_unit hr68) ?_
  refine wl_nil ?_
  refine then_n ?_
  refine wp_seq ?_
  refine wp_region_lit ?_
  refine wl_val (v := .pointer (some ⟨b60, 0, none⟩)) rfl rfl rfl ?_
  refine wl_val (v := .pointer (some ⟨b60, 0, none⟩)) rfl rfl rfl ?_
  refine wl_nil ?_
  refine then_n ?_
  refine wp_ret ?_
  replace hst := hst.pull1
  replace hst := hst.pull1
  replace hst := at_octet_Writer_close (pv := .pointer (some ⟨b60, 0, none⟩)) (x := ({ p := (a0.p ++ a1) } : octet_Writer)) hst rfl
  obtain rfl := some_inj hm
  refine post_ret (vs := [.pointer (some ⟨b60, 0, none⟩)]) Try.results61 (rvs_cons (rv_tmp rfl) rvs_nil) ?_
  exact ⟨rfl, hst.keep1⟩

theorem octet_Writer_Num_ref {w0 w : World} {I : HL} {R : SP} {a0 : octet_Writer} {p0 : Value} {a1 : Int} {a2 : Int}  (hst : St w0 w I [at_octet_Writer p0 a0] R) {r : (octet_Writer)} (hm : octet_Writer_Num a0 a1 a2 = some r) :
    Calls Try.prog 27 #[p0, .int .u64 a1, .int .i64 a2] w fun e w' => e = .returned (p0) ∧ St w0 w' I [at_octet_Writer p0 r] R := by
  unfold octet_Writer_Num at hm
  refine calls_start (args := [p0, .int .u64 a1, .int .i64 a2]) Try.func27 rfl Try.ntmps27 (Nat.le_of_ble_eq_true rfl) ?_
  refine wp_seq ?_
  refine wp_region_lit ?_
  refine wl_val (v := .pointer none) rfl rfl rfl ?_
  refine wl_nil ?_
  refine then_n ?_
  refine wp_seq ?_
  refine wp_seq ?_
  refine wp_region_lit ?_
  refine wl_val (v := .int .i64 a2) rfl rfl rfl ?_
  refine wl_val (v := .int .i64 (0:Int)) rfl rfl rfl ?_
  refine wl_nil ?_
  refine then_n ?_
  refine wp_block ?_
  obtain ⟨n128, hm⟩ := loopO_some hm
  refine wp_loop_n (fun n a w => ∃ (z125 : octet_Writer) (z126 : Int) (σ127 : Nat → Value), loopN (octet_Writer_Num_l0 a2 a1) n (z125, z126) = some r ∧ a = Fr 22 (upd (upd (upd (upd σ127 0 (p0)) 1 (.int .u64 a1)) 8 (.int .i64 a2)) 9 (.int .i64 z126)) ∧ St w0 w I [at_octet_Writer p0 z125] R) n128 ⟨a0, (0:Int), _, hm, ((fr_upd (t := 0) (v := p0) rfl).trans ((fr_upd (t := 1) (v := .int .u64 a1) rfl).trans ((fr_upd (t := 8) (v := .int .i64 a2) rfl).trans ((fr_upd (t := 9) (v := .int .i64 (0:Int)) rfl).trans rfl)))), hst⟩ ?_
  rintro n134 _ w129 ⟨z125, z126, σ127, hm, rfl, hst⟩
  obtain ⟨n131, y132, rfl, hm, hx133⟩ := loopN_some hm
  dsimp only [octet_Writer_Num_l0] at hm
  refine wp_seq ?_
  refine wp_region_lit ?_
  refine wl_val (v := .bool (decide (z126 < a2))) rfl rfl rfl ?_
  refine wl_nil ?_
  refine then_n ?_
  refine wp_seq ?_
  refine bsplit (decide (z126 < a2)) (fun hc135 => ?_) (fun hc135 => ?_)
  · skip
    replace hm := bif_t hc135 hm
    refine wp_ift (congrArg Value.bool hc135) ?_
    refine wp_skip ?_
    refine then_n ?_
    refine wp_seq ?_
    refine wp_block ?_
    refine wp_seq ?_
    refine wp_region_lit ?_
    refine wl_val (v := .int .i64 z126) rfl rfl rfl ?_
    refine wl_val (v := .int .i64 z126) rfl rfl rfl ?_
    refine wl_nil ?_
    refine then_n ?_
    refine wp_region_lit ?_
    refine wl_val (v := p0) rfl rfl rfl ?_
    refine wl_val (v := .int .u64 a1) rfl rfl rfl ?_
    refine wl_val (v := .int .i64 z126) rfl rfl rfl ?_
    refine wl_val (v := .int .i64 (IntKind.i64.wrap ((8:Int) * z126))) rfl rfl rfl ?_
    obtain ⟨hg136, hm⟩ := gd_some hm
    refine wl_val (v := .int .u64 (iShr .u64 a1 (IntKind.i64.wrap ((8:Int) * z126)))) rfl rfl (x_shr (of_decide_eq_true hg136) rfl rfl) ?_
    refine wl_val (v := .int .u8 (IntKind.u8.wrap (iShr .u64 a1 (IntKind.i64.wrap ((8:Int) * z126))))) rfl rfl (by kernel_rfl) ?_
    obtain ⟨b137, w138, ew139, eb140, hst⟩ := hst.lits (E := (tyInt .u8)) (xs := [(IntKind.u8.wrap (iShr .u64 a1 (IntKind.i64.wrap ((8:Int) * z126))))]) [[.int .u8 (IntKind.u8.wrap (iShr .u64 a1 (IntKind.i64.wrap ((8:Int) * z126))))]] 5 1 rfl (Reps.cons rfl Reps.nil)
    refine wl_run (v := (.slice (some ⟨b137, 0, none⟩) 1 1)) (w' := w138) rfl rfl (x_als (by kernel_rfl) ew139 eb140) ?_
    obtain ⟨css142, hq143, hst⟩ := hst.own_open
    replace hst := hst.pull1
    obtain ⟨t144, ht145, hm⟩ := bind_some hm
    refine wl_call rfl rfl (x_call Try.call61 rfl (vs := [p0, (.slice (some ⟨b137, 0, none⟩) 1 1)]) rfl) ?_
    refine (octet_Writer_lay_ref (hst.sub.rdrow0 hq143) hst.to1 ht145).mono ?_
    rintro _ w146 ⟨rfl, hst⟩
    refine ⟨_, rfl, ?_⟩
    replace hst := hst.of1
    replace hst := hst.pull1
    replace hst := hst.own_close hq143
    refine wl_nil ?_
    refine blk_n ?_
    refine then_n ?_
    refine wp_region_lit ?_
    refine wl_val (v := .int .i64 (IntKind.i64.wrap (z126 + (1:Int)))) rfl rfl rfl ?_
    refine wl_val (v := .int .i64 (IntKind.i64.wrap (z126 + (1:Int)))) rfl rfl rfl ?_
    refine wl_nil ?_
    refine then_n ?_
    replace hst := hst.pull1
    replace hst := hst.keep1
    obtain rfl := some_inj hm
    exact ⟨_, Nat.lt_succ_self _, t144, (IntKind.i64.wrap (z126 + (1:Int))), _, hx133, ((fr_upd (t := 0) (v := p0) rfl).trans ((fr_upd (t := 1) (v := .int .u64 a1) rfl).trans ((fr_upd (t := 8) (v := .int .i64 a2) rfl).trans ((fr_upd (t := 9) (v := .int .i64 (IntKind.i64.wrap (z126 + (1:Int)))) rfl).trans rfl)))), hst⟩
  · skip
    replace hm := bif_f hc135 hm
    refine wp_iff (congrArg Value.bool hc135) ?_
    refine wp_exit ?_
    refine then_x ?_
    refine then_x ?_
    replace hm := inr_up hm hx133
    refine blk_x ?_
    refine then_n ?_
    refine wp_seq ?_
    refine wp_region_lit ?_
    refine wl_val (v := p0) rfl rfl rfl ?_
    refine wl_val (v := p0) rfl rfl rfl ?_
    refine wl_nil ?_
    refine then_n ?_
    refine wp_ret ?_
    obtain rfl := some_inj hm
    refine post_ret (vs := [p0]) Try.results27 (rvs_cons (rv_tmp rfl) rvs_nil) ?_
    exact ⟨rfl, hst.keep1⟩

theorem octet_Writer_Done_ref {w0 w : World} {I : HL} {R : SP} {a0 : octet_Writer} {p0 : Value}  (hst : St w0 w I [at_octet_Writer p0 a0] R) {r : ((List Int))} (hm : octet_Writer_Done a0 = some r) :
    Calls Try.prog 14 #[p0] w fun e w' => ∃ (q0_0 : Value), e = .returned (q0_0) ∧ St w0 w' I [ownS (tyInt .u8) q0_0 r] R := by
  unfold octet_Writer_Done at hm
  refine calls_start (args := [p0]) Try.func14 rfl Try.ntmps14 (Nat.le_of_ble_eq_true rfl) ?_
  refine wp_seq ?_
  refine wp_region_lit ?_
  refine wl_val (v := (.slice none 0 0)) rfl rfl rfl ?_
  refine wl_nil ?_
  refine then_n ?_
  refine wp_seq ?_
  refine wp_region_lit ?_
  refine wl_val (v := p0) rfl rfl rfl ?_
  obtain ⟨b57, v58, rfl, hst'⟩ := at_octet_Writer_open hst
  clear hst
  have hst := hst'
  clear hst'
  refine wl_val (v := .pointer (some ⟨b57, 0, none⟩)) rfl rfl rfl ?_
  refine wl_val (v := .pointer (some ⟨b57, 0, none⟩)) rfl rfl (x_field rfl Try.underlying58 rfl Try.sizeOf22 rfl) ?_
  refine wl_val (v := v58) rfl rfl (x_load rfl Try.isAgg22 (hst.bc0 rfl)) ?_
  refine wl_val (v := v58) rfl rfl rfl ?_
  refine wl_nil ?_
  refine then_n ?_
  refine wp_ret ?_
  obtain rfl := some_inj hm
  refine post_ret (vs := [v58]) Try.results14 (rvs_cons (rv_tmp rfl) rvs_nil) ?_
  replace hst := hst.pull1
  exact ⟨v58, rfl, hst.keep1⟩

theorem math_IsNaN_ref {w0 w : World} {I : HL} {R : SP} {a0 : Nat}  (hst : St w0 w I [] R) {r : (Bool)} (hm : math_IsNaN a0 = some r) :
    Calls Try.prog 64 #[.float .f64 a0] w fun e w' => e = .returned (.bool r) ∧ St w0 w' I [] R := by
  unfold math_IsNaN at hm
  refine calls_start (args := [.float .f64 a0]) Try.func64 rfl Try.ntmps64 (Nat.le_of_ble_eq_true rfl) ?_
  refine wp_seq ?_
  refine wp_region_lit ?_
  refine wl_val (v := .bool false) rfl rfl rfl ?_
  refine wl_nil ?_
  refine then_n ?_
  refine wp_seq ?_
  refine wp_region_lit ?_
  refine wl_val (v := .float .f64 a0) rfl rfl rfl ?_
  refine wl_val (v := .float .f64 a0) rfl rfl rfl ?_
  refine wl_val (v := .bool (fNe a0 a0)) rfl rfl rfl ?_
  refine wl_val (v := .bool (fNe a0 a0)) rfl rfl rfl ?_
  refine wl_nil ?_
  refine then_n ?_
  refine wp_ret ?_
  obtain rfl := some_inj hm
  refine post_ret (vs := [.bool (fNe a0 a0)]) Try.results64 (rvs_cons (rv_tmp rfl) rvs_nil) ?_
  exact ⟨rfl, hst.keep0⟩

theorem number_Rank_ref {w0 w : World} {I : HL} {R : SP} {a0 : Nat}  (hst : St w0 w I [] R) {r : (Int)} (hm : number_Rank a0 = some r) :
    Calls Try.prog 39 #[.float .f64 a0] w fun e w' => e = .returned (.int .u64 r) ∧ St w0 w' I [] R := by
  unfold number_Rank at hm
  refine calls_start (args := [.float .f64 a0]) Try.func39 rfl Try.ntmps39 (Nat.le_of_ble_eq_true rfl) ?_
  refine wp_seq ?_
  refine wp_region_lit ?_
  refine wl_val (v := .int .u64 (0:Int)) rfl rfl rfl ?_
  refine wl_nil ?_
  refine then_n ?_
  refine wp_seq ?_
  refine wp_seq ?_
  refine wp_region_lit ?_
  refine wl_val (v := .float .f64 a0) rfl rfl rfl ?_
  obtain ⟨t101, ht102, hm⟩ := bind_some hm
  refine wl_call rfl rfl (x_call Try.call64 rfl (vs := [.float .f64 a0]) rfl) ?_
  refine (math_IsNaN_ref hst.to0 ht102).mono ?_
  rintro _ w103 ⟨rfl, hst⟩
  refine ⟨_, rfl, ?_⟩
  replace hst := hst.of0
  refine wl_nil ?_
  refine then_n ?_
  refine bsplit t101 (fun hc106 => ?_) (fun hc106 => ?_)
  · skip
    replace hm := bif_t hc106 hm
    refine wp_ift (congrArg Value.bool hc106) ?_
    refine wp_seq ?_
    refine wp_region_lit ?_
    refine wl_val (v := .int .u64 (18446744073709551615:Int)) rfl rfl rfl ?_
    refine wl_nil ?_
    refine then_n ?_
    refine wp_ret ?_
    refine then_r ?_
    obtain rfl := some_inj hm
    refine post_ret (vs := [.int .u64 (18446744073709551615:Int)]) Try.results39 (rvs_cons (rv_tmp rfl) rvs_nil) ?_
    exact ⟨rfl, hst.keep0⟩
  · skip
    replace hm := bif_f hc106 hm
    refine wp_iff (congrArg Value.bool hc106) ?_
    refine wp_skip ?_
    refine then_n ?_
    refine wp_seq ?_
    refine wp_region_lit ?_
    refine wl_val (v := .float .f64 a0) rfl rfl rfl ?_
    refine wl_val (v := .int .u64 (Int.ofNat a0)) rfl rfl (by kernel_rfl) ?_
    refine wl_val (v := .int .u64 (Int.ofNat a0)) rfl rfl rfl ?_
    refine wl_nil ?_
    refine then_n ?_
    refine wp_seq ?_
    refine wp_seq ?_
    refine wp_region_lit ?_
    refine wl_val (v := .int .u64 (Int.ofNat a0)) rfl rfl rfl ?_
    refine wl_val (v := .int .u64 (iShr .u64 (Int.ofNat a0) (63:Int))) rfl rfl (x_shr (by decide) rfl rfl) ?_
    refine wl_val (v := .bool ((iShr .u64 (Int.ofNat a0) (63:Int)) == (1:Int))) rfl rfl rfl ?_
    refine wl_nil ?_
    refine then_n ?_
    refine bsplit ((iShr .u64 (Int.ofNat a0) (63:Int)) == (1:Int)) (fun hc107 => ?_) (fun hc107 => ?_)
    · skip
      replace hm := bif_t hc107 hm
      refine wp_ift (congrArg Value.bool hc107) ?_
      refine wp_seq ?_
      refine wp_region_lit ?_
      refine wl_val (v := .int .u64 (Int.ofNat a0)) rfl rfl rfl ?_
      refine wl_val (v := .int .u64 (bXor .u64 ((18446744073709551615):Int) (Int.ofNat a0))) rfl rfl (by kernel_rfl) ?_
      refine wl_val (v := .int .u64 (bXor .u64 ((18446744073709551615):Int) (Int.ofNat a0))) rfl rfl rfl ?_
      refine wl_nil ?_
      refine then_n ?_
      refine wp_ret ?_
      refine then_r ?_
      obtain rfl := some_inj hm
      refine post_ret (vs := [.int .u64 (bXor .u64 ((18446744073709551615):Int) (Int.ofNat a0))]) Try.results39 (rvs_cons (rv_tmp rfl) rvs_nil) ?_
      exact ⟨rfl, hst.keep0⟩
    · skip
      replace hm := bif_f hc107 hm
      refine wp_iff (congrArg Value.bool hc107) ?_
      refine wp_skip ?_
      refine then_n ?_
      refine wp_seq ?_
      refine wp_region_lit ?_
      refine wl_val (v := .int .u64 (Int.ofNat a0)) rfl rfl rfl ?_
      refine wl_val (v := .int .u64 (bOr .u64 (Int.ofNat a0) (9223372036854775808:Int))) rfl rfl rfl ?_
      refine wl_val (v := .int .u64 (bOr .u64 (Int.ofNat a0) (9223372036854775808:Int))) rfl rfl rfl ?_
      refine wl_nil ?_
      refine then_n ?_
      refine wp_ret ?_
      obtain rfl := some_inj hm
      refine post_ret (vs := [.int .u64 (bOr .u64 (Int.ofNat a0) (9223372036854775808:Int))]) Try.results39 (rvs_cons (rv_tmp rfl) rvs_nil) ?_
      exact ⟨rfl, hst.keep0⟩

theorem octet_Writer_Bytes_ref {w0 w : World} {I : HL} {R : SP} {a0 : octet_Writer} {p0 : Value} {a1 : (List Int)} {r1_0 : Value} (f1_0 : Rd (tyInt .u8) R I r1_0 a1) (hst : St w0 w I [at_octet_Writer p0 a0] R) {r : (octet_Writer)} (hm : octet_Writer_Bytes a0 a1 = some r) :
    Calls Try.prog 38 #[p0, r1_0] w fun e w' => e = .returned (p0) ∧ St w0 w' I [at_octet_Writer p0 r] R := by
  unfold octet_Writer_Bytes at hm
  refine calls_start (args := [p0, r1_0]) Try.func38 rfl Try.ntmps38 (Nat.le_of_ble_eq_true rfl) ?_
  refine wp_seq ?_
  refine wp_region_lit ?_
  refine wl_val (v := .pointer none) rfl rfl rfl ?_
  refine wl_nil ?_
  refine then_n ?_
  refine wp_seq ?_
  refine wp_region_lit ?_
  refine wl_val (v := p0) rfl rfl rfl ?_
  refine wl_val (v := r1_0) rfl rfl rfl ?_
  refine wl_val (v := .int .i64 ((a1).length : Int)) rfl rfl (x_len rfl Try.underlying22 (rd_sliceV f1_0)) ?_
  refine wl_val (v := .int .u64 (IntKind.u64.wrap ((a1).length : Int))) rfl rfl (by kernel_rfl) ?_
  obtain ⟨t361, ht362, hm⟩ := bind_some hm
  refine wl_call rfl rfl (x_call Try.call27 rfl (vs := [p0, .int .u64 (IntKind.u64.wrap ((a1).length : Int)), .int .i64 (4:Int)]) rfl) ?_
  refine (octet_Writer_Num_ref hst.to1 ht362).mono ?_
  rintro _ w363 ⟨rfl, hst⟩
  refine ⟨_, rfl, ?_⟩
  replace hst := hst.of1
  refine wl_val (v := r1_0) rfl rfl rfl ?_
  obtain ⟨t366, ht367, hm⟩ := bind_some hm
  refine wl_call rfl rfl (x_call Try.call61 rfl (vs := [p0, r1_0]) rfl) ?_
  refine (octet_Writer_lay_ref (f1_0.mono (rd_weak _)) hst.to1 ht367).mono ?_
  rintro _ w368 ⟨rfl, hst⟩
  refine ⟨_, rfl, ?_⟩
  replace hst := hst.of1
  refine wl_val (v := p0) rfl rfl rfl ?_
  refine wl_nil ?_
  refine then_n ?_
  refine wp_ret ?_
  obtain rfl := some_inj hm
  refine post_ret (vs := [p0]) Try.results38 (rvs_cons (rv_tmp rfl) rvs_nil) ?_
  exact ⟨rfl, hst.keep1⟩

theorem locks_Lay_ref {w0 w : World} {I : HL} {R : SP} {a0 : octet_Writer} {p0 : Value} {a1 : api_Hold} {r1_0 : Value} {r1_1 : Value} {r1_2 : Value} {r1_3 : Value} (f1_0 : Rd tyF64 R I r1_0 a1.Gets) (f1_1 : Rd tyF2 R I r1_1 a1.Scans) (f1_2 : Rd tyF64 R I r1_2 a1.Puts) (f1_3 : Rd (tyInt .u8) R I r1_3 a1.Data) (hst : St w0 w I [at_octet_Writer p0 a0] R) {r : (octet_Writer)} (hm : locks_Lay a0 a1 = some r) :
    Calls Try.prog 29 #[p0, .agg #[.int .u64 a1.ID.Session, .int .u64 a1.ID.Seq, .int .u64 a1.Epoch, r1_0, r1_1, r1_2, r1_3]] w fun e w' => e = .returned (.tuple #[]) ∧ St w0 w' I [at_octet_Writer p0 r] R := by
  unfold locks_Lay at hm
  refine calls_start (args := [p0, .agg #[.int .u64 a1.ID.Session, .int .u64 a1.ID.Seq, .int .u64 a1.Epoch, r1_0, r1_1, r1_2, r1_3]]) Try.func29 rfl Try.ntmps29 (Nat.le_of_ble_eq_true rfl) ?_
  refine wp_seq ?_
  refine wp_region_lit ?_
  obtain ⟨b357, w358, ew359, eb360, hst⟩ := hst.box [.int .u64 a1.ID.Session, .int .u64 a1.ID.Seq, .int .u64 a1.Epoch, r1_0, r1_1, r1_2, r1_3] 34
  refine wl_run (v := .pointer (some ⟨b357, 0, none⟩)) (w' := w358) rfl rfl (x_al (by kernel_rfl) ew359 eb360) ?_
  refine wl_nil ?_
  refine then_n ?_
  refine wp_seq ?_
  refine wp_region_St hst 17 [0, 1, 2, 3, 4, 5, 6, 7, 8, 9, 10, 11, 12, 13, 14, 15, 16] [0, 0, 2, 6, 15, 0, 32, 96, 255, 0, 512, 2047, 0, 4096, 12288, 28672, 65535] [] rfl (by kernel_rfl) (by kernel_rfl) Try.mixed (by kernel_rfl) ?_
  refine ws_q (v := p0) 0 [1, 2, 3, 4, 5, 6, 7, 8, 9, 10, 11, 12, 13, 14, 15, 16] (by kernel_rfl) rfl rfl (yi_run rfl (fun w hst => rfl)) ?_
  refine ws_q (v := .pointer (some ⟨b357, 0, none⟩)) 1 [2, 3, 4, 5, 6, 7, 8, 9, 10, 11, 12, 13, 14, 15, 16] (by kernel_rfl) rfl rfl (yi_run rfl (fun w hst => x_field rfl Try.underlying34 rfl Try.sizeOf29 rfl)) ?_
  refine ws_q (v := .pointer (some ⟨b357, 0, none⟩)) 2 [3, 4, 5, 6, 7, 8, 9, 10, 11, 12, 13, 14, 15, 16] (by kernel_rfl) rfl rfl (yi_run rfl (fun w hst => x_field rfl Try.underlying29 rfl Try.sizeOf27 rfl)) ?_
  refine ws_q (v := .int .u64 a1.ID.Session) 3 [4, 5, 6, 7, 8, 9, 10, 11, 12, 13, 14, 15, 16] (by kernel_rfl) rfl rfl (yi_run rfl (fun w hst => x_load rfl Try.isAgg27 (hst.bc0 rfl))) ?_
  refine ws_q (v := .pointer (some ⟨b357, 0, none⟩)) 5 [4, 6, 7, 8, 9, 10, 11, 12, 13, 14, 15, 16] (by kernel_rfl) rfl rfl (yi_run rfl (fun w hst => x_field rfl Try.underlying34 rfl Try.sizeOf29 rfl)) ?_
  refine ws_q (v := .pointer (some ⟨b357, 1, none⟩)) 6 [4, 7, 8, 9, 10, 11, 12, 13, 14, 15, 16] (by kernel_rfl) rfl rfl (yi_run rfl (fun w hst => x_field rfl Try.underlying29 rfl Try.sizeOf27 rfl)) ?_
  refine ws_q (v := .int .u64 a1.ID.Seq) 7 [4, 8, 9, 10, 11, 12, 13, 14, 15, 16] (by kernel_rfl) rfl rfl (yi_run rfl (fun w hst => x_load rfl Try.isAgg27 (hst.bc0 rfl))) ?_
  refine ws_q (v := .pointer (some ⟨b357, 2, none⟩)) 9 [4, 8, 10, 11, 12, 13, 14, 15, 16] (by kernel_rfl) rfl rfl (yi_run rfl (fun w hst => x_field rfl Try.underlying34 rfl Try.sizeOf27 rfl)) ?_
  refine ws_q (v := .int .u64 a1.Epoch) 10 [4, 8, 11, 12, 13, 14, 15, 16] (by kernel_rfl) rfl rfl (yi_run rfl (fun w hst => x_load rfl Try.isAgg27 (hst.bc0 rfl))) ?_
  refine ws_q (v := .pointer (some ⟨b357, 3, none⟩)) 12 [4, 8, 11, 13, 14, 15, 16] (by kernel_rfl) rfl rfl (yi_run rfl (fun w hst => x_field rfl Try.underlying34 rfl Try.sizeOf31 rfl)) ?_
  refine ws_q (v := r1_0) 13 [4, 8, 11, 14, 15, 16] (by kernel_rfl) rfl rfl (yi_run rfl (fun w hst => x_load rfl Try.isAgg31 (hst.bc0 rfl))) ?_
  refine ws_q (v := .int .i64 ((a1.Gets).length : Int)) 14 [4, 8, 11, 15, 16] (by kernel_rfl) rfl rfl (yi_run rfl (fun w hst => x_len rfl Try.underlying31 (rd_sliceV f1_0))) ?_
  refine ws_q (v := .int .u64 (IntKind.u64.wrap ((a1.Gets).length : Int))) 15 [4, 8, 11, 16] (by kernel_rfl) rfl rfl (yi_run rfl (fun w hst => by kernel_rfl)) ?_
  refine ws_e1 4 (by kernel_rfl) ?_
  refine nxe [8, 11, 16] (by kernel_rfl) rfl rfl ?_
  clear hst
  intro w hst
  replace hst := hst.pull1
  obtain ⟨t362, ht363, hm⟩ := bind_some hm
  refine we_call rfl (x_call Try.call27 rfl (vs := [p0, .int .u64 a1.ID.Session, .int .i64 (8:Int)]) rfl) ?_
  refine (octet_Writer_Num_ref hst.to1 ht363).mono ?_
  rintro _ w364 ⟨rfl, hst⟩
  refine ⟨_, rfl, ?_⟩
  replace hst := hst.of1
  refine ws_next (pend' := [(15, .int .u64 (IntKind.u64.wrap ((a1.Gets).length : Int))), (14, .int .i64 ((a1.Gets).length : Int)), (13, r1_0), (12, .pointer (some ⟨b357, 3, none⟩)), (10, .int .u64 a1.Epoch), (9, .pointer (some ⟨b357, 2, none⟩)), (7, .int .u64 a1.ID.Seq), (6, .pointer (some ⟨b357, 1, none⟩)), (5, .pointer (some ⟨b357, 0, none⟩))]) hst (by kernel_rfl) (pk_cons rfl (yi_run rfl (fun w hst => by kernel_rfl)) (pk_cons rfl (yi_run rfl (fun w hst => x_len rfl Try.underlying31 (rd_sliceV f1_0))) (pk_cons rfl (yi_run rfl (fun w hst => x_load rfl Try.isAgg31 (hst.bc1 rfl))) (pk_cons rfl (yi_run rfl (fun w hst => x_field rfl Try.underlying34 rfl Try.sizeOf31 rfl)) (pk_cons rfl (yi_run rfl (fun w hst => x_load rfl Try.isAgg27 (hst.bc1 rfl))) (pk_cons rfl (yi_run rfl (fun w hst => x_field rfl Try.underlying34 rfl Try.sizeOf27 rfl)) (pk_cons rfl (yi_run rfl (fun w hst => x_load rfl Try.isAgg27 (hst.bc1 rfl))) (pk_cons rfl (yi_run rfl (fun w hst => x_field rfl Try.underlying29 rfl Try.sizeOf27 rfl)) (pk_cons rfl (yi_run rfl (fun w hst => x_field rfl Try.underlying34 rfl Try.sizeOf29 rfl)) pk_nil))))))))) ?_
  refine ws_e1 8 (by kernel_rfl) ?_
  refine nxe [11, 16] (by kernel_rfl) rfl rfl ?_
  clear hst
  intro w hst
  obtain ⟨t367, ht368, hm⟩ := bind_some hm
  refine we_call rfl (x_call Try.call27 rfl (vs := [p0, .int .u64 a1.ID.Seq, .int .i64 (8:Int)]) rfl) ?_
  refine (octet_Writer_Num_ref hst.to1 ht368).mono ?_
  rintro _ w369 ⟨rfl, hst⟩
  refine ⟨_, rfl, ?_⟩
  replace hst := hst.of1
  refine ws_next (pend' := [(15, .int .u64 (IntKind.u64.wrap ((a1.Gets).length : Int))), (14, .int .i64 ((a1.Gets).length : Int)), (13, r1_0), (12, .pointer (some ⟨b357, 3, none⟩)), (10, .int .u64 a1.Epoch), (9, .pointer (some ⟨b357, 2, none⟩))]) hst (by kernel_rfl) (pk_cons rfl (yi_run rfl (fun w hst => by kernel_rfl)) (pk_cons rfl (yi_run rfl (fun w hst => x_len rfl Try.underlying31 (rd_sliceV f1_0))) (pk_cons rfl (yi_run rfl (fun w hst => x_load rfl Try.isAgg31 (hst.bc1 rfl))) (pk_cons rfl (yi_run rfl (fun w hst => x_field rfl Try.underlying34 rfl Try.sizeOf31 rfl)) (pk_cons rfl (yi_run rfl (fun w hst => x_load rfl Try.isAgg27 (hst.bc1 rfl))) (pk_cons rfl (yi_run rfl (fun w hst => x_field rfl Try.underlying34 rfl Try.sizeOf27 rfl)) pk_nil)))))) ?_
  refine ws_e1 11 (by kernel_rfl) ?_
  refine nxe [16] (by kernel_rfl) rfl rfl ?_
  clear hst
  intro w hst
  obtain ⟨t372, ht373, hm⟩ := bind_some hm
  refine we_call rfl (x_call Try.call27 rfl (vs := [p0, .int .u64 a1.Epoch, .int .i64 (8:Int)]) rfl) ?_
  refine (octet_Writer_Num_ref hst.to1 ht373).mono ?_
  rintro _ w374 ⟨rfl, hst⟩
  refine ⟨_, rfl, ?_⟩
  replace hst := hst.of1
  refine ws_next (pend' := [(15, .int .u64 (IntKind.u64.wrap ((a1.Gets).length : Int))), (14, .int .i64 ((a1.Gets).length : Int)), (13, r1_0), (12, .pointer (some ⟨b357, 3, none⟩))]) hst (by kernel_rfl) (pk_cons rfl (yi_run rfl (fun w hst => by kernel_rfl)) (pk_cons rfl (yi_run rfl (fun w hst => x_len rfl Try.underlying31 (rd_sliceV f1_0))) (pk_cons rfl (yi_run rfl (fun w hst => x_load rfl Try.isAgg31 (hst.bc1 rfl))) (pk_cons rfl (yi_run rfl (fun w hst => x_field rfl Try.underlying34 rfl Try.sizeOf31 rfl)) pk_nil)))) ?_
  refine ws_e1 16 (by kernel_rfl) ?_
  refine nxe [] (by kernel_rfl) rfl rfl ?_
  clear hst
  intro w hst
  obtain ⟨t377, ht378, hm⟩ := bind_some hm
  refine we_call rfl (x_call Try.call27 rfl (vs := [p0, .int .u64 (IntKind.u64.wrap ((a1.Gets).length : Int)), .int .i64 (4:Int)]) rfl) ?_
  refine (octet_Writer_Num_ref hst.to1 ht378).mono ?_
  rintro _ w379 ⟨rfl, hst⟩
  refine ⟨_, rfl, ?_⟩
  replace hst := hst.of1
  refine ws_next (pend' := []) hst (by kernel_rfl) pk_nil ?_
  refine ws_nil ?_
  intro w hst
  refine then_n ?_
  obtain ⟨y445, hm, hx446⟩ := bind_some hm
  refine wp_cut (fun a w => ∃ (z442 : octet_Writer) (σ443 : Nat → Value), (locks_Lay_j0 a1) z442 = some r ∧ a = Fr 84 (upd (upd σ443 0 (p0)) 3 (.pointer (some ⟨b357, 0, none⟩))) ∧ St w0 w I [at_octet_Writer p0 z442, cells b357 [.int .u64 a1.ID.Session, .int .u64 a1.ID.Seq, .int .u64 a1.Epoch, r1_0, r1_1, r1_2, r1_3]] R) ?_ ?_
  · skip
    refine wp_seq ?_
    refine wp_region_lit ?_
    refine wl_val (v := .pointer (some ⟨b357, 3, none⟩)) rfl rfl (x_field rfl Try.underlying34 rfl Try.sizeOf31 rfl) ?_
    refine wl_val (v := r1_0) rfl rfl (x_load rfl Try.isAgg31 (hst.bc1 rfl)) ?_
    refine wl_val (v := .int .i64 ((a1.Gets).length : Int)) rfl rfl (x_len rfl Try.underlying31 (rd_sliceV f1_0)) ?_
    refine wl_val (v := .int .i64 (0:Int)) rfl rfl rfl ?_
    refine wl_nil ?_
    refine then_n ?_
    refine wp_block ?_
    obtain ⟨n419, hm⟩ := loopO_some hm
    refine wp_loop_n (fun n a w => ∃ (z416 : octet_Writer) (z417 : Int) (σ418 : Nat → Value), loopN (locks_Lay_l1 a1) n (z416, z417) = some y445 ∧ a = Fr 84 (upd (upd (upd (upd (upd σ418 0 (p0)) 3 (.pointer (some ⟨b357, 0, none⟩))) 28 (r1_0)) 29 (.int .i64 ((a1.Gets).length : Int))) 30 (.int .i64 z417)) ∧ St w0 w I [at_octet_Writer p0 z416, cells b357 [.int .u64 a1.ID.Session, .int .u64 a1.ID.Seq, .int .u64 a1.Epoch, r1_0, r1_1, r1_2, r1_3]] R) n419 ⟨t377, (0:Int), _, hm, ((fr_upd (t := 0) (v := p0) rfl).trans ((fr_upd (t := 3) (v := .pointer (some ⟨b357, 0, none⟩)) rfl).trans ((fr_upd (t := 28) (v := r1_0) rfl).trans ((fr_upd (t := 29) (v := .int .i64 ((a1.Gets).length : Int)) rfl).trans ((fr_upd (t := 30) (v := .int .i64 (0:Int)) rfl).trans rfl))))), hst⟩ ?_
    rintro n425 _ w420 ⟨z416, z417, σ418, hm, rfl, hst⟩
    obtain ⟨n422, y423, rfl, hm, hx424⟩ := loopN_some hm
    dsimp only [locks_Lay_l1] at hm
    refine wp_seq ?_
    refine wp_region_lit ?_
    refine wl_val (v := .bool (decide (z417 < ((a1.Gets).length : Int)))) rfl rfl rfl ?_
    refine wl_nil ?_
    refine then_n ?_
    refine wp_seq ?_
    refine bsplit (decide (z417 < ((a1.Gets).length : Int))) (fun hc426 => ?_) (fun hc426 => ?_)
    · skip
      replace hm := bif_t hc426 hm
      refine wp_ift (congrArg Value.bool hc426) ?_
      refine wp_skip ?_
      refine then_n ?_
      refine wp_seq ?_
      refine wp_block ?_
      refine wp_seq ?_
      refine wp_region_lit ?_
      obtain ⟨x427, hx428, hm⟩ := bind_some hm
      obtain ⟨h429, h430, hi431⟩ := geto_some hx428
      refine wl_val (v := .pointer (some (eAddr r1_0 (z417.toNat * 1 + 0)))) rfl rfl (x_index rfl rfl Try.underlying31 Try.sizeOf41 (rd_sliceV f1_0) h429 h430) ?_
      refine wl_val (v := .float .f64 x427) rfl rfl (x_load rfl Try.isAgg41 (rd_load f1_0 (HL.le.refl _) hst hi431 (by rintro _ rfl; rfl))) ?_
      refine wl_val (v := .float .f64 x427) rfl rfl rfl ?_
      refine wl_nil ?_
      refine then_n ?_
      refine wp_region_lit ?_
      refine wl_val (v := p0) rfl rfl rfl ?_
      refine wl_val (v := .float .f64 x427) rfl rfl rfl ?_
      obtain ⟨t432, ht433, hm⟩ := bind_some hm
      refine wl_call rfl rfl (x_call Try.call39 rfl (vs := [.float .f64 x427]) rfl) ?_
      refine (number_Rank_ref hst.to0 ht433).mono ?_
      rintro _ w434 ⟨rfl, hst⟩
      refine ⟨_, rfl, ?_⟩
      replace hst := hst.of0
      obtain ⟨t437, ht438, hm⟩ := bind_some hm
      refine wl_call rfl rfl (x_call Try.call27 rfl (vs := [p0, .int .u64 t432, .int .i64 (8:Int)]) rfl) ?_
      refine (octet_Writer_Num_ref hst.to1 ht438).mono ?_
      rintro _ w439 ⟨rfl, hst⟩
      refine ⟨_, rfl, ?_⟩
      replace hst := hst.of1
      refine wl_nil ?_
      refine blk_n ?_
      refine then_n ?_
      refine wp_region_lit ?_
      refine wl_val (v := .int .i64 (IntKind.i64.wrap (z417 + (1:Int)))) rfl rfl rfl ?_
      refine wl_val (v := .int .i64 (IntKind.i64.wrap (z417 + (1:Int)))) rfl rfl rfl ?_
      refine wl_nil ?_
      refine then_n ?_
      replace hst := hst.pull1
      replace hst := hst.pull1
      replace hst := hst.keep2
      obtain rfl := some_inj hm
      exact ⟨_, Nat.lt_succ_self _, t437, (IntKind.i64.wrap (z417 + (1:Int))), _, hx424, ((fr_upd (t := 0) (v := p0) rfl).trans ((fr_upd (t := 3) (v := .pointer (some ⟨b357, 0, none⟩)) rfl).trans ((fr_upd (t := 28) (v := r1_0) rfl).trans ((fr_upd (t := 29) (v := .int .i64 ((a1.Gets).length : Int)) rfl).trans ((fr_upd (t := 30) (v := .int .i64 (IntKind.i64.wrap (z417 + (1:Int)))) rfl).trans rfl))))), hst⟩
    · skip
      replace hm := bif_f hc426 hm
      refine wp_iff (congrArg Value.bool hc426) ?_
      refine wp_exit ?_
      refine then_x ?_
      refine then_x ?_
      replace hm := inr_up hm hx424
      refine blk_x ?_
      refine then_n ?_
      replace hst := hst.pull1
      replace hst := hst.pull1
      replace hst := hst.keep2
      obtain rfl := some_inj hm
      exact ⟨z416, _, hx446, ((fr_upd (t := 0) (v := p0) rfl).trans ((fr_upd (t := 3) (v := .pointer (some ⟨b357, 0, none⟩)) rfl).trans rfl)), hst⟩
  · skip
    clear hst
    rintro _ w447 ⟨z442, σ443, hm, rfl, hst⟩
    dsimp only [locks_Lay_j0] at hm
    refine wp_seq ?_
    refine wp_region_lit ?_
    refine wl_val (v := p0) rfl rfl rfl ?_
    refine wl_val (v := .pointer (some ⟨b357, 4, none⟩)) rfl rfl (x_field rfl Try.underlying34 rfl Try.sizeOf32 rfl) ?_
    refine wl_val (v := r1_1) rfl rfl (x_load rfl Try.isAgg32 (hst.bc1 rfl)) ?_
    refine wl_val (v := .int .i64 ((a1.Scans).length : Int)) rfl rfl (x_len rfl Try.underlying32 (rd_sliceV f1_1)) ?_
    refine wl_val (v := .int .u64 (IntKind.u64.wrap ((a1.Scans).length : Int))) rfl rfl (by kernel_rfl) ?_
    obtain ⟨t448, ht449, hm⟩ := bind_some hm
    refine wl_call rfl rfl (x_call Try.call27 rfl (vs := [p0, .int .u64 (IntKind.u64.wrap ((a1.Scans).length : Int)), .int .i64 (4:Int)]) rfl) ?_
    refine (octet_Writer_Num_ref hst.to1 ht449).mono ?_
    rintro _ w450 ⟨rfl, hst⟩
    refine ⟨_, rfl, ?_⟩
    replace hst := hst.of1
    refine wl_nil ?_
    refine then_n ?_
    obtain ⟨y567, hm, hx568⟩ := bind_some hm
    refine wp_cut (fun a w => ∃ (z564 : octet_Writer) (σ565 : Nat → Value), (locks_Lay_j2 a1) z564 = some r ∧ a = Fr 84 (upd (upd σ565 0 (p0)) 3 (.pointer (some ⟨b357, 0, none⟩))) ∧ St w0 w I [at_octet_Writer p0 z564, cells b357 [.int .u64 a1.ID.Session, .int .u64 a1.ID.Seq, .int .u64 a1.Epoch, r1_0, r1_1, r1_2, r1_3]] R) ?_ ?_
    · skip
      refine wp_seq ?_
      refine wp_region_lit ?_
      refine wl_val (v := .pointer (some ⟨b357, 4, none⟩)) rfl rfl (x_field rfl Try.underlying34 rfl Try.sizeOf32 rfl) ?_
      refine wl_val (v := r1_1) rfl rfl (x_load rfl Try.isAgg32 (hst.bc1 rfl)) ?_
      refine wl_val (v := .int .i64 ((a1.Scans).length : Int)) rfl rfl (x_len rfl Try.underlying32 (rd_sliceV f1_1)) ?_
      refine wl_val (v := .int .i64 (0:Int)) rfl rfl rfl ?_
      refine wl_nil ?_
      refine then_n ?_
      refine wp_block ?_
      obtain ⟨n524, hm⟩ := loopO_some hm
      refine wp_loop_n (fun n a w => ∃ (z521 : octet_Writer) (z522 : Int) (σ523 : Nat → Value), loopN (locks_Lay_l3 a1) n (z521, z522) = some y567 ∧ a = Fr 84 (upd (upd (upd (upd (upd σ523 0 (p0)) 3 (.pointer (some ⟨b357, 0, none⟩))) 46 (r1_1)) 47 (.int .i64 ((a1.Scans).length : Int))) 48 (.int .i64 z522)) ∧ St w0 w I [at_octet_Writer p0 z521, cells b357 [.int .u64 a1.ID.Session, .int .u64 a1.ID.Seq, .int .u64 a1.Epoch, r1_0, r1_1, r1_2, r1_3]] R) n524 ⟨t448, (0:Int), _, hm, ((fr_upd (t := 0) (v := p0) rfl).trans ((fr_upd (t := 3) (v := .pointer (some ⟨b357, 0, none⟩)) rfl).trans ((fr_upd (t := 46) (v := r1_1) rfl).trans ((fr_upd (t := 47) (v := .int .i64 ((a1.Scans).length : Int)) rfl).trans ((fr_upd (t := 48) (v := .int .i64 (0:Int)) rfl).trans rfl))))), hst⟩ ?_
      rintro n530 _ w525 ⟨z521, z522, σ523, hm, rfl, hst⟩
      obtain ⟨n527, y528, rfl, hm, hx529⟩ := loopN_some hm
      dsimp only [locks_Lay_l3] at hm
      refine wp_seq ?_
      refine wp_region_lit ?_
      refine wl_val (v := .bool (decide (z522 < ((a1.Scans).length : Int)))) rfl rfl rfl ?_
      refine wl_nil ?_
      refine then_n ?_
      refine wp_seq ?_
      refine bsplit (decide (z522 < ((a1.Scans).length : Int))) (fun hc531 => ?_) (fun hc531 => ?_)
      · skip
        replace hm := bif_t hc531 hm
        refine wp_ift (congrArg Value.bool hc531) ?_
        refine wp_skip ?_
        refine then_n ?_
        refine wp_seq ?_
        refine wp_block ?_
        refine wp_seq ?_
        refine wp_region_lit ?_
        obtain ⟨x532, hx533, hm⟩ := bind_some hm
        obtain ⟨h534, h535, hi536⟩ := geto_some hx533
        refine wl_val (v := .pointer (some (eAddr r1_1 (z522.toNat * 2 + 0)))) rfl rfl (x_index rfl rfl Try.underlying32 Try.sizeOf111 (rd_sliceV f1_1) h534 h535) ?_
        refine wl_val (v := .agg #[.float .f64 x532.1, .float .f64 x532.2]) rfl rfl (x_loadN (cs := [.float .f64 x532.1, .float .f64 x532.2]) rfl Try.isAgg111 Try.sizeOf111 (rd_loadN f1_1 (HL.le.refl _) hst hi536 0 (by rintro _ rfl; rfl))) ?_
        obtain ⟨b537, w538, ew539, eb540, hst⟩ := hst.box [.float .f64 (0:Nat), .float .f64 (0:Nat)] 111
        refine wl_run (v := .pointer (some ⟨b537, 0, none⟩)) (w' := w538) rfl rfl (x_al (by kernel_rfl) ew539 eb540) ?_
        obtain ⟨w542, hr543, hst⟩ := hst.boxStore (P := Try.prog) (t := 111) (cs' := [.float .f64 x532.1, .float .f64 x532.2]) 0 (.agg #[.float .f64 x532.1, .float .f64 x532.2]) Try.sizeOf111 (Nat.le_of_ble_eq_true rfl) (ones_cons rfl (ones_cons rfl ones_nil)) (by kernel_rfl)
        refine wl_unit rfl rfl (x_unit hr543) ?_
        refine wl_nil ?_
        refine then_n ?_
        refine wp_region_St hst 9 [0, 1, 2, 3, 4, 5, 6, 7, 8] [0, 0, 2, 6, 15, 0, 32, 127, 255] [] rfl (by kernel_rfl) (by kernel_rfl) Try.mixed (by kernel_rfl) ?_
        refine ws_q (v := p0) 0 [1, 2, 3, 4, 5, 6, 7, 8] (by kernel_rfl) rfl rfl (yi_run rfl (fun w hst => rfl)) ?_
        refine ws_q (v := .pointer (some ⟨b537, 0, none⟩)) 1 [2, 3, 4, 5, 6, 7, 8] (by kernel_rfl) rfl rfl (yi_run rfl (fun w hst => x_index_arr (i := (0:Int)) rfl rfl Try.underlying111 Try.sizeOf41 (by decide) (by decide))) ?_
        refine ws_q (v := .float .f64 x532.1) 2 [3, 4, 5, 6, 7, 8] (by kernel_rfl) rfl rfl (yi_run rfl (fun w hst => x_load rfl Try.isAgg41 (hst.bc0 rfl))) ?_
        refine ws_q (v := .pointer (some ⟨b537, 1, none⟩)) 5 [3, 4, 6, 7, 8] (by kernel_rfl) rfl rfl (yi_run rfl (fun w hst => x_index_arr (i := (1:Int)) rfl rfl Try.underlying111 Try.sizeOf41 (by decide) (by decide))) ?_
        refine ws_q (v := .float .f64 x532.2) 6 [3, 4, 7, 8] (by kernel_rfl) rfl rfl (yi_run rfl (fun w hst => x_load rfl Try.isAgg41 (hst.bc0 rfl))) ?_
        refine ws_e1 3 (by kernel_rfl) ?_
        refine nxe [4, 7, 8] (by kernel_rfl) rfl rfl ?_
        clear hst
        intro w hst
        obtain ⟨t544, ht545, hm⟩ := bind_some hm
        refine we_call rfl (x_call Try.call39 rfl (vs := [.float .f64 x532.1]) rfl) ?_
        refine (number_Rank_ref hst.to0 ht545).mono ?_
        rintro _ w546 ⟨rfl, hst⟩
        refine ⟨_, rfl, ?_⟩
        replace hst := hst.of0
        refine ws_next (pend' := [(6, .float .f64 x532.2), (5, .pointer (some ⟨b537, 1, none⟩)), (0, p0)]) hst (by kernel_rfl) (pk_cons rfl (yi_run rfl (fun w hst => x_load rfl Try.isAgg41 (hst.bc0 rfl))) (pk_cons rfl (yi_run rfl (fun w hst => x_index_arr (i := (1:Int)) rfl rfl Try.underlying111 Try.sizeOf41 (by decide) (by decide))) (pk_cons rfl (yi_run rfl (fun w hst => rfl)) pk_nil))) ?_
        refine ws_e1 4 (by kernel_rfl) ?_
        refine nxe [7, 8] (by kernel_rfl) rfl rfl ?_
        clear hst
        intro w hst
        replace hst := hst.pull1
        obtain ⟨t549, ht550, hm⟩ := bind_some hm
        refine we_call rfl (x_call Try.call27 rfl (vs := [p0, .int .u64 t544, .int .i64 (8:Int)]) rfl) ?_
        refine (octet_Writer_Num_ref hst.to1 ht550).mono ?_
        rintro _ w551 ⟨rfl, hst⟩
        refine ⟨_, rfl, ?_⟩
        replace hst := hst.of1
        refine ws_next (pend' := [(6, .float .f64 x532.2), (5, .pointer (some ⟨b537, 1, none⟩))]) hst (by kernel_rfl) (pk_cons rfl (yi_run rfl (fun w hst => x_load rfl Try.isAgg41 (hst.bc1 rfl))) (pk_cons rfl (yi_run rfl (fun w hst => x_index_arr (i := (1:Int)) rfl rfl Try.underlying111 Try.sizeOf41 (by decide) (by decide))) pk_nil)) ?_
        refine ws_e1 7 (by kernel_rfl) ?_
        refine nxe [8] (by kernel_rfl) rfl rfl ?_
        clear hst
        intro w hst
        obtain ⟨t554, ht555, hm⟩ := bind_some hm
        refine we_call rfl (x_call Try.call39 rfl (vs := [.float .f64 x532.2]) rfl) ?_
        refine (number_Rank_ref hst.to0 ht555).mono ?_
        rintro _ w556 ⟨rfl, hst⟩
        refine ⟨_, rfl, ?_⟩
        replace hst := hst.of0
        refine ws_next (pend' := []) hst (by kernel_rfl) pk_nil ?_
        refine ws_e1 8 (by kernel_rfl) ?_
        refine nxe [] (by kernel_rfl) rfl rfl ?_
        clear hst
        intro w hst
        obtain ⟨t559, ht560, hm⟩ := bind_some hm
        refine we_call rfl (x_call Try.call27 rfl (vs := [p0, .int .u64 t554, .int .i64 (8:Int)]) rfl) ?_
        refine (octet_Writer_Num_ref hst.to1 ht560).mono ?_
        rintro _ w561 ⟨rfl, hst⟩
        refine ⟨_, rfl, ?_⟩
        replace hst := hst.of1
        refine ws_next (pend' := []) hst (by kernel_rfl) pk_nil ?_
        refine ws_nil ?_
        intro w hst
        refine blk_n ?_
        refine then_n ?_
        refine wp_region_lit ?_
        refine wl_val (v := .int .i64 (IntKind.i64.wrap (z522 + (1:Int)))) rfl rfl rfl ?_
        refine wl_val (v := .int .i64 (IntKind.i64.wrap (z522 + (1:Int)))) rfl rfl rfl ?_
        refine wl_nil ?_
        refine then_n ?_
        replace hst := hst.pull2
        replace hst := hst.pull1
        replace hst := hst.keep2
        obtain rfl := some_inj hm
        exact ⟨_, Nat.lt_succ_self _, t559, (IntKind.i64.wrap (z522 + (1:Int))), _, hx529, ((fr_upd (t := 0) (v := p0) rfl).trans ((fr_upd (t := 3) (v := .pointer (some ⟨b357, 0, none⟩)) rfl).trans ((fr_upd (t := 46) (v := r1_1) rfl).trans ((fr_upd (t := 47) (v := .int .i64 ((a1.Scans).length : Int)) rfl).trans ((fr_upd (t := 48) (v := .int .i64 (IntKind.i64.wrap (z522 + (1:Int)))) rfl).trans rfl))))), hst⟩
      · skip
        replace hm := bif_f hc531 hm
        refine wp_iff (congrArg Value.bool hc531) ?_
        refine wp_exit ?_
        refine then_x ?_
        refine then_x ?_
        replace hm := inr_up hm hx529
        refine blk_x ?_
        refine then_n ?_
        replace hst := hst.pull1
        replace hst := hst.pull1
        replace hst := hst.keep2
        obtain rfl := some_inj hm
        exact ⟨z521, _, hx568, ((fr_upd (t := 0) (v := p0) rfl).trans ((fr_upd (t := 3) (v := .pointer (some ⟨b357, 0, none⟩)) rfl).trans rfl)), hst⟩
    · skip
      clear hst
      rintro _ w569 ⟨z564, σ565, hm, rfl, hst⟩
      dsimp only [locks_Lay_j2] at hm
      refine wp_seq ?_
      refine wp_region_lit ?_
      refine wl_val (v := p0) rfl rfl rfl ?_
      refine wl_val (v := .pointer (some ⟨b357, 5, none⟩)) rfl rfl (x_field rfl Try.underlying34 rfl Try.sizeOf31 rfl) ?_
      refine wl_val (v := r1_2) rfl rfl (x_load rfl Try.isAgg31 (hst.bc1 rfl)) ?_
      refine wl_val (v := .int .i64 ((a1.Puts).length : Int)) rfl rfl (x_len rfl Try.underlying31 (rd_sliceV f1_2)) ?_
      refine wl_val (v := .int .u64 (IntKind.u64.wrap ((a1.Puts).length : Int))) rfl rfl (by kernel_rfl) ?_
      obtain ⟨t570, ht571, hm⟩ := bind_some hm
      refine wl_call rfl rfl (x_call Try.call27 rfl (vs := [p0, .int .u64 (IntKind.u64.wrap ((a1.Puts).length : Int)), .int .i64 (4:Int)]) rfl) ?_
      refine (octet_Writer_Num_ref hst.to1 ht571).mono ?_
      rintro _ w572 ⟨rfl, hst⟩
      refine ⟨_, rfl, ?_⟩
      replace hst := hst.of1
      refine wl_nil ?_
      refine then_n ?_
      obtain ⟨y638, hm, hx639⟩ := bind_some hm
      refine wp_cut (fun a w => ∃ (z635 : octet_Writer) (σ636 : Nat → Value), (locks_Lay_j4 a1) z635 = some r ∧ a = Fr 84 (upd (upd σ636 0 (p0)) 3 (.pointer (some ⟨b357, 0, none⟩))) ∧ St w0 w I [at_octet_Writer p0 z635, cells b357 [.int .u64 a1.ID.Session, .int .u64 a1.ID.Seq, .int .u64 a1.Epoch, r1_0, r1_1, r1_2, r1_3]] R) ?_ ?_
      · skip
        refine wp_seq ?_
        refine wp_region_lit ?_
        refine wl_val (v := .pointer (some ⟨b357, 5, none⟩)) rfl rfl (x_field rfl Try.underlying34 rfl Try.sizeOf31 rfl) ?_
        refine wl_val (v := r1_2) rfl rfl (x_load rfl Try.isAgg31 (hst.bc1 rfl)) ?_
        refine wl_val (v := .int .i64 ((a1.Puts).length : Int)) rfl rfl (x_len rfl Try.underlying31 (rd_sliceV f1_2)) ?_
        refine wl_val (v := .int .i64 (0:Int)) rfl rfl rfl ?_
        refine wl_nil ?_
        refine then_n ?_
        refine wp_block ?_
        obtain ⟨n612, hm⟩ := loopO_some hm
        refine wp_loop_n (fun n a w => ∃ (z609 : octet_Writer) (z610 : Int) (σ611 : Nat → Value), loopN (locks_Lay_l5 a1) n (z609, z610) = some y638 ∧ a = Fr 84 (upd (upd (upd (upd (upd σ611 0 (p0)) 3 (.pointer (some ⟨b357, 0, none⟩))) 69 (r1_2)) 70 (.int .i64 ((a1.Puts).length : Int))) 71 (.int .i64 z610)) ∧ St w0 w I [at_octet_Writer p0 z609, cells b357 [.int .u64 a1.ID.Session, .int .u64 a1.ID.Seq, .int .u64 a1.Epoch, r1_0, r1_1, r1_2, r1_3]] R) n612 ⟨t570, (0:Int), _, hm, ((fr_upd (t := 0) (v := p0) rfl).trans ((fr_upd (t := 3) (v := .pointer (some ⟨b357, 0, none⟩)) rfl).trans ((fr_upd (t := 69) (v := r1_2) rfl).trans ((fr_upd (t := 70) (v := .int .i64 ((a1.Puts).length : Int)) rfl).trans ((fr_upd (t := 71) (v := .int .i64 (0:Int)) rfl).trans rfl))))), hst⟩ ?_
        rintro n618 _ w613 ⟨z609, z610, σ611, hm, rfl, hst⟩
        obtain ⟨n615, y616, rfl, hm, hx617⟩ := loopN_some hm
        dsimp only [locks_Lay_l5] at hm
        refine wp_seq ?_
        refine wp_region_lit ?_
        refine wl_val (v := .bool (decide (z610 < ((a1.Puts).length : Int)))) rfl rfl rfl ?_
        refine wl_nil ?_
        refine then_n ?_
        refine wp_seq ?_
        refine bsplit (decide (z610 < ((a1.Puts).length : Int))) (fun hc619 => ?_) (fun hc619 => ?_)
        · skip
          replace hm := bif_t hc619 hm
          refine wp_ift (congrArg Value.bool hc619) ?_
          refine wp_skip ?_
          refine then_n ?_
          refine wp_seq ?_
          refine wp_block ?_
          refine wp_seq ?_
          refine wp_region_lit ?_
          obtain ⟨x620, hx621, hm⟩ := bind_some hm
          obtain ⟨h622, h623, hi624⟩ := geto_some hx621
          refine wl_val (v := .pointer (some (eAddr r1_2 (z610.toNat * 1 + 0)))) rfl rfl (x_index rfl rfl Try.underlying31 Try.sizeOf41 (rd_sliceV f1_2) h622 h623) ?_
          refine wl_val (v := .float .f64 x620) rfl rfl (x_load rfl Try.isAgg41 (rd_load f1_2 (HL.le.refl _) hst hi624 (by rintro _ rfl; rfl))) ?_
          refine wl_val (v := .float .f64 x620) rfl rfl rfl ?_
          refine wl_nil ?_
          refine then_n ?_
          refine wp_region_lit ?_
          refine wl_val (v := p0) rfl rfl rfl ?_
          refine wl_val (v := .float .f64 x620) rfl rfl rfl ?_
          obtain ⟨t625, ht626, hm⟩ := bind_some hm
          refine wl_call rfl rfl (x_call Try.call39 rfl (vs := [.float .f64 x620]) rfl) ?_
          refine (number_Rank_ref hst.to0 ht626).mono ?_
          rintro _ w627 ⟨rfl, hst⟩
          refine ⟨_, rfl, ?_⟩
          replace hst := hst.of0
          obtain ⟨t630, ht631, hm⟩ := bind_some hm
          refine wl_call rfl rfl (x_call Try.call27 rfl (vs := [p0, .int .u64 t625, .int .i64 (8:Int)]) rfl) ?_
          refine (octet_Writer_Num_ref hst.to1 ht631).mono ?_
          rintro _ w632 ⟨rfl, hst⟩
          refine ⟨_, rfl, ?_⟩
          replace hst := hst.of1
          refine wl_nil ?_
          refine blk_n ?_
          refine then_n ?_
          refine wp_region_lit ?_
          refine wl_val (v := .int .i64 (IntKind.i64.wrap (z610 + (1:Int)))) rfl rfl rfl ?_
          refine wl_val (v := .int .i64 (IntKind.i64.wrap (z610 + (1:Int)))) rfl rfl rfl ?_
          refine wl_nil ?_
          refine then_n ?_
          replace hst := hst.pull1
          replace hst := hst.pull1
          replace hst := hst.keep2
          obtain rfl := some_inj hm
          exact ⟨_, Nat.lt_succ_self _, t630, (IntKind.i64.wrap (z610 + (1:Int))), _, hx617, ((fr_upd (t := 0) (v := p0) rfl).trans ((fr_upd (t := 3) (v := .pointer (some ⟨b357, 0, none⟩)) rfl).trans ((fr_upd (t := 69) (v := r1_2) rfl).trans ((fr_upd (t := 70) (v := .int .i64 ((a1.Puts).length : Int)) rfl).trans ((fr_upd (t := 71) (v := .int .i64 (IntKind.i64.wrap (z610 + (1:Int)))) rfl).trans rfl))))), hst⟩
        · skip
          replace hm := bif_f hc619 hm
          refine wp_iff (congrArg Value.bool hc619) ?_
          refine wp_exit ?_
          refine then_x ?_
          refine then_x ?_
          replace hm := inr_up hm hx617
          refine blk_x ?_
          refine then_n ?_
          replace hst := hst.pull1
          replace hst := hst.pull1
          replace hst := hst.keep2
          obtain rfl := some_inj hm
          exact ⟨z609, _, hx639, ((fr_upd (t := 0) (v := p0) rfl).trans ((fr_upd (t := 3) (v := .pointer (some ⟨b357, 0, none⟩)) rfl).trans rfl)), hst⟩
      · skip
        clear hst
        rintro _ w640 ⟨z635, σ636, hm, rfl, hst⟩
        dsimp only [locks_Lay_j4] at hm
        refine wp_region_lit ?_
        refine wl_val (v := p0) rfl rfl rfl ?_
        refine wl_val (v := .pointer (some ⟨b357, 6, none⟩)) rfl rfl (x_field rfl Try.underlying34 rfl Try.sizeOf22 rfl) ?_
        refine wl_val (v := r1_3) rfl rfl (x_load rfl Try.isAgg22 (hst.bc1 rfl)) ?_
        obtain ⟨t641, ht642, hm⟩ := bind_some hm
        refine wl_call rfl rfl (x_call Try.call38 rfl (vs := [p0, r1_3]) rfl) ?_
        refine (octet_Writer_Bytes_ref (f1_3.mono (rd_weak _)) hst.to1 ht642).mono ?_
        rintro _ w643 ⟨rfl, hst⟩
        refine ⟨_, rfl, ?_⟩
        replace hst := hst.of1
        refine wl_nil ?_
        obtain rfl := some_inj hm
        refine post_end (vs := []) Try.results29 rvs_nil ?_
        exact ⟨rfl, hst.keep1⟩

theorem octet_Writer_Flag_ref {w0 w : World} {I : HL} {R : SP} {a0 : octet_Writer} {p0 : Value} {a1 : Bool}  (hst : St w0 w I [at_octet_Writer p0 a0] R) {r : (octet_Writer)} (hm : octet_Writer_Flag a0 a1 = some r) :
    Calls Try.prog 32 #[p0, .bool a1] w fun e w' => e = .returned (p0) ∧ St w0 w' I [at_octet_Writer p0 r] R := by
  unfold octet_Writer_Flag at hm
  refine calls_start (args := [p0, .bool a1]) Try.func32 rfl Try.ntmps32 (Nat.le_of_ble_eq_true rfl) ?_
  refine wp_seq ?_
  refine wp_region_lit ?_
  refine wl_val (v := .pointer none) rfl rfl rfl ?_
  refine wl_nil ?_
  refine then_n ?_
  refine wp_seq ?_
  refine wp_seq ?_
  refine wp_region_lit ?_
  refine wl_val (v := .bool a1) rfl rfl rfl ?_
  refine wl_nil ?_
  refine then_n ?_
  refine bsplit a1 (fun hc141 => ?_) (fun hc141 => ?_)
  · skip
    replace hm := bif_t hc141 hm
    refine wp_ift (congrArg Value.bool hc141) ?_
    refine wp_seq ?_
    refine wp_region_lit ?_
    refine wl_val (v := p0) rfl rfl rfl ?_
    obtain ⟨t142, ht143, hm⟩ := bind_some hm
    refine wl_call rfl rfl (x_call Try.call27 rfl (vs := [p0, .int .u64 (1:Int), .int .i64 (1:Int)]) rfl) ?_
    refine (octet_Writer_Num_ref hst.to1 ht143).mono ?_
    rintro _ w144 ⟨rfl, hst⟩
    refine ⟨_, rfl, ?_⟩
    replace hst := hst.of1
    refine wl_val (v := p0) rfl rfl rfl ?_
    refine wl_nil ?_
    refine then_n ?_
    refine wp_ret ?_
    refine then_r ?_
    obtain rfl := some_inj hm
    refine post_ret (vs := [p0]) Try.results32 (rvs_cons (rv_tmp rfl) rvs_nil) ?_
    exact ⟨rfl, hst.keep1⟩
  · skip
    replace hm := bif_f hc141 hm
    refine wp_iff (congrArg Value.bool hc141) ?_
    refine wp_skip ?_
    refine then_n ?_
    refine wp_seq ?_
    refine wp_region_lit ?_
    refine wl_val (v := p0) rfl rfl rfl ?_
    obtain ⟨t147, ht148, hm⟩ := bind_some hm
    refine wl_call rfl rfl (x_call Try.call27 rfl (vs := [p0, .int .u64 (0:Int), .int .i64 (1:Int)]) rfl) ?_
    refine (octet_Writer_Num_ref hst.to1 ht148).mono ?_
    rintro _ w149 ⟨rfl, hst⟩
    refine ⟨_, rfl, ?_⟩
    replace hst := hst.of1
    refine wl_val (v := p0) rfl rfl rfl ?_
    refine wl_nil ?_
    refine then_n ?_
    refine wp_ret ?_
    obtain rfl := some_inj hm
    refine post_ret (vs := [p0]) Try.results32 (rvs_cons (rv_tmp rfl) rvs_nil) ?_
    exact ⟨rfl, hst.keep1⟩

theorem command_writes_ref {w0 w : World} {I : HL} {R : SP} {a0 : octet_Writer} {p0 : Value} {a1 : (List api_Write)} {r1_0 : Value} (f1_0 : Rd ty_api_Write R I r1_0 a1) (hst : St w0 w I [at_octet_Writer p0 a0] R) {r : (octet_Writer)} (hm : command_writes a0 a1 = some r) :
    Calls Try.prog 30 #[p0, r1_0] w fun e w' => e = .returned (.tuple #[]) ∧ St w0 w' I [at_octet_Writer p0 r] R := by
  unfold command_writes at hm
  refine calls_start (args := [p0, r1_0]) Try.func30 rfl Try.ntmps30 (Nat.le_of_ble_eq_true rfl) ?_
  refine wp_seq ?_
  refine wp_region_lit ?_
  refine wl_val (v := p0) rfl rfl rfl ?_
  refine wl_val (v := r1_0) rfl rfl rfl ?_
  refine wl_val (v := .int .i64 ((a1).length : Int)) rfl rfl (x_len rfl Try.underlying35 (rd_sliceV f1_0)) ?_
  refine wl_val (v := .int .u64 (IntKind.u64.wrap ((a1).length : Int))) rfl rfl (by kernel_rfl) ?_
  obtain ⟨t242, ht243, hm⟩ := bind_some hm
  refine wl_call rfl rfl (x_call Try.call27 rfl (vs := [p0, .int .u64 (IntKind.u64.wrap ((a1).length : Int)), .int .i64 (4:Int)]) rfl) ?_
  refine (octet_Writer_Num_ref hst.to1 ht243).mono ?_
  rintro _ w244 ⟨rfl, hst⟩
  refine ⟨_, rfl, ?_⟩
  replace hst := hst.of1
  refine wl_nil ?_
  refine then_n ?_
  refine wp_seq ?_
  refine wp_region_lit ?_
  refine wl_val (v := r1_0) rfl rfl rfl ?_
  refine wl_val (v := .int .i64 ((a1).length : Int)) rfl rfl (x_len rfl Try.underlying35 (rd_sliceV f1_0)) ?_
  refine wl_val (v := .int .i64 (0:Int)) rfl rfl rfl ?_
  refine wl_nil ?_
  refine then_n ?_
  refine wp_block ?_
  obtain ⟨n332, hm⟩ := loopO_some hm
  refine wp_loop_n (fun n a w => ∃ (z329 : octet_Writer) (z330 : Int) (σ331 : Nat → Value), loopN (command_writes_l0 a1) n (z329, z330) = some r ∧ a = Fr 29 (upd (upd (upd (upd σ331 0 (p0)) 11 (r1_0)) 12 (.int .i64 ((a1).length : Int))) 13 (.int .i64 z330)) ∧ St w0 w I [at_octet_Writer p0 z329] R) n332 ⟨t242, (0:Int), _, hm, ((fr_upd (t := 0) (v := p0) rfl).trans ((fr_upd (t := 11) (v := r1_0) rfl).trans ((fr_upd (t := 12) (v := .int .i64 ((a1).length : Int)) rfl).trans ((fr_upd (t := 13) (v := .int .i64 (0:Int)) rfl).trans rfl)))), hst⟩ ?_
  rintro n338 _ w333 ⟨z329, z330, σ331, hm, rfl, hst⟩
  obtain ⟨n335, y336, rfl, hm, hx337⟩ := loopN_some hm
  dsimp only [command_writes_l0] at hm
  refine wp_seq ?_
  refine wp_region_lit ?_
  refine wl_val (v := .bool (decide (z330 < ((a1).length : Int)))) rfl rfl rfl ?_
  refine wl_nil ?_
  refine then_n ?_
  refine wp_seq ?_
  refine bsplit (decide (z330 < ((a1).length : Int))) (fun hc339 => ?_) (fun hc339 => ?_)
  · skip
    replace hm := bif_t hc339 hm
    refine wp_ift (congrArg Value.bool hc339) ?_
    refine wp_skip ?_
    refine then_n ?_
    refine wp_seq ?_
    refine wp_block ?_
    refine wp_seq ?_
    refine wp_region_lit ?_
    obtain ⟨x340, hx341, hm⟩ := bind_some hm
    obtain ⟨h342, h343, hi344⟩ := geto_some hx341
    refine wl_val (v := .pointer (some (eAddr r1_0 (z330.toNat * 3 + 0)))) rfl rfl (x_index rfl rfl Try.underlying35 Try.sizeOf73 (rd_sliceV f1_0) h342 h343) ?_
    obtain ⟨cs345, hr346, hc347⟩ := Rd.getF f1_0 hi344
    obtain ⟨v348, rfl, f349, -⟩ := hr346
    refine wl_val (v := .agg #[.float .f64 x340.At, .bool x340.Del, v348]) rfl rfl (x_loadN (cs := [.float .f64 x340.At, .bool x340.Del, v348]) rfl Try.isAgg73 Try.sizeOf73 (eCells (o := 0) (hc347 (HL.le.refl _) hst) rfl)) ?_
    obtain ⟨b352, w353, ew354, eb355, hst⟩ := hst.box [.float .f64 (0:Nat), .bool false, (.slice none 0 0)] 73
    refine wl_run (v := .pointer (some ⟨b352, 0, none⟩)) (w' := w353) rfl rfl (x_al (by kernel_rfl) ew354 eb355) ?_
    obtain ⟨w357, hr358, hst⟩ := hst.boxStore (P := Try.prog) (t := 73) (cs' := [.float .f64 x340.At, .bool x340.Del, v348]) 0 (.agg #[.float .f64 x340.At, .bool x340.Del, v348]) Try.sizeOf73 (Nat.le_of_ble_eq_true rfl) (ones_cons rfl (ones_cons rfl (ones_cons (one_of_sliceV (rd_sliceV f349)) ones_nil))) (by kernel_rfl)
    refine wl_unit rfl rfl (x_unit hr358) ?_
    refine wl_nil ?_
    refine then_n ?_
    refine wp_region_St hst 11 [0, 1, 2, 3, 4, 5, 6, 7, 8, 9, 10] [0, 0, 2, 6, 15, 0, 32, 127, 0, 256, 1023] [] rfl (by kernel_rfl) (by kernel_rfl) Try.mixed (by kernel_rfl) ?_
    refine ws_q (v := p0) 0 [1, 2, 3, 4, 5, 6, 7, 8, 9, 10] (by kernel_rfl) rfl rfl (yi_run rfl (fun w hst => rfl)) ?_
    refine ws_q (v := .pointer (some ⟨b352, 0, none⟩)) 1 [2, 3, 4, 5, 6, 7, 8, 9, 10] (by kernel_rfl) rfl rfl (yi_run rfl (fun w hst => x_field rfl Try.underlying73 rfl Try.sizeOf41 rfl)) ?_
    refine ws_q (v := .float .f64 x340.At) 2 [3, 4, 5, 6, 7, 8, 9, 10] (by kernel_rfl) rfl rfl (yi_run rfl (fun w hst => x_load rfl Try.isAgg41 (hst.bc0 rfl))) ?_
    refine ws_q (v := .pointer (some ⟨b352, 1, none⟩)) 5 [3, 4, 6, 7, 8, 9, 10] (by kernel_rfl) rfl rfl (yi_run rfl (fun w hst => x_field rfl Try.underlying73 rfl Try.sizeOf4 rfl)) ?_
    refine ws_q (v := .bool x340.Del) 6 [3, 4, 7, 8, 9, 10] (by kernel_rfl) rfl rfl (yi_run rfl (fun w hst => x_load rfl Try.isAgg4 (hst.bc0 rfl))) ?_
    refine ws_q (v := .pointer (some ⟨b352, 2, none⟩)) 8 [3, 4, 7, 9, 10] (by kernel_rfl) rfl rfl (yi_run rfl (fun w hst => x_field rfl Try.underlying73 rfl Try.sizeOf22 rfl)) ?_
    refine ws_q (v := v348) 9 [3, 4, 7, 10] (by kernel_rfl) rfl rfl (yi_run rfl (fun w hst => x_load rfl Try.isAgg22 (hst.bc0 rfl))) ?_
    refine ws_e1 3 (by kernel_rfl) ?_
    refine nxe [4, 7, 10] (by kernel_rfl) rfl rfl ?_
    clear hst
    intro w hst
    obtain ⟨t359, ht360, hm⟩ := bind_some hm
    refine we_call rfl (x_call Try.call39 rfl (vs := [.float .f64 x340.At]) rfl) ?_
    refine (number_Rank_ref hst.to0 ht360).mono ?_
    rintro _ w361 ⟨rfl, hst⟩
    refine ⟨_, rfl, ?_⟩
    replace hst := hst.of0
    refine ws_next (pend' := [(9, v348), (8, .pointer (some ⟨b352, 2, none⟩)), (6, .bool x340.Del), (5, .pointer (some ⟨b352, 1, none⟩)), (0, p0)]) hst (by kernel_rfl) (pk_cons rfl (yi_run rfl (fun w hst => x_load rfl Try.isAgg22 (hst.bc0 rfl))) (pk_cons rfl (yi_run rfl (fun w hst => x_field rfl Try.underlying73 rfl Try.sizeOf22 rfl)) (pk_cons rfl (yi_run rfl (fun w hst => x_load rfl Try.isAgg4 (hst.bc0 rfl))) (pk_cons rfl (yi_run rfl (fun w hst => x_field rfl Try.underlying73 rfl Try.sizeOf4 rfl)) (pk_cons rfl (yi_run rfl (fun w hst => rfl)) pk_nil))))) ?_
    refine ws_e1 4 (by kernel_rfl) ?_
    refine nxe [7, 10] (by kernel_rfl) rfl rfl ?_
    clear hst
    intro w hst
    replace hst := hst.pull1
    obtain ⟨t364, ht365, hm⟩ := bind_some hm
    refine we_call rfl (x_call Try.call27 rfl (vs := [p0, .int .u64 t359, .int .i64 (8:Int)]) rfl) ?_
    refine (octet_Writer_Num_ref hst.to1 ht365).mono ?_
    rintro _ w366 ⟨rfl, hst⟩
    refine ⟨_, rfl, ?_⟩
    replace hst := hst.of1
    refine ws_next (pend' := [(9, v348), (8, .pointer (some ⟨b352, 2, none⟩)), (6, .bool x340.Del), (5, .pointer (some ⟨b352, 1, none⟩))]) hst (by kernel_rfl) (pk_cons rfl (yi_run rfl (fun w hst => x_load rfl Try.isAgg22 (hst.bc1 rfl))) (pk_cons rfl (yi_run rfl (fun w hst => x_field rfl Try.underlying73 rfl Try.sizeOf22 rfl)) (pk_cons rfl (yi_run rfl (fun w hst => x_load rfl Try.isAgg4 (hst.bc1 rfl))) (pk_cons rfl (yi_run rfl (fun w hst => x_field rfl Try.underlying73 rfl Try.sizeOf4 rfl)) pk_nil)))) ?_
    refine ws_e1 7 (by kernel_rfl) ?_
    refine nxe [10] (by kernel_rfl) rfl rfl ?_
    clear hst
    intro w hst
    obtain ⟨t369, ht370, hm⟩ := bind_some hm
    refine we_call rfl (x_call Try.call32 rfl (vs := [p0, .bool x340.Del]) rfl) ?_
    refine (octet_Writer_Flag_ref hst.to1 ht370).mono ?_
    rintro _ w371 ⟨rfl, hst⟩
    refine ⟨_, rfl, ?_⟩
    replace hst := hst.of1
    refine ws_next (pend' := [(9, v348), (8, .pointer (some ⟨b352, 2, none⟩))]) hst (by kernel_rfl) (pk_cons rfl (yi_run rfl (fun w hst => x_load rfl Try.isAgg22 (hst.bc1 rfl))) (pk_cons rfl (yi_run rfl (fun w hst => x_field rfl Try.underlying73 rfl Try.sizeOf22 rfl)) pk_nil)) ?_
    refine ws_e1 10 (by kernel_rfl) ?_
    refine nxe [] (by kernel_rfl) rfl rfl ?_
    clear hst
    intro w hst
    obtain ⟨t374, ht375, hm⟩ := bind_some hm
    refine we_call rfl (x_call Try.call38 rfl (vs := [p0, v348]) rfl) ?_
    refine (octet_Writer_Bytes_ref (f349.mono (rd_weak _)) hst.to1 ht375).mono ?_
    rintro _ w376 ⟨rfl, hst⟩
    refine ⟨_, rfl, ?_⟩
    replace hst := hst.of1
    refine ws_next (pend' := []) hst (by kernel_rfl) pk_nil ?_
    refine ws_nil ?_
    intro w hst
    refine blk_n ?_
    refine then_n ?_
    refine wp_region_lit ?_
    refine wl_val (v := .int .i64 (IntKind.i64.wrap (z330 + (1:Int)))) rfl rfl rfl ?_
    refine wl_val (v := .int .i64 (IntKind.i64.wrap (z330 + (1:Int)))) rfl rfl rfl ?_
    refine wl_nil ?_
    refine then_n ?_
    replace hst := hst.keep1
    obtain rfl := some_inj hm
    exact ⟨_, Nat.lt_succ_self _, t374, (IntKind.i64.wrap (z330 + (1:Int))), _, hx337, ((fr_upd (t := 0) (v := p0) rfl).trans ((fr_upd (t := 11) (v := r1_0) rfl).trans ((fr_upd (t := 12) (v := .int .i64 ((a1).length : Int)) rfl).trans ((fr_upd (t := 13) (v := .int .i64 (IntKind.i64.wrap (z330 + (1:Int)))) rfl).trans rfl)))), hst⟩
  · skip
    replace hm := bif_f hc339 hm
    refine wp_iff (congrArg Value.bool hc339) ?_
    refine wp_exit ?_
    refine then_x ?_
    refine then_x ?_
    replace hm := inr_up hm hx337
    refine blk_x ?_
    obtain rfl := some_inj hm
    refine post_end (vs := []) Try.results30 rvs_nil ?_
    exact ⟨rfl, hst.keep1⟩

theorem command_LayReply_ref {w0 w : World} {I : HL} {R : SP} {a0 : octet_Writer} {p0 : Value} {a1 : api_Reply} {r1_0 : Value} {r1_1 : Value} (f1_0 : Rd ty_api_Got R I r1_0 a1.Gots) (f1_1 : Rd (tySl ty_api_Pair) R I r1_1 a1.Scans) (hst : St w0 w I [at_octet_Writer p0 a0] R) {r : (octet_Writer)} (hm : command_LayReply a0 a1 = some r) :
    Calls Try.prog 13 #[p0, .agg #[.int .i64 a1.E, .int .u64 a1.Epoch, .int .u64 a1.Index, r1_0, r1_1]] w fun e w' => e = .returned (.tuple #[]) ∧ St w0 w' I [at_octet_Writer p0 r] R := by
  unfold command_LayReply at hm
  refine calls_start (args := [p0, .agg #[.int .i64 a1.E, .int .u64 a1.Epoch, .int .u64 a1.Index, r1_0, r1_1]]) Try.func13 rfl Try.ntmps13 (Nat.le_of_ble_eq_true rfl) ?_
  refine wp_seq ?_
  refine wp_region_lit ?_
  obtain ⟨b810, w811, ew812, eb813, hst⟩ := hst.box [.int .i64 a1.E, .int .u64 a1.Epoch, .int .u64 a1.Index, r1_0, r1_1] 39
  refine wl_run (v := .pointer (some ⟨b810, 0, none⟩)) (w' := w811) rfl rfl (x_al (by kernel_rfl) ew812 eb813) ?_
  refine wl_nil ?_
  refine then_n ?_
  refine wp_seq ?_
  refine wp_region_St hst 16 [0, 1, 2, 3, 4, 5, 6, 7, 8, 9, 10, 11, 12, 13, 14, 15] [0, 0, 2, 6, 15, 0, 32, 127, 0, 256, 1023, 0, 2048, 6144, 14336, 32767] [] rfl (by kernel_rfl) (by kernel_rfl) Try.mixed (by kernel_rfl) ?_
  refine ws_q (v := p0) 0 [1, 2, 3, 4, 5, 6, 7, 8, 9, 10, 11, 12, 13, 14, 15] (by kernel_rfl) rfl rfl (yi_run rfl (fun w hst => rfl)) ?_
  refine ws_q (v := .pointer (some ⟨b810, 0, none⟩)) 1 [2, 3, 4, 5, 6, 7, 8, 9, 10, 11, 12, 13, 14, 15] (by kernel_rfl) rfl rfl (yi_run rfl (fun w hst => x_field rfl Try.underlying39 rfl Try.sizeOf30 rfl)) ?_
  refine ws_q (v := .int .i64 a1.E) 2 [3, 4, 5, 6, 7, 8, 9, 10, 11, 12, 13, 14, 15] (by kernel_rfl) rfl rfl (yi_run rfl (fun w hst => x_load rfl Try.isAgg30 (hst.bc0 rfl))) ?_
  refine ws_q (v := .int .u64 (IntKind.u64.wrap a1.E)) 3 [4, 5, 6, 7, 8, 9, 10, 11, 12, 13, 14, 15] (by kernel_rfl) rfl rfl (yi_run rfl (fun w hst => by kernel_rfl)) ?_
  refine ws_q (v := .pointer (some ⟨b810, 1, none⟩)) 5 [4, 6, 7, 8, 9, 10, 11, 12, 13, 14, 15] (by kernel_rfl) rfl rfl (yi_run rfl (fun w hst => x_field rfl Try.underlying39 rfl Try.sizeOf27 rfl)) ?_
  refine ws_q (v := .int .u64 a1.Epoch) 6 [4, 7, 8, 9, 10, 11, 12, 13, 14, 15] (by kernel_rfl) rfl rfl (yi_run rfl (fun w hst => x_load rfl Try.isAgg27 (hst.bc0 rfl))) ?_
  refine ws_q (v := .pointer (some ⟨b810, 2, none⟩)) 8 [4, 7, 9, 10, 11, 12, 13, 14, 15] (by kernel_rfl) rfl rfl (yi_run rfl (fun w hst => x_field rfl Try.underlying39 rfl Try.sizeOf27 rfl)) ?_
  refine ws_q (v := .int .u64 a1.Index) 9 [4, 7, 10, 11, 12, 13, 14, 15] (by kernel_rfl) rfl rfl (yi_run rfl (fun w hst => x_load rfl Try.isAgg27 (hst.bc0 rfl))) ?_
  refine ws_q (v := .pointer (some ⟨b810, 3, none⟩)) 11 [4, 7, 10, 12, 13, 14, 15] (by kernel_rfl) rfl rfl (yi_run rfl (fun w hst => x_field rfl Try.underlying39 rfl Try.sizeOf36 rfl)) ?_
  refine ws_q (v := r1_0) 12 [4, 7, 10, 13, 14, 15] (by kernel_rfl) rfl rfl (yi_run rfl (fun w hst => x_load rfl Try.isAgg36 (hst.bc0 rfl))) ?_
  refine ws_q (v := .int .i64 ((a1.Gots).length : Int)) 13 [4, 7, 10, 14, 15] (by kernel_rfl) rfl rfl (yi_run rfl (fun w hst => x_len rfl Try.underlying36 (rd_sliceV f1_0))) ?_
  refine ws_q (v := .int .u64 (IntKind.u64.wrap ((a1.Gots).length : Int))) 14 [4, 7, 10, 15] (by kernel_rfl) rfl rfl (yi_run rfl (fun w hst => by kernel_rfl)) ?_
  refine ws_e1 4 (by kernel_rfl) ?_
  refine nxe [7, 10, 15] (by kernel_rfl) rfl rfl ?_
  clear hst
  intro w hst
  replace hst := hst.pull1
  obtain ⟨t815, ht816, hm⟩ := bind_some hm
  refine we_call rfl (x_call Try.call27 rfl (vs := [p0, .int .u64 (IntKind.u64.wrap a1.E), .int .i64 (1:Int)]) rfl) ?_
  refine (octet_Writer_Num_ref hst.to1 ht816).mono ?_
  rintro _ w817 ⟨rfl, hst⟩
  refine ⟨_, rfl, ?_⟩
  replace hst := hst.of1
  refine ws_next (pend' := [(14, .int .u64 (IntKind.u64.wrap ((a1.Gots).length : Int))), (13, .int .i64 ((a1.Gots).length : Int)), (12, r1_0), (11, .pointer (some ⟨b810, 3, none⟩)), (9, .int .u64 a1.Index), (8, .pointer (some ⟨b810, 2, none⟩)), (6, .int .u64 a1.Epoch), (5, .pointer (some ⟨b810, 1, none⟩))]) hst (by kernel_rfl) (pk_cons rfl (yi_run rfl (fun w hst => by kernel_rfl)) (pk_cons rfl (yi_run rfl (fun w hst => x_len rfl Try.underlying36 (rd_sliceV f1_0))) (pk_cons rfl (yi_run rfl (fun w hst => x_load rfl Try.isAgg36 (hst.bc1 rfl))) (pk_cons rfl (yi_run rfl (fun w hst => x_field rfl Try.underlying39 rfl Try.sizeOf36 rfl)) (pk_cons rfl (yi_run rfl (fun w hst => x_load rfl Try.isAgg27 (hst.bc1 rfl))) (pk_cons rfl (yi_run rfl (fun w hst => x_field rfl Try.underlying39 rfl Try.sizeOf27 rfl)) (pk_cons rfl (yi_run rfl (fun w hst => x_load rfl Try.isAgg27 (hst.bc1 rfl))) (pk_cons rfl (yi_run rfl (fun w hst => x_field rfl Try.underlying39 rfl Try.sizeOf27 rfl)) pk_nil)))))))) ?_
  refine ws_e1 7 (by kernel_rfl) ?_
  refine nxe [10, 15] (by kernel_rfl) rfl rfl ?_
  clear hst
  intro w hst
  obtain ⟨t820, ht821, hm⟩ := bind_some hm
  refine we_call rfl (x_call Try.call27 rfl (vs := [p0, .int .u64 a1.Epoch, .int .i64 (8:Int)]) rfl) ?_
  refine (octet_Writer_Num_ref hst.to1 ht821).mono ?_
  rintro _ w822 ⟨rfl, hst⟩
  refine ⟨_, rfl, ?_⟩
  replace hst := hst.of1
  refine ws_next (pend' := [(14, .int .u64 (IntKind.u64.wrap ((a1.Gots).length : Int))), (13, .int .i64 ((a1.Gots).length : Int)), (12, r1_0), (11, .pointer (some ⟨b810, 3, none⟩)), (9, .int .u64 a1.Index), (8, .pointer (some ⟨b810, 2, none⟩))]) hst (by kernel_rfl) (pk_cons rfl (yi_run rfl (fun w hst => by kernel_rfl)) (pk_cons rfl (yi_run rfl (fun w hst => x_len rfl Try.underlying36 (rd_sliceV f1_0))) (pk_cons rfl (yi_run rfl (fun w hst => x_load rfl Try.isAgg36 (hst.bc1 rfl))) (pk_cons rfl (yi_run rfl (fun w hst => x_field rfl Try.underlying39 rfl Try.sizeOf36 rfl)) (pk_cons rfl (yi_run rfl (fun w hst => x_load rfl Try.isAgg27 (hst.bc1 rfl))) (pk_cons rfl (yi_run rfl (fun w hst => x_field rfl Try.underlying39 rfl Try.sizeOf27 rfl)) pk_nil)))))) ?_
  refine ws_e1 10 (by kernel_rfl) ?_
  refine nxe [15] (by kernel_rfl) rfl rfl ?_
  clear hst
  intro w hst
  obtain ⟨t825, ht826, hm⟩ := bind_some hm
  refine we_call rfl (x_call Try.call27 rfl (vs := [p0, .int .u64 a1.Index, .int .i64 (8:Int)]) rfl) ?_
  refine (octet_Writer_Num_ref hst.to1 ht826).mono ?_
  rintro _ w827 ⟨rfl, hst⟩
  refine ⟨_, rfl, ?_⟩
  replace hst := hst.of1
  refine ws_next (pend' := [(14, .int .u64 (IntKind.u64.wrap ((a1.Gots).length : Int))), (13, .int .i64 ((a1.Gots).length : Int)), (12, r1_0), (11, .pointer (some ⟨b810, 3, none⟩))]) hst (by kernel_rfl) (pk_cons rfl (yi_run rfl (fun w hst => by kernel_rfl)) (pk_cons rfl (yi_run rfl (fun w hst => x_len rfl Try.underlying36 (rd_sliceV f1_0))) (pk_cons rfl (yi_run rfl (fun w hst => x_load rfl Try.isAgg36 (hst.bc1 rfl))) (pk_cons rfl (yi_run rfl (fun w hst => x_field rfl Try.underlying39 rfl Try.sizeOf36 rfl)) pk_nil)))) ?_
  refine ws_e1 15 (by kernel_rfl) ?_
  refine nxe [] (by kernel_rfl) rfl rfl ?_
  clear hst
  intro w hst
  obtain ⟨t830, ht831, hm⟩ := bind_some hm
  refine we_call rfl (x_call Try.call27 rfl (vs := [p0, .int .u64 (IntKind.u64.wrap ((a1.Gots).length : Int)), .int .i64 (4:Int)]) rfl) ?_
  refine (octet_Writer_Num_ref hst.to1 ht831).mono ?_
  rintro _ w832 ⟨rfl, hst⟩
  refine ⟨_, rfl, ?_⟩
  replace hst := hst.of1
  refine ws_next (pend' := []) hst (by kernel_rfl) pk_nil ?_
  refine ws_nil ?_
  intro w hst
  refine then_n ?_
  obtain ⟨y940, hm, hx941⟩ := bind_some hm
  refine wp_cut (fun a w => ∃ (z937 : octet_Writer) (σ938 : Nat → Value), (command_LayReply_j0 a1) z937 = some r ∧ a = Fr 75 (upd (upd σ938 0 (p0)) 3 (.pointer (some ⟨b810, 0, none⟩))) ∧ St w0 w I [at_octet_Writer p0 z937, cells b810 [.int .i64 a1.E, .int .u64 a1.Epoch, .int .u64 a1.Index, r1_0, r1_1]] R) ?_ ?_
  · skip
    refine wp_seq ?_
    refine wp_region_lit ?_
    refine wl_val (v := .pointer (some ⟨b810, 3, none⟩)) rfl rfl (x_field rfl Try.underlying39 rfl Try.sizeOf36 rfl) ?_
    refine wl_val (v := r1_0) rfl rfl (x_load rfl Try.isAgg36 (hst.bc1 rfl)) ?_
    refine wl_val (v := .int .i64 ((a1.Gots).length : Int)) rfl rfl (x_len rfl Try.underlying36 (rd_sliceV f1_0)) ?_
    refine wl_val (v := .int .i64 (0:Int)) rfl rfl rfl ?_
    refine wl_nil ?_
    refine then_n ?_
    refine wp_block ?_
    obtain ⟨n900, hm⟩ := loopO_some hm
    refine wp_loop_n (fun n a w => ∃ (z897 : octet_Writer) (z898 : Int) (σ899 : Nat → Value), loopN (command_LayReply_l1 a1) n (z897, z898) = some y940 ∧ a = Fr 75 (upd (upd (upd (upd (upd σ899 0 (p0)) 3 (.pointer (some ⟨b810, 0, none⟩))) 27 (r1_0)) 28 (.int .i64 ((a1.Gots).length : Int))) 29 (.int .i64 z898)) ∧ St w0 w I [at_octet_Writer p0 z897, cells b810 [.int .i64 a1.E, .int .u64 a1.Epoch, .int .u64 a1.Index, r1_0, r1_1]] R) n900 ⟨t830, (0:Int), _, hm, ((fr_upd (t := 0) (v := p0) rfl).trans ((fr_upd (t := 3) (v := .pointer (some ⟨b810, 0, none⟩)) rfl).trans ((fr_upd (t := 27) (v := r1_0) rfl).trans ((fr_upd (t := 28) (v := .int .i64 ((a1.Gots).length : Int)) rfl).trans ((fr_upd (t := 29) (v := .int .i64 (0:Int)) rfl).trans rfl))))), hst⟩ ?_
    rintro n906 _ w901 ⟨z897, z898, σ899, hm, rfl, hst⟩
    obtain ⟨n903, y904, rfl, hm, hx905⟩ := loopN_some hm
    dsimp only [command_LayReply_l1] at hm
    refine wp_seq ?_
    refine wp_region_lit ?_
    refine wl_val (v := .bool (decide (z898 < ((a1.Gots).length : Int)))) rfl rfl rfl ?_
    refine wl_nil ?_
    refine then_n ?_
    refine wp_seq ?_
    refine bsplit (decide (z898 < ((a1.Gots).length : Int))) (fun hc907 => ?_) (fun hc907 => ?_)
    · skip
      replace hm := bif_t hc907 hm
      refine wp_ift (congrArg Value.bool hc907) ?_
      refine wp_skip ?_
      refine then_n ?_
      refine wp_seq ?_
      refine wp_block ?_
      refine wp_seq ?_
      refine wp_region_lit ?_
      obtain ⟨x908, hx909, hm⟩ := bind_some hm
      obtain ⟨h910, h911, hi912⟩ := geto_some hx909
      refine wl_val (v := .pointer (some (eAddr r1_0 (z898.toNat * 2 + 0)))) rfl rfl (x_index rfl rfl Try.underlying36 Try.sizeOf51 (rd_sliceV f1_0) h910 h911) ?_
      obtain ⟨cs913, hr914, hc915⟩ := Rd.getF f1_0 hi912
      obtain ⟨v916, rfl, f917, -⟩ := hr914
      refine wl_val (v := .agg #[.bool x908.Has, v916]) rfl rfl (x_loadN (cs := [.bool x908.Has, v916]) rfl Try.isAgg51 Try.sizeOf51 (eCells (o := 0) (hc915 (HL.le.refl _) hst) rfl)) ?_
      obtain ⟨b920, w921, ew922, eb923, hst⟩ := hst.box [.bool false, (.slice none 0 0)] 51
      refine wl_run (v := .pointer (some ⟨b920, 0, none⟩)) (w' := w921) rfl rfl (x_al (by kernel_rfl) ew922 eb923) ?_
      obtain ⟨w925, hr926, hst⟩ := hst.boxStore (P := Try.prog) (t := 51) (cs' := [.bool x908.Has, v916]) 0 (.agg #[.bool x908.Has, v916]) Try.sizeOf51 (Nat.le_of_ble_eq_true rfl) (ones_cons rfl (ones_cons (one_of_sliceV (rd_sliceV f917)) ones_nil)) (by kernel_rfl)
      refine wl_unit rfl rfl (x_unit hr926) ?_
      refine wl_nil ?_
      refine then_n ?_
      refine wp_region_St hst 7 [0, 1, 2, 3, 4, 5, 6] [0, 0, 2, 7, 0, 16, 63] [] rfl (by kernel_rfl) (by kernel_rfl) Try.mixed (by kernel_rfl) ?_
      refine ws_q (v := p0) 0 [1, 2, 3, 4, 5, 6] (by kernel_rfl) rfl rfl (yi_run rfl (fun w hst => rfl)) ?_
      refine ws_q (v := .pointer (some ⟨b920, 0, none⟩)) 1 [2, 3, 4, 5, 6] (by kernel_rfl) rfl rfl (yi_run rfl (fun w hst => x_field rfl Try.underlying51 rfl Try.sizeOf4 rfl)) ?_
      refine ws_q (v := .bool x908.Has) 2 [3, 4, 5, 6] (by kernel_rfl) rfl rfl (yi_run rfl (fun w hst => x_load rfl Try.isAgg4 (hst.bc0 rfl))) ?_
      refine ws_q (v := .pointer (some ⟨b920, 1, none⟩)) 4 [3, 5, 6] (by kernel_rfl) rfl rfl (yi_run rfl (fun w hst => x_field rfl Try.underlying51 rfl Try.sizeOf22 rfl)) ?_
      refine ws_q (v := v916) 5 [3, 6] (by kernel_rfl) rfl rfl (yi_run rfl (fun w hst => x_load rfl Try.isAgg22 (hst.bc0 rfl))) ?_
      refine ws_e1 3 (by kernel_rfl) ?_
      refine nxe [6] (by kernel_rfl) rfl rfl ?_
      clear hst
      intro w hst
      replace hst := hst.pull1
      obtain ⟨t927, ht928, hm⟩ := bind_some hm
      refine we_call rfl (x_call Try.call32 rfl (vs := [p0, .bool x908.Has]) rfl) ?_
      refine (octet_Writer_Flag_ref hst.to1 ht928).mono ?_
      rintro _ w929 ⟨rfl, hst⟩
      refine ⟨_, rfl, ?_⟩
      replace hst := hst.of1
      refine ws_next (pend' := [(5, v916), (4, .pointer (some ⟨b920, 1, none⟩))]) hst (by kernel_rfl) (pk_cons rfl (yi_run rfl (fun w hst => x_load rfl Try.isAgg22 (hst.bc1 rfl))) (pk_cons rfl (yi_run rfl (fun w hst => x_field rfl Try.underlying51 rfl Try.sizeOf22 rfl)) pk_nil)) ?_
      refine ws_e1 6 (by kernel_rfl) ?_
      refine nxe [] (by kernel_rfl) rfl rfl ?_
      clear hst
      intro w hst
      obtain ⟨t932, ht933, hm⟩ := bind_some hm
      refine we_call rfl (x_call Try.call38 rfl (vs := [p0, v916]) rfl) ?_
      refine (octet_Writer_Bytes_ref (f917.mono (rd_weak _)) hst.to1 ht933).mono ?_
      rintro _ w934 ⟨rfl, hst⟩
      refine ⟨_, rfl, ?_⟩
      replace hst := hst.of1
      refine ws_next (pend' := []) hst (by kernel_rfl) pk_nil ?_
      refine ws_nil ?_
      intro w hst
      refine blk_n ?_
      refine then_n ?_
      refine wp_region_lit ?_
      refine wl_val (v := .int .i64 (IntKind.i64.wrap (z898 + (1:Int)))) rfl rfl rfl ?_
      refine wl_val (v := .int .i64 (IntKind.i64.wrap (z898 + (1:Int)))) rfl rfl rfl ?_
      refine wl_nil ?_
      refine then_n ?_
      replace hst := hst.pull2
      replace hst := hst.pull1
      replace hst := hst.keep2
      obtain rfl := some_inj hm
      exact ⟨_, Nat.lt_succ_self _, t932, (IntKind.i64.wrap (z898 + (1:Int))), _, hx905, ((fr_upd (t := 0) (v := p0) rfl).trans ((fr_upd (t := 3) (v := .pointer (some ⟨b810, 0, none⟩)) rfl).trans ((fr_upd (t := 27) (v := r1_0) rfl).trans ((fr_upd (t := 28) (v := .int .i64 ((a1.Gots).length : Int)) rfl).trans ((fr_upd (t := 29) (v := .int .i64 (IntKind.i64.wrap (z898 + (1:Int)))) rfl).trans rfl))))), hst⟩
    · skip
      replace hm := bif_f hc907 hm
      refine wp_iff (congrArg Value.bool hc907) ?_
      refine wp_exit ?_
      refine then_x ?_
      refine then_x ?_
      replace hm := inr_up hm hx905
      refine blk_x ?_
      refine then_n ?_
      replace hst := hst.pull1
      replace hst := hst.pull1
      replace hst := hst.keep2
      obtain rfl := some_inj hm
      exact ⟨z897, _, hx941, ((fr_upd (t := 0) (v := p0) rfl).trans ((fr_upd (t := 3) (v := .pointer (some ⟨b810, 0, none⟩)) rfl).trans rfl)), hst⟩
  · skip
    clear hst
    rintro _ w942 ⟨z937, σ938, hm, rfl, hst⟩
    dsimp only [command_LayReply_j0] at hm
    refine wp_seq ?_
    refine wp_region_lit ?_
    refine wl_val (v := p0) rfl rfl rfl ?_
    refine wl_val (v := .pointer (some ⟨b810, 4, none⟩)) rfl rfl (x_field rfl Try.underlying39 rfl Try.sizeOf37 rfl) ?_
    refine wl_val (v := r1_1) rfl rfl (x_load rfl Try.isAgg37 (hst.bc1 rfl)) ?_
    refine wl_val (v := .int .i64 ((a1.Scans).length : Int)) rfl rfl (x_len rfl Try.underlying37 (rd_sliceV f1_1)) ?_
    refine wl_val (v := .int .u64 (IntKind.u64.wrap ((a1.Scans).length : Int))) rfl rfl (by kernel_rfl) ?_
    obtain ⟨t943, ht944, hm⟩ := bind_some hm
    refine wl_call rfl rfl (x_call Try.call27 rfl (vs := [p0, .int .u64 (IntKind.u64.wrap ((a1.Scans).length : Int)), .int .i64 (4:Int)]) rfl) ?_
    refine (octet_Writer_Num_ref hst.to1 ht944).mono ?_
    rintro _ w945 ⟨rfl, hst⟩
    refine ⟨_, rfl, ?_⟩
    replace hst := hst.of1
    refine wl_nil ?_
    refine then_n ?_
    refine wp_seq ?_
    refine wp_region_lit ?_
    refine wl_val (v := .pointer (some ⟨b810, 4, none⟩)) rfl rfl (x_field rfl Try.underlying39 rfl Try.sizeOf37 rfl) ?_
    refine wl_val (v := r1_1) rfl rfl (x_load rfl Try.isAgg37 (hst.bc1 rfl)) ?_
    refine wl_val (v := .int .i64 ((a1.Scans).length : Int)) rfl rfl (x_len rfl Try.underlying37 (rd_sliceV f1_1)) ?_
    refine wl_val (v := .int .i64 (0:Int)) rfl rfl rfl ?_
    refine wl_nil ?_
    refine then_n ?_
    refine wp_block ?_
    replace hst := hst.pull1
    replace hst := hst.sub
    obtain ⟨n1221, hm⟩ := loopO_some hm
    refine wp_loop_n (fun n a w => ∃ (z1218 : octet_Writer) (z1219 : Int) (σ1220 : Nat → Value), loopN (command_LayReply_l2 a1) n (z1218, z1219) = some r ∧ a = Fr 75 (upd (upd (upd (upd σ1220 0 (p0)) 48 (r1_1)) 49 (.int .i64 ((a1.Scans).length : Int))) 50 (.int .i64 z1219)) ∧ St w0 w I [at_octet_Writer p0 z1218] R) n1221 ⟨t943, (0:Int), _, hm, ((fr_upd (t := 0) (v := p0) rfl).trans ((fr_upd (t := 48) (v := r1_1) rfl).trans ((fr_upd (t := 49) (v := .int .i64 ((a1.Scans).length : Int)) rfl).trans ((fr_upd (t := 50) (v := .int .i64 (0:Int)) rfl).trans rfl)))), hst⟩ ?_
    rintro n1227 _ w1222 ⟨z1218, z1219, σ1220, hm, rfl, hst⟩
    obtain ⟨n1224, y1225, rfl, hm, hx1226⟩ := loopN_some hm
    dsimp only [command_LayReply_l2] at hm
    refine wp_seq ?_
    refine wp_region_lit ?_
    refine wl_val (v := .bool (decide (z1219 < ((a1.Scans).length : Int)))) rfl rfl rfl ?_
    refine wl_nil ?_
    refine then_n ?_
    refine wp_seq ?_
    refine bsplit (decide (z1219 < ((a1.Scans).length : Int))) (fun hc1228 => ?_) (fun hc1228 => ?_)
    · skip
      replace hm := bif_t hc1228 hm
      refine wp_ift (congrArg Value.bool hc1228) ?_
      refine wp_skip ?_
      refine then_n ?_
      refine wp_seq ?_
      refine wp_block ?_
      refine wp_seq ?_
      refine wp_region_lit ?_
      obtain ⟨x1229, hx1230, hm⟩ := bind_some hm
      obtain ⟨h1231, h1232, hi1233⟩ := geto_some hx1230
      refine wl_val (v := .pointer (some (eAddr r1_1 (z1219.toNat * 1 + 0)))) rfl rfl (x_index rfl rfl Try.underlying37 Try.sizeOf52 (rd_sliceV f1_1) h1231 h1232) ?_
      obtain ⟨cs1234, hr1235, hc1236⟩ := Rd.getF f1_1 hi1233
      obtain ⟨v1237, rfl, f1238, -⟩ := hr1235
      refine wl_val (v := v1237) rfl rfl (x_load rfl Try.isAgg52 ((hc1236 (HL.le.refl _) hst) 0 _ rfl)) ?_
      refine wl_val (v := v1237) rfl rfl rfl ?_
      refine wl_nil ?_
      refine then_n ?_
      refine wp_seq ?_
      refine wp_region_lit ?_
      refine wl_val (v := p0) rfl rfl rfl ?_
      refine wl_val (v := v1237) rfl rfl rfl ?_
      refine wl_val (v := .int .i64 ((x1229).length : Int)) rfl rfl (x_len rfl Try.underlying52 (rd_sliceV f1238)) ?_
      refine wl_val (v := .int .u64 (IntKind.u64.wrap ((x1229).length : Int))) rfl rfl (by kernel_rfl) ?_
      obtain ⟨t1240, ht1241, hm⟩ := bind_some hm
      refine wl_call rfl rfl (x_call Try.call27 rfl (vs := [p0, .int .u64 (IntKind.u64.wrap ((x1229).length : Int)), .int .i64 (4:Int)]) rfl) ?_
      refine (octet_Writer_Num_ref hst.to1 ht1241).mono ?_
      rintro _ w1242 ⟨rfl, hst⟩
      refine ⟨_, rfl, ?_⟩
      replace hst := hst.of1
      refine wl_nil ?_
      refine then_n ?_
      refine wp_seq ?_
      refine wp_region_lit ?_
      refine wl_val (v := v1237) rfl rfl rfl ?_
      refine wl_val (v := .int .i64 ((x1229).length : Int)) rfl rfl (x_len rfl Try.underlying52 (rd_sliceV f1238)) ?_
      refine wl_val (v := .int .i64 (0:Int)) rfl rfl rfl ?_
      refine wl_nil ?_
      refine then_n ?_
      refine wp_block ?_
      obtain ⟨n1320, hm⟩ := loopO_some hm
      refine wp_loop_n (fun n a w => ∃ (z1317 : octet_Writer) (z1318 : Int) (σ1319 : Nat → Value), loopN (command_LayReply_l3 x1229 z1219) n (z1317, z1318) = some y1225 ∧ a = Fr 75 (upd (upd (upd (upd (upd (upd (upd σ1319 0 (p0)) 48 (r1_1)) 49 (.int .i64 ((a1.Scans).length : Int))) 50 (.int .i64 z1219)) 59 (v1237)) 60 (.int .i64 ((x1229).length : Int))) 61 (.int .i64 z1318)) ∧ St w0 w I [at_octet_Writer p0 z1317] R) n1320 ⟨t1240, (0:Int), _, hm, ((fr_upd (t := 0) (v := p0) rfl).trans ((fr_upd (t := 48) (v := r1_1) rfl).trans ((fr_upd (t := 49) (v := .int .i64 ((a1.Scans).length : Int)) rfl).trans ((fr_upd (t := 50) (v := .int .i64 z1219) rfl).trans ((fr_upd (t := 59) (v := v1237) rfl).trans ((fr_upd (t := 60) (v := .int .i64 ((x1229).length : Int)) rfl).trans ((fr_upd (t := 61) (v := .int .i64 (0:Int)) rfl).trans rfl))))))), hst⟩ ?_
      rintro n1326 _ w1321 ⟨z1317, z1318, σ1319, hm, rfl, hst⟩
      obtain ⟨n1323, y1324, rfl, hm, hx1325⟩ := loopN_some hm
      dsimp only [command_LayReply_l3] at hm
      refine wp_seq ?_
      refine wp_region_lit ?_
      refine wl_val (v := .bool (decide (z1318 < ((x1229).length : Int)))) rfl rfl rfl ?_
      refine wl_nil ?_
      refine then_n ?_
      refine wp_seq ?_
      refine bsplit (decide (z1318 < ((x1229).length : Int))) (fun hc1327 => ?_) (fun hc1327 => ?_)
      · skip
        replace hm := bif_t hc1327 hm
        refine wp_ift (congrArg Value.bool hc1327) ?_
        refine wp_skip ?_
        refine then_n ?_
        refine wp_seq ?_
        refine wp_block ?_
        refine wp_seq ?_
        refine wp_region_lit ?_
        obtain ⟨x1328, hx1329, hm⟩ := bind_some hm
        obtain ⟨h1330, h1331, hi1332⟩ := geto_some hx1329
        refine wl_val (v := .pointer (some (eAddr v1237 (z1318.toNat * 2 + 0)))) rfl rfl (x_index rfl rfl Try.underlying52 Try.sizeOf54 (rd_sliceV f1238) h1330 h1331) ?_
        obtain ⟨cs1333, hr1334, hc1335⟩ := Rd.getF f1238 hi1332
        obtain ⟨v1336, rfl, f1337, -⟩ := hr1334
        refine wl_val (v := .agg #[.float .f64 x1328.At, v1336]) rfl rfl (x_loadN (cs := [.float .f64 x1328.At, v1336]) rfl Try.isAgg54 Try.sizeOf54 (eCells (o := 0) (hc1335 (HL.le.refl _) hst) rfl)) ?_
        obtain ⟨b1340, w1341, ew1342, eb1343, hst⟩ := hst.box [.float .f64 (0:Nat), (.slice none 0 0)] 54
        refine wl_run (v := .pointer (some ⟨b1340, 0, none⟩)) (w' := w1341) rfl rfl (x_al (by kernel_rfl) ew1342 eb1343) ?_
        obtain ⟨w1345, hr1346, hst⟩ := hst.boxStore (P := Try.prog) (t := 54) (cs' := [.float .f64 x1328.At, v1336]) 0 (.agg #[.float .f64 x1328.At, v1336]) Try.sizeOf54 (Nat.le_of_ble_eq_true rfl) (ones_cons rfl (ones_cons (one_of_sliceV (rd_sliceV f1337)) ones_nil)) (by kernel_rfl)
        refine wl_unit rfl rfl (x_unit hr1346) ?_
        refine wl_nil ?_
        refine then_n ?_
        refine wp_region_St hst 8 [0, 1, 2, 3, 4, 5, 6, 7] [0, 0, 2, 6, 15, 0, 32, 127] [] rfl (by kernel_rfl) (by kernel_rfl) Try.mixed (by kernel_rfl) ?_
        refine ws_q (v := p0) 0 [1, 2, 3, 4, 5, 6, 7] (by kernel_rfl) rfl rfl (yi_run rfl (fun w hst => rfl)) ?_
        refine ws_q (v := .pointer (some ⟨b1340, 0, none⟩)) 1 [2, 3, 4, 5, 6, 7] (by kernel_rfl) rfl rfl (yi_run rfl (fun w hst => x_field rfl Try.underlying54 rfl Try.sizeOf41 rfl)) ?_
        refine ws_q (v := .float .f64 x1328.At) 2 [3, 4, 5, 6, 7] (by kernel_rfl) rfl rfl (yi_run rfl (fun w hst => x_load rfl Try.isAgg41 (hst.bc0 rfl))) ?_
        refine ws_q (v := .pointer (some ⟨b1340, 1, none⟩)) 5 [3, 4, 6, 7] (by kernel_rfl) rfl rfl (yi_run rfl (fun w hst => x_field rfl Try.underlying54 rfl Try.sizeOf22 rfl)) ?_
        refine ws_q (v := v1336) 6 [3, 4, 7] (by kernel_rfl) rfl rfl (yi_run rfl (fun w hst => x_load rfl Try.isAgg22 (hst.bc0 rfl))) ?_
        refine ws_e1 3 (by kernel_rfl) ?_
        refine nxe [4, 7] (by kernel_rfl) rfl rfl ?_
        clear hst
        intro w hst
        obtain ⟨t1347, ht1348, hm⟩ := bind_some hm
        refine we_call rfl (x_call Try.call39 rfl (vs := [.float .f64 x1328.At]) rfl) ?_
        refine (number_Rank_ref hst.to0 ht1348).mono ?_
        rintro _ w1349 ⟨rfl, hst⟩
        refine ⟨_, rfl, ?_⟩
        replace hst := hst.of0
        refine ws_next (pend' := [(6, v1336), (5, .pointer (some ⟨b1340, 1, none⟩)), (0, p0)]) hst (by kernel_rfl) (pk_cons rfl (yi_run rfl (fun w hst => x_load rfl Try.isAgg22 (hst.bc0 rfl))) (pk_cons rfl (yi_run rfl (fun w hst => x_field rfl Try.underlying54 rfl Try.sizeOf22 rfl)) (pk_cons rfl (yi_run rfl (fun w hst => rfl)) pk_nil))) ?_
        refine ws_e1 4 (by kernel_rfl) ?_
        refine nxe [7] (by kernel_rfl) rfl rfl ?_
        clear hst
        intro w hst
        replace hst := hst.pull1
        obtain ⟨t1352, ht1353, hm⟩ := bind_some hm
        refine we_call rfl (x_call Try.call27 rfl (vs := [p0, .int .u64 t1347, .int .i64 (8:Int)]) rfl) ?_
        refine (octet_Writer_Num_ref hst.to1 ht1353).mono ?_
        rintro _ w1354 ⟨rfl, hst⟩
        refine ⟨_, rfl, ?_⟩
        replace hst := hst.of1
        refine ws_next (pend' := [(6, v1336), (5, .pointer (some ⟨b1340, 1, none⟩))]) hst (by kernel_rfl) (pk_cons rfl (yi_run rfl (fun w hst => x_load rfl Try.isAgg22 (hst.bc1 rfl))) (pk_cons rfl (yi_run rfl (fun w hst => x_field rfl Try.underlying54 rfl Try.sizeOf22 rfl)) pk_nil)) ?_
        refine ws_e1 7 (by kernel_rfl) ?_
        refine nxe [] (by kernel_rfl) rfl rfl ?_
        clear hst
        intro w hst
        obtain ⟨t1357, ht1358, hm⟩ := bind_some hm
        refine we_call rfl (x_call Try.call38 rfl (vs := [p0, v1336]) rfl) ?_
        refine (octet_Writer_Bytes_ref (f1337.mono (rd_weak _)) hst.to1 ht1358).mono ?_
        rintro _ w1359 ⟨rfl, hst⟩
        refine ⟨_, rfl, ?_⟩
        replace hst := hst.of1
        refine ws_next (pend' := []) hst (by kernel_rfl) pk_nil ?_
        refine ws_nil ?_
        intro w hst
        refine blk_n ?_
        refine then_n ?_
        refine wp_region_lit ?_
        refine wl_val (v := .int .i64 (IntKind.i64.wrap (z1318 + (1:Int)))) rfl rfl rfl ?_
        refine wl_val (v := .int .i64 (IntKind.i64.wrap (z1318 + (1:Int)))) rfl rfl rfl ?_
        refine wl_nil ?_
        refine then_n ?_
        replace hst := hst.keep1
        obtain rfl := some_inj hm
        exact ⟨_, Nat.lt_succ_self _, t1357, (IntKind.i64.wrap (z1318 + (1:Int))), _, hx1325, ((fr_upd (t := 0) (v := p0) rfl).trans ((fr_upd (t := 48) (v := r1_1) rfl).trans ((fr_upd (t := 49) (v := .int .i64 ((a1.Scans).length : Int)) rfl).trans ((fr_upd (t := 50) (v := .int .i64 z1219) rfl).trans ((fr_upd (t := 59) (v := v1237) rfl).trans ((fr_upd (t := 60) (v := .int .i64 ((x1229).length : Int)) rfl).trans ((fr_upd (t := 61) (v := .int .i64 (IntKind.i64.wrap (z1318 + (1:Int)))) rfl).trans rfl))))))), hst⟩
      · skip
        replace hm := bif_f hc1327 hm
        refine wp_iff (congrArg Value.bool hc1327) ?_
        refine wp_exit ?_
        refine then_x ?_
        refine then_x ?_
        replace hm := inr_up hm hx1325
        refine blk_x ?_
        refine blk_n ?_
        refine then_n ?_
        refine wp_region_lit ?_
        refine wl_val (v := .int .i64 (IntKind.i64.wrap (z1219 + (1:Int)))) rfl rfl rfl ?_
        refine wl_val (v := .int .i64 (IntKind.i64.wrap (z1219 + (1:Int)))) rfl rfl rfl ?_
        refine wl_nil ?_
        refine then_n ?_
        replace hst := hst.keep1
        obtain rfl := some_inj hm
        exact ⟨_, Nat.lt_succ_self _, z1317, (IntKind.i64.wrap (z1219 + (1:Int))), _, hx1226, ((fr_upd (t := 0) (v := p0) rfl).trans ((fr_upd (t := 48) (v := r1_1) rfl).trans ((fr_upd (t := 49) (v := .int .i64 ((a1.Scans).length : Int)) rfl).trans ((fr_upd (t := 50) (v := .int .i64 (IntKind.i64.wrap (z1219 + (1:Int)))) rfl).trans rfl)))), hst⟩
    · skip
      replace hm := bif_f hc1228 hm
      refine wp_iff (congrArg Value.bool hc1228) ?_
      refine wp_exit ?_
      refine then_x ?_
      refine then_x ?_
      replace hm := inr_up hm hx1226
      refine blk_x ?_
      obtain rfl := some_inj hm
      refine post_end (vs := []) Try.results13 rvs_nil ?_
      exact ⟨rfl, hst.keep1⟩

theorem command_layRule_ref {w0 w : World} {I : HL} {R : SP} {a0 : octet_Writer} {p0 : Value} {a1 : api_Rule}  (hst : St w0 w I [at_octet_Writer p0 a0] R) {r : (octet_Writer)} (hm : command_layRule a0 a1 = some r) :
    Calls Try.prog 31 #[p0, .agg #[.int .u64 a1.ID, .int .i64 a1.From, .int .i64 a1.To, .float .f64 a1.Lo, .float .f64 a1.Hi, .int .u64 a1.Authority, .int .i64 a1.Quota]] w fun e w' => e = .returned (.tuple #[]) ∧ St w0 w' I [at_octet_Writer p0 r] R := by
  unfold command_layRule at hm
  refine calls_start (args := [p0, .agg #[.int .u64 a1.ID, .int .i64 a1.From, .int .i64 a1.To, .float .f64 a1.Lo, .float .f64 a1.Hi, .int .u64 a1.Authority, .int .i64 a1.Quota]]) Try.func31 rfl Try.ntmps31 (Nat.le_of_ble_eq_true rfl) ?_
  refine wp_seq ?_
  refine wp_region_lit ?_
  obtain ⟨b340, w341, ew342, eb343, hst⟩ := hst.box [.int .u64 a1.ID, .int .i64 a1.From, .int .i64 a1.To, .float .f64 a1.Lo, .float .f64 a1.Hi, .int .u64 a1.Authority, .int .i64 a1.Quota] 43
  refine wl_run (v := .pointer (some ⟨b340, 0, none⟩)) (w' := w341) rfl rfl (x_al (by kernel_rfl) ew342 eb343) ?_
  refine wl_nil ?_
  refine then_n ?_
  refine wp_region_St hst 27 [0, 1, 2, 3, 4, 5, 6, 7, 8, 9, 10, 11, 12, 13, 14, 15, 16, 17, 18, 19, 20, 21, 22, 23, 24, 25, 26] [0, 0, 2, 7, 0, 16, 48, 127, 0, 256, 768, 2047, 0, 4096, 16383, 32767, 0, 65536, 262143, 524287, 0, 1048576, 4194303, 0, 8388608, 25165824, 67108863] [] rfl (by kernel_rfl) (by kernel_rfl) Try.mixed (by kernel_rfl) ?_
  refine ws_q (v := p0) 0 [1, 2, 3, 4, 5, 6, 7, 8, 9, 10, 11, 12, 13, 14, 15, 16, 17, 18, 19, 20, 21, 22, 23, 24, 25, 26] (by kernel_rfl) rfl rfl (yi_run rfl (fun w hst => rfl)) ?_
  refine ws_q (v := .pointer (some ⟨b340, 0, none⟩)) 1 [2, 3, 4, 5, 6, 7, 8, 9, 10, 11, 12, 13, 14, 15, 16, 17, 18, 19, 20, 21, 22, 23, 24, 25, 26] (by kernel_rfl) rfl rfl (yi_run rfl (fun w hst => x_field rfl Try.underlying43 rfl Try.sizeOf27 rfl)) ?_
  refine ws_q (v := .int .u64 a1.ID) 2 [3, 4, 5, 6, 7, 8, 9, 10, 11, 12, 13, 14, 15, 16, 17, 18, 19, 20, 21, 22, 23, 24, 25, 26] (by kernel_rfl) rfl rfl (yi_run rfl (fun w hst => x_load rfl Try.isAgg27 (hst.bc0 rfl))) ?_
  refine ws_q (v := .pointer (some ⟨b340, 1, none⟩)) 4 [3, 5, 6, 7, 8, 9, 10, 11, 12, 13, 14, 15, 16, 17, 18, 19, 20, 21, 22, 23, 24, 25, 26] (by kernel_rfl) rfl rfl (yi_run rfl (fun w hst => x_field rfl Try.underlying43 rfl Try.sizeOf3 rfl)) ?_
  refine ws_q (v := .int .i64 a1.From) 5 [3, 6, 7, 8, 9, 10, 11, 12, 13, 14, 15, 16, 17, 18, 19, 20, 21, 22, 23, 24, 25, 26] (by kernel_rfl) rfl rfl (yi_run rfl (fun w hst => x_load rfl Try.isAgg3 (hst.bc0 rfl))) ?_
  refine ws_q (v := .int .u64 (IntKind.u64.wrap a1.From)) 6 [3, 7, 8, 9, 10, 11, 12, 13, 14, 15, 16, 17, 18, 19, 20, 21, 22, 23, 24, 25, 26] (by kernel_rfl) rfl rfl (yi_run rfl (fun w hst => by kernel_rfl)) ?_
  refine ws_q (v := .pointer (some ⟨b340, 2, none⟩)) 8 [3, 7, 9, 10, 11, 12, 13, 14, 15, 16, 17, 18, 19, 20, 21, 22, 23, 24, 25, 26] (by kernel_rfl) rfl rfl (yi_run rfl (fun w hst => x_field rfl Try.underlying43 rfl Try.sizeOf3 rfl)) ?_
  refine ws_q (v := .int .i64 a1.To) 9 [3, 7, 10, 11, 12, 13, 14, 15, 16, 17, 18, 19, 20, 21, 22, 23, 24, 25, 26] (by kernel_rfl) rfl rfl (yi_run rfl (fun w hst => x_load rfl Try.isAgg3 (hst.bc0 rfl))) ?_
  refine ws_q (v := .int .u64 (IntKind.u64.wrap a1.To)) 10 [3, 7, 11, 12, 13, 14, 15, 16, 17, 18, 19, 20, 21, 22, 23, 24, 25, 26] (by kernel_rfl) rfl rfl (yi_run rfl (fun w hst => by kernel_rfl)) ?_
  refine ws_q (v := .pointer (some ⟨b340, 3, none⟩)) 12 [3, 7, 11, 13, 14, 15, 16, 17, 18, 19, 20, 21, 22, 23, 24, 25, 26] (by kernel_rfl) rfl rfl (yi_run rfl (fun w hst => x_field rfl Try.underlying43 rfl Try.sizeOf41 rfl)) ?_
  refine ws_q (v := .float .f64 a1.Lo) 13 [3, 7, 11, 14, 15, 16, 17, 18, 19, 20, 21, 22, 23, 24, 25, 26] (by kernel_rfl) rfl rfl (yi_run rfl (fun w hst => x_load rfl Try.isAgg41 (hst.bc0 rfl))) ?_
  refine ws_q (v := .pointer (some ⟨b340, 4, none⟩)) 16 [3, 7, 11, 14, 15, 17, 18, 19, 20, 21, 22, 23, 24, 25, 26] (by kernel_rfl) rfl rfl (yi_run rfl (fun w hst => x_field rfl Try.underlying43 rfl Try.sizeOf41 rfl)) ?_
  refine ws_q (v := .float .f64 a1.Hi) 17 [3, 7, 11, 14, 15, 18, 19, 20, 21, 22, 23, 24, 25, 26] (by kernel_rfl) rfl rfl (yi_run rfl (fun w hst => x_load rfl Try.isAgg41 (hst.bc0 rfl))) ?_
  refine ws_q (v := .pointer (some ⟨b340, 5, none⟩)) 20 [3, 7, 11, 14, 15, 18, 19, 21, 22, 23, 24, 25, 26] (by kernel_rfl) rfl rfl (yi_run rfl (fun w hst => x_field rfl Try.underlying43 rfl Try.sizeOf27 rfl)) ?_
  refine ws_q (v := .int .u64 a1.Authority) 21 [3, 7, 11, 14, 15, 18, 19, 22, 23, 24, 25, 26] (by kernel_rfl) rfl rfl (yi_run rfl (fun w hst => x_load rfl Try.isAgg27 (hst.bc0 rfl))) ?_
  refine ws_q (v := .pointer (some ⟨b340, 6, none⟩)) 23 [3, 7, 11, 14, 15, 18, 19, 22, 24, 25, 26] (by kernel_rfl) rfl rfl (yi_run rfl (fun w hst => x_field rfl Try.underlying43 rfl Try.sizeOf3 rfl)) ?_
  refine ws_q (v := .int .i64 a1.Quota) 24 [3, 7, 11, 14, 15, 18, 19, 22, 25, 26] (by kernel_rfl) rfl rfl (yi_run rfl (fun w hst => x_load rfl Try.isAgg3 (hst.bc0 rfl))) ?_
  refine ws_q (v := .int .u64 (IntKind.u64.wrap a1.Quota)) 25 [3, 7, 11, 14, 15, 18, 19, 22, 26] (by kernel_rfl) rfl rfl (yi_run rfl (fun w hst => by kernel_rfl)) ?_
  refine ws_e1 3 (by kernel_rfl) ?_
  refine nxe [7, 11, 14, 15, 18, 19, 22, 26] (by kernel_rfl) rfl rfl ?_
  clear hst
  intro w hst
  replace hst := hst.pull1
  obtain ⟨t345, ht346, hm⟩ := bind_some hm
  refine we_call rfl (x_call Try.call27 rfl (vs := [p0, .int .u64 a1.ID, .int .i64 (8:Int)]) rfl) ?_
  refine (octet_Writer_Num_ref hst.to1 ht346).mono ?_
  rintro _ w347 ⟨rfl, hst⟩
  refine ⟨_, rfl, ?_⟩
  replace hst := hst.of1
  refine ws_next (pend' := [(25, .int .u64 (IntKind.u64.wrap a1.Quota)), (24, .int .i64 a1.Quota), (23, .pointer (some ⟨b340, 6, none⟩)), (21, .int .u64 a1.Authority), (20, .pointer (some ⟨b340, 5, none⟩)), (17, .float .f64 a1.Hi), (16, .pointer (some ⟨b340, 4, none⟩)), (13, .float .f64 a1.Lo), (12, .pointer (some ⟨b340, 3, none⟩)), (10, .int .u64 (IntKind.u64.wrap a1.To)), (9, .int .i64 a1.To), (8, .pointer (some ⟨b340, 2, none⟩)), (6, .int .u64 (IntKind.u64.wrap a1.From)), (5, .int .i64 a1.From), (4, .pointer (some ⟨b340, 1, none⟩))]) hst (by kernel_rfl) (pk_cons rfl (yi_run rfl (fun w hst => by kernel_rfl)) (pk_cons rfl (yi_run rfl (fun w hst => x_load rfl Try.isAgg3 (hst.bc1 rfl))) (pk_cons rfl (yi_run rfl (fun w hst => x_field rfl Try.underlying43 rfl Try.sizeOf3 rfl)) (pk_cons rfl (yi_run rfl (fun w hst => x_load rfl Try.isAgg27 (hst.bc1 rfl))) (pk_cons rfl (yi_run rfl (fun w hst => x_field rfl Try.underlying43 rfl Try.sizeOf27 rfl)) (pk_cons rfl (yi_run rfl (fun w hst => x_load rfl Try.isAgg41 (hst.bc1 rfl))) (pk_cons rfl (yi_run rfl (fun w hst => x_field rfl Try.underlying43 rfl Try.sizeOf41 rfl)) (pk_cons rfl (yi_run rfl (fun w hst => x_load rfl Try.isAgg41 (hst.bc1 rfl))) (pk_cons rfl (yi_run rfl (fun w hst => x_field rfl Try.underlying43 rfl Try.sizeOf41 rfl)) (pk_cons rfl (yi_run rfl (fun w hst => by kernel_rfl)) (pk_cons rfl (yi_run rfl (fun w hst => x_load rfl Try.isAgg3 (hst.bc1 rfl))) (pk_cons rfl (yi_run rfl (fun w hst => x_field rfl Try.underlying43 rfl Try.sizeOf3 rfl)) (pk_cons rfl (yi_run rfl (fun w hst => by kernel_rfl)) (pk_cons rfl (yi_run rfl (fun w hst => x_load rfl Try.isAgg3 (hst.bc1 rfl))) (pk_cons rfl (yi_run rfl (fun w hst => x_field rfl Try.underlying43 rfl Try.sizeOf3 rfl)) pk_nil))))))))))))))) ?_
  refine ws_e1 7 (by kernel_rfl) ?_
  refine nxe [11, 14, 15, 18, 19, 22, 26] (by kernel_rfl) rfl rfl ?_
  clear hst
  intro w hst
  obtain ⟨t350, ht351, hm⟩ := bind_some hm
  refine we_call rfl (x_call Try.call27 rfl (vs := [p0, .int .u64 (IntKind.u64.wrap a1.From), .int .i64 (1:Int)]) rfl) ?_
  refine (octet_Writer_Num_ref hst.to1 ht351).mono ?_
  rintro _ w352 ⟨rfl, hst⟩
  refine ⟨_, rfl, ?_⟩
  replace hst := hst.of1
  refine ws_next (pend' := [(25, .int .u64 (IntKind.u64.wrap a1.Quota)), (24, .int .i64 a1.Quota), (23, .pointer (some ⟨b340, 6, none⟩)), (21, .int .u64 a1.Authority), (20, .pointer (some ⟨b340, 5, none⟩)), (17, .float .f64 a1.Hi), (16, .pointer (some ⟨b340, 4, none⟩)), (13, .float .f64 a1.Lo), (12, .pointer (some ⟨b340, 3, none⟩)), (10, .int .u64 (IntKind.u64.wrap a1.To)), (9, .int .i64 a1.To), (8, .pointer (some ⟨b340, 2, none⟩))]) hst (by kernel_rfl) (pk_cons rfl (yi_run rfl (fun w hst => by kernel_rfl)) (pk_cons rfl (yi_run rfl (fun w hst => x_load rfl Try.isAgg3 (hst.bc1 rfl))) (pk_cons rfl (yi_run rfl (fun w hst => x_field rfl Try.underlying43 rfl Try.sizeOf3 rfl)) (pk_cons rfl (yi_run rfl (fun w hst => x_load rfl Try.isAgg27 (hst.bc1 rfl))) (pk_cons rfl (yi_run rfl (fun w hst => x_field rfl Try.underlying43 rfl Try.sizeOf27 rfl)) (pk_cons rfl (yi_run rfl (fun w hst => x_load rfl Try.isAgg41 (hst.bc1 rfl))) (pk_cons rfl (yi_run rfl (fun w hst => x_field rfl Try.underlying43 rfl Try.sizeOf41 rfl)) (pk_cons rfl (yi_run rfl (fun w hst => x_load rfl Try.isAgg41 (hst.bc1 rfl))) (pk_cons rfl (yi_run rfl (fun w hst => x_field rfl Try.underlying43 rfl Try.sizeOf41 rfl)) (pk_cons rfl (yi_run rfl (fun w hst => by kernel_rfl)) (pk_cons rfl (yi_run rfl (fun w hst => x_load rfl Try.isAgg3 (hst.bc1 rfl))) (pk_cons rfl (yi_run rfl (fun w hst => x_field rfl Try.underlying43 rfl Try.sizeOf3 rfl)) pk_nil)))))))))))) ?_
  refine ws_e1 11 (by kernel_rfl) ?_
  refine nxe [14, 15, 18, 19, 22, 26] (by kernel_rfl) rfl rfl ?_
  clear hst
  intro w hst
  obtain ⟨t355, ht356, hm⟩ := bind_some hm
  refine we_call rfl (x_call Try.call27 rfl (vs := [p0, .int .u64 (IntKind.u64.wrap a1.To), .int .i64 (1:Int)]) rfl) ?_
  refine (octet_Writer_Num_ref hst.to1 ht356).mono ?_
  rintro _ w357 ⟨rfl, hst⟩
  refine ⟨_, rfl, ?_⟩
  replace hst := hst.of1
  refine ws_next (pend' := [(25, .int .u64 (IntKind.u64.wrap a1.Quota)), (24, .int .i64 a1.Quota), (23, .pointer (some ⟨b340, 6, none⟩)), (21, .int .u64 a1.Authority), (20, .pointer (some ⟨b340, 5, none⟩)), (17, .float .f64 a1.Hi), (16, .pointer (some ⟨b340, 4, none⟩)), (13, .float .f64 a1.Lo), (12, .pointer (some ⟨b340, 3, none⟩))]) hst (by kernel_rfl) (pk_cons rfl (yi_run rfl (fun w hst => by kernel_rfl)) (pk_cons rfl (yi_run rfl (fun w hst => x_load rfl Try.isAgg3 (hst.bc1 rfl))) (pk_cons rfl (yi_run rfl (fun w hst => x_field rfl Try.underlying43 rfl Try.sizeOf3 rfl)) (pk_cons rfl (yi_run rfl (fun w hst => x_load rfl Try.isAgg27 (hst.bc1 rfl))) (pk_cons rfl (yi_run rfl (fun w hst => x_field rfl Try.underlying43 rfl Try.sizeOf27 rfl)) (pk_cons rfl (yi_run rfl (fun w hst => x_load rfl Try.isAgg41 (hst.bc1 rfl))) (pk_cons rfl (yi_run rfl (fun w hst => x_field rfl Try.underlying43 rfl Try.sizeOf41 rfl)) (pk_cons rfl (yi_run rfl (fun w hst => x_load rfl Try.isAgg41 (hst.bc1 rfl))) (pk_cons rfl (yi_run rfl (fun w hst => x_field rfl Try.underlying43 rfl Try.sizeOf41 rfl)) pk_nil))))))))) ?_
  refine ws_e1 14 (by kernel_rfl) ?_
  refine nxe [15, 18, 19, 22, 26] (by kernel_rfl) rfl rfl ?_
  clear hst
  intro w hst
  obtain ⟨t360, ht361, hm⟩ := bind_some hm
  refine we_call rfl (x_call Try.call39 rfl (vs := [.float .f64 a1.Lo]) rfl) ?_
  refine (number_Rank_ref hst.to0 ht361).mono ?_
  rintro _ w362 ⟨rfl, hst⟩
  refine ⟨_, rfl, ?_⟩
  replace hst := hst.of0
  refine ws_next (pend' := [(25, .int .u64 (IntKind.u64.wrap a1.Quota)), (24, .int .i64 a1.Quota), (23, .pointer (some ⟨b340, 6, none⟩)), (21, .int .u64 a1.Authority), (20, .pointer (some ⟨b340, 5, none⟩)), (17, .float .f64 a1.Hi), (16, .pointer (some ⟨b340, 4, none⟩))]) hst (by kernel_rfl) (pk_cons rfl (yi_run rfl (fun w hst => by kernel_rfl)) (pk_cons rfl (yi_run rfl (fun w hst => x_load rfl Try.isAgg3 (hst.bc1 rfl))) (pk_cons rfl (yi_run rfl (fun w hst => x_field rfl Try.underlying43 rfl Try.sizeOf3 rfl)) (pk_cons rfl (yi_run rfl (fun w hst => x_load rfl Try.isAgg27 (hst.bc1 rfl))) (pk_cons rfl (yi_run rfl (fun w hst => x_field rfl Try.underlying43 rfl Try.sizeOf27 rfl)) (pk_cons rfl (yi_run rfl (fun w hst => x_load rfl Try.isAgg41 (hst.bc1 rfl))) (pk_cons rfl (yi_run rfl (fun w hst => x_field rfl Try.underlying43 rfl Try.sizeOf41 rfl)) pk_nil))))))) ?_
  refine ws_e1 15 (by kernel_rfl) ?_
  refine nxe [18, 19, 22, 26] (by kernel_rfl) rfl rfl ?_
  clear hst
  intro w hst
  obtain ⟨t365, ht366, hm⟩ := bind_some hm
  refine we_call rfl (x_call Try.call27 rfl (vs := [p0, .int .u64 t360, .int .i64 (8:Int)]) rfl) ?_
  refine (octet_Writer_Num_ref hst.to1 ht366).mono ?_
  rintro _ w367 ⟨rfl, hst⟩
  refine ⟨_, rfl, ?_⟩
  replace hst := hst.of1
  refine ws_next (pend' := [(25, .int .u64 (IntKind.u64.wrap a1.Quota)), (24, .int .i64 a1.Quota), (23, .pointer (some ⟨b340, 6, none⟩)), (21, .int .u64 a1.Authority), (20, .pointer (some ⟨b340, 5, none⟩)), (17, .float .f64 a1.Hi), (16, .pointer (some ⟨b340, 4, none⟩))]) hst (by kernel_rfl) (pk_cons rfl (yi_run rfl (fun w hst => by kernel_rfl)) (pk_cons rfl (yi_run rfl (fun w hst => x_load rfl Try.isAgg3 (hst.bc1 rfl))) (pk_cons rfl (yi_run rfl (fun w hst => x_field rfl Try.underlying43 rfl Try.sizeOf3 rfl)) (pk_cons rfl (yi_run rfl (fun w hst => x_load rfl Try.isAgg27 (hst.bc1 rfl))) (pk_cons rfl (yi_run rfl (fun w hst => x_field rfl Try.underlying43 rfl Try.sizeOf27 rfl)) (pk_cons rfl (yi_run rfl (fun w hst => x_load rfl Try.isAgg41 (hst.bc1 rfl))) (pk_cons rfl (yi_run rfl (fun w hst => x_field rfl Try.underlying43 rfl Try.sizeOf41 rfl)) pk_nil))))))) ?_
  refine ws_e1 18 (by kernel_rfl) ?_
  refine nxe [19, 22, 26] (by kernel_rfl) rfl rfl ?_
  clear hst
  intro w hst
  obtain ⟨t370, ht371, hm⟩ := bind_some hm
  refine we_call rfl (x_call Try.call39 rfl (vs := [.float .f64 a1.Hi]) rfl) ?_
  refine (number_Rank_ref hst.to0 ht371).mono ?_
  rintro _ w372 ⟨rfl, hst⟩
  refine ⟨_, rfl, ?_⟩
  replace hst := hst.of0
  refine ws_next (pend' := [(25, .int .u64 (IntKind.u64.wrap a1.Quota)), (24, .int .i64 a1.Quota), (23, .pointer (some ⟨b340, 6, none⟩)), (21, .int .u64 a1.Authority), (20, .pointer (some ⟨b340, 5, none⟩))]) hst (by kernel_rfl) (pk_cons rfl (yi_run rfl (fun w hst => by kernel_rfl)) (pk_cons rfl (yi_run rfl (fun w hst => x_load rfl Try.isAgg3 (hst.bc1 rfl))) (pk_cons rfl (yi_run rfl (fun w hst => x_field rfl Try.underlying43 rfl Try.sizeOf3 rfl)) (pk_cons rfl (yi_run rfl (fun w hst => x_load rfl Try.isAgg27 (hst.bc1 rfl))) (pk_cons rfl (yi_run rfl (fun w hst => x_field rfl Try.underlying43 rfl Try.sizeOf27 rfl)) pk_nil))))) ?_
  refine ws_e1 19 (by kernel_rfl) ?_
  refine nxe [22, 26] (by kernel_rfl) rfl rfl ?_
  clear hst
  intro w hst
  obtain ⟨t375, ht376, hm⟩ := bind_some hm
  refine we_call rfl (x_call Try.call27 rfl (vs := [p0, .int .u64 t370, .int .i64 (8:Int)]) rfl) ?_
  refine (octet_Writer_Num_ref hst.to1 ht376).mono ?_
  rintro _ w377 ⟨rfl, hst⟩
  refine ⟨_, rfl, ?_⟩
  replace hst := hst.of1
  refine ws_next (pend' := [(25, .int .u64 (IntKind.u64.wrap a1.Quota)), (24, .int .i64 a1.Quota), (23, .pointer (some ⟨b340, 6, none⟩)), (21, .int .u64 a1.Authority), (20, .pointer (some ⟨b340, 5, none⟩))]) hst (by kernel_rfl) (pk_cons rfl (yi_run rfl (fun w hst => by kernel_rfl)) (pk_cons rfl (yi_run rfl (fun w hst => x_load rfl Try.isAgg3 (hst.bc1 rfl))) (pk_cons rfl (yi_run rfl (fun w hst => x_field rfl Try.underlying43 rfl Try.sizeOf3 rfl)) (pk_cons rfl (yi_run rfl (fun w hst => x_load rfl Try.isAgg27 (hst.bc1 rfl))) (pk_cons rfl (yi_run rfl (fun w hst => x_field rfl Try.underlying43 rfl Try.sizeOf27 rfl)) pk_nil))))) ?_
  refine ws_e1 22 (by kernel_rfl) ?_
  refine nxe [26] (by kernel_rfl) rfl rfl ?_
  clear hst
  intro w hst
  obtain ⟨t380, ht381, hm⟩ := bind_some hm
  refine we_call rfl (x_call Try.call27 rfl (vs := [p0, .int .u64 a1.Authority, .int .i64 (8:Int)]) rfl) ?_
  refine (octet_Writer_Num_ref hst.to1 ht381).mono ?_
  rintro _ w382 ⟨rfl, hst⟩
  refine ⟨_, rfl, ?_⟩
  replace hst := hst.of1
  refine ws_next (pend' := [(25, .int .u64 (IntKind.u64.wrap a1.Quota)), (24, .int .i64 a1.Quota), (23, .pointer (some ⟨b340, 6, none⟩))]) hst (by kernel_rfl) (pk_cons rfl (yi_run rfl (fun w hst => by kernel_rfl)) (pk_cons rfl (yi_run rfl (fun w hst => x_load rfl Try.isAgg3 (hst.bc1 rfl))) (pk_cons rfl (yi_run rfl (fun w hst => x_field rfl Try.underlying43 rfl Try.sizeOf3 rfl)) pk_nil))) ?_
  refine ws_e1 26 (by kernel_rfl) ?_
  refine nxe [] (by kernel_rfl) rfl rfl ?_
  clear hst
  intro w hst
  obtain ⟨t385, ht386, hm⟩ := bind_some hm
  refine we_call rfl (x_call Try.call27 rfl (vs := [p0, .int .u64 (IntKind.u64.wrap a1.Quota), .int .i64 (4:Int)]) rfl) ?_
  refine (octet_Writer_Num_ref hst.to1 ht386).mono ?_
  rintro _ w387 ⟨rfl, hst⟩
  refine ⟨_, rfl, ?_⟩
  replace hst := hst.of1
  refine ws_next (pend' := []) hst (by kernel_rfl) pk_nil ?_
  refine ws_nil ?_
  intro w hst
  obtain rfl := some_inj hm
  refine post_end (vs := []) Try.results31 rvs_nil ?_
  exact ⟨rfl, hst.keep1⟩

theorem command_Encode_ref {w0 w : World} {I : HL} {R : SP} {a0 : api_Command} {r0_0 : Value} {r0_1 : Value} {r0_2 : Value} {r0_3 : Value} {r0_4 : Value} {r0_5 : Value} {r0_6 : Value} {r0_7 : Value} (f0_0 : Rd tyF64 R I r0_0 a0.Hold.Gets) (f0_1 : Rd tyF2 R I r0_1 a0.Hold.Scans) (f0_2 : Rd tyF64 R I r0_2 a0.Hold.Puts) (f0_3 : Rd (tyInt .u8) R I r0_3 a0.Hold.Data) (f0_4 : Rd ty_api_Write R I r0_4 a0.Writes) (f0_5 : Rd ty_api_Got R I r0_5 a0.R.Gots) (f0_6 : Rd (tySl ty_api_Pair) R I r0_6 a0.R.Scans) (f0_7 : Rd ty_api_Part R I r0_7 a0.Parts) (hst : St w0 w I [] R) {r : ((List Int))} (hm : command_Encode a0 = some r) :
    Calls Try.prog 10 #[.agg #[.int .u8 a0.Kind, .int .u64 a0.ID.Session, .int .u64 a0.ID.Seq, .int .u64 a0.Epoch, .int .u64 a0.Index, .int .i64 a0.E, .int .u64 a0.Hold.ID.Session, .int .u64 a0.Hold.ID.Seq, .int .u64 a0.Hold.Epoch, r0_0, r0_1, r0_2, r0_3, r0_4, .int .i64 a0.R.E, .int .u64 a0.R.Epoch, .int .u64 a0.R.Index, r0_5, r0_6, .int .u64 a0.Shards, r0_7, .int .u64 a0.Rule.ID, .int .i64 a0.Rule.From, .int .i64 a0.Rule.To, .float .f64 a0.Rule.Lo, .float .f64 a0.Rule.Hi, .int .u64 a0.Rule.Authority, .int .i64 a0.Rule.Quota, .bool a0.On]] w fun e w' => ∃ (q0_0 : Value), e = .returned (q0_0) ∧ St w0 w' I [ownS (tyInt .u8) q0_0 r] R := by
  unfold command_Encode at hm
  refine calls_start (args := [.agg #[.int .u8 a0.Kind, .int .u64 a0.ID.Session, .int .u64 a0.ID.Seq, .int .u64 a0.Epoch, .int .u64 a0.Index, .int .i64 a0.E, .int .u64 a0.Hold.ID.Session, .int .u64 a0.Hold.ID.Seq, .int .u64 a0.Hold.Epoch, r0_0, r0_1, r0_2, r0_3, r0_4, .int .i64 a0.R.E, .int .u64 a0.R.Epoch, .int .u64 a0.R.Index, r0_5, r0_6, .int .u64 a0.Shards, r0_7, .int .u64 a0.Rule.ID, .int .i64 a0.Rule.From, .int .i64 a0.Rule.To, .float .f64 a0.Rule.Lo, .float .f64 a0.Rule.Hi, .int .u64 a0.Rule.Authority, .int .i64 a0.Rule.Quota, .bool a0.On]]) Try.func10 rfl Try.ntmps10 (Nat.le_of_ble_eq_true rfl) ?_
  refine wp_seq ?_
  refine wp_region_lit ?_
  obtain ⟨b363, w364, ew365, eb366, hst⟩ := hst.box [.int .u8 a0.Kind, .int .u64 a0.ID.Session, .int .u64 a0.ID.Seq, .int .u64 a0.Epoch, .int .u64 a0.Index, .int .i64 a0.E, .int .u64 a0.Hold.ID.Session, .int .u64 a0.Hold.ID.Seq, .int .u64 a0.Hold.Epoch, r0_0, r0_1, r0_2, r0_3, r0_4, .int .i64 a0.R.E, .int .u64 a0.R.Epoch, .int .u64 a0.R.Index, r0_5, r0_6, .int .u64 a0.Shards, r0_7, .int .u64 a0.Rule.ID, .int .i64 a0.Rule.From, .int .i64 a0.Rule.To, .float .f64 a0.Rule.Lo, .float .f64 a0.Rule.Hi, .int .u64 a0.Rule.Authority, .int .i64 a0.Rule.Quota, .bool a0.On] 45
  refine wl_run (v := .pointer (some ⟨b363, 0, none⟩)) (w' := w364) rfl rfl (x_al (by kernel_rfl) ew365 eb366) ?_
  refine wl_val (v := (.slice none 0 0)) rfl rfl rfl ?_
  refine wl_nil ?_
  refine then_n ?_
  refine wp_seq ?_
  refine wp_region_lit ?_
  refine wl_val (v := .agg #[(.slice none 0 0)]) rfl rfl (by kernel_rfl) ?_
  obtain ⟨b370, w371, ew372, eb373, hst⟩ := hst.box [(.slice none 0 0)] 58
  refine wl_run (v := .pointer (some ⟨b370, 0, none⟩)) (w' := w371) rfl rfl (x_al (by kernel_rfl) ew372 eb373) ?_
  obtain ⟨b376, w377, ew378, eb379, hst⟩ := hst.box [.pointer none] 56
  refine wl_run (v := .pointer (some ⟨b376, 0, none⟩)) (w' := w377) rfl rfl (x_al (by kernel_rfl) ew378 eb379) ?_
  obtain ⟨w381, hr382, hst⟩ := hst.boxStore (P := Try.prog) (t := 56) (cs' := [.pointer (some ⟨b370, 0, none⟩)]) 0 (.pointer (some ⟨b370, 0, none⟩)) Try.sizeOf56 (Nat.le_of_ble_eq_true rfl) (ones_cons rfl ones_nil) (by kernel_rfl)
  refine wl_unit rfl rfl (x_unit hr382) ?_
  refine wl_nil ?_
  refine then_n ?_
  refine wp_seq ?_
  refine wp_region_lit ?_
  refine wl_val (v := .pointer (some ⟨b370, 0, none⟩)) rfl rfl (x_load rfl Try.isAgg56 (hst.bc0 rfl)) ?_
  refine wl_val (v := .pointer (some ⟨b363, 0, none⟩)) rfl rfl (x_field rfl Try.underlying45 rfl Try.sizeOf5 rfl) ?_
  refine wl_val (v := .int .u8 a0.Kind) rfl rfl (x_load rfl Try.isAgg5 (hst.bc2 rfl)) ?_
  refine wl_val (v := .int .u64 (IntKind.u64.wrap a0.Kind)) rfl rfl (by kernel_rfl) ?_
  replace hst := hst.own_nil (tyInt .u8)
  replace hst := hst.pull2
  replace hst := at_octet_Writer_close (pv := .pointer (some ⟨b370, 0, none⟩)) (x := ({ p := [] } : octet_Writer)) hst rfl
  obtain ⟨t383, ht384, hm⟩ := bind_some hm
  refine wl_call rfl rfl (x_call Try.call27 rfl (vs := [.pointer (some ⟨b370, 0, none⟩), .int .u64 (IntKind.u64.wrap a0.Kind), .int .i64 (1:Int)]) rfl) ?_
  refine (octet_Writer_Num_ref hst.to1 ht384).mono ?_
  rintro _ w385 ⟨rfl, hst⟩
  refine ⟨_, rfl, ?_⟩
  replace hst := hst.of1
  refine wl_nil ?_
  refine then_n ?_
  refine wp_seq ?_
  refine wp_region_lit ?_
  refine wl_val (v := .func (.func 28) #[] #[.pointer (some ⟨b376, 0, none⟩), .pointer (some ⟨b363, 0, none⟩)]) rfl rfl (by kernel_rfl) ?_
  refine wl_val (v := .func (.func 28) #[] #[.pointer (some ⟨b376, 0, none⟩), .pointer (some ⟨b363, 0, none⟩)]) rfl rfl rfl ?_
  refine wl_nil ?_
  refine then_n ?_
  refine wp_seq ?_
  refine wp_seq ?_
  refine wp_region_lit ?_
  refine wl_val (v := .pointer (some ⟨b363, 0, none⟩)) rfl rfl (x_field rfl Try.underlying45 rfl Try.sizeOf5 rfl) ?_
  refine wl_val (v := .int .u8 a0.Kind) rfl rfl (x_load rfl Try.isAgg5 (hst.bc2 rfl)) ?_
  refine wl_nil ?_
  refine then_n ?_
  refine wp_block ?_
  refine wp_seq ?_
  refine wp_region_lit ?_
  refine wl_val (v := .bool (a0.Kind == (1:Int))) rfl rfl rfl ?_
  refine wl_val (v := .bool (a0.Kind == (1:Int))) rfl rfl rfl ?_
  refine wl_nil ?_
  refine then_n ?_
  refine bsplit (a0.Kind == (1:Int)) (fun hc388 => ?_) (fun hc388 => ?_)
  · skip
    replace hm := bif_t hc388 hm
    refine wp_ift (congrArg Value.bool hc388) ?_
    refine wp_region_lit ?_
    refine wl_val (v := .pointer (some ⟨b370, 0, none⟩)) rfl rfl (x_load rfl Try.isAgg56 (hst.bc1 rfl)) ?_
    refine wl_val (v := .pointer (some ⟨b363, 3, none⟩)) rfl rfl (x_field rfl Try.underlying45 rfl Try.sizeOf27 rfl) ?_
    refine wl_val (v := .int .u64 a0.Epoch) rfl rfl (x_load rfl Try.isAgg27 (hst.bc2 rfl)) ?_
    obtain ⟨t389, ht390, hm⟩ := bind_some hm
    refine wl_call rfl rfl (x_call Try.call27 rfl (vs := [.pointer (some ⟨b370, 0, none⟩), .int .u64 a0.Epoch, .int .i64 (8:Int)]) rfl) ?_
    refine (octet_Writer_Num_ref hst.to1 ht390).mono ?_
    rintro _ w391 ⟨rfl, hst⟩
    refine ⟨_, rfl, ?_⟩
    replace hst := hst.of1
    refine wl_nil ?_
    refine blk_n ?_
    refine then_n ?_
    refine wp_seq ?_
    refine wp_region_lit ?_
    refine wl_val (v := .pointer (some ⟨b370, 0, none⟩)) rfl rfl (x_load rfl Try.isAgg56 (hst.bc1 rfl)) ?_
    obtain ⟨t394, ht395, hm⟩ := bind_some hm
    refine wl_call rfl rfl (x_call Try.call14 rfl (vs := [.pointer (some ⟨b370, 0, none⟩)]) rfl) ?_
    refine (octet_Writer_Done_ref hst.to1 ht395).mono ?_
    rintro _ w396 ⟨v399, rfl, hst⟩
    refine ⟨_, rfl, ?_⟩
    replace hst := hst.of1
    refine wl_val (v := v399) rfl rfl rfl ?_
    refine wl_nil ?_
    refine then_n ?_
    refine wp_ret ?_
    obtain rfl := some_inj hm
    refine post_ret (vs := [v399]) Try.results10 (rvs_cons (rv_tmp rfl) rvs_nil) ?_
    exact ⟨v399, rfl, hst.keep1⟩
  · skip
    replace hm := bif_f hc388 hm
    refine wp_iff (congrArg Value.bool hc388) ?_
    refine wp_seq ?_
    refine wp_region_lit ?_
    refine wl_val (v := .bool (a0.Kind == (2:Int))) rfl rfl rfl ?_
    refine wl_val (v := .bool (a0.Kind == (2:Int))) rfl rfl rfl ?_
    refine wl_nil ?_
    refine then_n ?_
    refine bsplit (a0.Kind == (2:Int)) (fun hc401 => ?_) (fun hc401 => ?_)
    · skip
      replace hm := bif_t hc401 hm
      refine wp_ift (congrArg Value.bool hc401) ?_
      refine wp_region_lit ?_
      refine wl_val (v := .pointer (some ⟨b370, 0, none⟩)) rfl rfl (x_load rfl Try.isAgg56 (hst.bc1 rfl)) ?_
      refine wl_val (v := .pointer (some ⟨b363, 6, none⟩)) rfl rfl (x_field rfl Try.underlying45 rfl Try.sizeOf34 rfl) ?_
      refine wl_val (v := .agg #[.int .u64 a0.Hold.ID.Session, .int .u64 a0.Hold.ID.Seq, .int .u64 a0.Hold.Epoch, r0_0, r0_1, r0_2, r0_3]) rfl rfl (x_loadN (cs := [.int .u64 a0.Hold.ID.Session, .int .u64 a0.Hold.ID.Seq, .int .u64 a0.Hold.Epoch, r0_0, r0_1, r0_2, r0_3]) rfl Try.isAgg34 Try.sizeOf34 (hst.bcs2 6 rfl)) ?_
      obtain ⟨t402, ht403, hm⟩ := bind_some hm
      refine wl_call rfl rfl (x_call Try.call29 rfl (vs := [.pointer (some ⟨b370, 0, none⟩), .agg #[.int .u64 a0.Hold.ID.Session, .int .u64 a0.Hold.ID.Seq, .int .u64 a0.Hold.Epoch, r0_0, r0_1, r0_2, r0_3]]) rfl) ?_
      refine (locks_Lay_ref (f0_0.mono (rd_weak _)) (f0_1.mono (rd_weak _)) (f0_2.mono (rd_weak _)) (f0_3.mono (rd_weak _)) hst.to1 ht403).mono ?_
      rintro _ w404 ⟨rfl, hst⟩
      refine ⟨_, rfl, ?_⟩
      replace hst := hst.of1
      refine wl_nil ?_
      refine blk_n ?_
      refine then_n ?_
      refine wp_seq ?_
      refine wp_region_lit ?_
      refine wl_val (v := .pointer (some ⟨b370, 0, none⟩)) rfl rfl (x_load rfl Try.isAgg56 (hst.bc1 rfl)) ?_
      obtain ⟨t407, ht408, hm⟩ := bind_some hm
      refine wl_call rfl rfl (x_call Try.call14 rfl (vs := [.pointer (some ⟨b370, 0, none⟩)]) rfl) ?_
      refine (octet_Writer_Done_ref hst.to1 ht408).mono ?_
      rintro _ w409 ⟨v412, rfl, hst⟩
      refine ⟨_, rfl, ?_⟩
      replace hst := hst.of1
      refine wl_val (v := v412) rfl rfl rfl ?_
      refine wl_nil ?_
      refine then_n ?_
      refine wp_ret ?_
      obtain rfl := some_inj hm
      refine post_ret (vs := [v412]) Try.results10 (rvs_cons (rv_tmp rfl) rvs_nil) ?_
      exact ⟨v412, rfl, hst.keep1⟩
    · skip
      replace hm := bif_f hc401 hm
      refine wp_iff (congrArg Value.bool hc401) ?_
      refine wp_seq ?_
      refine wp_region_lit ?_
      refine wl_val (v := .bool (a0.Kind == (3:Int))) rfl rfl rfl ?_
      refine wl_val (v := .bool (a0.Kind == (3:Int))) rfl rfl rfl ?_
      refine wl_nil ?_
      refine then_n ?_
      refine bsplit (a0.Kind == (3:Int)) (fun hc414 => ?_) (fun hc414 => ?_)
      · skip
        replace hm := bif_t hc414 hm
        refine wp_ift (congrArg Value.bool hc414) ?_
        refine wp_seq ?_
        refine wp_region_lit ?_
        refine wl_val (v := .func (.func 28) #[] #[.pointer (some ⟨b376, 0, none⟩), .pointer (some ⟨b363, 0, none⟩)]) rfl rfl rfl ?_
        obtain ⟨y427, hq428, hm⟩ := bind_some hm
        refine wl_call rfl rfl (x_callv Try.call28 (caps := [.pointer (some ⟨b376, 0, none⟩), .pointer (some ⟨b363, 0, none⟩)]) rfl (vs := []) rfl) ?_
        refine Calls.mono (show Calls Try.prog 28 #[.pointer (some ⟨b376, 0, none⟩), .pointer (some ⟨b363, 0, none⟩)] _ (fun e w' => ∃ (z425 : octet_Writer), y427 = z425 ∧ e = .returned (.tuple #[]) ∧ St w0 w' I [cells b363 [.int .u8 a0.Kind, .int .u64 a0.ID.Session, .int .u64 a0.ID.Seq, .int .u64 a0.Epoch, .int .u64 a0.Index, .int .i64 a0.E, .int .u64 a0.Hold.ID.Session, .int .u64 a0.Hold.ID.Seq, .int .u64 a0.Hold.Epoch, r0_0, r0_1, r0_2, r0_3, r0_4, .int .i64 a0.R.E, .int .u64 a0.R.Epoch, .int .u64 a0.R.Index, r0_5, r0_6, .int .u64 a0.Shards, r0_7, .int .u64 a0.Rule.ID, .int .i64 a0.Rule.From, .int .i64 a0.Rule.To, .float .f64 a0.Rule.Lo, .float .f64 a0.Rule.Hi, .int .u64 a0.Rule.Authority, .int .i64 a0.Rule.Quota, .bool a0.On], at_octet_Writer (.pointer (some ⟨b370, 0, none⟩)) z425, cells b376 [.pointer (some ⟨b370, 0, none⟩)]] R) from ?_) ?_
        · skip
          clear hm; have hm := hq428
          refine calls_start (args := [.pointer (some ⟨b376, 0, none⟩), .pointer (some ⟨b363, 0, none⟩)]) Try.func28 rfl Try.ntmps28 (Nat.le_of_ble_eq_true rfl) ?_
          refine wp_region_St hst 9 [0, 1, 2, 3, 4, 5, 6, 7, 8] [0, 0, 2, 6, 15, 0, 32, 96, 255] [] rfl (by kernel_rfl) (by kernel_rfl) Try.mixed (by kernel_rfl) ?_
          refine ws_q (v := .pointer (some ⟨b370, 0, none⟩)) 0 [1, 2, 3, 4, 5, 6, 7, 8] (by kernel_rfl) rfl rfl (yi_run rfl (fun w hst => x_load rfl Try.isAgg56 (hst.bc1 rfl))) ?_
          refine ws_q (v := .pointer (some ⟨b363, 1, none⟩)) 1 [2, 3, 4, 5, 6, 7, 8] (by kernel_rfl) rfl rfl (yi_run rfl (fun w hst => x_field rfl Try.underlying45 rfl Try.sizeOf29 rfl)) ?_
          refine ws_q (v := .pointer (some ⟨b363, 1, none⟩)) 2 [3, 4, 5, 6, 7, 8] (by kernel_rfl) rfl rfl (yi_run rfl (fun w hst => x_field rfl Try.underlying29 rfl Try.sizeOf27 rfl)) ?_
          refine ws_q (v := .int .u64 a0.ID.Session) 3 [4, 5, 6, 7, 8] (by kernel_rfl) rfl rfl (yi_run rfl (fun w hst => x_load rfl Try.isAgg27 (hst.bc2 rfl))) ?_
          refine ws_q (v := .pointer (some ⟨b363, 1, none⟩)) 5 [4, 6, 7, 8] (by kernel_rfl) rfl rfl (yi_run rfl (fun w hst => x_field rfl Try.underlying45 rfl Try.sizeOf29 rfl)) ?_
          refine ws_q (v := .pointer (some ⟨b363, 2, none⟩)) 6 [4, 7, 8] (by kernel_rfl) rfl rfl (yi_run rfl (fun w hst => x_field rfl Try.underlying29 rfl Try.sizeOf27 rfl)) ?_
          refine ws_q (v := .int .u64 a0.ID.Seq) 7 [4, 8] (by kernel_rfl) rfl rfl (yi_run rfl (fun w hst => x_load rfl Try.isAgg27 (hst.bc2 rfl))) ?_
          refine ws_e1 4 (by kernel_rfl) ?_
          refine nxe [8] (by kernel_rfl) rfl rfl ?_
          clear hst
          intro w hst
          obtain ⟨t415, ht416, hm⟩ := bind_some hm
          refine we_call rfl (x_call Try.call27 rfl (vs := [.pointer (some ⟨b370, 0, none⟩), .int .u64 a0.ID.Session, .int .i64 (8:Int)]) rfl) ?_
          refine (octet_Writer_Num_ref hst.to1 ht416).mono ?_
          rintro _ w417 ⟨rfl, hst⟩
          refine ⟨_, rfl, ?_⟩
          replace hst := hst.of1
          refine ws_next (pend' := [(7, .int .u64 a0.ID.Seq), (6, .pointer (some ⟨b363, 2, none⟩)), (5, .pointer (some ⟨b363, 1, none⟩))]) hst (by kernel_rfl) (pk_cons rfl (yi_run rfl (fun w hst => x_load rfl Try.isAgg27 (hst.bc2 rfl))) (pk_cons rfl (yi_run rfl (fun w hst => x_field rfl Try.underlying29 rfl Try.sizeOf27 rfl)) (pk_cons rfl (yi_run rfl (fun w hst => x_field rfl Try.underlying45 rfl Try.sizeOf29 rfl)) pk_nil))) ?_
          refine ws_e1 8 (by kernel_rfl) ?_
          refine nxe [] (by kernel_rfl) rfl rfl ?_
          clear hst
          intro w hst
          obtain ⟨t420, ht421, hm⟩ := bind_some hm
          refine we_call rfl (x_call Try.call27 rfl (vs := [.pointer (some ⟨b370, 0, none⟩), .int .u64 a0.ID.Seq, .int .i64 (8:Int)]) rfl) ?_
          refine (octet_Writer_Num_ref hst.to1 ht421).mono ?_
          rintro _ w422 ⟨rfl, hst⟩
          refine ⟨_, rfl, ?_⟩
          replace hst := hst.of1
          refine ws_next (pend' := []) hst (by kernel_rfl) pk_nil ?_
          refine ws_nil ?_
          intro w hst
          refine post_end (vs := []) Try.results28 rvs_nil ?_
          replace hst := hst.pull1
          replace hst := hst.pull1
          replace hst := hst.pull2
          replace hst := hst.keep3
          obtain rfl := some_inj hm
          exact ⟨t420, rfl, rfl, hst⟩
        clear hst
        rintro _ w429 ⟨z425, rfl, rfl, hst⟩
        refine ⟨_, rfl, ?_⟩
        try dsimp only at hm
        refine wl_nil ?_
        refine then_n ?_
        refine wp_seq ?_
        refine wp_region_St hst 11 [0, 1, 2, 3, 4, 5, 6, 7, 8, 9, 10] [0, 0, 2, 6, 15, 0, 32, 127, 0, 256, 1023] [] rfl (by kernel_rfl) (by kernel_rfl) Try.mixed (by kernel_rfl) ?_
        refine ws_q (v := .pointer (some ⟨b370, 0, none⟩)) 0 [1, 2, 3, 4, 5, 6, 7, 8, 9, 10] (by kernel_rfl) rfl rfl (yi_run rfl (fun w hst => x_load rfl Try.isAgg56 (hst.bc2 rfl))) ?_
        refine ws_q (v := .pointer (some ⟨b363, 5, none⟩)) 1 [2, 3, 4, 5, 6, 7, 8, 9, 10] (by kernel_rfl) rfl rfl (yi_run rfl (fun w hst => x_field rfl Try.underlying45 rfl Try.sizeOf30 rfl)) ?_
        refine ws_q (v := .int .i64 a0.E) 2 [3, 4, 5, 6, 7, 8, 9, 10] (by kernel_rfl) rfl rfl (yi_run rfl (fun w hst => x_load rfl Try.isAgg30 (hst.bc0 rfl))) ?_
        refine ws_q (v := .int .u64 (IntKind.u64.wrap a0.E)) 3 [4, 5, 6, 7, 8, 9, 10] (by kernel_rfl) rfl rfl (yi_run rfl (fun w hst => by kernel_rfl)) ?_
        refine ws_q (v := .pointer (some ⟨b363, 3, none⟩)) 5 [4, 6, 7, 8, 9, 10] (by kernel_rfl) rfl rfl (yi_run rfl (fun w hst => x_field rfl Try.underlying45 rfl Try.sizeOf27 rfl)) ?_
        refine ws_q (v := .int .u64 a0.Epoch) 6 [4, 7, 8, 9, 10] (by kernel_rfl) rfl rfl (yi_run rfl (fun w hst => x_load rfl Try.isAgg27 (hst.bc0 rfl))) ?_
        refine ws_q (v := .pointer (some ⟨b363, 4, none⟩)) 8 [4, 7, 9, 10] (by kernel_rfl) rfl rfl (yi_run rfl (fun w hst => x_field rfl Try.underlying45 rfl Try.sizeOf27 rfl)) ?_
        refine ws_q (v := .int .u64 a0.Index) 9 [4, 7, 10] (by kernel_rfl) rfl rfl (yi_run rfl (fun w hst => x_load rfl Try.isAgg27 (hst.bc0 rfl))) ?_
        refine ws_e1 4 (by kernel_rfl) ?_
        refine nxe [7, 10] (by kernel_rfl) rfl rfl ?_
        clear hst
        intro w hst
        replace hst := hst.pull1
        obtain ⟨t430, ht431, hm⟩ := bind_some hm
        refine we_call rfl (x_call Try.call27 rfl (vs := [.pointer (some ⟨b370, 0, none⟩), .int .u64 (IntKind.u64.wrap a0.E), .int .i64 (1:Int)]) rfl) ?_
        refine (octet_Writer_Num_ref hst.to1 ht431).mono ?_
        rintro _ w432 ⟨rfl, hst⟩
        refine ⟨_, rfl, ?_⟩
        replace hst := hst.of1
        refine ws_next (pend' := [(9, .int .u64 a0.Index), (8, .pointer (some ⟨b363, 4, none⟩)), (6, .int .u64 a0.Epoch), (5, .pointer (some ⟨b363, 3, none⟩))]) hst (by kernel_rfl) (pk_cons rfl (yi_run rfl (fun w hst => x_load rfl Try.isAgg27 (hst.bc1 rfl))) (pk_cons rfl (yi_run rfl (fun w hst => x_field rfl Try.underlying45 rfl Try.sizeOf27 rfl)) (pk_cons rfl (yi_run rfl (fun w hst => x_load rfl Try.isAgg27 (hst.bc1 rfl))) (pk_cons rfl (yi_run rfl (fun w hst => x_field rfl Try.underlying45 rfl Try.sizeOf27 rfl)) pk_nil)))) ?_
        refine ws_e1 7 (by kernel_rfl) ?_
        refine nxe [10] (by kernel_rfl) rfl rfl ?_
        clear hst
        intro w hst
        obtain ⟨t435, ht436, hm⟩ := bind_some hm
        refine we_call rfl (x_call Try.call27 rfl (vs := [.pointer (some ⟨b370, 0, none⟩), .int .u64 a0.Epoch, .int .i64 (8:Int)]) rfl) ?_
        refine (octet_Writer_Num_ref hst.to1 ht436).mono ?_
        rintro _ w437 ⟨rfl, hst⟩
        refine ⟨_, rfl, ?_⟩
        replace hst := hst.of1
        refine ws_next (pend' := [(9, .int .u64 a0.Index), (8, .pointer (some ⟨b363, 4, none⟩))]) hst (by kernel_rfl) (pk_cons rfl (yi_run rfl (fun w hst => x_load rfl Try.isAgg27 (hst.bc1 rfl))) (pk_cons rfl (yi_run rfl (fun w hst => x_field rfl Try.underlying45 rfl Try.sizeOf27 rfl)) pk_nil)) ?_
        refine ws_e1 10 (by kernel_rfl) ?_
        refine nxe [] (by kernel_rfl) rfl rfl ?_
        clear hst
        intro w hst
        obtain ⟨t440, ht441, hm⟩ := bind_some hm
        refine we_call rfl (x_call Try.call27 rfl (vs := [.pointer (some ⟨b370, 0, none⟩), .int .u64 a0.Index, .int .i64 (8:Int)]) rfl) ?_
        refine (octet_Writer_Num_ref hst.to1 ht441).mono ?_
        rintro _ w442 ⟨rfl, hst⟩
        refine ⟨_, rfl, ?_⟩
        replace hst := hst.of1
        refine ws_next (pend' := []) hst (by kernel_rfl) pk_nil ?_
        refine ws_nil ?_
        intro w hst
        refine then_n ?_
        refine wp_region_lit ?_
        refine wl_val (v := .pointer (some ⟨b370, 0, none⟩)) rfl rfl (x_load rfl Try.isAgg56 (hst.bc2 rfl)) ?_
        refine wl_val (v := .pointer (some ⟨b363, 13, none⟩)) rfl rfl (x_field rfl Try.underlying45 rfl Try.sizeOf35 rfl) ?_
        refine wl_val (v := r0_4) rfl rfl (x_load rfl Try.isAgg35 (hst.bc1 rfl)) ?_
        obtain ⟨t445, ht446, hm⟩ := bind_some hm
        refine wl_call rfl rfl (x_call Try.call30 rfl (vs := [.pointer (some ⟨b370, 0, none⟩), r0_4]) rfl) ?_
        refine (command_writes_ref (f0_4.mono (rd_weak _)) hst.to1 ht446).mono ?_
        rintro _ w447 ⟨rfl, hst⟩
        refine ⟨_, rfl, ?_⟩
        replace hst := hst.of1
        refine wl_nil ?_
        refine blk_n ?_
        refine then_n ?_
        refine wp_seq ?_
        refine wp_region_lit ?_
        refine wl_val (v := .pointer (some ⟨b370, 0, none⟩)) rfl rfl (x_load rfl Try.isAgg56 (hst.bc2 rfl)) ?_
        obtain ⟨t450, ht451, hm⟩ := bind_some hm
        refine wl_call rfl rfl (x_call Try.call14 rfl (vs := [.pointer (some ⟨b370, 0, none⟩)]) rfl) ?_
        refine (octet_Writer_Done_ref hst.to1 ht451).mono ?_
        rintro _ w452 ⟨v455, rfl, hst⟩
        refine ⟨_, rfl, ?_⟩
        replace hst := hst.of1
        refine wl_val (v := v455) rfl rfl rfl ?_
        refine wl_nil ?_
        refine then_n ?_
        refine wp_ret ?_
        obtain rfl := some_inj hm
        refine post_ret (vs := [v455]) Try.results10 (rvs_cons (rv_tmp rfl) rvs_nil) ?_
        exact ⟨v455, rfl, hst.keep1⟩
      · skip
        replace hm := bif_f hc414 hm
        refine wp_iff (congrArg Value.bool hc414) ?_
        refine wp_seq ?_
        refine wp_region_lit ?_
        refine wl_val (v := .bool (a0.Kind == (4:Int))) rfl rfl rfl ?_
        refine wl_val (v := .bool (a0.Kind == (4:Int))) rfl rfl rfl ?_
        refine wl_nil ?_
        refine then_n ?_
        refine bsplit (a0.Kind == (4:Int)) (fun hc457 => ?_) (fun hc457 => ?_)
        · skip
          replace hm := bif_t hc457 hm
          refine wp_ift (congrArg Value.bool hc457) ?_
          refine wp_seq ?_
          refine wp_region_lit ?_
          refine wl_val (v := .func (.func 28) #[] #[.pointer (some ⟨b376, 0, none⟩), .pointer (some ⟨b363, 0, none⟩)]) rfl rfl rfl ?_
          obtain ⟨y470, hq471, hm⟩ := bind_some hm
          refine wl_call rfl rfl (x_callv Try.call28 (caps := [.pointer (some ⟨b376, 0, none⟩), .pointer (some ⟨b363, 0, none⟩)]) rfl (vs := []) rfl) ?_
          refine Calls.mono (show Calls Try.prog 28 #[.pointer (some ⟨b376, 0, none⟩), .pointer (some ⟨b363, 0, none⟩)] _ (fun e w' => ∃ (z468 : octet_Writer), y470 = z468 ∧ e = .returned (.tuple #[]) ∧ St w0 w' I [cells b363 [.int .u8 a0.Kind, .int .u64 a0.ID.Session, .int .u64 a0.ID.Seq, .int .u64 a0.Epoch, .int .u64 a0.Index, .int .i64 a0.E, .int .u64 a0.Hold.ID.Session, .int .u64 a0.Hold.ID.Seq, .int .u64 a0.Hold.Epoch, r0_0, r0_1, r0_2, r0_3, r0_4, .int .i64 a0.R.E, .int .u64 a0.R.Epoch, .int .u64 a0.R.Index, r0_5, r0_6, .int .u64 a0.Shards, r0_7, .int .u64 a0.Rule.ID, .int .i64 a0.Rule.From, .int .i64 a0.Rule.To, .float .f64 a0.Rule.Lo, .float .f64 a0.Rule.Hi, .int .u64 a0.Rule.Authority, .int .i64 a0.Rule.Quota, .bool a0.On], at_octet_Writer (.pointer (some ⟨b370, 0, none⟩)) z468, cells b376 [.pointer (some ⟨b370, 0, none⟩)]] R) from ?_) ?_
          · skip
            clear hm; have hm := hq471
            refine calls_start (args := [.pointer (some ⟨b376, 0, none⟩), .pointer (some ⟨b363, 0, none⟩)]) Try.func28 rfl Try.ntmps28 (Nat.le_of_ble_eq_true rfl) ?_
            refine wp_region_St hst 9 [0, 1, 2, 3, 4, 5, 6, 7, 8] [0, 0, 2, 6, 15, 0, 32, 96, 255] [] rfl (by kernel_rfl) (by kernel_rfl) Try.mixed (by kernel_rfl) ?_
            refine ws_q (v := .pointer (some ⟨b370, 0, none⟩)) 0 [1, 2, 3, 4, 5, 6, 7, 8] (by kernel_rfl) rfl rfl (yi_run rfl (fun w hst => x_load rfl Try.isAgg56 (hst.bc1 rfl))) ?_
            refine ws_q (v := .pointer (some ⟨b363, 1, none⟩)) 1 [2, 3, 4, 5, 6, 7, 8] (by kernel_rfl) rfl rfl (yi_run rfl (fun w hst => x_field rfl Try.underlying45 rfl Try.sizeOf29 rfl)) ?_
            refine ws_q (v := .pointer (some ⟨b363, 1, none⟩)) 2 [3, 4, 5, 6, 7, 8] (by kernel_rfl) rfl rfl (yi_run rfl (fun w hst => x_field rfl Try.underlying29 rfl Try.sizeOf27 rfl)) ?_
            refine ws_q (v := .int .u64 a0.ID.Session) 3 [4, 5, 6, 7, 8] (by kernel_rfl) rfl rfl (yi_run rfl (fun w hst => x_load rfl Try.isAgg27 (hst.bc2 rfl))) ?_
            refine ws_q (v := .pointer (some ⟨b363, 1, none⟩)) 5 [4, 6, 7, 8] (by kernel_rfl) rfl rfl (yi_run rfl (fun w hst => x_field rfl Try.underlying45 rfl Try.sizeOf29 rfl)) ?_
            refine ws_q (v := .pointer (some ⟨b363, 2, none⟩)) 6 [4, 7, 8] (by kernel_rfl) rfl rfl (yi_run rfl (fun w hst => x_field rfl Try.underlying29 rfl Try.sizeOf27 rfl)) ?_
            refine ws_q (v := .int .u64 a0.ID.Seq) 7 [4, 8] (by kernel_rfl) rfl rfl (yi_run rfl (fun w hst => x_load rfl Try.isAgg27 (hst.bc2 rfl))) ?_
            refine ws_e1 4 (by kernel_rfl) ?_
            refine nxe [8] (by kernel_rfl) rfl rfl ?_
            clear hst
            intro w hst
            obtain ⟨t458, ht459, hm⟩ := bind_some hm
            refine we_call rfl (x_call Try.call27 rfl (vs := [.pointer (some ⟨b370, 0, none⟩), .int .u64 a0.ID.Session, .int .i64 (8:Int)]) rfl) ?_
            refine (octet_Writer_Num_ref hst.to1 ht459).mono ?_
            rintro _ w460 ⟨rfl, hst⟩
            refine ⟨_, rfl, ?_⟩
            replace hst := hst.of1
            refine ws_next (pend' := [(7, .int .u64 a0.ID.Seq), (6, .pointer (some ⟨b363, 2, none⟩)), (5, .pointer (some ⟨b363, 1, none⟩))]) hst (by kernel_rfl) (pk_cons rfl (yi_run rfl (fun w hst => x_load rfl Try.isAgg27 (hst.bc2 rfl))) (pk_cons rfl (yi_run rfl (fun w hst => x_field rfl Try.underlying29 rfl Try.sizeOf27 rfl)) (pk_cons rfl (yi_run rfl (fun w hst => x_field rfl Try.underlying45 rfl Try.sizeOf29 rfl)) pk_nil))) ?_
            refine ws_e1 8 (by kernel_rfl) ?_
            refine nxe [] (by kernel_rfl) rfl rfl ?_
            clear hst
            intro w hst
            obtain ⟨t463, ht464, hm⟩ := bind_some hm
            refine we_call rfl (x_call Try.call27 rfl (vs := [.pointer (some ⟨b370, 0, none⟩), .int .u64 a0.ID.Seq, .int .i64 (8:Int)]) rfl) ?_
            refine (octet_Writer_Num_ref hst.to1 ht464).mono ?_
            rintro _ w465 ⟨rfl, hst⟩
            refine ⟨_, rfl, ?_⟩
            replace hst := hst.of1
            refine ws_next (pend' := []) hst (by kernel_rfl) pk_nil ?_
            refine ws_nil ?_
            intro w hst
            refine post_end (vs := []) Try.results28 rvs_nil ?_
            replace hst := hst.pull1
            replace hst := hst.pull1
            replace hst := hst.pull2
            replace hst := hst.keep3
            obtain rfl := some_inj hm
            exact ⟨t463, rfl, rfl, hst⟩
          clear hst
          rintro _ w472 ⟨z468, rfl, rfl, hst⟩
          refine ⟨_, rfl, ?_⟩
          try dsimp only at hm
          refine wl_nil ?_
          refine then_n ?_
          refine wp_seq ?_
          refine wp_region_St hst 12 [0, 1, 2, 3, 4, 5, 6, 7, 8, 9, 10, 11] [0, 0, 2, 7, 0, 16, 63, 0, 128, 384, 896, 2047] [] rfl (by kernel_rfl) (by kernel_rfl) Try.mixed (by kernel_rfl) ?_
          refine ws_q (v := .pointer (some ⟨b370, 0, none⟩)) 0 [1, 2, 3, 4, 5, 6, 7, 8, 9, 10, 11] (by kernel_rfl) rfl rfl (yi_run rfl (fun w hst => x_load rfl Try.isAgg56 (hst.bc2 rfl))) ?_
          refine ws_q (v := .pointer (some ⟨b363, 3, none⟩)) 1 [2, 3, 4, 5, 6, 7, 8, 9, 10, 11] (by kernel_rfl) rfl rfl (yi_run rfl (fun w hst => x_field rfl Try.underlying45 rfl Try.sizeOf27 rfl)) ?_
          refine ws_q (v := .int .u64 a0.Epoch) 2 [3, 4, 5, 6, 7, 8, 9, 10, 11] (by kernel_rfl) rfl rfl (yi_run rfl (fun w hst => x_load rfl Try.isAgg27 (hst.bc0 rfl))) ?_
          refine ws_q (v := .pointer (some ⟨b363, 19, none⟩)) 4 [3, 5, 6, 7, 8, 9, 10, 11] (by kernel_rfl) rfl rfl (yi_run rfl (fun w hst => x_field rfl Try.underlying45 rfl Try.sizeOf27 rfl)) ?_
          refine ws_q (v := .int .u64 a0.Shards) 5 [3, 6, 7, 8, 9, 10, 11] (by kernel_rfl) rfl rfl (yi_run rfl (fun w hst => x_load rfl Try.isAgg27 (hst.bc0 rfl))) ?_
          refine ws_q (v := .pointer (some ⟨b363, 20, none⟩)) 7 [3, 6, 8, 9, 10, 11] (by kernel_rfl) rfl rfl (yi_run rfl (fun w hst => x_field rfl Try.underlying45 rfl Try.sizeOf40 rfl)) ?_
          refine ws_q (v := r0_7) 8 [3, 6, 9, 10, 11] (by kernel_rfl) rfl rfl (yi_run rfl (fun w hst => x_load rfl Try.isAgg40 (hst.bc0 rfl))) ?_
          refine ws_q (v := .int .i64 ((a0.Parts).length : Int)) 9 [3, 6, 10, 11] (by kernel_rfl) rfl rfl (yi_run rfl (fun w hst => x_len rfl Try.underlying40 (rd_sliceV f0_7))) ?_
          refine ws_q (v := .int .u64 (IntKind.u64.wrap ((a0.Parts).length : Int))) 10 [3, 6, 11] (by kernel_rfl) rfl rfl (yi_run rfl (fun w hst => by kernel_rfl)) ?_
          refine ws_e1 3 (by kernel_rfl) ?_
          refine nxe [6, 11] (by kernel_rfl) rfl rfl ?_
          clear hst
          intro w hst
          replace hst := hst.pull1
          obtain ⟨t473, ht474, hm⟩ := bind_some hm
          refine we_call rfl (x_call Try.call27 rfl (vs := [.pointer (some ⟨b370, 0, none⟩), .int .u64 a0.Epoch, .int .i64 (8:Int)]) rfl) ?_
          refine (octet_Writer_Num_ref hst.to1 ht474).mono ?_
          rintro _ w475 ⟨rfl, hst⟩
          refine ⟨_, rfl, ?_⟩
          replace hst := hst.of1
          refine ws_next (pend' := [(10, .int .u64 (IntKind.u64.wrap ((a0.Parts).length : Int))), (9, .int .i64 ((a0.Parts).length : Int)), (8, r0_7), (7, .pointer (some ⟨b363, 20, none⟩)), (5, .int .u64 a0.Shards), (4, .pointer (some ⟨b363, 19, none⟩))]) hst (by kernel_rfl) (pk_cons rfl (yi_run rfl (fun w hst => by kernel_rfl)) (pk_cons rfl (yi_run rfl (fun w hst => x_len rfl Try.underlying40 (rd_sliceV f0_7))) (pk_cons rfl (yi_run rfl (fun w hst => x_load rfl Try.isAgg40 (hst.bc1 rfl))) (pk_cons rfl (yi_run rfl (fun w hst => x_field rfl Try.underlying45 rfl Try.sizeOf40 rfl)) (pk_cons rfl (yi_run rfl (fun w hst => x_load rfl Try.isAgg27 (hst.bc1 rfl))) (pk_cons rfl (yi_run rfl (fun w hst => x_field rfl Try.underlying45 rfl Try.sizeOf27 rfl)) pk_nil)))))) ?_
          refine ws_e1 6 (by kernel_rfl) ?_
          refine nxe [11] (by kernel_rfl) rfl rfl ?_
          clear hst
          intro w hst
          obtain ⟨t478, ht479, hm⟩ := bind_some hm
          refine we_call rfl (x_call Try.call27 rfl (vs := [.pointer (some ⟨b370, 0, none⟩), .int .u64 a0.Shards, .int .i64 (2:Int)]) rfl) ?_
          refine (octet_Writer_Num_ref hst.to1 ht479).mono ?_
          rintro _ w480 ⟨rfl, hst⟩
          refine ⟨_, rfl, ?_⟩
          replace hst := hst.of1
          refine ws_next (pend' := [(10, .int .u64 (IntKind.u64.wrap ((a0.Parts).length : Int))), (9, .int .i64 ((a0.Parts).length : Int)), (8, r0_7), (7, .pointer (some ⟨b363, 20, none⟩))]) hst (by kernel_rfl) (pk_cons rfl (yi_run rfl (fun w hst => by kernel_rfl)) (pk_cons rfl (yi_run rfl (fun w hst => x_len rfl Try.underlying40 (rd_sliceV f0_7))) (pk_cons rfl (yi_run rfl (fun w hst => x_load rfl Try.isAgg40 (hst.bc1 rfl))) (pk_cons rfl (yi_run rfl (fun w hst => x_field rfl Try.underlying45 rfl Try.sizeOf40 rfl)) pk_nil)))) ?_
          refine ws_e1 11 (by kernel_rfl) ?_
          refine nxe [] (by kernel_rfl) rfl rfl ?_
          clear hst
          intro w hst
          obtain ⟨t483, ht484, hm⟩ := bind_some hm
          refine we_call rfl (x_call Try.call27 rfl (vs := [.pointer (some ⟨b370, 0, none⟩), .int .u64 (IntKind.u64.wrap ((a0.Parts).length : Int)), .int .i64 (4:Int)]) rfl) ?_
          refine (octet_Writer_Num_ref hst.to1 ht484).mono ?_
          rintro _ w485 ⟨rfl, hst⟩
          refine ⟨_, rfl, ?_⟩
          replace hst := hst.of1
          refine ws_next (pend' := []) hst (by kernel_rfl) pk_nil ?_
          refine ws_nil ?_
          intro w hst
          refine then_n ?_
          obtain ⟨y593, hm, hx594⟩ := bind_some hm
          refine wp_cut (fun a w => ∃ (z590 : octet_Writer) (σ591 : Nat → Value), (command_Encode_j0 a0) z590 = some r ∧ a = Fr 121 (upd (upd σ591 1 (.pointer (some ⟨b363, 0, none⟩))) 3 (.pointer (some ⟨b376, 0, none⟩))) ∧ St w0 w I [cells b363 [.int .u8 a0.Kind, .int .u64 a0.ID.Session, .int .u64 a0.ID.Seq, .int .u64 a0.Epoch, .int .u64 a0.Index, .int .i64 a0.E, .int .u64 a0.Hold.ID.Session, .int .u64 a0.Hold.ID.Seq, .int .u64 a0.Hold.Epoch, r0_0, r0_1, r0_2, r0_3, r0_4, .int .i64 a0.R.E, .int .u64 a0.R.Epoch, .int .u64 a0.R.Index, r0_5, r0_6, .int .u64 a0.Shards, r0_7, .int .u64 a0.Rule.ID, .int .i64 a0.Rule.From, .int .i64 a0.Rule.To, .float .f64 a0.Rule.Lo, .float .f64 a0.Rule.Hi, .int .u64 a0.Rule.Authority, .int .i64 a0.Rule.Quota, .bool a0.On], cells b376 [.pointer (some ⟨b370, 0, none⟩)], at_octet_Writer (.pointer (some ⟨b370, 0, none⟩)) z590] R) ?_ ?_
          · skip
            refine wp_seq ?_
            refine wp_region_lit ?_
            refine wl_val (v := .pointer (some ⟨b363, 20, none⟩)) rfl rfl (x_field rfl Try.underlying45 rfl Try.sizeOf40 rfl) ?_
            refine wl_val (v := r0_7) rfl rfl (x_load rfl Try.isAgg40 (hst.bc1 rfl)) ?_
            refine wl_val (v := .int .i64 ((a0.Parts).length : Int)) rfl rfl (x_len rfl Try.underlying40 (rd_sliceV f0_7)) ?_
            refine wl_val (v := .int .i64 (0:Int)) rfl rfl rfl ?_
            refine wl_nil ?_
            refine then_n ?_
            refine wp_block ?_
            obtain ⟨n553, hm⟩ := loopO_some hm
            refine wp_loop_n (fun n a w => ∃ (z550 : octet_Writer) (z551 : Int) (σ552 : Nat → Value), loopN (command_Encode_l1 a0) n (z550, z551) = some y593 ∧ a = Fr 121 (upd (upd (upd (upd (upd σ552 1 (.pointer (some ⟨b363, 0, none⟩))) 3 (.pointer (some ⟨b376, 0, none⟩))) 65 (r0_7)) 66 (.int .i64 ((a0.Parts).length : Int))) 67 (.int .i64 z551)) ∧ St w0 w I [at_octet_Writer (.pointer (some ⟨b370, 0, none⟩)) z550, cells b363 [.int .u8 a0.Kind, .int .u64 a0.ID.Session, .int .u64 a0.ID.Seq, .int .u64 a0.Epoch, .int .u64 a0.Index, .int .i64 a0.E, .int .u64 a0.Hold.ID.Session, .int .u64 a0.Hold.ID.Seq, .int .u64 a0.Hold.Epoch, r0_0, r0_1, r0_2, r0_3, r0_4, .int .i64 a0.R.E, .int .u64 a0.R.Epoch, .int .u64 a0.R.Index, r0_5, r0_6, .int .u64 a0.Shards, r0_7, .int .u64 a0.Rule.ID, .int .i64 a0.Rule.From, .int .i64 a0.Rule.To, .float .f64 a0.Rule.Lo, .float .f64 a0.Rule.Hi, .int .u64 a0.Rule.Authority, .int .i64 a0.Rule.Quota, .bool a0.On], cells b376 [.pointer (some ⟨b370, 0, none⟩)]] R) n553 ⟨t483, (0:Int), _, hm, ((fr_upd (t := 1) (v := .pointer (some ⟨b363, 0, none⟩)) rfl).trans ((fr_upd (t := 3) (v := .pointer (some ⟨b376, 0, none⟩)) rfl).trans ((fr_upd (t := 65) (v := r0_7) rfl).trans ((fr_upd (t := 66) (v := .int .i64 ((a0.Parts).length : Int)) rfl).trans ((fr_upd (t := 67) (v := .int .i64 (0:Int)) rfl).trans rfl))))), hst⟩ ?_
            rintro n559 _ w554 ⟨z550, z551, σ552, hm, rfl, hst⟩
            obtain ⟨n556, y557, rfl, hm, hx558⟩ := loopN_some hm
            dsimp only [command_Encode_l1] at hm
            refine wp_seq ?_
            refine wp_region_lit ?_
            refine wl_val (v := .bool (decide (z551 < ((a0.Parts).length : Int)))) rfl rfl rfl ?_
            refine wl_nil ?_
            refine then_n ?_
            refine wp_seq ?_
            refine bsplit (decide (z551 < ((a0.Parts).length : Int))) (fun hc560 => ?_) (fun hc560 => ?_)
            · skip
              replace hm := bif_t hc560 hm
              refine wp_ift (congrArg Value.bool hc560) ?_
              refine wp_skip ?_
              refine then_n ?_
              refine wp_seq ?_
              refine wp_block ?_
              refine wp_seq ?_
              refine wp_region_lit ?_
              obtain ⟨x561, hx562, hm⟩ := bind_some hm
              obtain ⟨h563, h564, hi565⟩ := geto_some hx562
              refine wl_val (v := .pointer (some (eAddr r0_7 (z551.toNat * 2 + 0)))) rfl rfl (x_index rfl rfl Try.underlying40 Try.sizeOf81 (rd_sliceV f0_7) h563 h564) ?_
              obtain ⟨cs566, hr567, hc568⟩ := Rd.getF f0_7 hi565
              obtain ⟨v569, rfl, f570, -⟩ := hr567
              refine wl_val (v := .agg #[.int .i64 x561.Shard, v569]) rfl rfl (x_loadN (cs := [.int .i64 x561.Shard, v569]) rfl Try.isAgg81 Try.sizeOf81 (eCells (o := 0) (hc568 (HL.le.refl _) hst) rfl)) ?_
              obtain ⟨b573, w574, ew575, eb576, hst⟩ := hst.box [.int .i64 (0:Int), (.slice none 0 0)] 81
              refine wl_run (v := .pointer (some ⟨b573, 0, none⟩)) (w' := w574) rfl rfl (x_al (by kernel_rfl) ew575 eb576) ?_
              obtain ⟨w578, hr579, hst⟩ := hst.boxStore (P := Try.prog) (t := 81) (cs' := [.int .i64 x561.Shard, v569]) 0 (.agg #[.int .i64 x561.Shard, v569]) Try.sizeOf81 (Nat.le_of_ble_eq_true rfl) (ones_cons rfl (ones_cons (one_of_sliceV (rd_sliceV f570)) ones_nil)) (by kernel_rfl)
              refine wl_unit rfl rfl (x_unit hr579) ?_
              refine wl_nil ?_
              refine then_n ?_
              refine wp_seq ?_
              refine wp_region_lit ?_
              refine wl_val (v := .pointer (some ⟨b370, 0, none⟩)) rfl rfl (x_load rfl Try.isAgg56 (hst.bc3 rfl)) ?_
              refine wl_val (v := .pointer (some ⟨b573, 0, none⟩)) rfl rfl (x_field rfl Try.underlying81 rfl Try.sizeOf3 rfl) ?_
              refine wl_val (v := .int .i64 x561.Shard) rfl rfl (x_load rfl Try.isAgg3 (hst.bc0 rfl)) ?_
              refine wl_val (v := .int .u64 (IntKind.u64.wrap x561.Shard)) rfl rfl (by kernel_rfl) ?_
              replace hst := hst.pull1
              obtain ⟨t580, ht581, hm⟩ := bind_some hm
              refine wl_call rfl rfl (x_call Try.call27 rfl (vs := [.pointer (some ⟨b370, 0, none⟩), .int .u64 (IntKind.u64.wrap x561.Shard), .int .i64 (1:Int)]) rfl) ?_
              refine (octet_Writer_Num_ref hst.to1 ht581).mono ?_
              rintro _ w582 ⟨rfl, hst⟩
              refine ⟨_, rfl, ?_⟩
              replace hst := hst.of1
              refine wl_nil ?_
              refine then_n ?_
              refine wp_region_lit ?_
              refine wl_val (v := .pointer (some ⟨b370, 0, none⟩)) rfl rfl (x_load rfl Try.isAgg56 (hst.bc3 rfl)) ?_
              refine wl_val (v := .pointer (some ⟨b573, 1, none⟩)) rfl rfl (x_field rfl Try.underlying81 rfl Try.sizeOf35 rfl) ?_
              refine wl_val (v := v569) rfl rfl (x_load rfl Try.isAgg35 (hst.bc1 rfl)) ?_
              obtain ⟨t585, ht586, hm⟩ := bind_some hm
              refine wl_call rfl rfl (x_call Try.call30 rfl (vs := [.pointer (some ⟨b370, 0, none⟩), v569]) rfl) ?_
              refine (command_writes_ref (f570.mono (rd_weak _)) hst.to1 ht586).mono ?_
              rintro _ w587 ⟨rfl, hst⟩
              refine ⟨_, rfl, ?_⟩
              replace hst := hst.of1
              refine wl_nil ?_
              refine blk_n ?_
              refine then_n ?_
              refine wp_region_lit ?_
              refine wl_val (v := .int .i64 (IntKind.i64.wrap (z551 + (1:Int)))) rfl rfl rfl ?_
              refine wl_val (v := .int .i64 (IntKind.i64.wrap (z551 + (1:Int)))) rfl rfl rfl ?_
              refine wl_nil ?_
              refine then_n ?_
              replace hst := hst.pull3
              replace hst := hst.pull3
              replace hst := hst.pull2
              replace hst := hst.keep3
              obtain rfl := some_inj hm
              exact ⟨_, Nat.lt_succ_self _, t585, (IntKind.i64.wrap (z551 + (1:Int))), _, hx558, ((fr_upd (t := 1) (v := .pointer (some ⟨b363, 0, none⟩)) rfl).trans ((fr_upd (t := 3) (v := .pointer (some ⟨b376, 0, none⟩)) rfl).trans ((fr_upd (t := 65) (v := r0_7) rfl).trans ((fr_upd (t := 66) (v := .int .i64 ((a0.Parts).length : Int)) rfl).trans ((fr_upd (t := 67) (v := .int .i64 (IntKind.i64.wrap (z551 + (1:Int)))) rfl).trans rfl))))), hst⟩
            · skip
              replace hm := bif_f hc560 hm
              refine wp_iff (congrArg Value.bool hc560) ?_
              refine wp_exit ?_
              refine then_x ?_
              refine then_x ?_
              replace hm := inr_up hm hx558
              refine blk_x ?_
              refine then_n ?_
              replace hst := hst.pull2
              replace hst := hst.pull2
              replace hst := hst.keep3
              obtain rfl := some_inj hm
              exact ⟨z550, _, hx594, ((fr_upd (t := 1) (v := .pointer (some ⟨b363, 0, none⟩)) rfl).trans ((fr_upd (t := 3) (v := .pointer (some ⟨b376, 0, none⟩)) rfl).trans rfl)), hst⟩
          · skip
            clear hst
            rintro _ w595 ⟨z590, σ591, hm, rfl, hst⟩
            dsimp only [command_Encode_j0] at hm
            refine wp_region_lit ?_
            refine wl_val (v := .pointer (some ⟨b370, 0, none⟩)) rfl rfl (x_load rfl Try.isAgg56 (hst.bc1 rfl)) ?_
            refine wl_val (v := .pointer (some ⟨b363, 14, none⟩)) rfl rfl (x_field rfl Try.underlying45 rfl Try.sizeOf39 rfl) ?_
            refine wl_val (v := .agg #[.int .i64 a0.R.E, .int .u64 a0.R.Epoch, .int .u64 a0.R.Index, r0_5, r0_6]) rfl rfl (x_loadN (cs := [.int .i64 a0.R.E, .int .u64 a0.R.Epoch, .int .u64 a0.R.Index, r0_5, r0_6]) rfl Try.isAgg39 Try.sizeOf39 (hst.bcs0 14 rfl)) ?_
            replace hst := hst.pull2
            obtain ⟨t596, ht597, hm⟩ := bind_some hm
            refine wl_call rfl rfl (x_call Try.call13 rfl (vs := [.pointer (some ⟨b370, 0, none⟩), .agg #[.int .i64 a0.R.E, .int .u64 a0.R.Epoch, .int .u64 a0.R.Index, r0_5, r0_6]]) rfl) ?_
            refine (command_LayReply_ref (f0_5.mono (rd_weak _)) (f0_6.mono (rd_weak _)) hst.to1 ht597).mono ?_
            rintro _ w598 ⟨rfl, hst⟩
            refine ⟨_, rfl, ?_⟩
            replace hst := hst.of1
            refine wl_nil ?_
            refine blk_n ?_
            refine then_n ?_
            refine wp_seq ?_
            refine wp_region_lit ?_
            refine wl_val (v := .pointer (some ⟨b370, 0, none⟩)) rfl rfl (x_load rfl Try.isAgg56 (hst.bc2 rfl)) ?_
            obtain ⟨t601, ht602, hm⟩ := bind_some hm
            refine wl_call rfl rfl (x_call Try.call14 rfl (vs := [.pointer (some ⟨b370, 0, none⟩)]) rfl) ?_
            refine (octet_Writer_Done_ref hst.to1 ht602).mono ?_
            rintro _ w603 ⟨v606, rfl, hst⟩
            refine ⟨_, rfl, ?_⟩
            replace hst := hst.of1
            refine wl_val (v := v606) rfl rfl rfl ?_
            refine wl_nil ?_
            refine then_n ?_
            refine wp_ret ?_
            obtain rfl := some_inj hm
            refine post_ret (vs := [v606]) Try.results10 (rvs_cons (rv_tmp rfl) rvs_nil) ?_
            exact ⟨v606, rfl, hst.keep1⟩
        · skip
          replace hm := bif_f hc457 hm
          refine wp_iff (congrArg Value.bool hc457) ?_
          refine wp_seq ?_
          refine wp_region_lit ?_
          refine wl_val (v := .bool (a0.Kind == (5:Int))) rfl rfl rfl ?_
          refine wl_val (v := .bool (a0.Kind == (5:Int))) rfl rfl rfl ?_
          refine wl_nil ?_
          refine then_n ?_
          refine bsplit (a0.Kind == (5:Int)) (fun hc608 => ?_) (fun hc608 => ?_)
          · skip
            replace hm := bif_t hc608 hm
            refine wp_ift (congrArg Value.bool hc608) ?_
            refine wp_region_lit ?_
            refine wl_val (v := .func (.func 28) #[] #[.pointer (some ⟨b376, 0, none⟩), .pointer (some ⟨b363, 0, none⟩)]) rfl rfl rfl ?_
            obtain ⟨y621, hq622, hm⟩ := bind_some hm
            refine wl_call rfl rfl (x_callv Try.call28 (caps := [.pointer (some ⟨b376, 0, none⟩), .pointer (some ⟨b363, 0, none⟩)]) rfl (vs := []) rfl) ?_
            refine Calls.mono (show Calls Try.prog 28 #[.pointer (some ⟨b376, 0, none⟩), .pointer (some ⟨b363, 0, none⟩)] _ (fun e w' => ∃ (z619 : octet_Writer), y621 = z619 ∧ e = .returned (.tuple #[]) ∧ St w0 w' I [cells b363 [.int .u8 a0.Kind, .int .u64 a0.ID.Session, .int .u64 a0.ID.Seq, .int .u64 a0.Epoch, .int .u64 a0.Index, .int .i64 a0.E, .int .u64 a0.Hold.ID.Session, .int .u64 a0.Hold.ID.Seq, .int .u64 a0.Hold.Epoch, r0_0, r0_1, r0_2, r0_3, r0_4, .int .i64 a0.R.E, .int .u64 a0.R.Epoch, .int .u64 a0.R.Index, r0_5, r0_6, .int .u64 a0.Shards, r0_7, .int .u64 a0.Rule.ID, .int .i64 a0.Rule.From, .int .i64 a0.Rule.To, .float .f64 a0.Rule.Lo, .float .f64 a0.Rule.Hi, .int .u64 a0.Rule.Authority, .int .i64 a0.Rule.Quota, .bool a0.On], at_octet_Writer (.pointer (some ⟨b370, 0, none⟩)) z619, cells b376 [.pointer (some ⟨b370, 0, none⟩)]] R) from ?_) ?_
            · skip
              clear hm; have hm := hq622
              refine calls_start (args := [.pointer (some ⟨b376, 0, none⟩), .pointer (some ⟨b363, 0, none⟩)]) Try.func28 rfl Try.ntmps28 (Nat.le_of_ble_eq_true rfl) ?_
              refine wp_region_St hst 9 [0, 1, 2, 3, 4, 5, 6, 7, 8] [0, 0, 2, 6, 15, 0, 32, 96, 255] [] rfl (by kernel_rfl) (by kernel_rfl) Try.mixed (by kernel_rfl) ?_
              refine ws_q (v := .pointer (some ⟨b370, 0, none⟩)) 0 [1, 2, 3, 4, 5, 6, 7, 8] (by kernel_rfl) rfl rfl (yi_run rfl (fun w hst => x_load rfl Try.isAgg56 (hst.bc1 rfl))) ?_
              refine ws_q (v := .pointer (some ⟨b363, 1, none⟩)) 1 [2, 3, 4, 5, 6, 7, 8] (by kernel_rfl) rfl rfl (yi_run rfl (fun w hst => x_field rfl Try.underlying45 rfl Try.sizeOf29 rfl)) ?_
              refine ws_q (v := .pointer (some ⟨b363, 1, none⟩)) 2 [3, 4, 5, 6, 7, 8] (by kernel_rfl) rfl rfl (yi_run rfl (fun w hst => x_field rfl Try.underlying29 rfl Try.sizeOf27 rfl)) ?_
              refine ws_q (v := .int .u64 a0.ID.Session) 3 [4, 5, 6, 7, 8] (by kernel_rfl) rfl rfl (yi_run rfl (fun w hst => x_load rfl Try.isAgg27 (hst.bc2 rfl))) ?_
              refine ws_q (v := .pointer (some ⟨b363, 1, none⟩)) 5 [4, 6, 7, 8] (by kernel_rfl) rfl rfl (yi_run rfl (fun w hst => x_field rfl Try.underlying45 rfl Try.sizeOf29 rfl)) ?_
              refine ws_q (v := .pointer (some ⟨b363, 2, none⟩)) 6 [4, 7, 8] (by kernel_rfl) rfl rfl (yi_run rfl (fun w hst => x_field rfl Try.underlying29 rfl Try.sizeOf27 rfl)) ?_
              refine ws_q (v := .int .u64 a0.ID.Seq) 7 [4, 8] (by kernel_rfl) rfl rfl (yi_run rfl (fun w hst => x_load rfl Try.isAgg27 (hst.bc2 rfl))) ?_
              refine ws_e1 4 (by kernel_rfl) ?_
              refine nxe [8] (by kernel_rfl) rfl rfl ?_
              clear hst
              intro w hst
              obtain ⟨t609, ht610, hm⟩ := bind_some hm
              refine we_call rfl (x_call Try.call27 rfl (vs := [.pointer (some ⟨b370, 0, none⟩), .int .u64 a0.ID.Session, .int .i64 (8:Int)]) rfl) ?_
              refine (octet_Writer_Num_ref hst.to1 ht610).mono ?_
              rintro _ w611 ⟨rfl, hst⟩
              refine ⟨_, rfl, ?_⟩
              replace hst := hst.of1
              refine ws_next (pend' := [(7, .int .u64 a0.ID.Seq), (6, .pointer (some ⟨b363, 2, none⟩)), (5, .pointer (some ⟨b363, 1, none⟩))]) hst (by kernel_rfl) (pk_cons rfl (yi_run rfl (fun w hst => x_load rfl Try.isAgg27 (hst.bc2 rfl))) (pk_cons rfl (yi_run rfl (fun w hst => x_field rfl Try.underlying29 rfl Try.sizeOf27 rfl)) (pk_cons rfl (yi_run rfl (fun w hst => x_field rfl Try.underlying45 rfl Try.sizeOf29 rfl)) pk_nil))) ?_
              refine ws_e1 8 (by kernel_rfl) ?_
              refine nxe [] (by kernel_rfl) rfl rfl ?_
              clear hst
              intro w hst
              obtain ⟨t614, ht615, hm⟩ := bind_some hm
              refine we_call rfl (x_call Try.call27 rfl (vs := [.pointer (some ⟨b370, 0, none⟩), .int .u64 a0.ID.Seq, .int .i64 (8:Int)]) rfl) ?_
              refine (octet_Writer_Num_ref hst.to1 ht615).mono ?_
              rintro _ w616 ⟨rfl, hst⟩
              refine ⟨_, rfl, ?_⟩
              replace hst := hst.of1
              refine ws_next (pend' := []) hst (by kernel_rfl) pk_nil ?_
              refine ws_nil ?_
              intro w hst
              refine post_end (vs := []) Try.results28 rvs_nil ?_
              replace hst := hst.pull1
              replace hst := hst.pull1
              replace hst := hst.pull2
              replace hst := hst.keep3
              obtain rfl := some_inj hm
              exact ⟨t614, rfl, rfl, hst⟩
            clear hst
            rintro _ w623 ⟨z619, rfl, rfl, hst⟩
            refine ⟨_, rfl, ?_⟩
            try dsimp only at hm
            refine wl_nil ?_
            refine blk_n ?_
            refine then_n ?_
            refine wp_seq ?_
            refine wp_region_lit ?_
            refine wl_val (v := .pointer (some ⟨b370, 0, none⟩)) rfl rfl (x_load rfl Try.isAgg56 (hst.bc2 rfl)) ?_
            replace hst := hst.pull1
            obtain ⟨t624, ht625, hm⟩ := bind_some hm
            refine wl_call rfl rfl (x_call Try.call14 rfl (vs := [.pointer (some ⟨b370, 0, none⟩)]) rfl) ?_
            refine (octet_Writer_Done_ref hst.to1 ht625).mono ?_
            rintro _ w626 ⟨v629, rfl, hst⟩
            refine ⟨_, rfl, ?_⟩
            replace hst := hst.of1
            refine wl_val (v := v629) rfl rfl rfl ?_
            refine wl_nil ?_
            refine then_n ?_
            refine wp_ret ?_
            obtain rfl := some_inj hm
            refine post_ret (vs := [v629]) Try.results10 (rvs_cons (rv_tmp rfl) rvs_nil) ?_
            exact ⟨v629, rfl, hst.keep1⟩
          · skip
            replace hm := bif_f hc608 hm
            refine wp_iff (congrArg Value.bool hc608) ?_
            refine wp_seq ?_
            refine wp_region_lit ?_
            refine wl_val (v := .bool (a0.Kind == (6:Int))) rfl rfl rfl ?_
            refine wl_val (v := .bool (a0.Kind == (6:Int))) rfl rfl rfl ?_
            refine wl_nil ?_
            refine then_n ?_
            refine bsplit (a0.Kind == (6:Int)) (fun hc631 => ?_) (fun hc631 => ?_)
            · skip
              replace hm := bif_t hc631 hm
              refine wp_ift (congrArg Value.bool hc631) ?_
              refine wp_seq ?_
              refine wp_region_lit ?_
              refine wl_val (v := .pointer (some ⟨b370, 0, none⟩)) rfl rfl (x_load rfl Try.isAgg56 (hst.bc1 rfl)) ?_
              refine wl_val (v := .pointer (some ⟨b363, 21, none⟩)) rfl rfl (x_field rfl Try.underlying45 rfl Try.sizeOf43 rfl) ?_
              refine wl_val (v := .agg #[.int .u64 a0.Rule.ID, .int .i64 a0.Rule.From, .int .i64 a0.Rule.To, .float .f64 a0.Rule.Lo, .float .f64 a0.Rule.Hi, .int .u64 a0.Rule.Authority, .int .i64 a0.Rule.Quota]) rfl rfl (x_loadN (cs := [.int .u64 a0.Rule.ID, .int .i64 a0.Rule.From, .int .i64 a0.Rule.To, .float .f64 a0.Rule.Lo, .float .f64 a0.Rule.Hi, .int .u64 a0.Rule.Authority, .int .i64 a0.Rule.Quota]) rfl Try.isAgg43 Try.sizeOf43 (hst.bcs2 21 rfl)) ?_
              obtain ⟨t632, ht633, hm⟩ := bind_some hm
              refine wl_call rfl rfl (x_call Try.call31 rfl (vs := [.pointer (some ⟨b370, 0, none⟩), .agg #[.int .u64 a0.Rule.ID, .int .i64 a0.Rule.From, .int .i64 a0.Rule.To, .float .f64 a0.Rule.Lo, .float .f64 a0.Rule.Hi, .int .u64 a0.Rule.Authority, .int .i64 a0.Rule.Quota]]) rfl) ?_
              refine (command_layRule_ref hst.to1 ht633).mono ?_
              rintro _ w634 ⟨rfl, hst⟩
              refine ⟨_, rfl, ?_⟩
              replace hst := hst.of1
              refine wl_nil ?_
              refine then_n ?_
              refine wp_region_lit ?_
              refine wl_val (v := .pointer (some ⟨b370, 0, none⟩)) rfl rfl (x_load rfl Try.isAgg56 (hst.bc1 rfl)) ?_
              refine wl_val (v := .pointer (some ⟨b363, 28, none⟩)) rfl rfl (x_field rfl Try.underlying45 rfl Try.sizeOf4 rfl) ?_
              refine wl_val (v := .bool a0.On) rfl rfl (x_load rfl Try.isAgg4 (hst.bc2 rfl)) ?_
              obtain ⟨t637, ht638, hm⟩ := bind_some hm
              refine wl_call rfl rfl (x_call Try.call32 rfl (vs := [.pointer (some ⟨b370, 0, none⟩), .bool a0.On]) rfl) ?_
              refine (octet_Writer_Flag_ref hst.to1 ht638).mono ?_
              rintro _ w639 ⟨rfl, hst⟩
              refine ⟨_, rfl, ?_⟩
              replace hst := hst.of1
              refine wl_nil ?_
              refine blk_n ?_
              refine then_n ?_
              refine wp_seq ?_
              refine wp_region_lit ?_
              refine wl_val (v := .pointer (some ⟨b370, 0, none⟩)) rfl rfl (x_load rfl Try.isAgg56 (hst.bc1 rfl)) ?_
              obtain ⟨t642, ht643, hm⟩ := bind_some hm
              refine wl_call rfl rfl (x_call Try.call14 rfl (vs := [.pointer (some ⟨b370, 0, none⟩)]) rfl) ?_
              refine (octet_Writer_Done_ref hst.to1 ht643).mono ?_
              rintro _ w644 ⟨v647, rfl, hst⟩
              refine ⟨_, rfl, ?_⟩
              replace hst := hst.of1
              refine wl_val (v := v647) rfl rfl rfl ?_
              refine wl_nil ?_
              refine then_n ?_
              refine wp_ret ?_
              obtain rfl := some_inj hm
              refine post_ret (vs := [v647]) Try.results10 (rvs_cons (rv_tmp rfl) rvs_nil) ?_
              exact ⟨v647, rfl, hst.keep1⟩
            · skip
              replace hm := bif_f hc631 hm
              refine wp_iff (congrArg Value.bool hc631) ?_
              refine wp_seq ?_
              refine wp_region_lit ?_
              refine wl_val (v := .bool (a0.Kind == (7:Int))) rfl rfl rfl ?_
              refine wl_val (v := .bool (a0.Kind == (7:Int))) rfl rfl rfl ?_
              refine wl_nil ?_
              refine then_n ?_
              refine bsplit (a0.Kind == (7:Int)) (fun hc649 => ?_) (fun hc649 => ?_)
              · skip
                replace hm := bif_t hc649 hm
                refine wp_ift (congrArg Value.bool hc649) ?_
                refine wp_seq ?_
                refine wp_region_lit ?_
                refine wl_val (v := .func (.func 28) #[] #[.pointer (some ⟨b376, 0, none⟩), .pointer (some ⟨b363, 0, none⟩)]) rfl rfl rfl ?_
                obtain ⟨y662, hq663, hm⟩ := bind_some hm
                refine wl_call rfl rfl (x_callv Try.call28 (caps := [.pointer (some ⟨b376, 0, none⟩), .pointer (some ⟨b363, 0, none⟩)]) rfl (vs := []) rfl) ?_
                refine Calls.mono (show Calls Try.prog 28 #[.pointer (some ⟨b376, 0, none⟩), .pointer (some ⟨b363, 0, none⟩)] _ (fun e w' => ∃ (z660 : octet_Writer), y662 = z660 ∧ e = .returned (.tuple #[]) ∧ St w0 w' I [cells b363 [.int .u8 a0.Kind, .int .u64 a0.ID.Session, .int .u64 a0.ID.Seq, .int .u64 a0.Epoch, .int .u64 a0.Index, .int .i64 a0.E, .int .u64 a0.Hold.ID.Session, .int .u64 a0.Hold.ID.Seq, .int .u64 a0.Hold.Epoch, r0_0, r0_1, r0_2, r0_3, r0_4, .int .i64 a0.R.E, .int .u64 a0.R.Epoch, .int .u64 a0.R.Index, r0_5, r0_6, .int .u64 a0.Shards, r0_7, .int .u64 a0.Rule.ID, .int .i64 a0.Rule.From, .int .i64 a0.Rule.To, .float .f64 a0.Rule.Lo, .float .f64 a0.Rule.Hi, .int .u64 a0.Rule.Authority, .int .i64 a0.Rule.Quota, .bool a0.On], at_octet_Writer (.pointer (some ⟨b370, 0, none⟩)) z660, cells b376 [.pointer (some ⟨b370, 0, none⟩)]] R) from ?_) ?_
                · skip
                  clear hm; have hm := hq663
                  refine calls_start (args := [.pointer (some ⟨b376, 0, none⟩), .pointer (some ⟨b363, 0, none⟩)]) Try.func28 rfl Try.ntmps28 (Nat.le_of_ble_eq_true rfl) ?_
                  refine wp_region_St hst 9 [0, 1, 2, 3, 4, 5, 6, 7, 8] [0, 0, 2, 6, 15, 0, 32, 96, 255] [] rfl (by kernel_rfl) (by kernel_rfl) Try.mixed (by kernel_rfl) ?_
                  refine ws_q (v := .pointer (some ⟨b370, 0, none⟩)) 0 [1, 2, 3, 4, 5, 6, 7, 8] (by kernel_rfl) rfl rfl (yi_run rfl (fun w hst => x_load rfl Try.isAgg56 (hst.bc1 rfl))) ?_
                  refine ws_q (v := .pointer (some ⟨b363, 1, none⟩)) 1 [2, 3, 4, 5, 6, 7, 8] (by kernel_rfl) rfl rfl (yi_run rfl (fun w hst => x_field rfl Try.underlying45 rfl Try.sizeOf29 rfl)) ?_
                  refine ws_q (v := .pointer (some ⟨b363, 1, none⟩)) 2 [3, 4, 5, 6, 7, 8] (by kernel_rfl) rfl rfl (yi_run rfl (fun w hst => x_field rfl Try.underlying29 rfl Try.sizeOf27 rfl)) ?_
                  refine ws_q (v := .int .u64 a0.ID.Session) 3 [4, 5, 6, 7, 8] (by kernel_rfl) rfl rfl (yi_run rfl (fun w hst => x_load rfl Try.isAgg27 (hst.bc2 rfl))) ?_
                  refine ws_q (v := .pointer (some ⟨b363, 1, none⟩)) 5 [4, 6, 7, 8] (by kernel_rfl) rfl rfl (yi_run rfl (fun w hst => x_field rfl Try.underlying45 rfl Try.sizeOf29 rfl)) ?_
                  refine ws_q (v := .pointer (some ⟨b363, 2, none⟩)) 6 [4, 7, 8] (by kernel_rfl) rfl rfl (yi_run rfl (fun w hst => x_field rfl Try.underlying29 rfl Try.sizeOf27 rfl)) ?_
                  refine ws_q (v := .int .u64 a0.ID.Seq) 7 [4, 8] (by kernel_rfl) rfl rfl (yi_run rfl (fun w hst => x_load rfl Try.isAgg27 (hst.bc2 rfl))) ?_
                  refine ws_e1 4 (by kernel_rfl) ?_
                  refine nxe [8] (by kernel_rfl) rfl rfl ?_
                  clear hst
                  intro w hst
                  obtain ⟨t650, ht651, hm⟩ := bind_some hm
                  refine we_call rfl (x_call Try.call27 rfl (vs := [.pointer (some ⟨b370, 0, none⟩), .int .u64 a0.ID.Session, .int .i64 (8:Int)]) rfl) ?_
                  refine (octet_Writer_Num_ref hst.to1 ht651).mono ?_
                  rintro _ w652 ⟨rfl, hst⟩
                  refine ⟨_, rfl, ?_⟩
                  replace hst := hst.of1
                  refine ws_next (pend' := [(7, .int .u64 a0.ID.Seq), (6, .pointer (some ⟨b363, 2, none⟩)), (5, .pointer (some ⟨b363, 1, none⟩))]) hst (by kernel_rfl) (pk_cons rfl (yi_run rfl (fun w hst => x_load rfl Try.isAgg27 (hst.bc2 rfl))) (pk_cons rfl (yi_run rfl (fun w hst => x_field rfl Try.underlying29 rfl Try.sizeOf27 rfl)) (pk_cons rfl (yi_run rfl (fun w hst => x_field rfl Try.underlying45 rfl Try.sizeOf29 rfl)) pk_nil))) ?_
                  refine ws_e1 8 (by kernel_rfl) ?_
                  refine nxe [] (by kernel_rfl) rfl rfl ?_
                  clear hst
                  intro w hst
                  obtain ⟨t655, ht656, hm⟩ := bind_some hm
                  refine we_call rfl (x_call Try.call27 rfl (vs := [.pointer (some ⟨b370, 0, none⟩), .int .u64 a0.ID.Seq, .int .i64 (8:Int)]) rfl) ?_
                  refine (octet_Writer_Num_ref hst.to1 ht656).mono ?_
                  rintro _ w657 ⟨rfl, hst⟩
                  refine ⟨_, rfl, ?_⟩
                  replace hst := hst.of1
                  refine ws_next (pend' := []) hst (by kernel_rfl) pk_nil ?_
                  refine ws_nil ?_
                  intro w hst
                  refine post_end (vs := []) Try.results28 rvs_nil ?_
                  replace hst := hst.pull1
                  replace hst := hst.pull1
                  replace hst := hst.pull2
                  replace hst := hst.keep3
                  obtain rfl := some_inj hm
                  exact ⟨t655, rfl, rfl, hst⟩
                clear hst
                rintro _ w664 ⟨z660, rfl, rfl, hst⟩
                refine ⟨_, rfl, ?_⟩
                try dsimp only at hm
                refine wl_nil ?_
                refine then_n ?_
                refine wp_seq ?_
                refine wp_region_lit ?_
                refine wl_val (v := .pointer (some ⟨b370, 0, none⟩)) rfl rfl (x_load rfl Try.isAgg56 (hst.bc2 rfl)) ?_
                refine wl_val (v := .pointer (some ⟨b363, 3, none⟩)) rfl rfl (x_field rfl Try.underlying45 rfl Try.sizeOf27 rfl) ?_
                refine wl_val (v := .int .u64 a0.Epoch) rfl rfl (x_load rfl Try.isAgg27 (hst.bc0 rfl)) ?_
                replace hst := hst.pull1
                obtain ⟨t665, ht666, hm⟩ := bind_some hm
                refine wl_call rfl rfl (x_call Try.call27 rfl (vs := [.pointer (some ⟨b370, 0, none⟩), .int .u64 a0.Epoch, .int .i64 (8:Int)]) rfl) ?_
                refine (octet_Writer_Num_ref hst.to1 ht666).mono ?_
                rintro _ w667 ⟨rfl, hst⟩
                refine ⟨_, rfl, ?_⟩
                replace hst := hst.of1
                refine wl_nil ?_
                refine then_n ?_
                refine wp_seq ?_
                refine wp_region_lit ?_
                refine wl_val (v := .pointer (some ⟨b370, 0, none⟩)) rfl rfl (x_load rfl Try.isAgg56 (hst.bc2 rfl)) ?_
                refine wl_val (v := .pointer (some ⟨b363, 21, none⟩)) rfl rfl (x_field rfl Try.underlying45 rfl Try.sizeOf43 rfl) ?_
                refine wl_val (v := .agg #[.int .u64 a0.Rule.ID, .int .i64 a0.Rule.From, .int .i64 a0.Rule.To, .float .f64 a0.Rule.Lo, .float .f64 a0.Rule.Hi, .int .u64 a0.Rule.Authority, .int .i64 a0.Rule.Quota]) rfl rfl (x_loadN (cs := [.int .u64 a0.Rule.ID, .int .i64 a0.Rule.From, .int .i64 a0.Rule.To, .float .f64 a0.Rule.Lo, .float .f64 a0.Rule.Hi, .int .u64 a0.Rule.Authority, .int .i64 a0.Rule.Quota]) rfl Try.isAgg43 Try.sizeOf43 (hst.bcs1 21 rfl)) ?_
                obtain ⟨t670, ht671, hm⟩ := bind_some hm
                refine wl_call rfl rfl (x_call Try.call31 rfl (vs := [.pointer (some ⟨b370, 0, none⟩), .agg #[.int .u64 a0.Rule.ID, .int .i64 a0.Rule.From, .int .i64 a0.Rule.To, .float .f64 a0.Rule.Lo, .float .f64 a0.Rule.Hi, .int .u64 a0.Rule.Authority, .int .i64 a0.Rule.Quota]]) rfl) ?_
                refine (command_layRule_ref hst.to1 ht671).mono ?_
                rintro _ w672 ⟨rfl, hst⟩
                refine ⟨_, rfl, ?_⟩
                replace hst := hst.of1
                refine wl_nil ?_
                refine then_n ?_
                refine wp_seq ?_
                refine wp_region_lit ?_
                refine wl_val (v := .pointer (some ⟨b370, 0, none⟩)) rfl rfl (x_load rfl Try.isAgg56 (hst.bc2 rfl)) ?_
                refine wl_val (v := .pointer (some ⟨b363, 13, none⟩)) rfl rfl (x_field rfl Try.underlying45 rfl Try.sizeOf35 rfl) ?_
                refine wl_val (v := r0_4) rfl rfl (x_load rfl Try.isAgg35 (hst.bc1 rfl)) ?_
                obtain ⟨t675, ht676, hm⟩ := bind_some hm
                refine wl_call rfl rfl (x_call Try.call30 rfl (vs := [.pointer (some ⟨b370, 0, none⟩), r0_4]) rfl) ?_
                refine (command_writes_ref (f0_4.mono (rd_weak _)) hst.to1 ht676).mono ?_
                rintro _ w677 ⟨rfl, hst⟩
                refine ⟨_, rfl, ?_⟩
                replace hst := hst.of1
                refine wl_nil ?_
                refine then_n ?_
                refine wp_region_lit ?_
                refine wl_val (v := .pointer (some ⟨b370, 0, none⟩)) rfl rfl (x_load rfl Try.isAgg56 (hst.bc2 rfl)) ?_
                refine wl_val (v := .pointer (some ⟨b363, 14, none⟩)) rfl rfl (x_field rfl Try.underlying45 rfl Try.sizeOf39 rfl) ?_
                refine wl_val (v := .agg #[.int .i64 a0.R.E, .int .u64 a0.R.Epoch, .int .u64 a0.R.Index, r0_5, r0_6]) rfl rfl (x_loadN (cs := [.int .i64 a0.R.E, .int .u64 a0.R.Epoch, .int .u64 a0.R.Index, r0_5, r0_6]) rfl Try.isAgg39 Try.sizeOf39 (hst.bcs1 14 rfl)) ?_
                obtain ⟨t680, ht681, hm⟩ := bind_some hm
                refine wl_call rfl rfl (x_call Try.call13 rfl (vs := [.pointer (some ⟨b370, 0, none⟩), .agg #[.int .i64 a0.R.E, .int .u64 a0.R.Epoch, .int .u64 a0.R.Index, r0_5, r0_6]]) rfl) ?_
                refine (command_LayReply_ref (f0_5.mono (rd_weak _)) (f0_6.mono (rd_weak _)) hst.to1 ht681).mono ?_
                rintro _ w682 ⟨rfl, hst⟩
                refine ⟨_, rfl, ?_⟩
                replace hst := hst.of1
                refine wl_nil ?_
                refine blk_n ?_
                refine then_n ?_
                refine wp_seq ?_
                refine wp_region_lit ?_
                refine wl_val (v := .pointer (some ⟨b370, 0, none⟩)) rfl rfl (x_load rfl Try.isAgg56 (hst.bc2 rfl)) ?_
                obtain ⟨t685, ht686, hm⟩ := bind_some hm
                refine wl_call rfl rfl (x_call Try.call14 rfl (vs := [.pointer (some ⟨b370, 0, none⟩)]) rfl) ?_
                refine (octet_Writer_Done_ref hst.to1 ht686).mono ?_
                rintro _ w687 ⟨v690, rfl, hst⟩
                refine ⟨_, rfl, ?_⟩
                replace hst := hst.of1
                refine wl_val (v := v690) rfl rfl rfl ?_
                refine wl_nil ?_
                refine then_n ?_
                refine wp_ret ?_
                obtain rfl := some_inj hm
                refine post_ret (vs := [v690]) Try.results10 (rvs_cons (rv_tmp rfl) rvs_nil) ?_
                exact ⟨v690, rfl, hst.keep1⟩
              · skip
                replace hm := bif_f hc649 hm
                refine wp_iff (congrArg Value.bool hc649) ?_
                refine wp_skip ?_
                refine blk_n ?_
                refine then_n ?_
                refine wp_seq ?_
                refine wp_region_lit ?_
                refine wl_val (v := .pointer (some ⟨b370, 0, none⟩)) rfl rfl (x_load rfl Try.isAgg56 (hst.bc1 rfl)) ?_
                obtain ⟨t692, ht693, hm⟩ := bind_some hm
                refine wl_call rfl rfl (x_call Try.call14 rfl (vs := [.pointer (some ⟨b370, 0, none⟩)]) rfl) ?_
                refine (octet_Writer_Done_ref hst.to1 ht693).mono ?_
                rintro _ w694 ⟨v697, rfl, hst⟩
                refine ⟨_, rfl, ?_⟩
                replace hst := hst.of1
                refine wl_val (v := v697) rfl rfl rfl ?_
                refine wl_nil ?_
                refine then_n ?_
                refine wp_ret ?_
                obtain rfl := some_inj hm
                refine post_ret (vs := [v697]) Try.results10 (rvs_cons (rv_tmp rfl) rvs_nil) ?_
                exact ⟨v697, rfl, hst.keep1⟩

theorem law13_awake_ref {w0 w : World} {I : HL} {R : SP}   (hst : St w0 w I [] R) {r : (Bool)} (hm : law13_awake = some r) :
    Calls Try.prog 8 #[] w fun e w' => e = .returned (.bool r) ∧ St w0 w' I [] R := by
  unfold law13_awake at hm
  refine calls_start (args := []) Try.func8 rfl Try.ntmps8 (Nat.le_of_ble_eq_true rfl) ?_
  refine wp_seq ?_
  refine wp_region_lit ?_
  refine wl_val (v := .bool false) rfl rfl rfl ?_
  refine wl_nil ?_
  refine then_n ?_
  refine wp_seq ?_
  refine wp_region_lit ?_
  refine wl_val (v := .agg #[.int .u8 (1:Int), .int .u64 (0:Int), .int .u64 (0:Int), .int .u64 (3:Int), .int .u64 (0:Int), .int .i64 (0:Int), .int .u64 (0:Int), .int .u64 (0:Int), .int .u64 (0:Int), (.slice none 0 0), (.slice none 0 0), (.slice none 0 0), (.slice none 0 0), (.slice none 0 0), .int .i64 (0:Int), .int .u64 (0:Int), .int .u64 (0:Int), (.slice none 0 0), (.slice none 0 0), .int .u64 (0:Int), (.slice none 0 0), .int .u64 (0:Int), .int .i64 (0:Int), .int .i64 (0:Int), .float .f64 (0:Nat), .float .f64 (0:Nat), .int .u64 (0:Int), .int .i64 (0:Int), .bool false]) rfl rfl (by kernel_rfl) ?_
  have f35 : Ro tyF64 I (.slice none 0 0) [] := ro_nil
  have f36 : Ro tyF2 I (.slice none 0 0) [] := ro_nil
  have f37 : Ro tyF64 I (.slice none 0 0) [] := ro_nil
  have f38 : Ro (tyInt .u8) I (.slice none 0 0) [] := ro_nil
  have f39 : Ro ty_api_Write I (.slice none 0 0) [] := ro_nil
  have f40 : Ro ty_api_Got I (.slice none 0 0) [] := ro_nil
  have f41 : Ro (tySl ty_api_Pair) I (.slice none 0 0) [] := ro_nil
  have f42 : Ro ty_api_Part I (.slice none 0 0) [] := ro_nil
  obtain ⟨t43, ht44, hm⟩ := bind_some hm
  refine wl_call rfl rfl (x_call Try.call10 rfl (vs := [.agg #[.int .u8 (1:Int), .int .u64 (0:Int), .int .u64 (0:Int), .int .u64 (3:Int), .int .u64 (0:Int), .int .i64 (0:Int), .int .u64 (0:Int), .int .u64 (0:Int), .int .u64 (0:Int), (.slice none 0 0), (.slice none 0 0), (.slice none 0 0), (.slice none 0 0), (.slice none 0 0), .int .i64 (0:Int), .int .u64 (0:Int), .int .u64 (0:Int), (.slice none 0 0), (.slice none 0 0), .int .u64 (0:Int), (.slice none 0 0), .int .u64 (0:Int), .int .i64 (0:Int), .int .i64 (0:Int), .float .f64 (0:Nat), .float .f64 (0:Nat), .int .u64 (0:Int), .int .i64 (0:Int), .bool false]]) rfl) ?_
  refine (command_Encode_ref (f35.mono ro_rd) (f36.mono ro_rd) (f37.mono ro_rd) (f38.mono ro_rd) (f39.mono ro_rd) (f40.mono ro_rd) (f41.mono ro_rd) (f42.mono ro_rd) hst.to0 ht44).mono ?_
  rintro _ w45 ⟨v48, rfl, hst⟩
  refine ⟨_, rfl, ?_⟩
  replace hst := hst.of1
  refine wl_val (v := v48) rfl rfl rfl ?_
  refine wl_nil ?_
  refine then_n ?_
  refine wp_seq ?_
  refine wp_region_lit ?_
  refine wl_val (v := v48) rfl rfl rfl ?_
  refine wl_val (v := .string (toStr t43)) rfl rfl (x_tostr Try.underlying22 Try.underlying9 Try.underlying5 rfl hst.src0) ?_
  refine wl_val (v := .bool (sEq (toStr t43) (ByteArray.mk #[1, 3, 0, 0, 0, 0, 0, 0, 0]))) rfl rfl (by kernel_rfl) ?_
  refine wl_val (v := .bool (sEq (toStr t43) (ByteArray.mk #[1, 3, 0, 0, 0, 0, 0, 0, 0]))) rfl rfl rfl ?_
  refine bsplit (sEq (toStr t43) (ByteArray.mk #[1, 3, 0, 0, 0, 0, 0, 0, 0])) (fun hc50 => ?_) (fun hc50 => ?_)
  · skip
    replace hm := bif_t hc50 hm
    refine wl_val (v := .bool true) rfl rfl (x_pick_t hc50 rfl rfl) ?_
    refine wl_val (v := .bool true) rfl rfl rfl ?_
    refine wl_nil ?_
    refine then_n ?_
    refine wp_ret ?_
    obtain rfl := some_inj hm
    refine post_ret (vs := [.bool true]) Try.results8 (rvs_cons (rv_tmp rfl) rvs_nil) ?_
    exact ⟨rfl, hst.keep0⟩
  · skip
    replace hm := bif_f hc50 hm
    refine wl_val (v := .bool false) rfl rfl (x_pick_f hc50 rfl rfl) ?_
    refine wl_val (v := .bool false) rfl rfl rfl ?_
    refine wl_nil ?_
    refine then_n ?_
    refine wp_ret ?_
    obtain rfl := some_inj hm
    refine post_ret (vs := [.bool false]) Try.results8 (rvs_cons (rv_tmp rfl) rvs_nil) ?_
    exact ⟨rfl, hst.keep0⟩

theorem octet_Read_ref {w0 w : World} {I : HL} {R : SP} {a0 : (List Int)} {r0_0 : Value} (f0_0 : Ro (tyInt .u8) I r0_0 a0) (hst : St w0 w I [] R) {r : (octet_Reader)} (hm : octet_Read a0 = some r) :
    Calls Try.prog 15 #[r0_0] w fun e w' => ∃ (q0 : Value), e = .returned (q0) ∧ St w0 w' I [at_octet_Reader q0 r] R := by
  unfold octet_Read at hm
  refine calls_start (args := [r0_0]) Try.func15 rfl Try.ntmps15 (Nat.le_of_ble_eq_true rfl) ?_
  refine wp_seq ?_
  refine wp_region_lit ?_
  refine wl_val (v := .pointer none) rfl rfl rfl ?_
  refine wl_nil ?_
  refine then_n ?_
  refine wp_seq ?_
  refine wp_region_lit ?_
  refine wl_val (v := r0_0) rfl rfl rfl ?_
  refine wl_val (v := .agg #[r0_0, .bool false]) rfl rfl (by obtain ⟨_, _, hv_, _⟩ := (ro_sliceV f0_0); rw [hv_]; kernel_rfl) ?_
  obtain ⟨b49, w50, ew51, eb52, hst⟩ := hst.box [r0_0, .bool false] 95
  refine wl_run (v := .pointer (some ⟨b49, 0, none⟩)) (w' := w50) rfl rfl (x_al (by kernel_rfl) ew51 eb52) ?_
  refine wl_val (v := .pointer (some ⟨b49, 0, none⟩)) rfl rfl rfl ?_
  refine wl_nil ?_
  refine then_n ?_
  refine wp_ret ?_
  replace hst := at_octet_Reader_close (pv := .pointer (some ⟨b49, 0, none⟩)) (x := ({ p := a0, bad := false } : octet_Reader)) hst ⟨rfl, f0_0⟩
  obtain rfl := some_inj hm
  refine post_ret (vs := [.pointer (some ⟨b49, 0, none⟩)]) Try.results15 (rvs_cons (rv_tmp rfl) rvs_nil) ?_
  exact ⟨.pointer (some ⟨b49, 0, none⟩), rfl, hst.keep1⟩

theorem octet_Reader_spoil_ref {w0 w : World} {I : HL} {R : SP} {a0 : octet_Reader} {p0 : Value}  (hst : St w0 w I [at_octet_Reader p0 a0] R) {r : (octet_Reader)} (hm : octet_Reader_spoil a0 = some r) :
    Calls Try.prog 66 #[p0] w fun e w' => e = .returned (.tuple #[]) ∧ St w0 w' I [at_octet_Reader p0 r] R := by
  unfold octet_Reader_spoil at hm
  refine calls_start (args := [p0]) Try.func66 rfl Try.ntmps66 (Nat.le_of_ble_eq_true rfl) ?_
  refine wp_seq ?_
  refine wp_region_lit ?_
  refine wl_val (v := p0) rfl rfl rfl ?_
  obtain ⟨b72, v73, ⟨rfl, f75⟩, hst'⟩ := at_octet_Reader_open hst
  clear hst
  have hst := hst'
  clear hst'
  refine wl_val (v := .bool true) rfl rfl (by kernel_rfl) ?_
  refine wl_nil ?_
  refine then_n ?_
  refine wp_ift rfl ?_
  refine wp_region_lit ?_
  refine wl_val (v := .pointer (some ⟨b72, 0, none⟩)) rfl rfl rfl ?_
  refine wl_val (v := .pointer (some ⟨b72, 0, none⟩)) rfl rfl rfl ?_
  refine wl_val (v := .pointer (some ⟨b72, 1, none⟩)) rfl rfl (x_field rfl Try.underlying95 rfl Try.sizeOf4 rfl) ?_
  obtain ⟨w76, hr77, hst⟩ := hst.boxStore (P := Try.prog) (t := 4) (cs' := [v73, .bool true]) 1 (.bool true) Try.sizeOf4 (Nat.le_of_ble_eq_true rfl) (ones_cons rfl ones_nil) (by kernel_rfl)
  refine wl_unit rfl rfl (x_unit hr77) ?_
  refine wl_nil ?_
  replace hst := at_octet_Reader_close (pv := .pointer (some ⟨b72, 0, none⟩)) (x := ({ p := a0.p, bad := true } : octet_Reader)) hst ⟨rfl, f75⟩
  obtain rfl := some_inj hm
  refine post_end (vs := []) Try.results66 rvs_nil ?_
  exact ⟨rfl, hst.keep1⟩

theorem octet_Reader_Num_ref {w0 w : World} {I : HL} {R : SP} {a0 : octet_Reader} {p0 : Value} {a1 : Int}  (hst : St w0 w I [at_octet_Reader p0 a0] R) {r : (Int × octet_Reader)} (hm : octet_Reader_Num a0 a1 = some r) :
    Calls Try.prog 40 #[p0, .int .i64 a1] w fun e w' => e = .returned (.int .u64 r.1) ∧ St w0 w' I [at_octet_Reader p0 r.2] R := by
  unfold octet_Reader_Num at hm
  refine calls_start (args := [p0, .int .i64 a1]) Try.func40 rfl Try.ntmps40 (Nat.le_of_ble_eq_true rfl) ?_
  refine wp_seq ?_
  refine wp_region_lit ?_
  refine wl_val (v := .int .u64 (0:Int)) rfl rfl rfl ?_
  refine wl_nil ?_
  refine then_n ?_
  refine wp_seq ?_
  refine wp_seq ?_
  refine wp_region_lit ?_
  refine wl_val (v := p0) rfl rfl rfl ?_
  obtain ⟨b149, v150, ⟨rfl, f152⟩, hst'⟩ := at_octet_Reader_open hst
  clear hst
  have hst := hst'
  clear hst'
  refine wl_val (v := .bool false) rfl rfl (by kernel_rfl) ?_
  refine wl_val (v := .bool false) rfl rfl rfl ?_
  refine wl_val (v := .pointer (some ⟨b149, 0, none⟩)) ((wanted_eq rfl rfl rfl rfl).trans rfl) rfl rfl ?_
  refine wl_val (v := .pointer (some ⟨b149, 0, none⟩)) ((wanted_eq rfl rfl rfl rfl).trans rfl) rfl rfl ?_
  refine wl_val (v := .pointer (some ⟨b149, 1, none⟩)) ((wanted_eq rfl rfl rfl rfl).trans rfl) rfl (x_field rfl Try.underlying95 rfl Try.sizeOf4 rfl) ?_
  refine wl_val (v := .bool a0.bad) ((wanted_eq rfl rfl rfl rfl).trans rfl) rfl (x_load rfl Try.isAgg4 (hst.bc0 rfl)) ?_
  refine wl_val (v := .bool a0.bad) rfl rfl (x_pick_f rfl rfl rfl) ?_
  refine wl_val (v := .bool a0.bad) rfl rfl rfl ?_
  refine bsplit a0.bad (fun hc153 => ?_) (fun hc153 => ?_)
  · skip
    replace hm := bif_t hc153 hm
    refine wl_off ((wanted_eq rfl rfl rfl (congrArg Value.bool hc153)).trans rfl) rfl ?_
    refine wl_off ((wanted_eq rfl rfl rfl (congrArg Value.bool hc153)).trans rfl) rfl ?_
    refine wl_val (v := .bool true) rfl rfl (x_pick_t hc153 rfl rfl) ?_
    refine wl_val (v := .bool true) rfl rfl rfl ?_
    refine wl_off ((wanted_eq rfl rfl rfl rfl).trans rfl) rfl ?_
    refine wl_off ((wanted_eq rfl rfl rfl rfl).trans rfl) rfl ?_
    refine wl_off ((wanted_eq rfl rfl rfl rfl).trans rfl) rfl ?_
    refine wl_off ((wanted_eq rfl rfl rfl rfl).trans rfl) rfl ?_
    refine wl_off ((wanted_eq rfl rfl rfl rfl).trans rfl) rfl ?_
    refine wl_off ((wanted_eq rfl rfl rfl rfl).trans rfl) rfl ?_
    refine wl_off ((wanted_eq rfl rfl rfl rfl).trans rfl) rfl ?_
    refine wl_val (v := .bool true) rfl rfl (x_pick_t rfl rfl rfl) ?_
    refine wl_nil ?_
    refine then_n ?_
    refine wp_ift rfl ?_
    refine wp_seq ?_
    refine wp_region_lit ?_
    refine wl_val (v := .pointer (some ⟨b149, 0, none⟩)) rfl rfl rfl ?_
    replace hst := at_octet_Reader_close (pv := .pointer (some ⟨b149, 0, none⟩)) (x := a0) hst ⟨rfl, f152⟩
    obtain ⟨t154, ht155, hm⟩ := bind_some hm
    refine wl_call rfl rfl (x_call Try.call66 rfl (vs := [.pointer (some ⟨b149, 0, none⟩)]) rfl) ?_
    refine (octet_Reader_spoil_ref hst.to1 ht155).mono ?_
    rintro _ w156 ⟨rfl, hst⟩
    refine ⟨_, rfl, ?_⟩
    replace hst := hst.of1
    refine wl_nil ?_
    refine then_n ?_
    refine wp_seq ?_
    refine wp_region_lit ?_
    refine wl_val (v := .int .u64 (0:Int)) rfl rfl rfl ?_
    refine wl_nil ?_
    refine then_n ?_
    refine wp_ret ?_
    refine then_r ?_
    obtain rfl := some_inj hm
    refine post_ret (vs := [.int .u64 (0:Int)]) Try.results40 (rvs_cons (rv_tmp rfl) rvs_nil) ?_
    exact ⟨rfl, hst.keep1⟩
  · skip
    replace hm := bif_f hc153 hm
    refine wl_val (v := .int .i64 a1) ((wanted_eq rfl rfl rfl (congrArg Value.bool hc153)).trans rfl) rfl rfl ?_
    refine wl_val (v := .bool (decide (a1 < (0:Int)))) ((wanted_eq rfl rfl rfl (congrArg Value.bool hc153)).trans rfl) rfl rfl ?_
    refine wl_val (v := .bool (decide (a1 < (0:Int)))) rfl rfl (x_pick_f hc153 rfl rfl) ?_
    refine wl_val (v := .bool (decide (a1 < (0:Int)))) rfl rfl rfl ?_
    refine bsplit (decide (a1 < (0:Int))) (fun hc159 => ?_) (fun hc159 => ?_)
    · skip
      replace hm := bif_t hc159 hm
      refine wl_off ((wanted_eq rfl rfl rfl (congrArg Value.bool hc159)).trans rfl) rfl ?_
      refine wl_off ((wanted_eq rfl rfl rfl (congrArg Value.bool hc159)).trans rfl) rfl ?_
      refine wl_off ((wanted_eq rfl rfl rfl (congrArg Value.bool hc159)).trans rfl) rfl ?_
      refine wl_off ((wanted_eq rfl rfl rfl (congrArg Value.bool hc159)).trans rfl) rfl ?_
      refine wl_off ((wanted_eq rfl rfl rfl (congrArg Value.bool hc159)).trans rfl) rfl ?_
      refine wl_off ((wanted_eq rfl rfl rfl (congrArg Value.bool hc159)).trans rfl) rfl ?_
      refine wl_off ((wanted_eq rfl rfl rfl (congrArg Value.bool hc159)).trans rfl) rfl ?_
      refine wl_val (v := .bool true) rfl rfl (x_pick_t hc159 rfl rfl) ?_
      refine wl_nil ?_
      refine then_n ?_
      refine wp_ift rfl ?_
      refine wp_seq ?_
      refine wp_region_lit ?_
      refine wl_val (v := .pointer (some ⟨b149, 0, none⟩)) rfl rfl rfl ?_
      replace hst := at_octet_Reader_close (pv := .pointer (some ⟨b149, 0, none⟩)) (x := a0) hst ⟨rfl, f152⟩
      obtain ⟨t160, ht161, hm⟩ := bind_some hm
      refine wl_call rfl rfl (x_call Try.call66 rfl (vs := [.pointer (some ⟨b149, 0, none⟩)]) rfl) ?_
      refine (octet_Reader_spoil_ref hst.to1 ht161).mono ?_
      rintro _ w162 ⟨rfl, hst⟩
      refine ⟨_, rfl, ?_⟩
      replace hst := hst.of1
      refine wl_nil ?_
      refine then_n ?_
      refine wp_seq ?_
      refine wp_region_lit ?_
      refine wl_val (v := .int .u64 (0:Int)) rfl rfl rfl ?_
      refine wl_nil ?_
      refine then_n ?_
      refine wp_ret ?_
      refine then_r ?_
      obtain rfl := some_inj hm
      refine post_ret (vs := [.int .u64 (0:Int)]) Try.results40 (rvs_cons (rv_tmp rfl) rvs_nil) ?_
      exact ⟨rfl, hst.keep1⟩
    · skip
      replace hm := bif_f hc159 hm
      refine wl_val (v := .pointer (some ⟨b149, 0, none⟩)) ((wanted_eq rfl rfl rfl (congrArg Value.bool hc159)).trans rfl) rfl rfl ?_
      refine wl_val (v := .pointer (some ⟨b149, 0, none⟩)) ((wanted_eq rfl rfl rfl (congrArg Value.bool hc159)).trans rfl) rfl rfl ?_
      refine wl_val (v := .pointer (some ⟨b149, 0, none⟩)) ((wanted_eq rfl rfl rfl (congrArg Value.bool hc159)).trans rfl) rfl (x_field rfl Try.underlying95 rfl Try.sizeOf22 rfl) ?_
      refine wl_val (v := v150) ((wanted_eq rfl rfl rfl (congrArg Value.bool hc159)).trans rfl) rfl (x_load rfl Try.isAgg22 (hst.bc0 rfl)) ?_
      refine wl_val (v := .int .i64 ((a0.p).length : Int)) ((wanted_eq rfl rfl rfl (congrArg Value.bool hc159)).trans rfl) rfl (x_len rfl Try.underlying22 (ro_sliceV f152)) ?_
      refine wl_val (v := .int .i64 a1) ((wanted_eq rfl rfl rfl (congrArg Value.bool hc159)).trans rfl) rfl rfl ?_
      refine wl_val (v := .bool (decide (((a0.p).length : Int) < a1))) ((wanted_eq rfl rfl rfl (congrArg Value.bool hc159)).trans rfl) rfl rfl ?_
      refine wl_val (v := .bool (decide (((a0.p).length : Int) < a1))) rfl rfl (x_pick_f hc159 rfl rfl) ?_
      refine wl_nil ?_
      refine then_n ?_
      refine bsplit (decide (((a0.p).length : Int) < a1)) (fun hc165 => ?_) (fun hc165 => ?_)
      · skip
        replace hm := bif_t hc165 hm
        refine wp_ift (congrArg Value.bool hc165) ?_
        refine wp_seq ?_
        refine wp_region_lit ?_
        refine wl_val (v := .pointer (some ⟨b149, 0, none⟩)) rfl rfl rfl ?_
        replace hst := at_octet_Reader_close (pv := .pointer (some ⟨b149, 0, none⟩)) (x := a0) hst ⟨rfl, f152⟩
        obtain ⟨t166, ht167, hm⟩ := bind_some hm
        refine wl_call rfl rfl (x_call Try.call66 rfl (vs := [.pointer (some ⟨b149, 0, none⟩)]) rfl) ?_
        refine (octet_Reader_spoil_ref hst.to1 ht167).mono ?_
        rintro _ w168 ⟨rfl, hst⟩
        refine ⟨_, rfl, ?_⟩
        replace hst := hst.of1
        refine wl_nil ?_
        refine then_n ?_
        refine wp_seq ?_
        refine wp_region_lit ?_
        refine wl_val (v := .int .u64 (0:Int)) rfl rfl rfl ?_
        refine wl_nil ?_
        refine then_n ?_
        refine wp_ret ?_
        refine then_r ?_
        obtain rfl := some_inj hm
        refine post_ret (vs := [.int .u64 (0:Int)]) Try.results40 (rvs_cons (rv_tmp rfl) rvs_nil) ?_
        exact ⟨rfl, hst.keep1⟩
      · skip
        replace hm := bif_f hc165 hm
        refine wp_iff (congrArg Value.bool hc165) ?_
        refine wp_skip ?_
        refine then_n ?_
        refine wp_seq ?_
        refine wp_region_lit ?_
        refine wl_val (v := .int .u64 (0:Int)) rfl rfl rfl ?_
        refine wl_nil ?_
        refine then_n ?_
        obtain ⟨y222, hm, hx223⟩ := bind_some hm
        refine wp_cut (fun a w => ∃ (z219 : Int) (σ220 : Nat → Value), (octet_Reader_Num_j0 a0 a1) z219 = some r ∧ a = Fr 59 (upd (upd (upd σ220 0 (.pointer (some ⟨b149, 0, none⟩))) 1 (.int .i64 a1)) 5 (.int .u64 z219)) ∧ St w0 w I [at_octet_Reader (.pointer (some ⟨b149, 0, none⟩)) a0] R) ?_ ?_
        · skip
          refine wp_seq ?_
          refine wp_region_lit ?_
          refine wl_val (v := .int .i64 a1) rfl rfl rfl ?_
          refine wl_val (v := .int .i64 (if (8:Int) < a1 then (8:Int) else a1)) rfl rfl (by kernel_rfl) ?_
          refine wl_val (v := .int .i64 (0:Int)) rfl rfl rfl ?_
          refine wl_nil ?_
          refine then_n ?_
          refine wp_block ?_
          replace hst := at_octet_Reader_close (pv := .pointer (some ⟨b149, 0, none⟩)) (x := a0) hst ⟨rfl, f152⟩
          obtain ⟨n200, hm⟩ := loopO_some hm
          refine wp_loop_n (fun n a w => ∃ (z197 : Int) (z198 : Int) (σ199 : Nat → Value), loopN (octet_Reader_Num_l1 a1 a0) n (z197, z198) = some y222 ∧ a = Fr 59 (upd (upd (upd (upd (upd σ199 0 (.pointer (some ⟨b149, 0, none⟩))) 1 (.int .i64 a1)) 5 (.int .u64 z198)) 31 (.int .i64 (if (8:Int) < a1 then (8:Int) else a1))) 32 (.int .i64 z197)) ∧ St w0 w I [at_octet_Reader (.pointer (some ⟨b149, 0, none⟩)) a0] R) n200 ⟨(0:Int), (0:Int), _, hm, ((fr_upd (t := 0) (v := .pointer (some ⟨b149, 0, none⟩)) rfl).trans ((fr_upd (t := 1) (v := .int .i64 a1) rfl).trans ((fr_upd (t := 5) (v := .int .u64 (0:Int)) rfl).trans ((fr_upd (t := 31) (v := .int .i64 (if (8:Int) < a1 then (8:Int) else a1)) rfl).trans ((fr_upd (t := 32) (v := .int .i64 (0:Int)) rfl).trans rfl))))), hst⟩ ?_
          rintro n206 _ w201 ⟨z197, z198, σ199, hm, rfl, hst⟩
          obtain ⟨n203, y204, rfl, hm, hx205⟩ := loopN_some hm
          dsimp only [octet_Reader_Num_l1] at hm
          refine wp_seq ?_
          refine wp_region_lit ?_
          refine wl_val (v := .bool (decide (z197 < (if (8:Int) < a1 then (8:Int) else a1)))) rfl rfl rfl ?_
          refine wl_nil ?_
          refine then_n ?_
          refine wp_seq ?_
          refine bsplit (decide (z197 < (if (8:Int) < a1 then (8:Int) else a1))) (fun hc207 => ?_) (fun hc207 => ?_)
          · skip
            replace hm := bif_t hc207 hm
            refine wp_ift (congrArg Value.bool hc207) ?_
            refine wp_skip ?_
            refine then_n ?_
            refine wp_seq ?_
            refine wp_block ?_
            refine wp_seq ?_
            refine wp_region_lit ?_
            refine wl_val (v := .int .i64 z197) rfl rfl rfl ?_
            refine wl_val (v := .int .i64 z197) rfl rfl rfl ?_
            refine wl_nil ?_
            refine then_n ?_
            refine wp_region_lit ?_
            refine wl_val (v := .int .u64 z198) rfl rfl rfl ?_
            refine wl_val (v := .pointer (some ⟨b149, 0, none⟩)) rfl rfl rfl ?_
            obtain ⟨b208, v209, ⟨e212, f211⟩, hst'⟩ := at_octet_Reader_open hst
            clear hst
            have e212 := ptr_inj e212
            subst e212
            have hst := hst'
            clear hst'
            refine wl_val (v := .pointer (some ⟨b149, 0, none⟩)) rfl rfl rfl ?_
            refine wl_val (v := .pointer (some ⟨b149, 0, none⟩)) rfl rfl (x_field rfl Try.underlying95 rfl Try.sizeOf22 rfl) ?_
            refine wl_val (v := v209) rfl rfl (x_load rfl Try.isAgg22 (hst.bc0 rfl)) ?_
            refine wl_val (v := .int .i64 z197) rfl rfl rfl ?_
            obtain ⟨x213, hx214, hm⟩ := bind_some hm
            obtain ⟨h215, h216, hi217⟩ := geto_some hx214
            refine wl_val (v := .pointer (some (eAddr v209 (z197.toNat * 1 + 0)))) rfl rfl (x_index rfl rfl Try.underlying22 Try.sizeOf5 (ro_sliceV f211) h215 h216) ?_
            refine wl_val (v := .int .u8 x213) rfl rfl (x_load rfl Try.isAgg5 (ro_load f211 hst hi217 (by rintro _ rfl; rfl))) ?_
            refine wl_val (v := .int .u64 (IntKind.u64.wrap x213)) rfl rfl (by kernel_rfl) ?_
            refine wl_val (v := .int .i64 z197) rfl rfl rfl ?_
            refine wl_val (v := .int .i64 (IntKind.i64.wrap ((8:Int) * z197))) rfl rfl rfl ?_
            obtain ⟨hg218, hm⟩ := gd_some hm
            refine wl_val (v := .int .u64 (iShl .u64 (IntKind.u64.wrap x213) (IntKind.i64.wrap ((8:Int) * z197)))) rfl rfl (x_shl (of_decide_eq_true hg218) rfl rfl) ?_
            refine wl_val (v := .int .u64 (bOr .u64 z198 (iShl .u64 (IntKind.u64.wrap x213) (IntKind.i64.wrap ((8:Int) * z197))))) rfl rfl rfl ?_
            refine wl_val (v := .int .u64 (bOr .u64 z198 (iShl .u64 (IntKind.u64.wrap x213) (IntKind.i64.wrap ((8:Int) * z197))))) rfl rfl rfl ?_
            refine wl_nil ?_
            refine blk_n ?_
            refine then_n ?_
            refine wp_region_lit ?_
            refine wl_val (v := .int .i64 (IntKind.i64.wrap (z197 + (1:Int)))) rfl rfl rfl ?_
            refine wl_val (v := .int .i64 (IntKind.i64.wrap (z197 + (1:Int)))) rfl rfl rfl ?_
            refine wl_nil ?_
            refine then_n ?_
            replace hst := at_octet_Reader_close (pv := .pointer (some ⟨b149, 0, none⟩)) (x := a0) hst ⟨rfl, f211⟩
            replace hst := hst.keep1
            obtain rfl := some_inj hm
            exact ⟨_, Nat.lt_succ_self _, (IntKind.i64.wrap (z197 + (1:Int))), (bOr .u64 z198 (iShl .u64 (IntKind.u64.wrap x213) (IntKind.i64.wrap ((8:Int) * z197)))), _, hx205, ((fr_upd (t := 0) (v := .pointer (some ⟨b149, 0, none⟩)) rfl).trans ((fr_upd (t := 1) (v := .int .i64 a1) rfl).trans ((fr_upd (t := 5) (v := .int .u64 (bOr .u64 z198 (iShl .u64 (IntKind.u64.wrap x213) (IntKind.i64.wrap ((8:Int) * z197))))) rfl).trans ((fr_upd (t := 31) (v := .int .i64 (if (8:Int) < a1 then (8:Int) else a1)) rfl).trans ((fr_upd (t := 32) (v := .int .i64 (IntKind.i64.wrap (z197 + (1:Int)))) rfl).trans rfl))))), hst⟩
          · skip
            replace hm := bif_f hc207 hm
            refine wp_iff (congrArg Value.bool hc207) ?_
            refine wp_exit ?_
            refine then_x ?_
            refine then_x ?_
            replace hm := inr_up hm hx205
            refine blk_x ?_
            refine then_n ?_
            replace hst := hst.keep1
            obtain rfl := some_inj hm
            exact ⟨z198, _, hx223, ((fr_upd (t := 0) (v := .pointer (some ⟨b149, 0, none⟩)) rfl).trans ((fr_upd (t := 1) (v := .int .i64 a1) rfl).trans ((fr_upd (t := 5) (v := .int .u64 z198) rfl).trans rfl))), hst⟩
        · skip
          clear hst
          rintro _ w224 ⟨z219, σ220, hm, rfl, hst⟩
          dsimp only [octet_Reader_Num_j0] at hm
          refine wp_seq ?_
          refine wp_region_lit ?_
          refine wl_val (v := .pointer (some ⟨b149, 0, none⟩)) rfl rfl rfl ?_
          refine wl_val (v := .pointer (some ⟨b149, 0, none⟩)) rfl rfl rfl ?_
          obtain ⟨b225, v226, ⟨e229, f228⟩, hst'⟩ := at_octet_Reader_open hst
          clear hst
          have e229 := ptr_inj e229
          subst e229
          have hst := hst'
          clear hst'
          refine wl_val (v := .pointer (some ⟨b149, 0, none⟩)) rfl rfl rfl ?_
          refine wl_val (v := .pointer (some ⟨b149, 0, none⟩)) rfl rfl (x_field rfl Try.underlying95 rfl Try.sizeOf22 rfl) ?_
          refine wl_val (v := v226) rfl rfl (x_load rfl Try.isAgg22 (hst.bc0 rfl)) ?_
          refine wl_val (v := .int .i64 a1) rfl rfl rfl ?_
          obtain ⟨hg230, hm⟩ := gd_some hm
          obtain ⟨h231, h232, h233⟩ := fits_of hg230
          have f235 : Ro (tyInt .u8) I (slcV 1 v226 a1.toNat (((a0.p).length : Nat) : Int).toNat) (subs a0.p a1 (((a0.p).length : Nat) : Int)) := Ro.part f228 h232 h233 h231
          refine wl_val (v := (slcV 1 v226 a1.toNat (((a0.p).length : Nat) : Int).toNat)) rfl rfl (x_slice Try.underlying22 Try.sizeOf5 rfl (ro_sliceV f228) h231 h232 h233 .i64 .i64 (.inl rfl) (.inr ⟨rfl, rfl⟩)) ?_
          refine wl_val (v := .pointer (some ⟨b149, 0, none⟩)) rfl rfl rfl ?_
          refine wl_val (v := .pointer (some ⟨b149, 0, none⟩)) rfl rfl (x_field rfl Try.underlying95 rfl Try.sizeOf22 rfl) ?_
          obtain ⟨w236, hr237, hst⟩ := hst.boxStore1 (P := Try.prog) (t := 22) (cs' := [(slcV 1 v226 a1.toNat (((a0.p).length : Nat) : Int).toNat), .bool a0.bad]) 0 (slcV 1 v226 a1.toNat (((a0.p).length : Nat) : Int).toNat) (one_of_sliceV (ro_sliceV f235)) Try.sizeOf22 rfl rfl
          refine wl_unit rfl rfl (x_unit hr237) ?_
          refine wl_nil ?_
          refine then_n ?_
          refine wp_seq ?_
          refine wp_region_lit ?_
          refine wl_val (v := .int .u64 z219) rfl rfl rfl ?_
          refine wl_val (v := .int .u64 z219) rfl rfl rfl ?_
          refine wl_nil ?_
          refine then_n ?_
          refine wp_ret ?_
          replace hst := at_octet_Reader_close (pv := .pointer (some ⟨b149, 0, none⟩)) (x := ({ p := (subs a0.p a1 (((a0.p).length : Nat) : Int)), bad := a0.bad } : octet_Reader)) hst ⟨rfl, f235⟩
          obtain rfl := some_inj hm
          refine post_ret (vs := [.int .u64 z219]) Try.results40 (rvs_cons (rv_tmp rfl) rvs_nil) ?_
          exact ⟨rfl, hst.keep1⟩

theorem octet_Reader_Count_ref {w0 w : World} {I : HL} {R : SP} {a0 : octet_Reader} {p0 : Value} {a1 : Int}  (hst : St w0 w I [at_octet_Reader p0 a0] R) {r : (Int × octet_Reader)} (hm : octet_Reader_Count a0 a1 = some r) :
    Calls Try.prog 41 #[p0, .int .i64 a1] w fun e w' => e = .returned (.int .i64 r.1) ∧ St w0 w' I [at_octet_Reader p0 r.2] R := by
  unfold octet_Reader_Count at hm
  refine calls_start (args := [p0, .int .i64 a1]) Try.func41 rfl Try.ntmps41 (Nat.le_of_ble_eq_true rfl) ?_
  refine wp_seq ?_
  refine wp_region_lit ?_
  refine wl_val (v := .int .i64 (0:Int)) rfl rfl rfl ?_
  refine wl_nil ?_
  refine then_n ?_
  refine wp_seq ?_
  refine wp_region_lit ?_
  refine wl_val (v := p0) rfl rfl rfl ?_
  obtain ⟨t154, ht155, hm⟩ := bind_some hm
  refine wl_call rfl rfl (x_call Try.call40 rfl (vs := [p0, .int .i64 (4:Int)]) rfl) ?_
  refine (octet_Reader_Num_ref hst.to1 ht155).mono ?_
  rintro _ w156 ⟨rfl, hst⟩
  refine ⟨_, rfl, ?_⟩
  replace hst := hst.of1
  refine wl_val (v := .int .u64 t154.1) rfl rfl rfl ?_
  refine wl_nil ?_
  refine then_n ?_
  refine wp_seq ?_
  refine wp_seq ?_
  refine wp_region_lit ?_
  refine wl_val (v := .int .i64 a1) rfl rfl rfl ?_
  refine wl_val (v := .bool (decide (a1 < (0:Int)))) rfl rfl rfl ?_
  refine wl_val (v := .bool (decide (a1 < (0:Int)))) rfl rfl rfl ?_
  refine bsplit (decide (a1 < (0:Int))) (fun hc159 => ?_) (fun hc159 => ?_)
  · skip
    replace hm := bif_t hc159 hm
    refine wl_off ((wanted_eq rfl rfl rfl (congrArg Value.bool hc159)).trans rfl) rfl ?_
    refine wl_off ((wanted_eq rfl rfl rfl (congrArg Value.bool hc159)).trans rfl) rfl ?_
    refine wl_off ((wanted_eq rfl rfl rfl (congrArg Value.bool hc159)).trans rfl) rfl ?_
    refine wl_off ((wanted_eq rfl rfl rfl (congrArg Value.bool hc159)).trans rfl) rfl ?_
    refine wl_val (v := .bool true) rfl rfl (x_pick_t hc159 rfl rfl) ?_
    refine wl_nil ?_
    refine then_n ?_
    refine wp_ift rfl ?_
    refine wp_seq ?_
    refine wp_region_lit ?_
    refine wl_val (v := p0) rfl rfl rfl ?_
    obtain ⟨t160, ht161, hm⟩ := bind_some hm
    refine wl_call rfl rfl (x_call Try.call66 rfl (vs := [p0]) rfl) ?_
    refine (octet_Reader_spoil_ref hst.to1 ht161).mono ?_
    rintro _ w162 ⟨rfl, hst⟩
    refine ⟨_, rfl, ?_⟩
    replace hst := hst.of1
    refine wl_nil ?_
    refine then_n ?_
    refine wp_seq ?_
    refine wp_region_lit ?_
    refine wl_val (v := .int .i64 (0:Int)) rfl rfl rfl ?_
    refine wl_nil ?_
    refine then_n ?_
    refine wp_ret ?_
    refine then_r ?_
    obtain rfl := some_inj hm
    refine post_ret (vs := [.int .i64 (0:Int)]) Try.results41 (rvs_cons (rv_tmp rfl) rvs_nil) ?_
    exact ⟨rfl, hst.keep1⟩
  · skip
    replace hm := bif_f hc159 hm
    refine wl_val (v := .int .u64 t154.1) ((wanted_eq rfl rfl rfl (congrArg Value.bool hc159)).trans rfl) rfl rfl ?_
    refine wl_val (v := .int .i64 a1) ((wanted_eq rfl rfl rfl (congrArg Value.bool hc159)).trans rfl) rfl rfl ?_
    refine wl_val (v := .int .u64 (IntKind.u64.wrap a1)) ((wanted_eq rfl rfl rfl (congrArg Value.bool hc159)).trans rfl) rfl (by kernel_rfl) ?_
    refine wl_val (v := .bool (decide (t154.1 > (IntKind.u64.wrap a1)))) ((wanted_eq rfl rfl rfl (congrArg Value.bool hc159)).trans rfl) rfl rfl ?_
    refine wl_val (v := .bool (decide (t154.1 > (IntKind.u64.wrap a1)))) rfl rfl (x_pick_f hc159 rfl rfl) ?_
    refine wl_nil ?_
    refine then_n ?_
    refine bsplit (decide (t154.1 > (IntKind.u64.wrap a1))) (fun hc165 => ?_) (fun hc165 => ?_)
    · skip
      replace hm := bif_t hc165 hm
      refine wp_ift (congrArg Value.bool hc165) ?_
      refine wp_seq ?_
      refine wp_region_lit ?_
      refine wl_val (v := p0) rfl rfl rfl ?_
      obtain ⟨t166, ht167, hm⟩ := bind_some hm
      refine wl_call rfl rfl (x_call Try.call66 rfl (vs := [p0]) rfl) ?_
      refine (octet_Reader_spoil_ref hst.to1 ht167).mono ?_
      rintro _ w168 ⟨rfl, hst⟩
      refine ⟨_, rfl, ?_⟩
      replace hst := hst.of1
      refine wl_nil ?_
      refine then_n ?_
      refine wp_seq ?_
      refine wp_region_lit ?_
      refine wl_val (v := .int .i64 (0:Int)) rfl rfl rfl ?_
      refine wl_nil ?_
      refine then_n ?_
      refine wp_ret ?_
      refine then_r ?_
      obtain rfl := some_inj hm
      refine post_ret (vs := [.int .i64 (0:Int)]) Try.results41 (rvs_cons (rv_tmp rfl) rvs_nil) ?_
      exact ⟨rfl, hst.keep1⟩
    · skip
      replace hm := bif_f hc165 hm
      refine wp_iff (congrArg Value.bool hc165) ?_
      refine wp_skip ?_
      refine then_n ?_
      refine wp_seq ?_
      refine wp_region_lit ?_
      refine wl_val (v := .int .u64 t154.1) rfl rfl rfl ?_
      refine wl_val (v := .int .i64 (IntKind.i64.wrap t154.1)) rfl rfl (by kernel_rfl) ?_
      refine wl_val (v := .int .i64 (IntKind.i64.wrap t154.1)) rfl rfl rfl ?_
      refine wl_nil ?_
      refine then_n ?_
      refine wp_ret ?_
      obtain rfl := some_inj hm
      refine post_ret (vs := [.int .i64 (IntKind.i64.wrap t154.1)]) Try.results41 (rvs_cons (rv_tmp rfl) rvs_nil) ?_
      exact ⟨rfl, hst.keep1⟩

theorem number_Back_ref {w0 w : World} {I : HL} {R : SP} {a0 : Int}  (hst : St w0 w I [] R) {r : (Nat)} (hm : number_Back a0 = some r) :
    Calls Try.prog 44 #[.int .u64 a0] w fun e w' => e = .returned (.float .f64 r) ∧ St w0 w' I [] R := by
  unfold number_Back at hm
  refine calls_start (args := [.int .u64 a0]) Try.func44 rfl Try.ntmps44 (Nat.le_of_ble_eq_true rfl) ?_
  refine wp_seq ?_
  refine wp_region_lit ?_
  refine wl_val (v := .float .f64 (0:Nat)) rfl rfl rfl ?_
  refine wl_nil ?_
  refine then_n ?_
  refine wp_seq ?_
  refine wp_seq ?_
  refine wp_region_lit ?_
  refine wl_val (v := .int .u64 a0) rfl rfl rfl ?_
  refine wl_val (v := .int .u64 (iShr .u64 a0 (63:Int))) rfl rfl (x_shr (by decide) rfl rfl) ?_
  refine wl_val (v := .bool ((iShr .u64 a0 (63:Int)) == (1:Int))) rfl rfl rfl ?_
  refine wl_nil ?_
  refine then_n ?_
  refine bsplit ((iShr .u64 a0 (63:Int)) == (1:Int)) (fun hc142 => ?_) (fun hc142 => ?_)
  · skip
    replace hm := bif_t hc142 hm
    refine wp_ift (congrArg Value.bool hc142) ?_
    refine wp_seq ?_
    refine wp_region_lit ?_
    refine wl_val (v := .int .u64 a0) rfl rfl rfl ?_
    refine wl_val (v := .int .u64 (bAndNot .u64 a0 (9223372036854775808:Int))) rfl rfl rfl ?_
    refine wl_val (v := .float .f64 (Int.toNat (bAndNot .u64 a0 (9223372036854775808:Int)))) rfl rfl (by kernel_rfl) ?_
    refine wl_val (v := .float .f64 (Int.toNat (bAndNot .u64 a0 (9223372036854775808:Int)))) rfl rfl rfl ?_
    refine wl_nil ?_
    refine then_n ?_
    refine wp_ret ?_
    refine then_r ?_
    obtain rfl := some_inj hm
    refine post_ret (vs := [.float .f64 (Int.toNat (bAndNot .u64 a0 (9223372036854775808:Int)))]) Try.results44 (rvs_cons (rv_tmp rfl) rvs_nil) ?_
    exact ⟨rfl, hst.keep0⟩
  · skip
    replace hm := bif_f hc142 hm
    refine wp_iff (congrArg Value.bool hc142) ?_
    refine wp_skip ?_
    refine then_n ?_
    refine wp_seq ?_
    refine wp_region_lit ?_
    refine wl_val (v := .int .u64 a0) rfl rfl rfl ?_
    refine wl_val (v := .int .u64 (bXor .u64 ((18446744073709551615):Int) a0)) rfl rfl (by kernel_rfl) ?_
    refine wl_val (v := .float .f64 (Int.toNat (bXor .u64 ((18446744073709551615):Int) a0))) rfl rfl (by kernel_rfl) ?_
    refine wl_val (v := .float .f64 (Int.toNat (bXor .u64 ((18446744073709551615):Int) a0))) rfl rfl rfl ?_
    refine wl_nil ?_
    refine then_n ?_
    refine wp_ret ?_
    obtain rfl := some_inj hm
    refine post_ret (vs := [.float .f64 (Int.toNat (bXor .u64 ((18446744073709551615):Int) a0))]) Try.results44 (rvs_cons (rv_tmp rfl) rvs_nil) ?_
    exact ⟨rfl, hst.keep0⟩

theorem octet_Reader_Bytes_ref {w0 w : World} {I : HL} {R : SP} {a0 : octet_Reader} {p0 : Value} {a1 : Int}  (hst : St w0 w I [at_octet_Reader p0 a0] R) {r : ((List Int) × octet_Reader)} (hm : octet_Reader_Bytes a0 a1 = some r) :
    Calls Try.prog 43 #[p0, .int .i64 a1] w fun e w' => ∃ (q0_0 : Value), e = .returned (q0_0) ∧ St w0 w' I [ownS (tyInt .u8) q0_0 r.1, at_octet_Reader p0 r.2] R := by
  unfold octet_Reader_Bytes at hm
  refine calls_start (args := [p0, .int .i64 a1]) Try.func43 rfl Try.ntmps43 (Nat.le_of_ble_eq_true rfl) ?_
  refine wp_seq ?_
  refine wp_region_lit ?_
  refine wl_val (v := (.slice none 0 0)) rfl rfl rfl ?_
  refine wl_nil ?_
  refine then_n ?_
  refine wp_seq ?_
  refine wp_region_lit ?_
  refine wl_val (v := p0) rfl rfl rfl ?_
  obtain ⟨t595, ht596, hm⟩ := bind_some hm
  refine wl_call rfl rfl (x_call Try.call40 rfl (vs := [p0, .int .i64 (4:Int)]) rfl) ?_
  refine (octet_Reader_Num_ref hst.to1 ht596).mono ?_
  rintro _ w597 ⟨rfl, hst⟩
  refine ⟨_, rfl, ?_⟩
  replace hst := hst.of1
  refine wl_val (v := .int .u64 t595.1) rfl rfl rfl ?_
  refine wl_nil ?_
  refine then_n ?_
  refine wp_seq ?_
  refine wp_seq ?_
  refine wp_region_lit ?_
  refine wl_val (v := p0) rfl rfl rfl ?_
  obtain ⟨b600, v601, ⟨rfl, f603⟩, hst'⟩ := at_octet_Reader_open hst
  clear hst
  have hst := hst'
  clear hst'
  refine wl_val (v := .bool false) rfl rfl (by kernel_rfl) ?_
  refine wl_val (v := .bool false) rfl rfl rfl ?_
  refine wl_val (v := .pointer (some ⟨b600, 0, none⟩)) ((wanted_eq rfl rfl rfl rfl).trans rfl) rfl rfl ?_
  refine wl_val (v := .pointer (some ⟨b600, 0, none⟩)) ((wanted_eq rfl rfl rfl rfl).trans rfl) rfl rfl ?_
  refine wl_val (v := .pointer (some ⟨b600, 1, none⟩)) ((wanted_eq rfl rfl rfl rfl).trans rfl) rfl (x_field rfl Try.underlying95 rfl Try.sizeOf4 rfl) ?_
  refine wl_val (v := .bool t595.2.bad) ((wanted_eq rfl rfl rfl rfl).trans rfl) rfl (x_load rfl Try.isAgg4 (hst.bc0 rfl)) ?_
  refine wl_val (v := .bool t595.2.bad) rfl rfl (x_pick_f rfl rfl rfl) ?_
  refine wl_val (v := .bool t595.2.bad) rfl rfl rfl ?_
  refine bsplit t595.2.bad (fun hc604 => ?_) (fun hc604 => ?_)
  · skip
    replace hm := bif_t hc604 hm
    refine wl_off ((wanted_eq rfl rfl rfl (congrArg Value.bool hc604)).trans rfl) rfl ?_
    refine wl_off ((wanted_eq rfl rfl rfl (congrArg Value.bool hc604)).trans rfl) rfl ?_
    refine wl_val (v := .bool true) rfl rfl (x_pick_t hc604 rfl rfl) ?_
    refine wl_val (v := .bool true) rfl rfl rfl ?_
    refine wl_off ((wanted_eq rfl rfl rfl rfl).trans rfl) rfl ?_
    refine wl_off ((wanted_eq rfl rfl rfl rfl).trans rfl) rfl ?_
    refine wl_off ((wanted_eq rfl rfl rfl rfl).trans rfl) rfl ?_
    refine wl_off ((wanted_eq rfl rfl rfl rfl).trans rfl) rfl ?_
    refine wl_val (v := .bool true) rfl rfl (x_pick_t rfl rfl rfl) ?_
    refine wl_val (v := .bool true) rfl rfl rfl ?_
    refine wl_off ((wanted_eq rfl rfl rfl rfl).trans rfl) rfl ?_
    refine wl_off ((wanted_eq rfl rfl rfl rfl).trans rfl) rfl ?_
    refine wl_off ((wanted_eq rfl rfl rfl rfl).trans rfl) rfl ?_
    refine wl_off ((wanted_eq rfl rfl rfl rfl).trans rfl) rfl ?_
    refine wl_off ((wanted_eq rfl rfl rfl rfl).trans rfl) rfl ?_
    refine wl_off ((wanted_eq rfl rfl rfl rfl).trans rfl) rfl ?_
    refine wl_off ((wanted_eq rfl rfl rfl rfl).trans rfl) rfl ?_
    refine wl_off ((wanted_eq rfl rfl rfl rfl).trans rfl) rfl ?_
    refine wl_val (v := .bool true) rfl rfl (x_pick_t rfl rfl rfl) ?_
    refine wl_nil ?_
    refine then_n ?_
    refine wp_ift rfl ?_
    refine wp_seq ?_
    refine wp_region_lit ?_
    refine wl_val (v := .pointer (some ⟨b600, 0, none⟩)) rfl rfl rfl ?_
    replace hst := at_octet_Reader_close (pv := .pointer (some ⟨b600, 0, none⟩)) (x := t595.2) hst ⟨rfl, f603⟩
    obtain ⟨t605, ht606, hm⟩ := bind_some hm
    refine wl_call rfl rfl (x_call Try.call66 rfl (vs := [.pointer (some ⟨b600, 0, none⟩)]) rfl) ?_
    refine (octet_Reader_spoil_ref hst.to1 ht606).mono ?_
    rintro _ w607 ⟨rfl, hst⟩
    refine ⟨_, rfl, ?_⟩
    replace hst := hst.of1
    refine wl_nil ?_
    refine then_n ?_
    refine wp_seq ?_
    refine wp_region_lit ?_
    refine wl_val (v := (.slice none 0 0)) rfl rfl rfl ?_
    refine wl_nil ?_
    refine then_n ?_
    refine wp_ret ?_
    refine then_r ?_
    replace hst := hst.own_nil (tyInt .u8)
    obtain rfl := some_inj hm
    refine post_ret (vs := [(.slice none 0 0)]) Try.results43 (rvs_cons (rv_tmp rfl) rvs_nil) ?_
    replace hst := hst.pull1
    replace hst := hst.pull1
    exact ⟨(.slice none 0 0), rfl, hst.keep2⟩
  · skip
    replace hm := bif_f hc604 hm
    refine wl_val (v := .int .i64 a1) ((wanted_eq rfl rfl rfl (congrArg Value.bool hc604)).trans rfl) rfl rfl ?_
    refine wl_val (v := .bool (decide (a1 < (0:Int)))) ((wanted_eq rfl rfl rfl (congrArg Value.bool hc604)).trans rfl) rfl rfl ?_
    refine wl_val (v := .bool (decide (a1 < (0:Int)))) rfl rfl (x_pick_f hc604 rfl rfl) ?_
    refine wl_val (v := .bool (decide (a1 < (0:Int)))) rfl rfl rfl ?_
    refine bsplit (decide (a1 < (0:Int))) (fun hc611 => ?_) (fun hc611 => ?_)
    · skip
      replace hm := bif_t hc611 hm
      refine wl_off ((wanted_eq rfl rfl rfl (congrArg Value.bool hc611)).trans rfl) rfl ?_
      refine wl_off ((wanted_eq rfl rfl rfl (congrArg Value.bool hc611)).trans rfl) rfl ?_
      refine wl_off ((wanted_eq rfl rfl rfl (congrArg Value.bool hc611)).trans rfl) rfl ?_
      refine wl_off ((wanted_eq rfl rfl rfl (congrArg Value.bool hc611)).trans rfl) rfl ?_
      refine wl_val (v := .bool true) rfl rfl (x_pick_t hc611 rfl rfl) ?_
      refine wl_val (v := .bool true) rfl rfl rfl ?_
      refine wl_off ((wanted_eq rfl rfl rfl rfl).trans rfl) rfl ?_
      refine wl_off ((wanted_eq rfl rfl rfl rfl).trans rfl) rfl ?_
      refine wl_off ((wanted_eq rfl rfl rfl rfl).trans rfl) rfl ?_
      refine wl_off ((wanted_eq rfl rfl rfl rfl).trans rfl) rfl ?_
      refine wl_off ((wanted_eq rfl rfl rfl rfl).trans rfl) rfl ?_
      refine wl_off ((wanted_eq rfl rfl rfl rfl).trans rfl) rfl ?_
      refine wl_off ((wanted_eq rfl rfl rfl rfl).trans rfl) rfl ?_
      refine wl_off ((wanted_eq rfl rfl rfl rfl).trans rfl) rfl ?_
      refine wl_val (v := .bool true) rfl rfl (x_pick_t rfl rfl rfl) ?_
      refine wl_nil ?_
      refine then_n ?_
      refine wp_ift rfl ?_
      refine wp_seq ?_
      refine wp_region_lit ?_
      refine wl_val (v := .pointer (some ⟨b600, 0, none⟩)) rfl rfl rfl ?_
      replace hst := at_octet_Reader_close (pv := .pointer (some ⟨b600, 0, none⟩)) (x := t595.2) hst ⟨rfl, f603⟩
      obtain ⟨t612, ht613, hm⟩ := bind_some hm
      refine wl_call rfl rfl (x_call Try.call66 rfl (vs := [.pointer (some ⟨b600, 0, none⟩)]) rfl) ?_
      refine (octet_Reader_spoil_ref hst.to1 ht613).mono ?_
      rintro _ w614 ⟨rfl, hst⟩
      refine ⟨_, rfl, ?_⟩
      replace hst := hst.of1
      refine wl_nil ?_
      refine then_n ?_
      refine wp_seq ?_
      refine wp_region_lit ?_
      refine wl_val (v := (.slice none 0 0)) rfl rfl rfl ?_
      refine wl_nil ?_
      refine then_n ?_
      refine wp_ret ?_
      refine then_r ?_
      replace hst := hst.own_nil (tyInt .u8)
      obtain rfl := some_inj hm
      refine post_ret (vs := [(.slice none 0 0)]) Try.results43 (rvs_cons (rv_tmp rfl) rvs_nil) ?_
      replace hst := hst.pull1
      replace hst := hst.pull1
      exact ⟨(.slice none 0 0), rfl, hst.keep2⟩
    · skip
      replace hm := bif_f hc611 hm
      refine wl_val (v := .int .u64 t595.1) ((wanted_eq rfl rfl rfl (congrArg Value.bool hc611)).trans rfl) rfl rfl ?_
      refine wl_val (v := .int .i64 a1) ((wanted_eq rfl rfl rfl (congrArg Value.bool hc611)).trans rfl) rfl rfl ?_
      refine wl_val (v := .int .u64 (IntKind.u64.wrap a1)) ((wanted_eq rfl rfl rfl (congrArg Value.bool hc611)).trans rfl) rfl (by kernel_rfl) ?_
      refine wl_val (v := .bool (decide (t595.1 > (IntKind.u64.wrap a1)))) ((wanted_eq rfl rfl rfl (congrArg Value.bool hc611)).trans rfl) rfl rfl ?_
      refine wl_val (v := .bool (decide (t595.1 > (IntKind.u64.wrap a1)))) rfl rfl (x_pick_f hc611 rfl rfl) ?_
      refine wl_val (v := .bool (decide (t595.1 > (IntKind.u64.wrap a1)))) rfl rfl rfl ?_
      refine bsplit (decide (t595.1 > (IntKind.u64.wrap a1))) (fun hc618 => ?_) (fun hc618 => ?_)
      · skip
        replace hm := bif_t hc618 hm
        refine wl_off ((wanted_eq rfl rfl rfl (congrArg Value.bool hc618)).trans rfl) rfl ?_
        refine wl_off ((wanted_eq rfl rfl rfl (congrArg Value.bool hc618)).trans rfl) rfl ?_
        refine wl_off ((wanted_eq rfl rfl rfl (congrArg Value.bool hc618)).trans rfl) rfl ?_
        refine wl_off ((wanted_eq rfl rfl rfl (congrArg Value.bool hc618)).trans rfl) rfl ?_
        refine wl_off ((wanted_eq rfl rfl rfl (congrArg Value.bool hc618)).trans rfl) rfl ?_
        refine wl_off ((wanted_eq rfl rfl rfl (congrArg Value.bool hc618)).trans rfl) rfl ?_
        refine wl_off ((wanted_eq rfl rfl rfl (congrArg Value.bool hc618)).trans rfl) rfl ?_
        refine wl_off ((wanted_eq rfl rfl rfl (congrArg Value.bool hc618)).trans rfl) rfl ?_
        refine wl_val (v := .bool true) rfl rfl (x_pick_t hc618 rfl rfl) ?_
        refine wl_nil ?_
        refine then_n ?_
        refine wp_ift rfl ?_
        refine wp_seq ?_
        refine wp_region_lit ?_
        refine wl_val (v := .pointer (some ⟨b600, 0, none⟩)) rfl rfl rfl ?_
        replace hst := at_octet_Reader_close (pv := .pointer (some ⟨b600, 0, none⟩)) (x := t595.2) hst ⟨rfl, f603⟩
        obtain ⟨t619, ht620, hm⟩ := bind_some hm
        refine wl_call rfl rfl (x_call Try.call66 rfl (vs := [.pointer (some ⟨b600, 0, none⟩)]) rfl) ?_
        refine (octet_Reader_spoil_ref hst.to1 ht620).mono ?_
        rintro _ w621 ⟨rfl, hst⟩
        refine ⟨_, rfl, ?_⟩
        replace hst := hst.of1
        refine wl_nil ?_
        refine then_n ?_
        refine wp_seq ?_
        refine wp_region_lit ?_
        refine wl_val (v := (.slice none 0 0)) rfl rfl rfl ?_
        refine wl_nil ?_
        refine then_n ?_
        refine wp_ret ?_
        refine then_r ?_
        replace hst := hst.own_nil (tyInt .u8)
        obtain rfl := some_inj hm
        refine post_ret (vs := [(.slice none 0 0)]) Try.results43 (rvs_cons (rv_tmp rfl) rvs_nil) ?_
        replace hst := hst.pull1
        replace hst := hst.pull1
        exact ⟨(.slice none 0 0), rfl, hst.keep2⟩
      · skip
        replace hm := bif_f hc618 hm
        refine wl_val (v := .int .u64 t595.1) ((wanted_eq rfl rfl rfl (congrArg Value.bool hc618)).trans rfl) rfl rfl ?_
        refine wl_val (v := .pointer (some ⟨b600, 0, none⟩)) ((wanted_eq rfl rfl rfl (congrArg Value.bool hc618)).trans rfl) rfl rfl ?_
        refine wl_val (v := .pointer (some ⟨b600, 0, none⟩)) ((wanted_eq rfl rfl rfl (congrArg Value.bool hc618)).trans rfl) rfl rfl ?_
        refine wl_val (v := .pointer (some ⟨b600, 0, none⟩)) ((wanted_eq rfl rfl rfl (congrArg Value.bool hc618)).trans rfl) rfl (x_field rfl Try.underlying95 rfl Try.sizeOf22 rfl) ?_
        refine wl_val (v := v601) ((wanted_eq rfl rfl rfl (congrArg Value.bool hc618)).trans rfl) rfl (x_load rfl Try.isAgg22 (hst.bc0 rfl)) ?_
        refine wl_val (v := .int .i64 ((t595.2.p).length : Int)) ((wanted_eq rfl rfl rfl (congrArg Value.bool hc618)).trans rfl) rfl (x_len rfl Try.underlying22 (ro_sliceV f603)) ?_
        refine wl_val (v := .int .u64 (IntKind.u64.wrap ((t595.2.p).length : Int))) ((wanted_eq rfl rfl rfl (congrArg Value.bool hc618)).trans rfl) rfl (by kernel_rfl) ?_
        refine wl_val (v := .bool (decide (t595.1 > (IntKind.u64.wrap ((t595.2.p).length : Int))))) ((wanted_eq rfl rfl rfl (congrArg Value.bool hc618)).trans rfl) rfl rfl ?_
        refine wl_val (v := .bool (decide (t595.1 > (IntKind.u64.wrap ((t595.2.p).length : Int))))) rfl rfl (x_pick_f hc618 rfl rfl) ?_
        refine wl_nil ?_
        refine then_n ?_
        refine bsplit (decide (t595.1 > (IntKind.u64.wrap ((t595.2.p).length : Int)))) (fun hc625 => ?_) (fun hc625 => ?_)
        · skip
          replace hm := bif_t hc625 hm
          refine wp_ift (congrArg Value.bool hc625) ?_
          refine wp_seq ?_
          refine wp_region_lit ?_
          refine wl_val (v := .pointer (some ⟨b600, 0, none⟩)) rfl rfl rfl ?_
          replace hst := at_octet_Reader_close (pv := .pointer (some ⟨b600, 0, none⟩)) (x := t595.2) hst ⟨rfl, f603⟩
          obtain ⟨t626, ht627, hm⟩ := bind_some hm
          refine wl_call rfl rfl (x_call Try.call66 rfl (vs := [.pointer (some ⟨b600, 0, none⟩)]) rfl) ?_
          refine (octet_Reader_spoil_ref hst.to1 ht627).mono ?_
          rintro _ w628 ⟨rfl, hst⟩
          refine ⟨_, rfl, ?_⟩
          replace hst := hst.of1
          refine wl_nil ?_
          refine then_n ?_
          refine wp_seq ?_
          refine wp_region_lit ?_
          refine wl_val (v := (.slice none 0 0)) rfl rfl rfl ?_
          refine wl_nil ?_
          refine then_n ?_
          refine wp_ret ?_
          refine then_r ?_
          replace hst := hst.own_nil (tyInt .u8)
          obtain rfl := some_inj hm
          refine post_ret (vs := [(.slice none 0 0)]) Try.results43 (rvs_cons (rv_tmp rfl) rvs_nil) ?_
          replace hst := hst.pull1
          replace hst := hst.pull1
          exact ⟨(.slice none 0 0), rfl, hst.keep2⟩
        · skip
          replace hm := bif_f hc625 hm
          refine wp_iff (congrArg Value.bool hc625) ?_
          refine wp_skip ?_
          refine then_n ?_
          refine wp_seq ?_
          refine wp_region_lit ?_
          refine wl_val (v := .pointer (some ⟨b600, 0, none⟩)) rfl rfl rfl ?_
          refine wl_val (v := .pointer (some ⟨b600, 0, none⟩)) rfl rfl rfl ?_
          refine wl_val (v := .pointer (some ⟨b600, 0, none⟩)) rfl rfl (x_field rfl Try.underlying95 rfl Try.sizeOf22 rfl) ?_
          refine wl_val (v := v601) rfl rfl (x_load rfl Try.isAgg22 (hst.bc0 rfl)) ?_
          refine wl_val (v := .int .u64 t595.1) rfl rfl rfl ?_
          obtain ⟨hg632, hm⟩ := gd_some hm
          obtain ⟨h633, h634, h635⟩ := fits_of hg632
          have f637 : Ro (tyInt .u8) I (slcV 1 v601 (0:Int).toNat t595.1.toNat) (subs t595.2.p (0:Int) t595.1) := Ro.part f603 h634 h635 h633
          refine wl_val (v := (slcV 1 v601 (0:Int).toNat t595.1.toNat)) rfl rfl (x_slice Try.underlying22 Try.sizeOf5 rfl (ro_sliceV f603) h633 h634 h635 .i64 .u64 (.inr ⟨rfl, rfl⟩) (.inl rfl)) ?_
          replace hst := hst.own_nil (tyInt .u8)
          obtain ⟨hg639, hm⟩ := gd_some hm
          obtain ⟨v640, w641, hr642, hst⟩ := run_append elem_22 Try.underlying22 hst (Src.of_ro hst f637) (room_of hg639 rfl) 22
          replace hst := St.nil_app hst
          refine wl_run (v := v640) (w' := w641) rfl rfl (x_append rfl rfl hr642) ?_
          refine wl_val (v := v640) rfl rfl rfl ?_
          refine wl_nil ?_
          refine then_n ?_
          refine wp_seq ?_
          refine wp_region_lit ?_
          refine wl_val (v := .pointer (some ⟨b600, 0, none⟩)) rfl rfl rfl ?_
          refine wl_val (v := .pointer (some ⟨b600, 0, none⟩)) rfl rfl rfl ?_
          refine wl_val (v := .pointer (some ⟨b600, 0, none⟩)) rfl rfl rfl ?_
          refine wl_val (v := .pointer (some ⟨b600, 0, none⟩)) rfl rfl (x_field rfl Try.underlying95 rfl Try.sizeOf22 rfl) ?_
          refine wl_val (v := v601) rfl rfl (x_load rfl Try.isAgg22 (hst.bc1 rfl)) ?_
          refine wl_val (v := .int .u64 t595.1) rfl rfl rfl ?_
          obtain ⟨hg643, hm⟩ := gd_some hm
          obtain ⟨h644, h645, h646⟩ := fits_of hg643
          have f648 : Ro (tyInt .u8) I (slcV 1 v601 t595.1.toNat (((t595.2.p).length : Nat) : Int).toNat) (subs t595.2.p t595.1 (((t595.2.p).length : Nat) : Int)) := Ro.part f603 h645 h646 h644
          refine wl_val (v := (slcV 1 v601 t595.1.toNat (((t595.2.p).length : Nat) : Int).toNat)) rfl rfl (x_slice Try.underlying22 Try.sizeOf5 rfl (ro_sliceV f603) h644 h645 h646 .u64 .i64 (.inl rfl) (.inr ⟨rfl, rfl⟩)) ?_
          refine wl_val (v := .pointer (some ⟨b600, 0, none⟩)) rfl rfl rfl ?_
          refine wl_val (v := .pointer (some ⟨b600, 0, none⟩)) rfl rfl (x_field rfl Try.underlying95 rfl Try.sizeOf22 rfl) ?_
          replace hst := hst.pull1
          obtain ⟨w649, hr650, hst⟩ := hst.boxStore1 (P := Try.prog) (t := 22) (cs' := [(slcV 1 v601 t595.1.toNat (((t595.2.p).length : Nat) : Int).toNat), .bool t595.2.bad]) 0 (slcV 1 v601 t595.1.toNat (((t595.2.p).length : Nat) : Int).toNat) (one_of_sliceV (ro_sliceV f648)) Try.sizeOf22 rfl rfl
          refine wl_unit rfl rfl (x_unit hr650) ?_
          refine wl_nil ?_
          refine then_n ?_
          refine wp_seq ?_
          refine wp_region_lit ?_
          refine wl_val (v := v640) rfl rfl rfl ?_
          refine wl_val (v := v640) rfl rfl rfl ?_
          refine wl_nil ?_
          refine then_n ?_
          refine wp_ret ?_
          replace hst := at_octet_Reader_close (pv := .pointer (some ⟨b600, 0, none⟩)) (x := ({ p := (subs t595.2.p t595.1 (((t595.2.p).length : Nat) : Int)), bad := t595.2.bad } : octet_Reader)) hst ⟨rfl, f648⟩
          obtain rfl := some_inj hm
          refine post_ret (vs := [v640]) Try.results43 (rvs_cons (rv_tmp rfl) rvs_nil) ?_
          replace hst := hst.pull1
          exact ⟨v640, rfl, hst.keep2⟩

theorem locks_Read_ref {w0 w : World} {I : HL} {R : SP} {a0 : octet_Reader} {p0 : Value}  (hst : St w0 w I [at_octet_Reader p0 a0] R) {r : (api_Hold × octet_Reader)} (hm : locks_Read a0 = some r) :
    Calls Try.prog 53 #[p0] w fun e w' => ∃ (q0_0 : Value) (q0_1 : Value) (q0_2 : Value) (q0_3 : Value), e = .returned (.agg #[.int .u64 r.1.ID.Session, .int .u64 r.1.ID.Seq, .int .u64 r.1.Epoch, q0_0, q0_1, q0_2, q0_3]) ∧ St w0 w' I [ownS tyF64 q0_0 r.1.Gets, ownS tyF2 q0_1 r.1.Scans, ownS tyF64 q0_2 r.1.Puts, ownS (tyInt .u8) q0_3 r.1.Data, at_octet_Reader p0 r.2] R := by
  unfold locks_Read at hm
  refine calls_start (args := [p0]) Try.func53 rfl Try.ntmps53 (Nat.le_of_ble_eq_true rfl) ?_
  refine wp_seq ?_
  refine wp_region_lit ?_
  obtain ⟨b551, w552, ew553, eb554, hst⟩ := hst.box [.int .u64 (0:Int), .int .u64 (0:Int), .int .u64 (0:Int), (.slice none 0 0), (.slice none 0 0), (.slice none 0 0), (.slice none 0 0)] 34
  refine wl_run (v := .pointer (some ⟨b551, 0, none⟩)) (w' := w552) rfl rfl (x_al (by kernel_rfl) ew553 eb554) ?_
  refine wl_nil ?_
  refine then_n ?_
  refine wp_seq ?_
  refine wp_region_lit ?_
  refine wl_val (v := p0) rfl rfl rfl ?_
  replace hst := hst.pull1
  obtain ⟨t556, ht557, hm⟩ := bind_some hm
  refine wl_call rfl rfl (x_call Try.call40 rfl (vs := [p0, .int .i64 (8:Int)]) rfl) ?_
  refine (octet_Reader_Num_ref hst.to1 ht557).mono ?_
  rintro _ w558 ⟨rfl, hst⟩
  refine ⟨_, rfl, ?_⟩
  replace hst := hst.of1
  refine wl_val (v := p0) rfl rfl rfl ?_
  obtain ⟨t561, ht562, hm⟩ := bind_some hm
  refine wl_call rfl rfl (x_call Try.call40 rfl (vs := [p0, .int .i64 (8:Int)]) rfl) ?_
  refine (octet_Reader_Num_ref hst.to1 ht562).mono ?_
  rintro _ w563 ⟨rfl, hst⟩
  refine ⟨_, rfl, ?_⟩
  replace hst := hst.of1
  refine wl_val (v := .agg #[.int .u64 t556.1, .int .u64 t561.1]) rfl rfl (by kernel_rfl) ?_
  refine wl_val (v := p0) rfl rfl rfl ?_
  obtain ⟨t566, ht567, hm⟩ := bind_some hm
  refine wl_call rfl rfl (x_call Try.call40 rfl (vs := [p0, .int .i64 (8:Int)]) rfl) ?_
  refine (octet_Reader_Num_ref hst.to1 ht567).mono ?_
  rintro _ w568 ⟨rfl, hst⟩
  refine ⟨_, rfl, ?_⟩
  replace hst := hst.of1
  refine wl_val (v := .agg #[.int .u64 t556.1, .int .u64 t561.1, .int .u64 t566.1, (.slice none 0 0), (.slice none 0 0), (.slice none 0 0), (.slice none 0 0)]) rfl rfl (by kernel_rfl) ?_
  obtain ⟨b579, w580, ew581, eb582, hst⟩ := hst.box [.int .u64 (0:Int), .int .u64 (0:Int), .int .u64 (0:Int), (.slice none 0 0), (.slice none 0 0), (.slice none 0 0), (.slice none 0 0)] 34
  refine wl_run (v := .pointer (some ⟨b579, 0, none⟩)) (w' := w580) rfl rfl (x_al (by kernel_rfl) ew581 eb582) ?_
  obtain ⟨w584, hr585, hst⟩ := hst.boxStore (P := Try.prog) (t := 34) (cs' := [.int .u64 t556.1, .int .u64 t561.1, .int .u64 t566.1, (.slice none 0 0), (.slice none 0 0), (.slice none 0 0), (.slice none 0 0)]) 0 (.agg #[.int .u64 t556.1, .int .u64 t561.1, .int .u64 t566.1, (.slice none 0 0), (.slice none 0 0), (.slice none 0 0), (.slice none 0 0)]) Try.sizeOf34 (Nat.le_of_ble_eq_true rfl) (ones_cons rfl (ones_cons rfl (ones_cons rfl (ones_cons rfl (ones_cons rfl (ones_cons rfl (ones_cons rfl ones_nil))))))) (by kernel_rfl)
  refine wl_unit rfl rfl (x_unit hr585) ?_
  refine wl_nil ?_
  refine then_n ?_
  obtain ⟨y703, hm, hx704⟩ := bind_some hm
  refine wp_cut (fun a w => ∃ (z697 : octet_Reader) (z700 : (List Nat)) (v699 : Value) (σ701 : Nat → Value), (locks_Read_j0 t556 t561 t566) (z697, z700) = some r ∧ a = Fr 59 (upd (upd (upd σ701 0 (p0)) 2 (.pointer (some ⟨b551, 0, none⟩))) 3 (.pointer (some ⟨b579, 0, none⟩))) ∧ St w0 w I [at_octet_Reader p0 z697, cells b551 [.int .u64 (0:Int), .int .u64 (0:Int), .int .u64 (0:Int), (.slice none 0 0), (.slice none 0 0), (.slice none 0 0), (.slice none 0 0)], cells b579 [.int .u64 t556.1, .int .u64 t561.1, .int .u64 t566.1, v699, (.slice none 0 0), (.slice none 0 0), (.slice none 0 0)], ownS tyF64 v699 z700] R) ?_ ?_
  · skip
    refine wp_seq ?_
    refine wp_region_lit ?_
    refine wl_val (v := p0) rfl rfl rfl ?_
    replace hst := hst.pull1
    obtain ⟨t586, ht587, hm⟩ := bind_some hm
    refine wl_call rfl rfl (x_call Try.call41 rfl (vs := [p0, .int .i64 (32:Int)]) rfl) ?_
    refine (octet_Reader_Count_ref hst.to1 ht587).mono ?_
    rintro _ w588 ⟨rfl, hst⟩
    refine ⟨_, rfl, ?_⟩
    replace hst := hst.of1
    refine wl_val (v := .int .i64 (0:Int)) rfl rfl rfl ?_
    refine wl_nil ?_
    refine then_n ?_
    refine wp_block ?_
    replace hst := hst.own_nil tyF64
    obtain ⟨n668, hm⟩ := loopO_some hm
    refine wp_loop_n (fun n a w => ∃ (z662 : (List Nat)) (z665 : octet_Reader) (z666 : Int) (v663 : Value) (σ667 : Nat → Value), loopN (locks_Read_l1 t586) n (z662, z665, z666) = some y703 ∧ a = Fr 59 (upd (upd (upd (upd (upd σ667 0 (p0)) 2 (.pointer (some ⟨b551, 0, none⟩))) 3 (.pointer (some ⟨b579, 0, none⟩))) 13 (.int .i64 t586.1)) 14 (.int .i64 z666)) ∧ St w0 w I [ownS tyF64 v663 z662, at_octet_Reader p0 z665, cells b579 [.int .u64 t556.1, .int .u64 t561.1, .int .u64 t566.1, v663, (.slice none 0 0), (.slice none 0 0), (.slice none 0 0)], cells b551 [.int .u64 (0:Int), .int .u64 (0:Int), .int .u64 (0:Int), (.slice none 0 0), (.slice none 0 0), (.slice none 0 0), (.slice none 0 0)]] R) n668 ⟨[], t586.2, (0:Int), (.slice none 0 0), _, hm, ((fr_upd (t := 0) (v := p0) rfl).trans ((fr_upd (t := 2) (v := .pointer (some ⟨b551, 0, none⟩)) rfl).trans ((fr_upd (t := 3) (v := .pointer (some ⟨b579, 0, none⟩)) rfl).trans ((fr_upd (t := 13) (v := .int .i64 t586.1) rfl).trans ((fr_upd (t := 14) (v := .int .i64 (0:Int)) rfl).trans rfl))))), hst⟩ ?_
    rintro n674 _ w669 ⟨z662, z665, z666, v663, σ667, hm, rfl, hst⟩
    obtain ⟨n671, y672, rfl, hm, hx673⟩ := loopN_some hm
    dsimp only [locks_Read_l1] at hm
    refine wp_seq ?_
    refine wp_region_lit ?_
    refine wl_val (v := .bool (decide (z666 < t586.1))) rfl rfl rfl ?_
    refine wl_nil ?_
    refine then_n ?_
    refine wp_seq ?_
    refine bsplit (decide (z666 < t586.1)) (fun hc675 => ?_) (fun hc675 => ?_)
    · skip
      replace hm := bif_t hc675 hm
      refine wp_ift (congrArg Value.bool hc675) ?_
      refine wp_skip ?_
      refine then_n ?_
      refine wp_seq ?_
      refine wp_block ?_
      refine wp_region_St hst 9 [0, 1, 2, 3, 4, 5, 6, 7, 8] [0, 1, 0, 4, 12, 28, 63, 127, 255] [] rfl (by kernel_rfl) (by kernel_rfl) Try.mixed (by kernel_rfl) ?_
      refine ws_q (v := .pointer (some ⟨b579, 3, none⟩)) 0 [1, 2, 3, 4, 5, 6, 7, 8] (by kernel_rfl) rfl rfl (yi_run rfl (fun w hst => x_field rfl Try.underlying34 rfl Try.sizeOf31 rfl)) ?_
      refine ws_q (v := v663) 1 [2, 3, 4, 5, 6, 7, 8] (by kernel_rfl) rfl rfl (yi_run rfl (fun w hst => x_load rfl Try.isAgg31 (hst.bc2 rfl))) ?_
      refine ws_q (v := p0) 2 [3, 4, 5, 6, 7, 8] (by kernel_rfl) rfl rfl (yi_run rfl (fun w hst => rfl)) ?_
      refine ws_e1 3 (by kernel_rfl) ?_
      refine nxe [4, 5, 6, 7, 8] (by kernel_rfl) rfl rfl ?_
      clear hst
      intro w hst
      replace hst := hst.pull1
      obtain ⟨t676, ht677, hm⟩ := bind_some hm
      refine we_call rfl (x_call Try.call40 rfl (vs := [p0, .int .i64 (8:Int)]) rfl) ?_
      refine (octet_Reader_Num_ref hst.to1 ht677).mono ?_
      rintro _ w678 ⟨rfl, hst⟩
      refine ⟨_, rfl, ?_⟩
      replace hst := hst.of1
      refine ws_next (pend' := [(1, v663), (0, .pointer (some ⟨b579, 3, none⟩))]) hst (by kernel_rfl) (pk_cons rfl (yi_run rfl (fun w hst => x_load rfl Try.isAgg31 (hst.bc2 rfl))) (pk_cons rfl (yi_run rfl (fun w hst => x_field rfl Try.underlying34 rfl Try.sizeOf31 rfl)) pk_nil)) ?_
      refine ws_e1 4 (by kernel_rfl) ?_
      refine nxe [5, 6, 7, 8] (by kernel_rfl) rfl rfl ?_
      clear hst
      intro w hst
      obtain ⟨t681, ht682, hm⟩ := bind_some hm
      refine we_call rfl (x_call Try.call44 rfl (vs := [.int .u64 t676.1]) rfl) ?_
      refine (number_Back_ref hst.to0 ht682).mono ?_
      rintro _ w683 ⟨rfl, hst⟩
      refine ⟨_, rfl, ?_⟩
      replace hst := hst.of0
      refine ws_next (pend' := [(1, v663), (0, .pointer (some ⟨b579, 3, none⟩))]) hst (by kernel_rfl) (pk_cons rfl (yi_run rfl (fun w hst => x_load rfl Try.isAgg31 (hst.bc2 rfl))) (pk_cons rfl (yi_run rfl (fun w hst => x_field rfl Try.underlying34 rfl Try.sizeOf31 rfl)) pk_nil)) ?_
      refine ws_e1 5 (by kernel_rfl) ?_
      refine nxe [6, 7, 8] (by kernel_rfl) rfl rfl ?_
      clear hst
      intro w hst
      obtain ⟨b686, w687, ew688, eb689, hst⟩ := hst.lits (E := tyF64) (xs := [t681]) [[.float .f64 t681]] 41 1 rfl (Reps.cons rfl Reps.nil)
      refine we_run (v := (.slice (some ⟨b686, 0, none⟩) 1 1)) (w' := w687) rfl (x_als (by kernel_rfl) ew688 eb689) ?_
      refine ws_next (pend' := [(1, v663), (0, .pointer (some ⟨b579, 3, none⟩))]) hst (by kernel_rfl) (pk_cons rfl (yi_run rfl (fun w hst => x_load rfl Try.isAgg31 (hst.bc3 rfl))) (pk_cons rfl (yi_run rfl (fun w hst => x_field rfl Try.underlying34 rfl Try.sizeOf31 rfl)) pk_nil)) ?_
      refine ws_e1 6 (by kernel_rfl) ?_
      refine nxe [7, 8] (by kernel_rfl) rfl rfl ?_
      clear hst
      intro w hst
      obtain ⟨hg691, hm⟩ := gd_some hm
      replace hst := hst.pull2
      obtain ⟨v692, w693, hr694, hst⟩ := run_append elem_31 Try.underlying31 hst hst.src1 (room_of hg691 rfl) 31
      refine we_run (v := v692) (w' := w693) rfl (x_append rfl rfl hr694) ?_
      refine ws_next (pend' := []) hst (by kernel_rfl) pk_nil ?_
      refine ws_q (v := .pointer (some ⟨b579, 3, none⟩)) 7 [8] (by kernel_rfl) rfl rfl (yi_run rfl (fun w hst => x_field rfl Try.underlying34 rfl Try.sizeOf31 rfl)) ?_
      refine ws_e1 8 (by kernel_rfl) ?_
      refine nxe [] (by kernel_rfl) rfl rfl ?_
      clear hst
      intro w hst
      replace hst := hst.pull3
      obtain ⟨w695, hr696, hst⟩ := hst.boxStore1 (P := Try.prog) (t := 31) (cs' := [.int .u64 t556.1, .int .u64 t561.1, .int .u64 t566.1, v692, (.slice none 0 0), (.slice none 0 0), (.slice none 0 0)]) 3 v692 (one_of_sliceV hst.sv1) Try.sizeOf31 rfl rfl
      refine we_unit rfl (x_unit hr696) ?_
      refine ws_next (pend' := []) hst (by kernel_rfl) pk_nil ?_
      refine ws_nil ?_
      intro w hst
      refine blk_n ?_
      refine then_n ?_
      refine wp_region_lit ?_
      refine wl_val (v := .int .i64 (IntKind.i64.wrap (z666 + (1:Int)))) rfl rfl rfl ?_
      refine wl_val (v := .int .i64 (IntKind.i64.wrap (z666 + (1:Int)))) rfl rfl rfl ?_
      refine wl_nil ?_
      refine then_n ?_
      replace hst := hst.pull4
      replace hst := hst.pull1
      replace hst := hst.pull4
      replace hst := hst.pull3
      replace hst := hst.keep4
      obtain rfl := some_inj hm
      exact ⟨_, Nat.lt_succ_self _, (z662 ++ ([t681])), t676.2, (IntKind.i64.wrap (z666 + (1:Int))), v692, _, hx673, ((fr_upd (t := 0) (v := p0) rfl).trans ((fr_upd (t := 2) (v := .pointer (some ⟨b551, 0, none⟩)) rfl).trans ((fr_upd (t := 3) (v := .pointer (some ⟨b579, 0, none⟩)) rfl).trans ((fr_upd (t := 13) (v := .int .i64 t586.1) rfl).trans ((fr_upd (t := 14) (v := .int .i64 (IntKind.i64.wrap (z666 + (1:Int)))) rfl).trans rfl))))), hst⟩
    · skip
      replace hm := bif_f hc675 hm
      refine wp_iff (congrArg Value.bool hc675) ?_
      refine wp_exit ?_
      refine then_x ?_
      refine then_x ?_
      replace hm := inr_up hm hx673
      refine blk_x ?_
      refine then_n ?_
      replace hst := hst.pull2
      replace hst := hst.pull3
      replace hst := hst.pull3
      replace hst := hst.keep4
      obtain rfl := some_inj hm
      exact ⟨z665, z662, v663, _, hx704, ((fr_upd (t := 0) (v := p0) rfl).trans ((fr_upd (t := 2) (v := .pointer (some ⟨b551, 0, none⟩)) rfl).trans ((fr_upd (t := 3) (v := .pointer (some ⟨b579, 0, none⟩)) rfl).trans rfl))), hst⟩
  · skip
    clear hst
    rintro _ w705 ⟨z697, z700, v699, σ701, hm, rfl, hst⟩
    dsimp only [locks_Read_j0] at hm
    obtain ⟨y863, hm, hx864⟩ := bind_some hm
    refine wp_cut (fun a w => ∃ (z857 : octet_Reader) (z860 : (List (Nat × Nat))) (v859 : Value) (σ861 : Nat → Value), (locks_Read_j2 t556 t561 t566 z700) (z857, z860) = some r ∧ a = Fr 59 (upd (upd (upd σ861 0 (p0)) 2 (.pointer (some ⟨b551, 0, none⟩))) 3 (.pointer (some ⟨b579, 0, none⟩))) ∧ St w0 w I [at_octet_Reader p0 z857, cells b551 [.int .u64 (0:Int), .int .u64 (0:Int), .int .u64 (0:Int), (.slice none 0 0), (.slice none 0 0), (.slice none 0 0), (.slice none 0 0)], cells b579 [.int .u64 t556.1, .int .u64 t561.1, .int .u64 t566.1, v699, v859, (.slice none 0 0), (.slice none 0 0)], ownS tyF64 v699 z700, ownS tyF2 v859 z860] R) ?_ ?_
    · skip
      refine wp_seq ?_
      refine wp_region_lit ?_
      refine wl_val (v := p0) rfl rfl rfl ?_
      obtain ⟨t706, ht707, hm⟩ := bind_some hm
      refine wl_call rfl rfl (x_call Try.call41 rfl (vs := [p0, .int .i64 (32:Int)]) rfl) ?_
      refine (octet_Reader_Count_ref hst.to1 ht707).mono ?_
      rintro _ w708 ⟨rfl, hst⟩
      refine ⟨_, rfl, ?_⟩
      replace hst := hst.of1
      refine wl_val (v := .int .i64 (0:Int)) rfl rfl rfl ?_
      refine wl_nil ?_
      refine then_n ?_
      refine wp_block ?_
      replace hst := hst.own_nil tyF2
      obtain ⟨n818, hm⟩ := loopO_some hm
      refine wp_loop_n (fun n a w => ∃ (z812 : (List (Nat × Nat))) (z815 : octet_Reader) (z816 : Int) (v813 : Value) (σ817 : Nat → Value), loopN (locks_Read_l3 t706) n (z812, z815, z816) = some y863 ∧ a = Fr 59 (upd (upd (upd (upd (upd σ817 0 (p0)) 2 (.pointer (some ⟨b551, 0, none⟩))) 3 (.pointer (some ⟨b579, 0, none⟩))) 26 (.int .i64 t706.1)) 27 (.int .i64 z816)) ∧ St w0 w I [ownS tyF2 v813 z812, at_octet_Reader p0 z815, cells b551 [.int .u64 (0:Int), .int .u64 (0:Int), .int .u64 (0:Int), (.slice none 0 0), (.slice none 0 0), (.slice none 0 0), (.slice none 0 0)], cells b579 [.int .u64 t556.1, .int .u64 t561.1, .int .u64 t566.1, v699, v813, (.slice none 0 0), (.slice none 0 0)], ownS tyF64 v699 z700] R) n818 ⟨[], t706.2, (0:Int), (.slice none 0 0), _, hm, ((fr_upd (t := 0) (v := p0) rfl).trans ((fr_upd (t := 2) (v := .pointer (some ⟨b551, 0, none⟩)) rfl).trans ((fr_upd (t := 3) (v := .pointer (some ⟨b579, 0, none⟩)) rfl).trans ((fr_upd (t := 26) (v := .int .i64 t706.1) rfl).trans ((fr_upd (t := 27) (v := .int .i64 (0:Int)) rfl).trans rfl))))), hst⟩ ?_
      rintro n824 _ w819 ⟨z812, z815, z816, v813, σ817, hm, rfl, hst⟩
      obtain ⟨n821, y822, rfl, hm, hx823⟩ := loopN_some hm
      dsimp only [locks_Read_l3] at hm
      refine wp_seq ?_
      refine wp_region_lit ?_
      refine wl_val (v := .bool (decide (z816 < t706.1))) rfl rfl rfl ?_
      refine wl_nil ?_
      refine then_n ?_
      refine wp_seq ?_
      refine bsplit (decide (z816 < t706.1)) (fun hc825 => ?_) (fun hc825 => ?_)
      · skip
        replace hm := bif_t hc825 hm
        refine wp_ift (congrArg Value.bool hc825) ?_
        refine wp_skip ?_
        refine then_n ?_
        refine wp_seq ?_
        refine wp_block ?_
        refine wp_region_St hst 13 [0, 1, 2, 3, 4, 5, 6, 7, 8, 9, 10, 11, 12] [0, 1, 0, 4, 12, 0, 60, 124, 252, 508, 1023, 2047, 4095] [] rfl (by kernel_rfl) (by kernel_rfl) Try.mixed (by kernel_rfl) ?_
        refine ws_q (v := .pointer (some ⟨b579, 4, none⟩)) 0 [1, 2, 3, 4, 5, 6, 7, 8, 9, 10, 11, 12] (by kernel_rfl) rfl rfl (yi_run rfl (fun w hst => x_field rfl Try.underlying34 rfl Try.sizeOf32 rfl)) ?_
        refine ws_q (v := v813) 1 [2, 3, 4, 5, 6, 7, 8, 9, 10, 11, 12] (by kernel_rfl) rfl rfl (yi_run rfl (fun w hst => x_load rfl Try.isAgg32 (hst.bc3 rfl))) ?_
        refine ws_q (v := p0) 2 [3, 4, 5, 6, 7, 8, 9, 10, 11, 12] (by kernel_rfl) rfl rfl (yi_run rfl (fun w hst => rfl)) ?_
        refine ws_q (v := p0) 5 [3, 4, 6, 7, 8, 9, 10, 11, 12] (by kernel_rfl) rfl rfl (yi_run rfl (fun w hst => rfl)) ?_
        refine ws_e1 3 (by kernel_rfl) ?_
        refine nxe [4, 6, 7, 8, 9, 10, 11, 12] (by kernel_rfl) rfl rfl ?_
        clear hst
        intro w hst
        replace hst := hst.pull1
        obtain ⟨t826, ht827, hm⟩ := bind_some hm
        refine we_call rfl (x_call Try.call40 rfl (vs := [p0, .int .i64 (8:Int)]) rfl) ?_
        refine (octet_Reader_Num_ref hst.to1 ht827).mono ?_
        rintro _ w828 ⟨rfl, hst⟩
        refine ⟨_, rfl, ?_⟩
        replace hst := hst.of1
        refine ws_next (pend' := [(5, p0), (1, v813), (0, .pointer (some ⟨b579, 4, none⟩))]) hst (by kernel_rfl) (pk_cons rfl (yi_run rfl (fun w hst => rfl)) (pk_cons rfl (yi_run rfl (fun w hst => x_load rfl Try.isAgg32 (hst.bc3 rfl))) (pk_cons rfl (yi_run rfl (fun w hst => x_field rfl Try.underlying34 rfl Try.sizeOf32 rfl)) pk_nil))) ?_
        refine ws_e1 4 (by kernel_rfl) ?_
        refine nxe [6, 7, 8, 9, 10, 11, 12] (by kernel_rfl) rfl rfl ?_
        clear hst
        intro w hst
        obtain ⟨t831, ht832, hm⟩ := bind_some hm
        refine we_call rfl (x_call Try.call44 rfl (vs := [.int .u64 t826.1]) rfl) ?_
        refine (number_Back_ref hst.to0 ht832).mono ?_
        rintro _ w833 ⟨rfl, hst⟩
        refine ⟨_, rfl, ?_⟩
        replace hst := hst.of0
        refine ws_next (pend' := [(5, p0), (1, v813), (0, .pointer (some ⟨b579, 4, none⟩))]) hst (by kernel_rfl) (pk_cons rfl (yi_run rfl (fun w hst => rfl)) (pk_cons rfl (yi_run rfl (fun w hst => x_load rfl Try.isAgg32 (hst.bc3 rfl))) (pk_cons rfl (yi_run rfl (fun w hst => x_field rfl Try.underlying34 rfl Try.sizeOf32 rfl)) pk_nil))) ?_
        refine ws_e1 6 (by kernel_rfl) ?_
        refine nxe [7, 8, 9, 10, 11, 12] (by kernel_rfl) rfl rfl ?_
        clear hst
        intro w hst
        obtain ⟨t836, ht837, hm⟩ := bind_some hm
        refine we_call rfl (x_call Try.call40 rfl (vs := [p0, .int .i64 (8:Int)]) rfl) ?_
        refine (octet_Reader_Num_ref hst.to1 ht837).mono ?_
        rintro _ w838 ⟨rfl, hst⟩
        refine ⟨_, rfl, ?_⟩
        replace hst := hst.of1
        refine ws_next (pend' := [(1, v813), (0, .pointer (some ⟨b579, 4, none⟩))]) hst (by kernel_rfl) (pk_cons rfl (yi_run rfl (fun w hst => x_load rfl Try.isAgg32 (hst.bc3 rfl))) (pk_cons rfl (yi_run rfl (fun w hst => x_field rfl Try.underlying34 rfl Try.sizeOf32 rfl)) pk_nil)) ?_
        refine ws_e1 7 (by kernel_rfl) ?_
        refine nxe [8, 9, 10, 11, 12] (by kernel_rfl) rfl rfl ?_
        clear hst
        intro w hst
        obtain ⟨t841, ht842, hm⟩ := bind_some hm
        refine we_call rfl (x_call Try.call44 rfl (vs := [.int .u64 t836.1]) rfl) ?_
        refine (number_Back_ref hst.to0 ht842).mono ?_
        rintro _ w843 ⟨rfl, hst⟩
        refine ⟨_, rfl, ?_⟩
        replace hst := hst.of0
        refine ws_next (pend' := [(1, v813), (0, .pointer (some ⟨b579, 4, none⟩))]) hst (by kernel_rfl) (pk_cons rfl (yi_run rfl (fun w hst => x_load rfl Try.isAgg32 (hst.bc3 rfl))) (pk_cons rfl (yi_run rfl (fun w hst => x_field rfl Try.underlying34 rfl Try.sizeOf32 rfl)) pk_nil)) ?_
        refine ws_q (v := .agg #[.float .f64 t831, .float .f64 t841]) 8 [9, 10, 11, 12] (by kernel_rfl) rfl rfl (yi_run rfl (fun w hst => by kernel_rfl)) ?_
        refine ws_e1 9 (by kernel_rfl) ?_
        refine nxe [10, 11, 12] (by kernel_rfl) rfl rfl ?_
        clear hst
        intro w hst
        obtain ⟨b846, w847, ew848, eb849, hst⟩ := hst.lits (E := tyF2) (xs := [(t831, t841)]) [[.float .f64 t831, .float .f64 t841]] 111 1 rfl (Reps.cons rfl Reps.nil)
        refine we_run (v := (.slice (some ⟨b846, 0, none⟩) 1 1)) (w' := w847) rfl (x_als (by kernel_rfl) ew848 eb849) ?_
        refine ws_next (pend' := [(1, v813), (0, .pointer (some ⟨b579, 4, none⟩))]) hst (by kernel_rfl) (pk_cons rfl (yi_run rfl (fun w hst => x_load rfl Try.isAgg32 (hst.bc4 rfl))) (pk_cons rfl (yi_run rfl (fun w hst => x_field rfl Try.underlying34 rfl Try.sizeOf32 rfl)) pk_nil)) ?_
        refine ws_e1 10 (by kernel_rfl) ?_
        refine nxe [11, 12] (by kernel_rfl) rfl rfl ?_
        clear hst
        intro w hst
        obtain ⟨hg851, hm⟩ := gd_some hm
        replace hst := hst.pull2
        obtain ⟨v852, w853, hr854, hst⟩ := run_append elem_32 Try.underlying32 hst hst.src1 (room_of hg851 rfl) 32
        refine we_run (v := v852) (w' := w853) rfl (x_append rfl rfl hr854) ?_
        refine ws_next (pend' := []) hst (by kernel_rfl) pk_nil ?_
        refine ws_q (v := .pointer (some ⟨b579, 4, none⟩)) 11 [12] (by kernel_rfl) rfl rfl (yi_run rfl (fun w hst => x_field rfl Try.underlying34 rfl Try.sizeOf32 rfl)) ?_
        refine ws_e1 12 (by kernel_rfl) ?_
        refine nxe [] (by kernel_rfl) rfl rfl ?_
        clear hst
        intro w hst
        replace hst := hst.pull4
        obtain ⟨w855, hr856, hst⟩ := hst.boxStore1 (P := Try.prog) (t := 32) (cs' := [.int .u64 t556.1, .int .u64 t561.1, .int .u64 t566.1, v699, v852, (.slice none 0 0), (.slice none 0 0)]) 4 v852 (one_of_sliceV hst.sv1) Try.sizeOf32 rfl rfl
        refine we_unit rfl (x_unit hr856) ?_
        refine ws_next (pend' := []) hst (by kernel_rfl) pk_nil ?_
        refine ws_nil ?_
        intro w hst
        refine blk_n ?_
        refine then_n ?_
        refine wp_region_lit ?_
        refine wl_val (v := .int .i64 (IntKind.i64.wrap (z816 + (1:Int)))) rfl rfl rfl ?_
        refine wl_val (v := .int .i64 (IntKind.i64.wrap (z816 + (1:Int)))) rfl rfl rfl ?_
        refine wl_nil ?_
        refine then_n ?_
        replace hst := hst.pull5
        replace hst := hst.pull1
        replace hst := hst.pull5
        replace hst := hst.pull5
        replace hst := hst.pull4
        replace hst := hst.keep5
        obtain rfl := some_inj hm
        exact ⟨_, Nat.lt_succ_self _, (z812 ++ ([(t831, t841)])), t836.2, (IntKind.i64.wrap (z816 + (1:Int))), v852, _, hx823, ((fr_upd (t := 0) (v := p0) rfl).trans ((fr_upd (t := 2) (v := .pointer (some ⟨b551, 0, none⟩)) rfl).trans ((fr_upd (t := 3) (v := .pointer (some ⟨b579, 0, none⟩)) rfl).trans ((fr_upd (t := 26) (v := .int .i64 t706.1) rfl).trans ((fr_upd (t := 27) (v := .int .i64 (IntKind.i64.wrap (z816 + (1:Int)))) rfl).trans rfl))))), hst⟩
      · skip
        replace hm := bif_f hc825 hm
        refine wp_iff (congrArg Value.bool hc825) ?_
        refine wp_exit ?_
        refine then_x ?_
        refine then_x ?_
        replace hm := inr_up hm hx823
        refine blk_x ?_
        refine then_n ?_
        replace hst := hst.pull4
        replace hst := hst.pull4
        replace hst := hst.pull4
        replace hst := hst.pull4
        replace hst := hst.keep5
        obtain rfl := some_inj hm
        exact ⟨z815, z812, v813, _, hx864, ((fr_upd (t := 0) (v := p0) rfl).trans ((fr_upd (t := 2) (v := .pointer (some ⟨b551, 0, none⟩)) rfl).trans ((fr_upd (t := 3) (v := .pointer (some ⟨b579, 0, none⟩)) rfl).trans rfl))), hst⟩
    · skip
      clear hst
      rintro _ w865 ⟨z857, z860, v859, σ861, hm, rfl, hst⟩
      dsimp only [locks_Read_j2] at hm
      obtain ⟨y983, hm, hx984⟩ := bind_some hm
      refine wp_cut (fun a w => ∃ (z977 : octet_Reader) (z980 : (List Nat)) (v979 : Value) (σ981 : Nat → Value), (locks_Read_j4 t556 t561 t566 z700 z860) (z977, z980) = some r ∧ a = Fr 59 (upd (upd (upd σ981 0 (p0)) 2 (.pointer (some ⟨b551, 0, none⟩))) 3 (.pointer (some ⟨b579, 0, none⟩))) ∧ St w0 w I [at_octet_Reader p0 z977, cells b551 [.int .u64 (0:Int), .int .u64 (0:Int), .int .u64 (0:Int), (.slice none 0 0), (.slice none 0 0), (.slice none 0 0), (.slice none 0 0)], cells b579 [.int .u64 t556.1, .int .u64 t561.1, .int .u64 t566.1, v699, v859, v979, (.slice none 0 0)], ownS tyF64 v699 z700, ownS tyF2 v859 z860, ownS tyF64 v979 z980] R) ?_ ?_
      · skip
        refine wp_seq ?_
        refine wp_region_lit ?_
        refine wl_val (v := p0) rfl rfl rfl ?_
        obtain ⟨t866, ht867, hm⟩ := bind_some hm
        refine wl_call rfl rfl (x_call Try.call41 rfl (vs := [p0, .int .i64 (32:Int)]) rfl) ?_
        refine (octet_Reader_Count_ref hst.to1 ht867).mono ?_
        rintro _ w868 ⟨rfl, hst⟩
        refine ⟨_, rfl, ?_⟩
        replace hst := hst.of1
        refine wl_val (v := .int .i64 (0:Int)) rfl rfl rfl ?_
        refine wl_nil ?_
        refine then_n ?_
        refine wp_block ?_
        replace hst := hst.own_nil tyF64
        obtain ⟨n948, hm⟩ := loopO_some hm
        refine wp_loop_n (fun n a w => ∃ (z942 : (List Nat)) (z945 : octet_Reader) (z946 : Int) (v943 : Value) (σ947 : Nat → Value), loopN (locks_Read_l5 t866) n (z942, z945, z946) = some y983 ∧ a = Fr 59 (upd (upd (upd (upd (upd σ947 0 (p0)) 2 (.pointer (some ⟨b551, 0, none⟩))) 3 (.pointer (some ⟨b579, 0, none⟩))) 43 (.int .i64 t866.1)) 44 (.int .i64 z946)) ∧ St w0 w I [ownS tyF64 v943 z942, at_octet_Reader p0 z945, cells b551 [.int .u64 (0:Int), .int .u64 (0:Int), .int .u64 (0:Int), (.slice none 0 0), (.slice none 0 0), (.slice none 0 0), (.slice none 0 0)], cells b579 [.int .u64 t556.1, .int .u64 t561.1, .int .u64 t566.1, v699, v859, v943, (.slice none 0 0)], ownS tyF64 v699 z700, ownS tyF2 v859 z860] R) n948 ⟨[], t866.2, (0:Int), (.slice none 0 0), _, hm, ((fr_upd (t := 0) (v := p0) rfl).trans ((fr_upd (t := 2) (v := .pointer (some ⟨b551, 0, none⟩)) rfl).trans ((fr_upd (t := 3) (v := .pointer (some ⟨b579, 0, none⟩)) rfl).trans ((fr_upd (t := 43) (v := .int .i64 t866.1) rfl).trans ((fr_upd (t := 44) (v := .int .i64 (0:Int)) rfl).trans rfl))))), hst⟩ ?_
        rintro n954 _ w949 ⟨z942, z945, z946, v943, σ947, hm, rfl, hst⟩
        obtain ⟨n951, y952, rfl, hm, hx953⟩ := loopN_some hm
        dsimp only [locks_Read_l5] at hm
        refine wp_seq ?_
        refine wp_region_lit ?_
        refine wl_val (v := .bool (decide (z946 < t866.1))) rfl rfl rfl ?_
        refine wl_nil ?_
        refine then_n ?_
        refine wp_seq ?_
        refine bsplit (decide (z946 < t866.1)) (fun hc955 => ?_) (fun hc955 => ?_)
        · skip
          replace hm := bif_t hc955 hm
          refine wp_ift (congrArg Value.bool hc955) ?_
          refine wp_skip ?_
          refine then_n ?_
          refine wp_seq ?_
          refine wp_block ?_
          refine wp_region_St hst 9 [0, 1, 2, 3, 4, 5, 6, 7, 8] [0, 1, 0, 4, 12, 28, 63, 127, 255] [] rfl (by kernel_rfl) (by kernel_rfl) Try.mixed (by kernel_rfl) ?_
          refine ws_q (v := .pointer (some ⟨b579, 5, none⟩)) 0 [1, 2, 3, 4, 5, 6, 7, 8] (by kernel_rfl) rfl rfl (yi_run rfl (fun w hst => x_field rfl Try.underlying34 rfl Try.sizeOf31 rfl)) ?_
          refine ws_q (v := v943) 1 [2, 3, 4, 5, 6, 7, 8] (by kernel_rfl) rfl rfl (yi_run rfl (fun w hst => x_load rfl Try.isAgg31 (hst.bc3 rfl))) ?_
          refine ws_q (v := p0) 2 [3, 4, 5, 6, 7, 8] (by kernel_rfl) rfl rfl (yi_run rfl (fun w hst => rfl)) ?_
          refine ws_e1 3 (by kernel_rfl) ?_
          refine nxe [4, 5, 6, 7, 8] (by kernel_rfl) rfl rfl ?_
          clear hst
          intro w hst
          replace hst := hst.pull1
          obtain ⟨t956, ht957, hm⟩ := bind_some hm
          refine we_call rfl (x_call Try.call40 rfl (vs := [p0, .int .i64 (8:Int)]) rfl) ?_
          refine (octet_Reader_Num_ref hst.to1 ht957).mono ?_
          rintro _ w958 ⟨rfl, hst⟩
          refine ⟨_, rfl, ?_⟩
          replace hst := hst.of1
          refine ws_next (pend' := [(1, v943), (0, .pointer (some ⟨b579, 5, none⟩))]) hst (by kernel_rfl) (pk_cons rfl (yi_run rfl (fun w hst => x_load rfl Try.isAgg31 (hst.bc3 rfl))) (pk_cons rfl (yi_run rfl (fun w hst => x_field rfl Try.underlying34 rfl Try.sizeOf31 rfl)) pk_nil)) ?_
          refine ws_e1 4 (by kernel_rfl) ?_
          refine nxe [5, 6, 7, 8] (by kernel_rfl) rfl rfl ?_
          clear hst
          intro w hst
          obtain ⟨t961, ht962, hm⟩ := bind_some hm
          refine we_call rfl (x_call Try.call44 rfl (vs := [.int .u64 t956.1]) rfl) ?_
          refine (number_Back_ref hst.to0 ht962).mono ?_
          rintro _ w963 ⟨rfl, hst⟩
          refine ⟨_, rfl, ?_⟩
          replace hst := hst.of0
          refine ws_next (pend' := [(1, v943), (0, .pointer (some ⟨b579, 5, none⟩))]) hst (by kernel_rfl) (pk_cons rfl (yi_run rfl (fun w hst => x_load rfl Try.isAgg31 (hst.bc3 rfl))) (pk_cons rfl (yi_run rfl (fun w hst => x_field rfl Try.underlying34 rfl Try.sizeOf31 rfl)) pk_nil)) ?_
          refine ws_e1 5 (by kernel_rfl) ?_
          refine nxe [6, 7, 8] (by kernel_rfl) rfl rfl ?_
          clear hst
          intro w hst
          obtain ⟨b966, w967, ew968, eb969, hst⟩ := hst.lits (E := tyF64) (xs := [t961]) [[.float .f64 t961]] 41 1 rfl (Reps.cons rfl Reps.nil)
          refine we_run (v := (.slice (some ⟨b966, 0, none⟩) 1 1)) (w' := w967) rfl (x_als (by kernel_rfl) ew968 eb969) ?_
          refine ws_next (pend' := [(1, v943), (0, .pointer (some ⟨b579, 5, none⟩))]) hst (by kernel_rfl) (pk_cons rfl (yi_run rfl (fun w hst => x_load rfl Try.isAgg31 (hst.bc4 rfl))) (pk_cons rfl (yi_run rfl (fun w hst => x_field rfl Try.underlying34 rfl Try.sizeOf31 rfl)) pk_nil)) ?_
          refine ws_e1 6 (by kernel_rfl) ?_
          refine nxe [7, 8] (by kernel_rfl) rfl rfl ?_
          clear hst
          intro w hst
          obtain ⟨hg971, hm⟩ := gd_some hm
          replace hst := hst.pull2
          obtain ⟨v972, w973, hr974, hst⟩ := run_append elem_31 Try.underlying31 hst hst.src1 (room_of hg971 rfl) 31
          refine we_run (v := v972) (w' := w973) rfl (x_append rfl rfl hr974) ?_
          refine ws_next (pend' := []) hst (by kernel_rfl) pk_nil ?_
          refine ws_q (v := .pointer (some ⟨b579, 5, none⟩)) 7 [8] (by kernel_rfl) rfl rfl (yi_run rfl (fun w hst => x_field rfl Try.underlying34 rfl Try.sizeOf31 rfl)) ?_
          refine ws_e1 8 (by kernel_rfl) ?_
          refine nxe [] (by kernel_rfl) rfl rfl ?_
          clear hst
          intro w hst
          replace hst := hst.pull4
          obtain ⟨w975, hr976, hst⟩ := hst.boxStore1 (P := Try.prog) (t := 31) (cs' := [.int .u64 t556.1, .int .u64 t561.1, .int .u64 t566.1, v699, v859, v972, (.slice none 0 0)]) 5 v972 (one_of_sliceV hst.sv1) Try.sizeOf31 rfl rfl
          refine we_unit rfl (x_unit hr976) ?_
          refine ws_next (pend' := []) hst (by kernel_rfl) pk_nil ?_
          refine ws_nil ?_
          intro w hst
          refine blk_n ?_
          refine then_n ?_
          refine wp_region_lit ?_
          refine wl_val (v := .int .i64 (IntKind.i64.wrap (z946 + (1:Int)))) rfl rfl rfl ?_
          refine wl_val (v := .int .i64 (IntKind.i64.wrap (z946 + (1:Int)))) rfl rfl rfl ?_
          refine wl_nil ?_
          refine then_n ?_
          replace hst := hst.pull6
          replace hst := hst.pull6
          replace hst := hst.pull2
          replace hst := hst.pull6
          replace hst := hst.pull6
          replace hst := hst.pull5
          replace hst := hst.keep6
          obtain rfl := some_inj hm
          exact ⟨_, Nat.lt_succ_self _, (z942 ++ ([t961])), t956.2, (IntKind.i64.wrap (z946 + (1:Int))), v972, _, hx953, ((fr_upd (t := 0) (v := p0) rfl).trans ((fr_upd (t := 2) (v := .pointer (some ⟨b551, 0, none⟩)) rfl).trans ((fr_upd (t := 3) (v := .pointer (some ⟨b579, 0, none⟩)) rfl).trans ((fr_upd (t := 43) (v := .int .i64 t866.1) rfl).trans ((fr_upd (t := 44) (v := .int .i64 (IntKind.i64.wrap (z946 + (1:Int)))) rfl).trans rfl))))), hst⟩
        · skip
          replace hm := bif_f hc955 hm
          refine wp_iff (congrArg Value.bool hc955) ?_
          refine wp_exit ?_
          refine then_x ?_
          refine then_x ?_
          replace hm := inr_up hm hx953
          refine blk_x ?_
          refine then_n ?_
          replace hst := hst.pull5
          replace hst := hst.pull5
          replace hst := hst.pull5
          replace hst := hst.pull5
          replace hst := hst.pull5
          replace hst := hst.keep6
          obtain rfl := some_inj hm
          exact ⟨z945, z942, v943, _, hx984, ((fr_upd (t := 0) (v := p0) rfl).trans ((fr_upd (t := 2) (v := .pointer (some ⟨b551, 0, none⟩)) rfl).trans ((fr_upd (t := 3) (v := .pointer (some ⟨b579, 0, none⟩)) rfl).trans rfl))), hst⟩
      · skip
        clear hst
        rintro _ w985 ⟨z977, z980, v979, σ981, hm, rfl, hst⟩
        dsimp only [locks_Read_j4] at hm
        refine wp_seq ?_
        refine wp_region_lit ?_
        refine wl_val (v := p0) rfl rfl rfl ?_
        obtain ⟨t986, ht987, hm⟩ := bind_some hm
        refine wl_call rfl rfl (x_call Try.call43 rfl (vs := [p0, .int .i64 (257:Int)]) rfl) ?_
        refine (octet_Reader_Bytes_ref hst.to1 ht987).mono ?_
        rintro _ w988 ⟨v991, rfl, hst⟩
        refine ⟨_, rfl, ?_⟩
        replace hst := hst.of2
        refine wl_val (v := .pointer (some ⟨b579, 6, none⟩)) rfl rfl (x_field rfl Try.underlying34 rfl Try.sizeOf22 rfl) ?_
        replace hst := hst.pull3
        obtain ⟨w993, hr994, hst⟩ := hst.boxStore1 (P := Try.prog) (t := 22) (cs' := [.int .u64 t556.1, .int .u64 t561.1, .int .u64 t566.1, v699, v859, v979, v991]) 6 v991 (one_of_sliceV hst.sv1) Try.sizeOf22 rfl rfl
        refine wl_unit rfl rfl (x_unit hr994) ?_
        refine wl_nil ?_
        refine then_n ?_
        refine wp_seq ?_
        refine wp_region_lit ?_
        refine wl_val (v := .agg #[.int .u64 t556.1, .int .u64 t561.1, .int .u64 t566.1, v699, v859, v979, v991]) rfl rfl (x_loadN (cs := [.int .u64 t556.1, .int .u64 t561.1, .int .u64 t566.1, v699, v859, v979, v991]) rfl Try.isAgg34 Try.sizeOf34 (hst.bcs0 0 rfl)) ?_
        replace hst := hst.pull3
        obtain ⟨w995, hr996, hst⟩ := hst.boxStore (P := Try.prog) (t := 34) (cs' := [.int .u64 t556.1, .int .u64 t561.1, .int .u64 t566.1, v699, v859, v979, v991]) 0 (.agg #[.int .u64 t556.1, .int .u64 t561.1, .int .u64 t566.1, v699, v859, v979, v991]) Try.sizeOf34 (Nat.le_of_ble_eq_true rfl) (ones_cons rfl (ones_cons rfl (ones_cons rfl (ones_cons (one_of_sliceV hst.sv4) (ones_cons (one_of_sliceV hst.sv5) (ones_cons (one_of_sliceV hst.sv6) (ones_cons (one_of_sliceV hst.sv2) ones_nil))))))) (by kernel_rfl)
        refine wl_unit rfl rfl (x_unit hr996) ?_
        refine wl_nil ?_
        refine then_n ?_
        refine wp_ret ?_
        obtain rfl := some_inj hm
        refine post_ret (vs := [.agg #[.int .u64 t556.1, .int .u64 t561.1, .int .u64 t566.1, v699, v859, v979, v991]]) Try.results53 (rvs_cons (rv_cell (cs := [.int .u64 t556.1, .int .u64 t561.1, .int .u64 t566.1, v699, v859, v979, v991]) rfl Try.isAgg34 Try.sizeOf34 (hst.bcs0 0 rfl)) rvs_nil) ?_
        replace hst := hst.pull3
        replace hst := hst.pull3
        replace hst := hst.pull6
        replace hst := hst.pull6
        replace hst := hst.pull6
        exact ⟨v699, v859, v979, v991, rfl, hst.keep5⟩

theorem octet_Reader_Flag_ref {w0 w : World} {I : HL} {R : SP} {a0 : octet_Reader} {p0 : Value}  (hst : St w0 w I [at_octet_Reader p0 a0] R) {r : (Bool × octet_Reader)} (hm : octet_Reader_Flag a0 = some r) :
    Calls Try.prog 42 #[p0] w fun e w' => e = .returned (.bool r.1) ∧ St w0 w' I [at_octet_Reader p0 r.2] R := by
  unfold octet_Reader_Flag at hm
  refine calls_start (args := [p0]) Try.func42 rfl Try.ntmps42 (Nat.le_of_ble_eq_true rfl) ?_
  refine wp_seq ?_
  refine wp_region_lit ?_
  refine wl_val (v := .bool false) rfl rfl rfl ?_
  refine wl_nil ?_
  refine then_n ?_
  refine wp_seq ?_
  refine wp_region_lit ?_
  refine wl_val (v := p0) rfl rfl rfl ?_
  obtain ⟨t183, ht184, hm⟩ := bind_some hm
  refine wl_call rfl rfl (x_call Try.call40 rfl (vs := [p0, .int .i64 (1:Int)]) rfl) ?_
  refine (octet_Reader_Num_ref hst.to1 ht184).mono ?_
  rintro _ w185 ⟨rfl, hst⟩
  refine ⟨_, rfl, ?_⟩
  replace hst := hst.of1
  refine wl_val (v := .int .u64 t183.1) rfl rfl rfl ?_
  refine wl_nil ?_
  refine then_n ?_
  refine wp_seq ?_
  refine wp_seq ?_
  refine wp_region_lit ?_
  refine wl_val (v := .int .u64 t183.1) rfl rfl rfl ?_
  refine wl_val (v := .bool (decide (t183.1 > (1:Int)))) rfl rfl rfl ?_
  refine wl_nil ?_
  refine then_n ?_
  refine bsplit (decide (t183.1 > (1:Int))) (fun hc188 => ?_) (fun hc188 => ?_)
  · skip
    replace hm := bif_t hc188 hm
    refine wp_ift (congrArg Value.bool hc188) ?_
    refine wp_seq ?_
    refine wp_region_lit ?_
    refine wl_val (v := p0) rfl rfl rfl ?_
    obtain ⟨t189, ht190, hm⟩ := bind_some hm
    refine wl_call rfl rfl (x_call Try.call66 rfl (vs := [p0]) rfl) ?_
    refine (octet_Reader_spoil_ref hst.to1 ht190).mono ?_
    rintro _ w191 ⟨rfl, hst⟩
    refine ⟨_, rfl, ?_⟩
    replace hst := hst.of1
    refine wl_nil ?_
    refine then_n ?_
    refine wp_seq ?_
    refine wp_region_lit ?_
    refine wl_val (v := .bool false) rfl rfl rfl ?_
    refine wl_nil ?_
    refine then_n ?_
    refine wp_ret ?_
    refine then_r ?_
    obtain rfl := some_inj hm
    refine post_ret (vs := [.bool false]) Try.results42 (rvs_cons (rv_tmp rfl) rvs_nil) ?_
    exact ⟨rfl, hst.keep1⟩
  · skip
    replace hm := bif_f hc188 hm
    refine wp_iff (congrArg Value.bool hc188) ?_
    refine wp_skip ?_
    refine then_n ?_
    refine wp_seq ?_
    refine wp_region_lit ?_
    refine wl_val (v := .int .u64 t183.1) rfl rfl rfl ?_
    refine wl_val (v := .bool (t183.1 == (1:Int))) rfl rfl rfl ?_
    refine wl_val (v := .bool (t183.1 == (1:Int))) rfl rfl rfl ?_
    refine wl_nil ?_
    refine then_n ?_
    refine wp_ret ?_
    obtain rfl := some_inj hm
    refine post_ret (vs := [.bool (t183.1 == (1:Int))]) Try.results42 (rvs_cons (rv_tmp rfl) rvs_nil) ?_
    exact ⟨rfl, hst.keep1⟩

end Go.Proofs.Ytijcfglomdfglaa
