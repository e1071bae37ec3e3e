/- The Go functions refine their models, part 0. -/
import Derived.Test.YtijcfglomdfglaaCommandRepliesT
set_option linter.unusedVariables false
set_option linter.unusedSimpArgs false
set_option maxRecDepth 100000
set_option maxHeartbeats 4000000
namespace Go.Proofs.Ytijcfglomdfglaa
open Go Go.V
attribute [local irreducible] wpList Code.wp wpQuiet Calls bodyPost Oper.wp wpS Nx PendOK YieldsIn
theorem octet_Writer_lay_ref {w0 w : World} {I : HL} {R : SP} {a0 : octet_Writer} {p0 : Value} {a1 : (List Int)} {r1_0 : Value} (f1_0 : Rd (tyInt .u8) R I r1_0 a1) (hst : St w0 w I [at_octet_Writer p0 a0] R) {r : (octet_Writer)} (hm : octet_Writer_lay a0 a1 = some r) :
    Calls Try.prog 61 #[p0, r1_0] w fun e w' => e = .returned (p0) ∧ St w0 w' I [at_octet_Writer p0 r] R := by
  unfold octet_Writer_lay at hm
  refine calls_start (args := [p0, r1_0]) Try.func61 rfl Try.ntmps61 (Nat.le_of_ble_eq_true rfl) ?_
  refine wp_seq ?_
  refine wp_region_lit ?_
  refine wl_val (v := .pointer none) rfl rfl rfl ?_
  refine wl_nil ?_
  refine then_n ?_
  refine wp_seq ?_
  refine wp_region_lit ?_
  refine wl_val (v := p0) rfl rfl rfl ?_
  refine wl_val (v := p0) rfl rfl rfl ?_
  obtain ⟨b66, v67, rfl, hst'⟩ := at_octet_Writer_open hst
  clear hst
  have hst := hst'
  clear hst'
  refine wl_val (v := .pointer (some ⟨b66, 0, none⟩)) rfl rfl rfl ?_
  refine wl_val (v := .pointer (some ⟨b66, 0, none⟩)) rfl rfl (x_field rfl Try.underlying58 rfl Try.sizeOf22 rfl) ?_
  refine wl_val (v := v67) rfl rfl (x_load rfl Try.isAgg22 (hst.bc0 rfl)) ?_
  refine wl_val (v := r1_0) rfl rfl rfl ?_
  obtain ⟨hg69, hm⟩ := gd_some hm
  replace hst := hst.pull1
  obtain ⟨v70, w71, hr72, hst⟩ := run_append elem_22 Try.underlying22 hst (Src.of_rd hst f1_0 flat_int) (room_of hg69 rfl) 22
  refine wl_run (v := v70) (w' := w71) rfl rfl (x_append rfl rfl hr72) ?_
  refine wl_val (v := .pointer (some ⟨b66, 0, none⟩)) rfl rfl rfl ?_
  refine wl_val (v := .pointer (some ⟨b66, 0, none⟩)) rfl rfl (x_field rfl Try.underlying58 rfl Try.sizeOf22 rfl) ?_
  replace hst := hst.pull1
  obtain ⟨w73, hr74, hst⟩ := hst.boxStore1 (P := Try.prog) (t := 22) (cs' := [v70]) 0 v70 (one_of_sliceV hst.sv1) Try.sizeOf22 rfl rfl
  refine wl_unit rfl rfl (x_unit hr74) ?_
  refine wl_nil ?_
  refine then_n ?_
  refine wp_seq ?_
  refine wp_region_lit ?_
  refine wl_val (v := .pointer (some ⟨b66, 0, none⟩)) rfl rfl rfl ?_
  refine wl_val (v := .pointer (some ⟨b66, 0, none⟩)) rfl rfl rfl ?_
  refine wl_nil ?_
  refine then_n ?_
  refine wp_ret ?_
  replace hst := hst.pull1
  replace hst := hst.pull1
  replace hst := at_octet_Writer_close (pv := .pointer (some ⟨b66, 0, none⟩)) (x := ({ p := (a0.p ++ a1) } : octet_Writer)) hst rfl
  obtain rfl := some_inj hm
  refine post_ret (vs := [.pointer (some ⟨b66, 0, none⟩)]) Try.results61 (rvs_cons (rv_tmp rfl) rvs_nil) ?_
  exact ⟨rfl, hst.keep1⟩

theorem octet_Writer_Num_ref {w0 w : World} {I : HL} {R : SP} {a0 : octet_Writer} {p0 : Value} {a1 : Int} {a2 : Int}  (hst : St w0 w I [at_octet_Writer p0 a0] R) {r : (octet_Writer)} (hm : octet_Writer_Num a0 a1 a2 = some r) :
    Calls Try.prog 27 #[p0, .int .u64 a1, .int .i64 a2] w fun e w' => e = .returned (p0) ∧ St w0 w' I [at_octet_Writer p0 r] R := by
  unfold octet_Writer_Num at hm
  refine calls_start (args := [p0, .int .u64 a1, .int .i64 a2]) Try.func27 rfl Try.ntmps27 (Nat.le_of_ble_eq_true rfl) ?_
  refine wp_seq ?_
  refine wp_region_lit ?_
  refine wl_val (v := .pointer none) rfl rfl rfl ?_
  refine wl_nil ?_
  refine then_n ?_
  refine wp_seq ?_
  refine wp_seq ?_
  refine wp_region_lit ?_
  refine wl_val (v := .int .i64 a2) rfl rfl rfl ?_
  refine wl_val (v := .int .i64 (0:Int)) rfl rfl rfl ?_
  refine wl_nil ?_
  refine then_n ?_
  refine wp_block ?_
  obtain ⟨n134, hm⟩ := loopO_some hm
  refine wp_loop_n (fun n a w => ∃ (z131 : octet_Writer) (z132 : Int) (σ133 : Nat → Value), loopN (octet_Writer_Num_l0 a2 a1) n (z131, z132) = some r ∧ a = Fr 22 (upd (upd (upd (upd σ133 0 (p0)) 1 (.int .u64 a1)) 8 (.int .i64 a2)) 9 (.int .i64 z132)) ∧ St w0 w I [at_octet_Writer p0 z131] R) n134 ⟨a0, (0:Int), _, hm, ((fr_upd (t := 0) (v := p0) rfl).trans ((fr_upd (t := 1) (v := .int .u64 a1) rfl).trans ((fr_upd (t := 8) (v := .int .i64 a2) rfl).trans ((fr_upd (t := 9) (v := .int .i64 (0:Int)) rfl).trans rfl)))), hst⟩ ?_
  rintro n140 _ w135 ⟨z131, z132, σ133, hm, rfl, hst⟩
  obtain ⟨n137, y138, rfl, hm, hx139⟩ := loopN_some hm
  dsimp only [octet_Writer_Num_l0] at hm
  refine wp_seq ?_
  refine wp_region_lit ?_
  refine wl_val (v := .bool (decide (z132 < a2))) rfl rfl rfl ?_
  refine wl_nil ?_
  refine then_n ?_
  refine wp_seq ?_
  refine bsplit (decide (z132 < a2)) (fun hc141 => ?_) (fun hc141 => ?_)
  · skip
    replace hm := bif_t hc141 hm
    refine wp_ift (congrArg Value.bool hc141) ?_
    refine wp_skip ?_
    refine then_n ?_
    refine wp_seq ?_
    refine wp_block ?_
    refine wp_seq ?_
    refine wp_region_lit ?_
    refine wl_val (v := .int .i64 z132) rfl rfl rfl ?_
    refine wl_val (v := .int .i64 z132) rfl rfl rfl ?_
    refine wl_nil ?_
    refine then_n ?_
    refine wp_region_lit ?_
    refine wl_val (v := p0) rfl rfl rfl ?_
    refine wl_val (v := .int .u64 a1) rfl rfl rfl ?_
    refine wl_val (v := .int .i64 z132) rfl rfl rfl ?_
    refine wl_val (v := .int .i64 (IntKind.i64.wrap ((8:Int) * z132))) rfl rfl rfl ?_
    obtain ⟨hg142, hm⟩ := gd_some hm
    refine wl_val (v := .int .u64 (iShr .u64 a1 (IntKind.i64.wrap ((8:Int) * z132)))) rfl rfl (x_shr (of_decide_eq_true hg142) rfl rfl) ?_
    refine wl_val (v := .int .u8 (IntKind.u8.wrap (iShr .u64 a1 (IntKind.i64.wrap ((8:Int) * z132))))) rfl rfl (by kernel_rfl) ?_
    obtain ⟨b143, w144, ew145, eb146, hst⟩ := hst.lits (E := (tyInt .u8)) (xs := [(IntKind.u8.wrap (iShr .u64 a1 (IntKind.i64.wrap ((8:Int) * z132))))]) [[.int .u8 (IntKind.u8.wrap (iShr .u64 a1 (IntKind.i64.wrap ((8:Int) * z132))))]] 5 1 rfl (Reps.cons rfl Reps.nil)
    refine wl_run (v := (.slice (some ⟨b143, 0, none⟩) 1 1)) (w' := w144) rfl rfl (x_als (by kernel_rfl) ew145 eb146) ?_
    obtain ⟨css148, hq149, hst⟩ := hst.own_open
    replace hst := hst.pull1
    obtain ⟨t150, ht151, hm⟩ := bind_some hm
    refine wl_call rfl rfl (x_call Try.call61 rfl (vs := [p0, (.slice (some ⟨b143, 0, none⟩) 1 1)]) rfl) ?_
    refine (octet_Writer_lay_ref (hst.sub.rdrow0 hq149) hst.to1 ht151).mono ?_
    rintro _ w152 ⟨rfl, hst⟩
    refine ⟨_, rfl, ?_⟩
    replace hst := hst.of1
    replace hst := hst.pull1
    replace hst := hst.own_close hq149
    refine wl_nil ?_
    refine blk_n ?_
    refine then_n ?_
    refine wp_region_lit ?_
    refine wl_val (v := .int .i64 (IntKind.i64.wrap (z132 + (1:Int)))) rfl rfl rfl ?_
    refine wl_val (v := .int .i64 (IntKind.i64.wrap (z132 + (1:Int)))) rfl rfl rfl ?_
    refine wl_nil ?_
    refine then_n ?_
    replace hst := hst.pull1
    replace hst := hst.keep1
    obtain rfl := some_inj hm
    exact ⟨_, Nat.lt_succ_self _, t150, (IntKind.i64.wrap (z132 + (1:Int))), _, hx139, ((fr_upd (t := 0) (v := p0) rfl).trans ((fr_upd (t := 1) (v := .int .u64 a1) rfl).trans ((fr_upd (t := 8) (v := .int .i64 a2) rfl).trans ((fr_upd (t := 9) (v := .int .i64 (IntKind.i64.wrap (z132 + (1:Int)))) rfl).trans rfl)))), hst⟩
  · skip
    replace hm := bif_f hc141 hm
    refine wp_iff (congrArg Value.bool hc141) ?_
    refine wp_exit ?_
    refine then_x ?_
    refine then_x ?_
    replace hm := inr_up hm hx139
    refine blk_x ?_
    refine then_n ?_
    refine wp_seq ?_
    refine wp_region_lit ?_
    refine wl_val (v := p0) rfl rfl rfl ?_
    refine wl_val (v := p0) rfl rfl rfl ?_
    refine wl_nil ?_
    refine then_n ?_
    refine wp_ret ?_
    obtain rfl := some_inj hm
    refine post_ret (vs := [p0]) Try.results27 (rvs_cons (rv_tmp rfl) rvs_nil) ?_
    exact ⟨rfl, hst.keep1⟩

theorem octet_Writer_Done_ref {w0 w : World} {I : HL} {R : SP} {a0 : octet_Writer} {p0 : Value}  (hst : St w0 w I [at_octet_Writer p0 a0] R) {r : ((List Int))} (hm : octet_Writer_Done a0 = some r) :
    Calls Try.prog 14 #[p0] w fun e w' => ∃ (q0_0 : Value), e = .returned (q0_0) ∧ St w0 w' I [ownS (tyInt .u8) q0_0 r] R := by
  unfold octet_Writer_Done at hm
  refine calls_start (args := [p0]) Try.func14 rfl Try.ntmps14 (Nat.le_of_ble_eq_true rfl) ?_
  refine wp_seq ?_
  refine wp_region_lit ?_
  refine wl_val (v := (.slice none 0 0)) rfl rfl rfl ?_
  refine wl_nil ?_
  refine then_n ?_
  refine wp_seq ?_
  refine wp_region_lit ?_
  refine wl_val (v := p0) rfl rfl rfl ?_
  obtain ⟨b63, v64, rfl, hst'⟩ := at_octet_Writer_open hst
  clear hst
  have hst := hst'
  clear hst'
  refine wl_val (v := .pointer (some ⟨b63, 0, none⟩)) rfl rfl rfl ?_
  refine wl_val (v := .pointer (some ⟨b63, 0, none⟩)) rfl rfl (x_field rfl Try.underlying58 rfl Try.sizeOf22 rfl) ?_
  refine wl_val (v := v64) rfl rfl (x_load rfl Try.isAgg22 (hst.bc0 rfl)) ?_
  refine wl_val (v := v64) rfl rfl rfl ?_
  refine wl_nil ?_
  refine then_n ?_
  refine wp_ret ?_
  obtain rfl := some_inj hm
  refine post_ret (vs := [v64]) Try.results14 (rvs_cons (rv_tmp rfl) rvs_nil) ?_
  replace hst := hst.pull1
  exact ⟨v64, rfl, hst.keep1⟩

theorem math_IsNaN_ref {w0 w : World} {I : HL} {R : SP} {a0 : Nat}  (hst : St w0 w I [] R) {r : (Bool)} (hm : math_IsNaN a0 = some r) :
    Calls Try.prog 64 #[.float .f64 a0] w fun e w' => e = .returned (.bool r) ∧ St w0 w' I [] R := by
  unfold math_IsNaN at hm
  refine calls_start (args := [.float .f64 a0]) Try.func64 rfl Try.ntmps64 (Nat.le_of_ble_eq_true rfl) ?_
  refine wp_seq ?_
  refine wp_region_lit ?_
  refine wl_val (v := .bool false) rfl rfl rfl ?_
  refine wl_nil ?_
  refine then_n ?_
  refine wp_seq ?_
  refine wp_region_lit ?_
  refine wl_val (v := .float .f64 a0) rfl rfl rfl ?_
  refine wl_val (v := .float .f64 a0) rfl rfl rfl ?_
  refine wl_val (v := .bool (fNe a0 a0)) rfl rfl rfl ?_
  refine wl_val (v := .bool (fNe a0 a0)) rfl rfl rfl ?_
  refine wl_nil ?_
  refine then_n ?_
  refine wp_ret ?_
  obtain rfl := some_inj hm
  refine post_ret (vs := [.bool (fNe a0 a0)]) Try.results64 (rvs_cons (rv_tmp rfl) rvs_nil) ?_
  exact ⟨rfl, hst.keep0⟩

theorem number_Rank_ref {w0 w : World} {I : HL} {R : SP} {a0 : Nat}  (hst : St w0 w I [] R) {r : (Int)} (hm : number_Rank a0 = some r) :
    Calls Try.prog 39 #[.float .f64 a0] w fun e w' => e = .returned (.int .u64 r) ∧ St w0 w' I [] R := by
  unfold number_Rank at hm
  refine calls_start (args := [.float .f64 a0]) Try.func39 rfl Try.ntmps39 (Nat.le_of_ble_eq_true rfl) ?_
  refine wp_seq ?_
  refine wp_region_lit ?_
  refine wl_val (v := .int .u64 (0:Int)) rfl rfl rfl ?_
  refine wl_nil ?_
  refine then_n ?_
  refine wp_seq ?_
  refine wp_seq ?_
  refine wp_region_lit ?_
  refine wl_val (v := .float .f64 a0) rfl rfl rfl ?_
  obtain ⟨t107, ht108, hm⟩ := bind_some hm
  refine wl_call rfl rfl (x_call Try.call64 rfl (vs := [.float .f64 a0]) rfl) ?_
  refine (math_IsNaN_ref hst.to0 ht108).mono ?_
  rintro _ w109 ⟨rfl, hst⟩
  refine ⟨_, rfl, ?_⟩
  replace hst := hst.of0
  refine wl_nil ?_
  refine then_n ?_
  refine bsplit t107 (fun hc112 => ?_) (fun hc112 => ?_)
  · skip
    replace hm := bif_t hc112 hm
    refine wp_ift (congrArg Value.bool hc112) ?_
    refine wp_seq ?_
    refine wp_region_lit ?_
    refine wl_val (v := .int .u64 (18446744073709551615:Int)) rfl rfl rfl ?_
    refine wl_nil ?_
    refine then_n ?_
    refine wp_ret ?_
    refine then_r ?_
    obtain rfl := some_inj hm
    refine post_ret (vs := [.int .u64 (18446744073709551615:Int)]) Try.results39 (rvs_cons (rv_tmp rfl) rvs_nil) ?_
    exact ⟨rfl, hst.keep0⟩
  · skip
    replace hm := bif_f hc112 hm
    refine wp_iff (congrArg Value.bool hc112) ?_
    refine wp_skip ?_
    refine then_n ?_
    refine wp_seq ?_
    refine wp_region_lit ?_
    refine wl_val (v := .float .f64 a0) rfl rfl rfl ?_
    refine wl_val (v := .int .u64 (Int.ofNat a0)) rfl rfl (by kernel_rfl) ?_
    refine wl_val (v := .int .u64 (Int.ofNat a0)) rfl rfl rfl ?_
    refine wl_nil ?_
    refine then_n ?_
    refine wp_seq ?_
    refine wp_seq ?_
    refine wp_region_lit ?_
    refine wl_val (v := .int .u64 (Int.ofNat a0)) rfl rfl rfl ?_
    refine wl_val (v := .int .u64 (iShr .u64 (Int.ofNat a0) (63:Int))) rfl rfl (x_shr (by decide) rfl rfl) ?_
    refine wl_val (v := .bool ((iShr .u64 (Int.ofNat a0) (63:Int)) == (1:Int))) rfl rfl rfl ?_
    refine wl_nil ?_
    refine then_n ?_
    refine bsplit ((iShr .u64 (Int.ofNat a0) (63:Int)) == (1:Int)) (fun hc113 => ?_) (fun hc113 => ?_)
    · skip
      replace hm := bif_t hc113 hm
      refine wp_ift (congrArg Value.bool hc113) ?_
      refine wp_seq ?_
      refine wp_region_lit ?_
      refine wl_val (v := .int .u64 (Int.ofNat a0)) rfl rfl rfl ?_
      refine wl_val (v := .int .u64 (bXor .u64 ((18446744073709551615):Int) (Int.ofNat a0))) rfl rfl (by kernel_rfl) ?_
      refine wl_val (v := .int .u64 (bXor .u64 ((18446744073709551615):Int) (Int.ofNat a0))) rfl rfl rfl ?_
      refine wl_nil ?_
      refine then_n ?_
      refine wp_ret ?_
      refine then_r ?_
      obtain rfl := some_inj hm
      refine post_ret (vs := [.int .u64 (bXor .u64 ((18446744073709551615):Int) (Int.ofNat a0))]) Try.results39 (rvs_cons (rv_tmp rfl) rvs_nil) ?_
      exact ⟨rfl, hst.keep0⟩
    · skip
      replace hm := bif_f hc113 hm
      refine wp_iff (congrArg Value.bool hc113) ?_
      refine wp_skip ?_
      refine then_n ?_
      refine wp_seq ?_
      refine wp_region_lit ?_
      refine wl_val (v := .int .u64 (Int.ofNat a0)) rfl rfl rfl ?_
      refine wl_val (v := .int .u64 (bOr .u64 (Int.ofNat a0) (9223372036854775808:Int))) rfl rfl rfl ?_
      refine wl_val (v := .int .u64 (bOr .u64 (Int.ofNat a0) (9223372036854775808:Int))) rfl rfl rfl ?_
      refine wl_nil ?_
      refine then_n ?_
      refine wp_ret ?_
      obtain rfl := some_inj hm
      refine post_ret (vs := [.int .u64 (bOr .u64 (Int.ofNat a0) (9223372036854775808:Int))]) Try.results39 (rvs_cons (rv_tmp rfl) rvs_nil) ?_
      exact ⟨rfl, hst.keep0⟩

theorem octet_Writer_Bytes_ref {w0 w : World} {I : HL} {R : SP} {a0 : octet_Writer} {p0 : Value} {a1 : (List Int)} {r1_0 : Value} (f1_0 : Rd (tyInt .u8) R I r1_0 a1) (hst : St w0 w I [at_octet_Writer p0 a0] R) {r : (octet_Writer)} (hm : octet_Writer_Bytes a0 a1 = some r) :
    Calls Try.prog 38 #[p0, r1_0] w fun e w' => e = .returned (p0) ∧ St w0 w' I [at_octet_Writer p0 r] R := by
  unfold octet_Writer_Bytes at hm
  refine calls_start (args := [p0, r1_0]) Try.func38 rfl Try.ntmps38 (Nat.le_of_ble_eq_true rfl) ?_
  refine wp_seq ?_
  refine wp_region_lit ?_
  refine wl_val (v := .pointer none) rfl rfl rfl ?_
  refine wl_nil ?_
  refine then_n ?_
  refine wp_seq ?_
  refine wp_region_lit ?_
  refine wl_val (v := p0) rfl rfl rfl ?_
  refine wl_val (v := r1_0) rfl rfl rfl ?_
  refine wl_val (v := .int .i64 ((a1).length : Int)) rfl rfl (x_len rfl Try.underlying22 (rd_sliceV f1_0)) ?_
  refine wl_val (v := .int .u64 (IntKind.u64.wrap ((a1).length : Int))) rfl rfl (by kernel_rfl) ?_
  obtain ⟨t367, ht368, hm⟩ := bind_some hm
  refine wl_call rfl rfl (x_call Try.call27 rfl (vs := [p0, .int .u64 (IntKind.u64.wrap ((a1).length : Int)), .int .i64 (4:Int)]) rfl) ?_
  refine (octet_Writer_Num_ref hst.to1 ht368).mono ?_
  rintro _ w369 ⟨rfl, hst⟩
  refine ⟨_, rfl, ?_⟩
  replace hst := hst.of1
  refine wl_val (v := r1_0) rfl rfl rfl ?_
  obtain ⟨t372, ht373, hm⟩ := bind_some hm
  refine wl_call rfl rfl (x_call Try.call61 rfl (vs := [p0, r1_0]) rfl) ?_
  refine (octet_Writer_lay_ref (f1_0.mono (rd_weak _)) hst.to1 ht373).mono ?_
  rintro _ w374 ⟨rfl, hst⟩
  refine ⟨_, rfl, ?_⟩
  replace hst := hst.of1
  refine wl_val (v := p0) rfl rfl rfl ?_
  refine wl_nil ?_
  refine then_n ?_
  refine wp_ret ?_
  obtain rfl := some_inj hm
  refine post_ret (vs := [p0]) Try.results38 (rvs_cons (rv_tmp rfl) rvs_nil) ?_
  exact ⟨rfl, hst.keep1⟩

theorem locks_Lay_ref {w0 w : World} {I : HL} {R : SP} {a0 : octet_Writer} {p0 : Value} {a1 : api_Hold} {r1_0 : Value} {r1_1 : Value} {r1_2 : Value} {r1_3 : Value} (f1_0 : Rd tyF64 R I r1_0 a1.Gets) (f1_1 : Rd tyF2 R I r1_1 a1.Scans) (f1_2 : Rd tyF64 R I r1_2 a1.Puts) (f1_3 : Rd (tyInt .u8) R I r1_3 a1.Data) (hst : St w0 w I [at_octet_Writer p0 a0] R) {r : (octet_Writer)} (hm : locks_Lay a0 a1 = some r) :
    Calls Try.prog 29 #[p0, .agg #[.int .u64 a1.ID.Session, .int .u64 a1.ID.Seq, .int .u64 a1.Epoch, r1_0, r1_1, r1_2, r1_3]] w fun e w' => e = .returned (.tuple #[]) ∧ St w0 w' I [at_octet_Writer p0 r] R := by
  unfold locks_Lay at hm
  refine calls_start (args := [p0, .agg #[.int .u64 a1.ID.Session, .int .u64 a1.ID.Seq, .int .u64 a1.Epoch, r1_0, r1_1, r1_2, r1_3]]) Try.func29 rfl Try.ntmps29 (Nat.le_of_ble_eq_true rfl) ?_
  refine wp_seq ?_
  refine wp_region_lit ?_
  obtain ⟨b363, w364, ew365, eb366, hst⟩ := hst.box [.int .u64 a1.ID.Session, .int .u64 a1.ID.Seq, .int .u64 a1.Epoch, r1_0, r1_1, r1_2, r1_3] 34
  refine wl_run (v := .pointer (some ⟨b363, 0, none⟩)) (w' := w364) rfl rfl (x_al (by kernel_rfl) ew365 eb366) ?_
  refine wl_nil ?_
  refine then_n ?_
  refine wp_seq ?_
  refine wp_region_St hst 17 [0, 1, 2, 3, 4, 5, 6, 7, 8, 9, 10, 11, 12, 13, 14, 15, 16] [0, 0, 2, 6, 15, 0, 32, 96, 255, 0, 512, 2047, 0, 4096, 12288, 28672, 65535] [] rfl (by kernel_rfl) (by kernel_rfl) Try.mixed (by kernel_rfl) ?_
  refine ws_q (v := p0) 0 [1, 2, 3, 4, 5, 6, 7, 8, 9, 10, 11, 12, 13, 14, 15, 16] (by kernel_rfl) rfl rfl (yi_run rfl (fun w hst => rfl)) ?_
  refine ws_q (v := .pointer (some ⟨b363, 0, none⟩)) 1 [2, 3, 4, 5, 6, 7, 8, 9, 10, 11, 12, 13, 14, 15, 16] (by kernel_rfl) rfl rfl (yi_run rfl (fun w hst => x_field rfl Try.underlying34 rfl Try.sizeOf29 rfl)) ?_
  refine ws_q (v := .pointer (some ⟨b363, 0, none⟩)) 2 [3, 4, 5, 6, 7, 8, 9, 10, 11, 12, 13, 14, 15, 16] (by kernel_rfl) rfl rfl (yi_run rfl (fun w hst => x_field rfl Try.underlying29 rfl Try.sizeOf27 rfl)) ?_
  refine ws_q (v := .int .u64 a1.ID.Session) 3 [4, 5, 6, 7, 8, 9, 10, 11, 12, 13, 14, 15, 16] (by kernel_rfl) rfl rfl (yi_run rfl (fun w hst => x_load rfl Try.isAgg27 (hst.bc0 rfl))) ?_
  refine ws_q (v := .pointer (some ⟨b363, 0, none⟩)) 5 [4, 6, 7, 8, 9, 10, 11, 12, 13, 14, 15, 16] (by kernel_rfl) rfl rfl (yi_run rfl (fun w hst => x_field rfl Try.underlying34 rfl Try.sizeOf29 rfl)) ?_
  refine ws_q (v := .pointer (some ⟨b363, 1, none⟩)) 6 [4, 7, 8, 9, 10, 11, 12, 13, 14, 15, 16] (by kernel_rfl) rfl rfl (yi_run rfl (fun w hst => x_field rfl Try.underlying29 rfl Try.sizeOf27 rfl)) ?_
  refine ws_q (v := .int .u64 a1.ID.Seq) 7 [4, 8, 9, 10, 11, 12, 13, 14, 15, 16] (by kernel_rfl) rfl rfl (yi_run rfl (fun w hst => x_load rfl Try.isAgg27 (hst.bc0 rfl))) ?_
  refine ws_q (v := .pointer (some ⟨b363, 2, none⟩)) 9 [4, 8, 10, 11, 12, 13, 14, 15, 16] (by kernel_rfl) rfl rfl (yi_run rfl (fun w hst => x_field rfl Try.underlying34 rfl Try.sizeOf27 rfl)) ?_
  refine ws_q (v := .int .u64 a1.Epoch) 10 [4, 8, 11, 12, 13, 14, 15, 16] (by kernel_rfl) rfl rfl (yi_run rfl (fun w hst => x_load rfl Try.isAgg27 (hst.bc0 rfl))) ?_
  refine ws_q (v := .pointer (some ⟨b363, 3, none⟩)) 12 [4, 8, 11, 13, 14, 15, 16] (by kernel_rfl) rfl rfl (yi_run rfl (fun w hst => x_field rfl Try.underlying34 rfl Try.sizeOf31 rfl)) ?_
  refine ws_q (v := r1_0) 13 [4, 8, 11, 14, 15, 16] (by kernel_rfl) rfl rfl (yi_run rfl (fun w hst => x_load rfl Try.isAgg31 (hst.bc0 rfl))) ?_
  refine ws_q (v := .int .i64 ((a1.Gets).length : Int)) 14 [4, 8, 11, 15, 16] (by kernel_rfl) rfl rfl (yi_run rfl (fun w hst => x_len rfl Try.underlying31 (rd_sliceV f1_0))) ?_
  refine ws_q (v := .int .u64 (IntKind.u64.wrap ((a1.Gets).length : Int))) 15 [4, 8, 11, 16] (by kernel_rfl) rfl rfl (yi_run rfl (fun w hst => by kernel_rfl)) ?_
  refine ws_e1 4 (by kernel_rfl) ?_
  refine nxe [8, 11, 16] (by kernel_rfl) rfl rfl ?_
  clear hst
  intro w hst
  replace hst := hst.pull1
  obtain ⟨t368, ht369, hm⟩ := bind_some hm
  refine we_call rfl (x_call Try.call27 rfl (vs := [p0, .int .u64 a1.ID.Session, .int .i64 (8:Int)]) rfl) ?_
  refine (octet_Writer_Num_ref hst.to1 ht369).mono ?_
  rintro _ w370 ⟨rfl, hst⟩
  refine ⟨_, rfl, ?_⟩
  replace hst := hst.of1
  refine ws_next (pend' := [(15, .int .u64 (IntKind.u64.wrap ((a1.Gets).length : Int))), (14, .int .i64 ((a1.Gets).length : Int)), (13, r1_0), (12, .pointer (some ⟨b363, 3, none⟩)), (10, .int .u64 a1.Epoch), (9, .pointer (some ⟨b363, 2, none⟩)), (7, .int .u64 a1.ID.Seq), (6, .pointer (some ⟨b363, 1, none⟩)), (5, .pointer (some ⟨b363, 0, none⟩))]) hst (by kernel_rfl) (pk_cons rfl (yi_run rfl (fun w hst => by kernel_rfl)) (pk_cons rfl (yi_run rfl (fun w hst => x_len rfl Try.underlying31 (rd_sliceV f1_0))) (pk_cons rfl (yi_run rfl (fun w hst => x_load rfl Try.isAgg31 (hst.bc1 rfl))) (pk_cons rfl (yi_run rfl (fun w hst => x_field rfl Try.underlying34 rfl Try.sizeOf31 rfl)) (pk_cons rfl (yi_run rfl (fun w hst => x_load rfl Try.isAgg27 (hst.bc1 rfl))) (pk_cons rfl (yi_run rfl (fun w hst => x_field rfl Try.underlying34 rfl Try.sizeOf27 rfl)) (pk_cons rfl (yi_run rfl (fun w hst => x_load rfl Try.isAgg27 (hst.bc1 rfl))) (pk_cons rfl (yi_run rfl (fun w hst => x_field rfl Try.underlying29 rfl Try.sizeOf27 rfl)) (pk_cons rfl (yi_run rfl (fun w hst => x_field rfl Try.underlying34 rfl Try.sizeOf29 rfl)) pk_nil))))))))) ?_
  refine ws_e1 8 (by kernel_rfl) ?_
  refine nxe [11, 16] (by kernel_rfl) rfl rfl ?_
  clear hst
  intro w hst
  obtain ⟨t373, ht374, hm⟩ := bind_some hm
  refine we_call rfl (x_call Try.call27 rfl (vs := [p0, .int .u64 a1.ID.Seq, .int .i64 (8:Int)]) rfl) ?_
  refine (octet_Writer_Num_ref hst.to1 ht374).mono ?_
  rintro _ w375 ⟨rfl, hst⟩
  refine ⟨_, rfl, ?_⟩
  replace hst := hst.of1
  refine ws_next (pend' := [(15, .int .u64 (IntKind.u64.wrap ((a1.Gets).length : Int))), (14, .int .i64 ((a1.Gets).length : Int)), (13, r1_0), (12, .pointer (some ⟨b363, 3, none⟩)), (10, .int .u64 a1.Epoch), (9, .pointer (some ⟨b363, 2, none⟩))]) hst (by kernel_rfl) (pk_cons rfl (yi_run rfl (fun w hst => by kernel_rfl)) (pk_cons rfl (yi_run rfl (fun w hst => x_len rfl Try.underlying31 (rd_sliceV f1_0))) (pk_cons rfl (yi_run rfl (fun w hst => x_load rfl Try.isAgg31 (hst.bc1 rfl))) (pk_cons rfl (yi_run rfl (fun w hst => x_field rfl Try.underlying34 rfl Try.sizeOf31 rfl)) (pk_cons rfl (yi_run rfl (fun w hst => x_load rfl Try.isAgg27 (hst.bc1 rfl))) (pk_cons rfl (yi_run rfl (fun w hst => x_field rfl Try.underlying34 rfl Try.sizeOf27 rfl)) pk_nil)))))) ?_
  refine ws_e1 11 (by kernel_rfl) ?_
  refine nxe [16] (by kernel_rfl) rfl rfl ?_
  clear hst
  intro w hst
  obtain ⟨t378, ht379, hm⟩ := bind_some hm
  refine we_call rfl (x_call Try.call27 rfl (vs := [p0, .int .u64 a1.Epoch, .int .i64 (8:Int)]) rfl) ?_
  refine (octet_Writer_Num_ref hst.to1 ht379).mono ?_
  rintro _ w380 ⟨rfl, hst⟩
  refine ⟨_, rfl, ?_⟩
  replace hst := hst.of1
  refine ws_next (pend' := [(15, .int .u64 (IntKind.u64.wrap ((a1.Gets).length : Int))), (14, .int .i64 ((a1.Gets).length : Int)), (13, r1_0), (12, .pointer (some ⟨b363, 3, none⟩))]) hst (by kernel_rfl) (pk_cons rfl (yi_run rfl (fun w hst => by kernel_rfl)) (pk_cons rfl (yi_run rfl (fun w hst => x_len rfl Try.underlying31 (rd_sliceV f1_0))) (pk_cons rfl (yi_run rfl (fun w hst => x_load rfl Try.isAgg31 (hst.bc1 rfl))) (pk_cons rfl (yi_run rfl (fun w hst => x_field rfl Try.underlying34 rfl Try.sizeOf31 rfl)) pk_nil)))) ?_
  refine ws_e1 16 (by kernel_rfl) ?_
  refine nxe [] (by kernel_rfl) rfl rfl ?_
  clear hst
  intro w hst
  obtain ⟨t383, ht384, hm⟩ := bind_some hm
  refine we_call rfl (x_call Try.call27 rfl (vs := [p0, .int .u64 (IntKind.u64.wrap ((a1.Gets).length : Int)), .int .i64 (4:Int)]) rfl) ?_
  refine (octet_Writer_Num_ref hst.to1 ht384).mono ?_
  rintro _ w385 ⟨rfl, hst⟩
  refine ⟨_, rfl, ?_⟩
  replace hst := hst.of1
  refine ws_next (pend' := []) hst (by kernel_rfl) pk_nil ?_
  refine ws_nil ?_
  intro w hst
  refine then_n ?_
  obtain ⟨y451, hm, hx452⟩ := bind_some hm
  refine wp_cut (fun a w => ∃ (z448 : octet_Writer) (σ449 : Nat → Value), (locks_Lay_j0 a1) z448 = some r ∧ a = Fr 84 (upd (upd σ449 0 (p0)) 3 (.pointer (some ⟨b363, 0, none⟩))) ∧ St w0 w I [at_octet_Writer p0 z448, cells b363 [.int .u64 a1.ID.Session, .int .u64 a1.ID.Seq, .int .u64 a1.Epoch, r1_0, r1_1, r1_2, r1_3]] R) ?_ ?_
  · skip
    refine wp_seq ?_
    refine wp_region_lit ?_
    refine wl_val (v := .pointer (some ⟨b363, 3, none⟩)) rfl rfl (x_field rfl Try.underlying34 rfl Try.sizeOf31 rfl) ?_
    refine wl_val (v := r1_0) rfl rfl (x_load rfl Try.isAgg31 (hst.bc1 rfl)) ?_
    refine wl_val (v := .int .i64 ((a1.Gets).length : Int)) rfl rfl (x_len rfl Try.underlying31 (rd_sliceV f1_0)) ?_
    refine wl_val (v := .int .i64 (0:Int)) rfl rfl rfl ?_
    refine wl_nil ?_
    refine then_n ?_
    refine wp_block ?_
    obtain ⟨n425, hm⟩ := loopO_some hm
    refine wp_loop_n (fun n a w => ∃ (z422 : octet_Writer) (z423 : Int) (σ424 : Nat → Value), loopN (locks_Lay_l1 a1) n (z422, z423) = some y451 ∧ a = Fr 84 (upd (upd (upd (upd (upd σ424 0 (p0)) 3 (.pointer (some ⟨b363, 0, none⟩))) 28 (r1_0)) 29 (.int .i64 ((a1.Gets).length : Int))) 30 (.int .i64 z423)) ∧ St w0 w I [at_octet_Writer p0 z422, cells b363 [.int .u64 a1.ID.Session, .int .u64 a1.ID.Seq, .int .u64 a1.Epoch, r1_0, r1_1, r1_2, r1_3]] R) n425 ⟨t383, (0:Int), _, hm, ((fr_upd (t := 0) (v := p0) rfl).trans ((fr_upd (t := 3) (v := .pointer (some ⟨b363, 0, none⟩)) rfl).trans ((fr_upd (t := 28) (v := r1_0) rfl).trans ((fr_upd (t := 29) (v := .int .i64 ((a1.Gets).length : Int)) rfl).trans ((fr_upd (t := 30) (v := .int .i64 (0:Int)) rfl).trans rfl))))), hst⟩ ?_
    rintro n431 _ w426 ⟨z422, z423, σ424, hm, rfl, hst⟩
    obtain ⟨n428, y429, rfl, hm, hx430⟩ := loopN_some hm
    dsimp only [locks_Lay_l1] at hm
    refine wp_seq ?_
    refine wp_region_lit ?_
    refine wl_val (v := .bool (decide (z423 < ((a1.Gets).length : Int)))) rfl rfl rfl ?_
    refine wl_nil ?_
    refine then_n ?_
    refine wp_seq ?_
    refine bsplit (decide (z423 < ((a1.Gets).length : Int))) (fun hc432 => ?_) (fun hc432 => ?_)
    · skip
      replace hm := bif_t hc432 hm
      refine wp_ift (congrArg Value.bool hc432) ?_
      refine wp_skip ?_
      refine then_n ?_
      refine wp_seq ?_
      refine wp_block ?_
      refine wp_seq ?_
      refine wp_region_lit ?_
      obtain ⟨x433, hx434, hm⟩ := bind_some hm
      obtain ⟨h435, h436, hi437⟩ := geto_some hx434
      refine wl_val (v := .pointer (some (eAddr r1_0 (z423.toNat * 1 + 0)))) rfl rfl (x_index rfl rfl Try.underlying31 Try.sizeOf41 (rd_sliceV f1_0) h435 h436) ?_
      refine wl_val (v := .float .f64 x433) rfl rfl (x_load rfl Try.isAgg41 (rd_load f1_0 (HL.le.refl _) hst hi437 (by rintro _ rfl; rfl))) ?_
      refine wl_val (v := .float .f64 x433) rfl rfl rfl ?_
      refine wl_nil ?_
      refine then_n ?_
      refine wp_region_lit ?_
      refine wl_val (v := p0) rfl rfl rfl ?_
      refine wl_val (v := .float .f64 x433) rfl rfl rfl ?_
      obtain ⟨t438, ht439, hm⟩ := bind_some hm
      refine wl_call rfl rfl (x_call Try.call39 rfl (vs := [.float .f64 x433]) rfl) ?_
      refine (number_Rank_ref hst.to0 ht439).mono ?_
      rintro _ w440 ⟨rfl, hst⟩
      refine ⟨_, rfl, ?_⟩
      replace hst := hst.of0
      obtain ⟨t443, ht444, hm⟩ := bind_some hm
      refine wl_call rfl rfl (x_call Try.call27 rfl (vs := [p0, .int .u64 t438, .int .i64 (8:Int)]) rfl) ?_
      refine (octet_Writer_Num_ref hst.to1 ht444).mono ?_
      rintro _ w445 ⟨rfl, hst⟩
      refine ⟨_, rfl, ?_⟩
      replace hst := hst.of1
      refine wl_nil ?_
      refine blk_n ?_
      refine then_n ?_
      refine wp_region_lit ?_
      refine wl_val (v := .int .i64 (IntKind.i64.wrap (z423 + (1:Int)))) rfl rfl rfl ?_
      refine wl_val (v := .int .i64 (IntKind.i64.wrap (z423 + (1:Int)))) rfl rfl rfl ?_
      refine wl_nil ?_
      refine then_n ?_
      replace hst := hst.pull1
      replace hst := hst.pull1
      replace hst := hst.keep2
      obtain rfl := some_inj hm
      exact ⟨_, Nat.lt_succ_self _, t443, (IntKind.i64.wrap (z423 + (1:Int))), _, hx430, ((fr_upd (t := 0) (v := p0) rfl).trans ((fr_upd (t := 3) (v := .pointer (some ⟨b363, 0, none⟩)) rfl).trans ((fr_upd (t := 28) (v := r1_0) rfl).trans ((fr_upd (t := 29) (v := .int .i64 ((a1.Gets).length : Int)) rfl).trans ((fr_upd (t := 30) (v := .int .i64 (IntKind.i64.wrap (z423 + (1:Int)))) rfl).trans rfl))))), hst⟩
    · skip
      replace hm := bif_f hc432 hm
      refine wp_iff (congrArg Value.bool hc432) ?_
      refine wp_exit ?_
      refine then_x ?_
      refine then_x ?_
      replace hm := inr_up hm hx430
      refine blk_x ?_
      refine then_n ?_
      replace hst := hst.pull1
      replace hst := hst.pull1
      replace hst := hst.keep2
      obtain rfl := some_inj hm
      exact ⟨z422, _, hx452, ((fr_upd (t := 0) (v := p0) rfl).trans ((fr_upd (t := 3) (v := .pointer (some ⟨b363, 0, none⟩)) rfl).trans rfl)), hst⟩
  · skip
    clear hst
    rintro _ w453 ⟨z448, σ449, hm, rfl, hst⟩
    dsimp only [locks_Lay_j0] at hm
    refine wp_seq ?_
    refine wp_region_lit ?_
    refine wl_val (v := p0) rfl rfl rfl ?_
    refine wl_val (v := .pointer (some ⟨b363, 4, none⟩)) rfl rfl (x_field rfl Try.underlying34 rfl Try.sizeOf32 rfl) ?_
    refine wl_val (v := r1_1) rfl rfl (x_load rfl Try.isAgg32 (hst.bc1 rfl)) ?_
    refine wl_val (v := .int .i64 ((a1.Scans).length : Int)) rfl rfl (x_len rfl Try.underlying32 (rd_sliceV f1_1)) ?_
    refine wl_val (v := .int .u64 (IntKind.u64.wrap ((a1.Scans).length : Int))) rfl rfl (by kernel_rfl) ?_
    obtain ⟨t454, ht455, hm⟩ := bind_some hm
    refine wl_call rfl rfl (x_call Try.call27 rfl (vs := [p0, .int .u64 (IntKind.u64.wrap ((a1.Scans).length : Int)), .int .i64 (4:Int)]) rfl) ?_
    refine (octet_Writer_Num_ref hst.to1 ht455).mono ?_
    rintro _ w456 ⟨rfl, hst⟩
    refine ⟨_, rfl, ?_⟩
    replace hst := hst.of1
    refine wl_nil ?_
    refine then_n ?_
    obtain ⟨y573, hm, hx574⟩ := bind_some hm
    refine wp_cut (fun a w => ∃ (z570 : octet_Writer) (σ571 : Nat → Value), (locks_Lay_j2 a1) z570 = some r ∧ a = Fr 84 (upd (upd σ571 0 (p0)) 3 (.pointer (some ⟨b363, 0, none⟩))) ∧ St w0 w I [at_octet_Writer p0 z570, cells b363 [.int .u64 a1.ID.Session, .int .u64 a1.ID.Seq, .int .u64 a1.Epoch, r1_0, r1_1, r1_2, r1_3]] R) ?_ ?_
    · skip
      refine wp_seq ?_
      refine wp_region_lit ?_
      refine wl_val (v := .pointer (some ⟨b363, 4, none⟩)) rfl rfl (x_field rfl Try.underlying34 rfl Try.sizeOf32 rfl) ?_
      refine wl_val (v := r1_1) rfl rfl (x_load rfl Try.isAgg32 (hst.bc1 rfl)) ?_
      refine wl_val (v := .int .i64 ((a1.Scans).length : Int)) rfl rfl (x_len rfl Try.underlying32 (rd_sliceV f1_1)) ?_
      refine wl_val (v := .int .i64 (0:Int)) rfl rfl rfl ?_
      refine wl_nil ?_
      refine then_n ?_
      refine wp_block ?_
      obtain ⟨n530, hm⟩ := loopO_some hm
      refine wp_loop_n (fun n a w => ∃ (z527 : octet_Writer) (z528 : Int) (σ529 : Nat → Value), loopN (locks_Lay_l3 a1) n (z527, z528) = some y573 ∧ a = Fr 84 (upd (upd (upd (upd (upd σ529 0 (p0)) 3 (.pointer (some ⟨b363, 0, none⟩))) 46 (r1_1)) 47 (.int .i64 ((a1.Scans).length : Int))) 48 (.int .i64 z528)) ∧ St w0 w I [at_octet_Writer p0 z527, cells b363 [.int .u64 a1.ID.Session, .int .u64 a1.ID.Seq, .int .u64 a1.Epoch, r1_0, r1_1, r1_2, r1_3]] R) n530 ⟨t454, (0:Int), _, hm, ((fr_upd (t := 0) (v := p0) rfl).trans ((fr_upd (t := 3) (v := .pointer (some ⟨b363, 0, none⟩)) rfl).trans ((fr_upd (t := 46) (v := r1_1) rfl).trans ((fr_upd (t := 47) (v := .int .i64 ((a1.Scans).length : Int)) rfl).trans ((fr_upd (t := 48) (v := .int .i64 (0:Int)) rfl).trans rfl))))), hst⟩ ?_
      rintro n536 _ w531 ⟨z527, z528, σ529, hm, rfl, hst⟩
      obtain ⟨n533, y534, rfl, hm, hx535⟩ := loopN_some hm
      dsimp only [locks_Lay_l3] at hm
      refine wp_seq ?_
      refine wp_region_lit ?_
      refine wl_val (v := .bool (decide (z528 < ((a1.Scans).length : Int)))) rfl rfl rfl ?_
      refine wl_nil ?_
      refine then_n ?_
      refine wp_seq ?_
      refine bsplit (decide (z528 < ((a1.Scans).length : Int))) (fun hc537 => ?_) (fun hc537 => ?_)
      · skip
        replace hm := bif_t hc537 hm
        refine wp_ift (congrArg Value.bool hc537) ?_
        refine wp_skip ?_
        refine then_n ?_
        refine wp_seq ?_
        refine wp_block ?_
        refine wp_seq ?_
        refine wp_region_lit ?_
        obtain ⟨x538, hx539, hm⟩ := bind_some hm
        obtain ⟨h540, h541, hi542⟩ := geto_some hx539
        refine wl_val (v := .pointer (some (eAddr r1_1 (z528.toNat * 2 + 0)))) rfl rfl (x_index rfl rfl Try.underlying32 Try.sizeOf111 (rd_sliceV f1_1) h540 h541) ?_
        refine wl_val (v := .agg #[.float .f64 x538.1, .float .f64 x538.2]) rfl rfl (x_loadN (cs := [.float .f64 x538.1, .float .f64 x538.2]) rfl Try.isAgg111 Try.sizeOf111 (rd_loadN f1_1 (HL.le.refl _) hst hi542 0 (by rintro _ rfl; rfl))) ?_
        obtain ⟨b543, w544, ew545, eb546, hst⟩ := hst.box [.float .f64 (0:Nat), .float .f64 (0:Nat)] 111
        refine wl_run (v := .pointer (some ⟨b543, 0, none⟩)) (w' := w544) rfl rfl (x_al (by kernel_rfl) ew545 eb546) ?_
        obtain ⟨w548, hr549, hst⟩ := hst.boxStore (P := Try.prog) (t := 111) (cs' := [.float .f64 x538.1, .float .f64 x538.2]) 0 (.agg #[.float .f64 x538.1, .float .f64 x538.2]) Try.sizeOf111 (Nat.le_of_ble_eq_true rfl) (ones_cons rfl (ones_cons rfl ones_nil)) (by kernel_rfl)
        refine wl_unit rfl rfl (x_unit hr549) ?_
        refine wl_nil ?_
        refine then_n ?_
        refine wp_region_St hst 9 [0, 1, 2, 3, 4, 5, 6, 7, 8] [0, 0, 2, 6, 15, 0, 32, 127, 255] [] rfl (by kernel_rfl) (by kernel_rfl) Try.mixed (by kernel_rfl) ?_
        refine ws_q (v := p0) 0 [1, 2, 3, 4, 5, 6, 7, 8] (by kernel_rfl) rfl rfl (yi_run rfl (fun w hst => rfl)) ?_
        refine ws_q (v := .pointer (some ⟨b543, 0, none⟩)) 1 [2, 3, 4, 5, 6, 7, 8] (by kernel_rfl) rfl rfl (yi_run rfl (fun w hst => x_index_arr (i := (0:Int)) rfl rfl Try.underlying111 Try.sizeOf41 (by decide) (by decide))) ?_
        refine ws_q (v := .float .f64 x538.1) 2 [3, 4, 5, 6, 7, 8] (by kernel_rfl) rfl rfl (yi_run rfl (fun w hst => x_load rfl Try.isAgg41 (hst.bc0 rfl))) ?_
        refine ws_q (v := .pointer (some ⟨b543, 1, none⟩)) 5 [3, 4, 6, 7, 8] (by kernel_rfl) rfl rfl (yi_run rfl (fun w hst => x_index_arr (i := (1:Int)) rfl rfl Try.underlying111 Try.sizeOf41 (by decide) (by decide))) ?_
        refine ws_q (v := .float .f64 x538.2) 6 [3, 4, 7, 8] (by kernel_rfl) rfl rfl (yi_run rfl (fun w hst => x_load rfl Try.isAgg41 (hst.bc0 rfl))) ?_
        refine ws_e1 3 (by kernel_rfl) ?_
        refine nxe [4, 7, 8] (by kernel_rfl) rfl rfl ?_
        clear hst
        intro w hst
        obtain ⟨t550, ht551, hm⟩ := bind_some hm
        refine we_call rfl (x_call Try.call39 rfl (vs := [.float .f64 x538.1]) rfl) ?_
        refine (number_Rank_ref hst.to0 ht551).mono ?_
        rintro _ w552 ⟨rfl, hst⟩
        refine ⟨_, rfl, ?_⟩
        replace hst := hst.of0
        refine ws_next (pend' := [(6, .float .f64 x538.2), (5, .pointer (some ⟨b543, 1, none⟩)), (0, p0)]) hst (by kernel_rfl) (pk_cons rfl (yi_run rfl (fun w hst => x_load rfl Try.isAgg41 (hst.bc0 rfl))) (pk_cons rfl (yi_run rfl (fun w hst => x_index_arr (i := (1:Int)) rfl rfl Try.underlying111 Try.sizeOf41 (by decide) (by decide))) (pk_cons rfl (yi_run rfl (fun w hst => rfl)) pk_nil))) ?_
        refine ws_e1 4 (by kernel_rfl) ?_
        refine nxe [7, 8] (by kernel_rfl) rfl rfl ?_
        clear hst
        intro w hst
        replace hst := hst.pull1
        obtain ⟨t555, ht556, hm⟩ := bind_some hm
        refine we_call rfl (x_call Try.call27 rfl (vs := [p0, .int .u64 t550, .int .i64 (8:Int)]) rfl) ?_
        refine (octet_Writer_Num_ref hst.to1 ht556).mono ?_
        rintro _ w557 ⟨rfl, hst⟩
        refine ⟨_, rfl, ?_⟩
        replace hst := hst.of1
        refine ws_next (pend' := [(6, .float .f64 x538.2), (5, .pointer (some ⟨b543, 1, none⟩))]) hst (by kernel_rfl) (pk_cons rfl (yi_run rfl (fun w hst => x_load rfl Try.isAgg41 (hst.bc1 rfl))) (pk_cons rfl (yi_run rfl (fun w hst => x_index_arr (i := (1:Int)) rfl rfl Try.underlying111 Try.sizeOf41 (by decide) (by decide))) pk_nil)) ?_
        refine ws_e1 7 (by kernel_rfl) ?_
        refine nxe [8] (by kernel_rfl) rfl rfl ?_
        clear hst
        intro w hst
        obtain ⟨t560, ht561, hm⟩ := bind_some hm
        refine we_call rfl (x_call Try.call39 rfl (vs := [.float .f64 x538.2]) rfl) ?_
        refine (number_Rank_ref hst.to0 ht561).mono ?_
        rintro _ w562 ⟨rfl, hst⟩
        refine ⟨_, rfl, ?_⟩
        replace hst := hst.of0
        refine ws_next (pend' := []) hst (by kernel_rfl) pk_nil ?_
        refine ws_e1 8 (by kernel_rfl) ?_
        refine nxe [] (by kernel_rfl) rfl rfl ?_
        clear hst
        intro w hst
        obtain ⟨t565, ht566, hm⟩ := bind_some hm
        refine we_call rfl (x_call Try.call27 rfl (vs := [p0, .int .u64 t560, .int .i64 (8:Int)]) rfl) ?_
        refine (octet_Writer_Num_ref hst.to1 ht566).mono ?_
        rintro _ w567 ⟨rfl, hst⟩
        refine ⟨_, rfl, ?_⟩
        replace hst := hst.of1
        refine ws_next (pend' := []) hst (by kernel_rfl) pk_nil ?_
        refine ws_nil ?_
        intro w hst
        refine blk_n ?_
        refine then_n ?_
        refine wp_region_lit ?_
        refine wl_val (v := .int .i64 (IntKind.i64.wrap (z528 + (1:Int)))) rfl rfl rfl ?_
        refine wl_val (v := .int .i64 (IntKind.i64.wrap (z528 + (1:Int)))) rfl rfl rfl ?_
        refine wl_nil ?_
        refine then_n ?_
        replace hst := hst.pull2
        replace hst := hst.pull1
        replace hst := hst.keep2
        obtain rfl := some_inj hm
        exact ⟨_, Nat.lt_succ_self _, t565, (IntKind.i64.wrap (z528 + (1:Int))), _, hx535, ((fr_upd (t := 0) (v := p0) rfl).trans ((fr_upd (t := 3) (v := .pointer (some ⟨b363, 0, none⟩)) rfl).trans ((fr_upd (t := 46) (v := r1_1) rfl).trans ((fr_upd (t := 47) (v := .int .i64 ((a1.Scans).length : Int)) rfl).trans ((fr_upd (t := 48) (v := .int .i64 (IntKind.i64.wrap (z528 + (1:Int)))) rfl).trans rfl))))), hst⟩
      · skip
        replace hm := bif_f hc537 hm
        refine wp_iff (congrArg Value.bool hc537) ?_
        refine wp_exit ?_
        refine then_x ?_
        refine then_x ?_
        replace hm := inr_up hm hx535
        refine blk_x ?_
        refine then_n ?_
        replace hst := hst.pull1
        replace hst := hst.pull1
        replace hst := hst.keep2
        obtain rfl := some_inj hm
        exact ⟨z527, _, hx574, ((fr_upd (t := 0) (v := p0) rfl).trans ((fr_upd (t := 3) (v := .pointer (some ⟨b363, 0, none⟩)) rfl).trans rfl)), hst⟩
    · skip
      clear hst
      rintro _ w575 ⟨z570, σ571, hm, rfl, hst⟩
      dsimp only [locks_Lay_j2] at hm
      refine wp_seq ?_
      refine wp_region_lit ?_
      refine wl_val (v := p0) rfl rfl rfl ?_
      refine wl_val (v := .pointer (some ⟨b363, 5, none⟩)) rfl rfl (x_field rfl Try.underlying34 rfl Try.sizeOf31 rfl) ?_
      refine wl_val (v := r1_2) rfl rfl (x_load rfl Try.isAgg31 (hst.bc1 rfl)) ?_
      refine wl_val (v := .int .i64 ((a1.Puts).length : Int)) rfl rfl (x_len rfl Try.underlying31 (rd_sliceV f1_2)) ?_
      refine wl_val (v := .int .u64 (IntKind.u64.wrap ((a1.Puts).length : Int))) rfl rfl (by kernel_rfl) ?_
      obtain ⟨t576, ht577, hm⟩ := bind_some hm
      refine wl_call rfl rfl (x_call Try.call27 rfl (vs := [p0, .int .u64 (IntKind.u64.wrap ((a1.Puts).length : Int)), .int .i64 (4:Int)]) rfl) ?_
      refine (octet_Writer_Num_ref hst.to1 ht577).mono ?_
      rintro _ w578 ⟨rfl, hst⟩
      refine ⟨_, rfl, ?_⟩
      replace hst := hst.of1
      refine wl_nil ?_
      refine then_n ?_
      obtain ⟨y644, hm, hx645⟩ := bind_some hm
      refine wp_cut (fun a w => ∃ (z641 : octet_Writer) (σ642 : Nat → Value), (locks_Lay_j4 a1) z641 = some r ∧ a = Fr 84 (upd (upd σ642 0 (p0)) 3 (.pointer (some ⟨b363, 0, none⟩))) ∧ St w0 w I [at_octet_Writer p0 z641, cells b363 [.int .u64 a1.ID.Session, .int .u64 a1.ID.Seq, .int .u64 a1.Epoch, r1_0, r1_1, r1_2, r1_3]] R) ?_ ?_
      · skip
        refine wp_seq ?_
        refine wp_region_lit ?_
        refine wl_val (v := .pointer (some ⟨b363, 5, none⟩)) rfl rfl (x_field rfl Try.underlying34 rfl Try.sizeOf31 rfl) ?_
        refine wl_val (v := r1_2) rfl rfl (x_load rfl Try.isAgg31 (hst.bc1 rfl)) ?_
        refine wl_val (v := .int .i64 ((a1.Puts).length : Int)) rfl rfl (x_len rfl Try.underlying31 (rd_sliceV f1_2)) ?_
        refine wl_val (v := .int .i64 (0:Int)) rfl rfl rfl ?_
        refine wl_nil ?_
        refine then_n ?_
        refine wp_block ?_
        obtain ⟨n618, hm⟩ := loopO_some hm
        refine wp_loop_n (fun n a w => ∃ (z615 : octet_Writer) (z616 : Int) (σ617 : Nat → Value), loopN (locks_Lay_l5 a1) n (z615, z616) = some y644 ∧ a = Fr 84 (upd (upd (upd (upd (upd σ617 0 (p0)) 3 (.pointer (some ⟨b363, 0, none⟩))) 69 (r1_2)) 70 (.int .i64 ((a1.Puts).length : Int))) 71 (.int .i64 z616)) ∧ St w0 w I [at_octet_Writer p0 z615, cells b363 [.int .u64 a1.ID.Session, .int .u64 a1.ID.Seq, .int .u64 a1.Epoch, r1_0, r1_1, r1_2, r1_3]] R) n618 ⟨t576, (0:Int), _, hm, ((fr_upd (t := 0) (v := p0) rfl).trans ((fr_upd (t := 3) (v := .pointer (some ⟨b363, 0, none⟩)) rfl).trans ((fr_upd (t := 69) (v := r1_2) rfl).trans ((fr_upd (t := 70) (v := .int .i64 ((a1.Puts).length : Int)) rfl).trans ((fr_upd (t := 71) (v := .int .i64 (0:Int)) rfl).trans rfl))))), hst⟩ ?_
        rintro n624 _ w619 ⟨z615, z616, σ617, hm, rfl, hst⟩
        obtain ⟨n621, y622, rfl, hm, hx623⟩ := loopN_some hm
        dsimp only [locks_Lay_l5] at hm
        refine wp_seq ?_
        refine wp_region_lit ?_
        refine wl_val (v := .bool (decide (z616 < ((a1.Puts).length : Int)))) rfl rfl rfl ?_
        refine wl_nil ?_
        refine then_n ?_
        refine wp_seq ?_
        refine bsplit (decide (z616 < ((a1.Puts).length : Int))) (fun hc625 => ?_) (fun hc625 => ?_)
        · skip
          replace hm := bif_t hc625 hm
          refine wp_ift (congrArg Value.bool hc625) ?_
          refine wp_skip ?_
          refine then_n ?_
          refine wp_seq ?_
          refine wp_block ?_
          refine wp_seq ?_
          refine wp_region_lit ?_
          obtain ⟨x626, hx627, hm⟩ := bind_some hm
          obtain ⟨h628, h629, hi630⟩ := geto_some hx627
          refine wl_val (v := .pointer (some (eAddr r1_2 (z616.toNat * 1 + 0)))) rfl rfl (x_index rfl rfl Try.underlying31 Try.sizeOf41 (rd_sliceV f1_2) h628 h629) ?_
          refine wl_val (v := .float .f64 x626) rfl rfl (x_load rfl Try.isAgg41 (rd_load f1_2 (HL.le.refl _) hst hi630 (by rintro _ rfl; rfl))) ?_
          refine wl_val (v := .float .f64 x626) rfl rfl rfl ?_
          refine wl_nil ?_
          refine then_n ?_
          refine wp_region_lit ?_
          refine wl_val (v := p0) rfl rfl rfl ?_
          refine wl_val (v := .float .f64 x626) rfl rfl rfl ?_
          obtain ⟨t631, ht632, hm⟩ := bind_some hm
          refine wl_call rfl rfl (x_call Try.call39 rfl (vs := [.float .f64 x626]) rfl) ?_
          refine (number_Rank_ref hst.to0 ht632).mono ?_
          rintro _ w633 ⟨rfl, hst⟩
          refine ⟨_, rfl, ?_⟩
          replace hst := hst.of0
          obtain ⟨t636, ht637, hm⟩ := bind_some hm
          refine wl_call rfl rfl (x_call Try.call27 rfl (vs := [p0, .int .u64 t631, .int .i64 (8:Int)]) rfl) ?_
          refine (octet_Writer_Num_ref hst.to1 ht637).mono ?_
          rintro _ w638 ⟨rfl, hst⟩
          refine ⟨_, rfl, ?_⟩
          replace hst := hst.of1
          refine wl_nil ?_
          refine blk_n ?_
          refine then_n ?_
          refine wp_region_lit ?_
          refine wl_val (v := .int .i64 (IntKind.i64.wrap (z616 + (1:Int)))) rfl rfl rfl ?_
          refine wl_val (v := .int .i64 (IntKind.i64.wrap (z616 + (1:Int)))) rfl rfl rfl ?_
          refine wl_nil ?_
          refine then_n ?_
          replace hst := hst.pull1
          replace hst := hst.pull1
          replace hst := hst.keep2
          obtain rfl := some_inj hm
          exact ⟨_, Nat.lt_succ_self _, t636, (IntKind.i64.wrap (z616 + (1:Int))), _, hx623, ((fr_upd (t := 0) (v := p0) rfl).trans ((fr_upd (t := 3) (v := .pointer (some ⟨b363, 0, none⟩)) rfl).trans ((fr_upd (t := 69) (v := r1_2) rfl).trans ((fr_upd (t := 70) (v := .int .i64 ((a1.Puts).length : Int)) rfl).trans ((fr_upd (t := 71) (v := .int .i64 (IntKind.i64.wrap (z616 + (1:Int)))) rfl).trans rfl))))), hst⟩
        · skip
          replace hm := bif_f hc625 hm
          refine wp_iff (congrArg Value.bool hc625) ?_
          refine wp_exit ?_
          refine then_x ?_
          refine then_x ?_
          replace hm := inr_up hm hx623
          refine blk_x ?_
          refine then_n ?_
          replace hst := hst.pull1
          replace hst := hst.pull1
          replace hst := hst.keep2
          obtain rfl := some_inj hm
          exact ⟨z615, _, hx645, ((fr_upd (t := 0) (v := p0) rfl).trans ((fr_upd (t := 3) (v := .pointer (some ⟨b363, 0, none⟩)) rfl).trans rfl)), hst⟩
      · skip
        clear hst
        rintro _ w646 ⟨z641, σ642, hm, rfl, hst⟩
        dsimp only [locks_Lay_j4] at hm
        refine wp_region_lit ?_
        refine wl_val (v := p0) rfl rfl rfl ?_
        refine wl_val (v := .pointer (some ⟨b363, 6, none⟩)) rfl rfl (x_field rfl Try.underlying34 rfl Try.sizeOf22 rfl) ?_
        refine wl_val (v := r1_3) rfl rfl (x_load rfl Try.isAgg22 (hst.bc1 rfl)) ?_
        obtain ⟨t647, ht648, hm⟩ := bind_some hm
        refine wl_call rfl rfl (x_call Try.call38 rfl (vs := [p0, r1_3]) rfl) ?_
        refine (octet_Writer_Bytes_ref (f1_3.mono (rd_weak _)) hst.to1 ht648).mono ?_
        rintro _ w649 ⟨rfl, hst⟩
        refine ⟨_, rfl, ?_⟩
        replace hst := hst.of1
        refine wl_nil ?_
        obtain rfl := some_inj hm
        refine post_end (vs := []) Try.results29 rvs_nil ?_
        exact ⟨rfl, hst.keep1⟩

theorem octet_Writer_Flag_ref {w0 w : World} {I : HL} {R : SP} {a0 : octet_Writer} {p0 : Value} {a1 : Bool}  (hst : St w0 w I [at_octet_Writer p0 a0] R) {r : (octet_Writer)} (hm : octet_Writer_Flag a0 a1 = some r) :
    Calls Try.prog 32 #[p0, .bool a1] w fun e w' => e = .returned (p0) ∧ St w0 w' I [at_octet_Writer p0 r] R := by
  unfold octet_Writer_Flag at hm
  refine calls_start (args := [p0, .bool a1]) Try.func32 rfl Try.ntmps32 (Nat.le_of_ble_eq_true rfl) ?_
  refine wp_seq ?_
  refine wp_region_lit ?_
  refine wl_val (v := .pointer none) rfl rfl rfl ?_
  refine wl_nil ?_
  refine then_n ?_
  refine wp_seq ?_
  refine wp_seq ?_
  refine wp_region_lit ?_
  refine wl_val (v := .bool a1) rfl rfl rfl ?_
  refine wl_nil ?_
  refine then_n ?_
  refine bsplit a1 (fun hc147 => ?_) (fun hc147 => ?_)
  · skip
    replace hm := bif_t hc147 hm
    refine wp_ift (congrArg Value.bool hc147) ?_
    refine wp_seq ?_
    refine wp_region_lit ?_
    refine wl_val (v := p0) rfl rfl rfl ?_
    obtain ⟨t148, ht149, hm⟩ := bind_some hm
    refine wl_call rfl rfl (x_call Try.call27 rfl (vs := [p0, .int .u64 (1:Int), .int .i64 (1:Int)]) rfl) ?_
    refine (octet_Writer_Num_ref hst.to1 ht149).mono ?_
    rintro _ w150 ⟨rfl, hst⟩
    refine ⟨_, rfl, ?_⟩
    replace hst := hst.of1
    refine wl_val (v := p0) rfl rfl rfl ?_
    refine wl_nil ?_
    refine then_n ?_
    refine wp_ret ?_
    refine then_r ?_
    obtain rfl := some_inj hm
    refine post_ret (vs := [p0]) Try.results32 (rvs_cons (rv_tmp rfl) rvs_nil) ?_
    exact ⟨rfl, hst.keep1⟩
  · skip
    replace hm := bif_f hc147 hm
    refine wp_iff (congrArg Value.bool hc147) ?_
    refine wp_skip ?_
    refine then_n ?_
    refine wp_seq ?_
    refine wp_region_lit ?_
    refine wl_val (v := p0) rfl rfl rfl ?_
    obtain ⟨t153, ht154, hm⟩ := bind_some hm
    refine wl_call rfl rfl (x_call Try.call27 rfl (vs := [p0, .int .u64 (0:Int), .int .i64 (1:Int)]) rfl) ?_
    refine (octet_Writer_Num_ref hst.to1 ht154).mono ?_
    rintro _ w155 ⟨rfl, hst⟩
    refine ⟨_, rfl, ?_⟩
    replace hst := hst.of1
    refine wl_val (v := p0) rfl rfl rfl ?_
    refine wl_nil ?_
    refine then_n ?_
    refine wp_ret ?_
    obtain rfl := some_inj hm
    refine post_ret (vs := [p0]) Try.results32 (rvs_cons (rv_tmp rfl) rvs_nil) ?_
    exact ⟨rfl, hst.keep1⟩

theorem command_writes_ref {w0 w : World} {I : HL} {R : SP} {a0 : octet_Writer} {p0 : Value} {a1 : (List api_Write)} {r1_0 : Value} (f1_0 : Rd ty_api_Write R I r1_0 a1) (hst : St w0 w I [at_octet_Writer p0 a0] R) {r : (octet_Writer)} (hm : command_writes a0 a1 = some r) :
    Calls Try.prog 30 #[p0, r1_0] w fun e w' => e = .returned (.tuple #[]) ∧ St w0 w' I [at_octet_Writer p0 r] R := by
  unfold command_writes at hm
  refine calls_start (args := [p0, r1_0]) Try.func30 rfl Try.ntmps30 (Nat.le_of_ble_eq_true rfl) ?_
  refine wp_seq ?_
  refine wp_region_lit ?_
  refine wl_val (v := p0) rfl rfl rfl ?_
  refine wl_val (v := r1_0) rfl rfl rfl ?_
  refine wl_val (v := .int .i64 ((a1).length : Int)) rfl rfl (x_len rfl Try.underlying35 (rd_sliceV f1_0)) ?_
  refine wl_val (v := .int .u64 (IntKind.u64.wrap ((a1).length : Int))) rfl rfl (by kernel_rfl) ?_
  obtain ⟨t248, ht249, hm⟩ := bind_some hm
  refine wl_call rfl rfl (x_call Try.call27 rfl (vs := [p0, .int .u64 (IntKind.u64.wrap ((a1).length : Int)), .int .i64 (4:Int)]) rfl) ?_
  refine (octet_Writer_Num_ref hst.to1 ht249).mono ?_
  rintro _ w250 ⟨rfl, hst⟩
  refine ⟨_, rfl, ?_⟩
  replace hst := hst.of1
  refine wl_nil ?_
  refine then_n ?_
  refine wp_seq ?_
  refine wp_region_lit ?_
  refine wl_val (v := r1_0) rfl rfl rfl ?_
  refine wl_val (v := .int .i64 ((a1).length : Int)) rfl rfl (x_len rfl Try.underlying35 (rd_sliceV f1_0)) ?_
  refine wl_val (v := .int .i64 (0:Int)) rfl rfl rfl ?_
  refine wl_nil ?_
  refine then_n ?_
  refine wp_block ?_
  obtain ⟨n338, hm⟩ := loopO_some hm
  refine wp_loop_n (fun n a w => ∃ (z335 : octet_Writer) (z336 : Int) (σ337 : Nat → Value), loopN (command_writes_l0 a1) n (z335, z336) = some r ∧ a = Fr 29 (upd (upd (upd (upd σ337 0 (p0)) 11 (r1_0)) 12 (.int .i64 ((a1).length : Int))) 13 (.int .i64 z336)) ∧ St w0 w I [at_octet_Writer p0 z335] R) n338 ⟨t248, (0:Int), _, hm, ((fr_upd (t := 0) (v := p0) rfl).trans ((fr_upd (t := 11) (v := r1_0) rfl).trans ((fr_upd (t := 12) (v := .int .i64 ((a1).length : Int)) rfl).trans ((fr_upd (t := 13) (v := .int .i64 (0:Int)) rfl).trans rfl)))), hst⟩ ?_
  rintro n344 _ w339 ⟨z335, z336, σ337, hm, rfl, hst⟩
  obtain ⟨n341, y342, rfl, hm, hx343⟩ := loopN_some hm
  dsimp only [command_writes_l0] at hm
  refine wp_seq ?_
  refine wp_region_lit ?_
  refine wl_val (v := .bool (decide (z336 < ((a1).length : Int)))) rfl rfl rfl ?_
  refine wl_nil ?_
  refine then_n ?_
  refine wp_seq ?_
  refine bsplit (decide (z336 < ((a1).length : Int))) (fun hc345 => ?_) (fun hc345 => ?_)
  · skip
    replace hm := bif_t hc345 hm
    refine wp_ift (congrArg Value.bool hc345) ?_
    refine wp_skip ?_
    refine then_n ?_
    refine wp_seq ?_
    refine wp_block ?_
    refine wp_seq ?_
    refine wp_region_lit ?_
    obtain ⟨x346, hx347, hm⟩ := bind_some hm
    obtain ⟨h348, h349, hi350⟩ := geto_some hx347
    refine wl_val (v := .pointer (some (eAddr r1_0 (z336.toNat * 3 + 0)))) rfl rfl (x_index rfl rfl Try.underlying35 Try.sizeOf73 (rd_sliceV f1_0) h348 h349) ?_
    obtain ⟨cs351, hr352, hc353⟩ := Rd.getF f1_0 hi350
    obtain ⟨v354, rfl, f355, -⟩ := hr352
    refine wl_val (v := .agg #[.float .f64 x346.At, .bool x346.Del, v354]) rfl rfl (x_loadN (cs := [.float .f64 x346.At, .bool x346.Del, v354]) rfl Try.isAgg73 Try.sizeOf73 (eCells (o := 0) (hc353 (HL.le.refl _) hst) rfl)) ?_
    obtain ⟨b358, w359, ew360, eb361, hst⟩ := hst.box [.float .f64 (0:Nat), .bool false, (.slice none 0 0)] 73
    refine wl_run (v := .pointer (some ⟨b358, 0, none⟩)) (w' := w359) rfl rfl (x_al (by kernel_rfl) ew360 eb361) ?_
    obtain ⟨w363, hr364, hst⟩ := hst.boxStore (P := Try.prog) (t := 73) (cs' := [.float .f64 x346.At, .bool x346.Del, v354]) 0 (.agg #[.float .f64 x346.At, .bool x346.Del, v354]) Try.sizeOf73 (Nat.le_of_ble_eq_true rfl) (ones_cons rfl (ones_cons rfl (ones_cons (one_of_sliceV (rd_sliceV f355)) ones_nil))) (by kernel_rfl)
    refine wl_unit rfl rfl (x_unit hr364) ?_
    refine wl_nil ?_
    refine then_n ?_
    refine wp_region_St hst 11 [0, 1, 2, 3, 4, 5, 6, 7, 8, 9, 10] [0, 0, 2, 6, 15, 0, 32, 127, 0, 256, 1023] [] rfl (by kernel_rfl) (by kernel_rfl) Try.mixed (by kernel_rfl) ?_
    refine ws_q (v := p0) 0 [1, 2, 3, 4, 5, 6, 7, 8, 9, 10] (by kernel_rfl) rfl rfl (yi_run rfl (fun w hst => rfl)) ?_
    refine ws_q (v := .pointer (some ⟨b358, 0, none⟩)) 1 [2, 3, 4, 5, 6, 7, 8, 9, 10] (by kernel_rfl) rfl rfl (yi_run rfl (fun w hst => x_field rfl Try.underlying73 rfl Try.sizeOf41 rfl)) ?_
    refine ws_q (v := .float .f64 x346.At) 2 [3, 4, 5, 6, 7, 8, 9, 10] (by kernel_rfl) rfl rfl (yi_run rfl (fun w hst => x_load rfl Try.isAgg41 (hst.bc0 rfl))) ?_
    refine ws_q (v := .pointer (some ⟨b358, 1, none⟩)) 5 [3, 4, 6, 7, 8, 9, 10] (by kernel_rfl) rfl rfl (yi_run rfl (fun w hst => x_field rfl Try.underlying73 rfl Try.sizeOf4 rfl)) ?_
    refine ws_q (v := .bool x346.Del) 6 [3, 4, 7, 8, 9, 10] (by kernel_rfl) rfl rfl (yi_run rfl (fun w hst => x_load rfl Try.isAgg4 (hst.bc0 rfl))) ?_
    refine ws_q (v := .pointer (some ⟨b358, 2, none⟩)) 8 [3, 4, 7, 9, 10] (by kernel_rfl) rfl rfl (yi_run rfl (fun w hst => x_field rfl Try.underlying73 rfl Try.sizeOf22 rfl)) ?_
    refine ws_q (v := v354) 9 [3, 4, 7, 10] (by kernel_rfl) rfl rfl (yi_run rfl (fun w hst => x_load rfl Try.isAgg22 (hst.bc0 rfl))) ?_
    refine ws_e1 3 (by kernel_rfl) ?_
    refine nxe [4, 7, 10] (by kernel_rfl) rfl rfl ?_
    clear hst
    intro w hst
    obtain ⟨t365, ht366, hm⟩ := bind_some hm
    refine we_call rfl (x_call Try.call39 rfl (vs := [.float .f64 x346.At]) rfl) ?_
    refine (number_Rank_ref hst.to0 ht366).mono ?_
    rintro _ w367 ⟨rfl, hst⟩
    refine ⟨_, rfl, ?_⟩
    replace hst := hst.of0
    refine ws_next (pend' := [(9, v354), (8, .pointer (some ⟨b358, 2, none⟩)), (6, .bool x346.Del), (5, .pointer (some ⟨b358, 1, none⟩)), (0, p0)]) hst (by kernel_rfl) (pk_cons rfl (yi_run rfl (fun w hst => x_load rfl Try.isAgg22 (hst.bc0 rfl))) (pk_cons rfl (yi_run rfl (fun w hst => x_field rfl Try.underlying73 rfl Try.sizeOf22 rfl)) (pk_cons rfl (yi_run rfl (fun w hst => x_load rfl Try.isAgg4 (hst.bc0 rfl))) (pk_cons rfl (yi_run rfl (fun w hst => x_field rfl Try.underlying73 rfl Try.sizeOf4 rfl)) (pk_cons rfl (yi_run rfl (fun w hst => rfl)) pk_nil))))) ?_
    refine ws_e1 4 (by kernel_rfl) ?_
    refine nxe [7, 10] (by kernel_rfl) rfl rfl ?_
    clear hst
    intro w hst
    replace hst := hst.pull1
    obtain ⟨t370, ht371, hm⟩ := bind_some hm
    refine we_call rfl (x_call Try.call27 rfl (vs := [p0, .int .u64 t365, .int .i64 (8:Int)]) rfl) ?_
    refine (octet_Writer_Num_ref hst.to1 ht371).mono ?_
    rintro _ w372 ⟨rfl, hst⟩
    refine ⟨_, rfl, ?_⟩
    replace hst := hst.of1
    refine ws_next (pend' := [(9, v354), (8, .pointer (some ⟨b358, 2, none⟩)), (6, .bool x346.Del), (5, .pointer (some ⟨b358, 1, none⟩))]) hst (by kernel_rfl) (pk_cons rfl (yi_run rfl (fun w hst => x_load rfl Try.isAgg22 (hst.bc1 rfl))) (pk_cons rfl (yi_run rfl (fun w hst => x_field rfl Try.underlying73 rfl Try.sizeOf22 rfl)) (pk_cons rfl (yi_run rfl (fun w hst => x_load rfl Try.isAgg4 (hst.bc1 rfl))) (pk_cons rfl (yi_run rfl (fun w hst => x_field rfl Try.underlying73 rfl Try.sizeOf4 rfl)) pk_nil)))) ?_
    refine ws_e1 7 (by kernel_rfl) ?_
    refine nxe [10] (by kernel_rfl) rfl rfl ?_
    clear hst
    intro w hst
    obtain ⟨t375, ht376, hm⟩ := bind_some hm
    refine we_call rfl (x_call Try.call32 rfl (vs := [p0, .bool x346.Del]) rfl) ?_
    refine (octet_Writer_Flag_ref hst.to1 ht376).mono ?_
    rintro _ w377 ⟨rfl, hst⟩
    refine ⟨_, rfl, ?_⟩
    replace hst := hst.of1
    refine ws_next (pend' := [(9, v354), (8, .pointer (some ⟨b358, 2, none⟩))]) hst (by kernel_rfl) (pk_cons rfl (yi_run rfl (fun w hst => x_load rfl Try.isAgg22 (hst.bc1 rfl))) (pk_cons rfl (yi_run rfl (fun w hst => x_field rfl Try.underlying73 rfl Try.sizeOf22 rfl)) pk_nil)) ?_
    refine ws_e1 10 (by kernel_rfl) ?_
    refine nxe [] (by kernel_rfl) rfl rfl ?_
    clear hst
    intro w hst
    obtain ⟨t380, ht381, hm⟩ := bind_some hm
    refine we_call rfl (x_call Try.call38 rfl (vs := [p0, v354]) rfl) ?_
    refine (octet_Writer_Bytes_ref (f355.mono (rd_weak _)) hst.to1 ht381).mono ?_
    rintro _ w382 ⟨rfl, hst⟩
    refine ⟨_, rfl, ?_⟩
    replace hst := hst.of1
    refine ws_next (pend' := []) hst (by kernel_rfl) pk_nil ?_
    refine ws_nil ?_
    intro w hst
    refine blk_n ?_
    refine then_n ?_
    refine wp_region_lit ?_
    refine wl_val (v := .int .i64 (IntKind.i64.wrap (z336 + (1:Int)))) rfl rfl rfl ?_
    refine wl_val (v := .int .i64 (IntKind.i64.wrap (z336 + (1:Int)))) rfl rfl rfl ?_
    refine wl_nil ?_
    refine then_n ?_
    replace hst := hst.keep1
    obtain rfl := some_inj hm
    exact ⟨_, Nat.lt_succ_self _, t380, (IntKind.i64.wrap (z336 + (1:Int))), _, hx343, ((fr_upd (t := 0) (v := p0) rfl).trans ((fr_upd (t := 11) (v := r1_0) rfl).trans ((fr_upd (t := 12) (v := .int .i64 ((a1).length : Int)) rfl).trans ((fr_upd (t := 13) (v := .int .i64 (IntKind.i64.wrap (z336 + (1:Int)))) rfl).trans rfl)))), hst⟩
  · skip
    replace hm := bif_f hc345 hm
    refine wp_iff (congrArg Value.bool hc345) ?_
    refine wp_exit ?_
    refine then_x ?_
    refine then_x ?_
    replace hm := inr_up hm hx343
    refine blk_x ?_
    obtain rfl := some_inj hm
    refine post_end (vs := []) Try.results30 rvs_nil ?_
    exact ⟨rfl, hst.keep1⟩

theorem command_LayReply_ref {w0 w : World} {I : HL} {R : SP} {a0 : octet_Writer} {p0 : Value} {a1 : api_Reply} {r1_0 : Value} {r1_1 : Value} (f1_0 : Rd ty_api_Got R I r1_0 a1.Gots) (f1_1 : Rd (tySl ty_api_Pair) R I r1_1 a1.Scans) (hst : St w0 w I [at_octet_Writer p0 a0] R) {r : (octet_Writer)} (hm : command_LayReply a0 a1 = some r) :
    Calls Try.prog 13 #[p0, .agg #[.int .i64 a1.E, .int .u64 a1.Epoch, .int .u64 a1.Index, r1_0, r1_1]] w fun e w' => e = .returned (.tuple #[]) ∧ St w0 w' I [at_octet_Writer p0 r] R := by
  unfold command_LayReply at hm
  refine calls_start (args := [p0, .agg #[.int .i64 a1.E, .int .u64 a1.Epoch, .int .u64 a1.Index, r1_0, r1_1]]) Try.func13 rfl Try.ntmps13 (Nat.le_of_ble_eq_true rfl) ?_
  refine wp_seq ?_
  refine wp_region_lit ?_
  obtain ⟨b816, w817, ew818, eb819, hst⟩ := hst.box [.int .i64 a1.E, .int .u64 a1.Epoch, .int .u64 a1.Index, r1_0, r1_1] 39
  refine wl_run (v := .pointer (some ⟨b816, 0, none⟩)) (w' := w817) rfl rfl (x_al (by kernel_rfl) ew818 eb819) ?_
  refine wl_nil ?_
  refine then_n ?_
  refine wp_seq ?_
  refine wp_region_St hst 16 [0, 1, 2, 3, 4, 5, 6, 7, 8, 9, 10, 11, 12, 13, 14, 15] [0, 0, 2, 6, 15, 0, 32, 127, 0, 256, 1023, 0, 2048, 6144, 14336, 32767] [] rfl (by kernel_rfl) (by kernel_rfl) Try.mixed (by kernel_rfl) ?_
  refine ws_q (v := p0) 0 [1, 2, 3, 4, 5, 6, 7, 8, 9, 10, 11, 12, 13, 14, 15] (by kernel_rfl) rfl rfl (yi_run rfl (fun w hst => rfl)) ?_
  refine ws_q (v := .pointer (some ⟨b816, 0, none⟩)) 1 [2, 3, 4, 5, 6, 7, 8, 9, 10, 11, 12, 13, 14, 15] (by kernel_rfl) rfl rfl (yi_run rfl (fun w hst => x_field rfl Try.underlying39 rfl Try.sizeOf30 rfl)) ?_
  refine ws_q (v := .int .i64 a1.E) 2 [3, 4, 5, 6, 7, 8, 9, 10, 11, 12, 13, 14, 15] (by kernel_rfl) rfl rfl (yi_run rfl (fun w hst => x_load rfl Try.isAgg30 (hst.bc0 rfl))) ?_
  refine ws_q (v := .int .u64 (IntKind.u64.wrap a1.E)) 3 [4, 5, 6, 7, 8, 9, 10, 11, 12, 13, 14, 15] (by kernel_rfl) rfl rfl (yi_run rfl (fun w hst => by kernel_rfl)) ?_
  refine ws_q (v := .pointer (some ⟨b816, 1, none⟩)) 5 [4, 6, 7, 8, 9, 10, 11, 12, 13, 14, 15] (by kernel_rfl) rfl rfl (yi_run rfl (fun w hst => x_field rfl Try.underlying39 rfl Try.sizeOf27 rfl)) ?_
  refine ws_q (v := .int .u64 a1.Epoch) 6 [4, 7, 8, 9, 10, 11, 12, 13, 14, 15] (by kernel_rfl) rfl rfl (yi_run rfl (fun w hst => x_load rfl Try.isAgg27 (hst.bc0 rfl))) ?_
  refine ws_q (v := .pointer (some ⟨b816, 2, none⟩)) 8 [4, 7, 9, 10, 11, 12, 13, 14, 15] (by kernel_rfl) rfl rfl (yi_run rfl (fun w hst => x_field rfl Try.underlying39 rfl Try.sizeOf27 rfl)) ?_
  refine ws_q (v := .int .u64 a1.Index) 9 [4, 7, 10, 11, 12, 13, 14, 15] (by kernel_rfl) rfl rfl (yi_run rfl (fun w hst => x_load rfl Try.isAgg27 (hst.bc0 rfl))) ?_
  refine ws_q (v := .pointer (some ⟨b816, 3, none⟩)) 11 [4, 7, 10, 12, 13, 14, 15] (by kernel_rfl) rfl rfl (yi_run rfl (fun w hst => x_field rfl Try.underlying39 rfl Try.sizeOf36 rfl)) ?_
  refine ws_q (v := r1_0) 12 [4, 7, 10, 13, 14, 15] (by kernel_rfl) rfl rfl (yi_run rfl (fun w hst => x_load rfl Try.isAgg36 (hst.bc0 rfl))) ?_
  refine ws_q (v := .int .i64 ((a1.Gots).length : Int)) 13 [4, 7, 10, 14, 15] (by kernel_rfl) rfl rfl (yi_run rfl (fun w hst => x_len rfl Try.underlying36 (rd_sliceV f1_0))) ?_
  refine ws_q (v := .int .u64 (IntKind.u64.wrap ((a1.Gots).length : Int))) 14 [4, 7, 10, 15] (by kernel_rfl) rfl rfl (yi_run rfl (fun w hst => by kernel_rfl)) ?_
  refine ws_e1 4 (by kernel_rfl) ?_
  refine nxe [7, 10, 15] (by kernel_rfl) rfl rfl ?_
  clear hst
  intro w hst
  replace hst := hst.pull1
  obtain ⟨t821, ht822, hm⟩ := bind_some hm
  refine we_call rfl (x_call Try.call27 rfl (vs := [p0, .int .u64 (IntKind.u64.wrap a1.E), .int .i64 (1:Int)]) rfl) ?_
  refine (octet_Writer_Num_ref hst.to1 ht822).mono ?_
  rintro _ w823 ⟨rfl, hst⟩
  refine ⟨_, rfl, ?_⟩
  replace hst := hst.of1
  refine ws_next (pend' := [(14, .int .u64 (IntKind.u64.wrap ((a1.Gots).length : Int))), (13, .int .i64 ((a1.Gots).length : Int)), (12, r1_0), (11, .pointer (some ⟨b816, 3, none⟩)), (9, .int .u64 a1.Index), (8, .pointer (some ⟨b816, 2, none⟩)), (6, .int .u64 a1.Epoch), (5, .pointer (some ⟨b816, 1, none⟩))]) hst (by kernel_rfl) (pk_cons rfl (yi_run rfl (fun w hst => by kernel_rfl)) (pk_cons rfl (yi_run rfl (fun w hst => x_len rfl Try.underlying36 (rd_sliceV f1_0))) (pk_cons rfl (yi_run rfl (fun w hst => x_load rfl Try.isAgg36 (hst.bc1 rfl))) (pk_cons rfl (yi_run rfl (fun w hst => x_field rfl Try.underlying39 rfl Try.sizeOf36 rfl)) (pk_cons rfl (yi_run rfl (fun w hst => x_load rfl Try.isAgg27 (hst.bc1 rfl))) (pk_cons rfl (yi_run rfl (fun w hst => x_field rfl Try.underlying39 rfl Try.sizeOf27 rfl)) (pk_cons rfl (yi_run rfl (fun w hst => x_load rfl Try.isAgg27 (hst.bc1 rfl))) (pk_cons rfl (yi_run rfl (fun w hst => x_field rfl Try.underlying39 rfl Try.sizeOf27 rfl)) pk_nil)))))))) ?_
  refine ws_e1 7 (by kernel_rfl) ?_
  refine nxe [10, 15] (by kernel_rfl) rfl rfl ?_
  clear hst
  intro w hst
  obtain ⟨t826, ht827, hm⟩ := bind_some hm
  refine we_call rfl (x_call Try.call27 rfl (vs := [p0, .int .u64 a1.Epoch, .int .i64 (8:Int)]) rfl) ?_
  refine (octet_Writer_Num_ref hst.to1 ht827).mono ?_
  rintro _ w828 ⟨rfl, hst⟩
  refine ⟨_, rfl, ?_⟩
  replace hst := hst.of1
  refine ws_next (pend' := [(14, .int .u64 (IntKind.u64.wrap ((a1.Gots).length : Int))), (13, .int .i64 ((a1.Gots).length : Int)), (12, r1_0), (11, .pointer (some ⟨b816, 3, none⟩)), (9, .int .u64 a1.Index), (8, .pointer (some ⟨b816, 2, none⟩))]) hst (by kernel_rfl) (pk_cons rfl (yi_run rfl (fun w hst => by kernel_rfl)) (pk_cons rfl (yi_run rfl (fun w hst => x_len rfl Try.underlying36 (rd_sliceV f1_0))) (pk_cons rfl (yi_run rfl (fun w hst => x_load rfl Try.isAgg36 (hst.bc1 rfl))) (pk_cons rfl (yi_run rfl (fun w hst => x_field rfl Try.underlying39 rfl Try.sizeOf36 rfl)) (pk_cons rfl (yi_run rfl (fun w hst => x_load rfl Try.isAgg27 (hst.bc1 rfl))) (pk_cons rfl (yi_run rfl (fun w hst => x_field rfl Try.underlying39 rfl Try.sizeOf27 rfl)) pk_nil)))))) ?_
  refine ws_e1 10 (by kernel_rfl) ?_
  refine nxe [15] (by kernel_rfl) rfl rfl ?_
  clear hst
  intro w hst
  obtain ⟨t831, ht832, hm⟩ := bind_some hm
  refine we_call rfl (x_call Try.call27 rfl (vs := [p0, .int .u64 a1.Index, .int .i64 (8:Int)]) rfl) ?_
  refine (octet_Writer_Num_ref hst.to1 ht832).mono ?_
  rintro _ w833 ⟨rfl, hst⟩
  refine ⟨_, rfl, ?_⟩
  replace hst := hst.of1
  refine ws_next (pend' := [(14, .int .u64 (IntKind.u64.wrap ((a1.Gots).length : Int))), (13, .int .i64 ((a1.Gots).length : Int)), (12, r1_0), (11, .pointer (some ⟨b816, 3, none⟩))]) hst (by kernel_rfl) (pk_cons rfl (yi_run rfl (fun w hst => by kernel_rfl)) (pk_cons rfl (yi_run rfl (fun w hst => x_len rfl Try.underlying36 (rd_sliceV f1_0))) (pk_cons rfl (yi_run rfl (fun w hst => x_load rfl Try.isAgg36 (hst.bc1 rfl))) (pk_cons rfl (yi_run rfl (fun w hst => x_field rfl Try.underlying39 rfl Try.sizeOf36 rfl)) pk_nil)))) ?_
  refine ws_e1 15 (by kernel_rfl) ?_
  refine nxe [] (by kernel_rfl) rfl rfl ?_
  clear hst
  intro w hst
  obtain ⟨t836, ht837, hm⟩ := bind_some hm
  refine we_call rfl (x_call Try.call27 rfl (vs := [p0, .int .u64 (IntKind.u64.wrap ((a1.Gots).length : Int)), .int .i64 (4:Int)]) rfl) ?_
  refine (octet_Writer_Num_ref hst.to1 ht837).mono ?_
  rintro _ w838 ⟨rfl, hst⟩
  refine ⟨_, rfl, ?_⟩
  replace hst := hst.of1
  refine ws_next (pend' := []) hst (by kernel_rfl) pk_nil ?_
  refine ws_nil ?_
  intro w hst
  refine then_n ?_
  obtain ⟨y946, hm, hx947⟩ := bind_some hm
  refine wp_cut (fun a w => ∃ (z943 : octet_Writer) (σ944 : Nat → Value), (command_LayReply_j0 a1) z943 = some r ∧ a = Fr 75 (upd (upd σ944 0 (p0)) 3 (.pointer (some ⟨b816, 0, none⟩))) ∧ St w0 w I [at_octet_Writer p0 z943, cells b816 [.int .i64 a1.E, .int .u64 a1.Epoch, .int .u64 a1.Index, r1_0, r1_1]] R) ?_ ?_
  · skip
    refine wp_seq ?_
    refine wp_region_lit ?_
    refine wl_val (v := .pointer (some ⟨b816, 3, none⟩)) rfl rfl (x_field rfl Try.underlying39 rfl Try.sizeOf36 rfl) ?_
    refine wl_val (v := r1_0) rfl rfl (x_load rfl Try.isAgg36 (hst.bc1 rfl)) ?_
    refine wl_val (v := .int .i64 ((a1.Gots).length : Int)) rfl rfl (x_len rfl Try.underlying36 (rd_sliceV f1_0)) ?_
    refine wl_val (v := .int .i64 (0:Int)) rfl rfl rfl ?_
    refine wl_nil ?_
    refine then_n ?_
    refine wp_block ?_
    obtain ⟨n906, hm⟩ := loopO_some hm
    refine wp_loop_n (fun n a w => ∃ (z903 : octet_Writer) (z904 : Int) (σ905 : Nat → Value), loopN (command_LayReply_l1 a1) n (z903, z904) = some y946 ∧ a = Fr 75 (upd (upd (upd (upd (upd σ905 0 (p0)) 3 (.pointer (some ⟨b816, 0, none⟩))) 27 (r1_0)) 28 (.int .i64 ((a1.Gots).length : Int))) 29 (.int .i64 z904)) ∧ St w0 w I [at_octet_Writer p0 z903, cells b816 [.int .i64 a1.E, .int .u64 a1.Epoch, .int .u64 a1.Index, r1_0, r1_1]] R) n906 ⟨t836, (0:Int), _, hm, ((fr_upd (t := 0) (v := p0) rfl).trans ((fr_upd (t := 3) (v := .pointer (some ⟨b816, 0, none⟩)) rfl).trans ((fr_upd (t := 27) (v := r1_0) rfl).trans ((fr_upd (t := 28) (v := .int .i64 ((a1.Gots).length : Int)) rfl).trans ((fr_upd (t := 29) (v := .int .i64 (0:Int)) rfl).trans rfl))))), hst⟩ ?_
    rintro n912 _ w907 ⟨z903, z904, σ905, hm, rfl, hst⟩
    obtain ⟨n909, y910, rfl, hm, hx911⟩ := loopN_some hm
    dsimp only [command_LayReply_l1] at hm
    refine wp_seq ?_
    refine wp_region_lit ?_
    refine wl_val (v := .bool (decide (z904 < ((a1.Gots).length : Int)))) rfl rfl rfl ?_
    refine wl_nil ?_
    refine then_n ?_
    refine wp_seq ?_
    refine bsplit (decide (z904 < ((a1.Gots).length : Int))) (fun hc913 => ?_) (fun hc913 => ?_)
    · skip
      replace hm := bif_t hc913 hm
      refine wp_ift (congrArg Value.bool hc913) ?_
      refine wp_skip ?_
      refine then_n ?_
      refine wp_seq ?_
      refine wp_block ?_
      refine wp_seq ?_
      refine wp_region_lit ?_
      obtain ⟨x914, hx915, hm⟩ := bind_some hm
      obtain ⟨h916, h917, hi918⟩ := geto_some hx915
      refine wl_val (v := .pointer (some (eAddr r1_0 (z904.toNat * 2 + 0)))) rfl rfl (x_index rfl rfl Try.underlying36 Try.sizeOf51 (rd_sliceV f1_0) h916 h917) ?_
      obtain ⟨cs919, hr920, hc921⟩ := Rd.getF f1_0 hi918
      obtain ⟨v922, rfl, f923, -⟩ := hr920
      refine wl_val (v := .agg #[.bool x914.Has, v922]) rfl rfl (x_loadN (cs := [.bool x914.Has, v922]) rfl Try.isAgg51 Try.sizeOf51 (eCells (o := 0) (hc921 (HL.le.refl _) hst) rfl)) ?_
      obtain ⟨b926, w927, ew928, eb929, hst⟩ := hst.box [.bool false, (.slice none 0 0)] 51
      refine wl_run (v := .pointer (some ⟨b926, 0, none⟩)) (w' := w927) rfl rfl (x_al (by kernel_rfl) ew928 eb929) ?_
      obtain ⟨w931, hr932, hst⟩ := hst.boxStore (P := Try.prog) (t := 51) (cs' := [.bool x914.Has, v922]) 0 (.agg #[.bool x914.Has, v922]) Try.sizeOf51 (Nat.le_of_ble_eq_true rfl) (ones_cons rfl (ones_cons (one_of_sliceV (rd_sliceV f923)) ones_nil)) (by kernel_rfl)
      refine wl_unit rfl rfl (x_unit hr932) ?_
      refine wl_nil ?_
      refine then_n ?_
      refine wp_region_St hst 7 [0, 1, 2, 3, 4, 5, 6] [0, 0, 2, 7, 0, 16, 63] [] rfl (by kernel_rfl) (by kernel_rfl) Try.mixed (by kernel_rfl) ?_
      refine ws_q (v := p0) 0 [1, 2, 3, 4, 5, 6] (by kernel_rfl) rfl rfl (yi_run rfl (fun w hst => rfl)) ?_
      refine ws_q (v := .pointer (some ⟨b926, 0, none⟩)) 1 [2, 3, 4, 5, 6] (by kernel_rfl) rfl rfl (yi_run rfl (fun w hst => x_field rfl Try.underlying51 rfl Try.sizeOf4 rfl)) ?_
      refine ws_q (v := .bool x914.Has) 2 [3, 4, 5, 6] (by kernel_rfl) rfl rfl (yi_run rfl (fun w hst => x_load rfl Try.isAgg4 (hst.bc0 rfl))) ?_
      refine ws_q (v := .pointer (some ⟨b926, 1, none⟩)) 4 [3, 5, 6] (by kernel_rfl) rfl rfl (yi_run rfl (fun w hst => x_field rfl Try.underlying51 rfl Try.sizeOf22 rfl)) ?_
      refine ws_q (v := v922) 5 [3, 6] (by kernel_rfl) rfl rfl (yi_run rfl (fun w hst => x_load rfl Try.isAgg22 (hst.bc0 rfl))) ?_
      refine ws_e1 3 (by kernel_rfl) ?_
      refine nxe [6] (by kernel_rfl) rfl rfl ?_
      clear hst
      intro w hst
      replace hst := hst.pull1
      obtain ⟨t933, ht934, hm⟩ := bind_some hm
      refine we_call rfl (x_call Try.call32 rfl (vs := [p0, .bool x914.Has]) rfl) ?_
      refine (octet_Writer_Flag_ref hst.to1 ht934).mono ?_
      rintro _ w935 ⟨rfl, hst⟩
      refine ⟨_, rfl, ?_⟩
      replace hst := hst.of1
      refine ws_next (pend' := [(5, v922), (4, .pointer (some ⟨b926, 1, none⟩))]) hst (by kernel_rfl) (pk_cons rfl (yi_run rfl (fun w hst => x_load rfl Try.isAgg22 (hst.bc1 rfl))) (pk_cons rfl (yi_run rfl (fun w hst => x_field rfl Try.underlying51 rfl Try.sizeOf22 rfl)) pk_nil)) ?_
      refine ws_e1 6 (by kernel_rfl) ?_
      refine nxe [] (by kernel_rfl) rfl rfl ?_
      clear hst
      intro w hst
      obtain ⟨t938, ht939, hm⟩ := bind_some hm
      refine we_call rfl (x_call Try.call38 rfl (vs := [p0, v922]) rfl) ?_
      refine (octet_Writer_Bytes_ref (f923.mono (rd_weak _)) hst.to1 ht939).mono ?_
      rintro _ w940 ⟨rfl, hst⟩
      refine ⟨_, rfl, ?_⟩
      replace hst := hst.of1
      refine ws_next (pend' := []) hst (by kernel_rfl) pk_nil ?_
      refine ws_nil ?_
      intro w hst
      refine blk_n ?_
      refine then_n ?_
      refine wp_region_lit ?_
      refine wl_val (v := .int .i64 (IntKind.i64.wrap (z904 + (1:Int)))) rfl rfl rfl ?_
      refine wl_val (v := .int .i64 (IntKind.i64.wrap (z904 + (1:Int)))) rfl rfl rfl ?_
      refine wl_nil ?_
      refine then_n ?_
      replace hst := hst.pull2
      replace hst := hst.pull1
      replace hst := hst.keep2
      obtain rfl := some_inj hm
      exact ⟨_, Nat.lt_succ_self _, t938, (IntKind.i64.wrap (z904 + (1:Int))), _, hx911, ((fr_upd (t := 0) (v := p0) rfl).trans ((fr_upd (t := 3) (v := .pointer (some ⟨b816, 0, none⟩)) rfl).trans ((fr_upd (t := 27) (v := r1_0) rfl).trans ((fr_upd (t := 28) (v := .int .i64 ((a1.Gots).length : Int)) rfl).trans ((fr_upd (t := 29) (v := .int .i64 (IntKind.i64.wrap (z904 + (1:Int)))) rfl).trans rfl))))), hst⟩
    · skip
      replace hm := bif_f hc913 hm
      refine wp_iff (congrArg Value.bool hc913) ?_
      refine wp_exit ?_
      refine then_x ?_
      refine then_x ?_
      replace hm := inr_up hm hx911
      refine blk_x ?_
      refine then_n ?_
      replace hst := hst.pull1
      replace hst := hst.pull1
      replace hst := hst.keep2
      obtain rfl := some_inj hm
      exact ⟨z903, _, hx947, ((fr_upd (t := 0) (v := p0) rfl).trans ((fr_upd (t := 3) (v := .pointer (some ⟨b816, 0, none⟩)) rfl).trans rfl)), hst⟩
  · skip
    clear hst
    rintro _ w948 ⟨z943, σ944, hm, rfl, hst⟩
    dsimp only [command_LayReply_j0] at hm
    refine wp_seq ?_
    refine wp_region_lit ?_
    refine wl_val (v := p0) rfl rfl rfl ?_
    refine wl_val (v := .pointer (some ⟨b816, 4, none⟩)) rfl rfl (x_field rfl Try.underlying39 rfl Try.sizeOf37 rfl) ?_
    refine wl_val (v := r1_1) rfl rfl (x_load rfl Try.isAgg37 (hst.bc1 rfl)) ?_
    refine wl_val (v := .int .i64 ((a1.Scans).length : Int)) rfl rfl (x_len rfl Try.underlying37 (rd_sliceV f1_1)) ?_
    refine wl_val (v := .int .u64 (IntKind.u64.wrap ((a1.Scans).length : Int))) rfl rfl (by kernel_rfl) ?_
    obtain ⟨t949, ht950, hm⟩ := bind_some hm
    refine wl_call rfl rfl (x_call Try.call27 rfl (vs := [p0, .int .u64 (IntKind.u64.wrap ((a1.Scans).length : Int)), .int .i64 (4:Int)]) rfl) ?_
    refine (octet_Writer_Num_ref hst.to1 ht950).mono ?_
    rintro _ w951 ⟨rfl, hst⟩
    refine ⟨_, rfl, ?_⟩
    replace hst := hst.of1
    refine wl_nil ?_
    refine then_n ?_
    refine wp_seq ?_
    refine wp_region_lit ?_
    refine wl_val (v := .pointer (some ⟨b816, 4, none⟩)) rfl rfl (x_field rfl Try.underlying39 rfl Try.sizeOf37 rfl) ?_
    refine wl_val (v := r1_1) rfl rfl (x_load rfl Try.isAgg37 (hst.bc1 rfl)) ?_
    refine wl_val (v := .int .i64 ((a1.Scans).length : Int)) rfl rfl (x_len rfl Try.underlying37 (rd_sliceV f1_1)) ?_
    refine wl_val (v := .int .i64 (0:Int)) rfl rfl rfl ?_
    refine wl_nil ?_
    refine then_n ?_
    refine wp_block ?_
    replace hst := hst.pull1
    replace hst := hst.sub
    obtain ⟨n1227, hm⟩ := loopO_some hm
    refine wp_loop_n (fun n a w => ∃ (z1224 : octet_Writer) (z1225 : Int) (σ1226 : Nat → Value), loopN (command_LayReply_l2 a1) n (z1224, z1225) = some r ∧ a = Fr 75 (upd (upd (upd (upd σ1226 0 (p0)) 48 (r1_1)) 49 (.int .i64 ((a1.Scans).length : Int))) 50 (.int .i64 z1225)) ∧ St w0 w I [at_octet_Writer p0 z1224] R) n1227 ⟨t949, (0:Int), _, hm, ((fr_upd (t := 0) (v := p0) rfl).trans ((fr_upd (t := 48) (v := r1_1) rfl).trans ((fr_upd (t := 49) (v := .int .i64 ((a1.Scans).length : Int)) rfl).trans ((fr_upd (t := 50) (v := .int .i64 (0:Int)) rfl).trans rfl)))), hst⟩ ?_
    rintro n1233 _ w1228 ⟨z1224, z1225, σ1226, hm, rfl, hst⟩
    obtain ⟨n1230, y1231, rfl, hm, hx1232⟩ := loopN_some hm
    dsimp only [command_LayReply_l2] at hm
    refine wp_seq ?_
    refine wp_region_lit ?_
    refine wl_val (v := .bool (decide (z1225 < ((a1.Scans).length : Int)))) rfl rfl rfl ?_
    refine wl_nil ?_
    refine then_n ?_
    refine wp_seq ?_
    refine bsplit (decide (z1225 < ((a1.Scans).length : Int))) (fun hc1234 => ?_) (fun hc1234 => ?_)
    · skip
      replace hm := bif_t hc1234 hm
      refine wp_ift (congrArg Value.bool hc1234) ?_
      refine wp_skip ?_
      refine then_n ?_
      refine wp_seq ?_
      refine wp_block ?_
      refine wp_seq ?_
      refine wp_region_lit ?_
      obtain ⟨x1235, hx1236, hm⟩ := bind_some hm
      obtain ⟨h1237, h1238, hi1239⟩ := geto_some hx1236
      refine wl_val (v := .pointer (some (eAddr r1_1 (z1225.toNat * 1 + 0)))) rfl rfl (x_index rfl rfl Try.underlying37 Try.sizeOf52 (rd_sliceV f1_1) h1237 h1238) ?_
      obtain ⟨cs1240, hr1241, hc1242⟩ := Rd.getF f1_1 hi1239
      obtain ⟨v1243, rfl, f1244, -⟩ := hr1241
      refine wl_val (v := v1243) rfl rfl (x_load rfl Try.isAgg52 ((hc1242 (HL.le.refl _) hst) 0 _ rfl)) ?_
      refine wl_val (v := v1243) rfl rfl rfl ?_
      refine wl_nil ?_
      refine then_n ?_
      refine wp_seq ?_
      refine wp_region_lit ?_
      refine wl_val (v := p0) rfl rfl rfl ?_
      refine wl_val (v := v1243) rfl rfl rfl ?_
      refine wl_val (v := .int .i64 ((x1235).length : Int)) rfl rfl (x_len rfl Try.underlying52 (rd_sliceV f1244)) ?_
      refine wl_val (v := .int .u64 (IntKind.u64.wrap ((x1235).length : Int))) rfl rfl (by kernel_rfl) ?_
      obtain ⟨t1246, ht1247, hm⟩ := bind_some hm
      refine wl_call rfl rfl (x_call Try.call27 rfl (vs := [p0, .int .u64 (IntKind.u64.wrap ((x1235).length : Int)), .int .i64 (4:Int)]) rfl) ?_
      refine (octet_Writer_Num_ref hst.to1 ht1247).mono ?_
      rintro _ w1248 ⟨rfl, hst⟩
      refine ⟨_, rfl, ?_⟩
      replace hst := hst.of1
      refine wl_nil ?_
      refine then_n ?_
      refine wp_seq ?_
      refine wp_region_lit ?_
      refine wl_val (v := v1243) rfl rfl rfl ?_
      refine wl_val (v := .int .i64 ((x1235).length : Int)) rfl rfl (x_len rfl Try.underlying52 (rd_sliceV f1244)) ?_
      refine wl_val (v := .int .i64 (0:Int)) rfl rfl rfl ?_
      refine wl_nil ?_
      refine then_n ?_
      refine wp_block ?_
      obtain ⟨n1326, hm⟩ := loopO_some hm
      refine wp_loop_n (fun n a w => ∃ (z1323 : octet_Writer) (z1324 : Int) (σ1325 : Nat → Value), loopN (command_LayReply_l3 x1235 z1225) n (z1323, z1324) = some y1231 ∧ a = Fr 75 (upd (upd (upd (upd (upd (upd (upd σ1325 0 (p0)) 48 (r1_1)) 49 (.int .i64 ((a1.Scans).length : Int))) 50 (.int .i64 z1225)) 59 (v1243)) 60 (.int .i64 ((x1235).length : Int))) 61 (.int .i64 z1324)) ∧ St w0 w I [at_octet_Writer p0 z1323] R) n1326 ⟨t1246, (0:Int), _, hm, ((fr_upd (t := 0) (v := p0) rfl).trans ((fr_upd (t := 48) (v := r1_1) rfl).trans ((fr_upd (t := 49) (v := .int .i64 ((a1.Scans).length : Int)) rfl).trans ((fr_upd (t := 50) (v := .int .i64 z1225) rfl).trans ((fr_upd (t := 59) (v := v1243) rfl).trans ((fr_upd (t := 60) (v := .int .i64 ((x1235).length : Int)) rfl).trans ((fr_upd (t := 61) (v := .int .i64 (0:Int)) rfl).trans rfl))))))), hst⟩ ?_
      rintro n1332 _ w1327 ⟨z1323, z1324, σ1325, hm, rfl, hst⟩
      obtain ⟨n1329, y1330, rfl, hm, hx1331⟩ := loopN_some hm
      dsimp only [command_LayReply_l3] at hm
      refine wp_seq ?_
      refine wp_region_lit ?_
      refine wl_val (v := .bool (decide (z1324 < ((x1235).length : Int)))) rfl rfl rfl ?_
      refine wl_nil ?_
      refine then_n ?_
      refine wp_seq ?_
      refine bsplit (decide (z1324 < ((x1235).length : Int))) (fun hc1333 => ?_) (fun hc1333 => ?_)
      · skip
        replace hm := bif_t hc1333 hm
        refine wp_ift (congrArg Value.bool hc1333) ?_
        refine wp_skip ?_
        refine then_n ?_
        refine wp_seq ?_
        refine wp_block ?_
        refine wp_seq ?_
        refine wp_region_lit ?_
        obtain ⟨x1334, hx1335, hm⟩ := bind_some hm
        obtain ⟨h1336, h1337, hi1338⟩ := geto_some hx1335
        refine wl_val (v := .pointer (some (eAddr v1243 (z1324.toNat * 2 + 0)))) rfl rfl (x_index rfl rfl Try.underlying52 Try.sizeOf54 (rd_sliceV f1244) h1336 h1337) ?_
        obtain ⟨cs1339, hr1340, hc1341⟩ := Rd.getF f1244 hi1338
        obtain ⟨v1342, rfl, f1343, -⟩ := hr1340
        refine wl_val (v := .agg #[.float .f64 x1334.At, v1342]) rfl rfl (x_loadN (cs := [.float .f64 x1334.At, v1342]) rfl Try.isAgg54 Try.sizeOf54 (eCells (o := 0) (hc1341 (HL.le.refl _) hst) rfl)) ?_
        obtain ⟨b1346, w1347, ew1348, eb1349, hst⟩ := hst.box [.float .f64 (0:Nat), (.slice none 0 0)] 54
        refine wl_run (v := .pointer (some ⟨b1346, 0, none⟩)) (w' := w1347) rfl rfl (x_al (by kernel_rfl) ew1348 eb1349) ?_
        obtain ⟨w1351, hr1352, hst⟩ := hst.boxStore (P := Try.prog) (t := 54) (cs' := [.float .f64 x1334.At, v1342]) 0 (.agg #[.float .f64 x1334.At, v1342]) Try.sizeOf54 (Nat.le_of_ble_eq_true rfl) (ones_cons rfl (ones_cons (one_of_sliceV (rd_sliceV f1343)) ones_nil)) (by kernel_rfl)
        refine wl_unit rfl rfl (x_unit hr1352) ?_
        refine wl_nil ?_
        refine then_n ?_
        refine wp_region_St hst 8 [0, 1, 2, 3, 4, 5, 6, 7] [0, 0, 2, 6, 15, 0, 32, 127] [] rfl (by kernel_rfl) (by kernel_rfl) Try.mixed (by kernel_rfl) ?_
        refine ws_q (v := p0) 0 [1, 2, 3, 4, 5, 6, 7] (by kernel_rfl) rfl rfl (yi_run rfl (fun w hst => rfl)) ?_
        refine ws_q (v := .pointer (some ⟨b1346, 0, none⟩)) 1 [2, 3, 4, 5, 6, 7] (by kernel_rfl) rfl rfl (yi_run rfl (fun w hst => x_field rfl Try.underlying54 rfl Try.sizeOf41 rfl)) ?_
        refine ws_q (v := .float .f64 x1334.At) 2 [3, 4, 5, 6, 7] (by kernel_rfl) rfl rfl (yi_run rfl (fun w hst => x_load rfl Try.isAgg41 (hst.bc0 rfl))) ?_
        refine ws_q (v := .pointer (some ⟨b1346, 1, none⟩)) 5 [3, 4, 6, 7] (by kernel_rfl) rfl rfl (yi_run rfl (fun w hst => x_field rfl Try.underlying54 rfl Try.sizeOf22 rfl)) ?_
        refine ws_q (v := v1342) 6 [3, 4, 7] (by kernel_rfl) rfl rfl (yi_run rfl (fun w hst => x_load rfl Try.isAgg22 (hst.bc0 rfl))) ?_
        refine ws_e1 3 (by kernel_rfl) ?_
        refine nxe [4, 7] (by kernel_rfl) rfl rfl ?_
        clear hst
        intro w hst
        obtain ⟨t1353, ht1354, hm⟩ := bind_some hm
        refine we_call rfl (x_call Try.call39 rfl (vs := [.float .f64 x1334.At]) rfl) ?_
        refine (number_Rank_ref hst.to0 ht1354).mono ?_
        rintro _ w1355 ⟨rfl, hst⟩
        refine ⟨_, rfl, ?_⟩
        replace hst := hst.of0
        refine ws_next (pend' := [(6, v1342), (5, .pointer (some ⟨b1346, 1, none⟩)), (0, p0)]) hst (by kernel_rfl) (pk_cons rfl (yi_run rfl (fun w hst => x_load rfl Try.isAgg22 (hst.bc0 rfl))) (pk_cons rfl (yi_run rfl (fun w hst => x_field rfl Try.underlying54 rfl Try.sizeOf22 rfl)) (pk_cons rfl (yi_run rfl (fun w hst => rfl)) pk_nil))) ?_
        refine ws_e1 4 (by kernel_rfl) ?_
        refine nxe [7] (by kernel_rfl) rfl rfl ?_
        clear hst
        intro w hst
        replace hst := hst.pull1
        obtain ⟨t1358, ht1359, hm⟩ := bind_some hm
        refine we_call rfl (x_call Try.call27 rfl (vs := [p0, .int .u64 t1353, .int .i64 (8:Int)]) rfl) ?_
        refine (octet_Writer_Num_ref hst.to1 ht1359).mono ?_
        rintro _ w1360 ⟨rfl, hst⟩
        refine ⟨_, rfl, ?_⟩
        replace hst := hst.of1
        refine ws_next (pend' := [(6, v1342), (5, .pointer (some ⟨b1346, 1, none⟩))]) hst (by kernel_rfl) (pk_cons rfl (yi_run rfl (fun w hst => x_load rfl Try.isAgg22 (hst.bc1 rfl))) (pk_cons rfl (yi_run rfl (fun w hst => x_field rfl Try.underlying54 rfl Try.sizeOf22 rfl)) pk_nil)) ?_
        refine ws_e1 7 (by kernel_rfl) ?_
        refine nxe [] (by kernel_rfl) rfl rfl ?_
        clear hst
        intro w hst
        obtain ⟨t1363, ht1364, hm⟩ := bind_some hm
        refine we_call rfl (x_call Try.call38 rfl (vs := [p0, v1342]) rfl) ?_
        refine (octet_Writer_Bytes_ref (f1343.mono (rd_weak _)) hst.to1 ht1364).mono ?_
        rintro _ w1365 ⟨rfl, hst⟩
        refine ⟨_, rfl, ?_⟩
        replace hst := hst.of1
        refine ws_next (pend' := []) hst (by kernel_rfl) pk_nil ?_
        refine ws_nil ?_
        intro w hst
        refine blk_n ?_
        refine then_n ?_
        refine wp_region_lit ?_
        refine wl_val (v := .int .i64 (IntKind.i64.wrap (z1324 + (1:Int)))) rfl rfl rfl ?_
        refine wl_val (v := .int .i64 (IntKind.i64.wrap (z1324 + (1:Int)))) rfl rfl rfl ?_
        refine wl_nil ?_
        refine then_n ?_
        replace hst := hst.keep1
        obtain rfl := some_inj hm
        exact ⟨_, Nat.lt_succ_self _, t1363, (IntKind.i64.wrap (z1324 + (1:Int))), _, hx1331, ((fr_upd (t := 0) (v := p0) rfl).trans ((fr_upd (t := 48) (v := r1_1) rfl).trans ((fr_upd (t := 49) (v := .int .i64 ((a1.Scans).length : Int)) rfl).trans ((fr_upd (t := 50) (v := .int .i64 z1225) rfl).trans ((fr_upd (t := 59) (v := v1243) rfl).trans ((fr_upd (t := 60) (v := .int .i64 ((x1235).length : Int)) rfl).trans ((fr_upd (t := 61) (v := .int .i64 (IntKind.i64.wrap (z1324 + (1:Int)))) rfl).trans rfl))))))), hst⟩
      · skip
        replace hm := bif_f hc1333 hm
        refine wp_iff (congrArg Value.bool hc1333) ?_
        refine wp_exit ?_
        refine then_x ?_
        refine then_x ?_
        replace hm := inr_up hm hx1331
        refine blk_x ?_
        refine blk_n ?_
        refine then_n ?_
        refine wp_region_lit ?_
        refine wl_val (v := .int .i64 (IntKind.i64.wrap (z1225 + (1:Int)))) rfl rfl rfl ?_
        refine wl_val (v := .int .i64 (IntKind.i64.wrap (z1225 + (1:Int)))) rfl rfl rfl ?_
        refine wl_nil ?_
        refine then_n ?_
        replace hst := hst.keep1
        obtain rfl := some_inj hm
        exact ⟨_, Nat.lt_succ_self _, z1323, (IntKind.i64.wrap (z1225 + (1:Int))), _, hx1232, ((fr_upd (t := 0) (v := p0) rfl).trans ((fr_upd (t := 48) (v := r1_1) rfl).trans ((fr_upd (t := 49) (v := .int .i64 ((a1.Scans).length : Int)) rfl).trans ((fr_upd (t := 50) (v := .int .i64 (IntKind.i64.wrap (z1225 + (1:Int)))) rfl).trans rfl)))), hst⟩
    · skip
      replace hm := bif_f hc1234 hm
      refine wp_iff (congrArg Value.bool hc1234) ?_
      refine wp_exit ?_
      refine then_x ?_
      refine then_x ?_
      replace hm := inr_up hm hx1232
      refine blk_x ?_
      obtain rfl := some_inj hm
      refine post_end (vs := []) Try.results13 rvs_nil ?_
      exact ⟨rfl, hst.keep1⟩

theorem command_layRule_ref {w0 w : World} {I : HL} {R : SP} {a0 : octet_Writer} {p0 : Value} {a1 : api_Rule}  (hst : St w0 w I [at_octet_Writer p0 a0] R) {r : (octet_Writer)} (hm : command_layRule a0 a1 = some r) :
    Calls Try.prog 31 #[p0, .agg #[.int .u64 a1.ID, .int .i64 a1.From, .int .i64 a1.To, .float .f64 a1.Lo, .float .f64 a1.Hi, .int .u64 a1.Authority, .int .i64 a1.Quota]] w fun e w' => e = .returned (.tuple #[]) ∧ St w0 w' I [at_octet_Writer p0 r] R := by
  unfold command_layRule at hm
  refine calls_start (args := [p0, .agg #[.int .u64 a1.ID, .int .i64 a1.From, .int .i64 a1.To, .float .f64 a1.Lo, .float .f64 a1.Hi, .int .u64 a1.Authority, .int .i64 a1.Quota]]) Try.func31 rfl Try.ntmps31 (Nat.le_of_ble_eq_true rfl) ?_
  refine wp_seq ?_
  refine wp_region_lit ?_
  obtain ⟨b346, w347, ew348, eb349, hst⟩ := hst.box [.int .u64 a1.ID, .int .i64 a1.From, .int .i64 a1.To, .float .f64 a1.Lo, .float .f64 a1.Hi, .int .u64 a1.Authority, .int .i64 a1.Quota] 43
  refine wl_run (v := .pointer (some ⟨b346, 0, none⟩)) (w' := w347) rfl rfl (x_al (by kernel_rfl) ew348 eb349) ?_
  refine wl_nil ?_
  refine then_n ?_
  refine wp_region_St hst 27 [0, 1, 2, 3, 4, 5, 6, 7, 8, 9, 10, 11, 12, 13, 14, 15, 16, 17, 18, 19, 20, 21, 22, 23, 24, 25, 26] [0, 0, 2, 7, 0, 16, 48, 127, 0, 256, 768, 2047, 0, 4096, 16383, 32767, 0, 65536, 262143, 524287, 0, 1048576, 4194303, 0, 8388608, 25165824, 67108863] [] rfl (by kernel_rfl) (by kernel_rfl) Try.mixed (by kernel_rfl) ?_
  refine ws_q (v := p0) 0 [1, 2, 3, 4, 5, 6, 7, 8, 9, 10, 11, 12, 13, 14, 15, 16, 17, 18, 19, 20, 21, 22, 23, 24, 25, 26] (by kernel_rfl) rfl rfl (yi_run rfl (fun w hst => rfl)) ?_
  refine ws_q (v := .pointer (some ⟨b346, 0, none⟩)) 1 [2, 3, 4, 5, 6, 7, 8, 9, 10, 11, 12, 13, 14, 15, 16, 17, 18, 19, 20, 21, 22, 23, 24, 25, 26] (by kernel_rfl) rfl rfl (yi_run rfl (fun w hst => x_field rfl Try.underlying43 rfl Try.sizeOf27 rfl)) ?_
  refine ws_q (v := .int .u64 a1.ID) 2 [3, 4, 5, 6, 7, 8, 9, 10, 11, 12, 13, 14, 15, 16, 17, 18, 19, 20, 21, 22, 23, 24, 25, 26] (by kernel_rfl) rfl rfl (yi_run rfl (fun w hst => x_load rfl Try.isAgg27 (hst.bc0 rfl))) ?_
  refine ws_q (v := .pointer (some ⟨b346, 1, none⟩)) 4 [3, 5, 6, 7, 8, 9, 10, 11, 12, 13, 14, 15, 16, 17, 18, 19, 20, 21, 22, 23, 24, 25, 26] (by kernel_rfl) rfl rfl (yi_run rfl (fun w hst => x_field rfl Try.underlying43 rfl Try.sizeOf3 rfl)) ?_
  refine ws_q (v := .int .i64 a1.From) 5 [3, 6, 7, 8, 9, 10, 11, 12, 13, 14, 15, 16, 17, 18, 19, 20, 21, 22, 23, 24, 25, 26] (by kernel_rfl) rfl rfl (yi_run rfl (fun w hst => x_load rfl Try.isAgg3 (hst.bc0 rfl))) ?_
  refine ws_q (v := .int .u64 (IntKind.u64.wrap a1.From)) 6 [3, 7, 8, 9, 10, 11, 12, 13, 14, 15, 16, 17, 18, 19, 20, 21, 22, 23, 24, 25, 26] (by kernel_rfl) rfl rfl (yi_run rfl (fun w hst => by kernel_rfl)) ?_
  refine ws_q (v := .pointer (some ⟨b346, 2, none⟩)) 8 [3, 7, 9, 10, 11, 12, 13, 14, 15, 16, 17, 18, 19, 20, 21, 22, 23, 24, 25, 26] (by kernel_rfl) rfl rfl (yi_run rfl (fun w hst => x_field rfl Try.underlying43 rfl Try.sizeOf3 rfl)) ?_
  refine ws_q (v := .int .i64 a1.To) 9 [3, 7, 10, 11, 12, 13, 14, 15, 16, 17, 18, 19, 20, 21, 22, 23, 24, 25, 26] (by kernel_rfl) rfl rfl (yi_run rfl (fun w hst => x_load rfl Try.isAgg3 (hst.bc0 rfl))) ?_
  refine ws_q (v := .int .u64 (IntKind.u64.wrap a1.To)) 10 [3, 7, 11, 12, 13, 14, 15, 16, 17, 18, 19, 20, 21, 22, 23, 24, 25, 26] (by kernel_rfl) rfl rfl (yi_run rfl (fun w hst => by kernel_rfl)) ?_
  refine ws_q (v := .pointer (some ⟨b346, 3, none⟩)) 12 [3, 7, 11, 13, 14, 15, 16, 17, 18, 19, 20, 21, 22, 23, 24, 25, 26] (by kernel_rfl) rfl rfl (yi_run rfl (fun w hst => x_field rfl Try.underlying43 rfl Try.sizeOf41 rfl)) ?_
  refine ws_q (v := .float .f64 a1.Lo) 13 [3, 7, 11, 14, 15, 16, 17, 18, 19, 20, 21, 22, 23, 24, 25, 26] (by kernel_rfl) rfl rfl (yi_run rfl (fun w hst => x_load rfl Try.isAgg41 (hst.bc0 rfl))) ?_
  refine ws_q (v := .pointer (some ⟨b346, 4, none⟩)) 16 [3, 7, 11, 14, 15, 17, 18, 19, 20, 21, 22, 23, 24, 25, 26] (by kernel_rfl) rfl rfl (yi_run rfl (fun w hst => x_field rfl Try.underlying43 rfl Try.sizeOf41 rfl)) ?_
  refine ws_q (v := .float .f64 a1.Hi) 17 [3, 7, 11, 14, 15, 18, 19, 20, 21, 22, 23, 24, 25, 26] (by kernel_rfl) rfl rfl (yi_run rfl (fun w hst => x_load rfl Try.isAgg41 (hst.bc0 rfl))) ?_
  refine ws_q (v := .pointer (some ⟨b346, 5, none⟩)) 20 [3, 7, 11, 14, 15, 18, 19, 21, 22, 23, 24, 25, 26] (by kernel_rfl) rfl rfl (yi_run rfl (fun w hst => x_field rfl Try.underlying43 rfl Try.sizeOf27 rfl)) ?_
  refine ws_q (v := .int .u64 a1.Authority) 21 [3, 7, 11, 14, 15, 18, 19, 22, 23, 24, 25, 26] (by kernel_rfl) rfl rfl (yi_run rfl (fun w hst => x_load rfl Try.isAgg27 (hst.bc0 rfl))) ?_
  refine ws_q (v := .pointer (some ⟨b346, 6, none⟩)) 23 [3, 7, 11, 14, 15, 18, 19, 22, 24, 25, 26] (by kernel_rfl) rfl rfl (yi_run rfl (fun w hst => x_field rfl Try.underlying43 rfl Try.sizeOf3 rfl)) ?_
  refine ws_q (v := .int .i64 a1.Quota) 24 [3, 7, 11, 14, 15, 18, 19, 22, 25, 26] (by kernel_rfl) rfl rfl (yi_run rfl (fun w hst => x_load rfl Try.isAgg3 (hst.bc0 rfl))) ?_
  refine ws_q (v := .int .u64 (IntKind.u64.wrap a1.Quota)) 25 [3, 7, 11, 14, 15, 18, 19, 22, 26] (by kernel_rfl) rfl rfl (yi_run rfl (fun w hst => by kernel_rfl)) ?_
  refine ws_e1 3 (by kernel_rfl) ?_
  refine nxe [7, 11, 14, 15, 18, 19, 22, 26] (by kernel_rfl) rfl rfl ?_
  clear hst
  intro w hst
  replace hst := hst.pull1
  obtain ⟨t351, ht352, hm⟩ := bind_some hm
  refine we_call rfl (x_call Try.call27 rfl (vs := [p0, .int .u64 a1.ID, .int .i64 (8:Int)]) rfl) ?_
  refine (octet_Writer_Num_ref hst.to1 ht352).mono ?_
  rintro _ w353 ⟨rfl, hst⟩
  refine ⟨_, rfl, ?_⟩
  replace hst := hst.of1
  refine ws_next (pend' := [(25, .int .u64 (IntKind.u64.wrap a1.Quota)), (24, .int .i64 a1.Quota), (23, .pointer (some ⟨b346, 6, none⟩)), (21, .int .u64 a1.Authority), (20, .pointer (some ⟨b346, 5, none⟩)), (17, .float .f64 a1.Hi), (16, .pointer (some ⟨b346, 4, none⟩)), (13, .float .f64 a1.Lo), (12, .pointer (some ⟨b346, 3, none⟩)), (10, .int .u64 (IntKind.u64.wrap a1.To)), (9, .int .i64 a1.To), (8, .pointer (some ⟨b346, 2, none⟩)), (6, .int .u64 (IntKind.u64.wrap a1.From)), (5, .int .i64 a1.From), (4, .pointer (some ⟨b346, 1, none⟩))]) hst (by kernel_rfl) (pk_cons rfl (yi_run rfl (fun w hst => by kernel_rfl)) (pk_cons rfl (yi_run rfl (fun w hst => x_load rfl Try.isAgg3 (hst.bc1 rfl))) (pk_cons rfl (yi_run rfl (fun w hst => x_field rfl Try.underlying43 rfl Try.sizeOf3 rfl)) (pk_cons rfl (yi_run rfl (fun w hst => x_load rfl Try.isAgg27 (hst.bc1 rfl))) (pk_cons rfl (yi_run rfl (fun w hst => x_field rfl Try.underlying43 rfl Try.sizeOf27 rfl)) (pk_cons rfl (yi_run rfl (fun w hst => x_load rfl Try.isAgg41 (hst.bc1 rfl))) (pk_cons rfl (yi_run rfl (fun w hst => x_field rfl Try.underlying43 rfl Try.sizeOf41 rfl)) (pk_cons rfl (yi_run rfl (fun w hst => x_load rfl Try.isAgg41 (hst.bc1 rfl))) (pk_cons rfl (yi_run rfl (fun w hst => x_field rfl Try.underlying43 rfl Try.sizeOf41 rfl)) (pk_cons rfl (yi_run rfl (fun w hst => by kernel_rfl)) (pk_cons rfl (yi_run rfl (fun w hst => x_load rfl Try.isAgg3 (hst.bc1 rfl))) (pk_cons rfl (yi_run rfl (fun w hst => x_field rfl Try.underlying43 rfl Try.sizeOf3 rfl)) (pk_cons rfl (yi_run rfl (fun w hst => by kernel_rfl)) (pk_cons rfl (yi_run rfl (fun w hst => x_load rfl Try.isAgg3 (hst.bc1 rfl))) (pk_cons rfl (yi_run rfl (fun w hst => x_field rfl Try.underlying43 rfl Try.sizeOf3 rfl)) pk_nil))))))))))))))) ?_
  refine ws_e1 7 (by kernel_rfl) ?_
  refine nxe [11, 14, 15, 18, 19, 22, 26] (by kernel_rfl) rfl rfl ?_
  clear hst
  intro w hst
  obtain ⟨t356, ht357, hm⟩ := bind_some hm
  refine we_call rfl (x_call Try.call27 rfl (vs := [p0, .int .u64 (IntKind.u64.wrap a1.From), .int .i64 (1:Int)]) rfl) ?_
  refine (octet_Writer_Num_ref hst.to1 ht357).mono ?_
  rintro _ w358 ⟨rfl, hst⟩
  refine ⟨_, rfl, ?_⟩
  replace hst := hst.of1
  refine ws_next (pend' := [(25, .int .u64 (IntKind.u64.wrap a1.Quota)), (24, .int .i64 a1.Quota), (23, .pointer (some ⟨b346, 6, none⟩)), (21, .int .u64 a1.Authority), (20, .pointer (some ⟨b346, 5, none⟩)), (17, .float .f64 a1.Hi), (16, .pointer (some ⟨b346, 4, none⟩)), (13, .float .f64 a1.Lo), (12, .pointer (some ⟨b346, 3, none⟩)), (10, .int .u64 (IntKind.u64.wrap a1.To)), (9, .int .i64 a1.To), (8, .pointer (some ⟨b346, 2, none⟩))]) hst (by kernel_rfl) (pk_cons rfl (yi_run rfl (fun w hst => by kernel_rfl)) (pk_cons rfl (yi_run rfl (fun w hst => x_load rfl Try.isAgg3 (hst.bc1 rfl))) (pk_cons rfl (yi_run rfl (fun w hst => x_field rfl Try.underlying43 rfl Try.sizeOf3 rfl)) (pk_cons rfl (yi_run rfl (fun w hst => x_load rfl Try.isAgg27 (hst.bc1 rfl))) (pk_cons rfl (yi_run rfl (fun w hst => x_field rfl Try.underlying43 rfl Try.sizeOf27 rfl)) (pk_cons rfl (yi_run rfl (fun w hst => x_load rfl Try.isAgg41 (hst.bc1 rfl))) (pk_cons rfl (yi_run rfl (fun w hst => x_field rfl Try.underlying43 rfl Try.sizeOf41 rfl)) (pk_cons rfl (yi_run rfl (fun w hst => x_load rfl Try.isAgg41 (hst.bc1 rfl))) (pk_cons rfl (yi_run rfl (fun w hst => x_field rfl Try.underlying43 rfl Try.sizeOf41 rfl)) (pk_cons rfl (yi_run rfl (fun w hst => by kernel_rfl)) (pk_cons rfl (yi_run rfl (fun w hst => x_load rfl Try.isAgg3 (hst.bc1 rfl))) (pk_cons rfl (yi_run rfl (fun w hst => x_field rfl Try.underlying43 rfl Try.sizeOf3 rfl)) pk_nil)))))))))))) ?_
  refine ws_e1 11 (by kernel_rfl) ?_
  refine nxe [14, 15, 18, 19, 22, 26] (by kernel_rfl) rfl rfl ?_
  clear hst
  intro w hst
  obtain ⟨t361, ht362, hm⟩ := bind_some hm
  refine we_call rfl (x_call Try.call27 rfl (vs := [p0, .int .u64 (IntKind.u64.wrap a1.To), .int .i64 (1:Int)]) rfl) ?_
  refine (octet_Writer_Num_ref hst.to1 ht362).mono ?_
  rintro _ w363 ⟨rfl, hst⟩
  refine ⟨_, rfl, ?_⟩
  replace hst := hst.of1
  refine ws_next (pend' := [(25, .int .u64 (IntKind.u64.wrap a1.Quota)), (24, .int .i64 a1.Quota), (23, .pointer (some ⟨b346, 6, none⟩)), (21, .int .u64 a1.Authority), (20, .pointer (some ⟨b346, 5, none⟩)), (17, .float .f64 a1.Hi), (16, .pointer (some ⟨b346, 4, none⟩)), (13, .float .f64 a1.Lo), (12, .pointer (some ⟨b346, 3, none⟩))]) hst (by kernel_rfl) (pk_cons rfl (yi_run rfl (fun w hst => by kernel_rfl)) (pk_cons rfl (yi_run rfl (fun w hst => x_load rfl Try.isAgg3 (hst.bc1 rfl))) (pk_cons rfl (yi_run rfl (fun w hst => x_field rfl Try.underlying43 rfl Try.sizeOf3 rfl)) (pk_cons rfl (yi_run rfl (fun w hst => x_load rfl Try.isAgg27 (hst.bc1 rfl))) (pk_cons rfl (yi_run rfl (fun w hst => x_field rfl Try.underlying43 rfl Try.sizeOf27 rfl)) (pk_cons rfl (yi_run rfl (fun w hst => x_load rfl Try.isAgg41 (hst.bc1 rfl))) (pk_cons rfl (yi_run rfl (fun w hst => x_field rfl Try.underlying43 rfl Try.sizeOf41 rfl)) (pk_cons rfl (yi_run rfl (fun w hst => x_load rfl Try.isAgg41 (hst.bc1 rfl))) (pk_cons rfl (yi_run rfl (fun w hst => x_field rfl Try.underlying43 rfl Try.sizeOf41 rfl)) pk_nil))))))))) ?_
  refine ws_e1 14 (by kernel_rfl) ?_
  refine nxe [15, 18, 19, 22, 26] (by kernel_rfl) rfl rfl ?_
  clear hst
  intro w hst
  obtain ⟨t366, ht367, hm⟩ := bind_some hm
  refine we_call rfl (x_call Try.call39 rfl (vs := [.float .f64 a1.Lo]) rfl) ?_
  refine (number_Rank_ref hst.to0 ht367).mono ?_
  rintro _ w368 ⟨rfl, hst⟩
  refine ⟨_, rfl, ?_⟩
  replace hst := hst.of0
  refine ws_next (pend' := [(25, .int .u64 (IntKind.u64.wrap a1.Quota)), (24, .int .i64 a1.Quota), (23, .pointer (some ⟨b346, 6, none⟩)), (21, .int .u64 a1.Authority), (20, .pointer (some ⟨b346, 5, none⟩)), (17, .float .f64 a1.Hi), (16, .pointer (some ⟨b346, 4, none⟩))]) hst (by kernel_rfl) (pk_cons rfl (yi_run rfl (fun w hst => by kernel_rfl)) (pk_cons rfl (yi_run rfl (fun w hst => x_load rfl Try.isAgg3 (hst.bc1 rfl))) (pk_cons rfl (yi_run rfl (fun w hst => x_field rfl Try.underlying43 rfl Try.sizeOf3 rfl)) (pk_cons rfl (yi_run rfl (fun w hst => x_load rfl Try.isAgg27 (hst.bc1 rfl))) (pk_cons rfl (yi_run rfl (fun w hst => x_field rfl Try.underlying43 rfl Try.sizeOf27 rfl)) (pk_cons rfl (yi_run rfl (fun w hst => x_load rfl Try.isAgg41 (hst.bc1 rfl))) (pk_cons rfl (yi_run rfl (fun w hst => x_field rfl Try.underlying43 rfl Try.sizeOf41 rfl)) pk_nil))))))) ?_
  refine ws_e1 15 (by kernel_rfl) ?_
  refine nxe [18, 19, 22, 26] (by kernel_rfl) rfl rfl ?_
  clear hst
  intro w hst
  obtain ⟨t371, ht372, hm⟩ := bind_some hm
  refine we_call rfl (x_call Try.call27 rfl (vs := [p0, .int .u64 t366, .int .i64 (8:Int)]) rfl) ?_
  refine (octet_Writer_Num_ref hst.to1 ht372).mono ?_
  rintro _ w373 ⟨rfl, hst⟩
  refine ⟨_, rfl, ?_⟩
  replace hst := hst.of1
  refine ws_next (pend' := [(25, .int .u64 (IntKind.u64.wrap a1.Quota)), (24, .int .i64 a1.Quota), (23, .pointer (some ⟨b346, 6, none⟩)), (21, .int .u64 a1.Authority), (20, .pointer (some ⟨b346, 5, none⟩)), (17, .float .f64 a1.Hi), (16, .pointer (some ⟨b346, 4, none⟩))]) hst (by kernel_rfl) (pk_cons rfl (yi_run rfl (fun w hst => by kernel_rfl)) (pk_cons rfl (yi_run rfl (fun w hst => x_load rfl Try.isAgg3 (hst.bc1 rfl))) (pk_cons rfl (yi_run rfl (fun w hst => x_field rfl Try.underlying43 rfl Try.sizeOf3 rfl)) (pk_cons rfl (yi_run rfl (fun w hst => x_load rfl Try.isAgg27 (hst.bc1 rfl))) (pk_cons rfl (yi_run rfl (fun w hst => x_field rfl Try.underlying43 rfl Try.sizeOf27 rfl)) (pk_cons rfl (yi_run rfl (fun w hst => x_load rfl Try.isAgg41 (hst.bc1 rfl))) (pk_cons rfl (yi_run rfl (fun w hst => x_field rfl Try.underlying43 rfl Try.sizeOf41 rfl)) pk_nil))))))) ?_
  refine ws_e1 18 (by kernel_rfl) ?_
  refine nxe [19, 22, 26] (by kernel_rfl) rfl rfl ?_
  clear hst
  intro w hst
  obtain ⟨t376, ht377, hm⟩ := bind_some hm
  refine we_call rfl (x_call Try.call39 rfl (vs := [.float .f64 a1.Hi]) rfl) ?_
  refine (number_Rank_ref hst.to0 ht377).mono ?_
  rintro _ w378 ⟨rfl, hst⟩
  refine ⟨_, rfl, ?_⟩
  replace hst := hst.of0
  refine ws_next (pend' := [(25, .int .u64 (IntKind.u64.wrap a1.Quota)), (24, .int .i64 a1.Quota), (23, .pointer (some ⟨b346, 6, none⟩)), (21, .int .u64 a1.Authority), (20, .pointer (some ⟨b346, 5, none⟩))]) hst (by kernel_rfl) (pk_cons rfl (yi_run rfl (fun w hst => by kernel_rfl)) (pk_cons rfl (yi_run rfl (fun w hst => x_load rfl Try.isAgg3 (hst.bc1 rfl))) (pk_cons rfl (yi_run rfl (fun w hst => x_field rfl Try.underlying43 rfl Try.sizeOf3 rfl)) (pk_cons rfl (yi_run rfl (fun w hst => x_load rfl Try.isAgg27 (hst.bc1 rfl))) (pk_cons rfl (yi_run rfl (fun w hst => x_field rfl Try.underlying43 rfl Try.sizeOf27 rfl)) pk_nil))))) ?_
  refine ws_e1 19 (by kernel_rfl) ?_
  refine nxe [22, 26] (by kernel_rfl) rfl rfl ?_
  clear hst
  intro w hst
  obtain ⟨t381, ht382, hm⟩ := bind_some hm
  refine we_call rfl (x_call Try.call27 rfl (vs := [p0, .int .u64 t376, .int .i64 (8:Int)]) rfl) ?_
  refine (octet_Writer_Num_ref hst.to1 ht382).mono ?_
  rintro _ w383 ⟨rfl, hst⟩
  refine ⟨_, rfl, ?_⟩
  replace hst := hst.of1
  refine ws_next (pend' := [(25, .int .u64 (IntKind.u64.wrap a1.Quota)), (24, .int .i64 a1.Quota), (23, .pointer (some ⟨b346, 6, none⟩)), (21, .int .u64 a1.Authority), (20, .pointer (some ⟨b346, 5, none⟩))]) hst (by kernel_rfl) (pk_cons rfl (yi_run rfl (fun w hst => by kernel_rfl)) (pk_cons rfl (yi_run rfl (fun w hst => x_load rfl Try.isAgg3 (hst.bc1 rfl))) (pk_cons rfl (yi_run rfl (fun w hst => x_field rfl Try.underlying43 rfl Try.sizeOf3 rfl)) (pk_cons rfl (yi_run rfl (fun w hst => x_load rfl Try.isAgg27 (hst.bc1 rfl))) (pk_cons rfl (yi_run rfl (fun w hst => x_field rfl Try.underlying43 rfl Try.sizeOf27 rfl)) pk_nil))))) ?_
  refine ws_e1 22 (by kernel_rfl) ?_
  refine nxe [26] (by kernel_rfl) rfl rfl ?_
  clear hst
  intro w hst
  obtain ⟨t386, ht387, hm⟩ := bind_some hm
  refine we_call rfl (x_call Try.call27 rfl (vs := [p0, .int .u64 a1.Authority, .int .i64 (8:Int)]) rfl) ?_
  refine (octet_Writer_Num_ref hst.to1 ht387).mono ?_
  rintro _ w388 ⟨rfl, hst⟩
  refine ⟨_, rfl, ?_⟩
  replace hst := hst.of1
  refine ws_next (pend' := [(25, .int .u64 (IntKind.u64.wrap a1.Quota)), (24, .int .i64 a1.Quota), (23, .pointer (some ⟨b346, 6, none⟩))]) hst (by kernel_rfl) (pk_cons rfl (yi_run rfl (fun w hst => by kernel_rfl)) (pk_cons rfl (yi_run rfl (fun w hst => x_load rfl Try.isAgg3 (hst.bc1 rfl))) (pk_cons rfl (yi_run rfl (fun w hst => x_field rfl Try.underlying43 rfl Try.sizeOf3 rfl)) pk_nil))) ?_
  refine ws_e1 26 (by kernel_rfl) ?_
  refine nxe [] (by kernel_rfl) rfl rfl ?_
  clear hst
  intro w hst
  obtain ⟨t391, ht392, hm⟩ := bind_some hm
  refine we_call rfl (x_call Try.call27 rfl (vs := [p0, .int .u64 (IntKind.u64.wrap a1.Quota), .int .i64 (4:Int)]) rfl) ?_
  refine (octet_Writer_Num_ref hst.to1 ht392).mono ?_
  rintro _ w393 ⟨rfl, hst⟩
  refine ⟨_, rfl, ?_⟩
  replace hst := hst.of1
  refine ws_next (pend' := []) hst (by kernel_rfl) pk_nil ?_
  refine ws_nil ?_
  intro w hst
  obtain rfl := some_inj hm
  refine post_end (vs := []) Try.results31 rvs_nil ?_
  exact ⟨rfl, hst.keep1⟩

theorem command_Encode_ref {w0 w : World} {I : HL} {R : SP} {a0 : api_Command} {r0_0 : Value} {r0_1 : Value} {r0_2 : Value} {r0_3 : Value} {r0_4 : Value} {r0_5 : Value} {r0_6 : Value} {r0_7 : Value} (f0_0 : Rd tyF64 R I r0_0 a0.Hold.Gets) (f0_1 : Rd tyF2 R I r0_1 a0.Hold.Scans) (f0_2 : Rd tyF64 R I r0_2 a0.Hold.Puts) (f0_3 : Rd (tyInt .u8) R I r0_3 a0.Hold.Data) (f0_4 : Rd ty_api_Write R I r0_4 a0.Writes) (f0_5 : Rd ty_api_Got R I r0_5 a0.R.Gots) (f0_6 : Rd (tySl ty_api_Pair) R I r0_6 a0.R.Scans) (f0_7 : Rd ty_api_Part R I r0_7 a0.Parts) (hst : St w0 w I [] R) {r : ((List Int))} (hm : command_Encode a0 = some r) :
    Calls Try.prog 10 #[.agg #[.int .u8 a0.Kind, .int .u64 a0.ID.Session, .int .u64 a0.ID.Seq, .int .u64 a0.Epoch, .int .u64 a0.Index, .int .i64 a0.E, .int .u64 a0.Hold.ID.Session, .int .u64 a0.Hold.ID.Seq, .int .u64 a0.Hold.Epoch, r0_0, r0_1, r0_2, r0_3, r0_4, .int .i64 a0.R.E, .int .u64 a0.R.Epoch, .int .u64 a0.R.Index, r0_5, r0_6, .int .u64 a0.Shards, r0_7, .int .u64 a0.Rule.ID, .int .i64 a0.Rule.From, .int .i64 a0.Rule.To, .float .f64 a0.Rule.Lo, .float .f64 a0.Rule.Hi, .int .u64 a0.Rule.Authority, .int .i64 a0.Rule.Quota, .bool a0.On]] w fun e w' => ∃ (q0_0 : Value), e = .returned (q0_0) ∧ St w0 w' I [ownS (tyInt .u8) q0_0 r] R := by
  unfold command_Encode at hm
  refine calls_start (args := [.agg #[.int .u8 a0.Kind, .int .u64 a0.ID.Session, .int .u64 a0.ID.Seq, .int .u64 a0.Epoch, .int .u64 a0.Index, .int .i64 a0.E, .int .u64 a0.Hold.ID.Session, .int .u64 a0.Hold.ID.Seq, .int .u64 a0.Hold.Epoch, r0_0, r0_1, r0_2, r0_3, r0_4, .int .i64 a0.R.E, .int .u64 a0.R.Epoch, .int .u64 a0.R.Index, r0_5, r0_6, .int .u64 a0.Shards, r0_7, .int .u64 a0.Rule.ID, .int .i64 a0.Rule.From, .int .i64 a0.Rule.To, .float .f64 a0.Rule.Lo, .float .f64 a0.Rule.Hi, .int .u64 a0.Rule.Authority, .int .i64 a0.Rule.Quota, .bool a0.On]]) Try.func10 rfl Try.ntmps10 (Nat.le_of_ble_eq_true rfl) ?_
  refine wp_seq ?_
  refine wp_region_lit ?_
  obtain ⟨b369, w370, ew371, eb372, hst⟩ := hst.box [.int .u8 a0.Kind, .int .u64 a0.ID.Session, .int .u64 a0.ID.Seq, .int .u64 a0.Epoch, .int .u64 a0.Index, .int .i64 a0.E, .int .u64 a0.Hold.ID.Session, .int .u64 a0.Hold.ID.Seq, .int .u64 a0.Hold.Epoch, r0_0, r0_1, r0_2, r0_3, r0_4, .int .i64 a0.R.E, .int .u64 a0.R.Epoch, .int .u64 a0.R.Index, r0_5, r0_6, .int .u64 a0.Shards, r0_7, .int .u64 a0.Rule.ID, .int .i64 a0.Rule.From, .int .i64 a0.Rule.To, .float .f64 a0.Rule.Lo, .float .f64 a0.Rule.Hi, .int .u64 a0.Rule.Authority, .int .i64 a0.Rule.Quota, .bool a0.On] 45
  refine wl_run (v := .pointer (some ⟨b369, 0, none⟩)) (w' := w370) rfl rfl (x_al (by kernel_rfl) ew371 eb372) ?_
  refine wl_val (v := (.slice none 0 0)) rfl rfl rfl ?_
  refine wl_nil ?_
  refine then_n ?_
  refine wp_seq ?_
  refine wp_region_lit ?_
  refine wl_val (v := .agg #[(.slice none 0 0)]) rfl rfl (by kernel_rfl) ?_
  obtain ⟨b376, w377, ew378, eb379, hst⟩ := hst.box [(.slice none 0 0)] 58
  refine wl_run (v := .pointer (some ⟨b376, 0, none⟩)) (w' := w377) rfl rfl (x_al (by kernel_rfl) ew378 eb379) ?_
  obtain ⟨b382, w383, ew384, eb385, hst⟩ := hst.box [.pointer none] 56
  refine wl_run (v := .pointer (some ⟨b382, 0, none⟩)) (w' := w383) rfl rfl (x_al (by kernel_rfl) ew384 eb385) ?_
  obtain ⟨w387, hr388, hst⟩ := hst.boxStore (P := Try.prog) (t := 56) (cs' := [.pointer (some ⟨b376, 0, none⟩)]) 0 (.pointer (some ⟨b376, 0, none⟩)) Try.sizeOf56 (Nat.le_of_ble_eq_true rfl) (ones_cons rfl ones_nil) (by kernel_rfl)
  refine wl_unit rfl rfl (x_unit hr388) ?_
  refine wl_nil ?_
  refine then_n ?_
  refine wp_seq ?_
  refine wp_region_lit ?_
  refine wl_val (v := .pointer (some ⟨b376, 0, none⟩)) rfl rfl (x_load rfl Try.isAgg56 (hst.bc0 rfl)) ?_
  refine wl_val (v := .pointer (some ⟨b369, 0, none⟩)) rfl rfl (x_field rfl Try.underlying45 rfl Try.sizeOf5 rfl) ?_
  refine wl_val (v := .int .u8 a0.Kind) rfl rfl (x_load rfl Try.isAgg5 (hst.bc2 rfl)) ?_
  refine wl_val (v := .int .u64 (IntKind.u64.wrap a0.Kind)) rfl rfl (by kernel_rfl) ?_
  replace hst := hst.own_nil (tyInt .u8)
  replace hst := hst.pull2
  replace hst := at_octet_Writer_close (pv := .pointer (some ⟨b376, 0, none⟩)) (x := ({ p := [] } : octet_Writer)) hst rfl
  obtain ⟨t389, ht390, hm⟩ := bind_some hm
  refine wl_call rfl rfl (x_call Try.call27 rfl (vs := [.pointer (some ⟨b376, 0, none⟩), .int .u64 (IntKind.u64.wrap a0.Kind), .int .i64 (1:Int)]) rfl) ?_
  refine (octet_Writer_Num_ref hst.to1 ht390).mono ?_
  rintro _ w391 ⟨rfl, hst⟩
  refine ⟨_, rfl, ?_⟩
  replace hst := hst.of1
  refine wl_nil ?_
  refine then_n ?_
  refine wp_seq ?_
  refine wp_region_lit ?_
  refine wl_val (v := .func (.func 28) #[] #[.pointer (some ⟨b382, 0, none⟩), .pointer (some ⟨b369, 0, none⟩)]) rfl rfl (by kernel_rfl) ?_
  refine wl_val (v := .func (.func 28) #[] #[.pointer (some ⟨b382, 0, none⟩), .pointer (some ⟨b369, 0, none⟩)]) rfl rfl rfl ?_
  refine wl_nil ?_
  refine then_n ?_
  refine wp_seq ?_
  refine wp_seq ?_
  refine wp_region_lit ?_
  refine wl_val (v := .pointer (some ⟨b369, 0, none⟩)) rfl rfl (x_field rfl Try.underlying45 rfl Try.sizeOf5 rfl) ?_
  refine wl_val (v := .int .u8 a0.Kind) rfl rfl (x_load rfl Try.isAgg5 (hst.bc2 rfl)) ?_
  refine wl_nil ?_
  refine then_n ?_
  refine wp_block ?_
  refine wp_seq ?_
  refine wp_region_lit ?_
  refine wl_val (v := .bool (a0.Kind == (1:Int))) rfl rfl rfl ?_
  refine wl_val (v := .bool (a0.Kind == (1:Int))) rfl rfl rfl ?_
  refine wl_nil ?_
  refine then_n ?_
  refine bsplit (a0.Kind == (1:Int)) (fun hc394 => ?_) (fun hc394 => ?_)
  · skip
    replace hm := bif_t hc394 hm
    refine wp_ift (congrArg Value.bool hc394) ?_
    refine wp_region_lit ?_
    refine wl_val (v := .pointer (some ⟨b376, 0, none⟩)) rfl rfl (x_load rfl Try.isAgg56 (hst.bc1 rfl)) ?_
    refine wl_val (v := .pointer (some ⟨b369, 3, none⟩)) rfl rfl (x_field rfl Try.underlying45 rfl Try.sizeOf27 rfl) ?_
    refine wl_val (v := .int .u64 a0.Epoch) rfl rfl (x_load rfl Try.isAgg27 (hst.bc2 rfl)) ?_
    obtain ⟨t395, ht396, hm⟩ := bind_some hm
    refine wl_call rfl rfl (x_call Try.call27 rfl (vs := [.pointer (some ⟨b376, 0, none⟩), .int .u64 a0.Epoch, .int .i64 (8:Int)]) rfl) ?_
    refine (octet_Writer_Num_ref hst.to1 ht396).mono ?_
    rintro _ w397 ⟨rfl, hst⟩
    refine ⟨_, rfl, ?_⟩
    replace hst := hst.of1
    refine wl_nil ?_
    refine blk_n ?_
    refine then_n ?_
    refine wp_seq ?_
    refine wp_region_lit ?_
    refine wl_val (v := .pointer (some ⟨b376, 0, none⟩)) rfl rfl (x_load rfl Try.isAgg56 (hst.bc1 rfl)) ?_
    obtain ⟨t400, ht401, hm⟩ := bind_some hm
    refine wl_call rfl rfl (x_call Try.call14 rfl (vs := [.pointer (some ⟨b376, 0, none⟩)]) rfl) ?_
    refine (octet_Writer_Done_ref hst.to1 ht401).mono ?_
    rintro _ w402 ⟨v405, rfl, hst⟩
    refine ⟨_, rfl, ?_⟩
    replace hst := hst.of1
    refine wl_val (v := v405) rfl rfl rfl ?_
    refine wl_nil ?_
    refine then_n ?_
    refine wp_ret ?_
    obtain rfl := some_inj hm
    refine post_ret (vs := [v405]) Try.results10 (rvs_cons (rv_tmp rfl) rvs_nil) ?_
    exact ⟨v405, rfl, hst.keep1⟩
  · skip
    replace hm := bif_f hc394 hm
    refine wp_iff (congrArg Value.bool hc394) ?_
    refine wp_seq ?_
    refine wp_region_lit ?_
    refine wl_val (v := .bool (a0.Kind == (2:Int))) rfl rfl rfl ?_
    refine wl_val (v := .bool (a0.Kind == (2:Int))) rfl rfl rfl ?_
    refine wl_nil ?_
    refine then_n ?_
    refine bsplit (a0.Kind == (2:Int)) (fun hc407 => ?_) (fun hc407 => ?_)
    · skip
      replace hm := bif_t hc407 hm
      refine wp_ift (congrArg Value.bool hc407) ?_
      refine wp_region_lit ?_
      refine wl_val (v := .pointer (some ⟨b376, 0, none⟩)) rfl rfl (x_load rfl Try.isAgg56 (hst.bc1 rfl)) ?_
      refine wl_val (v := .pointer (some ⟨b369, 6, none⟩)) rfl rfl (x_field rfl Try.underlying45 rfl Try.sizeOf34 rfl) ?_
      refine wl_val (v := .agg #[.int .u64 a0.Hold.ID.Session, .int .u64 a0.Hold.ID.Seq, .int .u64 a0.Hold.Epoch, r0_0, r0_1, r0_2, r0_3]) rfl rfl (x_loadN (cs := [.int .u64 a0.Hold.ID.Session, .int .u64 a0.Hold.ID.Seq, .int .u64 a0.Hold.Epoch, r0_0, r0_1, r0_2, r0_3]) rfl Try.isAgg34 Try.sizeOf34 (hst.bcs2 6 rfl)) ?_
      obtain ⟨t408, ht409, hm⟩ := bind_some hm
      refine wl_call rfl rfl (x_call Try.call29 rfl (vs := [.pointer (some ⟨b376, 0, none⟩), .agg #[.int .u64 a0.Hold.ID.Session, .int .u64 a0.Hold.ID.Seq, .int .u64 a0.Hold.Epoch, r0_0, r0_1, r0_2, r0_3]]) rfl) ?_
      refine (locks_Lay_ref (f0_0.mono (rd_weak _)) (f0_1.mono (rd_weak _)) (f0_2.mono (rd_weak _)) (f0_3.mono (rd_weak _)) hst.to1 ht409).mono ?_
      rintro _ w410 ⟨rfl, hst⟩
      refine ⟨_, rfl, ?_⟩
      replace hst := hst.of1
      refine wl_nil ?_
      refine blk_n ?_
      refine then_n ?_
      refine wp_seq ?_
      refine wp_region_lit ?_
      refine wl_val (v := .pointer (some ⟨b376, 0, none⟩)) rfl rfl (x_load rfl Try.isAgg56 (hst.bc1 rfl)) ?_
      obtain ⟨t413, ht414, hm⟩ := bind_some hm
      refine wl_call rfl rfl (x_call Try.call14 rfl (vs := [.pointer (some ⟨b376, 0, none⟩)]) rfl) ?_
      refine (octet_Writer_Done_ref hst.to1 ht414).mono ?_
      rintro _ w415 ⟨v418, rfl, hst⟩
      refine ⟨_, rfl, ?_⟩
      replace hst := hst.of1
      refine wl_val (v := v418) rfl rfl rfl ?_
      refine wl_nil ?_
      refine then_n ?_
      refine wp_ret ?_
      obtain rfl := some_inj hm
      refine post_ret (vs := [v418]) Try.results10 (rvs_cons (rv_tmp rfl) rvs_nil) ?_
      exact ⟨v418, rfl, hst.keep1⟩
    · skip
      replace hm := bif_f hc407 hm
      refine wp_iff (congrArg Value.bool hc407) ?_
      refine wp_seq ?_
      refine wp_region_lit ?_
      refine wl_val (v := .bool (a0.Kind == (3:Int))) rfl rfl rfl ?_
      refine wl_val (v := .bool (a0.Kind == (3:Int))) rfl rfl rfl ?_
      refine wl_nil ?_
      refine then_n ?_
      refine bsplit (a0.Kind == (3:Int)) (fun hc420 => ?_) (fun hc420 => ?_)
      · skip
        replace hm := bif_t hc420 hm
        refine wp_ift (congrArg Value.bool hc420) ?_
        refine wp_seq ?_
        refine wp_region_lit ?_
        refine wl_val (v := .func (.func 28) #[] #[.pointer (some ⟨b382, 0, none⟩), .pointer (some ⟨b369, 0, none⟩)]) rfl rfl rfl ?_
        obtain ⟨y433, hq434, hm⟩ := bind_some hm
        refine wl_call rfl rfl (x_callv Try.call28 (caps := [.pointer (some ⟨b382, 0, none⟩), .pointer (some ⟨b369, 0, none⟩)]) rfl (vs := []) rfl) ?_
        refine Calls.mono (show Calls Try.prog 28 #[.pointer (some ⟨b382, 0, none⟩), .pointer (some ⟨b369, 0, none⟩)] _ (fun e w' => ∃ (z431 : octet_Writer), y433 = z431 ∧ e = .returned (.tuple #[]) ∧ St w0 w' I [cells b369 [.int .u8 a0.Kind, .int .u64 a0.ID.Session, .int .u64 a0.ID.Seq, .int .u64 a0.Epoch, .int .u64 a0.Index, .int .i64 a0.E, .int .u64 a0.Hold.ID.Session, .int .u64 a0.Hold.ID.Seq, .int .u64 a0.Hold.Epoch, r0_0, r0_1, r0_2, r0_3, r0_4, .int .i64 a0.R.E, .int .u64 a0.R.Epoch, .int .u64 a0.R.Index, r0_5, r0_6, .int .u64 a0.Shards, r0_7, .int .u64 a0.Rule.ID, .int .i64 a0.Rule.From, .int .i64 a0.Rule.To, .float .f64 a0.Rule.Lo, .float .f64 a0.Rule.Hi, .int .u64 a0.Rule.Authority, .int .i64 a0.Rule.Quota, .bool a0.On], at_octet_Writer (.pointer (some ⟨b376, 0, none⟩)) z431, cells b382 [.pointer (some ⟨b376, 0, none⟩)]] R) from ?_) ?_
        · skip
          clear hm; have hm := hq434
          refine calls_start (args := [.pointer (some ⟨b382, 0, none⟩), .pointer (some ⟨b369, 0, none⟩)]) Try.func28 rfl Try.ntmps28 (Nat.le_of_ble_eq_true rfl) ?_
          refine wp_region_St hst 9 [0, 1, 2, 3, 4, 5, 6, 7, 8] [0, 0, 2, 6, 15, 0, 32, 96, 255] [] rfl (by kernel_rfl) (by kernel_rfl) Try.mixed (by kernel_rfl) ?_
          refine ws_q (v := .pointer (some ⟨b376, 0, none⟩)) 0 [1, 2, 3, 4, 5, 6, 7, 8] (by kernel_rfl) rfl rfl (yi_run rfl (fun w hst => x_load rfl Try.isAgg56 (hst.bc1 rfl))) ?_
          refine ws_q (v := .pointer (some ⟨b369, 1, none⟩)) 1 [2, 3, 4, 5, 6, 7, 8] (by kernel_rfl) rfl rfl (yi_run rfl (fun w hst => x_field rfl Try.underlying45 rfl Try.sizeOf29 rfl)) ?_
          refine ws_q (v := .pointer (some ⟨b369, 1, none⟩)) 2 [3, 4, 5, 6, 7, 8] (by kernel_rfl) rfl rfl (yi_run rfl (fun w hst => x_field rfl Try.underlying29 rfl Try.sizeOf27 rfl)) ?_
          refine ws_q (v := .int .u64 a0.ID.Session) 3 [4, 5, 6, 7, 8] (by kernel_rfl) rfl rfl (yi_run rfl (fun w hst => x_load rfl Try.isAgg27 (hst.bc2 rfl))) ?_
          refine ws_q (v := .pointer (some ⟨b369, 1, none⟩)) 5 [4, 6, 7, 8] (by kernel_rfl) rfl rfl (yi_run rfl (fun w hst => x_field rfl Try.underlying45 rfl Try.sizeOf29 rfl)) ?_
          refine ws_q (v := .pointer (some ⟨b369, 2, none⟩)) 6 [4, 7, 8] (by kernel_rfl) rfl rfl (yi_run rfl (fun w hst => x_field rfl Try.underlying29 rfl Try.sizeOf27 rfl)) ?_
          refine ws_q (v := .int .u64 a0.ID.Seq) 7 [4, 8] (by kernel_rfl) rfl rfl (yi_run rfl (fun w hst => x_load rfl Try.isAgg27 (hst.bc2 rfl))) ?_
          refine ws_e1 4 (by kernel_rfl) ?_
          refine nxe [8] (by kernel_rfl) rfl rfl ?_
          clear hst
          intro w hst
          obtain ⟨t421, ht422, hm⟩ := bind_some hm
          refine we_call rfl (x_call Try.call27 rfl (vs := [.pointer (some ⟨b376, 0, none⟩), .int .u64 a0.ID.Session, .int .i64 (8:Int)]) rfl) ?_
          refine (octet_Writer_Num_ref hst.to1 ht422).mono ?_
          rintro _ w423 ⟨rfl, hst⟩
          refine ⟨_, rfl, ?_⟩
          replace hst := hst.of1
          refine ws_next (pend' := [(7, .int .u64 a0.ID.Seq), (6, .pointer (some ⟨b369, 2, none⟩)), (5, .pointer (some ⟨b369, 1, none⟩))]) hst (by kernel_rfl) (pk_cons rfl (yi_run rfl (fun w hst => x_load rfl Try.isAgg27 (hst.bc2 rfl))) (pk_cons rfl (yi_run rfl (fun w hst => x_field rfl Try.underlying29 rfl Try.sizeOf27 rfl)) (pk_cons rfl (yi_run rfl (fun w hst => x_field rfl Try.underlying45 rfl Try.sizeOf29 rfl)) pk_nil))) ?_
          refine ws_e1 8 (by kernel_rfl) ?_
          refine nxe [] (by kernel_rfl) rfl rfl ?_
          clear hst
          intro w hst
          obtain ⟨t426, ht427, hm⟩ := bind_some hm
          refine we_call rfl (x_call Try.call27 rfl (vs := [.pointer (some ⟨b376, 0, none⟩), .int .u64 a0.ID.Seq, .int .i64 (8:Int)]) rfl) ?_
          refine (octet_Writer_Num_ref hst.to1 ht427).mono ?_
          rintro _ w428 ⟨rfl, hst⟩
          refine ⟨_, rfl, ?_⟩
          replace hst := hst.of1
          refine ws_next (pend' := []) hst (by kernel_rfl) pk_nil ?_
          refine ws_nil ?_
          intro w hst
          refine post_end (vs := []) Try.results28 rvs_nil ?_
          replace hst := hst.pull1
          replace hst := hst.pull1
          replace hst := hst.pull2
          replace hst := hst.keep3
          obtain rfl := some_inj hm
          exact ⟨t426, rfl, rfl, hst⟩
        clear hst
        rintro _ w435 ⟨z431, rfl, rfl, hst⟩
        refine ⟨_, rfl, ?_⟩
        try dsimp only at hm
        refine wl_nil ?_
        refine then_n ?_
        refine wp_seq ?_
        refine wp_region_St hst 11 [0, 1, 2, 3, 4, 5, 6, 7, 8, 9, 10] [0, 0, 2, 6, 15, 0, 32, 127, 0, 256, 1023] [] rfl (by kernel_rfl) (by kernel_rfl) Try.mixed (by kernel_rfl) ?_
        refine ws_q (v := .pointer (some ⟨b376, 0, none⟩)) 0 [1, 2, 3, 4, 5, 6, 7, 8, 9, 10] (by kernel_rfl) rfl rfl (yi_run rfl (fun w hst => x_load rfl Try.isAgg56 (hst.bc2 rfl))) ?_
        refine ws_q (v := .pointer (some ⟨b369, 5, none⟩)) 1 [2, 3, 4, 5, 6, 7, 8, 9, 10] (by kernel_rfl) rfl rfl (yi_run rfl (fun w hst => x_field rfl Try.underlying45 rfl Try.sizeOf30 rfl)) ?_
        refine ws_q (v := .int .i64 a0.E) 2 [3, 4, 5, 6, 7, 8, 9, 10] (by kernel_rfl) rfl rfl (yi_run rfl (fun w hst => x_load rfl Try.isAgg30 (hst.bc0 rfl))) ?_
        refine ws_q (v := .int .u64 (IntKind.u64.wrap a0.E)) 3 [4, 5, 6, 7, 8, 9, 10] (by kernel_rfl) rfl rfl (yi_run rfl (fun w hst => by kernel_rfl)) ?_
        refine ws_q (v := .pointer (some ⟨b369, 3, none⟩)) 5 [4, 6, 7, 8, 9, 10] (by kernel_rfl) rfl rfl (yi_run rfl (fun w hst => x_field rfl Try.underlying45 rfl Try.sizeOf27 rfl)) ?_
        refine ws_q (v := .int .u64 a0.Epoch) 6 [4, 7, 8, 9, 10] (by kernel_rfl) rfl rfl (yi_run rfl (fun w hst => x_load rfl Try.isAgg27 (hst.bc0 rfl))) ?_
        refine ws_q (v := .pointer (some ⟨b369, 4, none⟩)) 8 [4, 7, 9, 10] (by kernel_rfl) rfl rfl (yi_run rfl (fun w hst => x_field rfl Try.underlying45 rfl Try.sizeOf27 rfl)) ?_
        refine ws_q (v := .int .u64 a0.Index) 9 [4, 7, 10] (by kernel_rfl) rfl rfl (yi_run rfl (fun w hst => x_load rfl Try.isAgg27 (hst.bc0 rfl))) ?_
        refine ws_e1 4 (by kernel_rfl) ?_
        refine nxe [7, 10] (by kernel_rfl) rfl rfl ?_
        clear hst
        intro w hst
        replace hst := hst.pull1
        obtain ⟨t436, ht437, hm⟩ := bind_some hm
        refine we_call rfl (x_call Try.call27 rfl (vs := [.pointer (some ⟨b376, 0, none⟩), .int .u64 (IntKind.u64.wrap a0.E), .int .i64 (1:Int)]) rfl) ?_
        refine (octet_Writer_Num_ref hst.to1 ht437).mono ?_
        rintro _ w438 ⟨rfl, hst⟩
        refine ⟨_, rfl, ?_⟩
        replace hst := hst.of1
        refine ws_next (pend' := [(9, .int .u64 a0.Index), (8, .pointer (some ⟨b369, 4, none⟩)), (6, .int .u64 a0.Epoch), (5, .pointer (some ⟨b369, 3, none⟩))]) hst (by kernel_rfl) (pk_cons rfl (yi_run rfl (fun w hst => x_load rfl Try.isAgg27 (hst.bc1 rfl))) (pk_cons rfl (yi_run rfl (fun w hst => x_field rfl Try.underlying45 rfl Try.sizeOf27 rfl)) (pk_cons rfl (yi_run rfl (fun w hst => x_load rfl Try.isAgg27 (hst.bc1 rfl))) (pk_cons rfl (yi_run rfl (fun w hst => x_field rfl Try.underlying45 rfl Try.sizeOf27 rfl)) pk_nil)))) ?_
        refine ws_e1 7 (by kernel_rfl) ?_
        refine nxe [10] (by kernel_rfl) rfl rfl ?_
        clear hst
        intro w hst
        obtain ⟨t441, ht442, hm⟩ := bind_some hm
        refine we_call rfl (x_call Try.call27 rfl (vs := [.pointer (some ⟨b376, 0, none⟩), .int .u64 a0.Epoch, .int .i64 (8:Int)]) rfl) ?_
        refine (octet_Writer_Num_ref hst.to1 ht442).mono ?_
        rintro _ w443 ⟨rfl, hst⟩
        refine ⟨_, rfl, ?_⟩
        replace hst := hst.of1
        refine ws_next (pend' := [(9, .int .u64 a0.Index), (8, .pointer (some ⟨b369, 4, none⟩))]) hst (by kernel_rfl) (pk_cons rfl (yi_run rfl (fun w hst => x_load rfl Try.isAgg27 (hst.bc1 rfl))) (pk_cons rfl (yi_run rfl (fun w hst => x_field rfl Try.underlying45 rfl Try.sizeOf27 rfl)) pk_nil)) ?_
        refine ws_e1 10 (by kernel_rfl) ?_
        refine nxe [] (by kernel_rfl) rfl rfl ?_
        clear hst
        intro w hst
        obtain ⟨t446, ht447, hm⟩ := bind_some hm
        refine we_call rfl (x_call Try.call27 rfl (vs := [.pointer (some ⟨b376, 0, none⟩), .int .u64 a0.Index, .int .i64 (8:Int)]) rfl) ?_
        refine (octet_Writer_Num_ref hst.to1 ht447).mono ?_
        rintro _ w448 ⟨rfl, hst⟩
        refine ⟨_, rfl, ?_⟩
        replace hst := hst.of1
        refine ws_next (pend' := []) hst (by kernel_rfl) pk_nil ?_
        refine ws_nil ?_
        intro w hst
        refine then_n ?_
        refine wp_region_lit ?_
        refine wl_val (v := .pointer (some ⟨b376, 0, none⟩)) rfl rfl (x_load rfl Try.isAgg56 (hst.bc2 rfl)) ?_
        refine wl_val (v := .pointer (some ⟨b369, 13, none⟩)) rfl rfl (x_field rfl Try.underlying45 rfl Try.sizeOf35 rfl) ?_
        refine wl_val (v := r0_4) rfl rfl (x_load rfl Try.isAgg35 (hst.bc1 rfl)) ?_
        obtain ⟨t451, ht452, hm⟩ := bind_some hm
        refine wl_call rfl rfl (x_call Try.call30 rfl (vs := [.pointer (some ⟨b376, 0, none⟩), r0_4]) rfl) ?_
        refine (command_writes_ref (f0_4.mono (rd_weak _)) hst.to1 ht452).mono ?_
        rintro _ w453 ⟨rfl, hst⟩
        refine ⟨_, rfl, ?_⟩
        replace hst := hst.of1
        refine wl_nil ?_
        refine blk_n ?_
        refine then_n ?_
        refine wp_seq ?_
        refine wp_region_lit ?_
        refine wl_val (v := .pointer (some ⟨b376, 0, none⟩)) rfl rfl (x_load rfl Try.isAgg56 (hst.bc2 rfl)) ?_
        obtain ⟨t456, ht457, hm⟩ := bind_some hm
        refine wl_call rfl rfl (x_call Try.call14 rfl (vs := [.pointer (some ⟨b376, 0, none⟩)]) rfl) ?_
        refine (octet_Writer_Done_ref hst.to1 ht457).mono ?_
        rintro _ w458 ⟨v461, rfl, hst⟩
        refine ⟨_, rfl, ?_⟩
        replace hst := hst.of1
        refine wl_val (v := v461) rfl rfl rfl ?_
        refine wl_nil ?_
        refine then_n ?_
        refine wp_ret ?_
        obtain rfl := some_inj hm
        refine post_ret (vs := [v461]) Try.results10 (rvs_cons (rv_tmp rfl) rvs_nil) ?_
        exact ⟨v461, rfl, hst.keep1⟩
      · skip
        replace hm := bif_f hc420 hm
        refine wp_iff (congrArg Value.bool hc420) ?_
        refine wp_seq ?_
        refine wp_region_lit ?_
        refine wl_val (v := .bool (a0.Kind == (4:Int))) rfl rfl rfl ?_
        refine wl_val (v := .bool (a0.Kind == (4:Int))) rfl rfl rfl ?_
        refine wl_nil ?_
        refine then_n ?_
        refine bsplit (a0.Kind == (4:Int)) (fun hc463 => ?_) (fun hc463 => ?_)
        · skip
          replace hm := bif_t hc463 hm
          refine wp_ift (congrArg Value.bool hc463) ?_
          refine wp_seq ?_
          refine wp_region_lit ?_
          refine wl_val (v := .func (.func 28) #[] #[.pointer (some ⟨b382, 0, none⟩), .pointer (some ⟨b369, 0, none⟩)]) rfl rfl rfl ?_
          obtain ⟨y476, hq477, hm⟩ := bind_some hm
          refine wl_call rfl rfl (x_callv Try.call28 (caps := [.pointer (some ⟨b382, 0, none⟩), .pointer (some ⟨b369, 0, none⟩)]) rfl (vs := []) rfl) ?_
          refine Calls.mono (show Calls Try.prog 28 #[.pointer (some ⟨b382, 0, none⟩), .pointer (some ⟨b369, 0, none⟩)] _ (fun e w' => ∃ (z474 : octet_Writer), y476 = z474 ∧ e = .returned (.tuple #[]) ∧ St w0 w' I [cells b369 [.int .u8 a0.Kind, .int .u64 a0.ID.Session, .int .u64 a0.ID.Seq, .int .u64 a0.Epoch, .int .u64 a0.Index, .int .i64 a0.E, .int .u64 a0.Hold.ID.Session, .int .u64 a0.Hold.ID.Seq, .int .u64 a0.Hold.Epoch, r0_0, r0_1, r0_2, r0_3, r0_4, .int .i64 a0.R.E, .int .u64 a0.R.Epoch, .int .u64 a0.R.Index, r0_5, r0_6, .int .u64 a0.Shards, r0_7, .int .u64 a0.Rule.ID, .int .i64 a0.Rule.From, .int .i64 a0.Rule.To, .float .f64 a0.Rule.Lo, .float .f64 a0.Rule.Hi, .int .u64 a0.Rule.Authority, .int .i64 a0.Rule.Quota, .bool a0.On], at_octet_Writer (.pointer (some ⟨b376, 0, none⟩)) z474, cells b382 [.pointer (some ⟨b376, 0, none⟩)]] R) from ?_) ?_
          · skip
            clear hm; have hm := hq477
            refine calls_start (args := [.pointer (some ⟨b382, 0, none⟩), .pointer (some ⟨b369, 0, none⟩)]) Try.func28 rfl Try.ntmps28 (Nat.le_of_ble_eq_true rfl) ?_
            refine wp_region_St hst 9 [0, 1, 2, 3, 4, 5, 6, 7, 8] [0, 0, 2, 6, 15, 0, 32, 96, 255] [] rfl (by kernel_rfl) (by kernel_rfl) Try.mixed (by kernel_rfl) ?_
            refine ws_q (v := .pointer (some ⟨b376, 0, none⟩)) 0 [1, 2, 3, 4, 5, 6, 7, 8] (by kernel_rfl) rfl rfl (yi_run rfl (fun w hst => x_load rfl Try.isAgg56 (hst.bc1 rfl))) ?_
            refine ws_q (v := .pointer (some ⟨b369, 1, none⟩)) 1 [2, 3, 4, 5, 6, 7, 8] (by kernel_rfl) rfl rfl (yi_run rfl (fun w hst => x_field rfl Try.underlying45 rfl Try.sizeOf29 rfl)) ?_
            refine ws_q (v := .pointer (some ⟨b369, 1, none⟩)) 2 [3, 4, 5, 6, 7, 8] (by kernel_rfl) rfl rfl (yi_run rfl (fun w hst => x_field rfl Try.underlying29 rfl Try.sizeOf27 rfl)) ?_
            refine ws_q (v := .int .u64 a0.ID.Session) 3 [4, 5, 6, 7, 8] (by kernel_rfl) rfl rfl (yi_run rfl (fun w hst => x_load rfl Try.isAgg27 (hst.bc2 rfl))) ?_
            refine ws_q (v := .pointer (some ⟨b369, 1, none⟩)) 5 [4, 6, 7, 8] (by kernel_rfl) rfl rfl (yi_run rfl (fun w hst => x_field rfl Try.underlying45 rfl Try.sizeOf29 rfl)) ?_
            refine ws_q (v := .pointer (some ⟨b369, 2, none⟩)) 6 [4, 7, 8] (by kernel_rfl) rfl rfl (yi_run rfl (fun w hst => x_field rfl Try.underlying29 rfl Try.sizeOf27 rfl)) ?_
            refine ws_q (v := .int .u64 a0.ID.Seq) 7 [4, 8] (by kernel_rfl) rfl rfl (yi_run rfl (fun w hst => x_load rfl Try.isAgg27 (hst.bc2 rfl))) ?_
            refine ws_e1 4 (by kernel_rfl) ?_
            refine nxe [8] (by kernel_rfl) rfl rfl ?_
            clear hst
            intro w hst
            obtain ⟨t464, ht465, hm⟩ := bind_some hm
            refine we_call rfl (x_call Try.call27 rfl (vs := [.pointer (some ⟨b376, 0, none⟩), .int .u64 a0.ID.Session, .int .i64 (8:Int)]) rfl) ?_
            refine (octet_Writer_Num_ref hst.to1 ht465).mono ?_
            rintro _ w466 ⟨rfl, hst⟩
            refine ⟨_, rfl, ?_⟩
            replace hst := hst.of1
            refine ws_next (pend' := [(7, .int .u64 a0.ID.Seq), (6, .pointer (some ⟨b369, 2, none⟩)), (5, .pointer (some ⟨b369, 1, none⟩))]) hst (by kernel_rfl) (pk_cons rfl (yi_run rfl (fun w hst => x_load rfl Try.isAgg27 (hst.bc2 rfl))) (pk_cons rfl (yi_run rfl (fun w hst => x_field rfl Try.underlying29 rfl Try.sizeOf27 rfl)) (pk_cons rfl (yi_run rfl (fun w hst => x_field rfl Try.underlying45 rfl Try.sizeOf29 rfl)) pk_nil))) ?_
            refine ws_e1 8 (by kernel_rfl) ?_
            refine nxe [] (by kernel_rfl) rfl rfl ?_
            clear hst
            intro w hst
            obtain ⟨t469, ht470, hm⟩ := bind_some hm
            refine we_call rfl (x_call Try.call27 rfl (vs := [.pointer (some ⟨b376, 0, none⟩), .int .u64 a0.ID.Seq, .int .i64 (8:Int)]) rfl) ?_
            refine (octet_Writer_Num_ref hst.to1 ht470).mono ?_
            rintro _ w471 ⟨rfl, hst⟩
            refine ⟨_, rfl, ?_⟩
            replace hst := hst.of1
            refine ws_next (pend' := []) hst (by kernel_rfl) pk_nil ?_
            refine ws_nil ?_
            intro w hst
            refine post_end (vs := []) Try.results28 rvs_nil ?_
            replace hst := hst.pull1
            replace hst := hst.pull1
            replace hst := hst.pull2
            replace hst := hst.keep3
            obtain rfl := some_inj hm
            exact ⟨t469, rfl, rfl, hst⟩
          clear hst
          rintro _ w478 ⟨z474, rfl, rfl, hst⟩
          refine ⟨_, rfl, ?_⟩
          try dsimp only at hm
          refine wl_nil ?_
          refine then_n ?_
          refine wp_seq ?_
          refine wp_region_St hst 12 [0, 1, 2, 3, 4, 5, 6, 7, 8, 9, 10, 11] [0, 0, 2, 7, 0, 16, 63, 0, 128, 384, 896, 2047] [] rfl (by kernel_rfl) (by kernel_rfl) Try.mixed (by kernel_rfl) ?_
          refine ws_q (v := .pointer (some ⟨b376, 0, none⟩)) 0 [1, 2, 3, 4, 5, 6, 7, 8, 9, 10, 11] (by kernel_rfl) rfl rfl (yi_run rfl (fun w hst => x_load rfl Try.isAgg56 (hst.bc2 rfl))) ?_
          refine ws_q (v := .pointer (some ⟨b369, 3, none⟩)) 1 [2, 3, 4, 5, 6, 7, 8, 9, 10, 11] (by kernel_rfl) rfl rfl (yi_run rfl (fun w hst => x_field rfl Try.underlying45 rfl Try.sizeOf27 rfl)) ?_
          refine ws_q (v := .int .u64 a0.Epoch) 2 [3, 4, 5, 6, 7, 8, 9, 10, 11] (by kernel_rfl) rfl rfl (yi_run rfl (fun w hst => x_load rfl Try.isAgg27 (hst.bc0 rfl))) ?_
          refine ws_q (v := .pointer (some ⟨b369, 19, none⟩)) 4 [3, 5, 6, 7, 8, 9, 10, 11] (by kernel_rfl) rfl rfl (yi_run rfl (fun w hst => x_field rfl Try.underlying45 rfl Try.sizeOf27 rfl)) ?_
          refine ws_q (v := .int .u64 a0.Shards) 5 [3, 6, 7, 8, 9, 10, 11] (by kernel_rfl) rfl rfl (yi_run rfl (fun w hst => x_load rfl Try.isAgg27 (hst.bc0 rfl))) ?_
          refine ws_q (v := .pointer (some ⟨b369, 20, none⟩)) 7 [3, 6, 8, 9, 10, 11] (by kernel_rfl) rfl rfl (yi_run rfl (fun w hst => x_field rfl Try.underlying45 rfl Try.sizeOf40 rfl)) ?_
          refine ws_q (v := r0_7) 8 [3, 6, 9, 10, 11] (by kernel_rfl) rfl rfl (yi_run rfl (fun w hst => x_load rfl Try.isAgg40 (hst.bc0 rfl))) ?_
          refine ws_q (v := .int .i64 ((a0.Parts).length : Int)) 9 [3, 6, 10, 11] (by kernel_rfl) rfl rfl (yi_run rfl (fun w hst => x_len rfl Try.underlying40 (rd_sliceV f0_7))) ?_
          refine ws_q (v := .int .u64 (IntKind.u64.wrap ((a0.Parts).length : Int))) 10 [3, 6, 11] (by kernel_rfl) rfl rfl (yi_run rfl (fun w hst => by kernel_rfl)) ?_
          refine ws_e1 3 (by kernel_rfl) ?_
          refine nxe [6, 11] (by kernel_rfl) rfl rfl ?_
          clear hst
          intro w hst
          replace hst := hst.pull1
          obtain ⟨t479, ht480, hm⟩ := bind_some hm
          refine we_call rfl (x_call Try.call27 rfl (vs := [.pointer (some ⟨b376, 0, none⟩), .int .u64 a0.Epoch, .int .i64 (8:Int)]) rfl) ?_
          refine (octet_Writer_Num_ref hst.to1 ht480).mono ?_
          rintro _ w481 ⟨rfl, hst⟩
          refine ⟨_, rfl, ?_⟩
          replace hst := hst.of1
          refine ws_next (pend' := [(10, .int .u64 (IntKind.u64.wrap ((a0.Parts).length : Int))), (9, .int .i64 ((a0.Parts).length : Int)), (8, r0_7), (7, .pointer (some ⟨b369, 20, none⟩)), (5, .int .u64 a0.Shards), (4, .pointer (some ⟨b369, 19, none⟩))]) hst (by kernel_rfl) (pk_cons rfl (yi_run rfl (fun w hst => by kernel_rfl)) (pk_cons rfl (yi_run rfl (fun w hst => x_len rfl Try.underlying40 (rd_sliceV f0_7))) (pk_cons rfl (yi_run rfl (fun w hst => x_load rfl Try.isAgg40 (hst.bc1 rfl))) (pk_cons rfl (yi_run rfl (fun w hst => x_field rfl Try.underlying45 rfl Try.sizeOf40 rfl)) (pk_cons rfl (yi_run rfl (fun w hst => x_load rfl Try.isAgg27 (hst.bc1 rfl))) (pk_cons rfl (yi_run rfl (fun w hst => x_field rfl Try.underlying45 rfl Try.sizeOf27 rfl)) pk_nil)))))) ?_
          refine ws_e1 6 (by kernel_rfl) ?_
          refine nxe [11] (by kernel_rfl) rfl rfl ?_
          clear hst
          intro w hst
          obtain ⟨t484, ht485, hm⟩ := bind_some hm
          refine we_call rfl (x_call Try.call27 rfl (vs := [.pointer (some ⟨b376, 0, none⟩), .int .u64 a0.Shards, .int .i64 (2:Int)]) rfl) ?_
          refine (octet_Writer_Num_ref hst.to1 ht485).mono ?_
          rintro _ w486 ⟨rfl, hst⟩
          refine ⟨_, rfl, ?_⟩
          replace hst := hst.of1
          refine ws_next (pend' := [(10, .int .u64 (IntKind.u64.wrap ((a0.Parts).length : Int))), (9, .int .i64 ((a0.Parts).length : Int)), (8, r0_7), (7, .pointer (some ⟨b369, 20, none⟩))]) hst (by kernel_rfl) (pk_cons rfl (yi_run rfl (fun w hst => by kernel_rfl)) (pk_cons rfl (yi_run rfl (fun w hst => x_len rfl Try.underlying40 (rd_sliceV f0_7))) (pk_cons rfl (yi_run rfl (fun w hst => x_load rfl Try.isAgg40 (hst.bc1 rfl))) (pk_cons rfl (yi_run rfl (fun w hst => x_field rfl Try.underlying45 rfl Try.sizeOf40 rfl)) pk_nil)))) ?_
          refine ws_e1 11 (by kernel_rfl) ?_
          refine nxe [] (by kernel_rfl) rfl rfl ?_
          clear hst
          intro w hst
          obtain ⟨t489, ht490, hm⟩ := bind_some hm
          refine we_call rfl (x_call Try.call27 rfl (vs := [.pointer (some ⟨b376, 0, none⟩), .int .u64 (IntKind.u64.wrap ((a0.Parts).length : Int)), .int .i64 (4:Int)]) rfl) ?_
          refine (octet_Writer_Num_ref hst.to1 ht490).mono ?_
          rintro _ w491 ⟨rfl, hst⟩
          refine ⟨_, rfl, ?_⟩
          replace hst := hst.of1
          refine ws_next (pend' := []) hst (by kernel_rfl) pk_nil ?_
          refine ws_nil ?_
          intro w hst
          refine then_n ?_
          obtain ⟨y599, hm, hx600⟩ := bind_some hm
          refine wp_cut (fun a w => ∃ (z596 : octet_Writer) (σ597 : Nat → Value), (command_Encode_j0 a0) z596 = some r ∧ a = Fr 121 (upd (upd σ597 1 (.pointer (some ⟨b369, 0, none⟩))) 3 (.pointer (some ⟨b382, 0, none⟩))) ∧ St w0 w I [cells b369 [.int .u8 a0.Kind, .int .u64 a0.ID.Session, .int .u64 a0.ID.Seq, .int .u64 a0.Epoch, .int .u64 a0.Index, .int .i64 a0.E, .int .u64 a0.Hold.ID.Session, .int .u64 a0.Hold.ID.Seq, .int .u64 a0.Hold.Epoch, r0_0, r0_1, r0_2, r0_3, r0_4, .int .i64 a0.R.E, .int .u64 a0.R.Epoch, .int .u64 a0.R.Index, r0_5, r0_6, .int .u64 a0.Shards, r0_7, .int .u64 a0.Rule.ID, .int .i64 a0.Rule.From, .int .i64 a0.Rule.To, .float .f64 a0.Rule.Lo, .float .f64 a0.Rule.Hi, .int .u64 a0.Rule.Authority, .int .i64 a0.Rule.Quota, .bool a0.On], cells b382 [.pointer (some ⟨b376, 0, none⟩)], at_octet_Writer (.pointer (some ⟨b376, 0, none⟩)) z596] R) ?_ ?_
          · skip
            refine wp_seq ?_
            refine wp_region_lit ?_
            refine wl_val (v := .pointer (some ⟨b369, 20, none⟩)) rfl rfl (x_field rfl Try.underlying45 rfl Try.sizeOf40 rfl) ?_
            refine wl_val (v := r0_7) rfl rfl (x_load rfl Try.isAgg40 (hst.bc1 rfl)) ?_
            refine wl_val (v := .int .i64 ((a0.Parts).length : Int)) rfl rfl (x_len rfl Try.underlying40 (rd_sliceV f0_7)) ?_
            refine wl_val (v := .int .i64 (0:Int)) rfl rfl rfl ?_
            refine wl_nil ?_
            refine then_n ?_
            refine wp_block ?_
            obtain ⟨n559, hm⟩ := loopO_some hm
            refine wp_loop_n (fun n a w => ∃ (z556 : octet_Writer) (z557 : Int) (σ558 : Nat → Value), loopN (command_Encode_l1 a0) n (z556, z557) = some y599 ∧ a = Fr 121 (upd (upd (upd (upd (upd σ558 1 (.pointer (some ⟨b369, 0, none⟩))) 3 (.pointer (some ⟨b382, 0, none⟩))) 65 (r0_7)) 66 (.int .i64 ((a0.Parts).length : Int))) 67 (.int .i64 z557)) ∧ St w0 w I [at_octet_Writer (.pointer (some ⟨b376, 0, none⟩)) z556, cells b369 [.int .u8 a0.Kind, .int .u64 a0.ID.Session, .int .u64 a0.ID.Seq, .int .u64 a0.Epoch, .int .u64 a0.Index, .int .i64 a0.E, .int .u64 a0.Hold.ID.Session, .int .u64 a0.Hold.ID.Seq, .int .u64 a0.Hold.Epoch, r0_0, r0_1, r0_2, r0_3, r0_4, .int .i64 a0.R.E, .int .u64 a0.R.Epoch, .int .u64 a0.R.Index, r0_5, r0_6, .int .u64 a0.Shards, r0_7, .int .u64 a0.Rule.ID, .int .i64 a0.Rule.From, .int .i64 a0.Rule.To, .float .f64 a0.Rule.Lo, .float .f64 a0.Rule.Hi, .int .u64 a0.Rule.Authority, .int .i64 a0.Rule.Quota, .bool a0.On], cells b382 [.pointer (some ⟨b376, 0, none⟩)]] R) n559 ⟨t489, (0:Int), _, hm, ((fr_upd (t := 1) (v := .pointer (some ⟨b369, 0, none⟩)) rfl).trans ((fr_upd (t := 3) (v := .pointer (some ⟨b382, 0, none⟩)) rfl).trans ((fr_upd (t := 65) (v := r0_7) rfl).trans ((fr_upd (t := 66) (v := .int .i64 ((a0.Parts).length : Int)) rfl).trans ((fr_upd (t := 67) (v := .int .i64 (0:Int)) rfl).trans rfl))))), hst⟩ ?_
            rintro n565 _ w560 ⟨z556, z557, σ558, hm, rfl, hst⟩
            obtain ⟨n562, y563, rfl, hm, hx564⟩ := loopN_some hm
            dsimp only [command_Encode_l1] at hm
            refine wp_seq ?_
            refine wp_region_lit ?_
            refine wl_val (v := .bool (decide (z557 < ((a0.Parts).length : Int)))) rfl rfl rfl ?_
            refine wl_nil ?_
            refine then_n ?_
            refine wp_seq ?_
            refine bsplit (decide (z557 < ((a0.Parts).length : Int))) (fun hc566 => ?_) (fun hc566 => ?_)
            · skip
              replace hm := bif_t hc566 hm
              refine wp_ift (congrArg Value.bool hc566) ?_
              refine wp_skip ?_
              refine then_n ?_
              refine wp_seq ?_
              refine wp_block ?_
              refine wp_seq ?_
              refine wp_region_lit ?_
              obtain ⟨x567, hx568, hm⟩ := bind_some hm
              obtain ⟨h569, h570, hi571⟩ := geto_some hx568
              refine wl_val (v := .pointer (some (eAddr r0_7 (z557.toNat * 2 + 0)))) rfl rfl (x_index rfl rfl Try.underlying40 Try.sizeOf81 (rd_sliceV f0_7) h569 h570) ?_
              obtain ⟨cs572, hr573, hc574⟩ := Rd.getF f0_7 hi571
              obtain ⟨v575, rfl, f576, -⟩ := hr573
              refine wl_val (v := .agg #[.int .i64 x567.Shard, v575]) rfl rfl (x_loadN (cs := [.int .i64 x567.Shard, v575]) rfl Try.isAgg81 Try.sizeOf81 (eCells (o := 0) (hc574 (HL.le.refl _) hst) rfl)) ?_
              obtain ⟨b579, w580, ew581, eb582, hst⟩ := hst.box [.int .i64 (0:Int), (.slice none 0 0)] 81
              refine wl_run (v := .pointer (some ⟨b579, 0, none⟩)) (w' := w580) rfl rfl (x_al (by kernel_rfl) ew581 eb582) ?_
              obtain ⟨w584, hr585, hst⟩ := hst.boxStore (P := Try.prog) (t := 81) (cs' := [.int .i64 x567.Shard, v575]) 0 (.agg #[.int .i64 x567.Shard, v575]) Try.sizeOf81 (Nat.le_of_ble_eq_true rfl) (ones_cons rfl (ones_cons (one_of_sliceV (rd_sliceV f576)) ones_nil)) (by kernel_rfl)
              refine wl_unit rfl rfl (x_unit hr585) ?_
              refine wl_nil ?_
              refine then_n ?_
              refine wp_seq ?_
              refine wp_region_lit ?_
              refine wl_val (v := .pointer (some ⟨b376, 0, none⟩)) rfl rfl (x_load rfl Try.isAgg56 (hst.bc3 rfl)) ?_
              refine wl_val (v := .pointer (some ⟨b579, 0, none⟩)) rfl rfl (x_field rfl Try.underlying81 rfl Try.sizeOf3 rfl) ?_
              refine wl_val (v := .int .i64 x567.Shard) rfl rfl (x_load rfl Try.isAgg3 (hst.bc0 rfl)) ?_
              refine wl_val (v := .int .u64 (IntKind.u64.wrap x567.Shard)) rfl rfl (by kernel_rfl) ?_
              replace hst := hst.pull1
              obtain ⟨t586, ht587, hm⟩ := bind_some hm
              refine wl_call rfl rfl (x_call Try.call27 rfl (vs := [.pointer (some ⟨b376, 0, none⟩), .int .u64 (IntKind.u64.wrap x567.Shard), .int .i64 (1:Int)]) rfl) ?_
              refine (octet_Writer_Num_ref hst.to1 ht587).mono ?_
              rintro _ w588 ⟨rfl, hst⟩
              refine ⟨_, rfl, ?_⟩
              replace hst := hst.of1
              refine wl_nil ?_
              refine then_n ?_
              refine wp_region_lit ?_
              refine wl_val (v := .pointer (some ⟨b376, 0, none⟩)) rfl rfl (x_load rfl Try.isAgg56 (hst.bc3 rfl)) ?_
              refine wl_val (v := .pointer (some ⟨b579, 1, none⟩)) rfl rfl (x_field rfl Try.underlying81 rfl Try.sizeOf35 rfl) ?_
              refine wl_val (v := v575) rfl rfl (x_load rfl Try.isAgg35 (hst.bc1 rfl)) ?_
              obtain ⟨t591, ht592, hm⟩ := bind_some hm
              refine wl_call rfl rfl (x_call Try.call30 rfl (vs := [.pointer (some ⟨b376, 0, none⟩), v575]) rfl) ?_
              refine (command_writes_ref (f576.mono (rd_weak _)) hst.to1 ht592).mono ?_
              rintro _ w593 ⟨rfl, hst⟩
              refine ⟨_, rfl, ?_⟩
              replace hst := hst.of1
              refine wl_nil ?_
              refine blk_n ?_
              refine then_n ?_
              refine wp_region_lit ?_
              refine wl_val (v := .int .i64 (IntKind.i64.wrap (z557 + (1:Int)))) rfl rfl rfl ?_
              refine wl_val (v := .int .i64 (IntKind.i64.wrap (z557 + (1:Int)))) rfl rfl rfl ?_
              refine wl_nil ?_
              refine then_n ?_
              replace hst := hst.pull3
              replace hst := hst.pull3
              replace hst := hst.pull2
              replace hst := hst.keep3
              obtain rfl := some_inj hm
              exact ⟨_, Nat.lt_succ_self _, t591, (IntKind.i64.wrap (z557 + (1:Int))), _, hx564, ((fr_upd (t := 1) (v := .pointer (some ⟨b369, 0, none⟩)) rfl).trans ((fr_upd (t := 3) (v := .pointer (some ⟨b382, 0, none⟩)) rfl).trans ((fr_upd (t := 65) (v := r0_7) rfl).trans ((fr_upd (t := 66) (v := .int .i64 ((a0.Parts).length : Int)) rfl).trans ((fr_upd (t := 67) (v := .int .i64 (IntKind.i64.wrap (z557 + (1:Int)))) rfl).trans rfl))))), hst⟩
            · skip
              replace hm := bif_f hc566 hm
              refine wp_iff (congrArg Value.bool hc566) ?_
              refine wp_exit ?_
              refine then_x ?_
              refine then_x ?_
              replace hm := inr_up hm hx564
              refine blk_x ?_
              refine then_n ?_
              replace hst := hst.pull2
              replace hst := hst.pull2
              replace hst := hst.keep3
              obtain rfl := some_inj hm
              exact ⟨z556, _, hx600, ((fr_upd (t := 1) (v := .pointer (some ⟨b369, 0, none⟩)) rfl).trans ((fr_upd (t := 3) (v := .pointer (some ⟨b382, 0, none⟩)) rfl).trans rfl)), hst⟩
          · skip
            clear hst
            rintro _ w601 ⟨z596, σ597, hm, rfl, hst⟩
            dsimp only [command_Encode_j0] at hm
            refine wp_region_lit ?_
            refine wl_val (v := .pointer (some ⟨b376, 0, none⟩)) rfl rfl (x_load rfl Try.isAgg56 (hst.bc1 rfl)) ?_
            refine wl_val (v := .pointer (some ⟨b369, 14, none⟩)) rfl rfl (x_field rfl Try.underlying45 rfl Try.sizeOf39 rfl) ?_
            refine wl_val (v := .agg #[.int .i64 a0.R.E, .int .u64 a0.R.Epoch, .int .u64 a0.R.Index, r0_5, r0_6]) rfl rfl (x_loadN (cs := [.int .i64 a0.R.E, .int .u64 a0.R.Epoch, .int .u64 a0.R.Index, r0_5, r0_6]) rfl Try.isAgg39 Try.sizeOf39 (hst.bcs0 14 rfl)) ?_
            replace hst := hst.pull2
            obtain ⟨t602, ht603, hm⟩ := bind_some hm
            refine wl_call rfl rfl (x_call Try.call13 rfl (vs := [.pointer (some ⟨b376, 0, none⟩), .agg #[.int .i64 a0.R.E, .int .u64 a0.R.Epoch, .int .u64 a0.R.Index, r0_5, r0_6]]) rfl) ?_
            refine (command_LayReply_ref (f0_5.mono (rd_weak _)) (f0_6.mono (rd_weak _)) hst.to1 ht603).mono ?_
            rintro _ w604 ⟨rfl, hst⟩
            refine ⟨_, rfl, ?_⟩
            replace hst := hst.of1
            refine wl_nil ?_
            refine blk_n ?_
            refine then_n ?_
            refine wp_seq ?_
            refine wp_region_lit ?_
            refine wl_val (v := .pointer (some ⟨b376, 0, none⟩)) rfl rfl (x_load rfl Try.isAgg56 (hst.bc2 rfl)) ?_
            obtain ⟨t607, ht608, hm⟩ := bind_some hm
            refine wl_call rfl rfl (x_call Try.call14 rfl (vs := [.pointer (some ⟨b376, 0, none⟩)]) rfl) ?_
            refine (octet_Writer_Done_ref hst.to1 ht608).mono ?_
            rintro _ w609 ⟨v612, rfl, hst⟩
            refine ⟨_, rfl, ?_⟩
            replace hst := hst.of1
            refine wl_val (v := v612) rfl rfl rfl ?_
            refine wl_nil ?_
            refine then_n ?_
            refine wp_ret ?_
            obtain rfl := some_inj hm
            refine post_ret (vs := [v612]) Try.results10 (rvs_cons (rv_tmp rfl) rvs_nil) ?_
            exact ⟨v612, rfl, hst.keep1⟩
        · skip
          replace hm := bif_f hc463 hm
          refine wp_iff (congrArg Value.bool hc463) ?_
          refine wp_seq ?_
          refine wp_region_lit ?_
          refine wl_val (v := .bool (a0.Kind == (5:Int))) rfl rfl rfl ?_
          refine wl_val (v := .bool (a0.Kind == (5:Int))) rfl rfl rfl ?_
          refine wl_nil ?_
          refine then_n ?_
          refine bsplit (a0.Kind == (5:Int)) (fun hc614 => ?_) (fun hc614 => ?_)
          · skip
            replace hm := bif_t hc614 hm
            refine wp_ift (congrArg Value.bool hc614) ?_
            refine wp_region_lit ?_
            refine wl_val (v := .func (.func 28) #[] #[.pointer (some ⟨b382, 0, none⟩), .pointer (some ⟨b369, 0, none⟩)]) rfl rfl rfl ?_
            obtain ⟨y627, hq628, hm⟩ := bind_some hm
            refine wl_call rfl rfl (x_callv Try.call28 (caps := [.pointer (some ⟨b382, 0, none⟩), .pointer (some ⟨b369, 0, none⟩)]) rfl (vs := []) rfl) ?_
            refine Calls.mono (show Calls Try.prog 28 #[.pointer (some ⟨b382, 0, none⟩), .pointer (some ⟨b369, 0, none⟩)] _ (fun e w' => ∃ (z625 : octet_Writer), y627 = z625 ∧ e = .returned (.tuple #[]) ∧ St w0 w' I [cells b369 [.int .u8 a0.Kind, .int .u64 a0.ID.Session, .int .u64 a0.ID.Seq, .int .u64 a0.Epoch, .int .u64 a0.Index, .int .i64 a0.E, .int .u64 a0.Hold.ID.Session, .int .u64 a0.Hold.ID.Seq, .int .u64 a0.Hold.Epoch, r0_0, r0_1, r0_2, r0_3, r0_4, .int .i64 a0.R.E, .int .u64 a0.R.Epoch, .int .u64 a0.R.Index, r0_5, r0_6, .int .u64 a0.Shards, r0_7, .int .u64 a0.Rule.ID, .int .i64 a0.Rule.From, .int .i64 a0.Rule.To, .float .f64 a0.Rule.Lo, .float .f64 a0.Rule.Hi, .int .u64 a0.Rule.Authority, .int .i64 a0.Rule.Quota, .bool a0.On], at_octet_Writer (.pointer (some ⟨b376, 0, none⟩)) z625, cells b382 [.pointer (some ⟨b376, 0, none⟩)]] R) from ?_) ?_
            · skip
              clear hm; have hm := hq628
              refine calls_start (args := [.pointer (some ⟨b382, 0, none⟩), .pointer (some ⟨b369, 0, none⟩)]) Try.func28 rfl Try.ntmps28 (Nat.le_of_ble_eq_true rfl) ?_
              refine wp_region_St hst 9 [0, 1, 2, 3, 4, 5, 6, 7, 8] [0, 0, 2, 6, 15, 0, 32, 96, 255] [] rfl (by kernel_rfl) (by kernel_rfl) Try.mixed (by kernel_rfl) ?_
              refine ws_q (v := .pointer (some ⟨b376, 0, none⟩)) 0 [1, 2, 3, 4, 5, 6, 7, 8] (by kernel_rfl) rfl rfl (yi_run rfl (fun w hst => x_load rfl Try.isAgg56 (hst.bc1 rfl))) ?_
              refine ws_q (v := .pointer (some ⟨b369, 1, none⟩)) 1 [2, 3, 4, 5, 6, 7, 8] (by kernel_rfl) rfl rfl (yi_run rfl (fun w hst => x_field rfl Try.underlying45 rfl Try.sizeOf29 rfl)) ?_
              refine ws_q (v := .pointer (some ⟨b369, 1, none⟩)) 2 [3, 4, 5, 6, 7, 8] (by kernel_rfl) rfl rfl (yi_run rfl (fun w hst => x_field rfl Try.underlying29 rfl Try.sizeOf27 rfl)) ?_
              refine ws_q (v := .int .u64 a0.ID.Session) 3 [4, 5, 6, 7, 8] (by kernel_rfl) rfl rfl (yi_run rfl (fun w hst => x_load rfl Try.isAgg27 (hst.bc2 rfl))) ?_
              refine ws_q (v := .pointer (some ⟨b369, 1, none⟩)) 5 [4, 6, 7, 8] (by kernel_rfl) rfl rfl (yi_run rfl (fun w hst => x_field rfl Try.underlying45 rfl Try.sizeOf29 rfl)) ?_
              refine ws_q (v := .pointer (some ⟨b369, 2, none⟩)) 6 [4, 7, 8] (by kernel_rfl) rfl rfl (yi_run rfl (fun w hst => x_field rfl Try.underlying29 rfl Try.sizeOf27 rfl)) ?_
              refine ws_q (v := .int .u64 a0.ID.Seq) 7 [4, 8] (by kernel_rfl) rfl rfl (yi_run rfl (fun w hst => x_load rfl Try.isAgg27 (hst.bc2 rfl))) ?_
              refine ws_e1 4 (by kernel_rfl) ?_
              refine nxe [8] (by kernel_rfl) rfl rfl ?_
              clear hst
              intro w hst
              obtain ⟨t615, ht616, hm⟩ := bind_some hm
              refine we_call rfl (x_call Try.call27 rfl (vs := [.pointer (some ⟨b376, 0, none⟩), .int .u64 a0.ID.Session, .int .i64 (8:Int)]) rfl) ?_
              refine (octet_Writer_Num_ref hst.to1 ht616).mono ?_
              rintro _ w617 ⟨rfl, hst⟩
              refine ⟨_, rfl, ?_⟩
              replace hst := hst.of1
              refine ws_next (pend' := [(7, .int .u64 a0.ID.Seq), (6, .pointer (some ⟨b369, 2, none⟩)), (5, .pointer (some ⟨b369, 1, none⟩))]) hst (by kernel_rfl) (pk_cons rfl (yi_run rfl (fun w hst => x_load rfl Try.isAgg27 (hst.bc2 rfl))) (pk_cons rfl (yi_run rfl (fun w hst => x_field rfl Try.underlying29 rfl Try.sizeOf27 rfl)) (pk_cons rfl (yi_run rfl (fun w hst => x_field rfl Try.underlying45 rfl Try.sizeOf29 rfl)) pk_nil))) ?_
              refine ws_e1 8 (by kernel_rfl) ?_
              refine nxe [] (by kernel_rfl) rfl rfl ?_
              clear hst
              intro w hst
              obtain ⟨t620, ht621, hm⟩ := bind_some hm
              refine we_call rfl (x_call Try.call27 rfl (vs := [.pointer (some ⟨b376, 0, none⟩), .int .u64 a0.ID.Seq, .int .i64 (8:Int)]) rfl) ?_
              refine (octet_Writer_Num_ref hst.to1 ht621).mono ?_
              rintro _ w622 ⟨rfl, hst⟩
              refine ⟨_, rfl, ?_⟩
              replace hst := hst.of1
              refine ws_next (pend' := []) hst (by kernel_rfl) pk_nil ?_
              refine ws_nil ?_
              intro w hst
              refine post_end (vs := []) Try.results28 rvs_nil ?_
              replace hst := hst.pull1
              replace hst := hst.pull1
              replace hst := hst.pull2
              replace hst := hst.keep3
              obtain rfl := some_inj hm
              exact ⟨t620, rfl, rfl, hst⟩
            clear hst
            rintro _ w629 ⟨z625, rfl, rfl, hst⟩
            refine ⟨_, rfl, ?_⟩
            try dsimp only at hm
            refine wl_nil ?_
            refine blk_n ?_
            refine then_n ?_
            refine wp_seq ?_
            refine wp_region_lit ?_
            refine wl_val (v := .pointer (some ⟨b376, 0, none⟩)) rfl rfl (x_load rfl Try.isAgg56 (hst.bc2 rfl)) ?_
            replace hst := hst.pull1
            obtain ⟨t630, ht631, hm⟩ := bind_some hm
            refine wl_call rfl rfl (x_call Try.call14 rfl (vs := [.pointer (some ⟨b376, 0, none⟩)]) rfl) ?_
            refine (octet_Writer_Done_ref hst.to1 ht631).mono ?_
            rintro _ w632 ⟨v635, rfl, hst⟩
            refine ⟨_, rfl, ?_⟩
            replace hst := hst.of1
            refine wl_val (v := v635) rfl rfl rfl ?_
            refine wl_nil ?_
            refine then_n ?_
            refine wp_ret ?_
            obtain rfl := some_inj hm
            refine post_ret (vs := [v635]) Try.results10 (rvs_cons (rv_tmp rfl) rvs_nil) ?_
            exact ⟨v635, rfl, hst.keep1⟩
          · skip
            replace hm := bif_f hc614 hm
            refine wp_iff (congrArg Value.bool hc614) ?_
            refine wp_seq ?_
            refine wp_region_lit ?_
            refine wl_val (v := .bool (a0.Kind == (6:Int))) rfl rfl rfl ?_
            refine wl_val (v := .bool (a0.Kind == (6:Int))) rfl rfl rfl ?_
            refine wl_nil ?_
            refine then_n ?_
            refine bsplit (a0.Kind == (6:Int)) (fun hc637 => ?_) (fun hc637 => ?_)
            · skip
              replace hm := bif_t hc637 hm
              refine wp_ift (congrArg Value.bool hc637) ?_
              refine wp_seq ?_
              refine wp_region_lit ?_
              refine wl_val (v := .pointer (some ⟨b376, 0, none⟩)) rfl rfl (x_load rfl Try.isAgg56 (hst.bc1 rfl)) ?_
              refine wl_val (v := .pointer (some ⟨b369, 21, none⟩)) rfl rfl (x_field rfl Try.underlying45 rfl Try.sizeOf43 rfl) ?_
              refine wl_val (v := .agg #[.int .u64 a0.Rule.ID, .int .i64 a0.Rule.From, .int .i64 a0.Rule.To, .float .f64 a0.Rule.Lo, .float .f64 a0.Rule.Hi, .int .u64 a0.Rule.Authority, .int .i64 a0.Rule.Quota]) rfl rfl (x_loadN (cs := [.int .u64 a0.Rule.ID, .int .i64 a0.Rule.From, .int .i64 a0.Rule.To, .float .f64 a0.Rule.Lo, .float .f64 a0.Rule.Hi, .int .u64 a0.Rule.Authority, .int .i64 a0.Rule.Quota]) rfl Try.isAgg43 Try.sizeOf43 (hst.bcs2 21 rfl)) ?_
              obtain ⟨t638, ht639, hm⟩ := bind_some hm
              refine wl_call rfl rfl (x_call Try.call31 rfl (vs := [.pointer (some ⟨b376, 0, none⟩), .agg #[.int .u64 a0.Rule.ID, .int .i64 a0.Rule.From, .int .i64 a0.Rule.To, .float .f64 a0.Rule.Lo, .float .f64 a0.Rule.Hi, .int .u64 a0.Rule.Authority, .int .i64 a0.Rule.Quota]]) rfl) ?_
              refine (command_layRule_ref hst.to1 ht639).mono ?_
              rintro _ w640 ⟨rfl, hst⟩
              refine ⟨_, rfl, ?_⟩
              replace hst := hst.of1
              refine wl_nil ?_
              refine then_n ?_
              refine wp_region_lit ?_
              refine wl_val (v := .pointer (some ⟨b376, 0, none⟩)) rfl rfl (x_load rfl Try.isAgg56 (hst.bc1 rfl)) ?_
              refine wl_val (v := .pointer (some ⟨b369, 28, none⟩)) rfl rfl (x_field rfl Try.underlying45 rfl Try.sizeOf4 rfl) ?_
              refine wl_val (v := .bool a0.On) rfl rfl (x_load rfl Try.isAgg4 (hst.bc2 rfl)) ?_
              obtain ⟨t643, ht644, hm⟩ := bind_some hm
              refine wl_call rfl rfl (x_call Try.call32 rfl (vs := [.pointer (some ⟨b376, 0, none⟩), .bool a0.On]) rfl) ?_
              refine (octet_Writer_Flag_ref hst.to1 ht644).mono ?_
              rintro _ w645 ⟨rfl, hst⟩
              refine ⟨_, rfl, ?_⟩
              replace hst := hst.of1
              refine wl_nil ?_
              refine blk_n ?_
              refine then_n ?_
              refine wp_seq ?_
              refine wp_region_lit ?_
              refine wl_val (v := .pointer (some ⟨b376, 0, none⟩)) rfl rfl (x_load rfl Try.isAgg56 (hst.bc1 rfl)) ?_
              obtain ⟨t648, ht649, hm⟩ := bind_some hm
              refine wl_call rfl rfl (x_call Try.call14 rfl (vs := [.pointer (some ⟨b376, 0, none⟩)]) rfl) ?_
              refine (octet_Writer_Done_ref hst.to1 ht649).mono ?_
              rintro _ w650 ⟨v653, rfl, hst⟩
              refine ⟨_, rfl, ?_⟩
              replace hst := hst.of1
              refine wl_val (v := v653) rfl rfl rfl ?_
              refine wl_nil ?_
              refine then_n ?_
              refine wp_ret ?_
              obtain rfl := some_inj hm
              refine post_ret (vs := [v653]) Try.results10 (rvs_cons (rv_tmp rfl) rvs_nil) ?_
              exact ⟨v653, rfl, hst.keep1⟩
            · skip
              replace hm := bif_f hc637 hm
              refine wp_iff (congrArg Value.bool hc637) ?_
              refine wp_seq ?_
              refine wp_region_lit ?_
              refine wl_val (v := .bool (a0.Kind == (7:Int))) rfl rfl rfl ?_
              refine wl_val (v := .bool (a0.Kind == (7:Int))) rfl rfl rfl ?_
              refine wl_nil ?_
              refine then_n ?_
              refine bsplit (a0.Kind == (7:Int)) (fun hc655 => ?_) (fun hc655 => ?_)
              · skip
                replace hm := bif_t hc655 hm
                refine wp_ift (congrArg Value.bool hc655) ?_
                refine wp_seq ?_
                refine wp_region_lit ?_
                refine wl_val (v := .func (.func 28) #[] #[.pointer (some ⟨b382, 0, none⟩), .pointer (some ⟨b369, 0, none⟩)]) rfl rfl rfl ?_
                obtain ⟨y668, hq669, hm⟩ := bind_some hm
                refine wl_call rfl rfl (x_callv Try.call28 (caps := [.pointer (some ⟨b382, 0, none⟩), .pointer (some ⟨b369, 0, none⟩)]) rfl (vs := []) rfl) ?_
                refine Calls.mono (show Calls Try.prog 28 #[.pointer (some ⟨b382, 0, none⟩), .pointer (some ⟨b369, 0, none⟩)] _ (fun e w' => ∃ (z666 : octet_Writer), y668 = z666 ∧ e = .returned (.tuple #[]) ∧ St w0 w' I [cells b369 [.int .u8 a0.Kind, .int .u64 a0.ID.Session, .int .u64 a0.ID.Seq, .int .u64 a0.Epoch, .int .u64 a0.Index, .int .i64 a0.E, .int .u64 a0.Hold.ID.Session, .int .u64 a0.Hold.ID.Seq, .int .u64 a0.Hold.Epoch, r0_0, r0_1, r0_2, r0_3, r0_4, .int .i64 a0.R.E, .int .u64 a0.R.Epoch, .int .u64 a0.R.Index, r0_5, r0_6, .int .u64 a0.Shards, r0_7, .int .u64 a0.Rule.ID, .int .i64 a0.Rule.From, .int .i64 a0.Rule.To, .float .f64 a0.Rule.Lo, .float .f64 a0.Rule.Hi, .int .u64 a0.Rule.Authority, .int .i64 a0.Rule.Quota, .bool a0.On], at_octet_Writer (.pointer (some ⟨b376, 0, none⟩)) z666, cells b382 [.pointer (some ⟨b376, 0, none⟩)]] R) from ?_) ?_
                · skip
                  clear hm; have hm := hq669
                  refine calls_start (args := [.pointer (some ⟨b382, 0, none⟩), .pointer (some ⟨b369, 0, none⟩)]) Try.func28 rfl Try.ntmps28 (Nat.le_of_ble_eq_true rfl) ?_
                  refine wp_region_St hst 9 [0, 1, 2, 3, 4, 5, 6, 7, 8] [0, 0, 2, 6, 15, 0, 32, 96, 255] [] rfl (by kernel_rfl) (by kernel_rfl) Try.mixed (by kernel_rfl) ?_
                  refine ws_q (v := .pointer (some ⟨b376, 0, none⟩)) 0 [1, 2, 3, 4, 5, 6, 7, 8] (by kernel_rfl) rfl rfl (yi_run rfl (fun w hst => x_load rfl Try.isAgg56 (hst.bc1 rfl))) ?_
                  refine ws_q (v := .pointer (some ⟨b369, 1, none⟩)) 1 [2, 3, 4, 5, 6, 7, 8] (by kernel_rfl) rfl rfl (yi_run rfl (fun w hst => x_field rfl Try.underlying45 rfl Try.sizeOf29 rfl)) ?_
                  refine ws_q (v := .pointer (some ⟨b369, 1, none⟩)) 2 [3, 4, 5, 6, 7, 8] (by kernel_rfl) rfl rfl (yi_run rfl (fun w hst => x_field rfl Try.underlying29 rfl Try.sizeOf27 rfl)) ?_
                  refine ws_q (v := .int .u64 a0.ID.Session) 3 [4, 5, 6, 7, 8] (by kernel_rfl) rfl rfl (yi_run rfl (fun w hst => x_load rfl Try.isAgg27 (hst.bc2 rfl))) ?_
                  refine ws_q (v := .pointer (some ⟨b369, 1, none⟩)) 5 [4, 6, 7, 8] (by kernel_rfl) rfl rfl (yi_run rfl (fun w hst => x_field rfl Try.underlying45 rfl Try.sizeOf29 rfl)) ?_
                  refine ws_q (v := .pointer (some ⟨b369, 2, none⟩)) 6 [4, 7, 8] (by kernel_rfl) rfl rfl (yi_run rfl (fun w hst => x_field rfl Try.underlying29 rfl Try.sizeOf27 rfl)) ?_
                  refine ws_q (v := .int .u64 a0.ID.Seq) 7 [4, 8] (by kernel_rfl) rfl rfl (yi_run rfl (fun w hst => x_load rfl Try.isAgg27 (hst.bc2 rfl))) ?_
                  refine ws_e1 4 (by kernel_rfl) ?_
                  refine nxe [8] (by kernel_rfl) rfl rfl ?_
                  clear hst
                  intro w hst
                  obtain ⟨t656, ht657, hm⟩ := bind_some hm
                  refine we_call rfl (x_call Try.call27 rfl (vs := [.pointer (some ⟨b376, 0, none⟩), .int .u64 a0.ID.Session, .int .i64 (8:Int)]) rfl) ?_
                  refine (octet_Writer_Num_ref hst.to1 ht657).mono ?_
                  rintro _ w658 ⟨rfl, hst⟩
                  refine ⟨_, rfl, ?_⟩
                  replace hst := hst.of1
                  refine ws_next (pend' := [(7, .int .u64 a0.ID.Seq), (6, .pointer (some ⟨b369, 2, none⟩)), (5, .pointer (some ⟨b369, 1, none⟩))]) hst (by kernel_rfl) (pk_cons rfl (yi_run rfl (fun w hst => x_load rfl Try.isAgg27 (hst.bc2 rfl))) (pk_cons rfl (yi_run rfl (fun w hst => x_field rfl Try.underlying29 rfl Try.sizeOf27 rfl)) (pk_cons rfl (yi_run rfl (fun w hst => x_field rfl Try.underlying45 rfl Try.sizeOf29 rfl)) pk_nil))) ?_
                  refine ws_e1 8 (by kernel_rfl) ?_
                  refine nxe [] (by kernel_rfl) rfl rfl ?_
                  clear hst
                  intro w hst
                  obtain ⟨t661, ht662, hm⟩ := bind_some hm
                  refine we_call rfl (x_call Try.call27 rfl (vs := [.pointer (some ⟨b376, 0, none⟩), .int .u64 a0.ID.Seq, .int .i64 (8:Int)]) rfl) ?_
                  refine (octet_Writer_Num_ref hst.to1 ht662).mono ?_
                  rintro _ w663 ⟨rfl, hst⟩
                  refine ⟨_, rfl, ?_⟩
                  replace hst := hst.of1
                  refine ws_next (pend' := []) hst (by kernel_rfl) pk_nil ?_
                  refine ws_nil ?_
                  intro w hst
                  refine post_end (vs := []) Try.results28 rvs_nil ?_
                  replace hst := hst.pull1
                  replace hst := hst.pull1
                  replace hst := hst.pull2
                  replace hst := hst.keep3
                  obtain rfl := some_inj hm
                  exact ⟨t661, rfl, rfl, hst⟩
                clear hst
                rintro _ w670 ⟨z666, rfl, rfl, hst⟩
                refine ⟨_, rfl, ?_⟩
                try dsimp only at hm
                refine wl_nil ?_
                refine then_n ?_
                refine wp_seq ?_
                refine wp_region_lit ?_
                refine wl_val (v := .pointer (some ⟨b376, 0, none⟩)) rfl rfl (x_load rfl Try.isAgg56 (hst.bc2 rfl)) ?_
                refine wl_val (v := .pointer (some ⟨b369, 3, none⟩)) rfl rfl (x_field rfl Try.underlying45 rfl Try.sizeOf27 rfl) ?_
                refine wl_val (v := .int .u64 a0.Epoch) rfl rfl (x_load rfl Try.isAgg27 (hst.bc0 rfl)) ?_
                replace hst := hst.pull1
                obtain ⟨t671, ht672, hm⟩ := bind_some hm
                refine wl_call rfl rfl (x_call Try.call27 rfl (vs := [.pointer (some ⟨b376, 0, none⟩), .int .u64 a0.Epoch, .int .i64 (8:Int)]) rfl) ?_
                refine (octet_Writer_Num_ref hst.to1 ht672).mono ?_
                rintro _ w673 ⟨rfl, hst⟩
                refine ⟨_, rfl, ?_⟩
                replace hst := hst.of1
                refine wl_nil ?_
                refine then_n ?_
                refine wp_seq ?_
                refine wp_region_lit ?_
                refine wl_val (v := .pointer (some ⟨b376, 0, none⟩)) rfl rfl (x_load rfl Try.isAgg56 (hst.bc2 rfl)) ?_
                refine wl_val (v := .pointer (some ⟨b369, 21, none⟩)) rfl rfl (x_field rfl Try.underlying45 rfl Try.sizeOf43 rfl) ?_
                refine wl_val (v := .agg #[.int .u64 a0.Rule.ID, .int .i64 a0.Rule.From, .int .i64 a0.Rule.To, .float .f64 a0.Rule.Lo, .float .f64 a0.Rule.Hi, .int .u64 a0.Rule.Authority, .int .i64 a0.Rule.Quota]) rfl rfl (x_loadN (cs := [.int .u64 a0.Rule.ID, .int .i64 a0.Rule.From, .int .i64 a0.Rule.To, .float .f64 a0.Rule.Lo, .float .f64 a0.Rule.Hi, .int .u64 a0.Rule.Authority, .int .i64 a0.Rule.Quota]) rfl Try.isAgg43 Try.sizeOf43 (hst.bcs1 21 rfl)) ?_
                obtain ⟨t676, ht677, hm⟩ := bind_some hm
                refine wl_call rfl rfl (x_call Try.call31 rfl (vs := [.pointer (some ⟨b376, 0, none⟩), .agg #[.int .u64 a0.Rule.ID, .int .i64 a0.Rule.From, .int .i64 a0.Rule.To, .float .f64 a0.Rule.Lo, .float .f64 a0.Rule.Hi, .int .u64 a0.Rule.Authority, .int .i64 a0.Rule.Quota]]) rfl) ?_
                refine (command_layRule_ref hst.to1 ht677).mono ?_
                rintro _ w678 ⟨rfl, hst⟩
                refine ⟨_, rfl, ?_⟩
                replace hst := hst.of1
                refine wl_nil ?_
                refine then_n ?_
                refine wp_seq ?_
                refine wp_region_lit ?_
                refine wl_val (v := .pointer (some ⟨b376, 0, none⟩)) rfl rfl (x_load rfl Try.isAgg56 (hst.bc2 rfl)) ?_
                refine wl_val (v := .pointer (some ⟨b369, 13, none⟩)) rfl rfl (x_field rfl Try.underlying45 rfl Try.sizeOf35 rfl) ?_
                refine wl_val (v := r0_4) rfl rfl (x_load rfl Try.isAgg35 (hst.bc1 rfl)) ?_
                obtain ⟨t681, ht682, hm⟩ := bind_some hm
                refine wl_call rfl rfl (x_call Try.call30 rfl (vs := [.pointer (some ⟨b376, 0, none⟩), r0_4]) rfl) ?_
                refine (command_writes_ref (f0_4.mono (rd_weak _)) hst.to1 ht682).mono ?_
                rintro _ w683 ⟨rfl, hst⟩
                refine ⟨_, rfl, ?_⟩
                replace hst := hst.of1
                refine wl_nil ?_
                refine then_n ?_
                refine wp_region_lit ?_
                refine wl_val (v := .pointer (some ⟨b376, 0, none⟩)) rfl rfl (x_load rfl Try.isAgg56 (hst.bc2 rfl)) ?_
                refine wl_val (v := .pointer (some ⟨b369, 14, none⟩)) rfl rfl (x_field rfl Try.underlying45 rfl Try.sizeOf39 rfl) ?_
                refine wl_val (v := .agg #[.int .i64 a0.R.E, .int .u64 a0.R.Epoch, .int .u64 a0.R.Index, r0_5, r0_6]) rfl rfl (x_loadN (cs := [.int .i64 a0.R.E, .int .u64 a0.R.Epoch, .int .u64 a0.R.Index, r0_5, r0_6]) rfl Try.isAgg39 Try.sizeOf39 (hst.bcs1 14 rfl)) ?_
                obtain ⟨t686, ht687, hm⟩ := bind_some hm
                refine wl_call rfl rfl (x_call Try.call13 rfl (vs := [.pointer (some ⟨b376, 0, none⟩), .agg #[.int .i64 a0.R.E, .int .u64 a0.R.Epoch, .int .u64 a0.R.Index, r0_5, r0_6]]) rfl) ?_
                refine (command_LayReply_ref (f0_5.mono (rd_weak _)) (f0_6.mono (rd_weak _)) hst.to1 ht687).mono ?_
                rintro _ w688 ⟨rfl, hst⟩
                refine ⟨_, rfl, ?_⟩
                replace hst := hst.of1
                refine wl_nil ?_
                refine blk_n ?_
                refine then_n ?_
                refine wp_seq ?_
                refine wp_region_lit ?_
                refine wl_val (v := .pointer (some ⟨b376, 0, none⟩)) rfl rfl (x_load rfl Try.isAgg56 (hst.bc2 rfl)) ?_
                obtain ⟨t691, ht692, hm⟩ := bind_some hm
                refine wl_call rfl rfl (x_call Try.call14 rfl (vs := [.pointer (some ⟨b376, 0, none⟩)]) rfl) ?_
                refine (octet_Writer_Done_ref hst.to1 ht692).mono ?_
                rintro _ w693 ⟨v696, rfl, hst⟩
                refine ⟨_, rfl, ?_⟩
                replace hst := hst.of1
                refine wl_val (v := v696) rfl rfl rfl ?_
                refine wl_nil ?_
                refine then_n ?_
                refine wp_ret ?_
                obtain rfl := some_inj hm
                refine post_ret (vs := [v696]) Try.results10 (rvs_cons (rv_tmp rfl) rvs_nil) ?_
                exact ⟨v696, rfl, hst.keep1⟩
              · skip
                replace hm := bif_f hc655 hm
                refine wp_iff (congrArg Value.bool hc655) ?_
                refine wp_skip ?_
                refine blk_n ?_
                refine then_n ?_
                refine wp_seq ?_
                refine wp_region_lit ?_
                refine wl_val (v := .pointer (some ⟨b376, 0, none⟩)) rfl rfl (x_load rfl Try.isAgg56 (hst.bc1 rfl)) ?_
                obtain ⟨t698, ht699, hm⟩ := bind_some hm
                refine wl_call rfl rfl (x_call Try.call14 rfl (vs := [.pointer (some ⟨b376, 0, none⟩)]) rfl) ?_
                refine (octet_Writer_Done_ref hst.to1 ht699).mono ?_
                rintro _ w700 ⟨v703, rfl, hst⟩
                refine ⟨_, rfl, ?_⟩
                replace hst := hst.of1
                refine wl_val (v := v703) rfl rfl rfl ?_
                refine wl_nil ?_
                refine then_n ?_
                refine wp_ret ?_
                obtain rfl := some_inj hm
                refine post_ret (vs := [v703]) Try.results10 (rvs_cons (rv_tmp rfl) rvs_nil) ?_
                exact ⟨v703, rfl, hst.keep1⟩

theorem law13_awake_ref {w0 w : World} {I : HL} {R : SP}   (hst : St w0 w I [] R) {r : (Bool)} (hm : law13_awake = some r) :
    Calls Try.prog 8 #[] w fun e w' => e = .returned (.bool r) ∧ St w0 w' I [] R := by
  unfold law13_awake at hm
  refine calls_start (args := []) Try.func8 rfl Try.ntmps8 (Nat.le_of_ble_eq_true rfl) ?_
  refine wp_seq ?_
  refine wp_region_lit ?_
  refine wl_val (v := .bool false) rfl rfl rfl ?_
  refine wl_nil ?_
  refine then_n ?_
  refine wp_seq ?_
  refine wp_region_lit ?_
  refine wl_val (v := .agg #[.int .u8 (1:Int), .int .u64 (0:Int), .int .u64 (0:Int), .int .u64 (3:Int), .int .u64 (0:Int), .int .i64 (0:Int), .int .u64 (0:Int), .int .u64 (0:Int), .int .u64 (0:Int), (.slice none 0 0), (.slice none 0 0), (.slice none 0 0), (.slice none 0 0), (.slice none 0 0), .int .i64 (0:Int), .int .u64 (0:Int), .int .u64 (0:Int), (.slice none 0 0), (.slice none 0 0), .int .u64 (0:Int), (.slice none 0 0), .int .u64 (0:Int), .int .i64 (0:Int), .int .i64 (0:Int), .float .f64 (0:Nat), .float .f64 (0:Nat), .int .u64 (0:Int), .int .i64 (0:Int), .bool false]) rfl rfl (by kernel_rfl) ?_
  have f41 : Ro tyF64 I (.slice none 0 0) [] := ro_nil
  have f42 : Ro tyF2 I (.slice none 0 0) [] := ro_nil
  have f43 : Ro tyF64 I (.slice none 0 0) [] := ro_nil
  have f44 : Ro (tyInt .u8) I (.slice none 0 0) [] := ro_nil
  have f45 : Ro ty_api_Write I (.slice none 0 0) [] := ro_nil
  have f46 : Ro ty_api_Got I (.slice none 0 0) [] := ro_nil
  have f47 : Ro (tySl ty_api_Pair) I (.slice none 0 0) [] := ro_nil
  have f48 : Ro ty_api_Part I (.slice none 0 0) [] := ro_nil
  obtain ⟨t49, ht50, hm⟩ := bind_some hm
  refine wl_call rfl rfl (x_call Try.call10 rfl (vs := [.agg #[.int .u8 (1:Int), .int .u64 (0:Int), .int .u64 (0:Int), .int .u64 (3:Int), .int .u64 (0:Int), .int .i64 (0:Int), .int .u64 (0:Int), .int .u64 (0:Int), .int .u64 (0:Int), (.slice none 0 0), (.slice none 0 0), (.slice none 0 0), (.slice none 0 0), (.slice none 0 0), .int .i64 (0:Int), .int .u64 (0:Int), .int .u64 (0:Int), (.slice none 0 0), (.slice none 0 0), .int .u64 (0:Int), (.slice none 0 0), .int .u64 (0:Int), .int .i64 (0:Int), .int .i64 (0:Int), .float .f64 (0:Nat), .float .f64 (0:Nat), .int .u64 (0:Int), .int .i64 (0:Int), .bool false]]) rfl) ?_
  refine (command_Encode_ref (f41.mono ro_rd) (f42.mono ro_rd) (f43.mono ro_rd) (f44.mono ro_rd) (f45.mono ro_rd) (f46.mono ro_rd) (f47.mono ro_rd) (f48.mono ro_rd) hst.to0 ht50).mono ?_
  rintro _ w51 ⟨v54, rfl, hst⟩
  refine ⟨_, rfl, ?_⟩
  replace hst := hst.of1
  refine wl_val (v := v54) rfl rfl rfl ?_
  refine wl_nil ?_
  refine then_n ?_
  refine wp_seq ?_
  refine wp_region_lit ?_
  refine wl_val (v := v54) rfl rfl rfl ?_
  refine wl_val (v := .string (toStr t49)) rfl rfl (x_tostr Try.underlying22 Try.underlying9 Try.underlying5 rfl hst.src0) ?_
  refine wl_val (v := .bool (sEq (toStr t49) (ByteArray.mk #[1, 3, 0, 0, 0, 0, 0, 0, 0]))) rfl rfl (by kernel_rfl) ?_
  refine wl_val (v := .bool (sEq (toStr t49) (ByteArray.mk #[1, 3, 0, 0, 0, 0, 0, 0, 0]))) rfl rfl rfl ?_
  refine bsplit (sEq (toStr t49) (ByteArray.mk #[1, 3, 0, 0, 0, 0, 0, 0, 0])) (fun hc56 => ?_) (fun hc56 => ?_)
  · skip
    replace hm := bif_t hc56 hm
    refine wl_val (v := .bool true) rfl rfl (x_pick_t hc56 rfl rfl) ?_
    refine wl_val (v := .bool true) rfl rfl rfl ?_
    refine wl_nil ?_
    refine then_n ?_
    refine wp_ret ?_
    obtain rfl := some_inj hm
    refine post_ret (vs := [.bool true]) Try.results8 (rvs_cons (rv_tmp rfl) rvs_nil) ?_
    exact ⟨rfl, hst.keep0⟩
  · skip
    replace hm := bif_f hc56 hm
    refine wl_val (v := .bool false) rfl rfl (x_pick_f hc56 rfl rfl) ?_
    refine wl_val (v := .bool false) rfl rfl rfl ?_
    refine wl_nil ?_
    refine then_n ?_
    refine wp_ret ?_
    obtain rfl := some_inj hm
    refine post_ret (vs := [.bool false]) Try.results8 (rvs_cons (rv_tmp rfl) rvs_nil) ?_
    exact ⟨rfl, hst.keep0⟩

theorem ref12_Tape_Next_ref {w0 w : World} {I : HL} {R : SP} {a0 : ref12_Tape} {p0 : Value} {a1 : Int}  (hst : St w0 w I [at_ref12_Tape p0 a0] R) {r : (Int × ref12_Tape)} (hm : ref12_Tape_Next a0 a1 = some r) :
    Calls Try.prog 22 #[p0, .int .i64 a1] w fun e w' => e = .returned (.int .i64 r.1) ∧ St w0 w' I [at_ref12_Tape p0 r.2] R := by
  unfold ref12_Tape_Next at hm
  refine calls_start (args := [p0, .int .i64 a1]) Try.func22 rfl Try.ntmps22 (Nat.le_of_ble_eq_true rfl) ?_
  refine wp_seq ?_
  refine wp_region_lit ?_
  refine wl_val (v := .int .i64 (0:Int)) rfl rfl rfl ?_
  refine wl_nil ?_
  refine then_n ?_
  refine wp_seq ?_
  refine wp_seq ?_
  obtain ⟨b339, v340, ⟨rfl, f342⟩, hst'⟩ := at_ref12_Tape_open hst
  clear hst
  have hst := hst'
  clear hst'
  refine wq_regionS hst Try.mixed (by kernel_rfl) ?_
  refine wq_run (v := .pointer (some ⟨b339, 0, none⟩)) rfl rfl (fun w hst => rfl) ?_
  refine wq_run (v := .pointer (some ⟨b339, 0, none⟩)) rfl rfl (fun w hst => rfl) ?_
  refine wq_run (v := .pointer (some ⟨b339, 1, none⟩)) rfl rfl (fun w hst => x_field rfl Try.underlying26 rfl Try.sizeOf3 rfl) ?_
  refine wq_run (v := .int .i64 a0.I) rfl rfl (fun w hst => x_load rfl Try.isAgg3 (hst.bc0 rfl)) ?_
  refine wq_run (v := .pointer (some ⟨b339, 0, none⟩)) rfl rfl (fun w hst => rfl) ?_
  refine wq_run (v := .pointer (some ⟨b339, 0, none⟩)) rfl rfl (fun w hst => rfl) ?_
  refine wq_run (v := .pointer (some ⟨b339, 0, none⟩)) rfl rfl (fun w hst => x_field rfl Try.underlying26 rfl Try.sizeOf22 rfl) ?_
  refine wq_run (v := v340) rfl rfl (fun w hst => x_load rfl Try.isAgg22 (hst.bc0 rfl)) ?_
  refine wq_run (v := .int .i64 ((a0.L).length : Int)) rfl rfl (fun w hst => x_len rfl Try.underlying22 (ro_sliceV f342)) ?_
  refine wq_run (v := .bool (decide (a0.I ≥ ((a0.L).length : Int)))) rfl rfl (fun w hst => rfl) ?_
  refine wq_nil ?_
  intro w hst
  refine then_n ?_
  refine bsplit (decide (a0.I ≥ ((a0.L).length : Int))) (fun hc343 => ?_) (fun hc343 => ?_)
  · skip
    replace hm := bif_t hc343 hm
    refine wp_ift (congrArg Value.bool hc343) ?_
    refine wp_seq ?_
    refine wp_region_lit ?_
    refine wl_val (v := .int .i64 (0:Int)) rfl rfl rfl ?_
    refine wl_nil ?_
    refine then_n ?_
    refine wp_ret ?_
    refine then_r ?_
    replace hst := at_ref12_Tape_close (pv := .pointer (some ⟨b339, 0, none⟩)) (x := a0) hst ⟨rfl, f342⟩
    obtain rfl := some_inj hm
    refine post_ret (vs := [.int .i64 (0:Int)]) Try.results22 (rvs_cons (rv_tmp rfl) rvs_nil) ?_
    exact ⟨rfl, hst.keep1⟩
  · skip
    replace hm := bif_f hc343 hm
    refine wp_iff (congrArg Value.bool hc343) ?_
    refine wp_skip ?_
    refine then_n ?_
    refine wp_seq ?_
    refine wp_region_lit ?_
    refine wl_val (v := .pointer (some ⟨b339, 0, none⟩)) rfl rfl rfl ?_
    refine wl_val (v := .pointer (some ⟨b339, 0, none⟩)) rfl rfl rfl ?_
    refine wl_val (v := .pointer (some ⟨b339, 1, none⟩)) rfl rfl (x_field rfl Try.underlying26 rfl Try.sizeOf3 rfl) ?_
    refine wl_val (v := .int .i64 a0.I) rfl rfl (x_load rfl Try.isAgg3 (hst.bc0 rfl)) ?_
    refine wl_val (v := .int .i64 (IntKind.i64.wrap (a0.I + (1:Int)))) rfl rfl rfl ?_
    refine wl_val (v := .pointer (some ⟨b339, 0, none⟩)) rfl rfl rfl ?_
    refine wl_val (v := .pointer (some ⟨b339, 1, none⟩)) rfl rfl (x_field rfl Try.underlying26 rfl Try.sizeOf3 rfl) ?_
    obtain ⟨w344, hr345, hst⟩ := hst.boxStore (P := Try.prog) (t := 3) (cs' := [v340, .int .i64 (IntKind.i64.wrap (a0.I + (1:Int)))]) 1 (.int .i64 (IntKind.i64.wrap (a0.I + (1:Int)))) Try.sizeOf3 (Nat.le_of_ble_eq_true rfl) (ones_cons rfl ones_nil) (by kernel_rfl)
    refine wl_unit rfl rfl (x_unit hr345) ?_
    refine wl_nil ?_
    refine then_n ?_
    refine wp_seq ?_
    refine wq_regionS hst Try.mixed (by kernel_rfl) ?_
    refine wq_run (v := .pointer (some ⟨b339, 0, none⟩)) rfl rfl (fun w hst => rfl) ?_
    refine wq_run (v := .pointer (some ⟨b339, 0, none⟩)) rfl rfl (fun w hst => rfl) ?_
    refine wq_run (v := .pointer (some ⟨b339, 0, none⟩)) rfl rfl (fun w hst => x_field rfl Try.underlying26 rfl Try.sizeOf22 rfl) ?_
    refine wq_run (v := v340) rfl rfl (fun w hst => x_load rfl Try.isAgg22 (hst.bc0 rfl)) ?_
    refine wq_run (v := .pointer (some ⟨b339, 0, none⟩)) rfl rfl (fun w hst => rfl) ?_
    refine wq_run (v := .pointer (some ⟨b339, 0, none⟩)) rfl rfl (fun w hst => rfl) ?_
    refine wq_run (v := .pointer (some ⟨b339, 1, none⟩)) rfl rfl (fun w hst => x_field rfl Try.underlying26 rfl Try.sizeOf3 rfl) ?_
    refine wq_run (v := .int .i64 (IntKind.i64.wrap (a0.I + (1:Int)))) rfl rfl (fun w hst => x_load rfl Try.isAgg3 (hst.bc0 rfl)) ?_
    refine wq_run (v := .int .i64 (IntKind.i64.wrap ((IntKind.i64.wrap (a0.I + (1:Int))) - (1:Int)))) rfl rfl (fun w hst => rfl) ?_
    obtain ⟨x346, hx347, hm⟩ := bind_some hm
    obtain ⟨h348, h349, hi350⟩ := geto_some hx347
    refine wq_run (v := .pointer (some (eAddr v340 ((IntKind.i64.wrap ((IntKind.i64.wrap (a0.I + (1:Int))) - (1:Int))).toNat * 1 + 0)))) rfl rfl (fun w hst => x_index rfl rfl Try.underlying22 Try.sizeOf5 (ro_sliceV f342) h348 h349) ?_
    refine wq_run (v := .int .u8 x346) rfl rfl (fun w hst => x_load rfl Try.isAgg5 (ro_load f342 hst hi350 (by rintro _ rfl; rfl))) ?_
    refine wq_run (v := .int .i64 (IntKind.i64.wrap x346)) rfl rfl (fun w hst => by kernel_rfl) ?_
    refine wq_run (v := .int .i64 a1) rfl rfl (fun w hst => rfl) ?_
    obtain ⟨hg351, hm⟩ := gd_some hm
    refine wq_run (v := .int .i64 (Int.tmod (IntKind.i64.wrap x346) a1)) rfl rfl (fun w hst => x_rem (not_t hg351) rfl rfl) ?_
    refine wq_run (v := .int .i64 (Int.tmod (IntKind.i64.wrap x346) a1)) rfl rfl (fun w hst => rfl) ?_
    refine wq_nil ?_
    intro w hst
    refine then_n ?_
    refine wp_ret ?_
    replace hst := at_ref12_Tape_close (pv := .pointer (some ⟨b339, 0, none⟩)) (x := ({ L := a0.L, I := (IntKind.i64.wrap (a0.I + (1:Int))) } : ref12_Tape)) hst ⟨rfl, f342⟩
    obtain rfl := some_inj hm
    refine post_ret (vs := [.int .i64 (Int.tmod (IntKind.i64.wrap x346) a1)]) Try.results22 (rvs_cons (rv_tmp rfl) rvs_nil) ?_
    exact ⟨rfl, hst.keep1⟩

theorem ref12_Tape_Val_ref {w0 w : World} {I : HL} {R : SP} {a0 : ref12_Tape} {p0 : Value}  (hst : St w0 w I [at_ref12_Tape p0 a0] R) {r : ((List Int) × ref12_Tape)} (hm : ref12_Tape_Val a0 = some r) :
    Calls Try.prog 36 #[p0] w fun e w' => ∃ (q0_0 : Value), e = .returned (q0_0) ∧ St w0 w' I [ownS (tyInt .u8) q0_0 r.1, at_ref12_Tape p0 r.2] R := by
  unfold ref12_Tape_Val at hm
  refine calls_start (args := [p0]) Try.func36 rfl Try.ntmps36 (Nat.le_of_ble_eq_true rfl) ?_
  refine wp_seq ?_
  refine wp_region_lit ?_
  refine wl_val (v := (.slice none 0 0)) rfl rfl rfl ?_
  refine wl_nil ?_
  refine then_n ?_
  refine wp_seq ?_
  refine wp_region_lit ?_
  refine wl_val (v := (.slice none 0 0)) rfl rfl rfl ?_
  refine wl_nil ?_
  refine then_n ?_
  refine wp_seq ?_
  refine wp_region_lit ?_
  refine wl_val (v := p0) rfl rfl rfl ?_
  obtain ⟨t529, ht530, hm⟩ := bind_some hm
  refine wl_call rfl rfl (x_call Try.call22 rfl (vs := [p0, .int .i64 (4:Int)]) rfl) ?_
  refine (ref12_Tape_Next_ref hst.to1 ht530).mono ?_
  rintro _ w531 ⟨rfl, hst⟩
  refine ⟨_, rfl, ?_⟩
  replace hst := hst.of1
  refine wl_val (v := .int .i64 t529.1) rfl rfl rfl ?_
  refine wl_nil ?_
  refine then_n ?_
  refine wp_seq ?_
  refine wp_seq ?_
  refine wp_region_lit ?_
  refine wl_val (v := .int .i64 (0:Int)) rfl rfl rfl ?_
  refine wl_nil ?_
  refine then_n ?_
  refine wp_block ?_
  replace hst := hst.own_nil (tyInt .u8)
  obtain ⟨n590, hm⟩ := loopO_some hm
  refine wp_loop_n (fun n a w => ∃ (z584 : ref12_Tape) (z585 : (List Int)) (z588 : Int) (v586 : Value) (σ589 : Nat → Value), loopN (ref12_Tape_Val_l0 t529) n (z584, z585, z588) = some r ∧ a = Fr 21 (upd (upd (upd (upd σ589 0 (p0)) 3 (v586)) 4 (.int .i64 t529.1)) 5 (.int .i64 z588)) ∧ St w0 w I [ownS (tyInt .u8) v586 z585, at_ref12_Tape p0 z584] R) n590 ⟨t529.2, [], (0:Int), (.slice none 0 0), _, hm, ((fr_upd (t := 0) (v := p0) rfl).trans ((fr_upd (t := 3) (v := (.slice none 0 0)) rfl).trans ((fr_upd (t := 4) (v := .int .i64 t529.1) rfl).trans ((fr_upd (t := 5) (v := .int .i64 (0:Int)) rfl).trans rfl)))), hst⟩ ?_
  rintro n596 _ w591 ⟨z584, z585, z588, v586, σ589, hm, rfl, hst⟩
  obtain ⟨n593, y594, rfl, hm, hx595⟩ := loopN_some hm
  dsimp only [ref12_Tape_Val_l0] at hm
  refine wp_seq ?_
  refine wp_seq ?_
  refine wp_region_lit ?_
  refine wl_val (v := .int .i64 z588) rfl rfl rfl ?_
  refine wl_val (v := .int .i64 t529.1) rfl rfl rfl ?_
  refine wl_val (v := .bool (decide (z588 < t529.1))) rfl rfl rfl ?_
  refine wl_nil ?_
  refine then_n ?_
  refine bsplit (decide (z588 < t529.1)) (fun hc597 => ?_) (fun hc597 => ?_)
  · skip
    replace hm := bif_t hc597 hm
    refine wp_ift (congrArg Value.bool hc597) ?_
    refine wp_skip ?_
    refine then_n ?_
    refine wp_seq ?_
    refine wp_block ?_
    refine wp_region_lit ?_
    refine wl_val (v := v586) rfl rfl rfl ?_
    refine wl_val (v := p0) rfl rfl rfl ?_
    replace hst := hst.pull1
    obtain ⟨t598, ht599, hm⟩ := bind_some hm
    refine wl_call rfl rfl (x_call Try.call22 rfl (vs := [p0, .int .i64 (26:Int)]) rfl) ?_
    refine (ref12_Tape_Next_ref hst.to1 ht599).mono ?_
    rintro _ w600 ⟨rfl, hst⟩
    refine ⟨_, rfl, ?_⟩
    replace hst := hst.of1
    refine wl_val (v := .int .i64 (IntKind.i64.wrap ((97:Int) + t598.1))) rfl rfl rfl ?_
    refine wl_val (v := .int .u8 (IntKind.u8.wrap (IntKind.i64.wrap ((97:Int) + t598.1)))) rfl rfl (by kernel_rfl) ?_
    obtain ⟨b603, w604, ew605, eb606, hst⟩ := hst.lits (E := (tyInt .u8)) (xs := [(IntKind.u8.wrap (IntKind.i64.wrap ((97:Int) + t598.1)))]) [[.int .u8 (IntKind.u8.wrap (IntKind.i64.wrap ((97:Int) + t598.1)))]] 5 1 rfl (Reps.cons rfl Reps.nil)
    refine wl_run (v := (.slice (some ⟨b603, 0, none⟩) 1 1)) (w' := w604) rfl rfl (x_als (by kernel_rfl) ew605 eb606) ?_
    obtain ⟨hg608, hm⟩ := gd_some hm
    replace hst := hst.pull2
    obtain ⟨v609, w610, hr611, hst⟩ := run_append elem_22 Try.underlying22 hst hst.src1 (room_of hg608 rfl) 22
    refine wl_run (v := v609) (w' := w610) rfl rfl (x_append rfl rfl hr611) ?_
    refine wl_val (v := v609) rfl rfl rfl ?_
    refine wl_nil ?_
    refine blk_n ?_
    refine then_n ?_
    refine wp_region_lit ?_
    refine wl_val (v := .int .i64 z588) rfl rfl rfl ?_
    refine wl_val (v := .int .i64 (IntKind.i64.wrap (z588 + (1:Int)))) rfl rfl rfl ?_
    refine wl_val (v := .int .i64 (IntKind.i64.wrap (z588 + (1:Int)))) rfl rfl rfl ?_
    refine wl_nil ?_
    refine then_n ?_
    replace hst := hst.pull2
    replace hst := hst.pull1
    replace hst := hst.keep2
    obtain rfl := some_inj hm
    exact ⟨_, Nat.lt_succ_self _, t598.2, (z585 ++ ([(IntKind.u8.wrap (IntKind.i64.wrap ((97:Int) + t598.1)))])), (IntKind.i64.wrap (z588 + (1:Int))), v609, _, hx595, ((fr_upd (t := 0) (v := p0) rfl).trans ((fr_upd (t := 3) (v := v609) rfl).trans ((fr_upd (t := 4) (v := .int .i64 t529.1) rfl).trans ((fr_upd (t := 5) (v := .int .i64 (IntKind.i64.wrap (z588 + (1:Int)))) rfl).trans rfl)))), hst⟩
  · skip
    replace hm := bif_f hc597 hm
    refine wp_iff (congrArg Value.bool hc597) ?_
    refine wp_exit ?_
    refine then_x ?_
    refine then_x ?_
    replace hm := inr_up hm hx595
    refine blk_x ?_
    refine then_n ?_
    refine wp_seq ?_
    refine wp_region_lit ?_
    refine wl_val (v := v586) rfl rfl rfl ?_
    refine wl_val (v := v586) rfl rfl rfl ?_
    refine wl_nil ?_
    refine then_n ?_
    refine wp_ret ?_
    obtain rfl := some_inj hm
    refine post_ret (vs := [v586]) Try.results36 (rvs_cons (rv_tmp rfl) rvs_nil) ?_
    replace hst := hst.pull1
    replace hst := hst.pull1
    exact ⟨v586, rfl, hst.keep2⟩

theorem ref12_small_ref {w0 w : World} {I : HL} {R : SP} {a0 : Int}  (hst : St w0 w I [] R) {r : (Nat)} (hm : ref12_small a0 = some r) :
    Calls Try.prog 63 #[.int .u8 a0] w fun e w' => e = .returned (.float .f64 r) ∧ St w0 w' I [] R := by
  unfold ref12_small at hm
  refine calls_start (args := [.int .u8 a0]) Try.func63 rfl Try.ntmps63 (Nat.le_of_ble_eq_true rfl) ?_
  refine wp_seq ?_
  refine wp_region_lit ?_
  refine wl_val (v := .float .f64 (0:Nat)) rfl rfl rfl ?_
  refine wl_nil ?_
  refine then_n ?_
  refine wp_seq ?_
  refine wp_region_lit ?_
  obtain ⟨b614, w615, ew616, eb617, hst⟩ := hst.lits (E := tyF64) (xs := [(0:Nat), (4607182418800017408:Nat), (13830554455654793216:Nat), (4612811918334230528:Nat), (9094988921128908188:Nat), (18318360957983683996:Nat), (4602678819172646912:Nat), (4613937818241073152:Nat)]) [[.float .f64 (0:Nat)], [.float .f64 (4607182418800017408:Nat)], [.float .f64 (13830554455654793216:Nat)], [.float .f64 (4612811918334230528:Nat)], [.float .f64 (9094988921128908188:Nat)], [.float .f64 (18318360957983683996:Nat)], [.float .f64 (4602678819172646912:Nat)], [.float .f64 (4613937818241073152:Nat)]] 41 8 rfl (Reps.cons rfl (Reps.cons rfl (Reps.cons rfl (Reps.cons rfl (Reps.cons rfl (Reps.cons rfl (Reps.cons rfl (Reps.cons rfl Reps.nil))))))))
  refine wl_run (v := (.slice (some ⟨b614, 0, none⟩) 8 8)) (w' := w615) rfl rfl (x_als (by kernel_rfl) ew616 eb617) ?_
  refine wl_val (v := (.slice (some ⟨b614, 0, none⟩) 8 8)) rfl rfl rfl ?_
  refine wl_nil ?_
  refine then_n ?_
  refine wp_seq ?_
  refine wp_region_lit ?_
  refine wl_val (v := (.slice (some ⟨b614, 0, none⟩) 8 8)) rfl rfl rfl ?_
  refine wl_val (v := .int .u8 a0) rfl rfl rfl ?_
  refine wl_val (v := .int .u8 (Int.tmod a0 (8:Int))) rfl rfl (x_rem (by decide) rfl rfl) ?_
  obtain ⟨x619, hx620, hm⟩ := bind_some hm
  obtain ⟨h621, h622, hi623⟩ := geto_some hx620
  refine wl_val (v := .pointer (some (eAddr (.slice (some ⟨b614, 0, none⟩) 8 8) ((Int.tmod a0 (8:Int)).toNat * 1 + 0)))) rfl rfl (x_index rfl rfl Try.underlying31 Try.sizeOf41 hst.sv0 h621 h622) ?_
  refine wl_val (v := .float .f64 x619) rfl rfl (x_load rfl Try.isAgg41 (hst.ol0 hi623 (by rintro _ rfl; rfl))) ?_
  refine wl_val (v := .float .f64 x619) rfl rfl rfl ?_
  refine wl_nil ?_
  refine then_n ?_
  refine wp_ret ?_
  obtain rfl := some_inj hm
  refine post_ret (vs := [.float .f64 x619]) Try.results63 (rvs_cons (rv_tmp rfl) rvs_nil) ?_
  exact ⟨rfl, hst.keep0⟩

theorem ref12_Tape_Float_ref {w0 w : World} {I : HL} {R : SP} {a0 : ref12_Tape} {p0 : Value}  (hst : St w0 w I [at_ref12_Tape p0 a0] R) {r : (Nat × ref12_Tape)} (hm : ref12_Tape_Float a0 = some r) :
    Calls Try.prog 37 #[p0] w fun e w' => e = .returned (.float .f64 r.1) ∧ St w0 w' I [at_ref12_Tape p0 r.2] R := by
  unfold ref12_Tape_Float at hm
  refine calls_start (args := [p0]) Try.func37 rfl Try.ntmps37 (Nat.le_of_ble_eq_true rfl) ?_
  refine wp_seq ?_
  refine wp_region_lit ?_
  refine wl_val (v := .float .f64 (0:Nat)) rfl rfl rfl ?_
  refine wl_nil ?_
  refine then_n ?_
  refine wp_seq ?_
  refine wp_region_lit ?_
  refine wl_val (v := p0) rfl rfl rfl ?_
  obtain ⟨t610, ht611, hm⟩ := bind_some hm
  refine wl_call rfl rfl (x_call Try.call22 rfl (vs := [p0, .int .i64 (8:Int)]) rfl) ?_
  refine (ref12_Tape_Next_ref hst.to1 ht611).mono ?_
  rintro _ w612 ⟨rfl, hst⟩
  refine ⟨_, rfl, ?_⟩
  replace hst := hst.of1
  refine wl_val (v := .int .u8 (IntKind.u8.wrap t610.1)) rfl rfl (by kernel_rfl) ?_
  obtain ⟨t615, ht616, hm⟩ := bind_some hm
  refine wl_call rfl rfl (x_call Try.call63 rfl (vs := [.int .u8 (IntKind.u8.wrap t610.1)]) rfl) ?_
  refine (ref12_small_ref hst.to0 ht616).mono ?_
  rintro _ w617 ⟨rfl, hst⟩
  refine ⟨_, rfl, ?_⟩
  replace hst := hst.of0
  refine wl_val (v := .float .f64 t615) rfl rfl rfl ?_
  refine wl_nil ?_
  refine then_n ?_
  refine wp_ret ?_
  obtain rfl := some_inj hm
  refine post_ret (vs := [.float .f64 t615]) Try.results37 (rvs_cons (rv_tmp rfl) rvs_nil) ?_
  exact ⟨rfl, hst.keep1⟩

theorem ref13_OfReply_ref {w0 w : World} {I : HL} {R : SP} {a0 : ref12_Tape} {p0 : Value}  (hst : St w0 w I [at_ref12_Tape p0 a0] R) {r : (api_Reply × ref12_Tape)} (hm : ref13_OfReply a0 = some r) :
    Calls Try.prog 12 #[p0] w fun e w' => ∃ (I' : HL) (q0_0 : Value) (q0_1 : Value), e = .returned (.agg #[.int .i64 r.1.E, .int .u64 r.1.Epoch, .int .u64 r.1.Index, q0_0, q0_1]) ∧ I.le I' ∧ St w0 w' I' [ownS ty_api_Got q0_0 r.1.Gots, ownS (tySl ty_api_Pair) q0_1 r.1.Scans, at_ref12_Tape p0 r.2] R := by
  unfold ref13_OfReply at hm
  refine calls_start (args := [p0]) Try.func12 rfl Try.ntmps12 (Nat.le_of_ble_eq_true rfl) ?_
  have hI0 := HL.le.refl I
  refine wp_seq ?_
  refine wp_region_lit ?_
  obtain ⟨b1254, w1255, ew1256, eb1257, hst⟩ := hst.box [.int .i64 (0:Int), .int .u64 (0:Int), .int .u64 (0:Int), (.slice none 0 0), (.slice none 0 0)] 39
  refine wl_run (v := .pointer (some ⟨b1254, 0, none⟩)) (w' := w1255) rfl rfl (x_al (by kernel_rfl) ew1256 eb1257) ?_
  refine wl_nil ?_
  refine then_n ?_
  refine wp_seq ?_
  refine wp_region_lit ?_
  obtain ⟨b1259, w1260, ew1261, eb1262, hst⟩ := hst.lits (E := (tyInt .i64)) (xs := [(0:Int), (0:Int), (0:Int), (8:Int), (9:Int), (3:Int)]) [[.int .i64 (0:Int)], [.int .i64 (0:Int)], [.int .i64 (0:Int)], [.int .i64 (8:Int)], [.int .i64 (9:Int)], [.int .i64 (3:Int)]] 30 6 rfl (Reps.cons rfl (Reps.cons rfl (Reps.cons rfl (Reps.cons rfl (Reps.cons rfl (Reps.cons rfl Reps.nil))))))
  refine wl_run (v := (.slice (some ⟨b1259, 0, none⟩) 6 6)) (w' := w1260) rfl rfl (x_als (by kernel_rfl) ew1261 eb1262) ?_
  refine wl_val (v := (.slice (some ⟨b1259, 0, none⟩) 6 6)) rfl rfl rfl ?_
  refine wl_nil ?_
  refine then_n ?_
  refine wp_seq ?_
  obtain ⟨y1371, hm, hx1372⟩ := bind_some hm
  refine wp_mid (fun a w => ∃ (z1363 : ref12_Tape) (z1366 : Int) (z1367 : Int) (z1368 : Int) (b1365 : Nat) (σ1369 : Nat → Value), (ref13_OfReply_j0) (z1363, z1366, z1367, z1368) = some r ∧ a = Fr 72 (upd (upd (upd σ1369 0 (p0)) 2 (.pointer (some ⟨b1254, 0, none⟩))) 4 (.pointer (some ⟨b1365, 0, none⟩))) ∧ St w0 w I [at_ref12_Tape p0 z1363, cells b1254 [.int .i64 (0:Int), .int .u64 (0:Int), .int .u64 (0:Int), (.slice none 0 0), (.slice none 0 0)], cells b1365 [.int .i64 z1366, .int .u64 z1367, .int .u64 z1368, (.slice none 0 0), (.slice none 0 0)]] R) ?_ ?_
  · skip
    refine wp_region_St hst 14 [0, 1, 2, 3, 4, 5, 6, 7, 8, 9, 10, 11, 12, 13] [0, 0, 2, 7, 15, 0, 38, 102, 0, 358, 870, 2047, 0, 8191] [] rfl (by kernel_rfl) (by kernel_rfl) Try.mixed (by kernel_rfl) ?_
    refine ws_q (v := (.slice (some ⟨b1259, 0, none⟩) 6 6)) 0 [1, 2, 3, 4, 5, 6, 7, 8, 9, 10, 11, 12, 13] (by kernel_rfl) rfl rfl (yi_run rfl (fun w hst => rfl)) ?_
    refine ws_q (v := p0) 1 [2, 3, 4, 5, 6, 7, 8, 9, 10, 11, 12, 13] (by kernel_rfl) rfl rfl (yi_run rfl (fun w hst => rfl)) ?_
    refine ws_q (v := p0) 5 [2, 3, 4, 6, 7, 8, 9, 10, 11, 12, 13] (by kernel_rfl) rfl rfl (yi_run rfl (fun w hst => rfl)) ?_
    refine ws_q (v := p0) 8 [2, 3, 4, 6, 7, 9, 10, 11, 12, 13] (by kernel_rfl) rfl rfl (yi_run rfl (fun w hst => rfl)) ?_
    refine ws_e2 2 12 (by kernel_rfl) ?_ ?_
    · skip
      refine nxe [3, 4, 6, 7, 9, 10, 11, 12, 13] (by kernel_rfl) rfl rfl ?_
      clear hst
      intro w hst
      replace hst := hst.pull2
      obtain ⟨t1264, ht1265, hm⟩ := bind_some hm
      refine we_call rfl (x_call Try.call22 rfl (vs := [p0, .int .i64 (6:Int)]) rfl) ?_
      refine (ref12_Tape_Next_ref hst.to1 ht1265).mono ?_
      rintro _ w1266 ⟨rfl, hst⟩
      refine ⟨_, rfl, ?_⟩
      replace hst := hst.of1
      refine ws_next (pend' := [(8, p0), (5, p0), (0, (.slice (some ⟨b1259, 0, none⟩) 6 6))]) hst (by kernel_rfl) (pk_cons rfl (yi_run rfl (fun w hst => rfl)) (pk_cons rfl (yi_run rfl (fun w hst => rfl)) (pk_cons rfl (yi_run rfl (fun w hst => rfl)) pk_nil))) ?_
      obtain ⟨x1269, hx1270, hm⟩ := bind_some hm
      obtain ⟨h1271, h1272, hi1273⟩ := geto_some hx1270
      refine ws_q (v := .pointer (some (eAddr (.slice (some ⟨b1259, 0, none⟩) 6 6) (t1264.1.toNat * 1 + 0)))) 3 [4, 6, 7, 9, 10, 11, 12, 13] (by kernel_rfl) rfl rfl (yi_run rfl (fun w hst => x_index rfl rfl Try.underlying78 Try.sizeOf30 hst.sv1 h1271 h1272)) ?_
      refine ws_q (v := .int .i64 x1269) 4 [6, 7, 9, 10, 11, 12, 13] (by kernel_rfl) rfl rfl (yi_run rfl (fun w hst => x_load rfl Try.isAgg30 (hst.ol1 hi1273 (by rintro _ rfl; rfl)))) ?_
      refine ws_e2 6 12 (by kernel_rfl) ?_ ?_
      · skip
        refine nxe [7, 9, 10, 11, 12, 13] (by kernel_rfl) rfl rfl ?_
        clear hst
        intro w hst
        obtain ⟨t1274, ht1275, hm⟩ := bind_some hm
        refine we_call rfl (x_call Try.call22 rfl (vs := [p0, .int .i64 (4:Int)]) rfl) ?_
        refine (ref12_Tape_Next_ref hst.to1 ht1275).mono ?_
        rintro _ w1276 ⟨rfl, hst⟩
        refine ⟨_, rfl, ?_⟩
        replace hst := hst.of1
        refine ws_next (pend' := [(4, .int .i64 x1269), (3, .pointer (some (eAddr (.slice (some ⟨b1259, 0, none⟩) 6 6) (t1264.1.toNat * 1 + 0)))), (8, p0), (0, (.slice (some ⟨b1259, 0, none⟩) 6 6))]) hst (by kernel_rfl) (pk_cons rfl (yi_run rfl (fun w hst => x_load rfl Try.isAgg30 (hst.ol1 hi1273 (by rintro _ rfl; rfl)))) (pk_cons rfl (yi_run rfl (fun w hst => x_index rfl rfl Try.underlying78 Try.sizeOf30 hst.sv1 h1271 h1272)) (pk_cons rfl (yi_run rfl (fun w hst => rfl)) (pk_cons rfl (yi_run rfl (fun w hst => rfl)) pk_nil)))) ?_
        refine ws_q (v := .int .u64 (IntKind.u64.wrap t1274.1)) 7 [9, 10, 11, 12, 13] (by kernel_rfl) rfl rfl (yi_run rfl (fun w hst => by kernel_rfl)) ?_
        refine ws_e2 9 12 (by kernel_rfl) ?_ ?_
        · skip
          refine nxe [10, 11, 12, 13] (by kernel_rfl) rfl rfl ?_
          clear hst
          intro w hst
          obtain ⟨t1279, ht1280, hm⟩ := bind_some hm
          refine we_call rfl (x_call Try.call22 rfl (vs := [p0, .int .i64 (9:Int)]) rfl) ?_
          refine (ref12_Tape_Next_ref hst.to1 ht1280).mono ?_
          rintro _ w1281 ⟨rfl, hst⟩
          refine ⟨_, rfl, ?_⟩
          replace hst := hst.of1
          refine ws_next (pend' := [(7, .int .u64 (IntKind.u64.wrap t1274.1)), (4, .int .i64 x1269), (3, .pointer (some (eAddr (.slice (some ⟨b1259, 0, none⟩) 6 6) (t1264.1.toNat * 1 + 0)))), (0, (.slice (some ⟨b1259, 0, none⟩) 6 6))]) hst (by kernel_rfl) (pk_cons rfl (yi_run rfl (fun w hst => by kernel_rfl)) (pk_cons rfl (yi_run rfl (fun w hst => x_load rfl Try.isAgg30 (hst.ol1 hi1273 (by rintro _ rfl; rfl)))) (pk_cons rfl (yi_run rfl (fun w hst => x_index rfl rfl Try.underlying78 Try.sizeOf30 hst.sv1 h1271 h1272)) (pk_cons rfl (yi_run rfl (fun w hst => rfl)) pk_nil)))) ?_
          refine ws_q (v := .int .u64 (IntKind.u64.wrap t1279.1)) 10 [11, 12, 13] (by kernel_rfl) rfl rfl (yi_run rfl (fun w hst => by kernel_rfl)) ?_
          refine ws_q (v := .agg #[.int .i64 x1269, .int .u64 (IntKind.u64.wrap t1274.1), .int .u64 (IntKind.u64.wrap t1279.1), (.slice none 0 0), (.slice none 0 0)]) 11 [12, 13] (by kernel_rfl) rfl rfl (yi_run rfl (fun w hst => by kernel_rfl)) ?_
          refine ws_e1 12 (by kernel_rfl) ?_
          refine nxe [13] (by kernel_rfl) rfl rfl ?_
          clear hst
          intro w hst
          obtain ⟨b1288, w1289, ew1290, eb1291, hst⟩ := hst.box [.int .i64 (0:Int), .int .u64 (0:Int), .int .u64 (0:Int), (.slice none 0 0), (.slice none 0 0)] 39
          refine we_run (v := .pointer (some ⟨b1288, 0, none⟩)) (w' := w1289) rfl (x_al (by kernel_rfl) ew1290 eb1291) ?_
          refine ws_next (pend' := [(11, .agg #[.int .i64 x1269, .int .u64 (IntKind.u64.wrap t1274.1), .int .u64 (IntKind.u64.wrap t1279.1), (.slice none 0 0), (.slice none 0 0)]), (10, .int .u64 (IntKind.u64.wrap t1279.1)), (7, .int .u64 (IntKind.u64.wrap t1274.1)), (4, .int .i64 x1269), (3, .pointer (some (eAddr (.slice (some ⟨b1259, 0, none⟩) 6 6) (t1264.1.toNat * 1 + 0)))), (0, (.slice (some ⟨b1259, 0, none⟩) 6 6))]) hst (by kernel_rfl) (pk_cons rfl (yi_run rfl (fun w hst => by kernel_rfl)) (pk_cons rfl (yi_run rfl (fun w hst => by kernel_rfl)) (pk_cons rfl (yi_run rfl (fun w hst => by kernel_rfl)) (pk_cons rfl (yi_run rfl (fun w hst => x_load rfl Try.isAgg30 (hst.ol2 hi1273 (by rintro _ rfl; rfl)))) (pk_cons rfl (yi_run rfl (fun w hst => x_index rfl rfl Try.underlying78 Try.sizeOf30 hst.sv2 h1271 h1272)) (pk_cons rfl (yi_run rfl (fun w hst => rfl)) pk_nil)))))) ?_
          refine ws_e1 13 (by kernel_rfl) ?_
          refine nxe [] (by kernel_rfl) rfl rfl ?_
          clear hst
          intro w hst
          obtain ⟨w1293, hr1294, hst⟩ := hst.boxStore (P := Try.prog) (t := 39) (cs' := [.int .i64 x1269, .int .u64 (IntKind.u64.wrap t1274.1), .int .u64 (IntKind.u64.wrap t1279.1), (.slice none 0 0), (.slice none 0 0)]) 0 (.agg #[.int .i64 x1269, .int .u64 (IntKind.u64.wrap t1274.1), .int .u64 (IntKind.u64.wrap t1279.1), (.slice none 0 0), (.slice none 0 0)]) Try.sizeOf39 (Nat.le_of_ble_eq_true rfl) (ones_cons rfl (ones_cons rfl (ones_cons rfl (ones_cons rfl (ones_cons rfl ones_nil))))) (by kernel_rfl)
          refine we_unit rfl (x_unit hr1294) ?_
          refine ws_next (pend' := []) hst (by kernel_rfl) pk_nil ?_
          refine ws_nil ?_
          intro w hst
          refine ⟨rfl, ?_⟩
          replace hst := hst.pull3
          replace hst := hst.pull2
          replace hst := hst.keep3
          obtain rfl := some_inj hm
          exact ⟨t1279.2, x1269, (IntKind.u64.wrap t1274.1), (IntKind.u64.wrap t1279.1), b1288, _, hx1372, ((fr_upd (t := 0) (v := p0) rfl).trans ((fr_upd (t := 2) (v := .pointer (some ⟨b1254, 0, none⟩)) rfl).trans ((fr_upd (t := 4) (v := .pointer (some ⟨b1288, 0, none⟩)) rfl).trans rfl))), hst⟩
        · skip
          refine nxe [9, 10, 11, 13] (by kernel_rfl) rfl rfl ?_
          clear hst
          intro w hst
          obtain ⟨b1297, w1298, ew1299, eb1300, hst⟩ := hst.box [.int .i64 (0:Int), .int .u64 (0:Int), .int .u64 (0:Int), (.slice none 0 0), (.slice none 0 0)] 39
          refine we_run (v := .pointer (some ⟨b1297, 0, none⟩)) (w' := w1298) rfl (x_al (by kernel_rfl) ew1299 eb1300) ?_
          refine ws_next (pend' := [(7, .int .u64 (IntKind.u64.wrap t1274.1)), (4, .int .i64 x1269), (3, .pointer (some (eAddr (.slice (some ⟨b1259, 0, none⟩) 6 6) (t1264.1.toNat * 1 + 0)))), (8, p0), (0, (.slice (some ⟨b1259, 0, none⟩) 6 6))]) hst (by kernel_rfl) (pk_cons rfl (yi_run rfl (fun w hst => by kernel_rfl)) (pk_cons rfl (yi_run rfl (fun w hst => x_load rfl Try.isAgg30 (hst.ol2 hi1273 (by rintro _ rfl; rfl)))) (pk_cons rfl (yi_run rfl (fun w hst => x_index rfl rfl Try.underlying78 Try.sizeOf30 hst.sv2 h1271 h1272)) (pk_cons rfl (yi_run rfl (fun w hst => rfl)) (pk_cons rfl (yi_run rfl (fun w hst => rfl)) pk_nil))))) ?_
          refine ws_e1 9 (by kernel_rfl) ?_
          refine nxe [10, 11, 13] (by kernel_rfl) rfl rfl ?_
          clear hst
          intro w hst
          replace hst := hst.pull1
          obtain ⟨t1302, ht1303, hm⟩ := bind_some hm
          refine we_call rfl (x_call Try.call22 rfl (vs := [p0, .int .i64 (9:Int)]) rfl) ?_
          refine (ref12_Tape_Next_ref hst.to1 ht1303).mono ?_
          rintro _ w1304 ⟨rfl, hst⟩
          refine ⟨_, rfl, ?_⟩
          replace hst := hst.of1
          refine ws_next (pend' := [(7, .int .u64 (IntKind.u64.wrap t1274.1)), (4, .int .i64 x1269), (3, .pointer (some (eAddr (.slice (some ⟨b1259, 0, none⟩) 6 6) (t1264.1.toNat * 1 + 0)))), (0, (.slice (some ⟨b1259, 0, none⟩) 6 6))]) hst (by kernel_rfl) (pk_cons rfl (yi_run rfl (fun w hst => by kernel_rfl)) (pk_cons rfl (yi_run rfl (fun w hst => x_load rfl Try.isAgg30 (hst.ol2 hi1273 (by rintro _ rfl; rfl)))) (pk_cons rfl (yi_run rfl (fun w hst => x_index rfl rfl Try.underlying78 Try.sizeOf30 hst.sv2 h1271 h1272)) (pk_cons rfl (yi_run rfl (fun w hst => rfl)) pk_nil)))) ?_
          refine ws_q (v := .int .u64 (IntKind.u64.wrap t1302.1)) 10 [11, 13] (by kernel_rfl) rfl rfl (yi_run rfl (fun w hst => by kernel_rfl)) ?_
          refine ws_q (v := .agg #[.int .i64 x1269, .int .u64 (IntKind.u64.wrap t1274.1), .int .u64 (IntKind.u64.wrap t1302.1), (.slice none 0 0), (.slice none 0 0)]) 11 [13] (by kernel_rfl) rfl rfl (yi_run rfl (fun w hst => by kernel_rfl)) ?_
          refine ws_e1 13 (by kernel_rfl) ?_
          refine nxe [] (by kernel_rfl) rfl rfl ?_
          clear hst
          intro w hst
          replace hst := hst.pull1
          obtain ⟨w1309, hr1310, hst⟩ := hst.boxStore (P := Try.prog) (t := 39) (cs' := [.int .i64 x1269, .int .u64 (IntKind.u64.wrap t1274.1), .int .u64 (IntKind.u64.wrap t1302.1), (.slice none 0 0), (.slice none 0 0)]) 0 (.agg #[.int .i64 x1269, .int .u64 (IntKind.u64.wrap t1274.1), .int .u64 (IntKind.u64.wrap t1302.1), (.slice none 0 0), (.slice none 0 0)]) Try.sizeOf39 (Nat.le_of_ble_eq_true rfl) (ones_cons rfl (ones_cons rfl (ones_cons rfl (ones_cons rfl (ones_cons rfl ones_nil))))) (by kernel_rfl)
          refine we_unit rfl (x_unit hr1310) ?_
          refine ws_next (pend' := []) hst (by kernel_rfl) pk_nil ?_
          refine ws_nil ?_
          intro w hst
          refine ⟨rfl, ?_⟩
          replace hst := hst.pull3
          replace hst := hst.pull2
          replace hst := hst.keep3
          obtain rfl := some_inj hm
          exact ⟨t1302.2, x1269, (IntKind.u64.wrap t1274.1), (IntKind.u64.wrap t1302.1), b1297, _, hx1372, ((fr_upd (t := 0) (v := p0) rfl).trans ((fr_upd (t := 2) (v := .pointer (some ⟨b1254, 0, none⟩)) rfl).trans ((fr_upd (t := 4) (v := .pointer (some ⟨b1297, 0, none⟩)) rfl).trans rfl))), hst⟩
      · skip
        refine nxe [6, 7, 9, 10, 11, 13] (by kernel_rfl) rfl rfl ?_
        clear hst
        intro w hst
        obtain ⟨b1313, w1314, ew1315, eb1316, hst⟩ := hst.box [.int .i64 (0:Int), .int .u64 (0:Int), .int .u64 (0:Int), (.slice none 0 0), (.slice none 0 0)] 39
        refine we_run (v := .pointer (some ⟨b1313, 0, none⟩)) (w' := w1314) rfl (x_al (by kernel_rfl) ew1315 eb1316) ?_
        refine ws_next (pend' := [(4, .int .i64 x1269), (3, .pointer (some (eAddr (.slice (some ⟨b1259, 0, none⟩) 6 6) (t1264.1.toNat * 1 + 0)))), (8, p0), (5, p0), (0, (.slice (some ⟨b1259, 0, none⟩) 6 6))]) hst (by kernel_rfl) (pk_cons rfl (yi_run rfl (fun w hst => x_load rfl Try.isAgg30 (hst.ol2 hi1273 (by rintro _ rfl; rfl)))) (pk_cons rfl (yi_run rfl (fun w hst => x_index rfl rfl Try.underlying78 Try.sizeOf30 hst.sv2 h1271 h1272)) (pk_cons rfl (yi_run rfl (fun w hst => rfl)) (pk_cons rfl (yi_run rfl (fun w hst => rfl)) (pk_cons rfl (yi_run rfl (fun w hst => rfl)) pk_nil))))) ?_
        refine ws_e1 6 (by kernel_rfl) ?_
        refine nxe [7, 9, 10, 11, 13] (by kernel_rfl) rfl rfl ?_
        clear hst
        intro w hst
        replace hst := hst.pull1
        obtain ⟨t1318, ht1319, hm⟩ := bind_some hm
        refine we_call rfl (x_call Try.call22 rfl (vs := [p0, .int .i64 (4:Int)]) rfl) ?_
        refine (ref12_Tape_Next_ref hst.to1 ht1319).mono ?_
        rintro _ w1320 ⟨rfl, hst⟩
        refine ⟨_, rfl, ?_⟩
        replace hst := hst.of1
        refine ws_next (pend' := [(4, .int .i64 x1269), (3, .pointer (some (eAddr (.slice (some ⟨b1259, 0, none⟩) 6 6) (t1264.1.toNat * 1 + 0)))), (8, p0), (0, (.slice (some ⟨b1259, 0, none⟩) 6 6))]) hst (by kernel_rfl) (pk_cons rfl (yi_run rfl (fun w hst => x_load rfl Try.isAgg30 (hst.ol2 hi1273 (by rintro _ rfl; rfl)))) (pk_cons rfl (yi_run rfl (fun w hst => x_index rfl rfl Try.underlying78 Try.sizeOf30 hst.sv2 h1271 h1272)) (pk_cons rfl (yi_run rfl (fun w hst => rfl)) (pk_cons rfl (yi_run rfl (fun w hst => rfl)) pk_nil)))) ?_
        refine ws_q (v := .int .u64 (IntKind.u64.wrap t1318.1)) 7 [9, 10, 11, 13] (by kernel_rfl) rfl rfl (yi_run rfl (fun w hst => by kernel_rfl)) ?_
        refine ws_e1 9 (by kernel_rfl) ?_
        refine nxe [10, 11, 13] (by kernel_rfl) rfl rfl ?_
        clear hst
        intro w hst
        obtain ⟨t1323, ht1324, hm⟩ := bind_some hm
        refine we_call rfl (x_call Try.call22 rfl (vs := [p0, .int .i64 (9:Int)]) rfl) ?_
        refine (ref12_Tape_Next_ref hst.to1 ht1324).mono ?_
        rintro _ w1325 ⟨rfl, hst⟩
        refine ⟨_, rfl, ?_⟩
        replace hst := hst.of1
        refine ws_next (pend' := [(7, .int .u64 (IntKind.u64.wrap t1318.1)), (4, .int .i64 x1269), (3, .pointer (some (eAddr (.slice (some ⟨b1259, 0, none⟩) 6 6) (t1264.1.toNat * 1 + 0)))), (0, (.slice (some ⟨b1259, 0, none⟩) 6 6))]) hst (by kernel_rfl) (pk_cons rfl (yi_run rfl (fun w hst => by kernel_rfl)) (pk_cons rfl (yi_run rfl (fun w hst => x_load rfl Try.isAgg30 (hst.ol2 hi1273 (by rintro _ rfl; rfl)))) (pk_cons rfl (yi_run rfl (fun w hst => x_index rfl rfl Try.underlying78 Try.sizeOf30 hst.sv2 h1271 h1272)) (pk_cons rfl (yi_run rfl (fun w hst => rfl)) pk_nil)))) ?_
        refine ws_q (v := .int .u64 (IntKind.u64.wrap t1323.1)) 10 [11, 13] (by kernel_rfl) rfl rfl (yi_run rfl (fun w hst => by kernel_rfl)) ?_
        refine ws_q (v := .agg #[.int .i64 x1269, .int .u64 (IntKind.u64.wrap t1318.1), .int .u64 (IntKind.u64.wrap t1323.1), (.slice none 0 0), (.slice none 0 0)]) 11 [13] (by kernel_rfl) rfl rfl (yi_run rfl (fun w hst => by kernel_rfl)) ?_
        refine ws_e1 13 (by kernel_rfl) ?_
        refine nxe [] (by kernel_rfl) rfl rfl ?_
        clear hst
        intro w hst
        replace hst := hst.pull1
        obtain ⟨w1330, hr1331, hst⟩ := hst.boxStore (P := Try.prog) (t := 39) (cs' := [.int .i64 x1269, .int .u64 (IntKind.u64.wrap t1318.1), .int .u64 (IntKind.u64.wrap t1323.1), (.slice none 0 0), (.slice none 0 0)]) 0 (.agg #[.int .i64 x1269, .int .u64 (IntKind.u64.wrap t1318.1), .int .u64 (IntKind.u64.wrap t1323.1), (.slice none 0 0), (.slice none 0 0)]) Try.sizeOf39 (Nat.le_of_ble_eq_true rfl) (ones_cons rfl (ones_cons rfl (ones_cons rfl (ones_cons rfl (ones_cons rfl ones_nil))))) (by kernel_rfl)
        refine we_unit rfl (x_unit hr1331) ?_
        refine ws_next (pend' := []) hst (by kernel_rfl) pk_nil ?_
        refine ws_nil ?_
        intro w hst
        refine ⟨rfl, ?_⟩
        replace hst := hst.pull3
        replace hst := hst.pull2
        replace hst := hst.keep3
        obtain rfl := some_inj hm
        exact ⟨t1323.2, x1269, (IntKind.u64.wrap t1318.1), (IntKind.u64.wrap t1323.1), b1313, _, hx1372, ((fr_upd (t := 0) (v := p0) rfl).trans ((fr_upd (t := 2) (v := .pointer (some ⟨b1254, 0, none⟩)) rfl).trans ((fr_upd (t := 4) (v := .pointer (some ⟨b1313, 0, none⟩)) rfl).trans rfl))), hst⟩
    · skip
      refine nxe [2, 3, 4, 6, 7, 9, 10, 11, 13] (by kernel_rfl) rfl rfl ?_
      clear hst
      intro w hst
      obtain ⟨b1334, w1335, ew1336, eb1337, hst⟩ := hst.box [.int .i64 (0:Int), .int .u64 (0:Int), .int .u64 (0:Int), (.slice none 0 0), (.slice none 0 0)] 39
      refine we_run (v := .pointer (some ⟨b1334, 0, none⟩)) (w' := w1335) rfl (x_al (by kernel_rfl) ew1336 eb1337) ?_
      refine ws_next (pend' := [(8, p0), (5, p0), (1, p0), (0, (.slice (some ⟨b1259, 0, none⟩) 6 6))]) hst (by kernel_rfl) (pk_cons rfl (yi_run rfl (fun w hst => rfl)) (pk_cons rfl (yi_run rfl (fun w hst => rfl)) (pk_cons rfl (yi_run rfl (fun w hst => rfl)) (pk_cons rfl (yi_run rfl (fun w hst => rfl)) pk_nil)))) ?_
      refine ws_e1 2 (by kernel_rfl) ?_
      refine nxe [3, 4, 6, 7, 9, 10, 11, 13] (by kernel_rfl) rfl rfl ?_
      clear hst
      intro w hst
      replace hst := hst.pull3
      obtain ⟨t1339, ht1340, hm⟩ := bind_some hm
      refine we_call rfl (x_call Try.call22 rfl (vs := [p0, .int .i64 (6:Int)]) rfl) ?_
      refine (ref12_Tape_Next_ref hst.to1 ht1340).mono ?_
      rintro _ w1341 ⟨rfl, hst⟩
      refine ⟨_, rfl, ?_⟩
      replace hst := hst.of1
      refine ws_next (pend' := [(8, p0), (5, p0), (0, (.slice (some ⟨b1259, 0, none⟩) 6 6))]) hst (by kernel_rfl) (pk_cons rfl (yi_run rfl (fun w hst => rfl)) (pk_cons rfl (yi_run rfl (fun w hst => rfl)) (pk_cons rfl (yi_run rfl (fun w hst => rfl)) pk_nil))) ?_
      obtain ⟨x1344, hx1345, hm⟩ := bind_some hm
      obtain ⟨h1346, h1347, hi1348⟩ := geto_some hx1345
      refine ws_q (v := .pointer (some (eAddr (.slice (some ⟨b1259, 0, none⟩) 6 6) (t1339.1.toNat * 1 + 0)))) 3 [4, 6, 7, 9, 10, 11, 13] (by kernel_rfl) rfl rfl (yi_run rfl (fun w hst => x_index rfl rfl Try.underlying78 Try.sizeOf30 hst.sv2 h1346 h1347)) ?_
      refine ws_q (v := .int .i64 x1344) 4 [6, 7, 9, 10, 11, 13] (by kernel_rfl) rfl rfl (yi_run rfl (fun w hst => x_load rfl Try.isAgg30 (hst.ol2 hi1348 (by rintro _ rfl; rfl)))) ?_
      refine ws_e1 6 (by kernel_rfl) ?_
      refine nxe [7, 9, 10, 11, 13] (by kernel_rfl) rfl rfl ?_
      clear hst
      intro w hst
      obtain ⟨t1349, ht1350, hm⟩ := bind_some hm
      refine we_call rfl (x_call Try.call22 rfl (vs := [p0, .int .i64 (4:Int)]) rfl) ?_
      refine (ref12_Tape_Next_ref hst.to1 ht1350).mono ?_
      rintro _ w1351 ⟨rfl, hst⟩
      refine ⟨_, rfl, ?_⟩
      replace hst := hst.of1
      refine ws_next (pend' := [(4, .int .i64 x1344), (3, .pointer (some (eAddr (.slice (some ⟨b1259, 0, none⟩) 6 6) (t1339.1.toNat * 1 + 0)))), (8, p0), (0, (.slice (some ⟨b1259, 0, none⟩) 6 6))]) hst (by kernel_rfl) (pk_cons rfl (yi_run rfl (fun w hst => x_load rfl Try.isAgg30 (hst.ol2 hi1348 (by rintro _ rfl; rfl)))) (pk_cons rfl (yi_run rfl (fun w hst => x_index rfl rfl Try.underlying78 Try.sizeOf30 hst.sv2 h1346 h1347)) (pk_cons rfl (yi_run rfl (fun w hst => rfl)) (pk_cons rfl (yi_run rfl (fun w hst => rfl)) pk_nil)))) ?_
      refine ws_q (v := .int .u64 (IntKind.u64.wrap t1349.1)) 7 [9, 10, 11, 13] (by kernel_rfl) rfl rfl (yi_run rfl (fun w hst => by kernel_rfl)) ?_
      refine ws_e1 9 (by kernel_rfl) ?_
      refine nxe [10, 11, 13] (by kernel_rfl) rfl rfl ?_
      clear hst
      intro w hst
      obtain ⟨t1354, ht1355, hm⟩ := bind_some hm
      refine we_call rfl (x_call Try.call22 rfl (vs := [p0, .int .i64 (9:Int)]) rfl) ?_
      refine (ref12_Tape_Next_ref hst.to1 ht1355).mono ?_
      rintro _ w1356 ⟨rfl, hst⟩
      refine ⟨_, rfl, ?_⟩
      replace hst := hst.of1
      refine ws_next (pend' := [(7, .int .u64 (IntKind.u64.wrap t1349.1)), (4, .int .i64 x1344), (3, .pointer (some (eAddr (.slice (some ⟨b1259, 0, none⟩) 6 6) (t1339.1.toNat * 1 + 0)))), (0, (.slice (some ⟨b1259, 0, none⟩) 6 6))]) hst (by kernel_rfl) (pk_cons rfl (yi_run rfl (fun w hst => by kernel_rfl)) (pk_cons rfl (yi_run rfl (fun w hst => x_load rfl Try.isAgg30 (hst.ol2 hi1348 (by rintro _ rfl; rfl)))) (pk_cons rfl (yi_run rfl (fun w hst => x_index rfl rfl Try.underlying78 Try.sizeOf30 hst.sv2 h1346 h1347)) (pk_cons rfl (yi_run rfl (fun w hst => rfl)) pk_nil)))) ?_
      refine ws_q (v := .int .u64 (IntKind.u64.wrap t1354.1)) 10 [11, 13] (by kernel_rfl) rfl rfl (yi_run rfl (fun w hst => by kernel_rfl)) ?_
      refine ws_q (v := .agg #[.int .i64 x1344, .int .u64 (IntKind.u64.wrap t1349.1), .int .u64 (IntKind.u64.wrap t1354.1), (.slice none 0 0), (.slice none 0 0)]) 11 [13] (by kernel_rfl) rfl rfl (yi_run rfl (fun w hst => by kernel_rfl)) ?_
      refine ws_e1 13 (by kernel_rfl) ?_
      refine nxe [] (by kernel_rfl) rfl rfl ?_
      clear hst
      intro w hst
      replace hst := hst.pull1
      obtain ⟨w1361, hr1362, hst⟩ := hst.boxStore (P := Try.prog) (t := 39) (cs' := [.int .i64 x1344, .int .u64 (IntKind.u64.wrap t1349.1), .int .u64 (IntKind.u64.wrap t1354.1), (.slice none 0 0), (.slice none 0 0)]) 0 (.agg #[.int .i64 x1344, .int .u64 (IntKind.u64.wrap t1349.1), .int .u64 (IntKind.u64.wrap t1354.1), (.slice none 0 0), (.slice none 0 0)]) Try.sizeOf39 (Nat.le_of_ble_eq_true rfl) (ones_cons rfl (ones_cons rfl (ones_cons rfl (ones_cons rfl (ones_cons rfl ones_nil))))) (by kernel_rfl)
      refine we_unit rfl (x_unit hr1362) ?_
      refine ws_next (pend' := []) hst (by kernel_rfl) pk_nil ?_
      refine ws_nil ?_
      intro w hst
      refine ⟨rfl, ?_⟩
      replace hst := hst.pull3
      replace hst := hst.pull2
      replace hst := hst.keep3
      obtain rfl := some_inj hm
      exact ⟨t1354.2, x1344, (IntKind.u64.wrap t1349.1), (IntKind.u64.wrap t1354.1), b1334, _, hx1372, ((fr_upd (t := 0) (v := p0) rfl).trans ((fr_upd (t := 2) (v := .pointer (some ⟨b1254, 0, none⟩)) rfl).trans ((fr_upd (t := 4) (v := .pointer (some ⟨b1334, 0, none⟩)) rfl).trans rfl))), hst⟩
  · skip
    clear hst
    rintro _ w1373 ⟨z1363, z1366, z1367, z1368, b1365, σ1369, hm, rfl, hst⟩
    dsimp only [ref13_OfReply_j0] at hm
    refine then_n ?_
    refine wp_seq ?_
    refine wp_region_lit ?_
    refine wl_val (v := p0) rfl rfl rfl ?_
    obtain ⟨t1374, ht1375, hm⟩ := bind_some hm
    refine wl_call rfl rfl (x_call Try.call22 rfl (vs := [p0, .int .i64 (3:Int)]) rfl) ?_
    refine (ref12_Tape_Next_ref hst.to1 ht1375).mono ?_
    rintro _ w1376 ⟨rfl, hst⟩
    refine ⟨_, rfl, ?_⟩
    replace hst := hst.of1
    refine wl_val (v := .int .i64 t1374.1) rfl rfl rfl ?_
    refine wl_nil ?_
    refine then_n ?_
    obtain ⟨y1521, hm, hx1522⟩ := bind_some hm
    refine wp_cut (fun a w => ∃ (I1518 : HL) (z1514 : ref12_Tape) (z1517 : (List api_Got)) (v1516 : Value) (σ1519 : Nat → Value), (ref13_OfReply_j1 z1366 z1367 z1368) (z1514, z1517) = some r ∧ a = Fr 72 (upd (upd (upd σ1519 0 (p0)) 2 (.pointer (some ⟨b1254, 0, none⟩))) 4 (.pointer (some ⟨b1365, 0, none⟩))) ∧ I.le I1518 ∧ St w0 w I1518 [at_ref12_Tape p0 z1514, cells b1254 [.int .i64 (0:Int), .int .u64 (0:Int), .int .u64 (0:Int), (.slice none 0 0), (.slice none 0 0)], cells b1365 [.int .i64 z1366, .int .u64 z1367, .int .u64 z1368, v1516, (.slice none 0 0)], ownS ty_api_Got v1516 z1517] R) ?_ ?_
    · skip
      have hL1523 := HL.le.refl I
      refine wp_seq ?_
      refine wp_region_lit ?_
      refine wl_val (v := .int .i64 (0:Int)) rfl rfl rfl ?_
      refine wl_nil ?_
      refine then_n ?_
      refine wp_block ?_
      replace hst := hst.own_nil ty_api_Got
      obtain ⟨n1478, hm⟩ := loopO_some hm
      refine wp_loop_n (fun n a w => ∃ (I1476 : HL) (z1471 : (List api_Got)) (z1474 : ref12_Tape) (z1475 : Int) (v1472 : Value) (σ1477 : Nat → Value), loopN (ref13_OfReply_l2 t1374) n (z1471, z1474, z1475) = some y1521 ∧ a = Fr 72 (upd (upd (upd (upd (upd σ1477 0 (p0)) 2 (.pointer (some ⟨b1254, 0, none⟩))) 4 (.pointer (some ⟨b1365, 0, none⟩))) 5 (.int .i64 t1374.1)) 6 (.int .i64 z1475)) ∧ I.le I1476 ∧ St w0 w I1476 [ownS ty_api_Got v1472 z1471, at_ref12_Tape p0 z1474, cells b1254 [.int .i64 (0:Int), .int .u64 (0:Int), .int .u64 (0:Int), (.slice none 0 0), (.slice none 0 0)], cells b1365 [.int .i64 z1366, .int .u64 z1367, .int .u64 z1368, v1472, (.slice none 0 0)]] R) n1478 ⟨_, [], t1374.2, (0:Int), (.slice none 0 0), _, hm, ((fr_upd (t := 0) (v := p0) rfl).trans ((fr_upd (t := 2) (v := .pointer (some ⟨b1254, 0, none⟩)) rfl).trans ((fr_upd (t := 4) (v := .pointer (some ⟨b1365, 0, none⟩)) rfl).trans ((fr_upd (t := 5) (v := .int .i64 t1374.1) rfl).trans ((fr_upd (t := 6) (v := .int .i64 (0:Int)) rfl).trans rfl))))), (HL.le.refl _), hst⟩ ?_
      rintro n1484 _ w1479 ⟨I1476, z1471, z1474, z1475, v1472, σ1477, hm, rfl, hL1480, hst⟩
      obtain ⟨n1481, y1482, rfl, hm, hx1483⟩ := loopN_some hm
      dsimp only [ref13_OfReply_l2] at hm
      replace hI0 := hI0.trans hL1480
      replace hL1523 := hL1523.trans hL1480
      refine wp_seq ?_
      refine wp_seq ?_
      refine wp_region_lit ?_
      refine wl_val (v := .int .i64 z1475) rfl rfl rfl ?_
      refine wl_val (v := .int .i64 t1374.1) rfl rfl rfl ?_
      refine wl_val (v := .bool (decide (z1475 < t1374.1))) rfl rfl rfl ?_
      refine wl_nil ?_
      refine then_n ?_
      refine bsplit (decide (z1475 < t1374.1)) (fun hc1485 => ?_) (fun hc1485 => ?_)
      · skip
        replace hm := bif_t hc1485 hm
        refine wp_ift (congrArg Value.bool hc1485) ?_
        refine wp_skip ?_
        refine then_n ?_
        refine wp_seq ?_
        refine wp_block ?_
        refine wp_region_St hst 12 [0, 1, 2, 3, 4, 5, 6, 7, 8, 9, 10, 11] [0, 1, 0, 4, 12, 0, 44, 124, 252, 511, 1023, 2047] [] rfl (by kernel_rfl) (by kernel_rfl) Try.mixed (by kernel_rfl) ?_
        refine ws_q (v := .pointer (some ⟨b1365, 3, none⟩)) 0 [1, 2, 3, 4, 5, 6, 7, 8, 9, 10, 11] (by kernel_rfl) rfl rfl (yi_run rfl (fun w hst => x_field rfl Try.underlying39 rfl Try.sizeOf36 rfl)) ?_
        refine ws_q (v := v1472) 1 [2, 3, 4, 5, 6, 7, 8, 9, 10, 11] (by kernel_rfl) rfl rfl (yi_run rfl (fun w hst => x_load rfl Try.isAgg36 (hst.bc3 rfl))) ?_
        refine ws_q (v := p0) 2 [3, 4, 5, 6, 7, 8, 9, 10, 11] (by kernel_rfl) rfl rfl (yi_run rfl (fun w hst => rfl)) ?_
        refine ws_q (v := p0) 5 [3, 4, 6, 7, 8, 9, 10, 11] (by kernel_rfl) rfl rfl (yi_run rfl (fun w hst => rfl)) ?_
        refine ws_e1 3 (by kernel_rfl) ?_
        refine nxe [4, 6, 7, 8, 9, 10, 11] (by kernel_rfl) rfl rfl ?_
        clear hst
        intro w hst
        replace hst := hst.pull1
        obtain ⟨t1486, ht1487, hm⟩ := bind_some hm
        refine we_call rfl (x_call Try.call22 rfl (vs := [p0, .int .i64 (2:Int)]) rfl) ?_
        refine (ref12_Tape_Next_ref hst.to1 ht1487).mono ?_
        rintro _ w1488 ⟨rfl, hst⟩
        refine ⟨_, rfl, ?_⟩
        replace hst := hst.of1
        refine ws_next (pend' := [(5, p0), (1, v1472), (0, .pointer (some ⟨b1365, 3, none⟩))]) hst (by kernel_rfl) (pk_cons rfl (yi_run rfl (fun w hst => rfl)) (pk_cons rfl (yi_run rfl (fun w hst => x_load rfl Try.isAgg36 (hst.bc3 rfl))) (pk_cons rfl (yi_run rfl (fun w hst => x_field rfl Try.underlying39 rfl Try.sizeOf36 rfl)) pk_nil))) ?_
        refine ws_q (v := .bool (t1486.1 == (0:Int))) 4 [6, 7, 8, 9, 10, 11] (by kernel_rfl) rfl rfl (yi_run rfl (fun w hst => rfl)) ?_
        refine ws_e1 6 (by kernel_rfl) ?_
        refine nxe [7, 8, 9, 10, 11] (by kernel_rfl) rfl rfl ?_
        clear hst
        intro w hst
        obtain ⟨t1491, ht1492, hm⟩ := bind_some hm
        refine we_call rfl (x_call Try.call36 rfl (vs := [p0]) rfl) ?_
        refine (ref12_Tape_Val_ref hst.to1 ht1492).mono ?_
        rintro _ w1493 ⟨v1496, rfl, hst⟩
        refine ⟨_, rfl, ?_⟩
        replace hst := hst.of2
        refine ws_next (pend' := [(4, .bool (t1486.1 == (0:Int))), (1, v1472), (0, .pointer (some ⟨b1365, 3, none⟩))]) hst (by kernel_rfl) (pk_cons rfl (yi_run rfl (fun w hst => rfl)) (pk_cons rfl (yi_run rfl (fun w hst => x_load rfl Try.isAgg36 (hst.bc4 rfl))) (pk_cons rfl (yi_run rfl (fun w hst => x_field rfl Try.underlying39 rfl Try.sizeOf36 rfl)) pk_nil))) ?_
        refine ws_q (v := .agg #[.bool (t1486.1 == (0:Int)), v1496]) 7 [8, 9, 10, 11] (by kernel_rfl) rfl rfl (yi_run rfl (fun w hst => by obtain ⟨_, _, hv_, _⟩ := hst.sv0; rw [hv_]; kernel_rfl)) ?_
        refine ws_e1 8 (by kernel_rfl) ?_
        refine nxe [9, 10, 11] (by kernel_rfl) rfl rfl ?_
        clear hst
        intro w hst
        obtain ⟨I1500, hI1501, f1502, hst⟩ := hst.own_fix
        replace hI0 := hI0.trans hI1501
        replace hL1523 := hL1523.trans hI1501
        replace hL1480 := hL1480.trans hI1501
        obtain ⟨b1503, w1504, ew1505, eb1506, hst⟩ := hst.lits (E := ty_api_Got) (xs := [({ Has := (t1486.1 == (0:Int)), Val := t1491.1 } : api_Got)]) [[.bool (t1486.1 == (0:Int)), v1496]] 51 1 rfl (Reps.cons ⟨_, rfl, f1502, one_of_sliceV (ro_sliceV f1502)⟩ Reps.nil)
        refine we_run (v := (.slice (some ⟨b1503, 0, none⟩) 1 1)) (w' := w1504) rfl (x_als (by kernel_rfl) ew1505 eb1506) ?_
        refine ws_next (pend' := [(1, v1472), (0, .pointer (some ⟨b1365, 3, none⟩))]) hst (by kernel_rfl) (pk_cons rfl (yi_run rfl (fun w hst => x_load rfl Try.isAgg36 (hst.bc4 rfl))) (pk_cons rfl (yi_run rfl (fun w hst => x_field rfl Try.underlying39 rfl Try.sizeOf36 rfl)) pk_nil)) ?_
        refine ws_e1 9 (by kernel_rfl) ?_
        refine nxe [10, 11] (by kernel_rfl) rfl rfl ?_
        clear hst
        intro w hst
        obtain ⟨hg1508, hm⟩ := gd_some hm
        replace hst := hst.pull2
        obtain ⟨v1509, w1510, hr1511, hst⟩ := run_append elem_36 Try.underlying36 hst hst.src1 (room_of hg1508 rfl) 36
        refine we_run (v := v1509) (w' := w1510) rfl (x_append rfl rfl hr1511) ?_
        refine ws_next (pend' := []) hst (by kernel_rfl) pk_nil ?_
        refine ws_q (v := .pointer (some ⟨b1365, 3, none⟩)) 10 [11] (by kernel_rfl) rfl rfl (yi_run rfl (fun w hst => x_field rfl Try.underlying39 rfl Try.sizeOf36 rfl)) ?_
        refine ws_e1 11 (by kernel_rfl) ?_
        refine nxe [] (by kernel_rfl) rfl rfl ?_
        clear hst
        intro w hst
        replace hst := hst.pull4
        obtain ⟨w1512, hr1513, hst⟩ := hst.boxStore1 (P := Try.prog) (t := 36) (cs' := [.int .i64 z1366, .int .u64 z1367, .int .u64 z1368, v1509, (.slice none 0 0)]) 3 v1509 (one_of_sliceV hst.sv1) Try.sizeOf36 rfl rfl
        refine we_unit rfl (x_unit hr1513) ?_
        refine ws_next (pend' := []) hst (by kernel_rfl) pk_nil ?_
        refine ws_nil ?_
        intro w hst
        refine blk_n ?_
        refine then_n ?_
        refine wp_region_lit ?_
        refine wl_val (v := .int .i64 z1475) rfl rfl rfl ?_
        refine wl_val (v := .int .i64 (IntKind.i64.wrap (z1475 + (1:Int)))) rfl rfl rfl ?_
        refine wl_val (v := .int .i64 (IntKind.i64.wrap (z1475 + (1:Int)))) rfl rfl rfl ?_
        refine wl_nil ?_
        refine then_n ?_
        replace hst := hst.pull4
        replace hst := hst.pull4
        replace hst := hst.pull3
        replace hst := hst.keep4
        obtain rfl := some_inj hm
        exact ⟨_, Nat.lt_succ_self _, _, (z1471 ++ ([({ Has := (t1486.1 == (0:Int)), Val := t1491.1 } : api_Got)])), t1491.2, (IntKind.i64.wrap (z1475 + (1:Int))), v1509, _, hx1483, ((fr_upd (t := 0) (v := p0) rfl).trans ((fr_upd (t := 2) (v := .pointer (some ⟨b1254, 0, none⟩)) rfl).trans ((fr_upd (t := 4) (v := .pointer (some ⟨b1365, 0, none⟩)) rfl).trans ((fr_upd (t := 5) (v := .int .i64 t1374.1) rfl).trans ((fr_upd (t := 6) (v := .int .i64 (IntKind.i64.wrap (z1475 + (1:Int)))) rfl).trans rfl))))), hL1480, hst⟩
      · skip
        replace hm := bif_f hc1485 hm
        refine wp_iff (congrArg Value.bool hc1485) ?_
        refine wp_exit ?_
        refine then_x ?_
        refine then_x ?_
        replace hm := inr_up hm hx1483
        refine blk_x ?_
        refine then_n ?_
        replace hst := hst.pull3
        replace hst := hst.pull3
        replace hst := hst.pull3
        replace hst := hst.keep4
        obtain rfl := some_inj hm
        exact ⟨_, z1474, z1471, v1472, _, hx1522, ((fr_upd (t := 0) (v := p0) rfl).trans ((fr_upd (t := 2) (v := .pointer (some ⟨b1254, 0, none⟩)) rfl).trans ((fr_upd (t := 4) (v := .pointer (some ⟨b1365, 0, none⟩)) rfl).trans rfl))), hL1523, hst⟩
    · skip
      clear hst
      rintro _ w1524 ⟨I1518, z1514, z1517, v1516, σ1519, hm, rfl, hL1520, hst⟩
      dsimp only [ref13_OfReply_j1] at hm
      replace hI0 := hI0.trans hL1520
      refine wp_seq ?_
      refine wp_region_lit ?_
      refine wl_val (v := p0) rfl rfl rfl ?_
      obtain ⟨t1525, ht1526, hm⟩ := bind_some hm
      refine wl_call rfl rfl (x_call Try.call22 rfl (vs := [p0, .int .i64 (3:Int)]) rfl) ?_
      refine (ref12_Tape_Next_ref hst.to1 ht1526).mono ?_
      rintro _ w1527 ⟨rfl, hst⟩
      refine ⟨_, rfl, ?_⟩
      replace hst := hst.of1
      refine wl_val (v := .int .i64 (IntKind.i64.wrap (Int.tdiv t1525.1 (2:Int)))) rfl rfl (x_quo (by decide) rfl rfl) ?_
      refine wl_val (v := .int .i64 (IntKind.i64.wrap (Int.tdiv t1525.1 (2:Int)))) rfl rfl rfl ?_
      refine wl_nil ?_
      refine then_n ?_
      refine wp_seq ?_
      refine wp_seq ?_
      refine wp_region_lit ?_
      refine wl_val (v := .int .i64 (0:Int)) rfl rfl rfl ?_
      refine wl_nil ?_
      refine then_n ?_
      refine wp_block ?_
      replace hst := hst.own_nil (tySl ty_api_Pair)
      obtain ⟨n2022, hm⟩ := loopO_some hm
      refine wp_loop_n (fun n a w => ∃ (I2020 : HL) (z2015 : (List (List api_Pair))) (z2018 : ref12_Tape) (z2019 : Int) (v2016 : Value) (σ2021 : Nat → Value), loopN (ref13_OfReply_l3 t1525 z1366 z1367 z1368 z1517) n (z2015, z2018, z2019) = some r ∧ a = Fr 72 (upd (upd (upd (upd (upd σ2021 0 (p0)) 2 (.pointer (some ⟨b1254, 0, none⟩))) 4 (.pointer (some ⟨b1365, 0, none⟩))) 5 (.int .i64 (IntKind.i64.wrap (Int.tdiv t1525.1 (2:Int))))) 7 (.int .i64 z2019)) ∧ I1518.le I2020 ∧ St w0 w I2020 [ownS (tySl ty_api_Pair) v2016 z2015, at_ref12_Tape p0 z2018, cells b1254 [.int .i64 (0:Int), .int .u64 (0:Int), .int .u64 (0:Int), (.slice none 0 0), (.slice none 0 0)], cells b1365 [.int .i64 z1366, .int .u64 z1367, .int .u64 z1368, v1516, v2016], ownS ty_api_Got v1516 z1517] R) n2022 ⟨_, [], t1525.2, (0:Int), (.slice none 0 0), _, hm, ((fr_upd (t := 0) (v := p0) rfl).trans ((fr_upd (t := 2) (v := .pointer (some ⟨b1254, 0, none⟩)) rfl).trans ((fr_upd (t := 4) (v := .pointer (some ⟨b1365, 0, none⟩)) rfl).trans ((fr_upd (t := 5) (v := .int .i64 (IntKind.i64.wrap (Int.tdiv t1525.1 (2:Int)))) rfl).trans ((fr_upd (t := 7) (v := .int .i64 (0:Int)) rfl).trans rfl))))), (HL.le.refl _), hst⟩ ?_
      rintro n2028 _ w2023 ⟨I2020, z2015, z2018, z2019, v2016, σ2021, hm, rfl, hL2024, hst⟩
      obtain ⟨n2025, y2026, rfl, hm, hx2027⟩ := loopN_some hm
      dsimp only [ref13_OfReply_l3] at hm
      replace hI0 := hI0.trans hL2024
      refine wp_seq ?_
      refine wp_seq ?_
      refine wp_region_lit ?_
      refine wl_val (v := .int .i64 z2019) rfl rfl rfl ?_
      refine wl_val (v := .int .i64 (IntKind.i64.wrap (Int.tdiv t1525.1 (2:Int)))) rfl rfl rfl ?_
      refine wl_val (v := .bool (decide (z2019 < (IntKind.i64.wrap (Int.tdiv t1525.1 (2:Int)))))) rfl rfl rfl ?_
      refine wl_nil ?_
      refine then_n ?_
      refine bsplit (decide (z2019 < (IntKind.i64.wrap (Int.tdiv t1525.1 (2:Int))))) (fun hc2029 => ?_) (fun hc2029 => ?_)
      · skip
        replace hm := bif_t hc2029 hm
        refine wp_ift (congrArg Value.bool hc2029) ?_
        refine wp_skip ?_
        refine then_n ?_
        refine wp_seq ?_
        refine wp_block ?_
        refine wp_seq ?_
        refine wp_region_lit ?_
        refine wl_val (v := (.slice none 0 0)) rfl rfl rfl ?_
        refine wl_nil ?_
        refine then_n ?_
        refine wp_seq ?_
        refine wp_region_lit ?_
        refine wl_val (v := p0) rfl rfl rfl ?_
        replace hst := hst.pull1
        obtain ⟨t2031, ht2032, hm⟩ := bind_some hm
        refine wl_call rfl rfl (x_call Try.call22 rfl (vs := [p0, .int .i64 (3:Int)]) rfl) ?_
        refine (ref12_Tape_Next_ref hst.to1 ht2032).mono ?_
        rintro _ w2033 ⟨rfl, hst⟩
        refine ⟨_, rfl, ?_⟩
        replace hst := hst.of1
        refine wl_val (v := .int .i64 t2031.1) rfl rfl rfl ?_
        refine wl_nil ?_
        refine then_n ?_
        obtain ⟨y2170, hm, hx2171⟩ := bind_some hm
        refine wp_cut (fun a w => ∃ (I2167 : HL) (z2163 : ref12_Tape) (z2166 : (List api_Pair)) (v2165 : Value) (σ2168 : Nat → Value), (ref13_OfReply_j4 z2015 z2019) (z2163, z2166) = some y2026 ∧ a = Fr 72 (upd (upd (upd (upd (upd (upd σ2168 0 (p0)) 2 (.pointer (some ⟨b1254, 0, none⟩))) 4 (.pointer (some ⟨b1365, 0, none⟩))) 5 (.int .i64 (IntKind.i64.wrap (Int.tdiv t1525.1 (2:Int))))) 7 (.int .i64 z2019)) 8 (v2165)) ∧ I2020.le I2167 ∧ St w0 w I2167 [at_ref12_Tape p0 z2163, cells b1254 [.int .i64 (0:Int), .int .u64 (0:Int), .int .u64 (0:Int), (.slice none 0 0), (.slice none 0 0)], cells b1365 [.int .i64 z1366, .int .u64 z1367, .int .u64 z1368, v1516, v2016], ownS ty_api_Got v1516 z1517, ownS (tySl ty_api_Pair) v2016 z2015, ownS ty_api_Pair v2165 z2166] R) ?_ ?_
        · skip
          have hL2172 := HL.le.refl I2020
          refine wp_seq ?_
          refine wp_region_lit ?_
          refine wl_val (v := .int .i64 (0:Int)) rfl rfl rfl ?_
          refine wl_nil ?_
          refine then_n ?_
          refine wp_block ?_
          replace hst := hst.own_nil ty_api_Pair
          obtain ⟨n2129, hm⟩ := loopO_some hm
          refine wp_loop_n (fun n a w => ∃ (I2127 : HL) (z2122 : ref12_Tape) (z2123 : Int) (z2124 : (List api_Pair)) (v2125 : Value) (σ2128 : Nat → Value), loopN (ref13_OfReply_l5 t2031) n (z2122, z2123, z2124) = some y2170 ∧ a = Fr 72 (upd (upd (upd (upd (upd (upd (upd (upd σ2128 0 (p0)) 2 (.pointer (some ⟨b1254, 0, none⟩))) 4 (.pointer (some ⟨b1365, 0, none⟩))) 5 (.int .i64 (IntKind.i64.wrap (Int.tdiv t1525.1 (2:Int))))) 7 (.int .i64 z2019)) 8 (v2125)) 9 (.int .i64 t2031.1)) 10 (.int .i64 z2123)) ∧ I2020.le I2127 ∧ St w0 w I2127 [ownS ty_api_Pair v2125 z2124, at_ref12_Tape p0 z2122, ownS (tySl ty_api_Pair) v2016 z2015, cells b1254 [.int .i64 (0:Int), .int .u64 (0:Int), .int .u64 (0:Int), (.slice none 0 0), (.slice none 0 0)], cells b1365 [.int .i64 z1366, .int .u64 z1367, .int .u64 z1368, v1516, v2016], ownS ty_api_Got v1516 z1517] R) n2129 ⟨_, t2031.2, (0:Int), [], (.slice none 0 0), _, hm, ((fr_upd (t := 0) (v := p0) rfl).trans ((fr_upd (t := 2) (v := .pointer (some ⟨b1254, 0, none⟩)) rfl).trans ((fr_upd (t := 4) (v := .pointer (some ⟨b1365, 0, none⟩)) rfl).trans ((fr_upd (t := 5) (v := .int .i64 (IntKind.i64.wrap (Int.tdiv t1525.1 (2:Int)))) rfl).trans ((fr_upd (t := 7) (v := .int .i64 z2019) rfl).trans ((fr_upd (t := 8) (v := (.slice none 0 0)) rfl).trans ((fr_upd (t := 9) (v := .int .i64 t2031.1) rfl).trans ((fr_upd (t := 10) (v := .int .i64 (0:Int)) rfl).trans rfl)))))))), (HL.le.refl _), hst⟩ ?_
          rintro n2135 _ w2130 ⟨I2127, z2122, z2123, z2124, v2125, σ2128, hm, rfl, hL2131, hst⟩
          obtain ⟨n2132, y2133, rfl, hm, hx2134⟩ := loopN_some hm
          dsimp only [ref13_OfReply_l5] at hm
          replace hI0 := hI0.trans hL2131
          replace hL2024 := hL2024.trans hL2131
          replace hL2172 := hL2172.trans hL2131
          refine wp_seq ?_
          refine wp_seq ?_
          refine wp_region_lit ?_
          refine wl_val (v := .int .i64 z2123) rfl rfl rfl ?_
          refine wl_val (v := .int .i64 t2031.1) rfl rfl rfl ?_
          refine wl_val (v := .bool (decide (z2123 < t2031.1))) rfl rfl rfl ?_
          refine wl_nil ?_
          refine then_n ?_
          refine bsplit (decide (z2123 < t2031.1)) (fun hc2136 => ?_) (fun hc2136 => ?_)
          · skip
            replace hm := bif_t hc2136 hm
            refine wp_ift (congrArg Value.bool hc2136) ?_
            refine wp_skip ?_
            refine then_n ?_
            refine wp_seq ?_
            refine wp_block ?_
            refine wp_region_lit ?_
            refine wl_val (v := v2125) rfl rfl rfl ?_
            refine wl_val (v := p0) rfl rfl rfl ?_
            replace hst := hst.pull1
            obtain ⟨t2137, ht2138, hm⟩ := bind_some hm
            refine wl_call rfl rfl (x_call Try.call37 rfl (vs := [p0]) rfl) ?_
            refine (ref12_Tape_Float_ref hst.to1 ht2138).mono ?_
            rintro _ w2139 ⟨rfl, hst⟩
            refine ⟨_, rfl, ?_⟩
            replace hst := hst.of1
            refine wl_val (v := p0) rfl rfl rfl ?_
            obtain ⟨t2142, ht2143, hm⟩ := bind_some hm
            refine wl_call rfl rfl (x_call Try.call36 rfl (vs := [p0]) rfl) ?_
            refine (ref12_Tape_Val_ref hst.to1 ht2143).mono ?_
            rintro _ w2144 ⟨v2147, rfl, hst⟩
            refine ⟨_, rfl, ?_⟩
            replace hst := hst.of2
            refine wl_val (v := .agg #[.float .f64 t2137.1, v2147]) rfl rfl (by obtain ⟨_, _, hv_, _⟩ := hst.sv0; rw [hv_]; kernel_rfl) ?_
            obtain ⟨I2151, hI2152, f2153, hst⟩ := hst.own_fix
            replace hI0 := hI0.trans hI2152
            replace hL2024 := hL2024.trans hI2152
            replace hL2172 := hL2172.trans hI2152
            replace hL2131 := hL2131.trans hI2152
            obtain ⟨b2154, w2155, ew2156, eb2157, hst⟩ := hst.lits (E := ty_api_Pair) (xs := [({ At := t2137.1, Val := t2142.1 } : api_Pair)]) [[.float .f64 t2137.1, v2147]] 54 1 rfl (Reps.cons ⟨_, rfl, f2153, one_of_sliceV (ro_sliceV f2153)⟩ Reps.nil)
            refine wl_run (v := (.slice (some ⟨b2154, 0, none⟩) 1 1)) (w' := w2155) rfl rfl (x_als (by kernel_rfl) ew2156 eb2157) ?_
            obtain ⟨hg2159, hm⟩ := gd_some hm
            replace hst := hst.pull2
            obtain ⟨v2160, w2161, hr2162, hst⟩ := run_append elem_52 Try.underlying52 hst hst.src1 (room_of hg2159 rfl) 52
            refine wl_run (v := v2160) (w' := w2161) rfl rfl (x_append rfl rfl hr2162) ?_
            refine wl_val (v := v2160) rfl rfl rfl ?_
            refine wl_nil ?_
            refine blk_n ?_
            refine then_n ?_
            refine wp_region_lit ?_
            refine wl_val (v := .int .i64 z2123) rfl rfl rfl ?_
            refine wl_val (v := .int .i64 (IntKind.i64.wrap (z2123 + (1:Int)))) rfl rfl rfl ?_
            refine wl_val (v := .int .i64 (IntKind.i64.wrap (z2123 + (1:Int)))) rfl rfl rfl ?_
            refine wl_nil ?_
            refine then_n ?_
            replace hst := hst.pull6
            replace hst := hst.pull6
            replace hst := hst.pull6
            replace hst := hst.pull6
            replace hst := hst.pull6
            replace hst := hst.pull5
            replace hst := hst.keep6
            obtain rfl := some_inj hm
            exact ⟨_, Nat.lt_succ_self _, _, t2142.2, (IntKind.i64.wrap (z2123 + (1:Int))), (z2124 ++ ([({ At := t2137.1, Val := t2142.1 } : api_Pair)])), v2160, _, hx2134, ((fr_upd (t := 0) (v := p0) rfl).trans ((fr_upd (t := 2) (v := .pointer (some ⟨b1254, 0, none⟩)) rfl).trans ((fr_upd (t := 4) (v := .pointer (some ⟨b1365, 0, none⟩)) rfl).trans ((fr_upd (t := 5) (v := .int .i64 (IntKind.i64.wrap (Int.tdiv t1525.1 (2:Int)))) rfl).trans ((fr_upd (t := 7) (v := .int .i64 z2019) rfl).trans ((fr_upd (t := 8) (v := v2160) rfl).trans ((fr_upd (t := 9) (v := .int .i64 t2031.1) rfl).trans ((fr_upd (t := 10) (v := .int .i64 (IntKind.i64.wrap (z2123 + (1:Int)))) rfl).trans rfl)))))))), hL2131, hst⟩
          · skip
            replace hm := bif_f hc2136 hm
            refine wp_iff (congrArg Value.bool hc2136) ?_
            refine wp_exit ?_
            refine then_x ?_
            refine then_x ?_
            replace hm := inr_up hm hx2134
            refine blk_x ?_
            refine then_n ?_
            replace hst := hst.pull2
            replace hst := hst.pull5
            replace hst := hst.pull5
            replace hst := hst.pull5
            replace hst := hst.pull5
            replace hst := hst.keep6
            obtain rfl := some_inj hm
            exact ⟨_, z2122, z2124, v2125, _, hx2171, ((fr_upd (t := 0) (v := p0) rfl).trans ((fr_upd (t := 2) (v := .pointer (some ⟨b1254, 0, none⟩)) rfl).trans ((fr_upd (t := 4) (v := .pointer (some ⟨b1365, 0, none⟩)) rfl).trans ((fr_upd (t := 5) (v := .int .i64 (IntKind.i64.wrap (Int.tdiv t1525.1 (2:Int)))) rfl).trans ((fr_upd (t := 7) (v := .int .i64 z2019) rfl).trans ((fr_upd (t := 8) (v := v2125) rfl).trans rfl)))))), hL2172, hst⟩
        · skip
          clear hst
          rintro _ w2173 ⟨I2167, z2163, z2166, v2165, σ2168, hm, rfl, hL2169, hst⟩
          dsimp only [ref13_OfReply_j4] at hm
          replace hI0 := hI0.trans hL2169
          replace hL2024 := hL2024.trans hL2169
          refine wp_region_lit ?_
          refine wl_val (v := .pointer (some ⟨b1365, 4, none⟩)) rfl rfl (x_field rfl Try.underlying39 rfl Try.sizeOf37 rfl) ?_
          refine wl_val (v := v2016) rfl rfl (x_load rfl Try.isAgg37 (hst.bc2 rfl)) ?_
          refine wl_val (v := v2165) rfl rfl rfl ?_
          replace hst := hst.pull5
          obtain ⟨I2175, hI2176, f2177, hst⟩ := hst.own_fix
          replace hI0 := hI0.trans hI2176
          replace hL2024 := hL2024.trans hI2176
          obtain ⟨b2178, w2179, ew2180, eb2181, hst⟩ := hst.lits (E := (tySl ty_api_Pair)) (xs := [z2166]) [[v2165]] 52 1 rfl (Reps.cons ⟨_, rfl, f2177, one_of_sliceV (ro_sliceV f2177)⟩ Reps.nil)
          refine wl_run (v := (.slice (some ⟨b2178, 0, none⟩) 1 1)) (w' := w2179) rfl rfl (x_als (by obtain ⟨_, _, hv_, _⟩ := (ro_sliceV f2177); rw [hv_]; kernel_rfl) ew2180 eb2181) ?_
          obtain ⟨hg2183, hm⟩ := gd_some hm
          replace hst := hst.pull5
          obtain ⟨v2184, w2185, hr2186, hst⟩ := run_append elem_37 Try.underlying37 hst hst.src1 (room_of hg2183 rfl) 37
          refine wl_run (v := v2184) (w' := w2185) rfl rfl (x_append rfl rfl hr2186) ?_
          refine wl_val (v := .pointer (some ⟨b1365, 4, none⟩)) rfl rfl (x_field rfl Try.underlying39 rfl Try.sizeOf37 rfl) ?_
          replace hst := hst.pull4
          obtain ⟨w2187, hr2188, hst⟩ := hst.boxStore1 (P := Try.prog) (t := 37) (cs' := [.int .i64 z1366, .int .u64 z1367, .int .u64 z1368, v1516, v2184]) 4 v2184 (one_of_sliceV hst.sv1) Try.sizeOf37 rfl rfl
          refine wl_unit rfl rfl (x_unit hr2188) ?_
          refine wl_nil ?_
          refine blk_n ?_
          refine then_n ?_
          refine wp_region_lit ?_
          refine wl_val (v := .int .i64 z2019) rfl rfl rfl ?_
          refine wl_val (v := .int .i64 (IntKind.i64.wrap (z2019 + (1:Int)))) rfl rfl rfl ?_
          refine wl_val (v := .int .i64 (IntKind.i64.wrap (z2019 + (1:Int)))) rfl rfl rfl ?_
          refine wl_nil ?_
          refine then_n ?_
          replace hst := hst.pull5
          replace hst := hst.pull1
          replace hst := hst.pull5
          replace hst := hst.pull5
          replace hst := hst.pull4
          replace hst := hst.keep5
          obtain rfl := some_inj hm
          exact ⟨_, Nat.lt_succ_self _, _, (z2015 ++ ([z2166])), z2163, (IntKind.i64.wrap (z2019 + (1:Int))), v2184, _, hx2027, ((fr_upd (t := 0) (v := p0) rfl).trans ((fr_upd (t := 2) (v := .pointer (some ⟨b1254, 0, none⟩)) rfl).trans ((fr_upd (t := 4) (v := .pointer (some ⟨b1365, 0, none⟩)) rfl).trans ((fr_upd (t := 5) (v := .int .i64 (IntKind.i64.wrap (Int.tdiv t1525.1 (2:Int)))) rfl).trans ((fr_upd (t := 7) (v := .int .i64 (IntKind.i64.wrap (z2019 + (1:Int)))) rfl).trans rfl))))), hL2024, hst⟩
      · skip
        replace hm := bif_f hc2029 hm
        refine wp_iff (congrArg Value.bool hc2029) ?_
        refine wp_exit ?_
        refine then_x ?_
        refine then_x ?_
        replace hm := inr_up hm hx2027
        refine blk_x ?_
        refine then_n ?_
        refine wp_seq ?_
        refine wp_region_lit ?_
        refine wl_val (v := .agg #[.int .i64 z1366, .int .u64 z1367, .int .u64 z1368, v1516, v2016]) rfl rfl (x_loadN (cs := [.int .i64 z1366, .int .u64 z1367, .int .u64 z1368, v1516, v2016]) rfl Try.isAgg39 Try.sizeOf39 (hst.bcs3 0 rfl)) ?_
        replace hst := hst.pull2
        obtain ⟨w2189, hr2190, hst⟩ := hst.boxStore (P := Try.prog) (t := 39) (cs' := [.int .i64 z1366, .int .u64 z1367, .int .u64 z1368, v1516, v2016]) 0 (.agg #[.int .i64 z1366, .int .u64 z1367, .int .u64 z1368, v1516, v2016]) Try.sizeOf39 (Nat.le_of_ble_eq_true rfl) (ones_cons rfl (ones_cons rfl (ones_cons rfl (ones_cons (one_of_sliceV hst.sv4) (ones_cons (one_of_sliceV hst.sv1) ones_nil))))) (by kernel_rfl)
        refine wl_unit rfl rfl (x_unit hr2190) ?_
        refine wl_nil ?_
        refine then_n ?_
        refine wp_ret ?_
        obtain rfl := some_inj hm
        refine post_ret (vs := [.agg #[.int .i64 z1366, .int .u64 z1367, .int .u64 z1368, v1516, v2016]]) Try.results12 (rvs_cons (rv_cell (cs := [.int .i64 z1366, .int .u64 z1367, .int .u64 z1368, v1516, v2016]) rfl Try.isAgg39 Try.sizeOf39 (hst.bcs0 0 rfl)) rvs_nil) ?_
        replace hst := hst.pull2
        replace hst := hst.pull2
        replace hst := hst.pull4
        exact ⟨_, v1516, v2016, rfl, hI0, hst.keep3⟩

theorem octet_Read_ref {w0 w : World} {I : HL} {R : SP} {a0 : (List Int)} {r0_0 : Value} (f0_0 : Ro (tyInt .u8) I r0_0 a0) (hst : St w0 w I [] R) {r : (octet_Reader)} (hm : octet_Read a0 = some r) :
    Calls Try.prog 15 #[r0_0] w fun e w' => ∃ (q0 : Value), e = .returned (q0) ∧ St w0 w' I [at_octet_Reader q0 r] R := by
  unfold octet_Read at hm
  refine calls_start (args := [r0_0]) Try.func15 rfl Try.ntmps15 (Nat.le_of_ble_eq_true rfl) ?_
  refine wp_seq ?_
  refine wp_region_lit ?_
  refine wl_val (v := .pointer none) rfl rfl rfl ?_
  refine wl_nil ?_
  refine then_n ?_
  refine wp_seq ?_
  refine wp_region_lit ?_
  refine wl_val (v := r0_0) rfl rfl rfl ?_
  refine wl_val (v := .agg #[r0_0, .bool false]) rfl rfl (by obtain ⟨_, _, hv_, _⟩ := (ro_sliceV f0_0); rw [hv_]; kernel_rfl) ?_
  obtain ⟨b358, w359, ew360, eb361, hst⟩ := hst.box [r0_0, .bool false] 95
  refine wl_run (v := .pointer (some ⟨b358, 0, none⟩)) (w' := w359) rfl rfl (x_al (by kernel_rfl) ew360 eb361) ?_
  refine wl_val (v := .pointer (some ⟨b358, 0, none⟩)) rfl rfl rfl ?_
  refine wl_nil ?_
  refine then_n ?_
  refine wp_ret ?_
  replace hst := at_octet_Reader_close (pv := .pointer (some ⟨b358, 0, none⟩)) (x := ({ p := a0, bad := false } : octet_Reader)) hst ⟨rfl, f0_0⟩
  obtain rfl := some_inj hm
  refine post_ret (vs := [.pointer (some ⟨b358, 0, none⟩)]) Try.results15 (rvs_cons (rv_tmp rfl) rvs_nil) ?_
  exact ⟨.pointer (some ⟨b358, 0, none⟩), rfl, hst.keep1⟩

theorem octet_Reader_spoil_ref {w0 w : World} {I : HL} {R : SP} {a0 : octet_Reader} {p0 : Value}  (hst : St w0 w I [at_octet_Reader p0 a0] R) {r : (octet_Reader)} (hm : octet_Reader_spoil a0 = some r) :
    Calls Try.prog 66 #[p0] w fun e w' => e = .returned (.tuple #[]) ∧ St w0 w' I [at_octet_Reader p0 r] R := by
  unfold octet_Reader_spoil at hm
  refine calls_start (args := [p0]) Try.func66 rfl Try.ntmps66 (Nat.le_of_ble_eq_true rfl) ?_
  refine wp_seq ?_
  refine wp_region_lit ?_
  refine wl_val (v := p0) rfl rfl rfl ?_
  obtain ⟨b381, v382, ⟨rfl, f384⟩, hst'⟩ := at_octet_Reader_open hst
  clear hst
  have hst := hst'
  clear hst'
  refine wl_val (v := .bool true) rfl rfl (by kernel_rfl) ?_
  refine wl_nil ?_
  refine then_n ?_
  refine wp_ift rfl ?_
  refine wp_region_lit ?_
  refine wl_val (v := .pointer (some ⟨b381, 0, none⟩)) rfl rfl rfl ?_
  refine wl_val (v := .pointer (some ⟨b381, 0, none⟩)) rfl rfl rfl ?_
  refine wl_val (v := .pointer (some ⟨b381, 1, none⟩)) rfl rfl (x_field rfl Try.underlying95 rfl Try.sizeOf4 rfl) ?_
  obtain ⟨w385, hr386, hst⟩ := hst.boxStore (P := Try.prog) (t := 4) (cs' := [v382, .bool true]) 1 (.bool true) Try.sizeOf4 (Nat.le_of_ble_eq_true rfl) (ones_cons rfl ones_nil) (by kernel_rfl)
  refine wl_unit rfl rfl (x_unit hr386) ?_
  refine wl_nil ?_
  replace hst := at_octet_Reader_close (pv := .pointer (some ⟨b381, 0, none⟩)) (x := ({ p := a0.p, bad := true } : octet_Reader)) hst ⟨rfl, f384⟩
  obtain rfl := some_inj hm
  refine post_end (vs := []) Try.results66 rvs_nil ?_
  exact ⟨rfl, hst.keep1⟩

end Go.Proofs.Ytijcfglomdfglaa
