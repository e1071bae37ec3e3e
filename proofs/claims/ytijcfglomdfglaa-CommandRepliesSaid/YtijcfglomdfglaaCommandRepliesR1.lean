/- The Go functions refine their models, part 1. -/
import Derived.Test.YtijcfglomdfglaaCommandRepliesR0
set_option linter.unusedVariables false
set_option linter.unusedSimpArgs false
set_option maxRecDepth 100000
set_option maxHeartbeats 4000000
namespace Go.Proofs.Ytijcfglomdfglaa
open Go Go.V
attribute [local irreducible] wpList Code.wp wpQuiet Calls bodyPost Oper.wp wpS Nx PendOK YieldsIn
theorem octet_Reader_Num_ref {w0 w : World} {I : HL} {R : SP} {a0 : octet_Reader} {p0 : Value} {a1 : Int}  (hst : St w0 w I [at_octet_Reader p0 a0] R) {r : (Int × octet_Reader)} (hm : octet_Reader_Num a0 a1 = some r) :
    Calls Try.prog 40 #[p0, .int .i64 a1] w fun e w' => e = .returned (.int .u64 r.1) ∧ St w0 w' I [at_octet_Reader p0 r.2] R := by
  unfold octet_Reader_Num at hm
  refine calls_start (args := [p0, .int .i64 a1]) Try.func40 rfl Try.ntmps40 (Nat.le_of_ble_eq_true rfl) ?_
  refine wp_seq ?_
  refine wp_region_lit ?_
  refine wl_val (v := .int .u64 (0:Int)) rfl rfl rfl ?_
  refine wl_nil ?_
  refine then_n ?_
  refine wp_seq ?_
  refine wp_seq ?_
  refine wp_region_lit ?_
  refine wl_val (v := p0) rfl rfl rfl ?_
  obtain ⟨b458, v459, ⟨rfl, f461⟩, hst'⟩ := at_octet_Reader_open hst
  clear hst
  have hst := hst'
  clear hst'
  refine wl_val (v := .bool false) rfl rfl (by kernel_rfl) ?_
  refine wl_val (v := .bool false) rfl rfl rfl ?_
  refine wl_val (v := .pointer (some ⟨b458, 0, none⟩)) ((wanted_eq rfl rfl rfl rfl).trans rfl) rfl rfl ?_
  refine wl_val (v := .pointer (some ⟨b458, 0, none⟩)) ((wanted_eq rfl rfl rfl rfl).trans rfl) rfl rfl ?_
  refine wl_val (v := .pointer (some ⟨b458, 1, none⟩)) ((wanted_eq rfl rfl rfl rfl).trans rfl) rfl (x_field rfl Try.underlying95 rfl Try.sizeOf4 rfl) ?_
  refine wl_val (v := .bool a0.bad) ((wanted_eq rfl rfl rfl rfl).trans rfl) rfl (x_load rfl Try.isAgg4 (hst.bc0 rfl)) ?_
  refine wl_val (v := .bool a0.bad) rfl rfl (x_pick_f rfl rfl rfl) ?_
  refine wl_val (v := .bool a0.bad) rfl rfl rfl ?_
  refine bsplit a0.bad (fun hc462 => ?_) (fun hc462 => ?_)
  · skip
    replace hm := bif_t hc462 hm
    refine wl_off ((wanted_eq rfl rfl rfl (congrArg Value.bool hc462)).trans rfl) rfl ?_
    refine wl_off ((wanted_eq rfl rfl rfl (congrArg Value.bool hc462)).trans rfl) rfl ?_
    refine wl_val (v := .bool true) rfl rfl (x_pick_t hc462 rfl rfl) ?_
    refine wl_val (v := .bool true) rfl rfl rfl ?_
    refine wl_off ((wanted_eq rfl rfl rfl rfl).trans rfl) rfl ?_
    refine wl_off ((wanted_eq rfl rfl rfl rfl).trans rfl) rfl ?_
    refine wl_off ((wanted_eq rfl rfl rfl rfl).trans rfl) rfl ?_
    refine wl_off ((wanted_eq rfl rfl rfl rfl).trans rfl) rfl ?_
    refine wl_off ((wanted_eq rfl rfl rfl rfl).trans rfl) rfl ?_
    refine wl_off ((wanted_eq rfl rfl rfl rfl).trans rfl) rfl ?_
    refine wl_off ((wanted_eq rfl rfl rfl rfl).trans rfl) rfl ?_
    refine wl_val (v := .bool true) rfl rfl (x_pick_t rfl rfl rfl) ?_
    refine wl_nil ?_
    refine then_n ?_
    refine wp_ift rfl ?_
    refine wp_seq ?_
    refine wp_region_lit ?_
    refine wl_val (v := .pointer (some ⟨b458, 0, none⟩)) rfl rfl rfl ?_
    replace hst := at_octet_Reader_close (pv := .pointer (some ⟨b458, 0, none⟩)) (x := a0) hst ⟨rfl, f461⟩
    obtain ⟨t463, ht464, hm⟩ := bind_some hm
    refine wl_call rfl rfl (x_call Try.call66 rfl (vs := [.pointer (some ⟨b458, 0, none⟩)]) rfl) ?_
    refine (octet_Reader_spoil_ref hst.to1 ht464).mono ?_
    rintro _ w465 ⟨rfl, hst⟩
    refine ⟨_, rfl, ?_⟩
    replace hst := hst.of1
    refine wl_nil ?_
    refine then_n ?_
    refine wp_seq ?_
    refine wp_region_lit ?_
    refine wl_val (v := .int .u64 (0:Int)) rfl rfl rfl ?_
    refine wl_nil ?_
    refine then_n ?_
    refine wp_ret ?_
    refine then_r ?_
    obtain rfl := some_inj hm
    refine post_ret (vs := [.int .u64 (0:Int)]) Try.results40 (rvs_cons (rv_tmp rfl) rvs_nil) ?_
    exact ⟨rfl, hst.keep1⟩
  · skip
    replace hm := bif_f hc462 hm
    refine wl_val (v := .int .i64 a1) ((wanted_eq rfl rfl rfl (congrArg Value.bool hc462)).trans rfl) rfl rfl ?_
    refine wl_val (v := .bool (decide (a1 < (0:Int)))) ((wanted_eq rfl rfl rfl (congrArg Value.bool hc462)).trans rfl) rfl rfl ?_
    refine wl_val (v := .bool (decide (a1 < (0:Int)))) rfl rfl (x_pick_f hc462 rfl rfl) ?_
    refine wl_val (v := .bool (decide (a1 < (0:Int)))) rfl rfl rfl ?_
    refine bsplit (decide (a1 < (0:Int))) (fun hc468 => ?_) (fun hc468 => ?_)
    · skip
      replace hm := bif_t hc468 hm
      refine wl_off ((wanted_eq rfl rfl rfl (congrArg Value.bool hc468)).trans rfl) rfl ?_
      refine wl_off ((wanted_eq rfl rfl rfl (congrArg Value.bool hc468)).trans rfl) rfl ?_
      refine wl_off ((wanted_eq rfl rfl rfl (congrArg Value.bool hc468)).trans rfl) rfl ?_
      refine wl_off ((wanted_eq rfl rfl rfl (congrArg Value.bool hc468)).trans rfl) rfl ?_
      refine wl_off ((wanted_eq rfl rfl rfl (congrArg Value.bool hc468)).trans rfl) rfl ?_
      refine wl_off ((wanted_eq rfl rfl rfl (congrArg Value.bool hc468)).trans rfl) rfl ?_
      refine wl_off ((wanted_eq rfl rfl rfl (congrArg Value.bool hc468)).trans rfl) rfl ?_
      refine wl_val (v := .bool true) rfl rfl (x_pick_t hc468 rfl rfl) ?_
      refine wl_nil ?_
      refine then_n ?_
      refine wp_ift rfl ?_
      refine wp_seq ?_
      refine wp_region_lit ?_
      refine wl_val (v := .pointer (some ⟨b458, 0, none⟩)) rfl rfl rfl ?_
      replace hst := at_octet_Reader_close (pv := .pointer (some ⟨b458, 0, none⟩)) (x := a0) hst ⟨rfl, f461⟩
      obtain ⟨t469, ht470, hm⟩ := bind_some hm
      refine wl_call rfl rfl (x_call Try.call66 rfl (vs := [.pointer (some ⟨b458, 0, none⟩)]) rfl) ?_
      refine (octet_Reader_spoil_ref hst.to1 ht470).mono ?_
      rintro _ w471 ⟨rfl, hst⟩
      refine ⟨_, rfl, ?_⟩
      replace hst := hst.of1
      refine wl_nil ?_
      refine then_n ?_
      refine wp_seq ?_
      refine wp_region_lit ?_
      refine wl_val (v := .int .u64 (0:Int)) rfl rfl rfl ?_
      refine wl_nil ?_
      refine then_n ?_
      refine wp_ret ?_
      refine then_r ?_
      obtain rfl := some_inj hm
      refine post_ret (vs := [.int .u64 (0:Int)]) Try.results40 (rvs_cons (rv_tmp rfl) rvs_nil) ?_
      exact ⟨rfl, hst.keep1⟩
    · skip
      replace hm := bif_f hc468 hm
      refine wl_val (v := .pointer (some ⟨b458, 0, none⟩)) ((wanted_eq rfl rfl rfl (congrArg Value.bool hc468)).trans rfl) rfl rfl ?_
      refine wl_val (v := .pointer (some ⟨b458, 0, none⟩)) ((wanted_eq rfl rfl rfl (congrArg Value.bool hc468)).trans rfl) rfl rfl ?_
      refine wl_val (v := .pointer (some ⟨b458, 0, none⟩)) ((wanted_eq rfl rfl rfl (congrArg Value.bool hc468)).trans rfl) rfl (x_field rfl Try.underlying95 rfl Try.sizeOf22 rfl) ?_
      refine wl_val (v := v459) ((wanted_eq rfl rfl rfl (congrArg Value.bool hc468)).trans rfl) rfl (x_load rfl Try.isAgg22 (hst.bc0 rfl)) ?_
      refine wl_val (v := .int .i64 ((a0.p).length : Int)) ((wanted_eq rfl rfl rfl (congrArg Value.bool hc468)).trans rfl) rfl (x_len rfl Try.underlying22 (ro_sliceV f461)) ?_
      refine wl_val (v := .int .i64 a1) ((wanted_eq rfl rfl rfl (congrArg Value.bool hc468)).trans rfl) rfl rfl ?_
      refine wl_val (v := .bool (decide (((a0.p).length : Int) < a1))) ((wanted_eq rfl rfl rfl (congrArg Value.bool hc468)).trans rfl) rfl rfl ?_
      refine wl_val (v := .bool (decide (((a0.p).length : Int) < a1))) rfl rfl (x_pick_f hc468 rfl rfl) ?_
      refine wl_nil ?_
      refine then_n ?_
      refine bsplit (decide (((a0.p).length : Int) < a1)) (fun hc474 => ?_) (fun hc474 => ?_)
      · skip
        replace hm := bif_t hc474 hm
        refine wp_ift (congrArg Value.bool hc474) ?_
        refine wp_seq ?_
        refine wp_region_lit ?_
        refine wl_val (v := .pointer (some ⟨b458, 0, none⟩)) rfl rfl rfl ?_
        replace hst := at_octet_Reader_close (pv := .pointer (some ⟨b458, 0, none⟩)) (x := a0) hst ⟨rfl, f461⟩
        obtain ⟨t475, ht476, hm⟩ := bind_some hm
        refine wl_call rfl rfl (x_call Try.call66 rfl (vs := [.pointer (some ⟨b458, 0, none⟩)]) rfl) ?_
        refine (octet_Reader_spoil_ref hst.to1 ht476).mono ?_
        rintro _ w477 ⟨rfl, hst⟩
        refine ⟨_, rfl, ?_⟩
        replace hst := hst.of1
        refine wl_nil ?_
        refine then_n ?_
        refine wp_seq ?_
        refine wp_region_lit ?_
        refine wl_val (v := .int .u64 (0:Int)) rfl rfl rfl ?_
        refine wl_nil ?_
        refine then_n ?_
        refine wp_ret ?_
        refine then_r ?_
        obtain rfl := some_inj hm
        refine post_ret (vs := [.int .u64 (0:Int)]) Try.results40 (rvs_cons (rv_tmp rfl) rvs_nil) ?_
        exact ⟨rfl, hst.keep1⟩
      · skip
        replace hm := bif_f hc474 hm
        refine wp_iff (congrArg Value.bool hc474) ?_
        refine wp_skip ?_
        refine then_n ?_
        refine wp_seq ?_
        refine wp_region_lit ?_
        refine wl_val (v := .int .u64 (0:Int)) rfl rfl rfl ?_
        refine wl_nil ?_
        refine then_n ?_
        obtain ⟨y531, hm, hx532⟩ := bind_some hm
        refine wp_cut (fun a w => ∃ (z528 : Int) (σ529 : Nat → Value), (octet_Reader_Num_j0 a0 a1) z528 = some r ∧ a = Fr 59 (upd (upd (upd σ529 0 (.pointer (some ⟨b458, 0, none⟩))) 1 (.int .i64 a1)) 5 (.int .u64 z528)) ∧ St w0 w I [at_octet_Reader (.pointer (some ⟨b458, 0, none⟩)) a0] R) ?_ ?_
        · skip
          refine wp_seq ?_
          refine wp_region_lit ?_
          refine wl_val (v := .int .i64 a1) rfl rfl rfl ?_
          refine wl_val (v := .int .i64 (if (8:Int) < a1 then (8:Int) else a1)) rfl rfl (by kernel_rfl) ?_
          refine wl_val (v := .int .i64 (0:Int)) rfl rfl rfl ?_
          refine wl_nil ?_
          refine then_n ?_
          refine wp_block ?_
          replace hst := at_octet_Reader_close (pv := .pointer (some ⟨b458, 0, none⟩)) (x := a0) hst ⟨rfl, f461⟩
          obtain ⟨n509, hm⟩ := loopO_some hm
          refine wp_loop_n (fun n a w => ∃ (z506 : Int) (z507 : Int) (σ508 : Nat → Value), loopN (octet_Reader_Num_l1 a1 a0) n (z506, z507) = some y531 ∧ a = Fr 59 (upd (upd (upd (upd (upd σ508 0 (.pointer (some ⟨b458, 0, none⟩))) 1 (.int .i64 a1)) 5 (.int .u64 z507)) 31 (.int .i64 (if (8:Int) < a1 then (8:Int) else a1))) 32 (.int .i64 z506)) ∧ St w0 w I [at_octet_Reader (.pointer (some ⟨b458, 0, none⟩)) a0] R) n509 ⟨(0:Int), (0:Int), _, hm, ((fr_upd (t := 0) (v := .pointer (some ⟨b458, 0, none⟩)) rfl).trans ((fr_upd (t := 1) (v := .int .i64 a1) rfl).trans ((fr_upd (t := 5) (v := .int .u64 (0:Int)) rfl).trans ((fr_upd (t := 31) (v := .int .i64 (if (8:Int) < a1 then (8:Int) else a1)) rfl).trans ((fr_upd (t := 32) (v := .int .i64 (0:Int)) rfl).trans rfl))))), hst⟩ ?_
          rintro n515 _ w510 ⟨z506, z507, σ508, hm, rfl, hst⟩
          obtain ⟨n512, y513, rfl, hm, hx514⟩ := loopN_some hm
          dsimp only [octet_Reader_Num_l1] at hm
          refine wp_seq ?_
          refine wp_region_lit ?_
          refine wl_val (v := .bool (decide (z506 < (if (8:Int) < a1 then (8:Int) else a1)))) rfl rfl rfl ?_
          refine wl_nil ?_
          refine then_n ?_
          refine wp_seq ?_
          refine bsplit (decide (z506 < (if (8:Int) < a1 then (8:Int) else a1))) (fun hc516 => ?_) (fun hc516 => ?_)
          · skip
            replace hm := bif_t hc516 hm
            refine wp_ift (congrArg Value.bool hc516) ?_
            refine wp_skip ?_
            refine then_n ?_
            refine wp_seq ?_
            refine wp_block ?_
            refine wp_seq ?_
            refine wp_region_lit ?_
            refine wl_val (v := .int .i64 z506) rfl rfl rfl ?_
            refine wl_val (v := .int .i64 z506) rfl rfl rfl ?_
            refine wl_nil ?_
            refine then_n ?_
            refine wp_region_lit ?_
            refine wl_val (v := .int .u64 z507) rfl rfl rfl ?_
            refine wl_val (v := .pointer (some ⟨b458, 0, none⟩)) rfl rfl rfl ?_
            obtain ⟨b517, v518, ⟨e521, f520⟩, hst'⟩ := at_octet_Reader_open hst
            clear hst
            have e521 := ptr_inj e521
            subst e521
            have hst := hst'
            clear hst'
            refine wl_val (v := .pointer (some ⟨b458, 0, none⟩)) rfl rfl rfl ?_
            refine wl_val (v := .pointer (some ⟨b458, 0, none⟩)) rfl rfl (x_field rfl Try.underlying95 rfl Try.sizeOf22 rfl) ?_
            refine wl_val (v := v518) rfl rfl (x_load rfl Try.isAgg22 (hst.bc0 rfl)) ?_
            refine wl_val (v := .int .i64 z506) rfl rfl rfl ?_
            obtain ⟨x522, hx523, hm⟩ := bind_some hm
            obtain ⟨h524, h525, hi526⟩ := geto_some hx523
            refine wl_val (v := .pointer (some (eAddr v518 (z506.toNat * 1 + 0)))) rfl rfl (x_index rfl rfl Try.underlying22 Try.sizeOf5 (ro_sliceV f520) h524 h525) ?_
            refine wl_val (v := .int .u8 x522) rfl rfl (x_load rfl Try.isAgg5 (ro_load f520 hst hi526 (by rintro _ rfl; rfl))) ?_
            refine wl_val (v := .int .u64 (IntKind.u64.wrap x522)) rfl rfl (by kernel_rfl) ?_
            refine wl_val (v := .int .i64 z506) rfl rfl rfl ?_
            refine wl_val (v := .int .i64 (IntKind.i64.wrap ((8:Int) * z506))) rfl rfl rfl ?_
            obtain ⟨hg527, hm⟩ := gd_some hm
            refine wl_val (v := .int .u64 (iShl .u64 (IntKind.u64.wrap x522) (IntKind.i64.wrap ((8:Int) * z506)))) rfl rfl (x_shl (of_decide_eq_true hg527) rfl rfl) ?_
            refine wl_val (v := .int .u64 (bOr .u64 z507 (iShl .u64 (IntKind.u64.wrap x522) (IntKind.i64.wrap ((8:Int) * z506))))) rfl rfl rfl ?_
            refine wl_val (v := .int .u64 (bOr .u64 z507 (iShl .u64 (IntKind.u64.wrap x522) (IntKind.i64.wrap ((8:Int) * z506))))) rfl rfl rfl ?_
            refine wl_nil ?_
            refine blk_n ?_
            refine then_n ?_
            refine wp_region_lit ?_
            refine wl_val (v := .int .i64 (IntKind.i64.wrap (z506 + (1:Int)))) rfl rfl rfl ?_
            refine wl_val (v := .int .i64 (IntKind.i64.wrap (z506 + (1:Int)))) rfl rfl rfl ?_
            refine wl_nil ?_
            refine then_n ?_
            replace hst := at_octet_Reader_close (pv := .pointer (some ⟨b458, 0, none⟩)) (x := a0) hst ⟨rfl, f520⟩
            replace hst := hst.keep1
            obtain rfl := some_inj hm
            exact ⟨_, Nat.lt_succ_self _, (IntKind.i64.wrap (z506 + (1:Int))), (bOr .u64 z507 (iShl .u64 (IntKind.u64.wrap x522) (IntKind.i64.wrap ((8:Int) * z506)))), _, hx514, ((fr_upd (t := 0) (v := .pointer (some ⟨b458, 0, none⟩)) rfl).trans ((fr_upd (t := 1) (v := .int .i64 a1) rfl).trans ((fr_upd (t := 5) (v := .int .u64 (bOr .u64 z507 (iShl .u64 (IntKind.u64.wrap x522) (IntKind.i64.wrap ((8:Int) * z506))))) rfl).trans ((fr_upd (t := 31) (v := .int .i64 (if (8:Int) < a1 then (8:Int) else a1)) rfl).trans ((fr_upd (t := 32) (v := .int .i64 (IntKind.i64.wrap (z506 + (1:Int)))) rfl).trans rfl))))), hst⟩
          · skip
            replace hm := bif_f hc516 hm
            refine wp_iff (congrArg Value.bool hc516) ?_
            refine wp_exit ?_
            refine then_x ?_
            refine then_x ?_
            replace hm := inr_up hm hx514
            refine blk_x ?_
            refine then_n ?_
            replace hst := hst.keep1
            obtain rfl := some_inj hm
            exact ⟨z507, _, hx532, ((fr_upd (t := 0) (v := .pointer (some ⟨b458, 0, none⟩)) rfl).trans ((fr_upd (t := 1) (v := .int .i64 a1) rfl).trans ((fr_upd (t := 5) (v := .int .u64 z507) rfl).trans rfl))), hst⟩
        · skip
          clear hst
          rintro _ w533 ⟨z528, σ529, hm, rfl, hst⟩
          dsimp only [octet_Reader_Num_j0] at hm
          refine wp_seq ?_
          refine wp_region_lit ?_
          refine wl_val (v := .pointer (some ⟨b458, 0, none⟩)) rfl rfl rfl ?_
          refine wl_val (v := .pointer (some ⟨b458, 0, none⟩)) rfl rfl rfl ?_
          obtain ⟨b534, v535, ⟨e538, f537⟩, hst'⟩ := at_octet_Reader_open hst
          clear hst
          have e538 := ptr_inj e538
          subst e538
          have hst := hst'
          clear hst'
          refine wl_val (v := .pointer (some ⟨b458, 0, none⟩)) rfl rfl rfl ?_
          refine wl_val (v := .pointer (some ⟨b458, 0, none⟩)) rfl rfl (x_field rfl Try.underlying95 rfl Try.sizeOf22 rfl) ?_
          refine wl_val (v := v535) rfl rfl (x_load rfl Try.isAgg22 (hst.bc0 rfl)) ?_
          refine wl_val (v := .int .i64 a1) rfl rfl rfl ?_
          obtain ⟨hg539, hm⟩ := gd_some hm
          obtain ⟨h540, h541, h542⟩ := fits_of hg539
          have f544 : Ro (tyInt .u8) I (slcV 1 v535 a1.toNat (((a0.p).length : Nat) : Int).toNat) (subs a0.p a1 (((a0.p).length : Nat) : Int)) := Ro.part f537 h541 h542 h540
          refine wl_val (v := (slcV 1 v535 a1.toNat (((a0.p).length : Nat) : Int).toNat)) rfl rfl (x_slice Try.underlying22 Try.sizeOf5 rfl (ro_sliceV f537) h540 h541 h542 .i64 .i64 (.inl rfl) (.inr ⟨rfl, rfl⟩)) ?_
          refine wl_val (v := .pointer (some ⟨b458, 0, none⟩)) rfl rfl rfl ?_
          refine wl_val (v := .pointer (some ⟨b458, 0, none⟩)) rfl rfl (x_field rfl Try.underlying95 rfl Try.sizeOf22 rfl) ?_
          obtain ⟨w545, hr546, hst⟩ := hst.boxStore1 (P := Try.prog) (t := 22) (cs' := [(slcV 1 v535 a1.toNat (((a0.p).length : Nat) : Int).toNat), .bool a0.bad]) 0 (slcV 1 v535 a1.toNat (((a0.p).length : Nat) : Int).toNat) (one_of_sliceV (ro_sliceV f544)) Try.sizeOf22 rfl rfl
          refine wl_unit rfl rfl (x_unit hr546) ?_
          refine wl_nil ?_
          refine then_n ?_
          refine wp_seq ?_
          refine wp_region_lit ?_
          refine wl_val (v := .int .u64 z528) rfl rfl rfl ?_
          refine wl_val (v := .int .u64 z528) rfl rfl rfl ?_
          refine wl_nil ?_
          refine then_n ?_
          refine wp_ret ?_
          replace hst := at_octet_Reader_close (pv := .pointer (some ⟨b458, 0, none⟩)) (x := ({ p := (subs a0.p a1 (((a0.p).length : Nat) : Int)), bad := a0.bad } : octet_Reader)) hst ⟨rfl, f544⟩
          obtain rfl := some_inj hm
          refine post_ret (vs := [.int .u64 z528]) Try.results40 (rvs_cons (rv_tmp rfl) rvs_nil) ?_
          exact ⟨rfl, hst.keep1⟩

theorem octet_Reader_Count_ref {w0 w : World} {I : HL} {R : SP} {a0 : octet_Reader} {p0 : Value} {a1 : Int}  (hst : St w0 w I [at_octet_Reader p0 a0] R) {r : (Int × octet_Reader)} (hm : octet_Reader_Count a0 a1 = some r) :
    Calls Try.prog 41 #[p0, .int .i64 a1] w fun e w' => e = .returned (.int .i64 r.1) ∧ St w0 w' I [at_octet_Reader p0 r.2] R := by
  unfold octet_Reader_Count at hm
  refine calls_start (args := [p0, .int .i64 a1]) Try.func41 rfl Try.ntmps41 (Nat.le_of_ble_eq_true rfl) ?_
  refine wp_seq ?_
  refine wp_region_lit ?_
  refine wl_val (v := .int .i64 (0:Int)) rfl rfl rfl ?_
  refine wl_nil ?_
  refine then_n ?_
  refine wp_seq ?_
  refine wp_region_lit ?_
  refine wl_val (v := p0) rfl rfl rfl ?_
  obtain ⟨t412, ht413, hm⟩ := bind_some hm
  refine wl_call rfl rfl (x_call Try.call40 rfl (vs := [p0, .int .i64 (4:Int)]) rfl) ?_
  refine (octet_Reader_Num_ref hst.to1 ht413).mono ?_
  rintro _ w414 ⟨rfl, hst⟩
  refine ⟨_, rfl, ?_⟩
  replace hst := hst.of1
  refine wl_val (v := .int .u64 t412.1) rfl rfl rfl ?_
  refine wl_nil ?_
  refine then_n ?_
  refine wp_seq ?_
  refine wp_seq ?_
  refine wp_region_lit ?_
  refine wl_val (v := .int .i64 a1) rfl rfl rfl ?_
  refine wl_val (v := .bool (decide (a1 < (0:Int)))) rfl rfl rfl ?_
  refine wl_val (v := .bool (decide (a1 < (0:Int)))) rfl rfl rfl ?_
  refine bsplit (decide (a1 < (0:Int))) (fun hc417 => ?_) (fun hc417 => ?_)
  · skip
    replace hm := bif_t hc417 hm
    refine wl_off ((wanted_eq rfl rfl rfl (congrArg Value.bool hc417)).trans rfl) rfl ?_
    refine wl_off ((wanted_eq rfl rfl rfl (congrArg Value.bool hc417)).trans rfl) rfl ?_
    refine wl_off ((wanted_eq rfl rfl rfl (congrArg Value.bool hc417)).trans rfl) rfl ?_
    refine wl_off ((wanted_eq rfl rfl rfl (congrArg Value.bool hc417)).trans rfl) rfl ?_
    refine wl_val (v := .bool true) rfl rfl (x_pick_t hc417 rfl rfl) ?_
    refine wl_nil ?_
    refine then_n ?_
    refine wp_ift rfl ?_
    refine wp_seq ?_
    refine wp_region_lit ?_
    refine wl_val (v := p0) rfl rfl rfl ?_
    obtain ⟨t418, ht419, hm⟩ := bind_some hm
    refine wl_call rfl rfl (x_call Try.call66 rfl (vs := [p0]) rfl) ?_
    refine (octet_Reader_spoil_ref hst.to1 ht419).mono ?_
    rintro _ w420 ⟨rfl, hst⟩
    refine ⟨_, rfl, ?_⟩
    replace hst := hst.of1
    refine wl_nil ?_
    refine then_n ?_
    refine wp_seq ?_
    refine wp_region_lit ?_
    refine wl_val (v := .int .i64 (0:Int)) rfl rfl rfl ?_
    refine wl_nil ?_
    refine then_n ?_
    refine wp_ret ?_
    refine then_r ?_
    obtain rfl := some_inj hm
    refine post_ret (vs := [.int .i64 (0:Int)]) Try.results41 (rvs_cons (rv_tmp rfl) rvs_nil) ?_
    exact ⟨rfl, hst.keep1⟩
  · skip
    replace hm := bif_f hc417 hm
    refine wl_val (v := .int .u64 t412.1) ((wanted_eq rfl rfl rfl (congrArg Value.bool hc417)).trans rfl) rfl rfl ?_
    refine wl_val (v := .int .i64 a1) ((wanted_eq rfl rfl rfl (congrArg Value.bool hc417)).trans rfl) rfl rfl ?_
    refine wl_val (v := .int .u64 (IntKind.u64.wrap a1)) ((wanted_eq rfl rfl rfl (congrArg Value.bool hc417)).trans rfl) rfl (by kernel_rfl) ?_
    refine wl_val (v := .bool (decide (t412.1 > (IntKind.u64.wrap a1)))) ((wanted_eq rfl rfl rfl (congrArg Value.bool hc417)).trans rfl) rfl rfl ?_
    refine wl_val (v := .bool (decide (t412.1 > (IntKind.u64.wrap a1)))) rfl rfl (x_pick_f hc417 rfl rfl) ?_
    refine wl_nil ?_
    refine then_n ?_
    refine bsplit (decide (t412.1 > (IntKind.u64.wrap a1))) (fun hc423 => ?_) (fun hc423 => ?_)
    · skip
      replace hm := bif_t hc423 hm
      refine wp_ift (congrArg Value.bool hc423) ?_
      refine wp_seq ?_
      refine wp_region_lit ?_
      refine wl_val (v := p0) rfl rfl rfl ?_
      obtain ⟨t424, ht425, hm⟩ := bind_some hm
      refine wl_call rfl rfl (x_call Try.call66 rfl (vs := [p0]) rfl) ?_
      refine (octet_Reader_spoil_ref hst.to1 ht425).mono ?_
      rintro _ w426 ⟨rfl, hst⟩
      refine ⟨_, rfl, ?_⟩
      replace hst := hst.of1
      refine wl_nil ?_
      refine then_n ?_
      refine wp_seq ?_
      refine wp_region_lit ?_
      refine wl_val (v := .int .i64 (0:Int)) rfl rfl rfl ?_
      refine wl_nil ?_
      refine then_n ?_
      refine wp_ret ?_
      refine then_r ?_
      obtain rfl := some_inj hm
      refine post_ret (vs := [.int .i64 (0:Int)]) Try.results41 (rvs_cons (rv_tmp rfl) rvs_nil) ?_
      exact ⟨rfl, hst.keep1⟩
    · skip
      replace hm := bif_f hc423 hm
      refine wp_iff (congrArg Value.bool hc423) ?_
      refine wp_skip ?_
      refine then_n ?_
      refine wp_seq ?_
      refine wp_region_lit ?_
      refine wl_val (v := .int .u64 t412.1) rfl rfl rfl ?_
      refine wl_val (v := .int .i64 (IntKind.i64.wrap t412.1)) rfl rfl (by kernel_rfl) ?_
      refine wl_val (v := .int .i64 (IntKind.i64.wrap t412.1)) rfl rfl rfl ?_
      refine wl_nil ?_
      refine then_n ?_
      refine wp_ret ?_
      obtain rfl := some_inj hm
      refine post_ret (vs := [.int .i64 (IntKind.i64.wrap t412.1)]) Try.results41 (rvs_cons (rv_tmp rfl) rvs_nil) ?_
      exact ⟨rfl, hst.keep1⟩

theorem octet_Reader_Flag_ref {w0 w : World} {I : HL} {R : SP} {a0 : octet_Reader} {p0 : Value}  (hst : St w0 w I [at_octet_Reader p0 a0] R) {r : (Bool × octet_Reader)} (hm : octet_Reader_Flag a0 = some r) :
    Calls Try.prog 42 #[p0] w fun e w' => e = .returned (.bool r.1) ∧ St w0 w' I [at_octet_Reader p0 r.2] R := by
  unfold octet_Reader_Flag at hm
  refine calls_start (args := [p0]) Try.func42 rfl Try.ntmps42 (Nat.le_of_ble_eq_true rfl) ?_
  refine wp_seq ?_
  refine wp_region_lit ?_
  refine wl_val (v := .bool false) rfl rfl rfl ?_
  refine wl_nil ?_
  refine then_n ?_
  refine wp_seq ?_
  refine wp_region_lit ?_
  refine wl_val (v := p0) rfl rfl rfl ?_
  obtain ⟨t412, ht413, hm⟩ := bind_some hm
  refine wl_call rfl rfl (x_call Try.call40 rfl (vs := [p0, .int .i64 (1:Int)]) rfl) ?_
  refine (octet_Reader_Num_ref hst.to1 ht413).mono ?_
  rintro _ w414 ⟨rfl, hst⟩
  refine ⟨_, rfl, ?_⟩
  replace hst := hst.of1
  refine wl_val (v := .int .u64 t412.1) rfl rfl rfl ?_
  refine wl_nil ?_
  refine then_n ?_
  refine wp_seq ?_
  refine wp_seq ?_
  refine wp_region_lit ?_
  refine wl_val (v := .int .u64 t412.1) rfl rfl rfl ?_
  refine wl_val (v := .bool (decide (t412.1 > (1:Int)))) rfl rfl rfl ?_
  refine wl_nil ?_
  refine then_n ?_
  refine bsplit (decide (t412.1 > (1:Int))) (fun hc417 => ?_) (fun hc417 => ?_)
  · skip
    replace hm := bif_t hc417 hm
    refine wp_ift (congrArg Value.bool hc417) ?_
    refine wp_seq ?_
    refine wp_region_lit ?_
    refine wl_val (v := p0) rfl rfl rfl ?_
    obtain ⟨t418, ht419, hm⟩ := bind_some hm
    refine wl_call rfl rfl (x_call Try.call66 rfl (vs := [p0]) rfl) ?_
    refine (octet_Reader_spoil_ref hst.to1 ht419).mono ?_
    rintro _ w420 ⟨rfl, hst⟩
    refine ⟨_, rfl, ?_⟩
    replace hst := hst.of1
    refine wl_nil ?_
    refine then_n ?_
    refine wp_seq ?_
    refine wp_region_lit ?_
    refine wl_val (v := .bool false) rfl rfl rfl ?_
    refine wl_nil ?_
    refine then_n ?_
    refine wp_ret ?_
    refine then_r ?_
    obtain rfl := some_inj hm
    refine post_ret (vs := [.bool false]) Try.results42 (rvs_cons (rv_tmp rfl) rvs_nil) ?_
    exact ⟨rfl, hst.keep1⟩
  · skip
    replace hm := bif_f hc417 hm
    refine wp_iff (congrArg Value.bool hc417) ?_
    refine wp_skip ?_
    refine then_n ?_
    refine wp_seq ?_
    refine wp_region_lit ?_
    refine wl_val (v := .int .u64 t412.1) rfl rfl rfl ?_
    refine wl_val (v := .bool (t412.1 == (1:Int))) rfl rfl rfl ?_
    refine wl_val (v := .bool (t412.1 == (1:Int))) rfl rfl rfl ?_
    refine wl_nil ?_
    refine then_n ?_
    refine wp_ret ?_
    obtain rfl := some_inj hm
    refine post_ret (vs := [.bool (t412.1 == (1:Int))]) Try.results42 (rvs_cons (rv_tmp rfl) rvs_nil) ?_
    exact ⟨rfl, hst.keep1⟩

theorem octet_Reader_Bytes_ref {w0 w : World} {I : HL} {R : SP} {a0 : octet_Reader} {p0 : Value} {a1 : Int}  (hst : St w0 w I [at_octet_Reader p0 a0] R) {r : ((List Int) × octet_Reader)} (hm : octet_Reader_Bytes a0 a1 = some r) :
    Calls Try.prog 43 #[p0, .int .i64 a1] w fun e w' => ∃ (q0_0 : Value), e = .returned (q0_0) ∧ St w0 w' I [ownS (tyInt .u8) q0_0 r.1, at_octet_Reader p0 r.2] R := by
  unfold octet_Reader_Bytes at hm
  refine calls_start (args := [p0, .int .i64 a1]) Try.func43 rfl Try.ntmps43 (Nat.le_of_ble_eq_true rfl) ?_
  refine wp_seq ?_
  refine wp_region_lit ?_
  refine wl_val (v := (.slice none 0 0)) rfl rfl rfl ?_
  refine wl_nil ?_
  refine then_n ?_
  refine wp_seq ?_
  refine wp_region_lit ?_
  refine wl_val (v := p0) rfl rfl rfl ?_
  obtain ⟨t459, ht460, hm⟩ := bind_some hm
  refine wl_call rfl rfl (x_call Try.call40 rfl (vs := [p0, .int .i64 (4:Int)]) rfl) ?_
  refine (octet_Reader_Num_ref hst.to1 ht460).mono ?_
  rintro _ w461 ⟨rfl, hst⟩
  refine ⟨_, rfl, ?_⟩
  replace hst := hst.of1
  refine wl_val (v := .int .u64 t459.1) rfl rfl rfl ?_
  refine wl_nil ?_
  refine then_n ?_
  refine wp_seq ?_
  refine wp_seq ?_
  refine wp_region_lit ?_
  refine wl_val (v := p0) rfl rfl rfl ?_
  obtain ⟨b464, v465, ⟨rfl, f467⟩, hst'⟩ := at_octet_Reader_open hst
  clear hst
  have hst := hst'
  clear hst'
  refine wl_val (v := .bool false) rfl rfl (by kernel_rfl) ?_
  refine wl_val (v := .bool false) rfl rfl rfl ?_
  refine wl_val (v := .pointer (some ⟨b464, 0, none⟩)) ((wanted_eq rfl rfl rfl rfl).trans rfl) rfl rfl ?_
  refine wl_val (v := .pointer (some ⟨b464, 0, none⟩)) ((wanted_eq rfl rfl rfl rfl).trans rfl) rfl rfl ?_
  refine wl_val (v := .pointer (some ⟨b464, 1, none⟩)) ((wanted_eq rfl rfl rfl rfl).trans rfl) rfl (x_field rfl Try.underlying95 rfl Try.sizeOf4 rfl) ?_
  refine wl_val (v := .bool t459.2.bad) ((wanted_eq rfl rfl rfl rfl).trans rfl) rfl (x_load rfl Try.isAgg4 (hst.bc0 rfl)) ?_
  refine wl_val (v := .bool t459.2.bad) rfl rfl (x_pick_f rfl rfl rfl) ?_
  refine wl_val (v := .bool t459.2.bad) rfl rfl rfl ?_
  refine bsplit t459.2.bad (fun hc468 => ?_) (fun hc468 => ?_)
  · skip
    replace hm := bif_t hc468 hm
    refine wl_off ((wanted_eq rfl rfl rfl (congrArg Value.bool hc468)).trans rfl) rfl ?_
    refine wl_off ((wanted_eq rfl rfl rfl (congrArg Value.bool hc468)).trans rfl) rfl ?_
    refine wl_val (v := .bool true) rfl rfl (x_pick_t hc468 rfl rfl) ?_
    refine wl_val (v := .bool true) rfl rfl rfl ?_
    refine wl_off ((wanted_eq rfl rfl rfl rfl).trans rfl) rfl ?_
    refine wl_off ((wanted_eq rfl rfl rfl rfl).trans rfl) rfl ?_
    refine wl_off ((wanted_eq rfl rfl rfl rfl).trans rfl) rfl ?_
    refine wl_off ((wanted_eq rfl rfl rfl rfl).trans rfl) rfl ?_
    refine wl_val (v := .bool true) rfl rfl (x_pick_t rfl rfl rfl) ?_
    refine wl_val (v := .bool true) rfl rfl rfl ?_
    refine wl_off ((wanted_eq rfl rfl rfl rfl).trans rfl) rfl ?_
    refine wl_off ((wanted_eq rfl rfl rfl rfl).trans rfl) rfl ?_
    refine wl_off ((wanted_eq rfl rfl rfl rfl).trans rfl) rfl ?_
    refine wl_off ((wanted_eq rfl rfl rfl rfl).trans rfl) rfl ?_
    refine wl_off ((wanted_eq rfl rfl rfl rfl).trans rfl) rfl ?_
    refine wl_off ((wanted_eq rfl rfl rfl rfl).trans rfl) rfl ?_
    refine wl_off ((wanted_eq rfl rfl rfl rfl).trans rfl) rfl ?_
    refine wl_off ((wanted_eq rfl rfl rfl rfl).trans rfl) rfl ?_
    refine wl_val (v := .bool true) rfl rfl (x_pick_t rfl rfl rfl) ?_
    refine wl_nil ?_
    refine then_n ?_
    refine wp_ift rfl ?_
    refine wp_seq ?_
    refine wp_region_lit ?_
    refine wl_val (v := .pointer (some ⟨b464, 0, none⟩)) rfl rfl rfl ?_
    replace hst := at_octet_Reader_close (pv := .pointer (some ⟨b464, 0, none⟩)) (x := t459.2) hst ⟨rfl, f467⟩
    obtain ⟨t469, ht470, hm⟩ := bind_some hm
    refine wl_call rfl rfl (x_call Try.call66 rfl (vs := [.pointer (some ⟨b464, 0, none⟩)]) rfl) ?_
    refine (octet_Reader_spoil_ref hst.to1 ht470).mono ?_
    rintro _ w471 ⟨rfl, hst⟩
    refine ⟨_, rfl, ?_⟩
    replace hst := hst.of1
    refine wl_nil ?_
    refine then_n ?_
    refine wp_seq ?_
    refine wp_region_lit ?_
    refine wl_val (v := (.slice none 0 0)) rfl rfl rfl ?_
    refine wl_nil ?_
    refine then_n ?_
    refine wp_ret ?_
    refine then_r ?_
    replace hst := hst.own_nil (tyInt .u8)
    obtain rfl := some_inj hm
    refine post_ret (vs := [(.slice none 0 0)]) Try.results43 (rvs_cons (rv_tmp rfl) rvs_nil) ?_
    replace hst := hst.pull1
    replace hst := hst.pull1
    exact ⟨(.slice none 0 0), rfl, hst.keep2⟩
  · skip
    replace hm := bif_f hc468 hm
    refine wl_val (v := .int .i64 a1) ((wanted_eq rfl rfl rfl (congrArg Value.bool hc468)).trans rfl) rfl rfl ?_
    refine wl_val (v := .bool (decide (a1 < (0:Int)))) ((wanted_eq rfl rfl rfl (congrArg Value.bool hc468)).trans rfl) rfl rfl ?_
    refine wl_val (v := .bool (decide (a1 < (0:Int)))) rfl rfl (x_pick_f hc468 rfl rfl) ?_
    refine wl_val (v := .bool (decide (a1 < (0:Int)))) rfl rfl rfl ?_
    refine bsplit (decide (a1 < (0:Int))) (fun hc475 => ?_) (fun hc475 => ?_)
    · skip
      replace hm := bif_t hc475 hm
      refine wl_off ((wanted_eq rfl rfl rfl (congrArg Value.bool hc475)).trans rfl) rfl ?_
      refine wl_off ((wanted_eq rfl rfl rfl (congrArg Value.bool hc475)).trans rfl) rfl ?_
      refine wl_off ((wanted_eq rfl rfl rfl (congrArg Value.bool hc475)).trans rfl) rfl ?_
      refine wl_off ((wanted_eq rfl rfl rfl (congrArg Value.bool hc475)).trans rfl) rfl ?_
      refine wl_val (v := .bool true) rfl rfl (x_pick_t hc475 rfl rfl) ?_
      refine wl_val (v := .bool true) rfl rfl rfl ?_
      refine wl_off ((wanted_eq rfl rfl rfl rfl).trans rfl) rfl ?_
      refine wl_off ((wanted_eq rfl rfl rfl rfl).trans rfl) rfl ?_
      refine wl_off ((wanted_eq rfl rfl rfl rfl).trans rfl) rfl ?_
      refine wl_off ((wanted_eq rfl rfl rfl rfl).trans rfl) rfl ?_
      refine wl_off ((wanted_eq rfl rfl rfl rfl).trans rfl) rfl ?_
      refine wl_off ((wanted_eq rfl rfl rfl rfl).trans rfl) rfl ?_
      refine wl_off ((wanted_eq rfl rfl rfl rfl).trans rfl) rfl ?_
      refine wl_off ((wanted_eq rfl rfl rfl rfl).trans rfl) rfl ?_
      refine wl_val (v := .bool true) rfl rfl (x_pick_t rfl rfl rfl) ?_
      refine wl_nil ?_
      refine then_n ?_
      refine wp_ift rfl ?_
      refine wp_seq ?_
      refine wp_region_lit ?_
      refine wl_val (v := .pointer (some ⟨b464, 0, none⟩)) rfl rfl rfl ?_
      replace hst := at_octet_Reader_close (pv := .pointer (some ⟨b464, 0, none⟩)) (x := t459.2) hst ⟨rfl, f467⟩
      obtain ⟨t476, ht477, hm⟩ := bind_some hm
      refine wl_call rfl rfl (x_call Try.call66 rfl (vs := [.pointer (some ⟨b464, 0, none⟩)]) rfl) ?_
      refine (octet_Reader_spoil_ref hst.to1 ht477).mono ?_
      rintro _ w478 ⟨rfl, hst⟩
      refine ⟨_, rfl, ?_⟩
      replace hst := hst.of1
      refine wl_nil ?_
      refine then_n ?_
      refine wp_seq ?_
      refine wp_region_lit ?_
      refine wl_val (v := (.slice none 0 0)) rfl rfl rfl ?_
      refine wl_nil ?_
      refine then_n ?_
      refine wp_ret ?_
      refine then_r ?_
      replace hst := hst.own_nil (tyInt .u8)
      obtain rfl := some_inj hm
      refine post_ret (vs := [(.slice none 0 0)]) Try.results43 (rvs_cons (rv_tmp rfl) rvs_nil) ?_
      replace hst := hst.pull1
      replace hst := hst.pull1
      exact ⟨(.slice none 0 0), rfl, hst.keep2⟩
    · skip
      replace hm := bif_f hc475 hm
      refine wl_val (v := .int .u64 t459.1) ((wanted_eq rfl rfl rfl (congrArg Value.bool hc475)).trans rfl) rfl rfl ?_
      refine wl_val (v := .int .i64 a1) ((wanted_eq rfl rfl rfl (congrArg Value.bool hc475)).trans rfl) rfl rfl ?_
      refine wl_val (v := .int .u64 (IntKind.u64.wrap a1)) ((wanted_eq rfl rfl rfl (congrArg Value.bool hc475)).trans rfl) rfl (by kernel_rfl) ?_
      refine wl_val (v := .bool (decide (t459.1 > (IntKind.u64.wrap a1)))) ((wanted_eq rfl rfl rfl (congrArg Value.bool hc475)).trans rfl) rfl rfl ?_
      refine wl_val (v := .bool (decide (t459.1 > (IntKind.u64.wrap a1)))) rfl rfl (x_pick_f hc475 rfl rfl) ?_
      refine wl_val (v := .bool (decide (t459.1 > (IntKind.u64.wrap a1)))) rfl rfl rfl ?_
      refine bsplit (decide (t459.1 > (IntKind.u64.wrap a1))) (fun hc482 => ?_) (fun hc482 => ?_)
      · skip
        replace hm := bif_t hc482 hm
        refine wl_off ((wanted_eq rfl rfl rfl (congrArg Value.bool hc482)).trans rfl) rfl ?_
        refine wl_off ((wanted_eq rfl rfl rfl (congrArg Value.bool hc482)).trans rfl) rfl ?_
        refine wl_off ((wanted_eq rfl rfl rfl (congrArg Value.bool hc482)).trans rfl) rfl ?_
        refine wl_off ((wanted_eq rfl rfl rfl (congrArg Value.bool hc482)).trans rfl) rfl ?_
        refine wl_off ((wanted_eq rfl rfl rfl (congrArg Value.bool hc482)).trans rfl) rfl ?_
        refine wl_off ((wanted_eq rfl rfl rfl (congrArg Value.bool hc482)).trans rfl) rfl ?_
        refine wl_off ((wanted_eq rfl rfl rfl (congrArg Value.bool hc482)).trans rfl) rfl ?_
        refine wl_off ((wanted_eq rfl rfl rfl (congrArg Value.bool hc482)).trans rfl) rfl ?_
        refine wl_val (v := .bool true) rfl rfl (x_pick_t hc482 rfl rfl) ?_
        refine wl_nil ?_
        refine then_n ?_
        refine wp_ift rfl ?_
        refine wp_seq ?_
        refine wp_region_lit ?_
        refine wl_val (v := .pointer (some ⟨b464, 0, none⟩)) rfl rfl rfl ?_
        replace hst := at_octet_Reader_close (pv := .pointer (some ⟨b464, 0, none⟩)) (x := t459.2) hst ⟨rfl, f467⟩
        obtain ⟨t483, ht484, hm⟩ := bind_some hm
        refine wl_call rfl rfl (x_call Try.call66 rfl (vs := [.pointer (some ⟨b464, 0, none⟩)]) rfl) ?_
        refine (octet_Reader_spoil_ref hst.to1 ht484).mono ?_
        rintro _ w485 ⟨rfl, hst⟩
        refine ⟨_, rfl, ?_⟩
        replace hst := hst.of1
        refine wl_nil ?_
        refine then_n ?_
        refine wp_seq ?_
        refine wp_region_lit ?_
        refine wl_val (v := (.slice none 0 0)) rfl rfl rfl ?_
        refine wl_nil ?_
        refine then_n ?_
        refine wp_ret ?_
        refine then_r ?_
        replace hst := hst.own_nil (tyInt .u8)
        obtain rfl := some_inj hm
        refine post_ret (vs := [(.slice none 0 0)]) Try.results43 (rvs_cons (rv_tmp rfl) rvs_nil) ?_
        replace hst := hst.pull1
        replace hst := hst.pull1
        exact ⟨(.slice none 0 0), rfl, hst.keep2⟩
      · skip
        replace hm := bif_f hc482 hm
        refine wl_val (v := .int .u64 t459.1) ((wanted_eq rfl rfl rfl (congrArg Value.bool hc482)).trans rfl) rfl rfl ?_
        refine wl_val (v := .pointer (some ⟨b464, 0, none⟩)) ((wanted_eq rfl rfl rfl (congrArg Value.bool hc482)).trans rfl) rfl rfl ?_
        refine wl_val (v := .pointer (some ⟨b464, 0, none⟩)) ((wanted_eq rfl rfl rfl (congrArg Value.bool hc482)).trans rfl) rfl rfl ?_
        refine wl_val (v := .pointer (some ⟨b464, 0, none⟩)) ((wanted_eq rfl rfl rfl (congrArg Value.bool hc482)).trans rfl) rfl (x_field rfl Try.underlying95 rfl Try.sizeOf22 rfl) ?_
        refine wl_val (v := v465) ((wanted_eq rfl rfl rfl (congrArg Value.bool hc482)).trans rfl) rfl (x_load rfl Try.isAgg22 (hst.bc0 rfl)) ?_
        refine wl_val (v := .int .i64 ((t459.2.p).length : Int)) ((wanted_eq rfl rfl rfl (congrArg Value.bool hc482)).trans rfl) rfl (x_len rfl Try.underlying22 (ro_sliceV f467)) ?_
        refine wl_val (v := .int .u64 (IntKind.u64.wrap ((t459.2.p).length : Int))) ((wanted_eq rfl rfl rfl (congrArg Value.bool hc482)).trans rfl) rfl (by kernel_rfl) ?_
        refine wl_val (v := .bool (decide (t459.1 > (IntKind.u64.wrap ((t459.2.p).length : Int))))) ((wanted_eq rfl rfl rfl (congrArg Value.bool hc482)).trans rfl) rfl rfl ?_
        refine wl_val (v := .bool (decide (t459.1 > (IntKind.u64.wrap ((t459.2.p).length : Int))))) rfl rfl (x_pick_f hc482 rfl rfl) ?_
        refine wl_nil ?_
        refine then_n ?_
        refine bsplit (decide (t459.1 > (IntKind.u64.wrap ((t459.2.p).length : Int)))) (fun hc489 => ?_) (fun hc489 => ?_)
        · skip
          replace hm := bif_t hc489 hm
          refine wp_ift (congrArg Value.bool hc489) ?_
          refine wp_seq ?_
          refine wp_region_lit ?_
          refine wl_val (v := .pointer (some ⟨b464, 0, none⟩)) rfl rfl rfl ?_
          replace hst := at_octet_Reader_close (pv := .pointer (some ⟨b464, 0, none⟩)) (x := t459.2) hst ⟨rfl, f467⟩
          obtain ⟨t490, ht491, hm⟩ := bind_some hm
          refine wl_call rfl rfl (x_call Try.call66 rfl (vs := [.pointer (some ⟨b464, 0, none⟩)]) rfl) ?_
          refine (octet_Reader_spoil_ref hst.to1 ht491).mono ?_
          rintro _ w492 ⟨rfl, hst⟩
          refine ⟨_, rfl, ?_⟩
          replace hst := hst.of1
          refine wl_nil ?_
          refine then_n ?_
          refine wp_seq ?_
          refine wp_region_lit ?_
          refine wl_val (v := (.slice none 0 0)) rfl rfl rfl ?_
          refine wl_nil ?_
          refine then_n ?_
          refine wp_ret ?_
          refine then_r ?_
          replace hst := hst.own_nil (tyInt .u8)
          obtain rfl := some_inj hm
          refine post_ret (vs := [(.slice none 0 0)]) Try.results43 (rvs_cons (rv_tmp rfl) rvs_nil) ?_
          replace hst := hst.pull1
          replace hst := hst.pull1
          exact ⟨(.slice none 0 0), rfl, hst.keep2⟩
        · skip
          replace hm := bif_f hc489 hm
          refine wp_iff (congrArg Value.bool hc489) ?_
          refine wp_skip ?_
          refine then_n ?_
          refine wp_seq ?_
          refine wp_region_lit ?_
          refine wl_val (v := .pointer (some ⟨b464, 0, none⟩)) rfl rfl rfl ?_
          refine wl_val (v := .pointer (some ⟨b464, 0, none⟩)) rfl rfl rfl ?_
          refine wl_val (v := .pointer (some ⟨b464, 0, none⟩)) rfl rfl (x_field rfl Try.underlying95 rfl Try.sizeOf22 rfl) ?_
          refine wl_val (v := v465) rfl rfl (x_load rfl Try.isAgg22 (hst.bc0 rfl)) ?_
          refine wl_val (v := .int .u64 t459.1) rfl rfl rfl ?_
          obtain ⟨hg496, hm⟩ := gd_some hm
          obtain ⟨h497, h498, h499⟩ := fits_of hg496
          have f501 : Ro (tyInt .u8) I (slcV 1 v465 (0:Int).toNat t459.1.toNat) (subs t459.2.p (0:Int) t459.1) := Ro.part f467 h498 h499 h497
          refine wl_val (v := (slcV 1 v465 (0:Int).toNat t459.1.toNat)) rfl rfl (x_slice Try.underlying22 Try.sizeOf5 rfl (ro_sliceV f467) h497 h498 h499 .i64 .u64 (.inr ⟨rfl, rfl⟩) (.inl rfl)) ?_
          replace hst := hst.own_nil (tyInt .u8)
          obtain ⟨hg503, hm⟩ := gd_some hm
          obtain ⟨v504, w505, hr506, hst⟩ := run_append elem_22 Try.underlying22 hst (Src.of_ro hst f501) (room_of hg503 rfl) 22
          replace hst := St.nil_app hst
          refine wl_run (v := v504) (w' := w505) rfl rfl (x_append rfl rfl hr506) ?_
          refine wl_val (v := v504) rfl rfl rfl ?_
          refine wl_nil ?_
          refine then_n ?_
          refine wp_seq ?_
          refine wp_region_lit ?_
          refine wl_val (v := .pointer (some ⟨b464, 0, none⟩)) rfl rfl rfl ?_
          refine wl_val (v := .pointer (some ⟨b464, 0, none⟩)) rfl rfl rfl ?_
          refine wl_val (v := .pointer (some ⟨b464, 0, none⟩)) rfl rfl rfl ?_
          refine wl_val (v := .pointer (some ⟨b464, 0, none⟩)) rfl rfl (x_field rfl Try.underlying95 rfl Try.sizeOf22 rfl) ?_
          refine wl_val (v := v465) rfl rfl (x_load rfl Try.isAgg22 (hst.bc1 rfl)) ?_
          refine wl_val (v := .int .u64 t459.1) rfl rfl rfl ?_
          obtain ⟨hg507, hm⟩ := gd_some hm
          obtain ⟨h508, h509, h510⟩ := fits_of hg507
          have f512 : Ro (tyInt .u8) I (slcV 1 v465 t459.1.toNat (((t459.2.p).length : Nat) : Int).toNat) (subs t459.2.p t459.1 (((t459.2.p).length : Nat) : Int)) := Ro.part f467 h509 h510 h508
          refine wl_val (v := (slcV 1 v465 t459.1.toNat (((t459.2.p).length : Nat) : Int).toNat)) rfl rfl (x_slice Try.underlying22 Try.sizeOf5 rfl (ro_sliceV f467) h508 h509 h510 .u64 .i64 (.inl rfl) (.inr ⟨rfl, rfl⟩)) ?_
          refine wl_val (v := .pointer (some ⟨b464, 0, none⟩)) rfl rfl rfl ?_
          refine wl_val (v := .pointer (some ⟨b464, 0, none⟩)) rfl rfl (x_field rfl Try.underlying95 rfl Try.sizeOf22 rfl) ?_
          replace hst := hst.pull1
          obtain ⟨w513, hr514, hst⟩ := hst.boxStore1 (P := Try.prog) (t := 22) (cs' := [(slcV 1 v465 t459.1.toNat (((t459.2.p).length : Nat) : Int).toNat), .bool t459.2.bad]) 0 (slcV 1 v465 t459.1.toNat (((t459.2.p).length : Nat) : Int).toNat) (one_of_sliceV (ro_sliceV f512)) Try.sizeOf22 rfl rfl
          refine wl_unit rfl rfl (x_unit hr514) ?_
          refine wl_nil ?_
          refine then_n ?_
          refine wp_seq ?_
          refine wp_region_lit ?_
          refine wl_val (v := v504) rfl rfl rfl ?_
          refine wl_val (v := v504) rfl rfl rfl ?_
          refine wl_nil ?_
          refine then_n ?_
          refine wp_ret ?_
          replace hst := at_octet_Reader_close (pv := .pointer (some ⟨b464, 0, none⟩)) (x := ({ p := (subs t459.2.p t459.1 (((t459.2.p).length : Nat) : Int)), bad := t459.2.bad } : octet_Reader)) hst ⟨rfl, f512⟩
          obtain rfl := some_inj hm
          refine post_ret (vs := [v504]) Try.results43 (rvs_cons (rv_tmp rfl) rvs_nil) ?_
          replace hst := hst.pull1
          exact ⟨v504, rfl, hst.keep2⟩

theorem number_Back_ref {w0 w : World} {I : HL} {R : SP} {a0 : Int}  (hst : St w0 w I [] R) {r : (Nat)} (hm : number_Back a0 = some r) :
    Calls Try.prog 44 #[.int .u64 a0] w fun e w' => e = .returned (.float .f64 r) ∧ St w0 w' I [] R := by
  unfold number_Back at hm
  refine calls_start (args := [.int .u64 a0]) Try.func44 rfl Try.ntmps44 (Nat.le_of_ble_eq_true rfl) ?_
  refine wp_seq ?_
  refine wp_region_lit ?_
  refine wl_val (v := .float .f64 (0:Nat)) rfl rfl rfl ?_
  refine wl_nil ?_
  refine then_n ?_
  refine wp_seq ?_
  refine wp_seq ?_
  refine wp_region_lit ?_
  refine wl_val (v := .int .u64 a0) rfl rfl rfl ?_
  refine wl_val (v := .int .u64 (iShr .u64 a0 (63:Int))) rfl rfl (x_shr (by decide) rfl rfl) ?_
  refine wl_val (v := .bool ((iShr .u64 a0 (63:Int)) == (1:Int))) rfl rfl rfl ?_
  refine wl_nil ?_
  refine then_n ?_
  refine bsplit ((iShr .u64 a0 (63:Int)) == (1:Int)) (fun hc563 => ?_) (fun hc563 => ?_)
  · skip
    replace hm := bif_t hc563 hm
    refine wp_ift (congrArg Value.bool hc563) ?_
    refine wp_seq ?_
    refine wp_region_lit ?_
    refine wl_val (v := .int .u64 a0) rfl rfl rfl ?_
    refine wl_val (v := .int .u64 (bAndNot .u64 a0 (9223372036854775808:Int))) rfl rfl rfl ?_
    refine wl_val (v := .float .f64 (Int.toNat (bAndNot .u64 a0 (9223372036854775808:Int)))) rfl rfl (by kernel_rfl) ?_
    refine wl_val (v := .float .f64 (Int.toNat (bAndNot .u64 a0 (9223372036854775808:Int)))) rfl rfl rfl ?_
    refine wl_nil ?_
    refine then_n ?_
    refine wp_ret ?_
    refine then_r ?_
    obtain rfl := some_inj hm
    refine post_ret (vs := [.float .f64 (Int.toNat (bAndNot .u64 a0 (9223372036854775808:Int)))]) Try.results44 (rvs_cons (rv_tmp rfl) rvs_nil) ?_
    exact ⟨rfl, hst.keep0⟩
  · skip
    replace hm := bif_f hc563 hm
    refine wp_iff (congrArg Value.bool hc563) ?_
    refine wp_skip ?_
    refine then_n ?_
    refine wp_seq ?_
    refine wp_region_lit ?_
    refine wl_val (v := .int .u64 a0) rfl rfl rfl ?_
    refine wl_val (v := .int .u64 (bXor .u64 ((18446744073709551615):Int) a0)) rfl rfl (by kernel_rfl) ?_
    refine wl_val (v := .float .f64 (Int.toNat (bXor .u64 ((18446744073709551615):Int) a0))) rfl rfl (by kernel_rfl) ?_
    refine wl_val (v := .float .f64 (Int.toNat (bXor .u64 ((18446744073709551615):Int) a0))) rfl rfl rfl ?_
    refine wl_nil ?_
    refine then_n ?_
    refine wp_ret ?_
    obtain rfl := some_inj hm
    refine post_ret (vs := [.float .f64 (Int.toNat (bXor .u64 ((18446744073709551615):Int) a0))]) Try.results44 (rvs_cons (rv_tmp rfl) rvs_nil) ?_
    exact ⟨rfl, hst.keep0⟩

theorem command_ReadReply_ref {w0 w : World} {I : HL} {R : SP} {a0 : octet_Reader} {p0 : Value}  (hst : St w0 w I [at_octet_Reader p0 a0] R) {r : (api_Reply × octet_Reader)} (hm : command_ReadReply a0 = some r) :
    Calls Try.prog 16 #[p0] w fun e w' => ∃ (I' : HL) (q0_0 : Value) (q0_1 : Value), e = .returned (.agg #[.int .i64 r.1.E, .int .u64 r.1.Epoch, .int .u64 r.1.Index, q0_0, q0_1]) ∧ I.le I' ∧ St w0 w' I' [ownS ty_api_Got q0_0 r.1.Gots, ownS (tySl ty_api_Pair) q0_1 r.1.Scans, at_octet_Reader p0 r.2] R := by
  unfold command_ReadReply at hm
  refine calls_start (args := [p0]) Try.func16 rfl Try.ntmps16 (Nat.le_of_ble_eq_true rfl) ?_
  have hI0 := HL.le.refl I
  refine wp_seq ?_
  refine wp_region_lit ?_
  obtain ⟨b1293, w1294, ew1295, eb1296, hst⟩ := hst.box [.int .i64 (0:Int), .int .u64 (0:Int), .int .u64 (0:Int), (.slice none 0 0), (.slice none 0 0)] 39
  refine wl_run (v := .pointer (some ⟨b1293, 0, none⟩)) (w' := w1294) rfl rfl (x_al (by kernel_rfl) ew1295 eb1296) ?_
  refine wl_nil ?_
  refine then_n ?_
  refine wp_seq ?_
  refine wp_region_lit ?_
  refine wl_val (v := p0) rfl rfl rfl ?_
  replace hst := hst.pull1
  obtain ⟨t1298, ht1299, hm⟩ := bind_some hm
  refine wl_call rfl rfl (x_call Try.call40 rfl (vs := [p0, .int .i64 (1:Int)]) rfl) ?_
  refine (octet_Reader_Num_ref hst.to1 ht1299).mono ?_
  rintro _ w1300 ⟨rfl, hst⟩
  refine ⟨_, rfl, ?_⟩
  replace hst := hst.of1
  refine wl_val (v := .int .i64 (IntKind.i64.wrap t1298.1)) rfl rfl (by kernel_rfl) ?_
  refine wl_val (v := p0) rfl rfl rfl ?_
  obtain ⟨t1303, ht1304, hm⟩ := bind_some hm
  refine wl_call rfl rfl (x_call Try.call40 rfl (vs := [p0, .int .i64 (8:Int)]) rfl) ?_
  refine (octet_Reader_Num_ref hst.to1 ht1304).mono ?_
  rintro _ w1305 ⟨rfl, hst⟩
  refine ⟨_, rfl, ?_⟩
  replace hst := hst.of1
  refine wl_val (v := p0) rfl rfl rfl ?_
  obtain ⟨t1308, ht1309, hm⟩ := bind_some hm
  refine wl_call rfl rfl (x_call Try.call40 rfl (vs := [p0, .int .i64 (8:Int)]) rfl) ?_
  refine (octet_Reader_Num_ref hst.to1 ht1309).mono ?_
  rintro _ w1310 ⟨rfl, hst⟩
  refine ⟨_, rfl, ?_⟩
  replace hst := hst.of1
  refine wl_val (v := .agg #[.int .i64 (IntKind.i64.wrap t1298.1), .int .u64 t1303.1, .int .u64 t1308.1, (.slice none 0 0), (.slice none 0 0)]) rfl rfl (by kernel_rfl) ?_
  obtain ⟨b1317, w1318, ew1319, eb1320, hst⟩ := hst.box [.int .i64 (0:Int), .int .u64 (0:Int), .int .u64 (0:Int), (.slice none 0 0), (.slice none 0 0)] 39
  refine wl_run (v := .pointer (some ⟨b1317, 0, none⟩)) (w' := w1318) rfl rfl (x_al (by kernel_rfl) ew1319 eb1320) ?_
  obtain ⟨w1322, hr1323, hst⟩ := hst.boxStore (P := Try.prog) (t := 39) (cs' := [.int .i64 (IntKind.i64.wrap t1298.1), .int .u64 t1303.1, .int .u64 t1308.1, (.slice none 0 0), (.slice none 0 0)]) 0 (.agg #[.int .i64 (IntKind.i64.wrap t1298.1), .int .u64 t1303.1, .int .u64 t1308.1, (.slice none 0 0), (.slice none 0 0)]) Try.sizeOf39 (Nat.le_of_ble_eq_true rfl) (ones_cons rfl (ones_cons rfl (ones_cons rfl (ones_cons rfl (ones_cons rfl ones_nil))))) (by kernel_rfl)
  refine wl_unit rfl rfl (x_unit hr1323) ?_
  refine wl_nil ?_
  refine then_n ?_
  obtain ⟨y1471, hm, hx1472⟩ := bind_some hm
  refine wp_cut (fun a w => ∃ (I1468 : HL) (z1464 : octet_Reader) (z1467 : (List api_Got)) (v1466 : Value) (σ1469 : Nat → Value), (command_ReadReply_j0 t1298 t1303 t1308) (z1464, z1467) = some r ∧ a = Fr 54 (upd (upd (upd σ1469 0 (p0)) 2 (.pointer (some ⟨b1293, 0, none⟩))) 3 (.pointer (some ⟨b1317, 0, none⟩))) ∧ I.le I1468 ∧ St w0 w I1468 [at_octet_Reader p0 z1464, cells b1293 [.int .i64 (0:Int), .int .u64 (0:Int), .int .u64 (0:Int), (.slice none 0 0), (.slice none 0 0)], cells b1317 [.int .i64 (IntKind.i64.wrap t1298.1), .int .u64 t1303.1, .int .u64 t1308.1, v1466, (.slice none 0 0)], ownS ty_api_Got v1466 z1467] R) ?_ ?_
  · skip
    have hL1473 := HL.le.refl I
    refine wp_seq ?_
    refine wp_region_lit ?_
    refine wl_val (v := p0) rfl rfl rfl ?_
    replace hst := hst.pull1
    obtain ⟨t1324, ht1325, hm⟩ := bind_some hm
    refine wl_call rfl rfl (x_call Try.call41 rfl (vs := [p0, .int .i64 (32:Int)]) rfl) ?_
    refine (octet_Reader_Count_ref hst.to1 ht1325).mono ?_
    rintro _ w1326 ⟨rfl, hst⟩
    refine ⟨_, rfl, ?_⟩
    replace hst := hst.of1
    refine wl_val (v := .int .i64 (0:Int)) rfl rfl rfl ?_
    refine wl_nil ?_
    refine then_n ?_
    refine wp_block ?_
    replace hst := hst.own_nil ty_api_Got
    obtain ⟨n1428, hm⟩ := loopO_some hm
    refine wp_loop_n (fun n a w => ∃ (I1426 : HL) (z1421 : (List api_Got)) (z1424 : octet_Reader) (z1425 : Int) (v1422 : Value) (σ1427 : Nat → Value), loopN (command_ReadReply_l1 t1324) n (z1421, z1424, z1425) = some y1471 ∧ a = Fr 54 (upd (upd (upd (upd (upd σ1427 0 (p0)) 2 (.pointer (some ⟨b1293, 0, none⟩))) 3 (.pointer (some ⟨b1317, 0, none⟩))) 14 (.int .i64 t1324.1)) 15 (.int .i64 z1425)) ∧ I.le I1426 ∧ St w0 w I1426 [ownS ty_api_Got v1422 z1421, at_octet_Reader p0 z1424, cells b1317 [.int .i64 (IntKind.i64.wrap t1298.1), .int .u64 t1303.1, .int .u64 t1308.1, v1422, (.slice none 0 0)], cells b1293 [.int .i64 (0:Int), .int .u64 (0:Int), .int .u64 (0:Int), (.slice none 0 0), (.slice none 0 0)]] R) n1428 ⟨_, [], t1324.2, (0:Int), (.slice none 0 0), _, hm, ((fr_upd (t := 0) (v := p0) rfl).trans ((fr_upd (t := 2) (v := .pointer (some ⟨b1293, 0, none⟩)) rfl).trans ((fr_upd (t := 3) (v := .pointer (some ⟨b1317, 0, none⟩)) rfl).trans ((fr_upd (t := 14) (v := .int .i64 t1324.1) rfl).trans ((fr_upd (t := 15) (v := .int .i64 (0:Int)) rfl).trans rfl))))), (HL.le.refl _), hst⟩ ?_
    rintro n1434 _ w1429 ⟨I1426, z1421, z1424, z1425, v1422, σ1427, hm, rfl, hL1430, hst⟩
    obtain ⟨n1431, y1432, rfl, hm, hx1433⟩ := loopN_some hm
    dsimp only [command_ReadReply_l1] at hm
    replace hI0 := hI0.trans hL1430
    replace hL1473 := hL1473.trans hL1430
    refine wp_seq ?_
    refine wp_region_lit ?_
    refine wl_val (v := .bool (decide (z1425 < t1324.1))) rfl rfl rfl ?_
    refine wl_nil ?_
    refine then_n ?_
    refine wp_seq ?_
    refine bsplit (decide (z1425 < t1324.1)) (fun hc1435 => ?_) (fun hc1435 => ?_)
    · skip
      replace hm := bif_t hc1435 hm
      refine wp_ift (congrArg Value.bool hc1435) ?_
      refine wp_skip ?_
      refine then_n ?_
      refine wp_seq ?_
      refine wp_block ?_
      refine wp_region_St hst 11 [0, 1, 2, 3, 4, 5, 6, 7, 8, 9, 10] [0, 1, 0, 4, 0, 28, 60, 124, 255, 511, 1023] [] rfl (by kernel_rfl) (by kernel_rfl) Try.mixed (by kernel_rfl) ?_
      refine ws_q (v := .pointer (some ⟨b1317, 3, none⟩)) 0 [1, 2, 3, 4, 5, 6, 7, 8, 9, 10] (by kernel_rfl) rfl rfl (yi_run rfl (fun w hst => x_field rfl Try.underlying39 rfl Try.sizeOf36 rfl)) ?_
      refine ws_q (v := v1422) 1 [2, 3, 4, 5, 6, 7, 8, 9, 10] (by kernel_rfl) rfl rfl (yi_run rfl (fun w hst => x_load rfl Try.isAgg36 (hst.bc2 rfl))) ?_
      refine ws_q (v := p0) 2 [3, 4, 5, 6, 7, 8, 9, 10] (by kernel_rfl) rfl rfl (yi_run rfl (fun w hst => rfl)) ?_
      refine ws_q (v := p0) 4 [3, 5, 6, 7, 8, 9, 10] (by kernel_rfl) rfl rfl (yi_run rfl (fun w hst => rfl)) ?_
      refine ws_e1 3 (by kernel_rfl) ?_
      refine nxe [5, 6, 7, 8, 9, 10] (by kernel_rfl) rfl rfl ?_
      clear hst
      intro w hst
      replace hst := hst.pull1
      obtain ⟨t1436, ht1437, hm⟩ := bind_some hm
      refine we_call rfl (x_call Try.call42 rfl (vs := [p0]) rfl) ?_
      refine (octet_Reader_Flag_ref hst.to1 ht1437).mono ?_
      rintro _ w1438 ⟨rfl, hst⟩
      refine ⟨_, rfl, ?_⟩
      replace hst := hst.of1
      refine ws_next (pend' := [(4, p0), (1, v1422), (0, .pointer (some ⟨b1317, 3, none⟩))]) hst (by kernel_rfl) (pk_cons rfl (yi_run rfl (fun w hst => rfl)) (pk_cons rfl (yi_run rfl (fun w hst => x_load rfl Try.isAgg36 (hst.bc2 rfl))) (pk_cons rfl (yi_run rfl (fun w hst => x_field rfl Try.underlying39 rfl Try.sizeOf36 rfl)) pk_nil))) ?_
      refine ws_e1 5 (by kernel_rfl) ?_
      refine nxe [6, 7, 8, 9, 10] (by kernel_rfl) rfl rfl ?_
      clear hst
      intro w hst
      obtain ⟨t1441, ht1442, hm⟩ := bind_some hm
      refine we_call rfl (x_call Try.call43 rfl (vs := [p0, .int .i64 (256:Int)]) rfl) ?_
      refine (octet_Reader_Bytes_ref hst.to1 ht1442).mono ?_
      rintro _ w1443 ⟨v1446, rfl, hst⟩
      refine ⟨_, rfl, ?_⟩
      replace hst := hst.of2
      refine ws_next (pend' := [(1, v1422), (0, .pointer (some ⟨b1317, 3, none⟩))]) hst (by kernel_rfl) (pk_cons rfl (yi_run rfl (fun w hst => x_load rfl Try.isAgg36 (hst.bc3 rfl))) (pk_cons rfl (yi_run rfl (fun w hst => x_field rfl Try.underlying39 rfl Try.sizeOf36 rfl)) pk_nil)) ?_
      refine ws_q (v := .agg #[.bool t1436.1, v1446]) 6 [7, 8, 9, 10] (by kernel_rfl) rfl rfl (yi_run rfl (fun w hst => by obtain ⟨_, _, hv_, _⟩ := hst.sv0; rw [hv_]; kernel_rfl)) ?_
      refine ws_e1 7 (by kernel_rfl) ?_
      refine nxe [8, 9, 10] (by kernel_rfl) rfl rfl ?_
      clear hst
      intro w hst
      obtain ⟨I1450, hI1451, f1452, hst⟩ := hst.own_fix
      replace hI0 := hI0.trans hI1451
      replace hL1473 := hL1473.trans hI1451
      replace hL1430 := hL1430.trans hI1451
      obtain ⟨b1453, w1454, ew1455, eb1456, hst⟩ := hst.lits (E := ty_api_Got) (xs := [({ Has := t1436.1, Val := t1441.1 } : api_Got)]) [[.bool t1436.1, v1446]] 51 1 rfl (Reps.cons ⟨_, rfl, f1452, one_of_sliceV (ro_sliceV f1452)⟩ Reps.nil)
      refine we_run (v := (.slice (some ⟨b1453, 0, none⟩) 1 1)) (w' := w1454) rfl (x_als (by kernel_rfl) ew1455 eb1456) ?_
      refine ws_next (pend' := [(1, v1422), (0, .pointer (some ⟨b1317, 3, none⟩))]) hst (by kernel_rfl) (pk_cons rfl (yi_run rfl (fun w hst => x_load rfl Try.isAgg36 (hst.bc3 rfl))) (pk_cons rfl (yi_run rfl (fun w hst => x_field rfl Try.underlying39 rfl Try.sizeOf36 rfl)) pk_nil)) ?_
      refine ws_e1 8 (by kernel_rfl) ?_
      refine nxe [9, 10] (by kernel_rfl) rfl rfl ?_
      clear hst
      intro w hst
      obtain ⟨hg1458, hm⟩ := gd_some hm
      replace hst := hst.pull2
      obtain ⟨v1459, w1460, hr1461, hst⟩ := run_append elem_36 Try.underlying36 hst hst.src1 (room_of hg1458 rfl) 36
      refine we_run (v := v1459) (w' := w1460) rfl (x_append rfl rfl hr1461) ?_
      refine ws_next (pend' := []) hst (by kernel_rfl) pk_nil ?_
      refine ws_q (v := .pointer (some ⟨b1317, 3, none⟩)) 9 [10] (by kernel_rfl) rfl rfl (yi_run rfl (fun w hst => x_field rfl Try.underlying39 rfl Try.sizeOf36 rfl)) ?_
      refine ws_e1 10 (by kernel_rfl) ?_
      refine nxe [] (by kernel_rfl) rfl rfl ?_
      clear hst
      intro w hst
      replace hst := hst.pull3
      obtain ⟨w1462, hr1463, hst⟩ := hst.boxStore1 (P := Try.prog) (t := 36) (cs' := [.int .i64 (IntKind.i64.wrap t1298.1), .int .u64 t1303.1, .int .u64 t1308.1, v1459, (.slice none 0 0)]) 3 v1459 (one_of_sliceV hst.sv1) Try.sizeOf36 rfl rfl
      refine we_unit rfl (x_unit hr1463) ?_
      refine ws_next (pend' := []) hst (by kernel_rfl) pk_nil ?_
      refine ws_nil ?_
      intro w hst
      refine blk_n ?_
      refine then_n ?_
      refine wp_region_lit ?_
      refine wl_val (v := .int .i64 (IntKind.i64.wrap (z1425 + (1:Int)))) rfl rfl rfl ?_
      refine wl_val (v := .int .i64 (IntKind.i64.wrap (z1425 + (1:Int)))) rfl rfl rfl ?_
      refine wl_nil ?_
      refine then_n ?_
      replace hst := hst.pull4
      replace hst := hst.pull1
      replace hst := hst.pull4
      replace hst := hst.pull3
      replace hst := hst.keep4
      obtain rfl := some_inj hm
      exact ⟨_, Nat.lt_succ_self _, _, (z1421 ++ ([({ Has := t1436.1, Val := t1441.1 } : api_Got)])), t1441.2, (IntKind.i64.wrap (z1425 + (1:Int))), v1459, _, hx1433, ((fr_upd (t := 0) (v := p0) rfl).trans ((fr_upd (t := 2) (v := .pointer (some ⟨b1293, 0, none⟩)) rfl).trans ((fr_upd (t := 3) (v := .pointer (some ⟨b1317, 0, none⟩)) rfl).trans ((fr_upd (t := 14) (v := .int .i64 t1324.1) rfl).trans ((fr_upd (t := 15) (v := .int .i64 (IntKind.i64.wrap (z1425 + (1:Int)))) rfl).trans rfl))))), hL1430, hst⟩
    · skip
      replace hm := bif_f hc1435 hm
      refine wp_iff (congrArg Value.bool hc1435) ?_
      refine wp_exit ?_
      refine then_x ?_
      refine then_x ?_
      replace hm := inr_up hm hx1433
      refine blk_x ?_
      refine then_n ?_
      replace hst := hst.pull2
      replace hst := hst.pull3
      replace hst := hst.pull3
      replace hst := hst.keep4
      obtain rfl := some_inj hm
      exact ⟨_, z1424, z1421, v1422, _, hx1472, ((fr_upd (t := 0) (v := p0) rfl).trans ((fr_upd (t := 2) (v := .pointer (some ⟨b1293, 0, none⟩)) rfl).trans ((fr_upd (t := 3) (v := .pointer (some ⟨b1317, 0, none⟩)) rfl).trans rfl))), hL1473, hst⟩
  · skip
    clear hst
    rintro _ w1474 ⟨I1468, z1464, z1467, v1466, σ1469, hm, rfl, hL1470, hst⟩
    dsimp only [command_ReadReply_j0] at hm
    replace hI0 := hI0.trans hL1470
    refine wp_seq ?_
    refine wp_seq ?_
    refine wp_region_lit ?_
    refine wl_val (v := p0) rfl rfl rfl ?_
    obtain ⟨t1475, ht1476, hm⟩ := bind_some hm
    refine wl_call rfl rfl (x_call Try.call41 rfl (vs := [p0, .int .i64 (32:Int)]) rfl) ?_
    refine (octet_Reader_Count_ref hst.to1 ht1476).mono ?_
    rintro _ w1477 ⟨rfl, hst⟩
    refine ⟨_, rfl, ?_⟩
    replace hst := hst.of1
    refine wl_val (v := .int .i64 (0:Int)) rfl rfl rfl ?_
    refine wl_nil ?_
    refine then_n ?_
    refine wp_block ?_
    replace hst := hst.own_nil (tySl ty_api_Pair)
    obtain ⟨n2032, hm⟩ := loopO_some hm
    refine wp_loop_n (fun n a w => ∃ (I2030 : HL) (z2025 : (List (List api_Pair))) (z2028 : octet_Reader) (z2029 : Int) (v2026 : Value) (σ2031 : Nat → Value), loopN (command_ReadReply_l2 t1475 t1298 t1303 t1308 z1467) n (z2025, z2028, z2029) = some r ∧ a = Fr 54 (upd (upd (upd (upd (upd σ2031 0 (p0)) 2 (.pointer (some ⟨b1293, 0, none⟩))) 3 (.pointer (some ⟨b1317, 0, none⟩))) 29 (.int .i64 t1475.1)) 30 (.int .i64 z2029)) ∧ I1468.le I2030 ∧ St w0 w I2030 [ownS (tySl ty_api_Pair) v2026 z2025, at_octet_Reader p0 z2028, cells b1293 [.int .i64 (0:Int), .int .u64 (0:Int), .int .u64 (0:Int), (.slice none 0 0), (.slice none 0 0)], cells b1317 [.int .i64 (IntKind.i64.wrap t1298.1), .int .u64 t1303.1, .int .u64 t1308.1, v1466, v2026], ownS ty_api_Got v1466 z1467] R) n2032 ⟨_, [], t1475.2, (0:Int), (.slice none 0 0), _, hm, ((fr_upd (t := 0) (v := p0) rfl).trans ((fr_upd (t := 2) (v := .pointer (some ⟨b1293, 0, none⟩)) rfl).trans ((fr_upd (t := 3) (v := .pointer (some ⟨b1317, 0, none⟩)) rfl).trans ((fr_upd (t := 29) (v := .int .i64 t1475.1) rfl).trans ((fr_upd (t := 30) (v := .int .i64 (0:Int)) rfl).trans rfl))))), (HL.le.refl _), hst⟩ ?_
    rintro n2038 _ w2033 ⟨I2030, z2025, z2028, z2029, v2026, σ2031, hm, rfl, hL2034, hst⟩
    obtain ⟨n2035, y2036, rfl, hm, hx2037⟩ := loopN_some hm
    dsimp only [command_ReadReply_l2] at hm
    replace hI0 := hI0.trans hL2034
    refine wp_seq ?_
    refine wp_region_lit ?_
    refine wl_val (v := .bool (decide (z2029 < t1475.1))) rfl rfl rfl ?_
    refine wl_nil ?_
    refine then_n ?_
    refine wp_seq ?_
    refine bsplit (decide (z2029 < t1475.1)) (fun hc2039 => ?_) (fun hc2039 => ?_)
    · skip
      replace hm := bif_t hc2039 hm
      refine wp_ift (congrArg Value.bool hc2039) ?_
      refine wp_skip ?_
      refine then_n ?_
      refine wp_seq ?_
      refine wp_block ?_
      refine wp_seq ?_
      refine wp_region_lit ?_
      refine wl_val (v := (.slice none 0 0)) rfl rfl rfl ?_
      refine wl_nil ?_
      refine then_n ?_
      obtain ⟨y2200, hm, hx2201⟩ := bind_some hm
      refine wp_cut (fun a w => ∃ (I2197 : HL) (z2193 : octet_Reader) (z2196 : (List api_Pair)) (v2195 : Value) (σ2198 : Nat → Value), (command_ReadReply_j3 z2025 z2029) (z2193, z2196) = some y2036 ∧ a = Fr 54 (upd (upd (upd (upd (upd (upd σ2198 0 (p0)) 2 (.pointer (some ⟨b1293, 0, none⟩))) 3 (.pointer (some ⟨b1317, 0, none⟩))) 4 (v2195)) 29 (.int .i64 t1475.1)) 30 (.int .i64 z2029)) ∧ I2030.le I2197 ∧ St w0 w I2197 [at_octet_Reader p0 z2193, cells b1293 [.int .i64 (0:Int), .int .u64 (0:Int), .int .u64 (0:Int), (.slice none 0 0), (.slice none 0 0)], cells b1317 [.int .i64 (IntKind.i64.wrap t1298.1), .int .u64 t1303.1, .int .u64 t1308.1, v1466, v2026], ownS ty_api_Got v1466 z1467, ownS (tySl ty_api_Pair) v2026 z2025, ownS ty_api_Pair v2195 z2196] R) ?_ ?_
      · skip
        have hL2202 := HL.le.refl I2030
        refine wp_seq ?_
        refine wp_region_lit ?_
        refine wl_val (v := p0) rfl rfl rfl ?_
        replace hst := hst.pull1
        obtain ⟨t2041, ht2042, hm⟩ := bind_some hm
        refine wl_call rfl rfl (x_call Try.call41 rfl (vs := [p0, .int .i64 (64:Int)]) rfl) ?_
        refine (octet_Reader_Count_ref hst.to1 ht2042).mono ?_
        rintro _ w2043 ⟨rfl, hst⟩
        refine ⟨_, rfl, ?_⟩
        replace hst := hst.of1
        refine wl_val (v := .int .i64 (0:Int)) rfl rfl rfl ?_
        refine wl_nil ?_
        refine then_n ?_
        refine wp_block ?_
        replace hst := hst.own_nil ty_api_Pair
        obtain ⟨n2154, hm⟩ := loopO_some hm
        refine wp_loop_n (fun n a w => ∃ (I2152 : HL) (z2147 : octet_Reader) (z2148 : Int) (z2149 : (List api_Pair)) (v2150 : Value) (σ2153 : Nat → Value), loopN (command_ReadReply_l4 t2041) n (z2147, z2148, z2149) = some y2200 ∧ a = Fr 54 (upd (upd (upd (upd (upd (upd (upd (upd σ2153 0 (p0)) 2 (.pointer (some ⟨b1293, 0, none⟩))) 3 (.pointer (some ⟨b1317, 0, none⟩))) 4 (v2150)) 29 (.int .i64 t1475.1)) 30 (.int .i64 z2029)) 33 (.int .i64 t2041.1)) 34 (.int .i64 z2148)) ∧ I2030.le I2152 ∧ St w0 w I2152 [ownS ty_api_Pair v2150 z2149, at_octet_Reader p0 z2147, ownS (tySl ty_api_Pair) v2026 z2025, cells b1293 [.int .i64 (0:Int), .int .u64 (0:Int), .int .u64 (0:Int), (.slice none 0 0), (.slice none 0 0)], cells b1317 [.int .i64 (IntKind.i64.wrap t1298.1), .int .u64 t1303.1, .int .u64 t1308.1, v1466, v2026], ownS ty_api_Got v1466 z1467] R) n2154 ⟨_, t2041.2, (0:Int), [], (.slice none 0 0), _, hm, ((fr_upd (t := 0) (v := p0) rfl).trans ((fr_upd (t := 2) (v := .pointer (some ⟨b1293, 0, none⟩)) rfl).trans ((fr_upd (t := 3) (v := .pointer (some ⟨b1317, 0, none⟩)) rfl).trans ((fr_upd (t := 4) (v := (.slice none 0 0)) rfl).trans ((fr_upd (t := 29) (v := .int .i64 t1475.1) rfl).trans ((fr_upd (t := 30) (v := .int .i64 z2029) rfl).trans ((fr_upd (t := 33) (v := .int .i64 t2041.1) rfl).trans ((fr_upd (t := 34) (v := .int .i64 (0:Int)) rfl).trans rfl)))))))), (HL.le.refl _), hst⟩ ?_
        rintro n2160 _ w2155 ⟨I2152, z2147, z2148, z2149, v2150, σ2153, hm, rfl, hL2156, hst⟩
        obtain ⟨n2157, y2158, rfl, hm, hx2159⟩ := loopN_some hm
        dsimp only [command_ReadReply_l4] at hm
        replace hI0 := hI0.trans hL2156
        replace hL2034 := hL2034.trans hL2156
        replace hL2202 := hL2202.trans hL2156
        refine wp_seq ?_
        refine wp_region_lit ?_
        refine wl_val (v := .bool (decide (z2148 < t2041.1))) rfl rfl rfl ?_
        refine wl_nil ?_
        refine then_n ?_
        refine wp_seq ?_
        refine bsplit (decide (z2148 < t2041.1)) (fun hc2161 => ?_) (fun hc2161 => ?_)
        · skip
          replace hm := bif_t hc2161 hm
          refine wp_ift (congrArg Value.bool hc2161) ?_
          refine wp_skip ?_
          refine then_n ?_
          refine wp_seq ?_
          refine wp_block ?_
          refine wp_region_lit ?_
          refine wl_val (v := v2150) rfl rfl rfl ?_
          refine wl_val (v := p0) rfl rfl rfl ?_
          replace hst := hst.pull1
          obtain ⟨t2162, ht2163, hm⟩ := bind_some hm
          refine wl_call rfl rfl (x_call Try.call40 rfl (vs := [p0, .int .i64 (8:Int)]) rfl) ?_
          refine (octet_Reader_Num_ref hst.to1 ht2163).mono ?_
          rintro _ w2164 ⟨rfl, hst⟩
          refine ⟨_, rfl, ?_⟩
          replace hst := hst.of1
          obtain ⟨t2167, ht2168, hm⟩ := bind_some hm
          refine wl_call rfl rfl (x_call Try.call44 rfl (vs := [.int .u64 t2162.1]) rfl) ?_
          refine (number_Back_ref hst.to0 ht2168).mono ?_
          rintro _ w2169 ⟨rfl, hst⟩
          refine ⟨_, rfl, ?_⟩
          replace hst := hst.of0
          refine wl_val (v := p0) rfl rfl rfl ?_
          obtain ⟨t2172, ht2173, hm⟩ := bind_some hm
          refine wl_call rfl rfl (x_call Try.call43 rfl (vs := [p0, .int .i64 (256:Int)]) rfl) ?_
          refine (octet_Reader_Bytes_ref hst.to1 ht2173).mono ?_
          rintro _ w2174 ⟨v2177, rfl, hst⟩
          refine ⟨_, rfl, ?_⟩
          replace hst := hst.of2
          refine wl_val (v := .agg #[.float .f64 t2167, v2177]) rfl rfl (by obtain ⟨_, _, hv_, _⟩ := hst.sv0; rw [hv_]; kernel_rfl) ?_
          obtain ⟨I2181, hI2182, f2183, hst⟩ := hst.own_fix
          replace hI0 := hI0.trans hI2182
          replace hL2034 := hL2034.trans hI2182
          replace hL2202 := hL2202.trans hI2182
          replace hL2156 := hL2156.trans hI2182
          obtain ⟨b2184, w2185, ew2186, eb2187, hst⟩ := hst.lits (E := ty_api_Pair) (xs := [({ At := t2167, Val := t2172.1 } : api_Pair)]) [[.float .f64 t2167, v2177]] 54 1 rfl (Reps.cons ⟨_, rfl, f2183, one_of_sliceV (ro_sliceV f2183)⟩ Reps.nil)
          refine wl_run (v := (.slice (some ⟨b2184, 0, none⟩) 1 1)) (w' := w2185) rfl rfl (x_als (by kernel_rfl) ew2186 eb2187) ?_
          obtain ⟨hg2189, hm⟩ := gd_some hm
          replace hst := hst.pull2
          obtain ⟨v2190, w2191, hr2192, hst⟩ := run_append elem_52 Try.underlying52 hst hst.src1 (room_of hg2189 rfl) 52
          refine wl_run (v := v2190) (w' := w2191) rfl rfl (x_append rfl rfl hr2192) ?_
          refine wl_val (v := v2190) rfl rfl rfl ?_
          refine wl_nil ?_
          refine blk_n ?_
          refine then_n ?_
          refine wp_region_lit ?_
          refine wl_val (v := .int .i64 (IntKind.i64.wrap (z2148 + (1:Int)))) rfl rfl rfl ?_
          refine wl_val (v := .int .i64 (IntKind.i64.wrap (z2148 + (1:Int)))) rfl rfl rfl ?_
          refine wl_nil ?_
          refine then_n ?_
          replace hst := hst.pull6
          replace hst := hst.pull6
          replace hst := hst.pull6
          replace hst := hst.pull6
          replace hst := hst.pull6
          replace hst := hst.pull5
          replace hst := hst.keep6
          obtain rfl := some_inj hm
          exact ⟨_, Nat.lt_succ_self _, _, t2172.2, (IntKind.i64.wrap (z2148 + (1:Int))), (z2149 ++ ([({ At := t2167, Val := t2172.1 } : api_Pair)])), v2190, _, hx2159, ((fr_upd (t := 0) (v := p0) rfl).trans ((fr_upd (t := 2) (v := .pointer (some ⟨b1293, 0, none⟩)) rfl).trans ((fr_upd (t := 3) (v := .pointer (some ⟨b1317, 0, none⟩)) rfl).trans ((fr_upd (t := 4) (v := v2190) rfl).trans ((fr_upd (t := 29) (v := .int .i64 t1475.1) rfl).trans ((fr_upd (t := 30) (v := .int .i64 z2029) rfl).trans ((fr_upd (t := 33) (v := .int .i64 t2041.1) rfl).trans ((fr_upd (t := 34) (v := .int .i64 (IntKind.i64.wrap (z2148 + (1:Int)))) rfl).trans rfl)))))))), hL2156, hst⟩
        · skip
          replace hm := bif_f hc2161 hm
          refine wp_iff (congrArg Value.bool hc2161) ?_
          refine wp_exit ?_
          refine then_x ?_
          refine then_x ?_
          replace hm := inr_up hm hx2159
          refine blk_x ?_
          refine then_n ?_
          replace hst := hst.pull2
          replace hst := hst.pull5
          replace hst := hst.pull5
          replace hst := hst.pull5
          replace hst := hst.pull5
          replace hst := hst.keep6
          obtain rfl := some_inj hm
          exact ⟨_, z2147, z2149, v2150, _, hx2201, ((fr_upd (t := 0) (v := p0) rfl).trans ((fr_upd (t := 2) (v := .pointer (some ⟨b1293, 0, none⟩)) rfl).trans ((fr_upd (t := 3) (v := .pointer (some ⟨b1317, 0, none⟩)) rfl).trans ((fr_upd (t := 4) (v := v2150) rfl).trans ((fr_upd (t := 29) (v := .int .i64 t1475.1) rfl).trans ((fr_upd (t := 30) (v := .int .i64 z2029) rfl).trans rfl)))))), hL2202, hst⟩
      · skip
        clear hst
        rintro _ w2203 ⟨I2197, z2193, z2196, v2195, σ2198, hm, rfl, hL2199, hst⟩
        dsimp only [command_ReadReply_j3] at hm
        replace hI0 := hI0.trans hL2199
        replace hL2034 := hL2034.trans hL2199
        refine wp_region_lit ?_
        refine wl_val (v := .pointer (some ⟨b1317, 4, none⟩)) rfl rfl (x_field rfl Try.underlying39 rfl Try.sizeOf37 rfl) ?_
        refine wl_val (v := v2026) rfl rfl (x_load rfl Try.isAgg37 (hst.bc2 rfl)) ?_
        refine wl_val (v := v2195) rfl rfl rfl ?_
        replace hst := hst.pull5
        obtain ⟨I2205, hI2206, f2207, hst⟩ := hst.own_fix
        replace hI0 := hI0.trans hI2206
        replace hL2034 := hL2034.trans hI2206
        obtain ⟨b2208, w2209, ew2210, eb2211, hst⟩ := hst.lits (E := (tySl ty_api_Pair)) (xs := [z2196]) [[v2195]] 52 1 rfl (Reps.cons ⟨_, rfl, f2207, one_of_sliceV (ro_sliceV f2207)⟩ Reps.nil)
        refine wl_run (v := (.slice (some ⟨b2208, 0, none⟩) 1 1)) (w' := w2209) rfl rfl (x_als (by obtain ⟨_, _, hv_, _⟩ := (ro_sliceV f2207); rw [hv_]; kernel_rfl) ew2210 eb2211) ?_
        obtain ⟨hg2213, hm⟩ := gd_some hm
        replace hst := hst.pull5
        obtain ⟨v2214, w2215, hr2216, hst⟩ := run_append elem_37 Try.underlying37 hst hst.src1 (room_of hg2213 rfl) 37
        refine wl_run (v := v2214) (w' := w2215) rfl rfl (x_append rfl rfl hr2216) ?_
        refine wl_val (v := .pointer (some ⟨b1317, 4, none⟩)) rfl rfl (x_field rfl Try.underlying39 rfl Try.sizeOf37 rfl) ?_
        replace hst := hst.pull4
        obtain ⟨w2217, hr2218, hst⟩ := hst.boxStore1 (P := Try.prog) (t := 37) (cs' := [.int .i64 (IntKind.i64.wrap t1298.1), .int .u64 t1303.1, .int .u64 t1308.1, v1466, v2214]) 4 v2214 (one_of_sliceV hst.sv1) Try.sizeOf37 rfl rfl
        refine wl_unit rfl rfl (x_unit hr2218) ?_
        refine wl_nil ?_
        refine blk_n ?_
        refine then_n ?_
        refine wp_region_lit ?_
        refine wl_val (v := .int .i64 (IntKind.i64.wrap (z2029 + (1:Int)))) rfl rfl rfl ?_
        refine wl_val (v := .int .i64 (IntKind.i64.wrap (z2029 + (1:Int)))) rfl rfl rfl ?_
        refine wl_nil ?_
        refine then_n ?_
        replace hst := hst.pull5
        replace hst := hst.pull1
        replace hst := hst.pull5
        replace hst := hst.pull5
        replace hst := hst.pull4
        replace hst := hst.keep5
        obtain rfl := some_inj hm
        exact ⟨_, Nat.lt_succ_self _, _, (z2025 ++ ([z2196])), z2193, (IntKind.i64.wrap (z2029 + (1:Int))), v2214, _, hx2037, ((fr_upd (t := 0) (v := p0) rfl).trans ((fr_upd (t := 2) (v := .pointer (some ⟨b1293, 0, none⟩)) rfl).trans ((fr_upd (t := 3) (v := .pointer (some ⟨b1317, 0, none⟩)) rfl).trans ((fr_upd (t := 29) (v := .int .i64 t1475.1) rfl).trans ((fr_upd (t := 30) (v := .int .i64 (IntKind.i64.wrap (z2029 + (1:Int)))) rfl).trans rfl))))), hL2034, hst⟩
    · skip
      replace hm := bif_f hc2039 hm
      refine wp_iff (congrArg Value.bool hc2039) ?_
      refine wp_exit ?_
      refine then_x ?_
      refine then_x ?_
      replace hm := inr_up hm hx2037
      refine blk_x ?_
      refine then_n ?_
      refine wp_seq ?_
      refine wp_region_lit ?_
      refine wl_val (v := .agg #[.int .i64 (IntKind.i64.wrap t1298.1), .int .u64 t1303.1, .int .u64 t1308.1, v1466, v2026]) rfl rfl (x_loadN (cs := [.int .i64 (IntKind.i64.wrap t1298.1), .int .u64 t1303.1, .int .u64 t1308.1, v1466, v2026]) rfl Try.isAgg39 Try.sizeOf39 (hst.bcs3 0 rfl)) ?_
      replace hst := hst.pull2
      obtain ⟨w2219, hr2220, hst⟩ := hst.boxStore (P := Try.prog) (t := 39) (cs' := [.int .i64 (IntKind.i64.wrap t1298.1), .int .u64 t1303.1, .int .u64 t1308.1, v1466, v2026]) 0 (.agg #[.int .i64 (IntKind.i64.wrap t1298.1), .int .u64 t1303.1, .int .u64 t1308.1, v1466, v2026]) Try.sizeOf39 (Nat.le_of_ble_eq_true rfl) (ones_cons rfl (ones_cons rfl (ones_cons rfl (ones_cons (one_of_sliceV hst.sv4) (ones_cons (one_of_sliceV hst.sv1) ones_nil))))) (by kernel_rfl)
      refine wl_unit rfl rfl (x_unit hr2220) ?_
      refine wl_nil ?_
      refine then_n ?_
      refine wp_ret ?_
      obtain rfl := some_inj hm
      refine post_ret (vs := [.agg #[.int .i64 (IntKind.i64.wrap t1298.1), .int .u64 t1303.1, .int .u64 t1308.1, v1466, v2026]]) Try.results16 (rvs_cons (rv_cell (cs := [.int .i64 (IntKind.i64.wrap t1298.1), .int .u64 t1303.1, .int .u64 t1308.1, v1466, v2026]) rfl Try.isAgg39 Try.sizeOf39 (hst.bcs0 0 rfl)) rvs_nil) ?_
      replace hst := hst.pull2
      replace hst := hst.pull2
      replace hst := hst.pull4
      exact ⟨_, v1466, v2026, rfl, hI0, hst.keep3⟩

theorem ref02_Num_ref {w0 w : World} {I : HL} {R : SP} {a0 : (List Int)} {r0_0 : Value} {a1 : Int} {a2 : Int} (f0_0 : Rd (tyInt .u8) R I r0_0 a0) (hst : St w0 w I [] R) {r : ((List Int))} (hm : ref02_Num a0 a1 a2 = some r) :
    Calls Try.prog 45 #[r0_0, .int .u64 a1, .int .i64 a2] w fun e w' => ∃ (q0_0 : Value), e = .returned (q0_0) ∧ St w0 w' I [ownS (tyInt .u8) q0_0 r] R := by
  unfold ref02_Num at hm
  refine calls_start (args := [r0_0, .int .u64 a1, .int .i64 a2]) Try.func45 rfl Try.ntmps45 (Nat.le_of_ble_eq_true rfl) ?_
  refine wp_seq ?_
  refine wp_region_lit ?_
  refine wl_val (v := (.slice none 0 0)) rfl rfl rfl ?_
  refine wl_nil ?_
  refine then_n ?_
  refine wp_seq ?_
  refine wp_region_lit ?_
  refine wl_val (v := (.slice none 0 0)) rfl rfl rfl ?_
  refine wl_nil ?_
  refine then_n ?_
  refine wp_seq ?_
  refine wp_region_lit ?_
  refine wl_val (v := (.slice none 0 0)) rfl rfl rfl ?_
  refine wl_val (v := r0_0) rfl rfl rfl ?_
  replace hst := hst.own_nil (tyInt .u8)
  obtain ⟨hg444, hm⟩ := gd_some hm
  obtain ⟨v445, w446, hr447, hst⟩ := run_append elem_22 Try.underlying22 hst (Src.of_rd hst f0_0 flat_int) (room_of hg444 rfl) 22
  replace hst := St.nil_app hst
  refine wl_run (v := v445) (w' := w446) rfl rfl (x_append rfl rfl hr447) ?_
  refine wl_val (v := v445) rfl rfl rfl ?_
  refine wl_nil ?_
  refine then_n ?_
  refine wp_seq ?_
  refine wp_seq ?_
  refine wp_region_lit ?_
  refine wl_val (v := .int .i64 (0:Int)) rfl rfl rfl ?_
  refine wl_nil ?_
  refine then_n ?_
  refine wp_block ?_
  obtain ⟨n479, hm⟩ := loopO_some hm
  refine wp_loop_n (fun n a w => ∃ (z473 : Int) (z474 : (List Int)) (z477 : Int) (v475 : Value) (σ478 : Nat → Value), loopN (ref02_Num_l0 a2) n (z473, z474, z477) = some r ∧ a = Fr 26 (upd (upd (upd (upd σ478 1 (.int .u64 z473)) 2 (.int .i64 a2)) 7 (v475)) 8 (.int .i64 z477)) ∧ St w0 w I [ownS (tyInt .u8) v475 z474] R) n479 ⟨a1, a0, (0:Int), v445, _, hm, ((fr_upd (t := 1) (v := .int .u64 a1) rfl).trans ((fr_upd (t := 2) (v := .int .i64 a2) rfl).trans ((fr_upd (t := 7) (v := v445) rfl).trans ((fr_upd (t := 8) (v := .int .i64 (0:Int)) rfl).trans rfl)))), hst⟩ ?_
  rintro n485 _ w480 ⟨z473, z474, z477, v475, σ478, hm, rfl, hst⟩
  obtain ⟨n482, y483, rfl, hm, hx484⟩ := loopN_some hm
  dsimp only [ref02_Num_l0] at hm
  refine wp_seq ?_
  refine wp_seq ?_
  refine wp_region_lit ?_
  refine wl_val (v := .int .i64 z477) rfl rfl rfl ?_
  refine wl_val (v := .int .i64 a2) rfl rfl rfl ?_
  refine wl_val (v := .bool (decide (z477 < a2))) rfl rfl rfl ?_
  refine wl_nil ?_
  refine then_n ?_
  refine bsplit (decide (z477 < a2)) (fun hc486 => ?_) (fun hc486 => ?_)
  · skip
    replace hm := bif_t hc486 hm
    refine wp_ift (congrArg Value.bool hc486) ?_
    refine wp_skip ?_
    refine then_n ?_
    refine wp_seq ?_
    refine wp_block ?_
    refine wp_seq ?_
    refine wp_region_lit ?_
    refine wl_val (v := v475) rfl rfl rfl ?_
    refine wl_val (v := .int .u64 z473) rfl rfl rfl ?_
    refine wl_val (v := .int .u64 (bAnd .u64 z473 (255:Int))) rfl rfl rfl ?_
    refine wl_val (v := .int .u8 (IntKind.u8.wrap (bAnd .u64 z473 (255:Int)))) rfl rfl (by kernel_rfl) ?_
    obtain ⟨b487, w488, ew489, eb490, hst⟩ := hst.lits (E := (tyInt .u8)) (xs := [(IntKind.u8.wrap (bAnd .u64 z473 (255:Int)))]) [[.int .u8 (IntKind.u8.wrap (bAnd .u64 z473 (255:Int)))]] 5 1 rfl (Reps.cons rfl Reps.nil)
    refine wl_run (v := (.slice (some ⟨b487, 0, none⟩) 1 1)) (w' := w488) rfl rfl (x_als (by kernel_rfl) ew489 eb490) ?_
    obtain ⟨hg492, hm⟩ := gd_some hm
    replace hst := hst.pull1
    obtain ⟨v493, w494, hr495, hst⟩ := run_append elem_22 Try.underlying22 hst hst.src1 (room_of hg492 rfl) 22
    refine wl_run (v := v493) (w' := w494) rfl rfl (x_append rfl rfl hr495) ?_
    refine wl_val (v := v493) rfl rfl rfl ?_
    refine wl_nil ?_
    refine then_n ?_
    refine wp_region_lit ?_
    refine wl_val (v := .int .u64 z473) rfl rfl rfl ?_
    refine wl_val (v := .int .u64 (iShr .u64 z473 (8:Int))) rfl rfl (x_shr (by decide) rfl rfl) ?_
    refine wl_val (v := .int .u64 (iShr .u64 z473 (8:Int))) rfl rfl rfl ?_
    refine wl_nil ?_
    refine blk_n ?_
    refine then_n ?_
    refine wp_region_lit ?_
    refine wl_val (v := .int .i64 z477) rfl rfl rfl ?_
    refine wl_val (v := .int .i64 (IntKind.i64.wrap (z477 + (1:Int)))) rfl rfl rfl ?_
    refine wl_val (v := .int .i64 (IntKind.i64.wrap (z477 + (1:Int)))) rfl rfl rfl ?_
    refine wl_nil ?_
    refine then_n ?_
    replace hst := hst.keep1
    obtain rfl := some_inj hm
    exact ⟨_, Nat.lt_succ_self _, (iShr .u64 z473 (8:Int)), (z474 ++ ([(IntKind.u8.wrap (bAnd .u64 z473 (255:Int)))])), (IntKind.i64.wrap (z477 + (1:Int))), v493, _, hx484, ((fr_upd (t := 1) (v := .int .u64 (iShr .u64 z473 (8:Int))) rfl).trans ((fr_upd (t := 2) (v := .int .i64 a2) rfl).trans ((fr_upd (t := 7) (v := v493) rfl).trans ((fr_upd (t := 8) (v := .int .i64 (IntKind.i64.wrap (z477 + (1:Int)))) rfl).trans rfl)))), hst⟩
  · skip
    replace hm := bif_f hc486 hm
    refine wp_iff (congrArg Value.bool hc486) ?_
    refine wp_exit ?_
    refine then_x ?_
    refine then_x ?_
    replace hm := inr_up hm hx484
    refine blk_x ?_
    refine then_n ?_
    refine wp_seq ?_
    refine wp_region_lit ?_
    refine wl_val (v := v475) rfl rfl rfl ?_
    refine wl_val (v := v475) rfl rfl rfl ?_
    refine wl_nil ?_
    refine then_n ?_
    refine wp_ret ?_
    obtain rfl := some_inj hm
    refine post_ret (vs := [v475]) Try.results45 (rvs_cons (rv_tmp rfl) rvs_nil) ?_
    exact ⟨v475, rfl, hst.keep1⟩

theorem ref02_Flag_ref {w0 w : World} {I : HL} {R : SP} {a0 : (List Int)} {r0_0 : Value} {a1 : Bool} (f0_0 : Rd (tyInt .u8) R I r0_0 a0) (hst : St w0 w I [] R) {r : ((List Int))} (hm : ref02_Flag a0 a1 = some r) :
    Calls Try.prog 47 #[r0_0, .bool a1] w fun e w' => ∃ (q0_0 : Value), e = .returned (q0_0) ∧ St w0 w' I [ownS (tyInt .u8) q0_0 r] R := by
  unfold ref02_Flag at hm
  refine calls_start (args := [r0_0, .bool a1]) Try.func47 rfl Try.ntmps47 (Nat.le_of_ble_eq_true rfl) ?_
  refine wp_seq ?_
  refine wp_region_lit ?_
  refine wl_val (v := (.slice none 0 0)) rfl rfl rfl ?_
  refine wl_nil ?_
  refine then_n ?_
  refine wp_seq ?_
  refine wp_seq ?_
  refine wp_region_lit ?_
  refine wl_val (v := .bool a1) rfl rfl rfl ?_
  refine wl_nil ?_
  refine then_n ?_
  refine bsplit a1 (fun hc440 => ?_) (fun hc440 => ?_)
  · skip
    replace hm := bif_t hc440 hm
    refine wp_ift (congrArg Value.bool hc440) ?_
    refine wp_seq ?_
    refine wp_region_lit ?_
    refine wl_val (v := r0_0) rfl rfl rfl ?_
    obtain ⟨t441, ht442, hm⟩ := bind_some hm
    refine wl_call rfl rfl (x_call Try.call45 rfl (vs := [r0_0, .int .u64 (1:Int), .int .i64 (1:Int)]) rfl) ?_
    refine (ref02_Num_ref (f0_0.mono (rd_weak _)) hst.to0 ht442).mono ?_
    rintro _ w443 ⟨v446, rfl, hst⟩
    refine ⟨_, rfl, ?_⟩
    replace hst := hst.of1
    refine wl_val (v := v446) rfl rfl rfl ?_
    refine wl_nil ?_
    refine then_n ?_
    refine wp_ret ?_
    refine then_r ?_
    obtain rfl := some_inj hm
    refine post_ret (vs := [v446]) Try.results47 (rvs_cons (rv_tmp rfl) rvs_nil) ?_
    exact ⟨v446, rfl, hst.keep1⟩
  · skip
    replace hm := bif_f hc440 hm
    refine wp_iff (congrArg Value.bool hc440) ?_
    refine wp_skip ?_
    refine then_n ?_
    refine wp_seq ?_
    refine wp_region_lit ?_
    refine wl_val (v := r0_0) rfl rfl rfl ?_
    obtain ⟨t448, ht449, hm⟩ := bind_some hm
    refine wl_call rfl rfl (x_call Try.call45 rfl (vs := [r0_0, .int .u64 (0:Int), .int .i64 (1:Int)]) rfl) ?_
    refine (ref02_Num_ref (f0_0.mono (rd_weak _)) hst.to0 ht449).mono ?_
    rintro _ w450 ⟨v453, rfl, hst⟩
    refine ⟨_, rfl, ?_⟩
    replace hst := hst.of1
    refine wl_val (v := v453) rfl rfl rfl ?_
    refine wl_nil ?_
    refine then_n ?_
    refine wp_ret ?_
    obtain rfl := some_inj hm
    refine post_ret (vs := [v453]) Try.results47 (rvs_cons (rv_tmp rfl) rvs_nil) ?_
    exact ⟨v453, rfl, hst.keep1⟩

theorem ref02_Bytes_ref {w0 w : World} {I : HL} {R : SP} {a0 : (List Int)} {r0_0 : Value} {a1 : (List Int)} {r1_0 : Value} (f0_0 : Rd (tyInt .u8) R I r0_0 a0) (f1_0 : Rd (tyInt .u8) R I r1_0 a1) (hst : St w0 w I [] R) {r : ((List Int))} (hm : ref02_Bytes a0 a1 = some r) :
    Calls Try.prog 46 #[r0_0, r1_0] w fun e w' => ∃ (q0_0 : Value), e = .returned (q0_0) ∧ St w0 w' I [ownS (tyInt .u8) q0_0 r] R := by
  unfold ref02_Bytes at hm
  refine calls_start (args := [r0_0, r1_0]) Try.func46 rfl Try.ntmps46 (Nat.le_of_ble_eq_true rfl) ?_
  refine wp_seq ?_
  refine wp_region_lit ?_
  refine wl_val (v := (.slice none 0 0)) rfl rfl rfl ?_
  refine wl_nil ?_
  refine then_n ?_
  refine wp_seq ?_
  refine wp_region_lit ?_
  refine wl_val (v := r0_0) rfl rfl rfl ?_
  refine wl_val (v := r1_0) rfl rfl rfl ?_
  refine wl_val (v := .int .i64 ((a1).length : Int)) rfl rfl (x_len rfl Try.underlying22 (rd_sliceV f1_0)) ?_
  refine wl_val (v := .int .u64 (IntKind.u64.wrap ((a1).length : Int))) rfl rfl (by kernel_rfl) ?_
  obtain ⟨t438, ht439, hm⟩ := bind_some hm
  refine wl_call rfl rfl (x_call Try.call45 rfl (vs := [r0_0, .int .u64 (IntKind.u64.wrap ((a1).length : Int)), .int .i64 (4:Int)]) rfl) ?_
  refine (ref02_Num_ref (f0_0.mono (rd_weak _)) hst.to0 ht439).mono ?_
  rintro _ w440 ⟨v443, rfl, hst⟩
  refine ⟨_, rfl, ?_⟩
  replace hst := hst.of1
  refine wl_val (v := r1_0) rfl rfl rfl ?_
  obtain ⟨hg445, hm⟩ := gd_some hm
  obtain ⟨v446, w447, hr448, hst⟩ := run_append elem_22 Try.underlying22 hst (Src.of_rd hst f1_0 flat_int) (room_of hg445 rfl) 22
  refine wl_run (v := v446) (w' := w447) rfl rfl (x_append rfl rfl hr448) ?_
  refine wl_val (v := v446) rfl rfl rfl ?_
  refine wl_nil ?_
  refine then_n ?_
  refine wp_ret ?_
  obtain rfl := some_inj hm
  refine post_ret (vs := [v446]) Try.results46 (rvs_cons (rv_tmp rfl) rvs_nil) ?_
  exact ⟨v446, rfl, hst.keep1⟩

theorem ref01_Rank_ref {w0 w : World} {I : HL} {R : SP} {a0 : Nat}  (hst : St w0 w I [] R) {r : (Int)} (hm : ref01_Rank a0 = some r) :
    Calls Try.prog 48 #[.float .f64 a0] w fun e w' => e = .returned (.int .u64 r) ∧ St w0 w' I [] R := by
  unfold ref01_Rank at hm
  refine calls_start (args := [.float .f64 a0]) Try.func48 rfl Try.ntmps48 (Nat.le_of_ble_eq_true rfl) ?_
  refine wp_seq ?_
  refine wp_region_lit ?_
  refine wl_val (v := .int .u64 (0:Int)) rfl rfl rfl ?_
  refine wl_nil ?_
  refine then_n ?_
  refine wp_seq ?_
  refine wp_region_lit ?_
  refine wl_val (v := .float .f64 a0) rfl rfl rfl ?_
  refine wl_val (v := .int .u64 (Int.ofNat a0)) rfl rfl (by kernel_rfl) ?_
  refine wl_val (v := .int .u64 (Int.ofNat a0)) rfl rfl rfl ?_
  refine wl_nil ?_
  refine then_n ?_
  refine wp_seq ?_
  refine wp_seq ?_
  refine wp_region_lit ?_
  refine wl_val (v := .float .f64 a0) rfl rfl rfl ?_
  refine wl_val (v := .float .f64 a0) rfl rfl rfl ?_
  refine wl_val (v := .bool (fNe a0 a0)) rfl rfl rfl ?_
  refine wl_nil ?_
  refine then_n ?_
  refine bsplit (fNe a0 a0) (fun hc573 => ?_) (fun hc573 => ?_)
  · skip
    replace hm := bif_t hc573 hm
    refine wp_ift (congrArg Value.bool hc573) ?_
    refine wp_seq ?_
    refine wp_region_lit ?_
    refine wl_val (v := .int .u64 (18446744073709551615:Int)) rfl rfl rfl ?_
    refine wl_nil ?_
    refine then_n ?_
    refine wp_ret ?_
    refine then_r ?_
    obtain rfl := some_inj hm
    refine post_ret (vs := [.int .u64 (18446744073709551615:Int)]) Try.results48 (rvs_cons (rv_tmp rfl) rvs_nil) ?_
    exact ⟨rfl, hst.keep0⟩
  · skip
    replace hm := bif_f hc573 hm
    refine wp_iff (congrArg Value.bool hc573) ?_
    refine wp_skip ?_
    refine then_n ?_
    refine wp_seq ?_
    refine wp_seq ?_
    refine wp_region_lit ?_
    refine wl_val (v := .int .u64 (Int.ofNat a0)) rfl rfl rfl ?_
    refine wl_val (v := .bool (decide ((Int.ofNat a0) ≥ (9223372036854775808:Int)))) rfl rfl rfl ?_
    refine wl_nil ?_
    refine then_n ?_
    refine bsplit (decide ((Int.ofNat a0) ≥ (9223372036854775808:Int))) (fun hc574 => ?_) (fun hc574 => ?_)
    · skip
      replace hm := bif_t hc574 hm
      refine wp_ift (congrArg Value.bool hc574) ?_
      refine wp_seq ?_
      refine wp_region_lit ?_
      refine wl_val (v := .int .u64 (Int.ofNat a0)) rfl rfl rfl ?_
      refine wl_val (v := .int .u64 (IntKind.u64.wrap ((18446744073709551615:Int) - (Int.ofNat a0)))) rfl rfl rfl ?_
      refine wl_val (v := .int .u64 (IntKind.u64.wrap ((18446744073709551615:Int) - (Int.ofNat a0)))) rfl rfl rfl ?_
      refine wl_nil ?_
      refine then_n ?_
      refine wp_ret ?_
      refine then_r ?_
      obtain rfl := some_inj hm
      refine post_ret (vs := [.int .u64 (IntKind.u64.wrap ((18446744073709551615:Int) - (Int.ofNat a0)))]) Try.results48 (rvs_cons (rv_tmp rfl) rvs_nil) ?_
      exact ⟨rfl, hst.keep0⟩
    · skip
      replace hm := bif_f hc574 hm
      refine wp_iff (congrArg Value.bool hc574) ?_
      refine wp_skip ?_
      refine then_n ?_
      refine wp_seq ?_
      refine wp_region_lit ?_
      refine wl_val (v := .int .u64 (Int.ofNat a0)) rfl rfl rfl ?_
      refine wl_val (v := .int .u64 (IntKind.u64.wrap ((Int.ofNat a0) + (9223372036854775808:Int)))) rfl rfl rfl ?_
      refine wl_val (v := .int .u64 (IntKind.u64.wrap ((Int.ofNat a0) + (9223372036854775808:Int)))) rfl rfl rfl ?_
      refine wl_nil ?_
      refine then_n ?_
      refine wp_ret ?_
      obtain rfl := some_inj hm
      refine post_ret (vs := [.int .u64 (IntKind.u64.wrap ((Int.ofNat a0) + (9223372036854775808:Int)))]) Try.results48 (rvs_cons (rv_tmp rfl) rvs_nil) ?_
      exact ⟨rfl, hst.keep0⟩

theorem ref13_Reply_ref {w0 w : World} {I : HL} {R : SP} {a0 : (List Int)} {r0_0 : Value} {a1 : api_Reply} {r1_0 : Value} {r1_1 : Value} (f0_0 : Rd (tyInt .u8) R I r0_0 a0) (f1_0 : Rd ty_api_Got R I r1_0 a1.Gots) (f1_1 : Rd (tySl ty_api_Pair) R I r1_1 a1.Scans) (hst : St w0 w I [] R) {r : ((List Int))} (hm : ref13_Reply a0 a1 = some r) :
    Calls Try.prog 17 #[r0_0, .agg #[.int .i64 a1.E, .int .u64 a1.Epoch, .int .u64 a1.Index, r1_0, r1_1]] w fun e w' => ∃ (q0_0 : Value), e = .returned (q0_0) ∧ St w0 w' I [ownS (tyInt .u8) q0_0 r] R := by
  unfold ref13_Reply at hm
  refine calls_start (args := [r0_0, .agg #[.int .i64 a1.E, .int .u64 a1.Epoch, .int .u64 a1.Index, r1_0, r1_1]]) Try.func17 rfl Try.ntmps17 (Nat.le_of_ble_eq_true rfl) ?_
  refine wp_seq ?_
  refine wp_region_lit ?_
  obtain ⟨b1042, w1043, ew1044, eb1045, hst⟩ := hst.box [.int .i64 a1.E, .int .u64 a1.Epoch, .int .u64 a1.Index, r1_0, r1_1] 39
  refine wl_run (v := .pointer (some ⟨b1042, 0, none⟩)) (w' := w1043) rfl rfl (x_al (by kernel_rfl) ew1044 eb1045) ?_
  refine wl_val (v := (.slice none 0 0)) rfl rfl rfl ?_
  refine wl_nil ?_
  refine then_n ?_
  refine wp_seq ?_
  refine wp_region_lit ?_
  refine wl_val (v := r0_0) rfl rfl rfl ?_
  refine wl_val (v := .pointer (some ⟨b1042, 0, none⟩)) rfl rfl (x_field rfl Try.underlying39 rfl Try.sizeOf30 rfl) ?_
  refine wl_val (v := .int .i64 a1.E) rfl rfl (x_load rfl Try.isAgg30 (hst.bc0 rfl)) ?_
  refine wl_val (v := .int .u64 (IntKind.u64.wrap a1.E)) rfl rfl (by kernel_rfl) ?_
  obtain ⟨t1048, ht1049, hm⟩ := bind_some hm
  refine wl_call rfl rfl (x_call Try.call45 rfl (vs := [r0_0, .int .u64 (IntKind.u64.wrap a1.E), .int .i64 (1:Int)]) rfl) ?_
  refine (ref02_Num_ref (f0_0.mono (rd_weak _)) hst.to0 ht1049).mono ?_
  rintro _ w1050 ⟨v1053, rfl, hst⟩
  refine ⟨_, rfl, ?_⟩
  replace hst := hst.of1
  refine wl_val (v := v1053) rfl rfl rfl ?_
  refine wl_nil ?_
  refine then_n ?_
  refine wp_seq ?_
  refine wp_region_St hst 8 [0, 1, 2, 3, 4, 5, 6, 7] [0, 0, 2, 7, 0, 16, 63, 127] [7] rfl (by kernel_rfl) (by kernel_rfl) Try.mixed (by kernel_rfl) ?_
  refine ws_q (v := v1053) 0 [1, 2, 3, 4, 5, 6, 7] (by kernel_rfl) rfl rfl (yi_run rfl (fun w hst => rfl)) ?_
  refine ws_q (v := .pointer (some ⟨b1042, 1, none⟩)) 1 [2, 3, 4, 5, 6, 7] (by kernel_rfl) rfl rfl (yi_run rfl (fun w hst => x_field rfl Try.underlying39 rfl Try.sizeOf27 rfl)) ?_
  refine ws_q (v := .int .u64 a1.Epoch) 2 [3, 4, 5, 6, 7] (by kernel_rfl) rfl rfl (yi_run rfl (fun w hst => x_load rfl Try.isAgg27 (hst.bc1 rfl))) ?_
  refine ws_q (v := .pointer (some ⟨b1042, 2, none⟩)) 4 [3, 5, 6, 7] (by kernel_rfl) rfl rfl (yi_run rfl (fun w hst => x_field rfl Try.underlying39 rfl Try.sizeOf27 rfl)) ?_
  refine ws_q (v := .int .u64 a1.Index) 5 [3, 6, 7] (by kernel_rfl) rfl rfl (yi_run rfl (fun w hst => x_load rfl Try.isAgg27 (hst.bc1 rfl))) ?_
  refine ws_e1 3 (by kernel_rfl) ?_
  refine nxe [6, 7] (by kernel_rfl) rfl rfl ?_
  clear hst
  intro w hst
  obtain ⟨css1055, hq1056, hst⟩ := hst.own_open
  obtain ⟨t1057, ht1058, hm⟩ := bind_some hm
  refine we_call rfl (x_call Try.call45 rfl (vs := [v1053, .int .u64 a1.Epoch, .int .i64 (8:Int)]) rfl) ?_
  refine (ref02_Num_ref (hst.rdrow0 hq1056) hst.to0 ht1058).mono ?_
  rintro _ w1059 ⟨v1062, rfl, hst⟩
  refine ⟨_, rfl, ?_⟩
  replace hst := hst.of1
  replace hst := hst.pull1
  replace hst := hst.own_close hq1056
  refine ws_next (pend' := [(5, .int .u64 a1.Index), (4, .pointer (some ⟨b1042, 2, none⟩))]) hst (by kernel_rfl) (pk_cons rfl (yi_run rfl (fun w hst => x_load rfl Try.isAgg27 (hst.bc2 rfl))) (pk_cons rfl (yi_run rfl (fun w hst => x_field rfl Try.underlying39 rfl Try.sizeOf27 rfl)) pk_nil)) ?_
  refine ws_e1 6 (by kernel_rfl) ?_
  refine nxe [7] (by kernel_rfl) rfl rfl ?_
  clear hst
  intro w hst
  replace hst := hst.pull1
  obtain ⟨css1064, hq1065, hst⟩ := hst.own_open
  obtain ⟨t1066, ht1067, hm⟩ := bind_some hm
  refine we_call rfl (x_call Try.call45 rfl (vs := [v1062, .int .u64 a1.Index, .int .i64 (8:Int)]) rfl) ?_
  refine (ref02_Num_ref (hst.rdrow0 hq1065) hst.to0 ht1067).mono ?_
  rintro _ w1068 ⟨v1071, rfl, hst⟩
  refine ⟨_, rfl, ?_⟩
  replace hst := hst.of1
  replace hst := hst.pull1
  replace hst := hst.own_close hq1065
  refine ws_next (pend' := []) hst (by kernel_rfl) pk_nil ?_
  refine ws_e1 7 (by kernel_rfl) ?_
  refine nxe [] (by kernel_rfl) rfl rfl ?_
  clear hst
  intro w hst
  refine we_run (v := v1071) (w' := w) rfl rfl ?_
  refine ws_next (pend' := []) hst (by kernel_rfl) pk_nil ?_
  refine ws_nil ?_
  intro w hst
  refine then_n ?_
  refine wp_seq ?_
  refine wp_region_lit ?_
  refine wl_val (v := v1071) rfl rfl rfl ?_
  refine wl_val (v := .pointer (some ⟨b1042, 3, none⟩)) rfl rfl (x_field rfl Try.underlying39 rfl Try.sizeOf36 rfl) ?_
  refine wl_val (v := r1_0) rfl rfl (x_load rfl Try.isAgg36 (hst.bc3 rfl)) ?_
  refine wl_val (v := .int .i64 ((a1.Gots).length : Int)) rfl rfl (x_len rfl Try.underlying36 (rd_sliceV f1_0)) ?_
  refine wl_val (v := .int .u64 (IntKind.u64.wrap ((a1.Gots).length : Int))) rfl rfl (by kernel_rfl) ?_
  replace hst := hst.pull1
  obtain ⟨css1073, hq1074, hst⟩ := hst.own_open
  obtain ⟨t1075, ht1076, hm⟩ := bind_some hm
  refine wl_call rfl rfl (x_call Try.call45 rfl (vs := [v1071, .int .u64 (IntKind.u64.wrap ((a1.Gots).length : Int)), .int .i64 (4:Int)]) rfl) ?_
  refine (ref02_Num_ref (hst.rdrow0 hq1074) hst.to0 ht1076).mono ?_
  rintro _ w1077 ⟨v1080, rfl, hst⟩
  refine ⟨_, rfl, ?_⟩
  replace hst := hst.of1
  replace hst := hst.pull1
  replace hst := hst.own_close hq1074
  refine wl_val (v := v1080) rfl rfl rfl ?_
  refine wl_nil ?_
  refine then_n ?_
  obtain ⟨y1193, hm, hx1194⟩ := bind_some hm
  refine wp_cut (fun a w => ∃ (z1190 : (List Int)) (v1189 : Value) (σ1191 : Nat → Value), (ref13_Reply_j0 a1) z1190 = some r ∧ a = Fr 103 (upd (upd σ1191 0 (v1189)) 3 (.pointer (some ⟨b1042, 0, none⟩))) ∧ St w0 w I [ownS (tyInt .u8) v1189 z1190, cells b1042 [.int .i64 a1.E, .int .u64 a1.Epoch, .int .u64 a1.Index, r1_0, r1_1]] R) ?_ ?_
  · skip
    refine wp_seq ?_
    refine wp_region_lit ?_
    refine wl_val (v := .int .i64 (0:Int)) rfl rfl rfl ?_
    refine wl_nil ?_
    refine then_n ?_
    refine wp_block ?_
    replace hst := hst.sub
    replace hst := hst.pull1
    replace hst := hst.sub
    replace hst := hst.pull1
    replace hst := hst.sub
    obtain ⟨n1151, hm⟩ := loopO_some hm
    refine wp_loop_n (fun n a w => ∃ (z1146 : (List Int)) (z1149 : Int) (v1147 : Value) (σ1150 : Nat → Value), loopN (ref13_Reply_l1 a1) n (z1146, z1149) = some y1193 ∧ a = Fr 103 (upd (upd (upd σ1150 0 (v1147)) 3 (.pointer (some ⟨b1042, 0, none⟩))) 5 (.int .i64 z1149)) ∧ St w0 w I [ownS (tyInt .u8) v1147 z1146, cells b1042 [.int .i64 a1.E, .int .u64 a1.Epoch, .int .u64 a1.Index, r1_0, r1_1]] R) n1151 ⟨t1075, (0:Int), v1080, _, hm, ((fr_upd (t := 0) (v := v1080) rfl).trans ((fr_upd (t := 3) (v := .pointer (some ⟨b1042, 0, none⟩)) rfl).trans ((fr_upd (t := 5) (v := .int .i64 (0:Int)) rfl).trans rfl))), hst⟩ ?_
    rintro n1157 _ w1152 ⟨z1146, z1149, v1147, σ1150, hm, rfl, hst⟩
    obtain ⟨n1154, y1155, rfl, hm, hx1156⟩ := loopN_some hm
    dsimp only [ref13_Reply_l1] at hm
    refine wp_seq ?_
    refine wp_seq ?_
    refine wp_region_lit ?_
    refine wl_val (v := .int .i64 z1149) rfl rfl rfl ?_
    refine wl_val (v := .pointer (some ⟨b1042, 3, none⟩)) rfl rfl (x_field rfl Try.underlying39 rfl Try.sizeOf36 rfl) ?_
    refine wl_val (v := r1_0) rfl rfl (x_load rfl Try.isAgg36 (hst.bc1 rfl)) ?_
    refine wl_val (v := .int .i64 ((a1.Gots).length : Int)) rfl rfl (x_len rfl Try.underlying36 (rd_sliceV f1_0)) ?_
    refine wl_val (v := .bool (decide (z1149 < ((a1.Gots).length : Int)))) rfl rfl rfl ?_
    refine wl_nil ?_
    refine then_n ?_
    refine bsplit (decide (z1149 < ((a1.Gots).length : Int))) (fun hc1158 => ?_) (fun hc1158 => ?_)
    · skip
      replace hm := bif_t hc1158 hm
      refine wp_ift (congrArg Value.bool hc1158) ?_
      refine wp_skip ?_
      refine then_n ?_
      refine wp_seq ?_
      refine wp_block ?_
      refine wp_region_St hst 16 [0, 1, 2, 3, 4, 5, 6, 7, 8, 9, 10, 11, 12, 13, 14, 15] [0, 0, 2, 0, 14, 30, 62, 127, 0, 256, 0, 1792, 3840, 7936, 16383, 32767] [15] rfl (by kernel_rfl) (by kernel_rfl) Try.mixed (by kernel_rfl) ?_
      refine ws_q (v := v1147) 0 [1, 2, 3, 4, 5, 6, 7, 8, 9, 10, 11, 12, 13, 14, 15] (by kernel_rfl) rfl rfl (yi_run rfl (fun w hst => rfl)) ?_
      refine ws_q (v := .pointer (some ⟨b1042, 3, none⟩)) 1 [2, 3, 4, 5, 6, 7, 8, 9, 10, 11, 12, 13, 14, 15] (by kernel_rfl) rfl rfl (yi_run rfl (fun w hst => x_field rfl Try.underlying39 rfl Try.sizeOf36 rfl)) ?_
      refine ws_q (v := r1_0) 2 [3, 4, 5, 6, 7, 8, 9, 10, 11, 12, 13, 14, 15] (by kernel_rfl) rfl rfl (yi_run rfl (fun w hst => x_load rfl Try.isAgg36 (hst.bc1 rfl))) ?_
      refine ws_q (v := .int .i64 z1149) 3 [4, 5, 6, 7, 8, 9, 10, 11, 12, 13, 14, 15] (by kernel_rfl) rfl rfl (yi_run rfl (fun w hst => rfl)) ?_
      obtain ⟨x1159, hx1160, hm⟩ := bind_some hm
      obtain ⟨h1161, h1162, hi1163⟩ := geto_some hx1160
      refine ws_q (v := .pointer (some (eAddr r1_0 (z1149.toNat * 2 + 0)))) 4 [5, 6, 7, 8, 9, 10, 11, 12, 13, 14, 15] (by kernel_rfl) rfl rfl (yi_run rfl (fun w hst => x_index rfl rfl Try.underlying36 Try.sizeOf51 (rd_sliceV f1_0) h1161 h1162)) ?_
      refine ws_q (v := .pointer (some (eAddr r1_0 (z1149.toNat * 2 + 0)))) 5 [6, 7, 8, 9, 10, 11, 12, 13, 14, 15] (by kernel_rfl) rfl rfl (yi_run rfl (fun w hst => x_field_e rfl Try.underlying51 rfl Try.sizeOf4 rfl)) ?_
      obtain ⟨cs1164, hr1165, hc1166⟩ := Rd.getF f1_0 hi1163
      obtain ⟨v1167, rfl, f1168, -⟩ := hr1165
      refine ws_q (v := .bool x1159.Has) 6 [7, 8, 9, 10, 11, 12, 13, 14, 15] (by kernel_rfl) rfl rfl (yi_run rfl (fun w hst => x_load rfl Try.isAgg4 ((hc1166 (HL.le.refl _) hst) 0 _ rfl))) ?_
      refine ws_q (v := .pointer (some ⟨b1042, 3, none⟩)) 8 [7, 9, 10, 11, 12, 13, 14, 15] (by kernel_rfl) rfl rfl (yi_run rfl (fun w hst => x_field rfl Try.underlying39 rfl Try.sizeOf36 rfl)) ?_
      refine ws_q (v := r1_0) 9 [7, 10, 11, 12, 13, 14, 15] (by kernel_rfl) rfl rfl (yi_run rfl (fun w hst => x_load rfl Try.isAgg36 (hst.bc1 rfl))) ?_
      refine ws_q (v := .int .i64 z1149) 10 [7, 11, 12, 13, 14, 15] (by kernel_rfl) rfl rfl (yi_run rfl (fun w hst => rfl)) ?_
      refine ws_q (v := .pointer (some (eAddr r1_0 (z1149.toNat * 2 + 0)))) 11 [7, 12, 13, 14, 15] (by kernel_rfl) rfl rfl (yi_run rfl (fun w hst => x_index rfl rfl Try.underlying36 Try.sizeOf51 (rd_sliceV f1_0) h1161 h1162)) ?_
      refine ws_q (v := .pointer (some (eAddr r1_0 (z1149.toNat * 2 + 1)))) 12 [7, 13, 14, 15] (by kernel_rfl) rfl rfl (yi_run rfl (fun w hst => x_field_e rfl Try.underlying51 rfl Try.sizeOf22 rfl)) ?_
      refine ws_q (v := v1167) 13 [7, 14, 15] (by kernel_rfl) rfl rfl (yi_run rfl (fun w hst => x_load rfl Try.isAgg22 ((hc1166 (HL.le.refl _) hst) 1 _ rfl))) ?_
      refine ws_e1 7 (by kernel_rfl) ?_
      refine nxe [14, 15] (by kernel_rfl) rfl rfl ?_
      clear hst
      intro w hst
      obtain ⟨css1170, hq1171, hst⟩ := hst.own_open
      obtain ⟨t1172, ht1173, hm⟩ := bind_some hm
      refine we_call rfl (x_call Try.call47 rfl (vs := [v1147, .bool x1159.Has]) rfl) ?_
      refine (ref02_Flag_ref (hst.rdrow0 hq1171) hst.to0 ht1173).mono ?_
      rintro _ w1174 ⟨v1177, rfl, hst⟩
      refine ⟨_, rfl, ?_⟩
      replace hst := hst.of1
      replace hst := hst.pull1
      replace hst := hst.own_close hq1171
      refine ws_next (pend' := [(13, v1167), (12, .pointer (some (eAddr r1_0 (z1149.toNat * 2 + 1)))), (11, .pointer (some (eAddr r1_0 (z1149.toNat * 2 + 0)))), (10, .int .i64 z1149), (9, r1_0), (8, .pointer (some ⟨b1042, 3, none⟩))]) hst (by kernel_rfl) (pk_cons rfl (yi_run rfl (fun w hst => x_load rfl Try.isAgg22 ((hc1166 (HL.le.refl _) hst) 1 _ rfl))) (pk_cons rfl (yi_run rfl (fun w hst => x_field_e rfl Try.underlying51 rfl Try.sizeOf22 rfl)) (pk_cons rfl (yi_run rfl (fun w hst => x_index rfl rfl Try.underlying36 Try.sizeOf51 (rd_sliceV f1_0) h1161 h1162)) (pk_cons rfl (yi_run rfl (fun w hst => rfl)) (pk_cons rfl (yi_run rfl (fun w hst => x_load rfl Try.isAgg36 (hst.bc2 rfl))) (pk_cons rfl (yi_run rfl (fun w hst => x_field rfl Try.underlying39 rfl Try.sizeOf36 rfl)) pk_nil)))))) ?_
      refine ws_e1 14 (by kernel_rfl) ?_
      refine nxe [15] (by kernel_rfl) rfl rfl ?_
      clear hst
      intro w hst
      replace hst := hst.pull1
      obtain ⟨css1179, hq1180, hst⟩ := hst.own_open
      obtain ⟨t1181, ht1182, hm⟩ := bind_some hm
      refine we_call rfl (x_call Try.call46 rfl (vs := [v1177, v1167]) rfl) ?_
      refine (ref02_Bytes_ref (hst.rdrow0 hq1180) (f1168.mono (rd_weak _)) hst.to0 ht1182).mono ?_
      rintro _ w1183 ⟨v1186, rfl, hst⟩
      refine ⟨_, rfl, ?_⟩
      replace hst := hst.of1
      replace hst := hst.pull1
      replace hst := hst.own_close hq1180
      refine ws_next (pend' := []) hst (by kernel_rfl) pk_nil ?_
      refine ws_e1 15 (by kernel_rfl) ?_
      refine nxe [] (by kernel_rfl) rfl rfl ?_
      clear hst
      intro w hst
      refine we_run (v := v1186) (w' := w) rfl rfl ?_
      refine ws_next (pend' := []) hst (by kernel_rfl) pk_nil ?_
      refine ws_nil ?_
      intro w hst
      refine blk_n ?_
      refine then_n ?_
      refine wp_region_lit ?_
      refine wl_val (v := .int .i64 z1149) rfl rfl rfl ?_
      refine wl_val (v := .int .i64 (IntKind.i64.wrap (z1149 + (1:Int)))) rfl rfl rfl ?_
      refine wl_val (v := .int .i64 (IntKind.i64.wrap (z1149 + (1:Int)))) rfl rfl rfl ?_
      refine wl_nil ?_
      refine then_n ?_
      replace hst := hst.pull3
      replace hst := hst.pull2
      replace hst := hst.keep2
      obtain rfl := some_inj hm
      exact ⟨_, Nat.lt_succ_self _, t1181, (IntKind.i64.wrap (z1149 + (1:Int))), v1186, _, hx1156, ((fr_upd (t := 0) (v := v1186) rfl).trans ((fr_upd (t := 3) (v := .pointer (some ⟨b1042, 0, none⟩)) rfl).trans ((fr_upd (t := 5) (v := .int .i64 (IntKind.i64.wrap (z1149 + (1:Int)))) rfl).trans rfl))), hst⟩
    · skip
      replace hm := bif_f hc1158 hm
      refine wp_iff (congrArg Value.bool hc1158) ?_
      refine wp_exit ?_
      refine then_x ?_
      refine then_x ?_
      replace hm := inr_up hm hx1156
      refine blk_x ?_
      refine then_n ?_
      replace hst := hst.pull1
      replace hst := hst.pull1
      replace hst := hst.keep2
      obtain rfl := some_inj hm
      exact ⟨z1146, v1147, _, hx1194, ((fr_upd (t := 0) (v := v1147) rfl).trans ((fr_upd (t := 3) (v := .pointer (some ⟨b1042, 0, none⟩)) rfl).trans rfl)), hst⟩
  · skip
    clear hst
    rintro _ w1195 ⟨z1190, v1189, σ1191, hm, rfl, hst⟩
    dsimp only [ref13_Reply_j0] at hm
    refine wp_seq ?_
    refine wp_region_lit ?_
    refine wl_val (v := v1189) rfl rfl rfl ?_
    refine wl_val (v := .pointer (some ⟨b1042, 4, none⟩)) rfl rfl (x_field rfl Try.underlying39 rfl Try.sizeOf37 rfl) ?_
    refine wl_val (v := r1_1) rfl rfl (x_load rfl Try.isAgg37 (hst.bc1 rfl)) ?_
    refine wl_val (v := .int .i64 ((a1.Scans).length : Int)) rfl rfl (x_len rfl Try.underlying37 (rd_sliceV f1_1)) ?_
    refine wl_val (v := .int .u64 (IntKind.u64.wrap ((a1.Scans).length : Int))) rfl rfl (by kernel_rfl) ?_
    obtain ⟨css1196, hq1197, hst⟩ := hst.own_open
    obtain ⟨t1198, ht1199, hm⟩ := bind_some hm
    refine wl_call rfl rfl (x_call Try.call45 rfl (vs := [v1189, .int .u64 (IntKind.u64.wrap ((a1.Scans).length : Int)), .int .i64 (4:Int)]) rfl) ?_
    refine (ref02_Num_ref (hst.rdrow0 hq1197) hst.to0 ht1199).mono ?_
    rintro _ w1200 ⟨v1203, rfl, hst⟩
    refine ⟨_, rfl, ?_⟩
    replace hst := hst.of1
    replace hst := hst.pull1
    replace hst := hst.own_close hq1197
    refine wl_val (v := v1203) rfl rfl rfl ?_
    refine wl_nil ?_
    refine then_n ?_
    refine wp_seq ?_
    refine wp_seq ?_
    refine wp_region_lit ?_
    refine wl_val (v := .int .i64 (0:Int)) rfl rfl rfl ?_
    refine wl_nil ?_
    refine then_n ?_
    refine wp_block ?_
    replace hst := hst.sub
    obtain ⟨n1534, hm⟩ := loopO_some hm
    refine wp_loop_n (fun n a w => ∃ (z1529 : (List Int)) (z1532 : Int) (v1530 : Value) (σ1533 : Nat → Value), loopN (ref13_Reply_l2 a1) n (z1529, z1532) = some r ∧ a = Fr 103 (upd (upd (upd σ1533 0 (v1530)) 3 (.pointer (some ⟨b1042, 0, none⟩))) 6 (.int .i64 z1532)) ∧ St w0 w I [ownS (tyInt .u8) v1530 z1529, cells b1042 [.int .i64 a1.E, .int .u64 a1.Epoch, .int .u64 a1.Index, r1_0, r1_1]] R) n1534 ⟨t1198, (0:Int), v1203, _, hm, ((fr_upd (t := 0) (v := v1203) rfl).trans ((fr_upd (t := 3) (v := .pointer (some ⟨b1042, 0, none⟩)) rfl).trans ((fr_upd (t := 6) (v := .int .i64 (0:Int)) rfl).trans rfl))), hst⟩ ?_
    rintro n1540 _ w1535 ⟨z1529, z1532, v1530, σ1533, hm, rfl, hst⟩
    obtain ⟨n1537, y1538, rfl, hm, hx1539⟩ := loopN_some hm
    dsimp only [ref13_Reply_l2] at hm
    refine wp_seq ?_
    refine wp_seq ?_
    refine wp_region_lit ?_
    refine wl_val (v := .int .i64 z1532) rfl rfl rfl ?_
    refine wl_val (v := .pointer (some ⟨b1042, 4, none⟩)) rfl rfl (x_field rfl Try.underlying39 rfl Try.sizeOf37 rfl) ?_
    refine wl_val (v := r1_1) rfl rfl (x_load rfl Try.isAgg37 (hst.bc1 rfl)) ?_
    refine wl_val (v := .int .i64 ((a1.Scans).length : Int)) rfl rfl (x_len rfl Try.underlying37 (rd_sliceV f1_1)) ?_
    refine wl_val (v := .bool (decide (z1532 < ((a1.Scans).length : Int)))) rfl rfl rfl ?_
    refine wl_nil ?_
    refine then_n ?_
    refine bsplit (decide (z1532 < ((a1.Scans).length : Int))) (fun hc1541 => ?_) (fun hc1541 => ?_)
    · skip
      replace hm := bif_t hc1541 hm
      refine wp_ift (congrArg Value.bool hc1541) ?_
      refine wp_skip ?_
      refine then_n ?_
      refine wp_seq ?_
      refine wp_block ?_
      refine wp_seq ?_
      refine wp_region_lit ?_
      refine wl_val (v := v1530) rfl rfl rfl ?_
      refine wl_val (v := .pointer (some ⟨b1042, 4, none⟩)) rfl rfl (x_field rfl Try.underlying39 rfl Try.sizeOf37 rfl) ?_
      refine wl_val (v := r1_1) rfl rfl (x_load rfl Try.isAgg37 (hst.bc1 rfl)) ?_
      refine wl_val (v := .int .i64 z1532) rfl rfl rfl ?_
      obtain ⟨x1542, hx1543, hm⟩ := bind_some hm
      obtain ⟨h1544, h1545, hi1546⟩ := geto_some hx1543
      refine wl_val (v := .pointer (some (eAddr r1_1 (z1532.toNat * 1 + 0)))) rfl rfl (x_index rfl rfl Try.underlying37 Try.sizeOf52 (rd_sliceV f1_1) h1544 h1545) ?_
      obtain ⟨cs1547, hr1548, hc1549⟩ := Rd.getF f1_1 hi1546
      obtain ⟨v1550, rfl, f1551, -⟩ := hr1548
      refine wl_val (v := v1550) rfl rfl (x_load rfl Try.isAgg52 ((hc1549 (HL.le.refl _) hst) 0 _ rfl)) ?_
      refine wl_val (v := .int .i64 ((x1542).length : Int)) rfl rfl (x_len rfl Try.underlying52 (rd_sliceV f1551)) ?_
      refine wl_val (v := .int .u64 (IntKind.u64.wrap ((x1542).length : Int))) rfl rfl (by kernel_rfl) ?_
      obtain ⟨css1553, hq1554, hst⟩ := hst.own_open
      obtain ⟨t1555, ht1556, hm⟩ := bind_some hm
      refine wl_call rfl rfl (x_call Try.call45 rfl (vs := [v1530, .int .u64 (IntKind.u64.wrap ((x1542).length : Int)), .int .i64 (4:Int)]) rfl) ?_
      refine (ref02_Num_ref (hst.rdrow0 hq1554) hst.to0 ht1556).mono ?_
      rintro _ w1557 ⟨v1560, rfl, hst⟩
      refine ⟨_, rfl, ?_⟩
      replace hst := hst.of1
      replace hst := hst.pull1
      replace hst := hst.own_close hq1554
      refine wl_val (v := v1560) rfl rfl rfl ?_
      refine wl_nil ?_
      refine then_n ?_
      refine wp_seq ?_
      refine wp_region_lit ?_
      refine wl_val (v := .int .i64 (0:Int)) rfl rfl rfl ?_
      refine wl_nil ?_
      refine then_n ?_
      refine wp_block ?_
      replace hst := hst.sub
      obtain ⟨n1653, hm⟩ := loopO_some hm
      refine wp_loop_n (fun n a w => ∃ (z1648 : (List Int)) (z1651 : Int) (v1649 : Value) (σ1652 : Nat → Value), loopN (ref13_Reply_l3 x1542 z1532) n (z1648, z1651) = some y1538 ∧ a = Fr 103 (upd (upd (upd (upd σ1652 0 (v1649)) 3 (.pointer (some ⟨b1042, 0, none⟩))) 6 (.int .i64 z1532)) 7 (.int .i64 z1651)) ∧ St w0 w I [ownS (tyInt .u8) v1649 z1648, cells b1042 [.int .i64 a1.E, .int .u64 a1.Epoch, .int .u64 a1.Index, r1_0, r1_1]] R) n1653 ⟨t1555, (0:Int), v1560, _, hm, ((fr_upd (t := 0) (v := v1560) rfl).trans ((fr_upd (t := 3) (v := .pointer (some ⟨b1042, 0, none⟩)) rfl).trans ((fr_upd (t := 6) (v := .int .i64 z1532) rfl).trans ((fr_upd (t := 7) (v := .int .i64 (0:Int)) rfl).trans rfl)))), hst⟩ ?_
      rintro n1659 _ w1654 ⟨z1648, z1651, v1649, σ1652, hm, rfl, hst⟩
      obtain ⟨n1656, y1657, rfl, hm, hx1658⟩ := loopN_some hm
      dsimp only [ref13_Reply_l3] at hm
      refine wp_seq ?_
      refine wp_seq ?_
      refine wp_region_lit ?_
      refine wl_val (v := .int .i64 z1651) rfl rfl rfl ?_
      refine wl_val (v := .pointer (some ⟨b1042, 4, none⟩)) rfl rfl (x_field rfl Try.underlying39 rfl Try.sizeOf37 rfl) ?_
      refine wl_val (v := r1_1) rfl rfl (x_load rfl Try.isAgg37 (hst.bc1 rfl)) ?_
      refine wl_val (v := .int .i64 z1532) rfl rfl rfl ?_
      refine wl_val (v := .pointer (some (eAddr r1_1 (z1532.toNat * 1 + 0)))) rfl rfl (x_index rfl rfl Try.underlying37 Try.sizeOf52 (rd_sliceV f1_1) h1544 h1545) ?_
      obtain ⟨cs1660, hr1661, hc1662⟩ := Rd.getF f1_1 hi1546
      obtain ⟨v1663, rfl, f1664, -⟩ := hr1661
      refine wl_val (v := v1663) rfl rfl (x_load rfl Try.isAgg52 ((hc1662 (HL.le.refl _) hst) 0 _ rfl)) ?_
      refine wl_val (v := .int .i64 ((x1542).length : Int)) rfl rfl (x_len rfl Try.underlying52 (rd_sliceV f1664)) ?_
      refine wl_val (v := .bool (decide (z1651 < ((x1542).length : Int)))) rfl rfl rfl ?_
      refine wl_nil ?_
      refine then_n ?_
      refine bsplit (decide (z1651 < ((x1542).length : Int))) (fun hc1666 => ?_) (fun hc1666 => ?_)
      · skip
        replace hm := bif_t hc1666 hm
        refine wp_ift (congrArg Value.bool hc1666) ?_
        refine wp_skip ?_
        refine then_n ?_
        refine wp_seq ?_
        refine wp_block ?_
        refine wp_region_St hst 23 [0, 1, 2, 3, 4, 5, 6, 7, 8, 9, 10, 11, 12, 13, 14, 15, 16, 17, 18, 19, 20, 21, 22] [0, 0, 2, 0, 14, 30, 0, 126, 254, 510, 1022, 2047, 0, 4096, 0, 28672, 61440, 0, 258048, 520192, 1044480, 2097151, 4194303] [22] rfl (by kernel_rfl) (by kernel_rfl) Try.mixed (by kernel_rfl) ?_
        refine ws_q (v := v1649) 0 [1, 2, 3, 4, 5, 6, 7, 8, 9, 10, 11, 12, 13, 14, 15, 16, 17, 18, 19, 20, 21, 22] (by kernel_rfl) rfl rfl (yi_run rfl (fun w hst => rfl)) ?_
        refine ws_q (v := .pointer (some ⟨b1042, 4, none⟩)) 1 [2, 3, 4, 5, 6, 7, 8, 9, 10, 11, 12, 13, 14, 15, 16, 17, 18, 19, 20, 21, 22] (by kernel_rfl) rfl rfl (yi_run rfl (fun w hst => x_field rfl Try.underlying39 rfl Try.sizeOf37 rfl)) ?_
        refine ws_q (v := r1_1) 2 [3, 4, 5, 6, 7, 8, 9, 10, 11, 12, 13, 14, 15, 16, 17, 18, 19, 20, 21, 22] (by kernel_rfl) rfl rfl (yi_run rfl (fun w hst => x_load rfl Try.isAgg37 (hst.bc1 rfl))) ?_
        refine ws_q (v := .int .i64 z1532) 3 [4, 5, 6, 7, 8, 9, 10, 11, 12, 13, 14, 15, 16, 17, 18, 19, 20, 21, 22] (by kernel_rfl) rfl rfl (yi_run rfl (fun w hst => rfl)) ?_
        refine ws_q (v := .pointer (some (eAddr r1_1 (z1532.toNat * 1 + 0)))) 4 [5, 6, 7, 8, 9, 10, 11, 12, 13, 14, 15, 16, 17, 18, 19, 20, 21, 22] (by kernel_rfl) rfl rfl (yi_run rfl (fun w hst => x_index rfl rfl Try.underlying37 Try.sizeOf52 (rd_sliceV f1_1) h1544 h1545)) ?_
        refine ws_q (v := v1663) 5 [6, 7, 8, 9, 10, 11, 12, 13, 14, 15, 16, 17, 18, 19, 20, 21, 22] (by kernel_rfl) rfl rfl (yi_run rfl (fun w hst => x_load rfl Try.isAgg52 ((hc1662 (HL.le.refl _) hst) 0 _ rfl))) ?_
        refine ws_q (v := .int .i64 z1651) 6 [7, 8, 9, 10, 11, 12, 13, 14, 15, 16, 17, 18, 19, 20, 21, 22] (by kernel_rfl) rfl rfl (yi_run rfl (fun w hst => rfl)) ?_
        obtain ⟨x1667, hx1668, hm⟩ := bind_some hm
        obtain ⟨h1669, h1670, hi1671⟩ := geto_some hx1668
        refine ws_q (v := .pointer (some (eAddr v1663 (z1651.toNat * 2 + 0)))) 7 [8, 9, 10, 11, 12, 13, 14, 15, 16, 17, 18, 19, 20, 21, 22] (by kernel_rfl) rfl rfl (yi_run rfl (fun w hst => x_index rfl rfl Try.underlying52 Try.sizeOf54 (rd_sliceV f1664) h1669 h1670)) ?_
        refine ws_q (v := .pointer (some (eAddr v1663 (z1651.toNat * 2 + 0)))) 8 [9, 10, 11, 12, 13, 14, 15, 16, 17, 18, 19, 20, 21, 22] (by kernel_rfl) rfl rfl (yi_run rfl (fun w hst => x_field_e rfl Try.underlying54 rfl Try.sizeOf41 rfl)) ?_
        obtain ⟨cs1672, hr1673, hc1674⟩ := Rd.getF f1664 hi1671
        obtain ⟨v1675, rfl, f1676, -⟩ := hr1673
        refine ws_q (v := .float .f64 x1667.At) 9 [10, 11, 12, 13, 14, 15, 16, 17, 18, 19, 20, 21, 22] (by kernel_rfl) rfl rfl (yi_run rfl (fun w hst => x_load rfl Try.isAgg41 ((hc1674 (HL.le.refl _) hst) 0 _ rfl))) ?_
        refine ws_q (v := .pointer (some ⟨b1042, 4, none⟩)) 12 [10, 11, 13, 14, 15, 16, 17, 18, 19, 20, 21, 22] (by kernel_rfl) rfl rfl (yi_run rfl (fun w hst => x_field rfl Try.underlying39 rfl Try.sizeOf37 rfl)) ?_
        refine ws_q (v := r1_1) 13 [10, 11, 14, 15, 16, 17, 18, 19, 20, 21, 22] (by kernel_rfl) rfl rfl (yi_run rfl (fun w hst => x_load rfl Try.isAgg37 (hst.bc1 rfl))) ?_
        refine ws_q (v := .int .i64 z1532) 14 [10, 11, 15, 16, 17, 18, 19, 20, 21, 22] (by kernel_rfl) rfl rfl (yi_run rfl (fun w hst => rfl)) ?_
        refine ws_q (v := .pointer (some (eAddr r1_1 (z1532.toNat * 1 + 0)))) 15 [10, 11, 16, 17, 18, 19, 20, 21, 22] (by kernel_rfl) rfl rfl (yi_run rfl (fun w hst => x_index rfl rfl Try.underlying37 Try.sizeOf52 (rd_sliceV f1_1) h1544 h1545)) ?_
        refine ws_q (v := v1663) 16 [10, 11, 17, 18, 19, 20, 21, 22] (by kernel_rfl) rfl rfl (yi_run rfl (fun w hst => x_load rfl Try.isAgg52 ((hc1662 (HL.le.refl _) hst) 0 _ rfl))) ?_
        refine ws_q (v := .int .i64 z1651) 17 [10, 11, 18, 19, 20, 21, 22] (by kernel_rfl) rfl rfl (yi_run rfl (fun w hst => rfl)) ?_
        refine ws_q (v := .pointer (some (eAddr v1663 (z1651.toNat * 2 + 0)))) 18 [10, 11, 19, 20, 21, 22] (by kernel_rfl) rfl rfl (yi_run rfl (fun w hst => x_index rfl rfl Try.underlying52 Try.sizeOf54 (rd_sliceV f1664) h1669 h1670)) ?_
        refine ws_q (v := .pointer (some (eAddr v1663 (z1651.toNat * 2 + 1)))) 19 [10, 11, 20, 21, 22] (by kernel_rfl) rfl rfl (yi_run rfl (fun w hst => x_field_e rfl Try.underlying54 rfl Try.sizeOf22 rfl)) ?_
        refine ws_q (v := v1675) 20 [10, 11, 21, 22] (by kernel_rfl) rfl rfl (yi_run rfl (fun w hst => x_load rfl Try.isAgg22 ((hc1674 (HL.le.refl _) hst) 1 _ rfl))) ?_
        refine ws_e1 10 (by kernel_rfl) ?_
        refine nxe [11, 21, 22] (by kernel_rfl) rfl rfl ?_
        clear hst
        intro w hst
        obtain ⟨t1678, ht1679, hm⟩ := bind_some hm
        refine we_call rfl (x_call Try.call48 rfl (vs := [.float .f64 x1667.At]) rfl) ?_
        refine (ref01_Rank_ref hst.to0 ht1679).mono ?_
        rintro _ w1680 ⟨rfl, hst⟩
        refine ⟨_, rfl, ?_⟩
        replace hst := hst.of0
        refine ws_next (pend' := [(20, v1675), (19, .pointer (some (eAddr v1663 (z1651.toNat * 2 + 1)))), (18, .pointer (some (eAddr v1663 (z1651.toNat * 2 + 0)))), (17, .int .i64 z1651), (16, v1663), (15, .pointer (some (eAddr r1_1 (z1532.toNat * 1 + 0)))), (14, .int .i64 z1532), (13, r1_1), (12, .pointer (some ⟨b1042, 4, none⟩)), (0, v1649)]) hst (by kernel_rfl) (pk_cons rfl (yi_run rfl (fun w hst => x_load rfl Try.isAgg22 ((hc1674 (HL.le.refl _) hst) 1 _ rfl))) (pk_cons rfl (yi_run rfl (fun w hst => x_field_e rfl Try.underlying54 rfl Try.sizeOf22 rfl)) (pk_cons rfl (yi_run rfl (fun w hst => x_index rfl rfl Try.underlying52 Try.sizeOf54 (rd_sliceV f1664) h1669 h1670)) (pk_cons rfl (yi_run rfl (fun w hst => rfl)) (pk_cons rfl (yi_run rfl (fun w hst => x_load rfl Try.isAgg52 ((hc1662 (HL.le.refl _) hst) 0 _ rfl))) (pk_cons rfl (yi_run rfl (fun w hst => x_index rfl rfl Try.underlying37 Try.sizeOf52 (rd_sliceV f1_1) h1544 h1545)) (pk_cons rfl (yi_run rfl (fun w hst => rfl)) (pk_cons rfl (yi_run rfl (fun w hst => x_load rfl Try.isAgg37 (hst.bc1 rfl))) (pk_cons rfl (yi_run rfl (fun w hst => x_field rfl Try.underlying39 rfl Try.sizeOf37 rfl)) (pk_cons rfl (yi_run rfl (fun w hst => rfl)) pk_nil)))))))))) ?_
        refine ws_e1 11 (by kernel_rfl) ?_
        refine nxe [21, 22] (by kernel_rfl) rfl rfl ?_
        clear hst
        intro w hst
        obtain ⟨css1683, hq1684, hst⟩ := hst.own_open
        obtain ⟨t1685, ht1686, hm⟩ := bind_some hm
        refine we_call rfl (x_call Try.call45 rfl (vs := [v1649, .int .u64 t1678, .int .i64 (8:Int)]) rfl) ?_
        refine (ref02_Num_ref (hst.rdrow0 hq1684) hst.to0 ht1686).mono ?_
        rintro _ w1687 ⟨v1690, rfl, hst⟩
        refine ⟨_, rfl, ?_⟩
        replace hst := hst.of1
        replace hst := hst.pull1
        replace hst := hst.own_close hq1684
        refine ws_next (pend' := [(20, v1675), (19, .pointer (some (eAddr v1663 (z1651.toNat * 2 + 1)))), (18, .pointer (some (eAddr v1663 (z1651.toNat * 2 + 0)))), (17, .int .i64 z1651), (16, v1663), (15, .pointer (some (eAddr r1_1 (z1532.toNat * 1 + 0)))), (14, .int .i64 z1532), (13, r1_1), (12, .pointer (some ⟨b1042, 4, none⟩))]) hst (by kernel_rfl) (pk_cons rfl (yi_run rfl (fun w hst => x_load rfl Try.isAgg22 ((hc1674 (HL.le.refl _) hst) 1 _ rfl))) (pk_cons rfl (yi_run rfl (fun w hst => x_field_e rfl Try.underlying54 rfl Try.sizeOf22 rfl)) (pk_cons rfl (yi_run rfl (fun w hst => x_index rfl rfl Try.underlying52 Try.sizeOf54 (rd_sliceV f1664) h1669 h1670)) (pk_cons rfl (yi_run rfl (fun w hst => rfl)) (pk_cons rfl (yi_run rfl (fun w hst => x_load rfl Try.isAgg52 ((hc1662 (HL.le.refl _) hst) 0 _ rfl))) (pk_cons rfl (yi_run rfl (fun w hst => x_index rfl rfl Try.underlying37 Try.sizeOf52 (rd_sliceV f1_1) h1544 h1545)) (pk_cons rfl (yi_run rfl (fun w hst => rfl)) (pk_cons rfl (yi_run rfl (fun w hst => x_load rfl Try.isAgg37 (hst.bc2 rfl))) (pk_cons rfl (yi_run rfl (fun w hst => x_field rfl Try.underlying39 rfl Try.sizeOf37 rfl)) pk_nil))))))))) ?_
        refine ws_e1 21 (by kernel_rfl) ?_
        refine nxe [22] (by kernel_rfl) rfl rfl ?_
        clear hst
        intro w hst
        replace hst := hst.pull1
        obtain ⟨css1692, hq1693, hst⟩ := hst.own_open
        obtain ⟨t1694, ht1695, hm⟩ := bind_some hm
        refine we_call rfl (x_call Try.call46 rfl (vs := [v1690, v1675]) rfl) ?_
        refine (ref02_Bytes_ref (hst.rdrow0 hq1693) (f1676.mono (rd_weak _)) hst.to0 ht1695).mono ?_
        rintro _ w1696 ⟨v1699, rfl, hst⟩
        refine ⟨_, rfl, ?_⟩
        replace hst := hst.of1
        replace hst := hst.pull1
        replace hst := hst.own_close hq1693
        refine ws_next (pend' := []) hst (by kernel_rfl) pk_nil ?_
        refine ws_e1 22 (by kernel_rfl) ?_
        refine nxe [] (by kernel_rfl) rfl rfl ?_
        clear hst
        intro w hst
        refine we_run (v := v1699) (w' := w) rfl rfl ?_
        refine ws_next (pend' := []) hst (by kernel_rfl) pk_nil ?_
        refine ws_nil ?_
        intro w hst
        refine blk_n ?_
        refine then_n ?_
        refine wp_region_lit ?_
        refine wl_val (v := .int .i64 z1651) rfl rfl rfl ?_
        refine wl_val (v := .int .i64 (IntKind.i64.wrap (z1651 + (1:Int)))) rfl rfl rfl ?_
        refine wl_val (v := .int .i64 (IntKind.i64.wrap (z1651 + (1:Int)))) rfl rfl rfl ?_
        refine wl_nil ?_
        refine then_n ?_
        replace hst := hst.pull3
        replace hst := hst.pull2
        replace hst := hst.keep2
        obtain rfl := some_inj hm
        exact ⟨_, Nat.lt_succ_self _, t1694, (IntKind.i64.wrap (z1651 + (1:Int))), v1699, _, hx1658, ((fr_upd (t := 0) (v := v1699) rfl).trans ((fr_upd (t := 3) (v := .pointer (some ⟨b1042, 0, none⟩)) rfl).trans ((fr_upd (t := 6) (v := .int .i64 z1532) rfl).trans ((fr_upd (t := 7) (v := .int .i64 (IntKind.i64.wrap (z1651 + (1:Int)))) rfl).trans rfl)))), hst⟩
      · skip
        replace hm := bif_f hc1666 hm
        refine wp_iff (congrArg Value.bool hc1666) ?_
        refine wp_exit ?_
        refine then_x ?_
        refine then_x ?_
        replace hm := inr_up hm hx1658
        refine blk_x ?_
        refine blk_n ?_
        refine then_n ?_
        refine wp_region_lit ?_
        refine wl_val (v := .int .i64 z1532) rfl rfl rfl ?_
        refine wl_val (v := .int .i64 (IntKind.i64.wrap (z1532 + (1:Int)))) rfl rfl rfl ?_
        refine wl_val (v := .int .i64 (IntKind.i64.wrap (z1532 + (1:Int)))) rfl rfl rfl ?_
        refine wl_nil ?_
        refine then_n ?_
        replace hst := hst.pull1
        replace hst := hst.pull1
        replace hst := hst.keep2
        obtain rfl := some_inj hm
        exact ⟨_, Nat.lt_succ_self _, z1648, (IntKind.i64.wrap (z1532 + (1:Int))), v1649, _, hx1539, ((fr_upd (t := 0) (v := v1649) rfl).trans ((fr_upd (t := 3) (v := .pointer (some ⟨b1042, 0, none⟩)) rfl).trans ((fr_upd (t := 6) (v := .int .i64 (IntKind.i64.wrap (z1532 + (1:Int)))) rfl).trans rfl))), hst⟩
    · skip
      replace hm := bif_f hc1541 hm
      refine wp_iff (congrArg Value.bool hc1541) ?_
      refine wp_exit ?_
      refine then_x ?_
      refine then_x ?_
      replace hm := inr_up hm hx1539
      refine blk_x ?_
      refine then_n ?_
      refine wp_seq ?_
      refine wp_region_lit ?_
      refine wl_val (v := v1530) rfl rfl rfl ?_
      refine wl_val (v := v1530) rfl rfl rfl ?_
      refine wl_nil ?_
      refine then_n ?_
      refine wp_ret ?_
      obtain rfl := some_inj hm
      refine post_ret (vs := [v1530]) Try.results17 (rvs_cons (rv_tmp rfl) rvs_nil) ?_
      exact ⟨v1530, rfl, hst.keep1⟩

theorem octet_Reader_Bad_ref {w0 w : World} {I : HL} {R : SP} {a0 : octet_Reader} {p0 : Value}  (hst : St w0 w I [at_octet_Reader p0 a0] R) {r : (Bool)} (hm : octet_Reader_Bad a0 = some r) :
    Calls Try.prog 49 #[p0] w fun e w' => e = .returned (.bool r) ∧ St w0 w' I [at_octet_Reader p0 a0] R := by
  unfold octet_Reader_Bad at hm
  refine calls_start (args := [p0]) Try.func49 rfl Try.ntmps49 (Nat.le_of_ble_eq_true rfl) ?_
  refine wp_seq ?_
  refine wp_region_lit ?_
  refine wl_val (v := .bool false) rfl rfl rfl ?_
  refine wl_nil ?_
  refine then_n ?_
  refine wp_seq ?_
  refine wp_region_lit ?_
  refine wl_val (v := p0) rfl rfl rfl ?_
  obtain ⟨b384, v385, ⟨rfl, f387⟩, hst'⟩ := at_octet_Reader_open hst
  clear hst
  have hst := hst'
  clear hst'
  refine wl_val (v := .bool false) rfl rfl (by kernel_rfl) ?_
  refine wl_val (v := .bool false) rfl rfl rfl ?_
  refine wl_val (v := .pointer (some ⟨b384, 0, none⟩)) ((wanted_eq rfl rfl rfl rfl).trans rfl) rfl rfl ?_
  refine wl_val (v := .pointer (some ⟨b384, 0, none⟩)) ((wanted_eq rfl rfl rfl rfl).trans rfl) rfl rfl ?_
  refine wl_val (v := .pointer (some ⟨b384, 1, none⟩)) ((wanted_eq rfl rfl rfl rfl).trans rfl) rfl (x_field rfl Try.underlying95 rfl Try.sizeOf4 rfl) ?_
  refine wl_val (v := .bool a0.bad) ((wanted_eq rfl rfl rfl rfl).trans rfl) rfl (x_load rfl Try.isAgg4 (hst.bc0 rfl)) ?_
  refine wl_val (v := .bool a0.bad) rfl rfl (x_pick_f rfl rfl rfl) ?_
  refine wl_val (v := .bool a0.bad) rfl rfl rfl ?_
  refine wl_nil ?_
  refine then_n ?_
  refine wp_ret ?_
  replace hst := at_octet_Reader_close (pv := .pointer (some ⟨b384, 0, none⟩)) (x := a0) hst ⟨rfl, f387⟩
  obtain rfl := some_inj hm
  refine post_ret (vs := [.bool a0.bad]) Try.results49 (rvs_cons (rv_tmp rfl) rvs_nil) ?_
  exact ⟨rfl, hst.keep1⟩

theorem octet_Reader_End_ref {w0 w : World} {I : HL} {R : SP} {a0 : octet_Reader} {p0 : Value}  (hst : St w0 w I [at_octet_Reader p0 a0] R) {r : (Bool)} (hm : octet_Reader_End a0 = some r) :
    Calls Try.prog 18 #[p0] w fun e w' => e = .returned (.bool r) ∧ St w0 w' I [at_octet_Reader p0 a0] R := by
  unfold octet_Reader_End at hm
  refine calls_start (args := [p0]) Try.func18 rfl Try.ntmps18 (Nat.le_of_ble_eq_true rfl) ?_
  refine wp_seq ?_
  refine wp_region_lit ?_
  refine wl_val (v := .bool false) rfl rfl rfl ?_
  refine wl_nil ?_
  refine then_n ?_
  refine wp_seq ?_
  refine wp_region_lit ?_
  refine wl_val (v := p0) rfl rfl rfl ?_
  obtain ⟨t389, ht390, hm⟩ := bind_some hm
  refine wl_call rfl rfl (x_call Try.call49 rfl (vs := [p0]) rfl) ?_
  refine (octet_Reader_Bad_ref hst.to1 ht390).mono ?_
  rintro _ w391 ⟨rfl, hst⟩
  refine ⟨_, rfl, ?_⟩
  replace hst := hst.of1
  refine wl_val (v := .bool (!t389)) rfl rfl rfl ?_
  refine wl_val (v := .bool (!t389)) rfl rfl rfl ?_
  refine bsplit (!t389) (fun hc394 => ?_) (fun hc394 => ?_)
  · skip
    replace hm := bif_t hc394 hm
    refine wl_val (v := p0) ((wanted_eq rfl rfl rfl (congrArg Value.bool hc394)).trans rfl) rfl rfl ?_
    obtain ⟨b395, v396, ⟨rfl, f398⟩, hst'⟩ := at_octet_Reader_open hst
    clear hst
    have hst := hst'
    clear hst'
    refine wl_val (v := .pointer (some ⟨b395, 0, none⟩)) ((wanted_eq rfl rfl rfl (congrArg Value.bool hc394)).trans rfl) rfl rfl ?_
    refine wl_val (v := .pointer (some ⟨b395, 0, none⟩)) ((wanted_eq rfl rfl rfl (congrArg Value.bool hc394)).trans rfl) rfl (x_field rfl Try.underlying95 rfl Try.sizeOf22 rfl) ?_
    refine wl_val (v := v396) ((wanted_eq rfl rfl rfl (congrArg Value.bool hc394)).trans rfl) rfl (x_load rfl Try.isAgg22 (hst.bc0 rfl)) ?_
    refine wl_val (v := .int .i64 ((a0.p).length : Int)) ((wanted_eq rfl rfl rfl (congrArg Value.bool hc394)).trans rfl) rfl (x_len rfl Try.underlying22 (ro_sliceV f398)) ?_
    refine wl_val (v := .bool (((a0.p).length : Int) == (0:Int))) ((wanted_eq rfl rfl rfl (congrArg Value.bool hc394)).trans rfl) rfl rfl ?_
    refine wl_val (v := .bool (((a0.p).length : Int) == (0:Int))) rfl rfl (x_pick_t hc394 rfl rfl) ?_
    refine wl_val (v := .bool (((a0.p).length : Int) == (0:Int))) rfl rfl rfl ?_
    refine wl_nil ?_
    refine then_n ?_
    refine wp_ret ?_
    replace hst := at_octet_Reader_close (pv := .pointer (some ⟨b395, 0, none⟩)) (x := a0) hst ⟨rfl, f398⟩
    obtain rfl := some_inj hm
    refine post_ret (vs := [.bool (((a0.p).length : Int) == (0:Int))]) Try.results18 (rvs_cons (rv_tmp rfl) rvs_nil) ?_
    exact ⟨rfl, hst.keep1⟩
  · skip
    replace hm := bif_f hc394 hm
    refine wl_off ((wanted_eq rfl rfl rfl (congrArg Value.bool hc394)).trans rfl) rfl ?_
    refine wl_off ((wanted_eq rfl rfl rfl (congrArg Value.bool hc394)).trans rfl) rfl ?_
    refine wl_off ((wanted_eq rfl rfl rfl (congrArg Value.bool hc394)).trans rfl) rfl ?_
    refine wl_off ((wanted_eq rfl rfl rfl (congrArg Value.bool hc394)).trans rfl) rfl ?_
    refine wl_off ((wanted_eq rfl rfl rfl (congrArg Value.bool hc394)).trans rfl) rfl ?_
    refine wl_off ((wanted_eq rfl rfl rfl (congrArg Value.bool hc394)).trans rfl) rfl ?_
    refine wl_val (v := .bool false) rfl rfl (x_pick_f hc394 rfl rfl) ?_
    refine wl_val (v := .bool false) rfl rfl rfl ?_
    refine wl_nil ?_
    refine then_n ?_
    refine wp_ret ?_
    obtain rfl := some_inj hm
    refine post_ret (vs := [.bool false]) Try.results18 (rvs_cons (rv_tmp rfl) rvs_nil) ?_
    exact ⟨rfl, hst.keep1⟩

theorem ref11_SameGots_ref {w0 w : World} {I : HL} {R : SP} {a0 : (List api_Got)} {r0_0 : Value} {a1 : (List api_Got)} {r1_0 : Value} (f0_0 : Rd ty_api_Got R I r0_0 a0) (f1_0 : Rd ty_api_Got R I r1_0 a1) (hst : St w0 w I [] R) {r : (Bool)} (hm : ref11_SameGots a0 a1 = some r) :
    Calls Try.prog 50 #[r0_0, r1_0] w fun e w' => e = .returned (.bool r) ∧ St w0 w' I [] R := by
  unfold ref11_SameGots at hm
  refine calls_start (args := [r0_0, r1_0]) Try.func50 rfl Try.ntmps50 (Nat.le_of_ble_eq_true rfl) ?_
  refine wp_seq ?_
  refine wp_region_lit ?_
  refine wl_val (v := .bool false) rfl rfl rfl ?_
  refine wl_nil ?_
  refine then_n ?_
  refine wp_seq ?_
  refine wp_seq ?_
  refine wp_region_lit ?_
  refine wl_val (v := r0_0) rfl rfl rfl ?_
  refine wl_val (v := .int .i64 ((a0).length : Int)) rfl rfl (x_len rfl Try.underlying36 (rd_sliceV f0_0)) ?_
  refine wl_val (v := r1_0) rfl rfl rfl ?_
  refine wl_val (v := .int .i64 ((a1).length : Int)) rfl rfl (x_len rfl Try.underlying36 (rd_sliceV f1_0)) ?_
  refine wl_val (v := .bool (((a0).length : Int) != ((a1).length : Int))) rfl rfl rfl ?_
  refine wl_nil ?_
  refine then_n ?_
  refine bsplit (((a0).length : Int) != ((a1).length : Int)) (fun hc484 => ?_) (fun hc484 => ?_)
  · skip
    replace hm := bif_t hc484 hm
    refine wp_ift (congrArg Value.bool hc484) ?_
    refine wp_seq ?_
    refine wp_region_lit ?_
    refine wl_val (v := .bool false) rfl rfl rfl ?_
    refine wl_nil ?_
    refine then_n ?_
    refine wp_ret ?_
    refine then_r ?_
    obtain rfl := some_inj hm
    refine post_ret (vs := [.bool false]) Try.results50 (rvs_cons (rv_tmp rfl) rvs_nil) ?_
    exact ⟨rfl, hst.keep0⟩
  · skip
    replace hm := bif_f hc484 hm
    refine wp_iff (congrArg Value.bool hc484) ?_
    refine wp_skip ?_
    refine then_n ?_
    refine wp_seq ?_
    refine wp_seq ?_
    refine wp_region_lit ?_
    refine wl_val (v := .int .i64 (0:Int)) rfl rfl rfl ?_
    refine wl_nil ?_
    refine then_n ?_
    refine wp_block ?_
    obtain ⟨n538, hm⟩ := loopO_some hm
    refine wp_loop_n (fun n a w => ∃ (z536 : Int) (σ537 : Nat → Value), loopN (ref11_SameGots_l0 a0 a1) n z536 = some r ∧ a = Fr 43 (upd (upd (upd σ537 0 (r0_0)) 1 (r1_0)) 5 (.int .i64 z536)) ∧ St w0 w I [] R) n538 ⟨(0:Int), _, hm, ((fr_upd (t := 0) (v := r0_0) rfl).trans ((fr_upd (t := 1) (v := r1_0) rfl).trans ((fr_upd (t := 5) (v := .int .i64 (0:Int)) rfl).trans rfl))), hst⟩ ?_
    rintro n544 _ w539 ⟨z536, σ537, hm, rfl, hst⟩
    obtain ⟨n541, y542, rfl, hm, hx543⟩ := loopN_some hm
    dsimp only [ref11_SameGots_l0] at hm
    refine wp_seq ?_
    refine wp_seq ?_
    refine wp_region_lit ?_
    refine wl_val (v := .int .i64 z536) rfl rfl rfl ?_
    refine wl_val (v := r0_0) rfl rfl rfl ?_
    refine wl_val (v := .int .i64 ((a0).length : Int)) rfl rfl (x_len rfl Try.underlying36 (rd_sliceV f0_0)) ?_
    refine wl_val (v := .bool (decide (z536 < ((a0).length : Int)))) rfl rfl rfl ?_
    refine wl_nil ?_
    refine then_n ?_
    refine bsplit (decide (z536 < ((a0).length : Int))) (fun hc545 => ?_) (fun hc545 => ?_)
    · skip
      replace hm := bif_t hc545 hm
      refine wp_ift (congrArg Value.bool hc545) ?_
      refine wp_skip ?_
      refine then_n ?_
      refine wp_seq ?_
      refine wp_block ?_
      refine wp_seq ?_
      refine wq_regionS hst Try.mixed (by kernel_rfl) ?_
      refine wq_run (v := r0_0) rfl rfl (fun w hst => rfl) ?_
      refine wq_run (v := .int .i64 z536) rfl rfl (fun w hst => rfl) ?_
      obtain ⟨x546, hx547, hm⟩ := bind_some hm
      obtain ⟨h548, h549, hi550⟩ := geto_some hx547
      refine wq_run (v := .pointer (some (eAddr r0_0 (z536.toNat * 2 + 0)))) rfl rfl (fun w hst => x_index rfl rfl Try.underlying36 Try.sizeOf51 (rd_sliceV f0_0) h548 h549) ?_
      refine wq_run (v := .pointer (some (eAddr r0_0 (z536.toNat * 2 + 0)))) rfl rfl (fun w hst => x_field_e rfl Try.underlying51 rfl Try.sizeOf4 rfl) ?_
      obtain ⟨cs551, hr552, hc553⟩ := Rd.getF f0_0 hi550
      obtain ⟨v554, rfl, f555, -⟩ := hr552
      refine wq_run (v := .bool x546.Has) rfl rfl (fun w hst => x_load rfl Try.isAgg4 ((hc553 (HL.le.refl _) hst) 0 _ rfl)) ?_
      refine wq_run (v := r1_0) rfl rfl (fun w hst => rfl) ?_
      refine wq_run (v := .int .i64 z536) rfl rfl (fun w hst => rfl) ?_
      obtain ⟨x557, hx558, hm⟩ := bind_some hm
      obtain ⟨h559, h560, hi561⟩ := geto_some hx558
      refine wq_run (v := .pointer (some (eAddr r1_0 (z536.toNat * 2 + 0)))) rfl rfl (fun w hst => x_index rfl rfl Try.underlying36 Try.sizeOf51 (rd_sliceV f1_0) h559 h560) ?_
      refine wq_run (v := .pointer (some (eAddr r1_0 (z536.toNat * 2 + 0)))) rfl rfl (fun w hst => x_field_e rfl Try.underlying51 rfl Try.sizeOf4 rfl) ?_
      obtain ⟨cs562, hr563, hc564⟩ := Rd.getF f1_0 hi561
      obtain ⟨v565, rfl, f566, -⟩ := hr563
      refine wq_run (v := .bool x557.Has) rfl rfl (fun w hst => x_load rfl Try.isAgg4 ((hc564 (HL.le.refl _) hst) 0 _ rfl)) ?_
      refine wq_run (v := .bool (!(x546.Has == x557.Has))) rfl rfl (fun w hst => by kernel_rfl) ?_
      refine wq_run (v := .bool (!(x546.Has == x557.Has))) rfl rfl (fun w hst => rfl) ?_
      refine bsplit (!(x546.Has == x557.Has)) (fun hc568 => ?_) (fun hc568 => ?_)
      · skip
        replace hm := bif_t hc568 hm
        refine wq_off ((wanted_eq rfl rfl rfl (congrArg Value.bool hc568)).trans rfl) rfl ?_
        refine wq_off ((wanted_eq rfl rfl rfl (congrArg Value.bool hc568)).trans rfl) rfl ?_
        refine wq_off ((wanted_eq rfl rfl rfl (congrArg Value.bool hc568)).trans rfl) rfl ?_
        refine wq_off ((wanted_eq rfl rfl rfl (congrArg Value.bool hc568)).trans rfl) rfl ?_
        refine wq_off ((wanted_eq rfl rfl rfl (congrArg Value.bool hc568)).trans rfl) rfl ?_
        refine wq_off ((wanted_eq rfl rfl rfl (congrArg Value.bool hc568)).trans rfl) rfl ?_
        refine wq_off ((wanted_eq rfl rfl rfl (congrArg Value.bool hc568)).trans rfl) rfl ?_
        refine wq_off ((wanted_eq rfl rfl rfl (congrArg Value.bool hc568)).trans rfl) rfl ?_
        refine wq_off ((wanted_eq rfl rfl rfl (congrArg Value.bool hc568)).trans rfl) rfl ?_
        refine wq_off ((wanted_eq rfl rfl rfl (congrArg Value.bool hc568)).trans rfl) rfl ?_
        refine wq_off ((wanted_eq rfl rfl rfl (congrArg Value.bool hc568)).trans rfl) rfl ?_
        refine wq_off ((wanted_eq rfl rfl rfl (congrArg Value.bool hc568)).trans rfl) rfl ?_
        refine wq_off ((wanted_eq rfl rfl rfl (congrArg Value.bool hc568)).trans rfl) rfl ?_
        refine wq_run (v := .bool true) rfl rfl (fun w hst => x_pick_t hc568 rfl rfl) ?_
        refine wq_nil ?_
        intro w hst
        refine then_n ?_
        refine wp_ift rfl ?_
        refine wp_seq ?_
        refine wp_region_lit ?_
        refine wl_val (v := .bool false) rfl rfl rfl ?_
        refine wl_nil ?_
        refine then_n ?_
        refine wp_ret ?_
        refine blk_r ?_
        refine then_r ?_
        refine then_r ?_
        replace hm := inr_up hm hx543
        refine blk_r ?_
        refine then_r ?_
        obtain rfl := some_inj hm
        refine post_ret (vs := [.bool false]) Try.results50 (rvs_cons (rv_tmp rfl) rvs_nil) ?_
        exact ⟨rfl, hst.keep0⟩
      · skip
        replace hm := bif_f hc568 hm
        refine wq_run (v := r0_0) ((wanted_eq rfl rfl rfl (congrArg Value.bool hc568)).trans rfl) rfl (fun w hst => rfl) ?_
        refine wq_run (v := .int .i64 z536) ((wanted_eq rfl rfl rfl (congrArg Value.bool hc568)).trans rfl) rfl (fun w hst => rfl) ?_
        refine wq_run (v := .pointer (some (eAddr r0_0 (z536.toNat * 2 + 0)))) ((wanted_eq rfl rfl rfl (congrArg Value.bool hc568)).trans rfl) rfl (fun w hst => x_index rfl rfl Try.underlying36 Try.sizeOf51 (rd_sliceV f0_0) h548 h549) ?_
        refine wq_run (v := .pointer (some (eAddr r0_0 (z536.toNat * 2 + 1)))) ((wanted_eq rfl rfl rfl (congrArg Value.bool hc568)).trans rfl) rfl (fun w hst => x_field_e rfl Try.underlying51 rfl Try.sizeOf22 rfl) ?_
        refine wq_run (v := v554) ((wanted_eq rfl rfl rfl (congrArg Value.bool hc568)).trans rfl) rfl (fun w hst => x_load rfl Try.isAgg22 ((hc553 (HL.le.refl _) hst) 1 _ rfl)) ?_
        refine wq_run (v := .string (toStr x546.Val)) ((wanted_eq rfl rfl rfl (congrArg Value.bool hc568)).trans rfl) rfl (fun w hst => x_tostr Try.underlying22 Try.underlying9 Try.underlying5 rfl (Src.of_rd hst f555 flat_int)) ?_
        refine wq_run (v := r1_0) ((wanted_eq rfl rfl rfl (congrArg Value.bool hc568)).trans rfl) rfl (fun w hst => rfl) ?_
        refine wq_run (v := .int .i64 z536) ((wanted_eq rfl rfl rfl (congrArg Value.bool hc568)).trans rfl) rfl (fun w hst => rfl) ?_
        refine wq_run (v := .pointer (some (eAddr r1_0 (z536.toNat * 2 + 0)))) ((wanted_eq rfl rfl rfl (congrArg Value.bool hc568)).trans rfl) rfl (fun w hst => x_index rfl rfl Try.underlying36 Try.sizeOf51 (rd_sliceV f1_0) h559 h560) ?_
        refine wq_run (v := .pointer (some (eAddr r1_0 (z536.toNat * 2 + 1)))) ((wanted_eq rfl rfl rfl (congrArg Value.bool hc568)).trans rfl) rfl (fun w hst => x_field_e rfl Try.underlying51 rfl Try.sizeOf22 rfl) ?_
        refine wq_run (v := v565) ((wanted_eq rfl rfl rfl (congrArg Value.bool hc568)).trans rfl) rfl (fun w hst => x_load rfl Try.isAgg22 ((hc564 (HL.le.refl _) hst) 1 _ rfl)) ?_
        refine wq_run (v := .string (toStr x557.Val)) ((wanted_eq rfl rfl rfl (congrArg Value.bool hc568)).trans rfl) rfl (fun w hst => x_tostr Try.underlying22 Try.underlying9 Try.underlying5 rfl (Src.of_rd hst f566 flat_int)) ?_
        refine wq_run (v := .bool (!(sEq (toStr x546.Val) (toStr x557.Val)))) ((wanted_eq rfl rfl rfl (congrArg Value.bool hc568)).trans rfl) rfl (fun w hst => by kernel_rfl) ?_
        refine wq_run (v := .bool (!(sEq (toStr x546.Val) (toStr x557.Val)))) rfl rfl (fun w hst => x_pick_f hc568 rfl rfl) ?_
        refine wq_nil ?_
        intro w hst
        refine then_n ?_
        refine bsplit (!(sEq (toStr x546.Val) (toStr x557.Val))) (fun hc569 => ?_) (fun hc569 => ?_)
        · skip
          replace hm := bif_t hc569 hm
          refine wp_ift (congrArg Value.bool hc569) ?_
          refine wp_seq ?_
          refine wp_region_lit ?_
          refine wl_val (v := .bool false) rfl rfl rfl ?_
          refine wl_nil ?_
          refine then_n ?_
          refine wp_ret ?_
          refine blk_r ?_
          refine then_r ?_
          refine then_r ?_
          replace hm := inr_up hm hx543
          refine blk_r ?_
          refine then_r ?_
          obtain rfl := some_inj hm
          refine post_ret (vs := [.bool false]) Try.results50 (rvs_cons (rv_tmp rfl) rvs_nil) ?_
          exact ⟨rfl, hst.keep0⟩
        · skip
          replace hm := bif_f hc569 hm
          refine wp_iff (congrArg Value.bool hc569) ?_
          refine wp_skip ?_
          refine blk_n ?_
          refine then_n ?_
          refine wp_region_lit ?_
          refine wl_val (v := .int .i64 z536) rfl rfl rfl ?_
          refine wl_val (v := .int .i64 (IntKind.i64.wrap (z536 + (1:Int)))) rfl rfl rfl ?_
          refine wl_val (v := .int .i64 (IntKind.i64.wrap (z536 + (1:Int)))) rfl rfl rfl ?_
          refine wl_nil ?_
          refine then_n ?_
          replace hst := hst.keep0
          obtain rfl := some_inj hm
          exact ⟨_, Nat.lt_succ_self _, (IntKind.i64.wrap (z536 + (1:Int))), _, hx543, ((fr_upd (t := 0) (v := r0_0) rfl).trans ((fr_upd (t := 1) (v := r1_0) rfl).trans ((fr_upd (t := 5) (v := .int .i64 (IntKind.i64.wrap (z536 + (1:Int)))) rfl).trans rfl))), hst⟩
    · skip
      replace hm := bif_f hc545 hm
      refine wp_iff (congrArg Value.bool hc545) ?_
      refine wp_exit ?_
      refine then_x ?_
      refine then_x ?_
      replace hm := inr_up hm hx543
      refine blk_x ?_
      refine then_n ?_
      refine wp_seq ?_
      refine wp_region_lit ?_
      refine wl_val (v := .bool true) rfl rfl rfl ?_
      refine wl_nil ?_
      refine then_n ?_
      refine wp_ret ?_
      obtain rfl := some_inj hm
      refine post_ret (vs := [.bool true]) Try.results50 (rvs_cons (rv_tmp rfl) rvs_nil) ?_
      exact ⟨rfl, hst.keep0⟩

theorem math_Signbit_ref {w0 w : World} {I : HL} {R : SP} {a0 : Nat}  (hst : St w0 w I [] R) {r : (Bool)} (hm : math_Signbit a0 = some r) :
    Calls Try.prog 69 #[.float .f64 a0] w fun e w' => e = .returned (.bool r) ∧ St w0 w' I [] R := by
  unfold math_Signbit at hm
  refine calls_start (args := [.float .f64 a0]) Try.func69 rfl Try.ntmps69 (Nat.le_of_ble_eq_true rfl) ?_
  refine wp_seq ?_
  refine wp_region_lit ?_
  refine wl_val (v := .bool false) rfl rfl rfl ?_
  refine wl_nil ?_
  refine then_n ?_
  refine wp_seq ?_
  refine wp_region_lit ?_
  refine wl_val (v := .float .f64 a0) rfl rfl rfl ?_
  refine wl_val (v := .int .u64 (Int.ofNat a0)) rfl rfl (by kernel_rfl) ?_
  refine wl_val (v := .int .i64 (IntKind.i64.wrap (Int.ofNat a0))) rfl rfl (by kernel_rfl) ?_
  refine wl_val (v := .bool (decide ((IntKind.i64.wrap (Int.ofNat a0)) < (0:Int)))) rfl rfl rfl ?_
  refine wl_val (v := .bool (decide ((IntKind.i64.wrap (Int.ofNat a0)) < (0:Int)))) rfl rfl rfl ?_
  refine wl_nil ?_
  refine then_n ?_
  refine wp_ret ?_
  obtain rfl := some_inj hm
  refine post_ret (vs := [.bool (decide ((IntKind.i64.wrap (Int.ofNat a0)) < (0:Int)))]) Try.results69 (rvs_cons (rv_tmp rfl) rvs_nil) ?_
  exact ⟨rfl, hst.keep0⟩

theorem ref01_Ahead_ref {w0 w : World} {I : HL} {R : SP} {a0 : Nat} {a1 : Nat}  (hst : St w0 w I [] R) {r : (Bool)} (hm : ref01_Ahead a0 a1 = some r) :
    Calls Try.prog 68 #[.float .f64 a0, .float .f64 a1] w fun e w' => e = .returned (.bool r) ∧ St w0 w' I [] R := by
  unfold ref01_Ahead at hm
  refine calls_start (args := [.float .f64 a0, .float .f64 a1]) Try.func68 rfl Try.ntmps68 (Nat.le_of_ble_eq_true rfl) ?_
  refine wp_seq ?_
  refine wp_region_lit ?_
  refine wl_val (v := .bool false) rfl rfl rfl ?_
  refine wl_nil ?_
  refine then_n ?_
  refine wp_seq ?_
  refine wp_seq ?_
  refine wp_region_lit ?_
  refine wl_val (v := .float .f64 a0) rfl rfl rfl ?_
  refine wl_val (v := .float .f64 a0) rfl rfl rfl ?_
  refine wl_val (v := .bool (fNe a0 a0)) rfl rfl rfl ?_
  refine wl_nil ?_
  refine then_n ?_
  refine bsplit (fNe a0 a0) (fun hc426 => ?_) (fun hc426 => ?_)
  · skip
    replace hm := bif_t hc426 hm
    refine wp_ift (congrArg Value.bool hc426) ?_
    refine wp_seq ?_
    refine wp_region_lit ?_
    refine wl_val (v := .bool false) rfl rfl rfl ?_
    refine wl_nil ?_
    refine then_n ?_
    refine wp_ret ?_
    refine then_r ?_
    obtain rfl := some_inj hm
    refine post_ret (vs := [.bool false]) Try.results68 (rvs_cons (rv_tmp rfl) rvs_nil) ?_
    exact ⟨rfl, hst.keep0⟩
  · skip
    replace hm := bif_f hc426 hm
    refine wp_iff (congrArg Value.bool hc426) ?_
    refine wp_skip ?_
    refine then_n ?_
    refine wp_seq ?_
    refine wp_seq ?_
    refine wp_region_lit ?_
    refine wl_val (v := .float .f64 a1) rfl rfl rfl ?_
    refine wl_val (v := .float .f64 a1) rfl rfl rfl ?_
    refine wl_val (v := .bool (fNe a1 a1)) rfl rfl rfl ?_
    refine wl_nil ?_
    refine then_n ?_
    refine bsplit (fNe a1 a1) (fun hc427 => ?_) (fun hc427 => ?_)
    · skip
      replace hm := bif_t hc427 hm
      refine wp_ift (congrArg Value.bool hc427) ?_
      refine wp_seq ?_
      refine wp_region_lit ?_
      refine wl_val (v := .bool true) rfl rfl rfl ?_
      refine wl_nil ?_
      refine then_n ?_
      refine wp_ret ?_
      refine then_r ?_
      obtain rfl := some_inj hm
      refine post_ret (vs := [.bool true]) Try.results68 (rvs_cons (rv_tmp rfl) rvs_nil) ?_
      exact ⟨rfl, hst.keep0⟩
    · skip
      replace hm := bif_f hc427 hm
      refine wp_iff (congrArg Value.bool hc427) ?_
      refine wp_skip ?_
      refine then_n ?_
      obtain ⟨y443, hm, hx444⟩ := joinO_some hm
      refine wp_cut (fun a w => ∃ (σ441 : Nat → Value), (ref01_Ahead_j0 a0 a1) () = some r ∧ a = Fr 27 (upd (upd σ441 0 (.float .f64 a0)) 1 (.float .f64 a1)) ∧ St w0 w I [] R) ?_ ?_
      · skip
        refine wp_seq ?_
        refine wp_region_lit ?_
        refine wl_val (v := .float .f64 a0) rfl rfl rfl ?_
        refine wl_val (v := .bool (fEq a0 (0:Nat))) rfl rfl rfl ?_
        refine wl_val (v := .bool (fEq a0 (0:Nat))) rfl rfl rfl ?_
        refine bsplit (fEq a0 (0:Nat)) (fun hc428 => ?_) (fun hc428 => ?_)
        · skip
          replace hm := bif_t hc428 hm
          refine wl_val (v := .float .f64 a1) ((wanted_eq rfl rfl rfl (congrArg Value.bool hc428)).trans rfl) rfl rfl ?_
          refine wl_val (v := .bool (fEq a1 (0:Nat))) ((wanted_eq rfl rfl rfl (congrArg Value.bool hc428)).trans rfl) rfl rfl ?_
          refine wl_val (v := .bool (fEq a1 (0:Nat))) rfl rfl (x_pick_t hc428 rfl rfl) ?_
          refine wl_nil ?_
          refine then_n ?_
          refine bsplit (fEq a1 (0:Nat)) (fun hc429 => ?_) (fun hc429 => ?_)
          · skip
            replace hm := bif_t hc429 hm
            refine wp_ift (congrArg Value.bool hc429) ?_
            refine wp_seq ?_
            refine wp_region_lit ?_
            refine wl_val (v := .float .f64 a0) rfl rfl rfl ?_
            obtain ⟨t430, ht431, hm⟩ := bind_some hm
            refine wl_call rfl rfl (x_call Try.call69 rfl (vs := [.float .f64 a0]) rfl) ?_
            refine (math_Signbit_ref hst.to0 ht431).mono ?_
            rintro _ w432 ⟨rfl, hst⟩
            refine ⟨_, rfl, ?_⟩
            replace hst := hst.of0
            refine wl_val (v := .bool t430) rfl rfl rfl ?_
            refine bsplit t430 (fun hc435 => ?_) (fun hc435 => ?_)
            · skip
              replace hm := bif_t hc435 hm
              refine wl_val (v := .float .f64 a1) ((wanted_eq rfl rfl rfl (congrArg Value.bool hc435)).trans rfl) rfl rfl ?_
              obtain ⟨t436, ht437, hm⟩ := bind_some hm
              refine wl_call ((wanted_eq rfl rfl rfl (congrArg Value.bool hc435)).trans rfl) rfl (x_call Try.call69 rfl (vs := [.float .f64 a1]) rfl) ?_
              refine (math_Signbit_ref hst.to0 ht437).mono ?_
              rintro _ w438 ⟨rfl, hst⟩
              refine ⟨_, rfl, ?_⟩
              replace hst := hst.of0
              refine wl_val (v := .bool (!t436)) ((wanted_eq rfl rfl rfl (congrArg Value.bool hc435)).trans rfl) rfl rfl ?_
              refine wl_val (v := .bool (!t436)) rfl rfl (x_pick_t hc435 rfl rfl) ?_
              refine wl_val (v := .bool (!t436)) rfl rfl rfl ?_
              refine wl_nil ?_
              refine then_n ?_
              refine wp_ret ?_
              refine then_r ?_
              replace hm := inr_up hm hx444
              obtain rfl := some_inj hm
              refine post_ret (vs := [.bool (!t436)]) Try.results68 (rvs_cons (rv_tmp rfl) rvs_nil) ?_
              exact ⟨rfl, hst.keep0⟩
            · skip
              replace hm := bif_f hc435 hm
              refine wl_off ((wanted_eq rfl rfl rfl (congrArg Value.bool hc435)).trans rfl) rfl ?_
              refine wl_off ((wanted_eq rfl rfl rfl (congrArg Value.bool hc435)).trans rfl) rfl ?_
              refine wl_off ((wanted_eq rfl rfl rfl (congrArg Value.bool hc435)).trans rfl) rfl ?_
              refine wl_val (v := .bool false) rfl rfl (x_pick_f hc435 rfl rfl) ?_
              refine wl_val (v := .bool false) rfl rfl rfl ?_
              refine wl_nil ?_
              refine then_n ?_
              refine wp_ret ?_
              refine then_r ?_
              replace hm := inr_up hm hx444
              obtain rfl := some_inj hm
              refine post_ret (vs := [.bool false]) Try.results68 (rvs_cons (rv_tmp rfl) rvs_nil) ?_
              exact ⟨rfl, hst.keep0⟩
          · skip
            replace hm := bif_f hc429 hm
            refine wp_iff (congrArg Value.bool hc429) ?_
            refine wp_skip ?_
            refine then_n ?_
            replace hst := hst.keep0
            obtain rfl := some_inj hm
            exact ⟨_, hx444, ((fr_upd (t := 0) (v := .float .f64 a0) rfl).trans ((fr_upd (t := 1) (v := .float .f64 a1) rfl).trans rfl)), hst⟩
        · skip
          replace hm := bif_f hc428 hm
          refine wl_off ((wanted_eq rfl rfl rfl (congrArg Value.bool hc428)).trans rfl) rfl ?_
          refine wl_off ((wanted_eq rfl rfl rfl (congrArg Value.bool hc428)).trans rfl) rfl ?_
          refine wl_val (v := .bool false) rfl rfl (x_pick_f hc428 rfl rfl) ?_
          refine wl_nil ?_
          refine then_n ?_
          refine wp_iff rfl ?_
          refine wp_skip ?_
          refine then_n ?_
          replace hst := hst.keep0
          obtain rfl := some_inj hm
          exact ⟨_, hx444, ((fr_upd (t := 0) (v := .float .f64 a0) rfl).trans ((fr_upd (t := 1) (v := .float .f64 a1) rfl).trans rfl)), hst⟩
      · skip
        clear hst
        rintro _ w445 ⟨σ441, hm, rfl, hst⟩
        dsimp only [ref01_Ahead_j0] at hm
        refine wp_seq ?_
        refine wp_region_lit ?_
        refine wl_val (v := .float .f64 a0) rfl rfl rfl ?_
        refine wl_val (v := .float .f64 a1) rfl rfl rfl ?_
        refine wl_val (v := .bool (fLt a0 a1)) rfl rfl rfl ?_
        refine wl_val (v := .bool (fLt a0 a1)) rfl rfl rfl ?_
        refine wl_nil ?_
        refine then_n ?_
        refine wp_ret ?_
        obtain rfl := some_inj hm
        refine post_ret (vs := [.bool (fLt a0 a1)]) Try.results68 (rvs_cons (rv_tmp rfl) rvs_nil) ?_
        exact ⟨rfl, hst.keep0⟩

theorem ref01_Same_ref {w0 w : World} {I : HL} {R : SP} {a0 : Nat} {a1 : Nat}  (hst : St w0 w I [] R) {r : (Bool)} (hm : ref01_Same a0 a1 = some r) :
    Calls Try.prog 62 #[.float .f64 a0, .float .f64 a1] w fun e w' => e = .returned (.bool r) ∧ St w0 w' I [] R := by
  unfold ref01_Same at hm
  refine calls_start (args := [.float .f64 a0, .float .f64 a1]) Try.func62 rfl Try.ntmps62 (Nat.le_of_ble_eq_true rfl) ?_
  refine wp_seq ?_
  refine wp_region_lit ?_
  refine wl_val (v := .bool false) rfl rfl rfl ?_
  refine wl_nil ?_
  refine then_n ?_
  refine wp_seq ?_
  refine wp_region_lit ?_
  refine wl_val (v := .float .f64 a0) rfl rfl rfl ?_
  refine wl_val (v := .float .f64 a1) rfl rfl rfl ?_
  obtain ⟨t417, ht418, hm⟩ := bind_some hm
  refine wl_call rfl rfl (x_call Try.call68 rfl (vs := [.float .f64 a0, .float .f64 a1]) rfl) ?_
  refine (ref01_Ahead_ref hst.to0 ht418).mono ?_
  rintro _ w419 ⟨rfl, hst⟩
  refine ⟨_, rfl, ?_⟩
  replace hst := hst.of0
  refine wl_val (v := .bool (!t417)) rfl rfl rfl ?_
  refine wl_val (v := .bool (!t417)) rfl rfl rfl ?_
  refine bsplit (!t417) (fun hc422 => ?_) (fun hc422 => ?_)
  · skip
    replace hm := bif_t hc422 hm
    refine wl_val (v := .float .f64 a1) ((wanted_eq rfl rfl rfl (congrArg Value.bool hc422)).trans rfl) rfl rfl ?_
    refine wl_val (v := .float .f64 a0) ((wanted_eq rfl rfl rfl (congrArg Value.bool hc422)).trans rfl) rfl rfl ?_
    obtain ⟨t423, ht424, hm⟩ := bind_some hm
    refine wl_call ((wanted_eq rfl rfl rfl (congrArg Value.bool hc422)).trans rfl) rfl (x_call Try.call68 rfl (vs := [.float .f64 a1, .float .f64 a0]) rfl) ?_
    refine (ref01_Ahead_ref hst.to0 ht424).mono ?_
    rintro _ w425 ⟨rfl, hst⟩
    refine ⟨_, rfl, ?_⟩
    replace hst := hst.of0
    refine wl_val (v := .bool (!t423)) ((wanted_eq rfl rfl rfl (congrArg Value.bool hc422)).trans rfl) rfl rfl ?_
    refine wl_val (v := .bool (!t423)) rfl rfl (x_pick_t hc422 rfl rfl) ?_
    refine wl_val (v := .bool (!t423)) rfl rfl rfl ?_
    refine wl_nil ?_
    refine then_n ?_
    refine wp_ret ?_
    obtain rfl := some_inj hm
    refine post_ret (vs := [.bool (!t423)]) Try.results62 (rvs_cons (rv_tmp rfl) rvs_nil) ?_
    exact ⟨rfl, hst.keep0⟩
  · skip
    replace hm := bif_f hc422 hm
    refine wl_off ((wanted_eq rfl rfl rfl (congrArg Value.bool hc422)).trans rfl) rfl ?_
    refine wl_off ((wanted_eq rfl rfl rfl (congrArg Value.bool hc422)).trans rfl) rfl ?_
    refine wl_off ((wanted_eq rfl rfl rfl (congrArg Value.bool hc422)).trans rfl) rfl ?_
    refine wl_off ((wanted_eq rfl rfl rfl (congrArg Value.bool hc422)).trans rfl) rfl ?_
    refine wl_val (v := .bool false) rfl rfl (x_pick_f hc422 rfl rfl) ?_
    refine wl_val (v := .bool false) rfl rfl rfl ?_
    refine wl_nil ?_
    refine then_n ?_
    refine wp_ret ?_
    obtain rfl := some_inj hm
    refine post_ret (vs := [.bool false]) Try.results62 (rvs_cons (rv_tmp rfl) rvs_nil) ?_
    exact ⟨rfl, hst.keep0⟩

theorem ref11_SamePairs_ref {w0 w : World} {I : HL} {R : SP} {a0 : (List api_Pair)} {r0_0 : Value} {a1 : (List api_Pair)} {r1_0 : Value} (f0_0 : Rd ty_api_Pair R I r0_0 a0) (f1_0 : Rd ty_api_Pair R I r1_0 a1) (hst : St w0 w I [] R) {r : (Bool)} (hm : ref11_SamePairs a0 a1 = some r) :
    Calls Try.prog 51 #[r0_0, r1_0] w fun e w' => e = .returned (.bool r) ∧ St w0 w' I [] R := by
  unfold ref11_SamePairs at hm
  refine calls_start (args := [r0_0, r1_0]) Try.func51 rfl Try.ntmps51 (Nat.le_of_ble_eq_true rfl) ?_
  refine wp_seq ?_
  refine wp_region_lit ?_
  refine wl_val (v := .bool false) rfl rfl rfl ?_
  refine wl_nil ?_
  refine then_n ?_
  refine wp_seq ?_
  refine wp_seq ?_
  refine wp_region_lit ?_
  refine wl_val (v := r0_0) rfl rfl rfl ?_
  refine wl_val (v := .int .i64 ((a0).length : Int)) rfl rfl (x_len rfl Try.underlying52 (rd_sliceV f0_0)) ?_
  refine wl_val (v := r1_0) rfl rfl rfl ?_
  refine wl_val (v := .int .i64 ((a1).length : Int)) rfl rfl (x_len rfl Try.underlying52 (rd_sliceV f1_0)) ?_
  refine wl_val (v := .bool (((a0).length : Int) != ((a1).length : Int))) rfl rfl rfl ?_
  refine wl_nil ?_
  refine then_n ?_
  refine bsplit (((a0).length : Int) != ((a1).length : Int)) (fun hc543 => ?_) (fun hc543 => ?_)
  · skip
    replace hm := bif_t hc543 hm
    refine wp_ift (congrArg Value.bool hc543) ?_
    refine wp_seq ?_
    refine wp_region_lit ?_
    refine wl_val (v := .bool false) rfl rfl rfl ?_
    refine wl_nil ?_
    refine then_n ?_
    refine wp_ret ?_
    refine then_r ?_
    obtain rfl := some_inj hm
    refine post_ret (vs := [.bool false]) Try.results51 (rvs_cons (rv_tmp rfl) rvs_nil) ?_
    exact ⟨rfl, hst.keep0⟩
  · skip
    replace hm := bif_f hc543 hm
    refine wp_iff (congrArg Value.bool hc543) ?_
    refine wp_skip ?_
    refine then_n ?_
    refine wp_seq ?_
    refine wp_seq ?_
    refine wp_region_lit ?_
    refine wl_val (v := .int .i64 (0:Int)) rfl rfl rfl ?_
    refine wl_nil ?_
    refine then_n ?_
    refine wp_block ?_
    obtain ⟨n631, hm⟩ := loopO_some hm
    refine wp_loop_n (fun n a w => ∃ (z629 : Int) (σ630 : Nat → Value), loopN (ref11_SamePairs_l0 a0 a1) n z629 = some r ∧ a = Fr 44 (upd (upd (upd σ630 0 (r0_0)) 1 (r1_0)) 5 (.int .i64 z629)) ∧ St w0 w I [] R) n631 ⟨(0:Int), _, hm, ((fr_upd (t := 0) (v := r0_0) rfl).trans ((fr_upd (t := 1) (v := r1_0) rfl).trans ((fr_upd (t := 5) (v := .int .i64 (0:Int)) rfl).trans rfl))), hst⟩ ?_
    rintro n637 _ w632 ⟨z629, σ630, hm, rfl, hst⟩
    obtain ⟨n634, y635, rfl, hm, hx636⟩ := loopN_some hm
    dsimp only [ref11_SamePairs_l0] at hm
    refine wp_seq ?_
    refine wp_seq ?_
    refine wp_region_lit ?_
    refine wl_val (v := .int .i64 z629) rfl rfl rfl ?_
    refine wl_val (v := r0_0) rfl rfl rfl ?_
    refine wl_val (v := .int .i64 ((a0).length : Int)) rfl rfl (x_len rfl Try.underlying52 (rd_sliceV f0_0)) ?_
    refine wl_val (v := .bool (decide (z629 < ((a0).length : Int)))) rfl rfl rfl ?_
    refine wl_nil ?_
    refine then_n ?_
    refine bsplit (decide (z629 < ((a0).length : Int))) (fun hc638 => ?_) (fun hc638 => ?_)
    · skip
      replace hm := bif_t hc638 hm
      refine wp_ift (congrArg Value.bool hc638) ?_
      refine wp_skip ?_
      refine then_n ?_
      refine wp_seq ?_
      refine wp_block ?_
      refine wp_seq ?_
      refine wp_region_St hst 27 [0, 1, 2, 3, 4, 5, 6, 7, 8, 9, 10, 11, 12, 13, 14, 15, 16, 17, 18, 19, 20, 21, 22, 23, 24, 25, 26] [0, 0, 3, 7, 15, 0, 0, 96, 224, 480, 1023, 2047, 4095, 8191, 8191, 32767, 65535, 131071, 262143, 8191, 8191, 1581055, 3678207, 7872511, 16261119, 33554431, 67108863] [] rfl (by kernel_rfl) (by kernel_rfl) Try.mixed (by kernel_rfl) ?_
      refine ws_q (v := r0_0) 0 [1, 2, 3, 4, 5, 6, 7, 8, 9, 10, 11, 12, 13, 14, 15, 16, 17, 18, 19, 20, 21, 22, 23, 24, 25, 26] (by kernel_rfl) rfl rfl (yi_run rfl (fun w hst => rfl)) ?_
      refine ws_q (v := .int .i64 z629) 1 [2, 3, 4, 5, 6, 7, 8, 9, 10, 11, 12, 13, 14, 15, 16, 17, 18, 19, 20, 21, 22, 23, 24, 25, 26] (by kernel_rfl) rfl rfl (yi_run rfl (fun w hst => rfl)) ?_
      obtain ⟨x639, hx640, hm⟩ := bind_some hm
      obtain ⟨h641, h642, hi643⟩ := geto_some hx640
      refine ws_q (v := .pointer (some (eAddr r0_0 (z629.toNat * 2 + 0)))) 2 [3, 4, 5, 6, 7, 8, 9, 10, 11, 12, 13, 14, 15, 16, 17, 18, 19, 20, 21, 22, 23, 24, 25, 26] (by kernel_rfl) rfl rfl (yi_run rfl (fun w hst => x_index rfl rfl Try.underlying52 Try.sizeOf54 (rd_sliceV f0_0) h641 h642)) ?_
      refine ws_q (v := .pointer (some (eAddr r0_0 (z629.toNat * 2 + 0)))) 3 [4, 5, 6, 7, 8, 9, 10, 11, 12, 13, 14, 15, 16, 17, 18, 19, 20, 21, 22, 23, 24, 25, 26] (by kernel_rfl) rfl rfl (yi_run rfl (fun w hst => x_field_e rfl Try.underlying54 rfl Try.sizeOf41 rfl)) ?_
      obtain ⟨cs644, hr645, hc646⟩ := Rd.getF f0_0 hi643
      obtain ⟨v647, rfl, f648, -⟩ := hr645
      refine ws_q (v := .float .f64 x639.At) 4 [5, 6, 7, 8, 9, 10, 11, 12, 13, 14, 15, 16, 17, 18, 19, 20, 21, 22, 23, 24, 25, 26] (by kernel_rfl) rfl rfl (yi_run rfl (fun w hst => x_load rfl Try.isAgg41 ((hc646 (HL.le.refl _) hst) 0 _ rfl))) ?_
      refine ws_q (v := r1_0) 5 [6, 7, 8, 9, 10, 11, 12, 13, 14, 15, 16, 17, 18, 19, 20, 21, 22, 23, 24, 25, 26] (by kernel_rfl) rfl rfl (yi_run rfl (fun w hst => rfl)) ?_
      refine ws_q (v := .int .i64 z629) 6 [7, 8, 9, 10, 11, 12, 13, 14, 15, 16, 17, 18, 19, 20, 21, 22, 23, 24, 25, 26] (by kernel_rfl) rfl rfl (yi_run rfl (fun w hst => rfl)) ?_
      obtain ⟨x650, hx651, hm⟩ := bind_some hm
      obtain ⟨h652, h653, hi654⟩ := geto_some hx651
      refine ws_q (v := .pointer (some (eAddr r1_0 (z629.toNat * 2 + 0)))) 7 [8, 9, 10, 11, 12, 13, 14, 15, 16, 17, 18, 19, 20, 21, 22, 23, 24, 25, 26] (by kernel_rfl) rfl rfl (yi_run rfl (fun w hst => x_index rfl rfl Try.underlying52 Try.sizeOf54 (rd_sliceV f1_0) h652 h653)) ?_
      refine ws_q (v := .pointer (some (eAddr r1_0 (z629.toNat * 2 + 0)))) 8 [9, 10, 11, 12, 13, 14, 15, 16, 17, 18, 19, 20, 21, 22, 23, 24, 25, 26] (by kernel_rfl) rfl rfl (yi_run rfl (fun w hst => x_field_e rfl Try.underlying54 rfl Try.sizeOf41 rfl)) ?_
      obtain ⟨cs655, hr656, hc657⟩ := Rd.getF f1_0 hi654
      obtain ⟨v658, rfl, f659, -⟩ := hr656
      refine ws_q (v := .float .f64 x650.At) 9 [10, 11, 12, 13, 14, 15, 16, 17, 18, 19, 20, 21, 22, 23, 24, 25, 26] (by kernel_rfl) rfl rfl (yi_run rfl (fun w hst => x_load rfl Try.isAgg41 ((hc657 (HL.le.refl _) hst) 0 _ rfl))) ?_
      refine ws_e1 10 (by kernel_rfl) ?_
      refine nxe [11, 12, 13, 14, 15, 16, 17, 18, 19, 20, 21, 22, 23, 24, 25, 26] (by kernel_rfl) rfl rfl ?_
      clear hst
      intro w hst
      obtain ⟨t661, ht662, hm⟩ := bind_some hm
      refine we_call rfl (x_call Try.call62 rfl (vs := [.float .f64 x639.At, .float .f64 x650.At]) rfl) ?_
      refine (ref01_Same_ref hst.to0 ht662).mono ?_
      rintro _ w663 ⟨rfl, hst⟩
      refine ⟨_, rfl, ?_⟩
      replace hst := hst.of0
      refine ws_next (pend' := []) hst (by kernel_rfl) pk_nil ?_
      refine ws_q (v := .bool (!t661)) 11 [12, 13, 14, 15, 16, 17, 18, 19, 20, 21, 22, 23, 24, 25, 26] (by kernel_rfl) rfl rfl (yi_run rfl (fun w hst => rfl)) ?_
      refine ws_q (v := .bool (!t661)) 12 [13, 14, 15, 16, 17, 18, 19, 20, 21, 22, 23, 24, 25, 26] (by kernel_rfl) rfl rfl (yi_run rfl (fun w hst => rfl)) ?_
      refine bsplit (!t661) (fun hc666 => ?_) (fun hc666 => ?_)
      · skip
        replace hm := bif_t hc666 hm
        refine ws_q (v := undef) 13 [14, 15, 16, 17, 18, 19, 20, 21, 22, 23, 24, 25, 26] (by kernel_rfl) rfl rfl (yi_off ((wanted_eq rfl rfl rfl (congrArg Value.bool hc666)).trans rfl)) ?_
        refine ws_q (v := undef) 14 [15, 16, 17, 18, 19, 20, 21, 22, 23, 24, 25, 26] (by kernel_rfl) rfl rfl (yi_off ((wanted_eq rfl rfl rfl (congrArg Value.bool hc666)).trans rfl)) ?_
        refine ws_q (v := undef) 15 [16, 17, 18, 19, 20, 21, 22, 23, 24, 25, 26] (by kernel_rfl) rfl rfl (yi_off ((wanted_eq rfl rfl rfl (congrArg Value.bool hc666)).trans rfl)) ?_
        refine ws_q (v := undef) 16 [17, 18, 19, 20, 21, 22, 23, 24, 25, 26] (by kernel_rfl) rfl rfl (yi_off ((wanted_eq rfl rfl rfl (congrArg Value.bool hc666)).trans rfl)) ?_
        refine ws_q (v := undef) 17 [18, 19, 20, 21, 22, 23, 24, 25, 26] (by kernel_rfl) rfl rfl (yi_off ((wanted_eq rfl rfl rfl (congrArg Value.bool hc666)).trans rfl)) ?_
        refine ws_q (v := undef) 18 [19, 20, 21, 22, 23, 24, 25, 26] (by kernel_rfl) rfl rfl (yi_off ((wanted_eq rfl rfl rfl (congrArg Value.bool hc666)).trans rfl)) ?_
        refine ws_q (v := undef) 19 [20, 21, 22, 23, 24, 25, 26] (by kernel_rfl) rfl rfl (yi_off ((wanted_eq rfl rfl rfl (congrArg Value.bool hc666)).trans rfl)) ?_
        refine ws_q (v := undef) 20 [21, 22, 23, 24, 25, 26] (by kernel_rfl) rfl rfl (yi_off ((wanted_eq rfl rfl rfl (congrArg Value.bool hc666)).trans rfl)) ?_
        refine ws_q (v := undef) 21 [22, 23, 24, 25, 26] (by kernel_rfl) rfl rfl (yi_off ((wanted_eq rfl rfl rfl (congrArg Value.bool hc666)).trans rfl)) ?_
        refine ws_q (v := undef) 22 [23, 24, 25, 26] (by kernel_rfl) rfl rfl (yi_off ((wanted_eq rfl rfl rfl (congrArg Value.bool hc666)).trans rfl)) ?_
        refine ws_q (v := undef) 23 [24, 25, 26] (by kernel_rfl) rfl rfl (yi_off ((wanted_eq rfl rfl rfl (congrArg Value.bool hc666)).trans rfl)) ?_
        refine ws_q (v := undef) 24 [25, 26] (by kernel_rfl) rfl rfl (yi_off ((wanted_eq rfl rfl rfl (congrArg Value.bool hc666)).trans rfl)) ?_
        refine ws_q (v := undef) 25 [26] (by kernel_rfl) rfl rfl (yi_off ((wanted_eq rfl rfl rfl (congrArg Value.bool hc666)).trans rfl)) ?_
        refine ws_q (v := .bool true) 26 [] (by kernel_rfl) rfl rfl (yi_run rfl (fun w hst => x_pick_t hc666 rfl rfl)) ?_
        refine ws_nil ?_
        intro w hst
        refine then_n ?_
        refine wp_ift rfl ?_
        refine wp_seq ?_
        refine wp_region_lit ?_
        refine wl_val (v := .bool false) rfl rfl rfl ?_
        refine wl_nil ?_
        refine then_n ?_
        refine wp_ret ?_
        refine blk_r ?_
        refine then_r ?_
        refine then_r ?_
        replace hm := inr_up hm hx636
        refine blk_r ?_
        refine then_r ?_
        obtain rfl := some_inj hm
        refine post_ret (vs := [.bool false]) Try.results51 (rvs_cons (rv_tmp rfl) rvs_nil) ?_
        exact ⟨rfl, hst.keep0⟩
      · skip
        replace hm := bif_f hc666 hm
        refine ws_q (v := r0_0) 13 [14, 15, 16, 17, 18, 19, 20, 21, 22, 23, 24, 25, 26] (by kernel_rfl) rfl rfl (yi_run ((wanted_eq rfl rfl rfl (congrArg Value.bool hc666)).trans rfl) (fun w hst => rfl)) ?_
        refine ws_q (v := .int .i64 z629) 14 [15, 16, 17, 18, 19, 20, 21, 22, 23, 24, 25, 26] (by kernel_rfl) rfl rfl (yi_run ((wanted_eq rfl rfl rfl (congrArg Value.bool hc666)).trans rfl) (fun w hst => rfl)) ?_
        refine ws_q (v := .pointer (some (eAddr r0_0 (z629.toNat * 2 + 0)))) 15 [16, 17, 18, 19, 20, 21, 22, 23, 24, 25, 26] (by kernel_rfl) rfl rfl (yi_run ((wanted_eq rfl rfl rfl (congrArg Value.bool hc666)).trans rfl) (fun w hst => x_index rfl rfl Try.underlying52 Try.sizeOf54 (rd_sliceV f0_0) h641 h642)) ?_
        refine ws_q (v := .pointer (some (eAddr r0_0 (z629.toNat * 2 + 1)))) 16 [17, 18, 19, 20, 21, 22, 23, 24, 25, 26] (by kernel_rfl) rfl rfl (yi_run ((wanted_eq rfl rfl rfl (congrArg Value.bool hc666)).trans rfl) (fun w hst => x_field_e rfl Try.underlying54 rfl Try.sizeOf22 rfl)) ?_
        obtain ⟨cs667, hr668, hc669⟩ := Rd.getF f0_0 hi643
        obtain ⟨v670, rfl, f671, -⟩ := hr668
        refine ws_q (v := v670) 17 [18, 19, 20, 21, 22, 23, 24, 25, 26] (by kernel_rfl) rfl rfl (yi_run ((wanted_eq rfl rfl rfl (congrArg Value.bool hc666)).trans rfl) (fun w hst => x_load rfl Try.isAgg22 ((hc669 (HL.le.refl _) hst) 1 _ rfl))) ?_
        refine ws_q (v := .string (toStr x639.Val)) 18 [19, 20, 21, 22, 23, 24, 25, 26] (by kernel_rfl) rfl rfl (yi_run ((wanted_eq rfl rfl rfl (congrArg Value.bool hc666)).trans rfl) (fun w hst => x_tostr Try.underlying22 Try.underlying9 Try.underlying5 rfl (Src.of_rd hst f671 flat_int))) ?_
        refine ws_q (v := r1_0) 19 [20, 21, 22, 23, 24, 25, 26] (by kernel_rfl) rfl rfl (yi_run ((wanted_eq rfl rfl rfl (congrArg Value.bool hc666)).trans rfl) (fun w hst => rfl)) ?_
        refine ws_q (v := .int .i64 z629) 20 [21, 22, 23, 24, 25, 26] (by kernel_rfl) rfl rfl (yi_run ((wanted_eq rfl rfl rfl (congrArg Value.bool hc666)).trans rfl) (fun w hst => rfl)) ?_
        refine ws_q (v := .pointer (some (eAddr r1_0 (z629.toNat * 2 + 0)))) 21 [22, 23, 24, 25, 26] (by kernel_rfl) rfl rfl (yi_run ((wanted_eq rfl rfl rfl (congrArg Value.bool hc666)).trans rfl) (fun w hst => x_index rfl rfl Try.underlying52 Try.sizeOf54 (rd_sliceV f1_0) h652 h653)) ?_
        refine ws_q (v := .pointer (some (eAddr r1_0 (z629.toNat * 2 + 1)))) 22 [23, 24, 25, 26] (by kernel_rfl) rfl rfl (yi_run ((wanted_eq rfl rfl rfl (congrArg Value.bool hc666)).trans rfl) (fun w hst => x_field_e rfl Try.underlying54 rfl Try.sizeOf22 rfl)) ?_
        obtain ⟨cs673, hr674, hc675⟩ := Rd.getF f1_0 hi654
        obtain ⟨v676, rfl, f677, -⟩ := hr674
        refine ws_q (v := v676) 23 [24, 25, 26] (by kernel_rfl) rfl rfl (yi_run ((wanted_eq rfl rfl rfl (congrArg Value.bool hc666)).trans rfl) (fun w hst => x_load rfl Try.isAgg22 ((hc675 (HL.le.refl _) hst) 1 _ rfl))) ?_
        refine ws_q (v := .string (toStr x650.Val)) 24 [25, 26] (by kernel_rfl) rfl rfl (yi_run ((wanted_eq rfl rfl rfl (congrArg Value.bool hc666)).trans rfl) (fun w hst => x_tostr Try.underlying22 Try.underlying9 Try.underlying5 rfl (Src.of_rd hst f677 flat_int))) ?_
        refine ws_q (v := .bool (!(sEq (toStr x639.Val) (toStr x650.Val)))) 25 [26] (by kernel_rfl) rfl rfl (yi_run ((wanted_eq rfl rfl rfl (congrArg Value.bool hc666)).trans rfl) (fun w hst => by kernel_rfl)) ?_
        refine ws_q (v := .bool (!(sEq (toStr x639.Val) (toStr x650.Val)))) 26 [] (by kernel_rfl) rfl rfl (yi_run rfl (fun w hst => x_pick_f hc666 rfl rfl)) ?_
        refine ws_nil ?_
        intro w hst
        refine then_n ?_
        refine bsplit (!(sEq (toStr x639.Val) (toStr x650.Val))) (fun hc679 => ?_) (fun hc679 => ?_)
        · skip
          replace hm := bif_t hc679 hm
          refine wp_ift (congrArg Value.bool hc679) ?_
          refine wp_seq ?_
          refine wp_region_lit ?_
          refine wl_val (v := .bool false) rfl rfl rfl ?_
          refine wl_nil ?_
          refine then_n ?_
          refine wp_ret ?_
          refine blk_r ?_
          refine then_r ?_
          refine then_r ?_
          replace hm := inr_up hm hx636
          refine blk_r ?_
          refine then_r ?_
          obtain rfl := some_inj hm
          refine post_ret (vs := [.bool false]) Try.results51 (rvs_cons (rv_tmp rfl) rvs_nil) ?_
          exact ⟨rfl, hst.keep0⟩
        · skip
          replace hm := bif_f hc679 hm
          refine wp_iff (congrArg Value.bool hc679) ?_
          refine wp_skip ?_
          refine blk_n ?_
          refine then_n ?_
          refine wp_region_lit ?_
          refine wl_val (v := .int .i64 z629) rfl rfl rfl ?_
          refine wl_val (v := .int .i64 (IntKind.i64.wrap (z629 + (1:Int)))) rfl rfl rfl ?_
          refine wl_val (v := .int .i64 (IntKind.i64.wrap (z629 + (1:Int)))) rfl rfl rfl ?_
          refine wl_nil ?_
          refine then_n ?_
          replace hst := hst.keep0
          obtain rfl := some_inj hm
          exact ⟨_, Nat.lt_succ_self _, (IntKind.i64.wrap (z629 + (1:Int))), _, hx636, ((fr_upd (t := 0) (v := r0_0) rfl).trans ((fr_upd (t := 1) (v := r1_0) rfl).trans ((fr_upd (t := 5) (v := .int .i64 (IntKind.i64.wrap (z629 + (1:Int)))) rfl).trans rfl))), hst⟩
    · skip
      replace hm := bif_f hc638 hm
      refine wp_iff (congrArg Value.bool hc638) ?_
      refine wp_exit ?_
      refine then_x ?_
      refine then_x ?_
      replace hm := inr_up hm hx636
      refine blk_x ?_
      refine then_n ?_
      refine wp_seq ?_
      refine wp_region_lit ?_
      refine wl_val (v := .bool true) rfl rfl rfl ?_
      refine wl_nil ?_
      refine then_n ?_
      refine wp_ret ?_
      obtain rfl := some_inj hm
      refine post_ret (vs := [.bool true]) Try.results51 (rvs_cons (rv_tmp rfl) rvs_nil) ?_
      exact ⟨rfl, hst.keep0⟩

theorem ref11_SameReply_ref {w0 w : World} {I : HL} {R : SP} {a0 : api_Reply} {r0_0 : Value} {r0_1 : Value} {a1 : api_Reply} {r1_0 : Value} {r1_1 : Value} (f0_0 : Rd ty_api_Got R I r0_0 a0.Gots) (f0_1 : Rd (tySl ty_api_Pair) R I r0_1 a0.Scans) (f1_0 : Rd ty_api_Got R I r1_0 a1.Gots) (f1_1 : Rd (tySl ty_api_Pair) R I r1_1 a1.Scans) (hst : St w0 w I [] R) {r : (Bool)} (hm : ref11_SameReply a0 a1 = some r) :
    Calls Try.prog 19 #[.agg #[.int .i64 a0.E, .int .u64 a0.Epoch, .int .u64 a0.Index, r0_0, r0_1], .agg #[.int .i64 a1.E, .int .u64 a1.Epoch, .int .u64 a1.Index, r1_0, r1_1]] w fun e w' => e = .returned (.bool r) ∧ St w0 w' I [] R := by
  unfold ref11_SameReply at hm
  refine calls_start (args := [.agg #[.int .i64 a0.E, .int .u64 a0.Epoch, .int .u64 a0.Index, r0_0, r0_1], .agg #[.int .i64 a1.E, .int .u64 a1.Epoch, .int .u64 a1.Index, r1_0, r1_1]]) Try.func19 rfl Try.ntmps19 (Nat.le_of_ble_eq_true rfl) ?_
  refine wp_seq ?_
  refine wp_region_lit ?_
  obtain ⟨b502, w503, ew504, eb505, hst⟩ := hst.box [.int .i64 a0.E, .int .u64 a0.Epoch, .int .u64 a0.Index, r0_0, r0_1] 39
  refine wl_run (v := .pointer (some ⟨b502, 0, none⟩)) (w' := w503) rfl rfl (x_al (by kernel_rfl) ew504 eb505) ?_
  obtain ⟨b507, w508, ew509, eb510, hst⟩ := hst.box [.int .i64 a1.E, .int .u64 a1.Epoch, .int .u64 a1.Index, r1_0, r1_1] 39
  refine wl_run (v := .pointer (some ⟨b507, 0, none⟩)) (w' := w508) rfl rfl (x_al (by kernel_rfl) ew509 eb510) ?_
  refine wl_val (v := .bool false) rfl rfl rfl ?_
  refine wl_nil ?_
  refine then_n ?_
  refine wp_seq ?_
  refine wp_seq ?_
  refine wp_region_lit ?_
  refine wl_val (v := .pointer (some ⟨b502, 0, none⟩)) rfl rfl (x_field rfl Try.underlying39 rfl Try.sizeOf30 rfl) ?_
  refine wl_val (v := .int .i64 a0.E) rfl rfl (x_load rfl Try.isAgg30 (hst.bc1 rfl)) ?_
  refine wl_val (v := .pointer (some ⟨b507, 0, none⟩)) rfl rfl (x_field rfl Try.underlying39 rfl Try.sizeOf30 rfl) ?_
  refine wl_val (v := .int .i64 a1.E) rfl rfl (x_load rfl Try.isAgg30 (hst.bc0 rfl)) ?_
  refine wl_val (v := .bool (a0.E != a1.E)) rfl rfl rfl ?_
  refine wl_val (v := .bool (a0.E != a1.E)) rfl rfl rfl ?_
  refine bsplit (a0.E != a1.E) (fun hc512 => ?_) (fun hc512 => ?_)
  · skip
    replace hm := bif_t hc512 hm
    refine wl_off ((wanted_eq rfl rfl rfl (congrArg Value.bool hc512)).trans rfl) rfl ?_
    refine wl_off ((wanted_eq rfl rfl rfl (congrArg Value.bool hc512)).trans rfl) rfl ?_
    refine wl_off ((wanted_eq rfl rfl rfl (congrArg Value.bool hc512)).trans rfl) rfl ?_
    refine wl_off ((wanted_eq rfl rfl rfl (congrArg Value.bool hc512)).trans rfl) rfl ?_
    refine wl_off ((wanted_eq rfl rfl rfl (congrArg Value.bool hc512)).trans rfl) rfl ?_
    refine wl_val (v := .bool true) rfl rfl (x_pick_t hc512 rfl rfl) ?_
    refine wl_val (v := .bool true) rfl rfl rfl ?_
    refine wl_off ((wanted_eq rfl rfl rfl rfl).trans rfl) rfl ?_
    refine wl_off ((wanted_eq rfl rfl rfl rfl).trans rfl) rfl ?_
    refine wl_off ((wanted_eq rfl rfl rfl rfl).trans rfl) rfl ?_
    refine wl_off ((wanted_eq rfl rfl rfl rfl).trans rfl) rfl ?_
    refine wl_off ((wanted_eq rfl rfl rfl rfl).trans rfl) rfl ?_
    refine wl_val (v := .bool true) rfl rfl (x_pick_t rfl rfl rfl) ?_
    refine wl_val (v := .bool true) rfl rfl rfl ?_
    refine wl_off ((wanted_eq rfl rfl rfl rfl).trans rfl) rfl ?_
    refine wl_off ((wanted_eq rfl rfl rfl rfl).trans rfl) rfl ?_
    refine wl_off ((wanted_eq rfl rfl rfl rfl).trans rfl) rfl ?_
    refine wl_off ((wanted_eq rfl rfl rfl rfl).trans rfl) rfl ?_
    refine wl_off ((wanted_eq rfl rfl rfl rfl).trans rfl) rfl ?_
    refine wl_off ((wanted_eq rfl rfl rfl rfl).trans rfl) rfl ?_
    refine wl_val (v := .bool true) rfl rfl (x_pick_t rfl rfl rfl) ?_
    refine wl_val (v := .bool true) rfl rfl rfl ?_
    refine wl_off ((wanted_eq rfl rfl rfl rfl).trans rfl) rfl ?_
    refine wl_off ((wanted_eq rfl rfl rfl rfl).trans rfl) rfl ?_
    refine wl_off ((wanted_eq rfl rfl rfl rfl).trans rfl) rfl ?_
    refine wl_off ((wanted_eq rfl rfl rfl rfl).trans rfl) rfl ?_
    refine wl_off ((wanted_eq rfl rfl rfl rfl).trans rfl) rfl ?_
    refine wl_off ((wanted_eq rfl rfl rfl rfl).trans rfl) rfl ?_
    refine wl_off ((wanted_eq rfl rfl rfl rfl).trans rfl) rfl ?_
    refine wl_val (v := .bool true) rfl rfl (x_pick_t rfl rfl rfl) ?_
    refine wl_nil ?_
    refine then_n ?_
    refine wp_ift rfl ?_
    refine wp_seq ?_
    refine wp_region_lit ?_
    refine wl_val (v := .bool false) rfl rfl rfl ?_
    refine wl_nil ?_
    refine then_n ?_
    refine wp_ret ?_
    refine then_r ?_
    obtain rfl := some_inj hm
    refine post_ret (vs := [.bool false]) Try.results19 (rvs_cons (rv_tmp rfl) rvs_nil) ?_
    exact ⟨rfl, hst.keep0⟩
  · skip
    replace hm := bif_f hc512 hm
    refine wl_val (v := .pointer (some ⟨b502, 1, none⟩)) ((wanted_eq rfl rfl rfl (congrArg Value.bool hc512)).trans rfl) rfl (x_field rfl Try.underlying39 rfl Try.sizeOf27 rfl) ?_
    refine wl_val (v := .int .u64 a0.Epoch) ((wanted_eq rfl rfl rfl (congrArg Value.bool hc512)).trans rfl) rfl (x_load rfl Try.isAgg27 (hst.bc1 rfl)) ?_
    refine wl_val (v := .pointer (some ⟨b507, 1, none⟩)) ((wanted_eq rfl rfl rfl (congrArg Value.bool hc512)).trans rfl) rfl (x_field rfl Try.underlying39 rfl Try.sizeOf27 rfl) ?_
    refine wl_val (v := .int .u64 a1.Epoch) ((wanted_eq rfl rfl rfl (congrArg Value.bool hc512)).trans rfl) rfl (x_load rfl Try.isAgg27 (hst.bc0 rfl)) ?_
    refine wl_val (v := .bool (a0.Epoch != a1.Epoch)) ((wanted_eq rfl rfl rfl (congrArg Value.bool hc512)).trans rfl) rfl rfl ?_
    refine wl_val (v := .bool (a0.Epoch != a1.Epoch)) rfl rfl (x_pick_f hc512 rfl rfl) ?_
    refine wl_val (v := .bool (a0.Epoch != a1.Epoch)) rfl rfl rfl ?_
    refine bsplit (a0.Epoch != a1.Epoch) (fun hc513 => ?_) (fun hc513 => ?_)
    · skip
      replace hm := bif_t hc513 hm
      refine wl_off ((wanted_eq rfl rfl rfl (congrArg Value.bool hc513)).trans rfl) rfl ?_
      refine wl_off ((wanted_eq rfl rfl rfl (congrArg Value.bool hc513)).trans rfl) rfl ?_
      refine wl_off ((wanted_eq rfl rfl rfl (congrArg Value.bool hc513)).trans rfl) rfl ?_
      refine wl_off ((wanted_eq rfl rfl rfl (congrArg Value.bool hc513)).trans rfl) rfl ?_
      refine wl_off ((wanted_eq rfl rfl rfl (congrArg Value.bool hc513)).trans rfl) rfl ?_
      refine wl_val (v := .bool true) rfl rfl (x_pick_t hc513 rfl rfl) ?_
      refine wl_val (v := .bool true) rfl rfl rfl ?_
      refine wl_off ((wanted_eq rfl rfl rfl rfl).trans rfl) rfl ?_
      refine wl_off ((wanted_eq rfl rfl rfl rfl).trans rfl) rfl ?_
      refine wl_off ((wanted_eq rfl rfl rfl rfl).trans rfl) rfl ?_
      refine wl_off ((wanted_eq rfl rfl rfl rfl).trans rfl) rfl ?_
      refine wl_off ((wanted_eq rfl rfl rfl rfl).trans rfl) rfl ?_
      refine wl_off ((wanted_eq rfl rfl rfl rfl).trans rfl) rfl ?_
      refine wl_val (v := .bool true) rfl rfl (x_pick_t rfl rfl rfl) ?_
      refine wl_val (v := .bool true) rfl rfl rfl ?_
      refine wl_off ((wanted_eq rfl rfl rfl rfl).trans rfl) rfl ?_
      refine wl_off ((wanted_eq rfl rfl rfl rfl).trans rfl) rfl ?_
      refine wl_off ((wanted_eq rfl rfl rfl rfl).trans rfl) rfl ?_
      refine wl_off ((wanted_eq rfl rfl rfl rfl).trans rfl) rfl ?_
      refine wl_off ((wanted_eq rfl rfl rfl rfl).trans rfl) rfl ?_
      refine wl_off ((wanted_eq rfl rfl rfl rfl).trans rfl) rfl ?_
      refine wl_off ((wanted_eq rfl rfl rfl rfl).trans rfl) rfl ?_
      refine wl_val (v := .bool true) rfl rfl (x_pick_t rfl rfl rfl) ?_
      refine wl_nil ?_
      refine then_n ?_
      refine wp_ift rfl ?_
      refine wp_seq ?_
      refine wp_region_lit ?_
      refine wl_val (v := .bool false) rfl rfl rfl ?_
      refine wl_nil ?_
      refine then_n ?_
      refine wp_ret ?_
      refine then_r ?_
      obtain rfl := some_inj hm
      refine post_ret (vs := [.bool false]) Try.results19 (rvs_cons (rv_tmp rfl) rvs_nil) ?_
      exact ⟨rfl, hst.keep0⟩
    · skip
      replace hm := bif_f hc513 hm
      refine wl_val (v := .pointer (some ⟨b502, 2, none⟩)) ((wanted_eq rfl rfl rfl (congrArg Value.bool hc513)).trans rfl) rfl (x_field rfl Try.underlying39 rfl Try.sizeOf27 rfl) ?_
      refine wl_val (v := .int .u64 a0.Index) ((wanted_eq rfl rfl rfl (congrArg Value.bool hc513)).trans rfl) rfl (x_load rfl Try.isAgg27 (hst.bc1 rfl)) ?_
      refine wl_val (v := .pointer (some ⟨b507, 2, none⟩)) ((wanted_eq rfl rfl rfl (congrArg Value.bool hc513)).trans rfl) rfl (x_field rfl Try.underlying39 rfl Try.sizeOf27 rfl) ?_
      refine wl_val (v := .int .u64 a1.Index) ((wanted_eq rfl rfl rfl (congrArg Value.bool hc513)).trans rfl) rfl (x_load rfl Try.isAgg27 (hst.bc0 rfl)) ?_
      refine wl_val (v := .bool (a0.Index != a1.Index)) ((wanted_eq rfl rfl rfl (congrArg Value.bool hc513)).trans rfl) rfl rfl ?_
      refine wl_val (v := .bool (a0.Index != a1.Index)) rfl rfl (x_pick_f hc513 rfl rfl) ?_
      refine wl_val (v := .bool (a0.Index != a1.Index)) rfl rfl rfl ?_
      refine bsplit (a0.Index != a1.Index) (fun hc514 => ?_) (fun hc514 => ?_)
      · skip
        replace hm := bif_t hc514 hm
        refine wl_off ((wanted_eq rfl rfl rfl (congrArg Value.bool hc514)).trans rfl) rfl ?_
        refine wl_off ((wanted_eq rfl rfl rfl (congrArg Value.bool hc514)).trans rfl) rfl ?_
        refine wl_off ((wanted_eq rfl rfl rfl (congrArg Value.bool hc514)).trans rfl) rfl ?_
        refine wl_off ((wanted_eq rfl rfl rfl (congrArg Value.bool hc514)).trans rfl) rfl ?_
        refine wl_off ((wanted_eq rfl rfl rfl (congrArg Value.bool hc514)).trans rfl) rfl ?_
        refine wl_off ((wanted_eq rfl rfl rfl (congrArg Value.bool hc514)).trans rfl) rfl ?_
        refine wl_val (v := .bool true) rfl rfl (x_pick_t hc514 rfl rfl) ?_
        refine wl_val (v := .bool true) rfl rfl rfl ?_
        refine wl_off ((wanted_eq rfl rfl rfl rfl).trans rfl) rfl ?_
        refine wl_off ((wanted_eq rfl rfl rfl rfl).trans rfl) rfl ?_
        refine wl_off ((wanted_eq rfl rfl rfl rfl).trans rfl) rfl ?_
        refine wl_off ((wanted_eq rfl rfl rfl rfl).trans rfl) rfl ?_
        refine wl_off ((wanted_eq rfl rfl rfl rfl).trans rfl) rfl ?_
        refine wl_off ((wanted_eq rfl rfl rfl rfl).trans rfl) rfl ?_
        refine wl_off ((wanted_eq rfl rfl rfl rfl).trans rfl) rfl ?_
        refine wl_val (v := .bool true) rfl rfl (x_pick_t rfl rfl rfl) ?_
        refine wl_nil ?_
        refine then_n ?_
        refine wp_ift rfl ?_
        refine wp_seq ?_
        refine wp_region_lit ?_
        refine wl_val (v := .bool false) rfl rfl rfl ?_
        refine wl_nil ?_
        refine then_n ?_
        refine wp_ret ?_
        refine then_r ?_
        obtain rfl := some_inj hm
        refine post_ret (vs := [.bool false]) Try.results19 (rvs_cons (rv_tmp rfl) rvs_nil) ?_
        exact ⟨rfl, hst.keep0⟩
      · skip
        replace hm := bif_f hc514 hm
        refine wl_val (v := .pointer (some ⟨b502, 3, none⟩)) ((wanted_eq rfl rfl rfl (congrArg Value.bool hc514)).trans rfl) rfl (x_field rfl Try.underlying39 rfl Try.sizeOf36 rfl) ?_
        refine wl_val (v := r0_0) ((wanted_eq rfl rfl rfl (congrArg Value.bool hc514)).trans rfl) rfl (x_load rfl Try.isAgg36 (hst.bc1 rfl)) ?_
        refine wl_val (v := .pointer (some ⟨b507, 3, none⟩)) ((wanted_eq rfl rfl rfl (congrArg Value.bool hc514)).trans rfl) rfl (x_field rfl Try.underlying39 rfl Try.sizeOf36 rfl) ?_
        refine wl_val (v := r1_0) ((wanted_eq rfl rfl rfl (congrArg Value.bool hc514)).trans rfl) rfl (x_load rfl Try.isAgg36 (hst.bc0 rfl)) ?_
        obtain ⟨t515, ht516, hm⟩ := bind_some hm
        refine wl_call ((wanted_eq rfl rfl rfl (congrArg Value.bool hc514)).trans rfl) rfl (x_call Try.call50 rfl (vs := [r0_0, r1_0]) rfl) ?_
        refine (ref11_SameGots_ref (f0_0.mono (rd_weak _)) (f1_0.mono (rd_weak _)) hst.to0 ht516).mono ?_
        rintro _ w517 ⟨rfl, hst⟩
        refine ⟨_, rfl, ?_⟩
        replace hst := hst.of0
        refine wl_val (v := .bool (!t515)) ((wanted_eq rfl rfl rfl (congrArg Value.bool hc514)).trans rfl) rfl rfl ?_
        refine wl_val (v := .bool (!t515)) rfl rfl (x_pick_f hc514 rfl rfl) ?_
        refine wl_val (v := .bool (!t515)) rfl rfl rfl ?_
        refine bsplit (!t515) (fun hc520 => ?_) (fun hc520 => ?_)
        · skip
          replace hm := bif_t hc520 hm
          refine wl_off ((wanted_eq rfl rfl rfl (congrArg Value.bool hc520)).trans rfl) rfl ?_
          refine wl_off ((wanted_eq rfl rfl rfl (congrArg Value.bool hc520)).trans rfl) rfl ?_
          refine wl_off ((wanted_eq rfl rfl rfl (congrArg Value.bool hc520)).trans rfl) rfl ?_
          refine wl_off ((wanted_eq rfl rfl rfl (congrArg Value.bool hc520)).trans rfl) rfl ?_
          refine wl_off ((wanted_eq rfl rfl rfl (congrArg Value.bool hc520)).trans rfl) rfl ?_
          refine wl_off ((wanted_eq rfl rfl rfl (congrArg Value.bool hc520)).trans rfl) rfl ?_
          refine wl_off ((wanted_eq rfl rfl rfl (congrArg Value.bool hc520)).trans rfl) rfl ?_
          refine wl_val (v := .bool true) rfl rfl (x_pick_t hc520 rfl rfl) ?_
          refine wl_nil ?_
          refine then_n ?_
          refine wp_ift rfl ?_
          refine wp_seq ?_
          refine wp_region_lit ?_
          refine wl_val (v := .bool false) rfl rfl rfl ?_
          refine wl_nil ?_
          refine then_n ?_
          refine wp_ret ?_
          refine then_r ?_
          obtain rfl := some_inj hm
          refine post_ret (vs := [.bool false]) Try.results19 (rvs_cons (rv_tmp rfl) rvs_nil) ?_
          exact ⟨rfl, hst.keep0⟩
        · skip
          replace hm := bif_f hc520 hm
          refine wl_val (v := .pointer (some ⟨b502, 4, none⟩)) ((wanted_eq rfl rfl rfl (congrArg Value.bool hc520)).trans rfl) rfl (x_field rfl Try.underlying39 rfl Try.sizeOf37 rfl) ?_
          refine wl_val (v := r0_1) ((wanted_eq rfl rfl rfl (congrArg Value.bool hc520)).trans rfl) rfl (x_load rfl Try.isAgg37 (hst.bc1 rfl)) ?_
          refine wl_val (v := .int .i64 ((a0.Scans).length : Int)) ((wanted_eq rfl rfl rfl (congrArg Value.bool hc520)).trans rfl) rfl (x_len rfl Try.underlying37 (rd_sliceV f0_1)) ?_
          refine wl_val (v := .pointer (some ⟨b507, 4, none⟩)) ((wanted_eq rfl rfl rfl (congrArg Value.bool hc520)).trans rfl) rfl (x_field rfl Try.underlying39 rfl Try.sizeOf37 rfl) ?_
          refine wl_val (v := r1_1) ((wanted_eq rfl rfl rfl (congrArg Value.bool hc520)).trans rfl) rfl (x_load rfl Try.isAgg37 (hst.bc0 rfl)) ?_
          refine wl_val (v := .int .i64 ((a1.Scans).length : Int)) ((wanted_eq rfl rfl rfl (congrArg Value.bool hc520)).trans rfl) rfl (x_len rfl Try.underlying37 (rd_sliceV f1_1)) ?_
          refine wl_val (v := .bool (((a0.Scans).length : Int) != ((a1.Scans).length : Int))) ((wanted_eq rfl rfl rfl (congrArg Value.bool hc520)).trans rfl) rfl rfl ?_
          refine wl_val (v := .bool (((a0.Scans).length : Int) != ((a1.Scans).length : Int))) rfl rfl (x_pick_f hc520 rfl rfl) ?_
          refine wl_nil ?_
          refine then_n ?_
          refine bsplit (((a0.Scans).length : Int) != ((a1.Scans).length : Int)) (fun hc521 => ?_) (fun hc521 => ?_)
          · skip
            replace hm := bif_t hc521 hm
            refine wp_ift (congrArg Value.bool hc521) ?_
            refine wp_seq ?_
            refine wp_region_lit ?_
            refine wl_val (v := .bool false) rfl rfl rfl ?_
            refine wl_nil ?_
            refine then_n ?_
            refine wp_ret ?_
            refine then_r ?_
            obtain rfl := some_inj hm
            refine post_ret (vs := [.bool false]) Try.results19 (rvs_cons (rv_tmp rfl) rvs_nil) ?_
            exact ⟨rfl, hst.keep0⟩
          · skip
            replace hm := bif_f hc521 hm
            refine wp_iff (congrArg Value.bool hc521) ?_
            refine wp_skip ?_
            refine then_n ?_
            refine wp_seq ?_
            refine wp_seq ?_
            refine wp_region_lit ?_
            refine wl_val (v := .int .i64 (0:Int)) rfl rfl rfl ?_
            refine wl_nil ?_
            refine then_n ?_
            refine wp_block ?_
            obtain ⟨n583, hm⟩ := loopO_some hm
            refine wp_loop_n (fun n a w => ∃ (z581 : Int) (σ582 : Nat → Value), loopN (ref11_SameReply_l0 a0 a1) n z581 = some r ∧ a = Fr 61 (upd (upd (upd σ582 2 (.pointer (some ⟨b502, 0, none⟩))) 3 (.pointer (some ⟨b507, 0, none⟩))) 5 (.int .i64 z581)) ∧ St w0 w I [cells b507 [.int .i64 a1.E, .int .u64 a1.Epoch, .int .u64 a1.Index, r1_0, r1_1], cells b502 [.int .i64 a0.E, .int .u64 a0.Epoch, .int .u64 a0.Index, r0_0, r0_1]] R) n583 ⟨(0:Int), _, hm, ((fr_upd (t := 2) (v := .pointer (some ⟨b502, 0, none⟩)) rfl).trans ((fr_upd (t := 3) (v := .pointer (some ⟨b507, 0, none⟩)) rfl).trans ((fr_upd (t := 5) (v := .int .i64 (0:Int)) rfl).trans rfl))), hst⟩ ?_
            rintro n589 _ w584 ⟨z581, σ582, hm, rfl, hst⟩
            obtain ⟨n586, y587, rfl, hm, hx588⟩ := loopN_some hm
            dsimp only [ref11_SameReply_l0] at hm
            refine wp_seq ?_
            refine wp_seq ?_
            refine wp_region_lit ?_
            refine wl_val (v := .int .i64 z581) rfl rfl rfl ?_
            refine wl_val (v := .pointer (some ⟨b502, 4, none⟩)) rfl rfl (x_field rfl Try.underlying39 rfl Try.sizeOf37 rfl) ?_
            refine wl_val (v := r0_1) rfl rfl (x_load rfl Try.isAgg37 (hst.bc1 rfl)) ?_
            refine wl_val (v := .int .i64 ((a0.Scans).length : Int)) rfl rfl (x_len rfl Try.underlying37 (rd_sliceV f0_1)) ?_
            refine wl_val (v := .bool (decide (z581 < ((a0.Scans).length : Int)))) rfl rfl rfl ?_
            refine wl_nil ?_
            refine then_n ?_
            refine bsplit (decide (z581 < ((a0.Scans).length : Int))) (fun hc590 => ?_) (fun hc590 => ?_)
            · skip
              replace hm := bif_t hc590 hm
              refine wp_ift (congrArg Value.bool hc590) ?_
              refine wp_skip ?_
              refine then_n ?_
              refine wp_seq ?_
              refine wp_block ?_
              refine wp_seq ?_
              refine wp_region_St hst 12 [0, 1, 2, 3, 4, 5, 6, 7, 8, 9, 10, 11] [0, 1, 0, 7, 15, 0, 32, 0, 224, 480, 1023, 2047] [] rfl (by kernel_rfl) (by kernel_rfl) Try.mixed (by kernel_rfl) ?_
              refine ws_q (v := .pointer (some ⟨b502, 4, none⟩)) 0 [1, 2, 3, 4, 5, 6, 7, 8, 9, 10, 11] (by kernel_rfl) rfl rfl (yi_run rfl (fun w hst => x_field rfl Try.underlying39 rfl Try.sizeOf37 rfl)) ?_
              refine ws_q (v := r0_1) 1 [2, 3, 4, 5, 6, 7, 8, 9, 10, 11] (by kernel_rfl) rfl rfl (yi_run rfl (fun w hst => x_load rfl Try.isAgg37 (hst.bc1 rfl))) ?_
              refine ws_q (v := .int .i64 z581) 2 [3, 4, 5, 6, 7, 8, 9, 10, 11] (by kernel_rfl) rfl rfl (yi_run rfl (fun w hst => rfl)) ?_
              obtain ⟨x591, hx592, hm⟩ := bind_some hm
              obtain ⟨h593, h594, hi595⟩ := geto_some hx592
              refine ws_q (v := .pointer (some (eAddr r0_1 (z581.toNat * 1 + 0)))) 3 [4, 5, 6, 7, 8, 9, 10, 11] (by kernel_rfl) rfl rfl (yi_run rfl (fun w hst => x_index rfl rfl Try.underlying37 Try.sizeOf52 (rd_sliceV f0_1) h593 h594)) ?_
              obtain ⟨cs596, hr597, hc598⟩ := Rd.getF f0_1 hi595
              obtain ⟨v599, rfl, f600, -⟩ := hr597
              refine ws_q (v := v599) 4 [5, 6, 7, 8, 9, 10, 11] (by kernel_rfl) rfl rfl (yi_run rfl (fun w hst => x_load rfl Try.isAgg52 ((hc598 (HL.le.refl _) hst) 0 _ rfl))) ?_
              refine ws_q (v := .pointer (some ⟨b507, 4, none⟩)) 5 [6, 7, 8, 9, 10, 11] (by kernel_rfl) rfl rfl (yi_run rfl (fun w hst => x_field rfl Try.underlying39 rfl Try.sizeOf37 rfl)) ?_
              refine ws_q (v := r1_1) 6 [7, 8, 9, 10, 11] (by kernel_rfl) rfl rfl (yi_run rfl (fun w hst => x_load rfl Try.isAgg37 (hst.bc0 rfl))) ?_
              refine ws_q (v := .int .i64 z581) 7 [8, 9, 10, 11] (by kernel_rfl) rfl rfl (yi_run rfl (fun w hst => rfl)) ?_
              obtain ⟨x602, hx603, hm⟩ := bind_some hm
              obtain ⟨h604, h605, hi606⟩ := geto_some hx603
              refine ws_q (v := .pointer (some (eAddr r1_1 (z581.toNat * 1 + 0)))) 8 [9, 10, 11] (by kernel_rfl) rfl rfl (yi_run rfl (fun w hst => x_index rfl rfl Try.underlying37 Try.sizeOf52 (rd_sliceV f1_1) h604 h605)) ?_
              obtain ⟨cs607, hr608, hc609⟩ := Rd.getF f1_1 hi606
              obtain ⟨v610, rfl, f611, -⟩ := hr608
              refine ws_q (v := v610) 9 [10, 11] (by kernel_rfl) rfl rfl (yi_run rfl (fun w hst => x_load rfl Try.isAgg52 ((hc609 (HL.le.refl _) hst) 0 _ rfl))) ?_
              refine ws_e1 10 (by kernel_rfl) ?_
              refine nxe [11] (by kernel_rfl) rfl rfl ?_
              clear hst
              intro w hst
              obtain ⟨t613, ht614, hm⟩ := bind_some hm
              refine we_call rfl (x_call Try.call51 rfl (vs := [v599, v610]) rfl) ?_
              refine (ref11_SamePairs_ref (f600.mono (rd_weak _)) (f611.mono (rd_weak _)) hst.to0 ht614).mono ?_
              rintro _ w615 ⟨rfl, hst⟩
              refine ⟨_, rfl, ?_⟩
              replace hst := hst.of0
              refine ws_next (pend' := []) hst (by kernel_rfl) pk_nil ?_
              refine ws_q (v := .bool (!t613)) 11 [] (by kernel_rfl) rfl rfl (yi_run rfl (fun w hst => rfl)) ?_
              refine ws_nil ?_
              intro w hst
              refine then_n ?_
              refine bsplit (!t613) (fun hc618 => ?_) (fun hc618 => ?_)
              · skip
                replace hm := bif_t hc618 hm
                refine wp_ift (congrArg Value.bool hc618) ?_
                refine wp_seq ?_
                refine wp_region_lit ?_
                refine wl_val (v := .bool false) rfl rfl rfl ?_
                refine wl_nil ?_
                refine then_n ?_
                refine wp_ret ?_
                refine blk_r ?_
                refine then_r ?_
                refine then_r ?_
                replace hm := inr_up hm hx588
                refine blk_r ?_
                refine then_r ?_
                obtain rfl := some_inj hm
                refine post_ret (vs := [.bool false]) Try.results19 (rvs_cons (rv_tmp rfl) rvs_nil) ?_
                exact ⟨rfl, hst.keep0⟩
              · skip
                replace hm := bif_f hc618 hm
                refine wp_iff (congrArg Value.bool hc618) ?_
                refine wp_skip ?_
                refine blk_n ?_
                refine then_n ?_
                refine wp_region_lit ?_
                refine wl_val (v := .int .i64 z581) rfl rfl rfl ?_
                refine wl_val (v := .int .i64 (IntKind.i64.wrap (z581 + (1:Int)))) rfl rfl rfl ?_
                refine wl_val (v := .int .i64 (IntKind.i64.wrap (z581 + (1:Int)))) rfl rfl rfl ?_
                refine wl_nil ?_
                refine then_n ?_
                replace hst := hst.pull1
                replace hst := hst.pull1
                replace hst := hst.keep2
                obtain rfl := some_inj hm
                exact ⟨_, Nat.lt_succ_self _, (IntKind.i64.wrap (z581 + (1:Int))), _, hx588, ((fr_upd (t := 2) (v := .pointer (some ⟨b502, 0, none⟩)) rfl).trans ((fr_upd (t := 3) (v := .pointer (some ⟨b507, 0, none⟩)) rfl).trans ((fr_upd (t := 5) (v := .int .i64 (IntKind.i64.wrap (z581 + (1:Int)))) rfl).trans rfl))), hst⟩
            · skip
              replace hm := bif_f hc590 hm
              refine wp_iff (congrArg Value.bool hc590) ?_
              refine wp_exit ?_
              refine then_x ?_
              refine then_x ?_
              replace hm := inr_up hm hx588
              refine blk_x ?_
              refine then_n ?_
              refine wp_seq ?_
              refine wp_region_lit ?_
              refine wl_val (v := .bool true) rfl rfl rfl ?_
              refine wl_nil ?_
              refine then_n ?_
              refine wp_ret ?_
              obtain rfl := some_inj hm
              refine post_ret (vs := [.bool true]) Try.results19 (rvs_cons (rv_tmp rfl) rvs_nil) ?_
              exact ⟨rfl, hst.keep0⟩

end Go.Proofs.Ytijcfglomdfglaa
