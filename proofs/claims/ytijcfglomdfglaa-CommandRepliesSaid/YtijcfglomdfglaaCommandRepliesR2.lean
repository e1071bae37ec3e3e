/- The Go functions refine their models, part 2. -/
import Derived.Test.YtijcfglomdfglaaCommandRepliesR1
set_option linter.unusedVariables false
set_option linter.unusedSimpArgs false
set_option maxRecDepth 100000
set_option maxHeartbeats 4000000
namespace Go.Proofs.Ytijcfglomdfglaa
open Go Go.V
attribute [local irreducible] wpList Code.wp wpQuiet Calls bodyPost Oper.wp wpS Nx PendOK YieldsIn
theorem law13_CommandReplies_ref {w0 w : World} {I : HL} {R : SP} {a0 : api_Reply} {r0_0 : Value} {r0_1 : Value} {a1 : (List Int)} {r1_0 : Value} (f0_0 : Rd ty_api_Got R I r0_0 a0.Gots) (f0_1 : Rd (tySl ty_api_Pair) R I r0_1 a0.Scans) (f1_0 : Ro (tyInt .u8) I r1_0 a1) (hst : St w0 w I [] R) {r : (Bool)} (hm : law13_CommandReplies a0 a1 = some r) :
    Calls Try.prog 4 #[.agg #[.int .i64 a0.E, .int .u64 a0.Epoch, .int .u64 a0.Index, r0_0, r0_1], r1_0] w fun e w' => ∃ (I' : HL), e = .returned (.bool r) ∧ I.le I' ∧ St w0 w' I' [] R := by
  unfold law13_CommandReplies at hm
  refine calls_start (args := [.agg #[.int .i64 a0.E, .int .u64 a0.Epoch, .int .u64 a0.Index, r0_0, r0_1], r1_0]) Try.func4 rfl Try.ntmps4 (Nat.le_of_ble_eq_true rfl) ?_
  have hI0 := HL.le.refl I
  refine wp_seq ?_
  refine wp_region_lit ?_
  obtain ⟨b675, w676, ew677, eb678, hst⟩ := hst.box [.int .i64 a0.E, .int .u64 a0.Epoch, .int .u64 a0.Index, r0_0, r0_1] 39
  refine wl_run (v := .pointer (some ⟨b675, 0, none⟩)) (w' := w676) rfl rfl (x_al (by kernel_rfl) ew677 eb678) ?_
  refine wl_val (v := .bool false) rfl rfl rfl ?_
  refine wl_nil ?_
  refine then_n ?_
  refine wp_seq ?_
  refine wp_seq ?_
  refine wp_region_lit ?_
  obtain ⟨t680, ht681, hm⟩ := bind_some hm
  refine wl_call rfl rfl (x_call Try.call8 rfl (vs := []) rfl) ?_
  refine (law13_awake_ref hst.to0 ht681).mono ?_
  rintro _ w682 ⟨rfl, hst⟩
  refine ⟨_, rfl, ?_⟩
  replace hst := hst.of0
  refine wl_val (v := .bool (!t680)) rfl rfl rfl ?_
  refine wl_val (v := .bool (!t680)) rfl rfl rfl ?_
  refine bsplit (!t680) (fun hc685 => ?_) (fun hc685 => ?_)
  · skip
    replace hm := bif_t hc685 hm
    refine wl_off ((wanted_eq rfl rfl rfl (congrArg Value.bool hc685)).trans rfl) rfl ?_
    refine wl_off ((wanted_eq rfl rfl rfl (congrArg Value.bool hc685)).trans rfl) rfl ?_
    refine wl_off ((wanted_eq rfl rfl rfl (congrArg Value.bool hc685)).trans rfl) rfl ?_
    refine wl_off ((wanted_eq rfl rfl rfl (congrArg Value.bool hc685)).trans rfl) rfl ?_
    refine wl_val (v := .bool true) rfl rfl (x_pick_t hc685 rfl rfl) ?_
    refine wl_val (v := .bool true) rfl rfl rfl ?_
    refine wl_off ((wanted_eq rfl rfl rfl rfl).trans rfl) rfl ?_
    refine wl_off ((wanted_eq rfl rfl rfl rfl).trans rfl) rfl ?_
    refine wl_off ((wanted_eq rfl rfl rfl rfl).trans rfl) rfl ?_
    refine wl_off ((wanted_eq rfl rfl rfl rfl).trans rfl) rfl ?_
    refine wl_val (v := .bool true) rfl rfl (x_pick_t rfl rfl rfl) ?_
    refine wl_val (v := .bool true) rfl rfl rfl ?_
    refine wl_off ((wanted_eq rfl rfl rfl rfl).trans rfl) rfl ?_
    refine wl_off ((wanted_eq rfl rfl rfl rfl).trans rfl) rfl ?_
    refine wl_off ((wanted_eq rfl rfl rfl rfl).trans rfl) rfl ?_
    refine wl_val (v := .bool true) rfl rfl (x_pick_t rfl rfl rfl) ?_
    refine wl_val (v := .bool true) rfl rfl rfl ?_
    refine wl_off ((wanted_eq rfl rfl rfl rfl).trans rfl) rfl ?_
    refine wl_off ((wanted_eq rfl rfl rfl rfl).trans rfl) rfl ?_
    refine wl_off ((wanted_eq rfl rfl rfl rfl).trans rfl) rfl ?_
    refine wl_val (v := .bool true) rfl rfl (x_pick_t rfl rfl rfl) ?_
    refine wl_val (v := .bool true) rfl rfl rfl ?_
    refine wl_off ((wanted_eq rfl rfl rfl rfl).trans rfl) rfl ?_
    refine wl_off ((wanted_eq rfl rfl rfl rfl).trans rfl) rfl ?_
    refine wl_off ((wanted_eq rfl rfl rfl rfl).trans rfl) rfl ?_
    refine wl_val (v := .bool true) rfl rfl (x_pick_t rfl rfl rfl) ?_
    refine wl_nil ?_
    refine then_n ?_
    refine wp_ift rfl ?_
    refine wp_seq ?_
    refine wp_region_lit ?_
    obtain ⟨t686, ht687, hm⟩ := bind_some hm
    refine wl_call rfl rfl (x_call Try.call8 rfl (vs := []) rfl) ?_
    refine (law13_awake_ref hst.to0 ht687).mono ?_
    rintro _ w688 ⟨rfl, hst⟩
    refine ⟨_, rfl, ?_⟩
    replace hst := hst.of0
    refine wl_val (v := .bool t686) rfl rfl rfl ?_
    refine wl_nil ?_
    refine then_n ?_
    refine wp_ret ?_
    refine then_r ?_
    obtain rfl := some_inj hm
    refine post_ret (vs := [.bool t686]) Try.results4 (rvs_cons (rv_tmp rfl) rvs_nil) ?_
    exact ⟨_, rfl, hI0, hst.keep0⟩
  · skip
    replace hm := bif_f hc685 hm
    refine wl_val (v := .pointer (some ⟨b675, 3, none⟩)) ((wanted_eq rfl rfl rfl (congrArg Value.bool hc685)).trans rfl) rfl (x_field rfl Try.underlying39 rfl Try.sizeOf36 rfl) ?_
    refine wl_val (v := r0_0) ((wanted_eq rfl rfl rfl (congrArg Value.bool hc685)).trans rfl) rfl (x_load rfl Try.isAgg36 (hst.bc0 rfl)) ?_
    refine wl_val (v := .int .i64 ((a0.Gots).length : Int)) ((wanted_eq rfl rfl rfl (congrArg Value.bool hc685)).trans rfl) rfl (x_len rfl Try.underlying36 (rd_sliceV f0_0)) ?_
    refine wl_val (v := .bool (decide (((a0.Gots).length : Int) > (32:Int)))) ((wanted_eq rfl rfl rfl (congrArg Value.bool hc685)).trans rfl) rfl rfl ?_
    refine wl_val (v := .bool (decide (((a0.Gots).length : Int) > (32:Int)))) rfl rfl (x_pick_f hc685 rfl rfl) ?_
    refine wl_val (v := .bool (decide (((a0.Gots).length : Int) > (32:Int)))) rfl rfl rfl ?_
    refine bsplit (decide (((a0.Gots).length : Int) > (32:Int))) (fun hc691 => ?_) (fun hc691 => ?_)
    · skip
      replace hm := bif_t hc691 hm
      refine wl_off ((wanted_eq rfl rfl rfl (congrArg Value.bool hc691)).trans rfl) rfl ?_
      refine wl_off ((wanted_eq rfl rfl rfl (congrArg Value.bool hc691)).trans rfl) rfl ?_
      refine wl_off ((wanted_eq rfl rfl rfl (congrArg Value.bool hc691)).trans rfl) rfl ?_
      refine wl_off ((wanted_eq rfl rfl rfl (congrArg Value.bool hc691)).trans rfl) rfl ?_
      refine wl_val (v := .bool true) rfl rfl (x_pick_t hc691 rfl rfl) ?_
      refine wl_val (v := .bool true) rfl rfl rfl ?_
      refine wl_off ((wanted_eq rfl rfl rfl rfl).trans rfl) rfl ?_
      refine wl_off ((wanted_eq rfl rfl rfl rfl).trans rfl) rfl ?_
      refine wl_off ((wanted_eq rfl rfl rfl rfl).trans rfl) rfl ?_
      refine wl_val (v := .bool true) rfl rfl (x_pick_t rfl rfl rfl) ?_
      refine wl_val (v := .bool true) rfl rfl rfl ?_
      refine wl_off ((wanted_eq rfl rfl rfl rfl).trans rfl) rfl ?_
      refine wl_off ((wanted_eq rfl rfl rfl rfl).trans rfl) rfl ?_
      refine wl_off ((wanted_eq rfl rfl rfl rfl).trans rfl) rfl ?_
      refine wl_val (v := .bool true) rfl rfl (x_pick_t rfl rfl rfl) ?_
      refine wl_val (v := .bool true) rfl rfl rfl ?_
      refine wl_off ((wanted_eq rfl rfl rfl rfl).trans rfl) rfl ?_
      refine wl_off ((wanted_eq rfl rfl rfl rfl).trans rfl) rfl ?_
      refine wl_off ((wanted_eq rfl rfl rfl rfl).trans rfl) rfl ?_
      refine wl_val (v := .bool true) rfl rfl (x_pick_t rfl rfl rfl) ?_
      refine wl_nil ?_
      refine then_n ?_
      refine wp_ift rfl ?_
      refine wp_seq ?_
      refine wp_region_lit ?_
      obtain ⟨t692, ht693, hm⟩ := bind_some hm
      refine wl_call rfl rfl (x_call Try.call8 rfl (vs := []) rfl) ?_
      refine (law13_awake_ref hst.to0 ht693).mono ?_
      rintro _ w694 ⟨rfl, hst⟩
      refine ⟨_, rfl, ?_⟩
      replace hst := hst.of0
      refine wl_val (v := .bool t692) rfl rfl rfl ?_
      refine wl_nil ?_
      refine then_n ?_
      refine wp_ret ?_
      refine then_r ?_
      obtain rfl := some_inj hm
      refine post_ret (vs := [.bool t692]) Try.results4 (rvs_cons (rv_tmp rfl) rvs_nil) ?_
      exact ⟨_, rfl, hI0, hst.keep0⟩
    · skip
      replace hm := bif_f hc691 hm
      refine wl_val (v := .pointer (some ⟨b675, 4, none⟩)) ((wanted_eq rfl rfl rfl (congrArg Value.bool hc691)).trans rfl) rfl (x_field rfl Try.underlying39 rfl Try.sizeOf37 rfl) ?_
      refine wl_val (v := r0_1) ((wanted_eq rfl rfl rfl (congrArg Value.bool hc691)).trans rfl) rfl (x_load rfl Try.isAgg37 (hst.bc0 rfl)) ?_
      refine wl_val (v := .int .i64 ((a0.Scans).length : Int)) ((wanted_eq rfl rfl rfl (congrArg Value.bool hc691)).trans rfl) rfl (x_len rfl Try.underlying37 (rd_sliceV f0_1)) ?_
      refine wl_val (v := .bool (decide (((a0.Scans).length : Int) > (32:Int)))) ((wanted_eq rfl rfl rfl (congrArg Value.bool hc691)).trans rfl) rfl rfl ?_
      refine wl_val (v := .bool (decide (((a0.Scans).length : Int) > (32:Int)))) rfl rfl (x_pick_f hc691 rfl rfl) ?_
      refine wl_val (v := .bool (decide (((a0.Scans).length : Int) > (32:Int)))) rfl rfl rfl ?_
      refine bsplit (decide (((a0.Scans).length : Int) > (32:Int))) (fun hc697 => ?_) (fun hc697 => ?_)
      · skip
        replace hm := bif_t hc697 hm
        refine wl_off ((wanted_eq rfl rfl rfl (congrArg Value.bool hc697)).trans rfl) rfl ?_
        refine wl_off ((wanted_eq rfl rfl rfl (congrArg Value.bool hc697)).trans rfl) rfl ?_
        refine wl_off ((wanted_eq rfl rfl rfl (congrArg Value.bool hc697)).trans rfl) rfl ?_
        refine wl_val (v := .bool true) rfl rfl (x_pick_t hc697 rfl rfl) ?_
        refine wl_val (v := .bool true) rfl rfl rfl ?_
        refine wl_off ((wanted_eq rfl rfl rfl rfl).trans rfl) rfl ?_
        refine wl_off ((wanted_eq rfl rfl rfl rfl).trans rfl) rfl ?_
        refine wl_off ((wanted_eq rfl rfl rfl rfl).trans rfl) rfl ?_
        refine wl_val (v := .bool true) rfl rfl (x_pick_t rfl rfl rfl) ?_
        refine wl_val (v := .bool true) rfl rfl rfl ?_
        refine wl_off ((wanted_eq rfl rfl rfl rfl).trans rfl) rfl ?_
        refine wl_off ((wanted_eq rfl rfl rfl rfl).trans rfl) rfl ?_
        refine wl_off ((wanted_eq rfl rfl rfl rfl).trans rfl) rfl ?_
        refine wl_val (v := .bool true) rfl rfl (x_pick_t rfl rfl rfl) ?_
        refine wl_nil ?_
        refine then_n ?_
        refine wp_ift rfl ?_
        refine wp_seq ?_
        refine wp_region_lit ?_
        obtain ⟨t698, ht699, hm⟩ := bind_some hm
        refine wl_call rfl rfl (x_call Try.call8 rfl (vs := []) rfl) ?_
        refine (law13_awake_ref hst.to0 ht699).mono ?_
        rintro _ w700 ⟨rfl, hst⟩
        refine ⟨_, rfl, ?_⟩
        replace hst := hst.of0
        refine wl_val (v := .bool t698) rfl rfl rfl ?_
        refine wl_nil ?_
        refine then_n ?_
        refine wp_ret ?_
        refine then_r ?_
        obtain rfl := some_inj hm
        refine post_ret (vs := [.bool t698]) Try.results4 (rvs_cons (rv_tmp rfl) rvs_nil) ?_
        exact ⟨_, rfl, hI0, hst.keep0⟩
      · skip
        replace hm := bif_f hc697 hm
        refine wl_val (v := r1_0) ((wanted_eq rfl rfl rfl (congrArg Value.bool hc697)).trans rfl) rfl rfl ?_
        refine wl_val (v := .int .i64 ((a1).length : Int)) ((wanted_eq rfl rfl rfl (congrArg Value.bool hc697)).trans rfl) rfl (x_len rfl Try.underlying22 (ro_sliceV f1_0)) ?_
        refine wl_val (v := .bool (decide (((a1).length : Int) > (200:Int)))) ((wanted_eq rfl rfl rfl (congrArg Value.bool hc697)).trans rfl) rfl rfl ?_
        refine wl_val (v := .bool (decide (((a1).length : Int) > (200:Int)))) rfl rfl (x_pick_f hc697 rfl rfl) ?_
        refine wl_val (v := .bool (decide (((a1).length : Int) > (200:Int)))) rfl rfl rfl ?_
        refine bsplit (decide (((a1).length : Int) > (200:Int))) (fun hc703 => ?_) (fun hc703 => ?_)
        · skip
          replace hm := bif_t hc703 hm
          refine wl_off ((wanted_eq rfl rfl rfl (congrArg Value.bool hc703)).trans rfl) rfl ?_
          refine wl_off ((wanted_eq rfl rfl rfl (congrArg Value.bool hc703)).trans rfl) rfl ?_
          refine wl_off ((wanted_eq rfl rfl rfl (congrArg Value.bool hc703)).trans rfl) rfl ?_
          refine wl_val (v := .bool true) rfl rfl (x_pick_t hc703 rfl rfl) ?_
          refine wl_val (v := .bool true) rfl rfl rfl ?_
          refine wl_off ((wanted_eq rfl rfl rfl rfl).trans rfl) rfl ?_
          refine wl_off ((wanted_eq rfl rfl rfl rfl).trans rfl) rfl ?_
          refine wl_off ((wanted_eq rfl rfl rfl rfl).trans rfl) rfl ?_
          refine wl_val (v := .bool true) rfl rfl (x_pick_t rfl rfl rfl) ?_
          refine wl_nil ?_
          refine then_n ?_
          refine wp_ift rfl ?_
          refine wp_seq ?_
          refine wp_region_lit ?_
          obtain ⟨t704, ht705, hm⟩ := bind_some hm
          refine wl_call rfl rfl (x_call Try.call8 rfl (vs := []) rfl) ?_
          refine (law13_awake_ref hst.to0 ht705).mono ?_
          rintro _ w706 ⟨rfl, hst⟩
          refine ⟨_, rfl, ?_⟩
          replace hst := hst.of0
          refine wl_val (v := .bool t704) rfl rfl rfl ?_
          refine wl_nil ?_
          refine then_n ?_
          refine wp_ret ?_
          refine then_r ?_
          obtain rfl := some_inj hm
          refine post_ret (vs := [.bool t704]) Try.results4 (rvs_cons (rv_tmp rfl) rvs_nil) ?_
          exact ⟨_, rfl, hI0, hst.keep0⟩
        · skip
          replace hm := bif_f hc703 hm
          refine wl_val (v := .pointer (some ⟨b675, 0, none⟩)) ((wanted_eq rfl rfl rfl (congrArg Value.bool hc703)).trans rfl) rfl (x_field rfl Try.underlying39 rfl Try.sizeOf30 rfl) ?_
          refine wl_val (v := .int .i64 a0.E) ((wanted_eq rfl rfl rfl (congrArg Value.bool hc703)).trans rfl) rfl (x_load rfl Try.isAgg30 (hst.bc0 rfl)) ?_
          refine wl_val (v := .bool (decide (a0.E < (0:Int)))) ((wanted_eq rfl rfl rfl (congrArg Value.bool hc703)).trans rfl) rfl rfl ?_
          refine wl_val (v := .bool (decide (a0.E < (0:Int)))) rfl rfl (x_pick_f hc703 rfl rfl) ?_
          refine wl_val (v := .bool (decide (a0.E < (0:Int)))) rfl rfl rfl ?_
          refine bsplit (decide (a0.E < (0:Int))) (fun hc709 => ?_) (fun hc709 => ?_)
          · skip
            replace hm := bif_t hc709 hm
            refine wl_off ((wanted_eq rfl rfl rfl (congrArg Value.bool hc709)).trans rfl) rfl ?_
            refine wl_off ((wanted_eq rfl rfl rfl (congrArg Value.bool hc709)).trans rfl) rfl ?_
            refine wl_off ((wanted_eq rfl rfl rfl (congrArg Value.bool hc709)).trans rfl) rfl ?_
            refine wl_val (v := .bool true) rfl rfl (x_pick_t hc709 rfl rfl) ?_
            refine wl_nil ?_
            refine then_n ?_
            refine wp_ift rfl ?_
            refine wp_seq ?_
            refine wp_region_lit ?_
            obtain ⟨t710, ht711, hm⟩ := bind_some hm
            refine wl_call rfl rfl (x_call Try.call8 rfl (vs := []) rfl) ?_
            refine (law13_awake_ref hst.to0 ht711).mono ?_
            rintro _ w712 ⟨rfl, hst⟩
            refine ⟨_, rfl, ?_⟩
            replace hst := hst.of0
            refine wl_val (v := .bool t710) rfl rfl rfl ?_
            refine wl_nil ?_
            refine then_n ?_
            refine wp_ret ?_
            refine then_r ?_
            obtain rfl := some_inj hm
            refine post_ret (vs := [.bool t710]) Try.results4 (rvs_cons (rv_tmp rfl) rvs_nil) ?_
            exact ⟨_, rfl, hI0, hst.keep0⟩
          · skip
            replace hm := bif_f hc709 hm
            refine wl_val (v := .pointer (some ⟨b675, 0, none⟩)) ((wanted_eq rfl rfl rfl (congrArg Value.bool hc709)).trans rfl) rfl (x_field rfl Try.underlying39 rfl Try.sizeOf30 rfl) ?_
            refine wl_val (v := .int .i64 a0.E) ((wanted_eq rfl rfl rfl (congrArg Value.bool hc709)).trans rfl) rfl (x_load rfl Try.isAgg30 (hst.bc0 rfl)) ?_
            refine wl_val (v := .bool (decide (a0.E > (255:Int)))) ((wanted_eq rfl rfl rfl (congrArg Value.bool hc709)).trans rfl) rfl rfl ?_
            refine wl_val (v := .bool (decide (a0.E > (255:Int)))) rfl rfl (x_pick_f hc709 rfl rfl) ?_
            refine wl_nil ?_
            refine then_n ?_
            refine bsplit (decide (a0.E > (255:Int))) (fun hc715 => ?_) (fun hc715 => ?_)
            · skip
              replace hm := bif_t hc715 hm
              refine wp_ift (congrArg Value.bool hc715) ?_
              refine wp_seq ?_
              refine wp_region_lit ?_
              obtain ⟨t716, ht717, hm⟩ := bind_some hm
              refine wl_call rfl rfl (x_call Try.call8 rfl (vs := []) rfl) ?_
              refine (law13_awake_ref hst.to0 ht717).mono ?_
              rintro _ w718 ⟨rfl, hst⟩
              refine ⟨_, rfl, ?_⟩
              replace hst := hst.of0
              refine wl_val (v := .bool t716) rfl rfl rfl ?_
              refine wl_nil ?_
              refine then_n ?_
              refine wp_ret ?_
              refine then_r ?_
              obtain rfl := some_inj hm
              refine post_ret (vs := [.bool t716]) Try.results4 (rvs_cons (rv_tmp rfl) rvs_nil) ?_
              exact ⟨_, rfl, hI0, hst.keep0⟩
            · skip
              replace hm := bif_f hc715 hm
              refine wp_iff (congrArg Value.bool hc715) ?_
              refine wp_skip ?_
              refine then_n ?_
              obtain ⟨y772, hm, hx773⟩ := joinO_some hm
              refine wp_cut (fun a w => ∃ (σ770 : Nat → Value), (law13_CommandReplies_j0 a0 a1) () = some r ∧ a = Fr 133 (upd (upd σ770 1 (r1_0)) 2 (.pointer (some ⟨b675, 0, none⟩))) ∧ St w0 w I [cells b675 [.int .i64 a0.E, .int .u64 a0.Epoch, .int .u64 a0.Index, r0_0, r0_1]] R) ?_ ?_
              · skip
                refine wp_seq ?_
                refine wp_region_lit ?_
                refine wl_val (v := .int .i64 (0:Int)) rfl rfl rfl ?_
                refine wl_nil ?_
                refine then_n ?_
                refine wp_block ?_
                obtain ⟨n750, hm⟩ := loopO_some hm
                refine wp_loop_n (fun n a w => ∃ (z748 : Int) (σ749 : Nat → Value), loopN (law13_CommandReplies_l1 a0) n z748 = some y772 ∧ a = Fr 133 (upd (upd (upd σ749 1 (r1_0)) 2 (.pointer (some ⟨b675, 0, none⟩))) 5 (.int .i64 z748)) ∧ St w0 w I [cells b675 [.int .i64 a0.E, .int .u64 a0.Epoch, .int .u64 a0.Index, r0_0, r0_1]] R) n750 ⟨(0:Int), _, hm, ((fr_upd (t := 1) (v := r1_0) rfl).trans ((fr_upd (t := 2) (v := .pointer (some ⟨b675, 0, none⟩)) rfl).trans ((fr_upd (t := 5) (v := .int .i64 (0:Int)) rfl).trans rfl))), hst⟩ ?_
                rintro n756 _ w751 ⟨z748, σ749, hm, rfl, hst⟩
                obtain ⟨n753, y754, rfl, hm, hx755⟩ := loopN_some hm
                dsimp only [law13_CommandReplies_l1] at hm
                refine wp_seq ?_
                refine wp_seq ?_
                refine wp_region_lit ?_
                refine wl_val (v := .int .i64 z748) rfl rfl rfl ?_
                refine wl_val (v := .pointer (some ⟨b675, 3, none⟩)) rfl rfl (x_field rfl Try.underlying39 rfl Try.sizeOf36 rfl) ?_
                refine wl_val (v := r0_0) rfl rfl (x_load rfl Try.isAgg36 (hst.bc0 rfl)) ?_
                refine wl_val (v := .int .i64 ((a0.Gots).length : Int)) rfl rfl (x_len rfl Try.underlying36 (rd_sliceV f0_0)) ?_
                refine wl_val (v := .bool (decide (z748 < ((a0.Gots).length : Int)))) rfl rfl rfl ?_
                refine wl_nil ?_
                refine then_n ?_
                refine bsplit (decide (z748 < ((a0.Gots).length : Int))) (fun hc757 => ?_) (fun hc757 => ?_)
                · skip
                  replace hm := bif_t hc757 hm
                  refine wp_ift (congrArg Value.bool hc757) ?_
                  refine wp_skip ?_
                  refine then_n ?_
                  refine wp_seq ?_
                  refine wp_block ?_
                  refine wp_seq ?_
                  refine wp_region_lit ?_
                  refine wl_val (v := .pointer (some ⟨b675, 3, none⟩)) rfl rfl (x_field rfl Try.underlying39 rfl Try.sizeOf36 rfl) ?_
                  refine wl_val (v := r0_0) rfl rfl (x_load rfl Try.isAgg36 (hst.bc0 rfl)) ?_
                  refine wl_val (v := .int .i64 z748) rfl rfl rfl ?_
                  obtain ⟨x758, hx759, hm⟩ := bind_some hm
                  obtain ⟨h760, h761, hi762⟩ := geto_some hx759
                  refine wl_val (v := .pointer (some (eAddr r0_0 (z748.toNat * 2 + 0)))) rfl rfl (x_index rfl rfl Try.underlying36 Try.sizeOf51 (rd_sliceV f0_0) h760 h761) ?_
                  refine wl_val (v := .pointer (some (eAddr r0_0 (z748.toNat * 2 + 1)))) rfl rfl (x_field_e rfl Try.underlying51 rfl Try.sizeOf22 rfl) ?_
                  obtain ⟨cs763, hr764, hc765⟩ := Rd.getF f0_0 hi762
                  obtain ⟨v766, rfl, f767, -⟩ := hr764
                  refine wl_val (v := v766) rfl rfl (x_load rfl Try.isAgg22 ((hc765 (HL.le.refl _) hst) 1 _ rfl)) ?_
                  refine wl_val (v := .int .i64 ((x758.Val).length : Int)) rfl rfl (x_len rfl Try.underlying22 (rd_sliceV f767)) ?_
                  refine wl_val (v := .bool (decide (((x758.Val).length : Int) > (256:Int)))) rfl rfl rfl ?_
                  refine wl_nil ?_
                  refine then_n ?_
                  refine bsplit (decide (((x758.Val).length : Int) > (256:Int))) (fun hc769 => ?_) (fun hc769 => ?_)
                  · skip
                    replace hm := bif_t hc769 hm
                    refine wp_ift (congrArg Value.bool hc769) ?_
                    refine wp_seq ?_
                    refine wp_region_lit ?_
                    refine wl_val (v := .bool true) rfl rfl rfl ?_
                    refine wl_nil ?_
                    refine then_n ?_
                    refine wp_ret ?_
                    refine blk_r ?_
                    refine then_r ?_
                    refine then_r ?_
                    replace hm := inr_up hm hx755
                    refine blk_r ?_
                    refine then_r ?_
                    replace hm := inr_up hm hx773
                    obtain rfl := some_inj hm
                    refine post_ret (vs := [.bool true]) Try.results4 (rvs_cons (rv_tmp rfl) rvs_nil) ?_
                    exact ⟨_, rfl, hI0, hst.keep0⟩
                  · skip
                    replace hm := bif_f hc769 hm
                    refine wp_iff (congrArg Value.bool hc769) ?_
                    refine wp_skip ?_
                    refine blk_n ?_
                    refine then_n ?_
                    refine wp_region_lit ?_
                    refine wl_val (v := .int .i64 z748) rfl rfl rfl ?_
                    refine wl_val (v := .int .i64 (IntKind.i64.wrap (z748 + (1:Int)))) rfl rfl rfl ?_
                    refine wl_val (v := .int .i64 (IntKind.i64.wrap (z748 + (1:Int)))) rfl rfl rfl ?_
                    refine wl_nil ?_
                    refine then_n ?_
                    replace hst := hst.keep1
                    obtain rfl := some_inj hm
                    exact ⟨_, Nat.lt_succ_self _, (IntKind.i64.wrap (z748 + (1:Int))), _, hx755, ((fr_upd (t := 1) (v := r1_0) rfl).trans ((fr_upd (t := 2) (v := .pointer (some ⟨b675, 0, none⟩)) rfl).trans ((fr_upd (t := 5) (v := .int .i64 (IntKind.i64.wrap (z748 + (1:Int)))) rfl).trans rfl))), hst⟩
                · skip
                  replace hm := bif_f hc757 hm
                  refine wp_iff (congrArg Value.bool hc757) ?_
                  refine wp_exit ?_
                  refine then_x ?_
                  refine then_x ?_
                  replace hm := inr_up hm hx755
                  refine blk_x ?_
                  refine then_n ?_
                  replace hst := hst.keep1
                  obtain rfl := some_inj hm
                  exact ⟨_, hx773, ((fr_upd (t := 1) (v := r1_0) rfl).trans ((fr_upd (t := 2) (v := .pointer (some ⟨b675, 0, none⟩)) rfl).trans rfl)), hst⟩
              · skip
                clear hst
                rintro _ w774 ⟨σ770, hm, rfl, hst⟩
                dsimp only [law13_CommandReplies_j0] at hm
                obtain ⟨y973, hm, hx974⟩ := joinO_some hm
                refine wp_cut (fun a w => ∃ (σ971 : Nat → Value), (law13_CommandReplies_j2 a1 a0) () = some r ∧ a = Fr 133 (upd (upd σ971 1 (r1_0)) 2 (.pointer (some ⟨b675, 0, none⟩))) ∧ St w0 w I [cells b675 [.int .i64 a0.E, .int .u64 a0.Epoch, .int .u64 a0.Index, r0_0, r0_1]] R) ?_ ?_
                · skip
                  refine wp_seq ?_
                  refine wp_region_lit ?_
                  refine wl_val (v := .int .i64 (0:Int)) rfl rfl rfl ?_
                  refine wl_nil ?_
                  refine then_n ?_
                  refine wp_block ?_
                  obtain ⟨n902, hm⟩ := loopO_some hm
                  refine wp_loop_n (fun n a w => ∃ (z900 : Int) (σ901 : Nat → Value), loopN (law13_CommandReplies_l3 a0) n z900 = some y973 ∧ a = Fr 133 (upd (upd (upd σ901 1 (r1_0)) 2 (.pointer (some ⟨b675, 0, none⟩))) 6 (.int .i64 z900)) ∧ St w0 w I [cells b675 [.int .i64 a0.E, .int .u64 a0.Epoch, .int .u64 a0.Index, r0_0, r0_1]] R) n902 ⟨(0:Int), _, hm, ((fr_upd (t := 1) (v := r1_0) rfl).trans ((fr_upd (t := 2) (v := .pointer (some ⟨b675, 0, none⟩)) rfl).trans ((fr_upd (t := 6) (v := .int .i64 (0:Int)) rfl).trans rfl))), hst⟩ ?_
                  rintro n908 _ w903 ⟨z900, σ901, hm, rfl, hst⟩
                  obtain ⟨n905, y906, rfl, hm, hx907⟩ := loopN_some hm
                  dsimp only [law13_CommandReplies_l3] at hm
                  refine wp_seq ?_
                  refine wp_seq ?_
                  refine wp_region_lit ?_
                  refine wl_val (v := .int .i64 z900) rfl rfl rfl ?_
                  refine wl_val (v := .pointer (some ⟨b675, 4, none⟩)) rfl rfl (x_field rfl Try.underlying39 rfl Try.sizeOf37 rfl) ?_
                  refine wl_val (v := r0_1) rfl rfl (x_load rfl Try.isAgg37 (hst.bc0 rfl)) ?_
                  refine wl_val (v := .int .i64 ((a0.Scans).length : Int)) rfl rfl (x_len rfl Try.underlying37 (rd_sliceV f0_1)) ?_
                  refine wl_val (v := .bool (decide (z900 < ((a0.Scans).length : Int)))) rfl rfl rfl ?_
                  refine wl_nil ?_
                  refine then_n ?_
                  refine bsplit (decide (z900 < ((a0.Scans).length : Int))) (fun hc909 => ?_) (fun hc909 => ?_)
                  · skip
                    replace hm := bif_t hc909 hm
                    refine wp_ift (congrArg Value.bool hc909) ?_
                    refine wp_skip ?_
                    refine then_n ?_
                    refine wp_seq ?_
                    refine wp_block ?_
                    refine wp_seq ?_
                    refine wp_seq ?_
                    refine wp_region_lit ?_
                    refine wl_val (v := .pointer (some ⟨b675, 4, none⟩)) rfl rfl (x_field rfl Try.underlying39 rfl Try.sizeOf37 rfl) ?_
                    refine wl_val (v := r0_1) rfl rfl (x_load rfl Try.isAgg37 (hst.bc0 rfl)) ?_
                    refine wl_val (v := .int .i64 z900) rfl rfl rfl ?_
                    obtain ⟨x910, hx911, hm⟩ := bind_some hm
                    obtain ⟨h912, h913, hi914⟩ := geto_some hx911
                    refine wl_val (v := .pointer (some (eAddr r0_1 (z900.toNat * 1 + 0)))) rfl rfl (x_index rfl rfl Try.underlying37 Try.sizeOf52 (rd_sliceV f0_1) h912 h913) ?_
                    obtain ⟨cs915, hr916, hc917⟩ := Rd.getF f0_1 hi914
                    obtain ⟨v918, rfl, f919, -⟩ := hr916
                    refine wl_val (v := v918) rfl rfl (x_load rfl Try.isAgg52 ((hc917 (HL.le.refl _) hst) 0 _ rfl)) ?_
                    refine wl_val (v := .int .i64 ((x910).length : Int)) rfl rfl (x_len rfl Try.underlying52 (rd_sliceV f919)) ?_
                    refine wl_val (v := .bool (decide (((x910).length : Int) > (64:Int)))) rfl rfl rfl ?_
                    refine wl_nil ?_
                    refine then_n ?_
                    refine bsplit (decide (((x910).length : Int) > (64:Int))) (fun hc921 => ?_) (fun hc921 => ?_)
                    · skip
                      replace hm := bif_t hc921 hm
                      refine wp_ift (congrArg Value.bool hc921) ?_
                      refine wp_seq ?_
                      refine wp_region_lit ?_
                      refine wl_val (v := .bool true) rfl rfl rfl ?_
                      refine wl_nil ?_
                      refine then_n ?_
                      refine wp_ret ?_
                      refine then_r ?_
                      refine blk_r ?_
                      refine then_r ?_
                      refine then_r ?_
                      replace hm := inr_up hm hx907
                      refine blk_r ?_
                      refine then_r ?_
                      replace hm := inr_up hm hx974
                      obtain rfl := some_inj hm
                      refine post_ret (vs := [.bool true]) Try.results4 (rvs_cons (rv_tmp rfl) rvs_nil) ?_
                      exact ⟨_, rfl, hI0, hst.keep0⟩
                    · skip
                      replace hm := bif_f hc921 hm
                      refine wp_iff (congrArg Value.bool hc921) ?_
                      refine wp_skip ?_
                      refine then_n ?_
                      refine wp_seq ?_
                      refine wp_region_lit ?_
                      refine wl_val (v := .int .i64 (0:Int)) rfl rfl rfl ?_
                      refine wl_nil ?_
                      refine then_n ?_
                      refine wp_block ?_
                      obtain ⟨n951, hm⟩ := loopO_some hm
                      refine wp_loop_n (fun n a w => ∃ (z949 : Int) (σ950 : Nat → Value), loopN (law13_CommandReplies_l4 x910 z900) n z949 = some y906 ∧ a = Fr 133 (upd (upd (upd (upd σ950 1 (r1_0)) 2 (.pointer (some ⟨b675, 0, none⟩))) 6 (.int .i64 z900)) 7 (.int .i64 z949)) ∧ St w0 w I [cells b675 [.int .i64 a0.E, .int .u64 a0.Epoch, .int .u64 a0.Index, r0_0, r0_1]] R) n951 ⟨(0:Int), _, hm, ((fr_upd (t := 1) (v := r1_0) rfl).trans ((fr_upd (t := 2) (v := .pointer (some ⟨b675, 0, none⟩)) rfl).trans ((fr_upd (t := 6) (v := .int .i64 z900) rfl).trans ((fr_upd (t := 7) (v := .int .i64 (0:Int)) rfl).trans rfl)))), hst⟩ ?_
                      rintro n957 _ w952 ⟨z949, σ950, hm, rfl, hst⟩
                      obtain ⟨n954, y955, rfl, hm, hx956⟩ := loopN_some hm
                      dsimp only [law13_CommandReplies_l4] at hm
                      refine wp_seq ?_
                      refine wp_seq ?_
                      refine wp_region_lit ?_
                      refine wl_val (v := .int .i64 z949) rfl rfl rfl ?_
                      refine wl_val (v := .pointer (some ⟨b675, 4, none⟩)) rfl rfl (x_field rfl Try.underlying39 rfl Try.sizeOf37 rfl) ?_
                      refine wl_val (v := r0_1) rfl rfl (x_load rfl Try.isAgg37 (hst.bc0 rfl)) ?_
                      refine wl_val (v := .int .i64 z900) rfl rfl rfl ?_
                      refine wl_val (v := .pointer (some (eAddr r0_1 (z900.toNat * 1 + 0)))) rfl rfl (x_index rfl rfl Try.underlying37 Try.sizeOf52 (rd_sliceV f0_1) h912 h913) ?_
                      refine wl_val (v := v918) rfl rfl (x_load rfl Try.isAgg52 ((hc917 (HL.le.refl _) hst) 0 _ rfl)) ?_
                      refine wl_val (v := .int .i64 ((x910).length : Int)) rfl rfl (x_len rfl Try.underlying52 (rd_sliceV f919)) ?_
                      refine wl_val (v := .bool (decide (z949 < ((x910).length : Int)))) rfl rfl rfl ?_
                      refine wl_nil ?_
                      refine then_n ?_
                      refine bsplit (decide (z949 < ((x910).length : Int))) (fun hc958 => ?_) (fun hc958 => ?_)
                      · skip
                        replace hm := bif_t hc958 hm
                        refine wp_ift (congrArg Value.bool hc958) ?_
                        refine wp_skip ?_
                        refine then_n ?_
                        refine wp_seq ?_
                        refine wp_block ?_
                        refine wp_seq ?_
                        refine wp_region_lit ?_
                        refine wl_val (v := .pointer (some ⟨b675, 4, none⟩)) rfl rfl (x_field rfl Try.underlying39 rfl Try.sizeOf37 rfl) ?_
                        refine wl_val (v := r0_1) rfl rfl (x_load rfl Try.isAgg37 (hst.bc0 rfl)) ?_
                        refine wl_val (v := .int .i64 z900) rfl rfl rfl ?_
                        refine wl_val (v := .pointer (some (eAddr r0_1 (z900.toNat * 1 + 0)))) rfl rfl (x_index rfl rfl Try.underlying37 Try.sizeOf52 (rd_sliceV f0_1) h912 h913) ?_
                        refine wl_val (v := v918) rfl rfl (x_load rfl Try.isAgg52 ((hc917 (HL.le.refl _) hst) 0 _ rfl)) ?_
                        refine wl_val (v := .int .i64 z949) rfl rfl rfl ?_
                        obtain ⟨x959, hx960, hm⟩ := bind_some hm
                        obtain ⟨h961, h962, hi963⟩ := geto_some hx960
                        refine wl_val (v := .pointer (some (eAddr v918 (z949.toNat * 2 + 0)))) rfl rfl (x_index rfl rfl Try.underlying52 Try.sizeOf54 (rd_sliceV f919) h961 h962) ?_
                        refine wl_val (v := .pointer (some (eAddr v918 (z949.toNat * 2 + 1)))) rfl rfl (x_field_e rfl Try.underlying54 rfl Try.sizeOf22 rfl) ?_
                        obtain ⟨cs964, hr965, hc966⟩ := Rd.getF f919 hi963
                        obtain ⟨v967, rfl, f968, -⟩ := hr965
                        refine wl_val (v := v967) rfl rfl (x_load rfl Try.isAgg22 ((hc966 (HL.le.refl _) hst) 1 _ rfl)) ?_
                        refine wl_val (v := .int .i64 ((x959.Val).length : Int)) rfl rfl (x_len rfl Try.underlying22 (rd_sliceV f968)) ?_
                        refine wl_val (v := .bool (decide (((x959.Val).length : Int) > (256:Int)))) rfl rfl rfl ?_
                        refine wl_nil ?_
                        refine then_n ?_
                        refine bsplit (decide (((x959.Val).length : Int) > (256:Int))) (fun hc970 => ?_) (fun hc970 => ?_)
                        · skip
                          replace hm := bif_t hc970 hm
                          refine wp_ift (congrArg Value.bool hc970) ?_
                          refine wp_seq ?_
                          refine wp_region_lit ?_
                          refine wl_val (v := .bool true) rfl rfl rfl ?_
                          refine wl_nil ?_
                          refine then_n ?_
                          refine wp_ret ?_
                          refine blk_r ?_
                          refine then_r ?_
                          refine then_r ?_
                          replace hm := inr_up hm hx956
                          refine blk_r ?_
                          refine blk_r ?_
                          refine then_r ?_
                          refine then_r ?_
                          replace hm := inr_up hm hx907
                          refine blk_r ?_
                          refine then_r ?_
                          replace hm := inr_up hm hx974
                          obtain rfl := some_inj hm
                          refine post_ret (vs := [.bool true]) Try.results4 (rvs_cons (rv_tmp rfl) rvs_nil) ?_
                          exact ⟨_, rfl, hI0, hst.keep0⟩
                        · skip
                          replace hm := bif_f hc970 hm
                          refine wp_iff (congrArg Value.bool hc970) ?_
                          refine wp_skip ?_
                          refine blk_n ?_
                          refine then_n ?_
                          refine wp_region_lit ?_
                          refine wl_val (v := .int .i64 z949) rfl rfl rfl ?_
                          refine wl_val (v := .int .i64 (IntKind.i64.wrap (z949 + (1:Int)))) rfl rfl rfl ?_
                          refine wl_val (v := .int .i64 (IntKind.i64.wrap (z949 + (1:Int)))) rfl rfl rfl ?_
                          refine wl_nil ?_
                          refine then_n ?_
                          replace hst := hst.keep1
                          obtain rfl := some_inj hm
                          exact ⟨_, Nat.lt_succ_self _, (IntKind.i64.wrap (z949 + (1:Int))), _, hx956, ((fr_upd (t := 1) (v := r1_0) rfl).trans ((fr_upd (t := 2) (v := .pointer (some ⟨b675, 0, none⟩)) rfl).trans ((fr_upd (t := 6) (v := .int .i64 z900) rfl).trans ((fr_upd (t := 7) (v := .int .i64 (IntKind.i64.wrap (z949 + (1:Int)))) rfl).trans rfl)))), hst⟩
                      · skip
                        replace hm := bif_f hc958 hm
                        refine wp_iff (congrArg Value.bool hc958) ?_
                        refine wp_exit ?_
                        refine then_x ?_
                        refine then_x ?_
                        replace hm := inr_up hm hx956
                        refine blk_x ?_
                        refine blk_n ?_
                        refine then_n ?_
                        refine wp_region_lit ?_
                        refine wl_val (v := .int .i64 z900) rfl rfl rfl ?_
                        refine wl_val (v := .int .i64 (IntKind.i64.wrap (z900 + (1:Int)))) rfl rfl rfl ?_
                        refine wl_val (v := .int .i64 (IntKind.i64.wrap (z900 + (1:Int)))) rfl rfl rfl ?_
                        refine wl_nil ?_
                        refine then_n ?_
                        replace hst := hst.keep1
                        obtain rfl := some_inj hm
                        exact ⟨_, Nat.lt_succ_self _, (IntKind.i64.wrap (z900 + (1:Int))), _, hx907, ((fr_upd (t := 1) (v := r1_0) rfl).trans ((fr_upd (t := 2) (v := .pointer (some ⟨b675, 0, none⟩)) rfl).trans ((fr_upd (t := 6) (v := .int .i64 (IntKind.i64.wrap (z900 + (1:Int)))) rfl).trans rfl))), hst⟩
                  · skip
                    replace hm := bif_f hc909 hm
                    refine wp_iff (congrArg Value.bool hc909) ?_
                    refine wp_exit ?_
                    refine then_x ?_
                    refine then_x ?_
                    replace hm := inr_up hm hx907
                    refine blk_x ?_
                    refine then_n ?_
                    replace hst := hst.keep1
                    obtain rfl := some_inj hm
                    exact ⟨_, hx974, ((fr_upd (t := 1) (v := r1_0) rfl).trans ((fr_upd (t := 2) (v := .pointer (some ⟨b675, 0, none⟩)) rfl).trans rfl)), hst⟩
                · skip
                  clear hst
                  rintro _ w975 ⟨σ971, hm, rfl, hst⟩
                  dsimp only [law13_CommandReplies_j2] at hm
                  refine wp_seq ?_
                  refine wp_region_lit ?_
                  refine wl_val (v := r1_0) rfl rfl rfl ?_
                  refine wl_val (v := .agg #[r1_0, .int .i64 (0:Int)]) rfl rfl (by obtain ⟨_, _, hv_, _⟩ := (ro_sliceV f1_0); rw [hv_]; kernel_rfl) ?_
                  obtain ⟨b977, w978, ew979, eb980, hst⟩ := hst.box [r1_0, .int .i64 (0:Int)] 26
                  refine wl_run (v := .pointer (some ⟨b977, 0, none⟩)) (w' := w978) rfl rfl (x_al (by kernel_rfl) ew979 eb980) ?_
                  refine wl_val (v := .pointer (some ⟨b977, 0, none⟩)) rfl rfl rfl ?_
                  refine wl_nil ?_
                  refine then_n ?_
                  refine wp_seq ?_
                  refine wp_region_lit ?_
                  refine wl_val (v := .pointer (some ⟨b977, 0, none⟩)) rfl rfl rfl ?_
                  replace hst := at_ref12_Tape_close (pv := .pointer (some ⟨b977, 0, none⟩)) (x := ({ L := a1, I := (0:Int) } : ref12_Tape)) hst ⟨rfl, f1_0⟩
                  obtain ⟨t982, ht983, hm⟩ := bind_some hm
                  refine wl_call rfl rfl (x_call Try.call12 rfl (vs := [.pointer (some ⟨b977, 0, none⟩)]) rfl) ?_
                  refine (ref13_OfReply_ref hst.to1 ht983).mono ?_
                  rintro _ w984 ⟨I985, v987, v989, rfl, hI986, hst⟩
                  refine ⟨_, rfl, ?_⟩
                  replace hst := hst.of3
                  replace f0_0 := f0_0.mono (rd_le hI986)
                  replace f0_1 := f0_1.mono (rd_le hI986)
                  replace f1_0 := f1_0.mono (ro_le hI986)
                  replace hI0 := hI0.trans hI986
                  obtain ⟨b993, w994, ew995, eb996, hst⟩ := hst.box [.int .i64 (0:Int), .int .u64 (0:Int), .int .u64 (0:Int), (.slice none 0 0), (.slice none 0 0)] 39
                  refine wl_run (v := .pointer (some ⟨b993, 0, none⟩)) (w' := w994) rfl rfl (x_al (by kernel_rfl) ew995 eb996) ?_
                  obtain ⟨w998, hr999, hst⟩ := hst.boxStore (P := Try.prog) (t := 39) (cs' := [.int .i64 t982.1.E, .int .u64 t982.1.Epoch, .int .u64 t982.1.Index, v987, v989]) 0 (.agg #[.int .i64 t982.1.E, .int .u64 t982.1.Epoch, .int .u64 t982.1.Index, v987, v989]) Try.sizeOf39 (Nat.le_of_ble_eq_true rfl) (ones_cons rfl (ones_cons rfl (ones_cons rfl (ones_cons (one_of_sliceV hst.sv1) (ones_cons (one_of_sliceV hst.sv2) ones_nil))))) (by kernel_rfl)
                  refine wl_unit rfl rfl (x_unit hr999) ?_
                  refine wl_nil ?_
                  refine then_n ?_
                  refine wp_seq ?_
                  refine wp_seq ?_
                  refine wp_region_lit ?_
                  refine wl_val (v := .int .i64 (0:Int)) rfl rfl rfl ?_
                  refine wl_nil ?_
                  refine then_n ?_
                  refine wp_block ?_
                  replace hst := hst.pull3
                  replace hst := hst.sub
                  replace hst := hst.pull1
                  obtain ⟨I1076, hI1077, f1078, hst⟩ := hst.own_fix
                  replace f0_0 := f0_0.mono (rd_le hI1077)
                  replace f0_1 := f0_1.mono (rd_le hI1077)
                  replace f1_0 := f1_0.mono (ro_le hI1077)
                  replace hI0 := hI0.trans hI1077
                  replace hst := hst.pull1
                  obtain ⟨I1079, hI1080, f1081, hst⟩ := hst.own_fix
                  replace f0_0 := f0_0.mono (rd_le hI1080)
                  replace f0_1 := f0_1.mono (rd_le hI1080)
                  replace f1_0 := f1_0.mono (ro_le hI1080)
                  replace f1078 := f1078.mono (ro_le hI1080)
                  replace hI0 := hI0.trans hI1080
                  obtain ⟨n1260, hm⟩ := loopO_some hm
                  refine wp_loop_n (fun n a w => ∃ (I1258 : HL) (z1246 : Int) (z1247 : Int) (z1248 : Int) (z1249 : (List api_Got)) (z1253 : (List (List api_Pair))) (z1257 : Int) (v1250 : Value) (v1254 : Value) (σ1259 : Nat → Value), loopN (law13_CommandReplies_l5 t982) n (z1246, z1247, z1248, z1249, z1253, z1257) = some r ∧ a = Fr 133 (upd (upd (upd σ1259 2 (.pointer (some ⟨b675, 0, none⟩))) 9 (.pointer (some ⟨b993, 0, none⟩))) 10 (.int .i64 z1257)) ∧ I1079.le I1258 ∧ Rd ty_api_Got R I1258 v1250 z1249 ∧ Rd (tySl ty_api_Pair) R I1258 v1254 z1253 ∧ St w0 w I1258 [cells b993 [.int .i64 t982.1.E, .int .u64 t982.1.Epoch, .int .u64 t982.1.Index, v987, v989], cells b675 [.int .i64 z1246, .int .u64 z1247, .int .u64 z1248, v1250, v1254]] R) n1260 ⟨_, a0.E, a0.Epoch, a0.Index, a0.Gots, a0.Scans, (0:Int), r0_0, r0_1, _, hm, ((fr_upd (t := 2) (v := .pointer (some ⟨b675, 0, none⟩)) rfl).trans ((fr_upd (t := 9) (v := .pointer (some ⟨b993, 0, none⟩)) rfl).trans ((fr_upd (t := 10) (v := .int .i64 (0:Int)) rfl).trans rfl))), (HL.le.refl _), f0_0, f0_1, hst⟩ ?_
                  rintro n1266 _ w1261 ⟨I1258, z1246, z1247, z1248, z1249, z1253, z1257, v1250, v1254, σ1259, hm, rfl, hL1262, f1252, f1256, hst⟩
                  obtain ⟨n1263, y1264, rfl, hm, hx1265⟩ := loopN_some hm
                  dsimp only [law13_CommandReplies_l5] at hm
                  replace f0_0 := f0_0.mono (rd_le hL1262)
                  replace f0_1 := f0_1.mono (rd_le hL1262)
                  replace f1_0 := f1_0.mono (ro_le hL1262)
                  replace f1078 := f1078.mono (ro_le hL1262)
                  replace f1081 := f1081.mono (ro_le hL1262)
                  replace hI0 := hI0.trans hL1262
                  refine wp_seq ?_
                  refine wp_seq ?_
                  refine wp_region_lit ?_
                  refine wl_val (v := .int .i64 z1257) rfl rfl rfl ?_
                  refine wl_val (v := .bool (decide (z1257 < (2:Int)))) rfl rfl rfl ?_
                  refine wl_nil ?_
                  refine then_n ?_
                  refine bsplit (decide (z1257 < (2:Int))) (fun hc1267 => ?_) (fun hc1267 => ?_)
                  · skip
                    replace hm := bif_t hc1267 hm
                    refine wp_ift (congrArg Value.bool hc1267) ?_
                    refine wp_skip ?_
                    refine then_n ?_
                    refine wp_seq ?_
                    refine wp_block ?_
                    refine wp_seq ?_
                    refine wp_region_lit ?_
                    refine wl_val (v := .agg #[(.slice none 0 0)]) rfl rfl (by kernel_rfl) ?_
                    obtain ⟨b1269, w1270, ew1271, eb1272, hst⟩ := hst.box [(.slice none 0 0)] 58
                    refine wl_run (v := .pointer (some ⟨b1269, 0, none⟩)) (w' := w1270) rfl rfl (x_al (by kernel_rfl) ew1271 eb1272) ?_
                    refine wl_val (v := .pointer (some ⟨b1269, 0, none⟩)) rfl rfl rfl ?_
                    refine wl_nil ?_
                    refine then_n ?_
                    refine wp_seq ?_
                    refine wp_region_lit ?_
                    refine wl_val (v := .pointer (some ⟨b1269, 0, none⟩)) rfl rfl rfl ?_
                    refine wl_val (v := .agg #[.int .i64 z1246, .int .u64 z1247, .int .u64 z1248, v1250, v1254]) rfl rfl (x_loadN (cs := [.int .i64 z1246, .int .u64 z1247, .int .u64 z1248, v1250, v1254]) rfl Try.isAgg39 Try.sizeOf39 (hst.bcs2 0 rfl)) ?_
                    replace hst := hst.own_nil (tyInt .u8)
                    replace hst := hst.pull1
                    replace hst := at_octet_Writer_close (pv := .pointer (some ⟨b1269, 0, none⟩)) (x := ({ p := [] } : octet_Writer)) hst rfl
                    obtain ⟨t1275, ht1276, hm⟩ := bind_some hm
                    refine wl_call rfl rfl (x_call Try.call13 rfl (vs := [.pointer (some ⟨b1269, 0, none⟩), .agg #[.int .i64 z1246, .int .u64 z1247, .int .u64 z1248, v1250, v1254]]) rfl) ?_
                    refine (command_LayReply_ref (f1252.mono (rd_weak _)) (f1256.mono (rd_weak _)) hst.to1 ht1276).mono ?_
                    rintro _ w1277 ⟨rfl, hst⟩
                    refine ⟨_, rfl, ?_⟩
                    replace hst := hst.of1
                    refine wl_nil ?_
                    refine then_n ?_
                    refine wp_seq ?_
                    refine wp_region_lit ?_
                    refine wl_val (v := .pointer (some ⟨b1269, 0, none⟩)) rfl rfl rfl ?_
                    obtain ⟨t1280, ht1281, hm⟩ := bind_some hm
                    refine wl_call rfl rfl (x_call Try.call14 rfl (vs := [.pointer (some ⟨b1269, 0, none⟩)]) rfl) ?_
                    refine (octet_Writer_Done_ref hst.to1 ht1281).mono ?_
                    rintro _ w1282 ⟨v1285, rfl, hst⟩
                    refine ⟨_, rfl, ?_⟩
                    replace hst := hst.of1
                    refine wl_val (v := v1285) rfl rfl rfl ?_
                    refine wl_nil ?_
                    refine then_n ?_
                    refine wp_seq ?_
                    refine wp_region_lit ?_
                    refine wl_val (v := v1285) rfl rfl rfl ?_
                    obtain ⟨I1287, hI1288, f1289, hst⟩ := hst.own_fix
                    replace f0_0 := f0_0.mono (rd_le hI1288)
                    replace f0_1 := f0_1.mono (rd_le hI1288)
                    replace f1_0 := f1_0.mono (ro_le hI1288)
                    replace f1078 := f1078.mono (ro_le hI1288)
                    replace f1081 := f1081.mono (ro_le hI1288)
                    replace f1252 := f1252.mono (rd_le hI1288)
                    replace f1256 := f1256.mono (rd_le hI1288)
                    replace hI0 := hI0.trans hI1288
                    replace hL1262 := hL1262.trans hI1288
                    obtain ⟨t1290, ht1291, hm⟩ := bind_some hm
                    refine wl_call rfl rfl (x_call Try.call15 rfl (vs := [v1285]) rfl) ?_
                    refine (octet_Read_ref f1289 hst.to0 ht1291).mono ?_
                    rintro _ w1292 ⟨v1295, rfl, hst⟩
                    refine ⟨_, rfl, ?_⟩
                    replace hst := hst.of1
                    refine wl_val (v := v1295) rfl rfl rfl ?_
                    refine wl_nil ?_
                    refine then_n ?_
                    refine wp_seq ?_
                    refine wp_region_lit ?_
                    refine wl_val (v := v1295) rfl rfl rfl ?_
                    obtain ⟨t1297, ht1298, hm⟩ := bind_some hm
                    refine wl_call rfl rfl (x_call Try.call16 rfl (vs := [v1295]) rfl) ?_
                    refine (command_ReadReply_ref hst.to1 ht1298).mono ?_
                    rintro _ w1299 ⟨I1300, v1302, v1304, rfl, hI1301, hst⟩
                    refine ⟨_, rfl, ?_⟩
                    replace hst := hst.of3
                    replace f0_0 := f0_0.mono (rd_le hI1301)
                    replace f0_1 := f0_1.mono (rd_le hI1301)
                    replace f1_0 := f1_0.mono (ro_le hI1301)
                    replace f1078 := f1078.mono (ro_le hI1301)
                    replace f1081 := f1081.mono (ro_le hI1301)
                    replace f1252 := f1252.mono (rd_le hI1301)
                    replace f1256 := f1256.mono (rd_le hI1301)
                    replace f1289 := f1289.mono (ro_le hI1301)
                    replace hI0 := hI0.trans hI1301
                    replace hL1262 := hL1262.trans hI1301
                    obtain ⟨b1308, w1309, ew1310, eb1311, hst⟩ := hst.box [.int .i64 (0:Int), .int .u64 (0:Int), .int .u64 (0:Int), (.slice none 0 0), (.slice none 0 0)] 39
                    refine wl_run (v := .pointer (some ⟨b1308, 0, none⟩)) (w' := w1309) rfl rfl (x_al (by kernel_rfl) ew1310 eb1311) ?_
                    obtain ⟨w1313, hr1314, hst⟩ := hst.boxStore (P := Try.prog) (t := 39) (cs' := [.int .i64 t1297.1.E, .int .u64 t1297.1.Epoch, .int .u64 t1297.1.Index, v1302, v1304]) 0 (.agg #[.int .i64 t1297.1.E, .int .u64 t1297.1.Epoch, .int .u64 t1297.1.Index, v1302, v1304]) Try.sizeOf39 (Nat.le_of_ble_eq_true rfl) (ones_cons rfl (ones_cons rfl (ones_cons rfl (ones_cons (one_of_sliceV hst.sv1) (ones_cons (one_of_sliceV hst.sv2) ones_nil))))) (by kernel_rfl)
                    refine wl_unit rfl rfl (x_unit hr1314) ?_
                    refine wl_nil ?_
                    refine then_n ?_
                    refine wp_seq ?_
                    refine wp_seq ?_
                    refine wp_region_St hst 17 [0, 1, 2, 3, 4, 5, 6, 7, 8, 9, 10, 11, 12, 13, 14, 15, 16] [0, 1, 0, 4, 12, 31, 63, 127, 255, 511, 1023, 2047, 4095, 4095, 16383, 32767, 65535] [] rfl (by kernel_rfl) (by kernel_rfl) Try.mixed (by kernel_rfl) ?_
                    refine ws_q (v := v1285) 0 [1, 2, 3, 4, 5, 6, 7, 8, 9, 10, 11, 12, 13, 14, 15, 16] (by kernel_rfl) rfl rfl (yi_run rfl (fun w hst => rfl)) ?_
                    refine ws_q (v := .string (toStr t1280)) 1 [2, 3, 4, 5, 6, 7, 8, 9, 10, 11, 12, 13, 14, 15, 16] (by kernel_rfl) rfl rfl (yi_run rfl (fun w hst => x_tostr Try.underlying22 Try.underlying9 Try.underlying5 rfl (Src.of_ro hst f1289))) ?_
                    refine ws_q (v := .agg #[.int .i64 z1246, .int .u64 z1247, .int .u64 z1248, v1250, v1254]) 2 [3, 4, 5, 6, 7, 8, 9, 10, 11, 12, 13, 14, 15, 16] (by kernel_rfl) rfl rfl (yi_run rfl (fun w hst => x_loadN (cs := [.int .i64 z1246, .int .u64 z1247, .int .u64 z1248, v1250, v1254]) rfl Try.isAgg39 Try.sizeOf39 (hst.bcs5 0 rfl))) ?_
                    refine ws_e1 3 (by kernel_rfl) ?_
                    refine nxe [4, 5, 6, 7, 8, 9, 10, 11, 12, 13, 14, 15, 16] (by kernel_rfl) rfl rfl ?_
                    clear hst
                    intro w hst
                    have f1316 : Ro (tyInt .u8) I1300 (.slice none 0 0) [] := ro_nil
                    obtain ⟨t1317, ht1318, hm⟩ := bind_some hm
                    refine we_call rfl (x_call Try.call17 rfl (vs := [(.slice none 0 0), .agg #[.int .i64 z1246, .int .u64 z1247, .int .u64 z1248, v1250, v1254]]) rfl) ?_
                    refine (ref13_Reply_ref (f1316.mono ro_rd) (f1252.mono (rd_weak _)) (f1256.mono (rd_weak _)) hst.to0 ht1318).mono ?_
                    rintro _ w1319 ⟨v1322, rfl, hst⟩
                    refine ⟨_, rfl, ?_⟩
                    replace hst := hst.of1
                    refine ws_next (pend' := [(1, .string (toStr t1280)), (0, v1285)]) hst (by kernel_rfl) (pk_cons rfl (yi_run rfl (fun w hst => x_tostr Try.underlying22 Try.underlying9 Try.underlying5 rfl (Src.of_ro hst f1289))) (pk_cons rfl (yi_run rfl (fun w hst => rfl)) pk_nil)) ?_
                    refine ws_q (v := .string (toStr t1317)) 4 [5, 6, 7, 8, 9, 10, 11, 12, 13, 14, 15, 16] (by kernel_rfl) rfl rfl (yi_run rfl (fun w hst => x_tostr Try.underlying22 Try.underlying9 Try.underlying5 rfl hst.src0)) ?_
                    refine ws_q (v := .bool (!(sEq (toStr t1280) (toStr t1317)))) 5 [6, 7, 8, 9, 10, 11, 12, 13, 14, 15, 16] (by kernel_rfl) rfl rfl (yi_run rfl (fun w hst => by kernel_rfl)) ?_
                    refine ws_q (v := .bool (!(sEq (toStr t1280) (toStr t1317)))) 6 [7, 8, 9, 10, 11, 12, 13, 14, 15, 16] (by kernel_rfl) rfl rfl (yi_run rfl (fun w hst => rfl)) ?_
                    refine bsplit (!(sEq (toStr t1280) (toStr t1317))) (fun hc1324 => ?_) (fun hc1324 => ?_)
                    · skip
                      replace hm := bif_t hc1324 hm
                      refine ws_q (v := undef) 7 [8, 9, 10, 11, 12, 13, 14, 15, 16] (by kernel_rfl) rfl rfl (yi_off ((wanted_eq rfl rfl rfl (congrArg Value.bool hc1324)).trans rfl)) ?_
                      refine ws_q (v := undef) 8 [9, 10, 11, 12, 13, 14, 15, 16] (by kernel_rfl) rfl rfl (yi_off ((wanted_eq rfl rfl rfl (congrArg Value.bool hc1324)).trans rfl)) ?_
                      refine ws_q (v := undef) 9 [10, 11, 12, 13, 14, 15, 16] (by kernel_rfl) rfl rfl (yi_off ((wanted_eq rfl rfl rfl (congrArg Value.bool hc1324)).trans rfl)) ?_
                      refine ws_q (v := .bool true) 10 [11, 12, 13, 14, 15, 16] (by kernel_rfl) rfl rfl (yi_run rfl (fun w hst => x_pick_t hc1324 rfl rfl)) ?_
                      refine ws_q (v := .bool true) 11 [12, 13, 14, 15, 16] (by kernel_rfl) rfl rfl (yi_run rfl (fun w hst => rfl)) ?_
                      refine ws_q (v := undef) 12 [13, 14, 15, 16] (by kernel_rfl) rfl rfl (yi_off ((wanted_eq rfl rfl rfl rfl).trans rfl)) ?_
                      refine ws_q (v := undef) 13 [14, 15, 16] (by kernel_rfl) rfl rfl (yi_off ((wanted_eq rfl rfl rfl rfl).trans rfl)) ?_
                      refine ws_q (v := undef) 14 [15, 16] (by kernel_rfl) rfl rfl (yi_off ((wanted_eq rfl rfl rfl rfl).trans rfl)) ?_
                      refine ws_q (v := undef) 15 [16] (by kernel_rfl) rfl rfl (yi_off ((wanted_eq rfl rfl rfl rfl).trans rfl)) ?_
                      refine ws_q (v := .bool true) 16 [] (by kernel_rfl) rfl rfl (yi_run rfl (fun w hst => x_pick_t rfl rfl rfl)) ?_
                      refine ws_nil ?_
                      intro w hst
                      refine then_n ?_
                      refine wp_ift rfl ?_
                      refine wp_seq ?_
                      refine wp_region_lit ?_
                      refine wl_val (v := .bool false) rfl rfl rfl ?_
                      refine wl_nil ?_
                      refine then_n ?_
                      refine wp_ret ?_
                      refine then_r ?_
                      refine blk_r ?_
                      refine then_r ?_
                      refine then_r ?_
                      replace hm := inr_up hm hx1265
                      refine blk_r ?_
                      refine then_r ?_
                      obtain rfl := some_inj hm
                      refine post_ret (vs := [.bool false]) Try.results4 (rvs_cons (rv_tmp rfl) rvs_nil) ?_
                      exact ⟨_, rfl, hI0, hst.keep0⟩
                    · skip
                      replace hm := bif_f hc1324 hm
                      refine ws_q (v := v1295) 7 [8, 9, 10, 11, 12, 13, 14, 15, 16] (by kernel_rfl) rfl rfl (yi_run ((wanted_eq rfl rfl rfl (congrArg Value.bool hc1324)).trans rfl) (fun w hst => rfl)) ?_
                      refine ws_e1 8 (by kernel_rfl) ?_
                      refine nxe [9, 10, 11, 12, 13, 14, 15, 16] (by kernel_rfl) rfl ((wanted_eq rfl rfl rfl (congrArg Value.bool hc1324)).trans rfl) ?_
                      clear hst
                      intro w hst
                      replace hst := hst.pull4
                      obtain ⟨t1325, ht1326, hm⟩ := bind_some hm
                      refine we_call rfl (x_call Try.call18 rfl (vs := [v1295]) rfl) ?_
                      refine (octet_Reader_End_ref hst.to1 ht1326).mono ?_
                      rintro _ w1327 ⟨rfl, hst⟩
                      refine ⟨_, rfl, ?_⟩
                      replace hst := hst.of1
                      refine ws_next (pend' := []) hst (by kernel_rfl) pk_nil ?_
                      refine ws_q (v := .bool (!t1325)) 9 [10, 11, 12, 13, 14, 15, 16] (by kernel_rfl) rfl rfl (yi_run ((wanted_eq rfl rfl rfl (congrArg Value.bool hc1324)).trans rfl) (fun w hst => rfl)) ?_
                      refine ws_q (v := .bool (!t1325)) 10 [11, 12, 13, 14, 15, 16] (by kernel_rfl) rfl rfl (yi_run rfl (fun w hst => x_pick_f hc1324 rfl rfl)) ?_
                      refine ws_q (v := .bool (!t1325)) 11 [12, 13, 14, 15, 16] (by kernel_rfl) rfl rfl (yi_run rfl (fun w hst => rfl)) ?_
                      refine bsplit (!t1325) (fun hc1330 => ?_) (fun hc1330 => ?_)
                      · skip
                        replace hm := bif_t hc1330 hm
                        refine ws_q (v := undef) 12 [13, 14, 15, 16] (by kernel_rfl) rfl rfl (yi_off ((wanted_eq rfl rfl rfl (congrArg Value.bool hc1330)).trans rfl)) ?_
                        refine ws_q (v := undef) 13 [14, 15, 16] (by kernel_rfl) rfl rfl (yi_off ((wanted_eq rfl rfl rfl (congrArg Value.bool hc1330)).trans rfl)) ?_
                        refine ws_q (v := undef) 14 [15, 16] (by kernel_rfl) rfl rfl (yi_off ((wanted_eq rfl rfl rfl (congrArg Value.bool hc1330)).trans rfl)) ?_
                        refine ws_q (v := undef) 15 [16] (by kernel_rfl) rfl rfl (yi_off ((wanted_eq rfl rfl rfl (congrArg Value.bool hc1330)).trans rfl)) ?_
                        refine ws_q (v := .bool true) 16 [] (by kernel_rfl) rfl rfl (yi_run rfl (fun w hst => x_pick_t hc1330 rfl rfl)) ?_
                        refine ws_nil ?_
                        intro w hst
                        refine then_n ?_
                        refine wp_ift rfl ?_
                        refine wp_seq ?_
                        refine wp_region_lit ?_
                        refine wl_val (v := .bool false) rfl rfl rfl ?_
                        refine wl_nil ?_
                        refine then_n ?_
                        refine wp_ret ?_
                        refine then_r ?_
                        refine blk_r ?_
                        refine then_r ?_
                        refine then_r ?_
                        replace hm := inr_up hm hx1265
                        refine blk_r ?_
                        refine then_r ?_
                        obtain rfl := some_inj hm
                        refine post_ret (vs := [.bool false]) Try.results4 (rvs_cons (rv_tmp rfl) rvs_nil) ?_
                        exact ⟨_, rfl, hI0, hst.keep0⟩
                      · skip
                        replace hm := bif_f hc1330 hm
                        refine ws_q (v := .agg #[.int .i64 t1297.1.E, .int .u64 t1297.1.Epoch, .int .u64 t1297.1.Index, v1302, v1304]) 12 [13, 14, 15, 16] (by kernel_rfl) rfl rfl (yi_run ((wanted_eq rfl rfl rfl (congrArg Value.bool hc1330)).trans rfl) (fun w hst => x_loadN (cs := [.int .i64 t1297.1.E, .int .u64 t1297.1.Epoch, .int .u64 t1297.1.Index, v1302, v1304]) rfl Try.isAgg39 Try.sizeOf39 (hst.bcs2 0 rfl))) ?_
                        refine ws_q (v := .agg #[.int .i64 z1246, .int .u64 z1247, .int .u64 z1248, v1250, v1254]) 13 [14, 15, 16] (by kernel_rfl) rfl rfl (yi_run ((wanted_eq rfl rfl rfl (congrArg Value.bool hc1330)).trans rfl) (fun w hst => x_loadN (cs := [.int .i64 z1246, .int .u64 z1247, .int .u64 z1248, v1250, v1254]) rfl Try.isAgg39 Try.sizeOf39 (hst.bcs6 0 rfl))) ?_
                        refine ws_e1 14 (by kernel_rfl) ?_
                        refine nxe [15, 16] (by kernel_rfl) rfl ((wanted_eq rfl rfl rfl (congrArg Value.bool hc1330)).trans rfl) ?_
                        clear hst
                        intro w hst
                        replace hst := hst.pull3
                        obtain ⟨css1331, hq1332, hst⟩ := hst.own_open
                        replace hst := hst.pull4
                        obtain ⟨css1333, hq1334, hst⟩ := hst.own_open
                        obtain ⟨t1335, ht1336, hm⟩ := bind_some hm
                        refine we_call rfl (x_call Try.call19 rfl (vs := [.agg #[.int .i64 t1297.1.E, .int .u64 t1297.1.Epoch, .int .u64 t1297.1.Index, v1302, v1304], .agg #[.int .i64 z1246, .int .u64 z1247, .int .u64 z1248, v1250, v1254]]) rfl) ?_
                        refine (ref11_SameReply_ref (hst.rdrow1 hq1332) (hst.rdrow0 hq1334) (f1252.mono (rd_weak _)) (f1256.mono (rd_weak _)) hst.to0 ht1336).mono ?_
                        rintro _ w1337 ⟨rfl, hst⟩
                        refine ⟨_, rfl, ?_⟩
                        replace hst := hst.of0
                        replace hst := hst.pull1
                        replace hst := hst.own_close hq1332
                        replace hst := hst.pull1
                        replace hst := hst.own_close hq1334
                        refine ws_next (pend' := []) hst (by kernel_rfl) pk_nil ?_
                        refine ws_q (v := .bool (!t1335)) 15 [16] (by kernel_rfl) rfl rfl (yi_run ((wanted_eq rfl rfl rfl (congrArg Value.bool hc1330)).trans rfl) (fun w hst => rfl)) ?_
                        refine ws_q (v := .bool (!t1335)) 16 [] (by kernel_rfl) rfl rfl (yi_run rfl (fun w hst => x_pick_f hc1330 rfl rfl)) ?_
                        refine ws_nil ?_
                        intro w hst
                        refine then_n ?_
                        refine bsplit (!t1335) (fun hc1340 => ?_) (fun hc1340 => ?_)
                        · skip
                          replace hm := bif_t hc1340 hm
                          refine wp_ift (congrArg Value.bool hc1340) ?_
                          refine wp_seq ?_
                          refine wp_region_lit ?_
                          refine wl_val (v := .bool false) rfl rfl rfl ?_
                          refine wl_nil ?_
                          refine then_n ?_
                          refine wp_ret ?_
                          refine then_r ?_
                          refine blk_r ?_
                          refine then_r ?_
                          refine then_r ?_
                          replace hm := inr_up hm hx1265
                          refine blk_r ?_
                          refine then_r ?_
                          obtain rfl := some_inj hm
                          refine post_ret (vs := [.bool false]) Try.results4 (rvs_cons (rv_tmp rfl) rvs_nil) ?_
                          exact ⟨_, rfl, hI0, hst.keep0⟩
                        · skip
                          replace hm := bif_f hc1340 hm
                          refine wp_iff (congrArg Value.bool hc1340) ?_
                          refine wp_skip ?_
                          refine then_n ?_
                          refine wp_region_lit ?_
                          refine wl_val (v := .agg #[.int .i64 t982.1.E, .int .u64 t982.1.Epoch, .int .u64 t982.1.Index, v987, v989]) rfl rfl (x_loadN (cs := [.int .i64 t982.1.E, .int .u64 t982.1.Epoch, .int .u64 t982.1.Index, v987, v989]) rfl Try.isAgg39 Try.sizeOf39 (hst.bcs5 0 rfl)) ?_
                          replace hst := hst.pull6
                          obtain ⟨w1341, hr1342, hst⟩ := hst.boxStore (P := Try.prog) (t := 39) (cs' := [.int .i64 t982.1.E, .int .u64 t982.1.Epoch, .int .u64 t982.1.Index, v987, v989]) 0 (.agg #[.int .i64 t982.1.E, .int .u64 t982.1.Epoch, .int .u64 t982.1.Index, v987, v989]) Try.sizeOf39 (Nat.le_of_ble_eq_true rfl) (ones_cons rfl (ones_cons rfl (ones_cons rfl (ones_cons (one_of_sliceV (ro_sliceV f1078)) (ones_cons (one_of_sliceV (ro_sliceV f1081)) ones_nil))))) (by kernel_rfl)
                          refine wl_unit rfl rfl (x_unit hr1342) ?_
                          refine wl_nil ?_
                          refine blk_n ?_
                          refine then_n ?_
                          refine wp_region_lit ?_
                          refine wl_val (v := .int .i64 z1257) rfl rfl rfl ?_
                          refine wl_val (v := .int .i64 (IntKind.i64.wrap (z1257 + (1:Int)))) rfl rfl rfl ?_
                          refine wl_val (v := .int .i64 (IntKind.i64.wrap (z1257 + (1:Int)))) rfl rfl rfl ?_
                          refine wl_nil ?_
                          refine then_n ?_
                          replace hst := hst.pull6
                          replace hst := hst.keep2
                          obtain rfl := some_inj hm
                          exact ⟨_, Nat.lt_succ_self _, _, t982.1.E, t982.1.Epoch, t982.1.Index, t982.1.Gots, t982.1.Scans, (IntKind.i64.wrap (z1257 + (1:Int))), v987, v989, _, hx1265, ((fr_upd (t := 2) (v := .pointer (some ⟨b675, 0, none⟩)) rfl).trans ((fr_upd (t := 9) (v := .pointer (some ⟨b993, 0, none⟩)) rfl).trans ((fr_upd (t := 10) (v := .int .i64 (IntKind.i64.wrap (z1257 + (1:Int)))) rfl).trans rfl))), hL1262, (f1078.mono ro_rd), (f1081.mono ro_rd), hst⟩
                  · skip
                    replace hm := bif_f hc1267 hm
                    refine wp_iff (congrArg Value.bool hc1267) ?_
                    refine wp_exit ?_
                    refine then_x ?_
                    refine then_x ?_
                    replace hm := inr_up hm hx1265
                    refine blk_x ?_
                    refine then_n ?_
                    refine wp_seq ?_
                    refine wp_region_lit ?_
                    refine wl_val (v := .bool true) rfl rfl rfl ?_
                    refine wl_nil ?_
                    refine then_n ?_
                    refine wp_ret ?_
                    obtain rfl := some_inj hm
                    refine post_ret (vs := [.bool true]) Try.results4 (rvs_cons (rv_tmp rfl) rvs_nil) ?_
                    exact ⟨_, rfl, hI0, hst.keep0⟩

end Go.Proofs.Ytijcfglomdfglaa
