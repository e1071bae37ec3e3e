/- The Go functions refine their models, part 0. -/
import Derived.Test.YtcnldkkdommmdaaPolicyNilT
set_option linter.unusedVariables false
set_option linter.unusedSimpArgs false
set_option maxRecDepth 100000
set_option maxHeartbeats 4000000
namespace Go.Proofs.Ytcnldkkdommmdaa
open Go Go.V
attribute [local irreducible] wpList Code.wp wpQuiet Calls bodyPost Oper.wp wpS Nx PendOK YieldsIn
theorem policy_Book_Revoke_ref {w0 w : World} {I : HL} {R : SP} {a0 : (Option policy_Book)} {p0 : Value} {a1 : Int} {a2 : Int}  (hst : St w0 w I [objO at_policy_Book p0 a0] R) {r : (Bool × (Option policy_Book))} (hm : policy_Book_Revoke a0 a1 a2 = some r) :
    Calls Try.prog 13 #[p0, .int .u64 a1, .int .u64 a2] w fun e w' => e = .returned (.bool r.1) ∧ St w0 w' I [objO at_policy_Book p0 r.2] R := by
  rcases a0 with _ | o0
  · skip
    obtain ⟨rfl, hst'⟩ := objO_none hst
    clear hst
    have hst := hst'
    clear hst'
    dsimp only [policy_Book_Revoke] at hm
    refine calls_start (args := [.pointer none, .int .u64 a1, .int .u64 a2]) Try.func13 rfl Try.ntmps13 (Nat.le_of_ble_eq_true rfl) ?_
    refine wp_seq ?_
    refine wp_region_lit ?_
    refine wl_val (v := .bool false) rfl rfl rfl ?_
    refine wl_nil ?_
    refine then_n ?_
    refine wp_seq ?_
    refine wp_seq ?_
    refine wp_region_lit ?_
    refine wl_val (v := .pointer none) rfl rfl rfl ?_
    refine wl_val (v := .bool true) rfl rfl (by kernel_rfl) ?_
    refine wl_nil ?_
    refine then_n ?_
    refine wp_ift rfl ?_
    refine wp_seq ?_
    refine wp_region_lit ?_
    refine wl_val (v := .bool false) rfl rfl rfl ?_
    refine wl_nil ?_
    refine then_n ?_
    refine wp_ret ?_
    refine then_r ?_
    replace hst := hst.objO_nil at_policy_Book
    obtain rfl := some_inj hm
    refine post_ret (vs := [.bool false]) Try.results13 (rvs_cons (rv_tmp rfl) rvs_nil) ?_
    exact ⟨rfl, hst.keep1⟩
  · skip
    replace hst := objO_get hst
    dsimp only [policy_Book_Revoke] at hm
    refine calls_start (args := [p0, .int .u64 a1, .int .u64 a2]) Try.func13 rfl Try.ntmps13 (Nat.le_of_ble_eq_true rfl) ?_
    refine wp_seq ?_
    refine wp_region_lit ?_
    refine wl_val (v := .bool false) rfl rfl rfl ?_
    refine wl_nil ?_
    refine then_n ?_
    refine wp_seq ?_
    refine wp_seq ?_
    refine wp_region_lit ?_
    refine wl_val (v := p0) rfl rfl rfl ?_
    obtain ⟨b87, v88, rfl, hst'⟩ := at_policy_Book_open hst
    clear hst
    have hst := hst'
    clear hst'
    refine wl_val (v := .bool false) rfl rfl (by kernel_rfl) ?_
    refine wl_nil ?_
    refine then_n ?_
    refine wp_iff rfl ?_
    refine wp_skip ?_
    refine then_n ?_
    refine wp_seq ?_
    refine wp_region_lit ?_
    refine wl_val (v := .bool false) rfl rfl rfl ?_
    refine wl_nil ?_
    refine then_n ?_
    refine wp_seq ?_
    refine wp_seq ?_
    refine wp_region_lit ?_
    refine wl_val (v := .pointer (some ⟨b87, 0, none⟩)) rfl rfl rfl ?_
    refine wl_val (v := .pointer (some ⟨b87, 0, none⟩)) rfl rfl rfl ?_
    refine wl_val (v := .pointer (some ⟨b87, 0, none⟩)) rfl rfl (x_field rfl Try.underlying64 rfl Try.sizeOf62 rfl) ?_
    refine wl_val (v := v88) rfl rfl (x_load rfl Try.isAgg62 (hst.bc0 rfl)) ?_
    refine wl_val (v := .int .i64 ((o0.l).length : Int)) rfl rfl (x_len rfl Try.underlying62 hst.sv1) ?_
    refine wl_val (v := .int .i64 (0:Int)) rfl rfl rfl ?_
    refine wl_nil ?_
    refine then_n ?_
    refine wp_block ?_
    replace hst := hst.pull1
    replace hst := hst.pull1
    replace hst := at_policy_Book_close (pv := .pointer (some ⟨b87, 0, none⟩)) (x := o0) hst rfl
    obtain ⟨n129, hm⟩ := loopO_some hm
    refine wp_loop_n (fun n a w => ∃ (z125 : policy_Book) (z126 : Int) (z127 : Bool) (σ128 : Nat → Value), loopN (policy_Book_Revoke_l0 o0 a1 a2) n (z125, z126, z127) = some r ∧ a = Fr 52 (upd (upd (upd (upd (upd (upd σ128 0 (.pointer (some ⟨b87, 0, none⟩))) 1 (.int .u64 a1)) 2 (.int .u64 a2)) 7 (.bool z127)) 15 (.int .i64 ((o0.l).length : Int))) 16 (.int .i64 z126)) ∧ St w0 w I [at_policy_Book (.pointer (some ⟨b87, 0, none⟩)) z125] R) n129 ⟨o0, (0:Int), false, _, hm, ((fr_upd (t := 0) (v := .pointer (some ⟨b87, 0, none⟩)) rfl).trans ((fr_upd (t := 1) (v := .int .u64 a1) rfl).trans ((fr_upd (t := 2) (v := .int .u64 a2) rfl).trans ((fr_upd (t := 7) (v := .bool false) rfl).trans ((fr_upd (t := 15) (v := .int .i64 ((o0.l).length : Int)) rfl).trans ((fr_upd (t := 16) (v := .int .i64 (0:Int)) rfl).trans rfl)))))), hst⟩ ?_
    rintro n135 _ w130 ⟨z125, z126, z127, σ128, hm, rfl, hst⟩
    obtain ⟨n132, y133, rfl, hm, hx134⟩ := loopN_some hm
    dsimp only [policy_Book_Revoke_l0] at hm
    refine wp_seq ?_
    refine wp_region_lit ?_
    refine wl_val (v := .bool (decide (z126 < ((o0.l).length : Int)))) rfl rfl rfl ?_
    refine wl_nil ?_
    refine then_n ?_
    refine wp_seq ?_
    refine bsplit (decide (z126 < ((o0.l).length : Int))) (fun hc136 => ?_) (fun hc136 => ?_)
    · skip
      replace hm := bif_t hc136 hm
      refine wp_ift (congrArg Value.bool hc136) ?_
      refine wp_skip ?_
      refine then_n ?_
      refine wp_seq ?_
      refine wp_block ?_
      refine wp_seq ?_
      refine wp_region_lit ?_
      refine wl_val (v := .int .i64 z126) rfl rfl rfl ?_
      refine wl_val (v := .int .i64 z126) rfl rfl rfl ?_
      refine wl_nil ?_
      refine then_n ?_
      refine wp_seq ?_
      refine wp_region_lit ?_
      refine wl_val (v := .pointer (some ⟨b87, 0, none⟩)) rfl rfl rfl ?_
      obtain ⟨b137, v138, e140, hst'⟩ := at_policy_Book_open hst
      clear hst
      have e140 := ptr_inj e140
      subst e140
      have hst := hst'
      clear hst'
      refine wl_val (v := .pointer (some ⟨b87, 0, none⟩)) rfl rfl rfl ?_
      refine wl_val (v := .pointer (some ⟨b87, 0, none⟩)) rfl rfl (x_field rfl Try.underlying64 rfl Try.sizeOf62 rfl) ?_
      refine wl_val (v := v138) rfl rfl (x_load rfl Try.isAgg62 (hst.bc0 rfl)) ?_
      refine wl_val (v := .int .i64 z126) rfl rfl rfl ?_
      obtain ⟨x141, hx142, hm⟩ := bind_some hm
      obtain ⟨h143, h144, hi145⟩ := geto_some hx142
      refine wl_val (v := .pointer (some (eAddr v138 (z126.toNat * 9 + 0)))) rfl rfl (x_index rfl rfl Try.underlying62 Try.sizeOf66 hst.sv1 h143 h144) ?_
      refine wl_val (v := .pointer (some (eAddr v138 (z126.toNat * 9 + 0)))) rfl rfl (x_field_e rfl Try.underlying66 rfl Try.sizeOf30 rfl) ?_
      refine wl_val (v := .pointer (some (eAddr v138 (z126.toNat * 9 + 0)))) rfl rfl (x_field_e rfl Try.underlying30 rfl Try.sizeOf27 rfl) ?_
      refine wl_val (v := .int .u64 x141.r.ID) rfl rfl (x_load rfl Try.isAgg27 (hst.ol1 hi145 (by rintro _ rfl; rfl))) ?_
      refine wl_val (v := .int .u64 a1) rfl rfl rfl ?_
      refine wl_val (v := .bool (x141.r.ID == a1)) rfl rfl rfl ?_
      refine wl_val (v := .bool (x141.r.ID == a1)) rfl rfl rfl ?_
      refine bsplit (x141.r.ID == a1) (fun hc146 => ?_) (fun hc146 => ?_)
      · skip
        replace hm := bif_t hc146 hm
        refine wl_val (v := .pointer (some ⟨b87, 0, none⟩)) ((wanted_eq rfl rfl rfl (congrArg Value.bool hc146)).trans rfl) rfl rfl ?_
        refine wl_val (v := .pointer (some ⟨b87, 0, none⟩)) ((wanted_eq rfl rfl rfl (congrArg Value.bool hc146)).trans rfl) rfl rfl ?_
        refine wl_val (v := .pointer (some ⟨b87, 0, none⟩)) ((wanted_eq rfl rfl rfl (congrArg Value.bool hc146)).trans rfl) rfl (x_field rfl Try.underlying64 rfl Try.sizeOf62 rfl) ?_
        refine wl_val (v := v138) ((wanted_eq rfl rfl rfl (congrArg Value.bool hc146)).trans rfl) rfl (x_load rfl Try.isAgg62 (hst.bc0 rfl)) ?_
        refine wl_val (v := .int .i64 z126) ((wanted_eq rfl rfl rfl (congrArg Value.bool hc146)).trans rfl) rfl rfl ?_
        refine wl_val (v := .pointer (some (eAddr v138 (z126.toNat * 9 + 0)))) ((wanted_eq rfl rfl rfl (congrArg Value.bool hc146)).trans rfl) rfl (x_index rfl rfl Try.underlying62 Try.sizeOf66 hst.sv1 h143 h144) ?_
        refine wl_val (v := .pointer (some (eAddr v138 (z126.toNat * 9 + 8)))) ((wanted_eq rfl rfl rfl (congrArg Value.bool hc146)).trans rfl) rfl (x_field_e rfl Try.underlying66 rfl Try.sizeOf27 rfl) ?_
        refine wl_val (v := .int .u64 x141.to_) ((wanted_eq rfl rfl rfl (congrArg Value.bool hc146)).trans rfl) rfl (x_load rfl Try.isAgg27 (hst.ol1 hi145 (by rintro _ rfl; rfl))) ?_
        refine wl_val (v := .bool (x141.to_ == (0:Int))) ((wanted_eq rfl rfl rfl (congrArg Value.bool hc146)).trans rfl) rfl rfl ?_
        refine wl_val (v := .bool (x141.to_ == (0:Int))) rfl rfl (x_pick_t hc146 rfl rfl) ?_
        refine wl_nil ?_
        refine then_n ?_
        refine bsplit (x141.to_ == (0:Int)) (fun hc147 => ?_) (fun hc147 => ?_)
        · skip
          replace hm := bif_t hc147 hm
          refine wp_ift (congrArg Value.bool hc147) ?_
          refine wp_region_lit ?_
          refine wl_val (v := .pointer (some ⟨b87, 0, none⟩)) rfl rfl rfl ?_
          refine wl_val (v := .pointer (some ⟨b87, 0, none⟩)) rfl rfl rfl ?_
          refine wl_val (v := .pointer (some ⟨b87, 0, none⟩)) rfl rfl (x_field rfl Try.underlying64 rfl Try.sizeOf62 rfl) ?_
          refine wl_val (v := v138) rfl rfl (x_load rfl Try.isAgg62 (hst.bc0 rfl)) ?_
          refine wl_val (v := .int .i64 z126) rfl rfl rfl ?_
          refine wl_val (v := .int .u64 a2) rfl rfl rfl ?_
          refine wl_val (v := .int .u64 (if (1:Int) > a2 then (1:Int) else a2)) rfl rfl (by kernel_rfl) ?_
          refine wl_val (v := .pointer (some (eAddr v138 (z126.toNat * 9 + 0)))) rfl rfl (x_index rfl rfl Try.underlying62 Try.sizeOf66 hst.sv1 h143 h144) ?_
          refine wl_val (v := .pointer (some (eAddr v138 (z126.toNat * 9 + 8)))) rfl rfl (x_field_e rfl Try.underlying66 rfl Try.sizeOf27 rfl) ?_
          replace hst := hst.pull1
          obtain ⟨w148, hr149, hst⟩ := hst.own_store (P := Try.prog) (t := 27) (y := ({ r := x141.r, from_ := x141.from_, to_ := (if (1:Int) > a2 then (1:Int) else a2) } : policy_line)) hi145 8 (.int .u64 (if (1:Int) > a2 then (1:Int) else a2)) Try.sizeOf27 (Nat.le_of_ble_eq_true rfl) (ones_cons rfl ones_nil) (by rintro _ rfl; rfl)
          have hi150 := set_get hi145 ({ r := x141.r, from_ := x141.from_, to_ := (if (1:Int) > a2 then (1:Int) else a2) } : policy_line)
          have h151 := set_lt h144 z126.toNat ({ r := x141.r, from_ := x141.from_, to_ := (if (1:Int) > a2 then (1:Int) else a2) } : policy_line)
          refine wl_unit rfl rfl (x_unit hr149) ?_
          refine wl_val (v := .bool true) rfl rfl rfl ?_
          refine wl_nil ?_
          refine blk_n ?_
          refine then_n ?_
          refine wp_region_lit ?_
          refine wl_val (v := .int .i64 (IntKind.i64.wrap (z126 + (1:Int)))) rfl rfl rfl ?_
          refine wl_val (v := .int .i64 (IntKind.i64.wrap (z126 + (1:Int)))) rfl rfl rfl ?_
          refine wl_nil ?_
          refine then_n ?_
          replace hst := hst.pull1
          replace hst := at_policy_Book_close (pv := .pointer (some ⟨b87, 0, none⟩)) (x := ({ l := (z125.l.set z126.toNat ({ r := x141.r, from_ := x141.from_, to_ := (if (1:Int) > a2 then (1:Int) else a2) } : policy_line)) } : policy_Book)) hst rfl
          replace hst := hst.keep1
          obtain rfl := some_inj hm
          exact ⟨_, Nat.lt_succ_self _, ({ l := (z125.l.set z126.toNat ({ r := x141.r, from_ := x141.from_, to_ := (if (1:Int) > a2 then (1:Int) else a2) } : policy_line)) } : policy_Book), (IntKind.i64.wrap (z126 + (1:Int))), true, _, hx134, ((fr_upd (t := 0) (v := .pointer (some ⟨b87, 0, none⟩)) rfl).trans ((fr_upd (t := 1) (v := .int .u64 a1) rfl).trans ((fr_upd (t := 2) (v := .int .u64 a2) rfl).trans ((fr_upd (t := 7) (v := .bool true) rfl).trans ((fr_upd (t := 15) (v := .int .i64 ((o0.l).length : Int)) rfl).trans ((fr_upd (t := 16) (v := .int .i64 (IntKind.i64.wrap (z126 + (1:Int)))) rfl).trans rfl)))))), hst⟩
        · skip
          replace hm := bif_f hc147 hm
          refine wp_iff (congrArg Value.bool hc147) ?_
          refine wp_skip ?_
          refine blk_n ?_
          refine then_n ?_
          refine wp_region_lit ?_
          refine wl_val (v := .int .i64 (IntKind.i64.wrap (z126 + (1:Int)))) rfl rfl rfl ?_
          refine wl_val (v := .int .i64 (IntKind.i64.wrap (z126 + (1:Int)))) rfl rfl rfl ?_
          refine wl_nil ?_
          refine then_n ?_
          replace hst := hst.pull1
          replace hst := hst.pull1
          replace hst := at_policy_Book_close (pv := .pointer (some ⟨b87, 0, none⟩)) (x := z125) hst rfl
          replace hst := hst.keep1
          obtain rfl := some_inj hm
          exact ⟨_, Nat.lt_succ_self _, z125, (IntKind.i64.wrap (z126 + (1:Int))), z127, _, hx134, ((fr_upd (t := 0) (v := .pointer (some ⟨b87, 0, none⟩)) rfl).trans ((fr_upd (t := 1) (v := .int .u64 a1) rfl).trans ((fr_upd (t := 2) (v := .int .u64 a2) rfl).trans ((fr_upd (t := 7) (v := .bool z127) rfl).trans ((fr_upd (t := 15) (v := .int .i64 ((o0.l).length : Int)) rfl).trans ((fr_upd (t := 16) (v := .int .i64 (IntKind.i64.wrap (z126 + (1:Int)))) rfl).trans rfl)))))), hst⟩
      · skip
        replace hm := bif_f hc146 hm
        refine wl_off ((wanted_eq rfl rfl rfl (congrArg Value.bool hc146)).trans rfl) rfl ?_
        refine wl_off ((wanted_eq rfl rfl rfl (congrArg Value.bool hc146)).trans rfl) rfl ?_
        refine wl_off ((wanted_eq rfl rfl rfl (congrArg Value.bool hc146)).trans rfl) rfl ?_
        refine wl_off ((wanted_eq rfl rfl rfl (congrArg Value.bool hc146)).trans rfl) rfl ?_
        refine wl_off ((wanted_eq rfl rfl rfl (congrArg Value.bool hc146)).trans rfl) rfl ?_
        refine wl_off ((wanted_eq rfl rfl rfl (congrArg Value.bool hc146)).trans rfl) rfl ?_
        refine wl_off ((wanted_eq rfl rfl rfl (congrArg Value.bool hc146)).trans rfl) rfl ?_
        refine wl_off ((wanted_eq rfl rfl rfl (congrArg Value.bool hc146)).trans rfl) rfl ?_
        refine wl_off ((wanted_eq rfl rfl rfl (congrArg Value.bool hc146)).trans rfl) rfl ?_
        refine wl_val (v := .bool false) rfl rfl (x_pick_f hc146 rfl rfl) ?_
        refine wl_nil ?_
        refine then_n ?_
        refine wp_iff rfl ?_
        refine wp_skip ?_
        refine blk_n ?_
        refine then_n ?_
        refine wp_region_lit ?_
        refine wl_val (v := .int .i64 (IntKind.i64.wrap (z126 + (1:Int)))) rfl rfl rfl ?_
        refine wl_val (v := .int .i64 (IntKind.i64.wrap (z126 + (1:Int)))) rfl rfl rfl ?_
        refine wl_nil ?_
        refine then_n ?_
        replace hst := hst.pull1
        replace hst := hst.pull1
        replace hst := at_policy_Book_close (pv := .pointer (some ⟨b87, 0, none⟩)) (x := z125) hst rfl
        replace hst := hst.keep1
        obtain rfl := some_inj hm
        exact ⟨_, Nat.lt_succ_self _, z125, (IntKind.i64.wrap (z126 + (1:Int))), z127, _, hx134, ((fr_upd (t := 0) (v := .pointer (some ⟨b87, 0, none⟩)) rfl).trans ((fr_upd (t := 1) (v := .int .u64 a1) rfl).trans ((fr_upd (t := 2) (v := .int .u64 a2) rfl).trans ((fr_upd (t := 7) (v := .bool z127) rfl).trans ((fr_upd (t := 15) (v := .int .i64 ((o0.l).length : Int)) rfl).trans ((fr_upd (t := 16) (v := .int .i64 (IntKind.i64.wrap (z126 + (1:Int)))) rfl).trans rfl)))))), hst⟩
    · skip
      replace hm := bif_f hc136 hm
      refine wp_iff (congrArg Value.bool hc136) ?_
      refine wp_exit ?_
      refine then_x ?_
      refine then_x ?_
      replace hm := inr_up hm hx134
      refine blk_x ?_
      refine then_n ?_
      refine wp_seq ?_
      refine wp_region_lit ?_
      refine wl_val (v := .bool z127) rfl rfl rfl ?_
      refine wl_val (v := .bool z127) rfl rfl rfl ?_
      refine wl_nil ?_
      refine then_n ?_
      refine wp_ret ?_
      replace hst := objO_some hst
      obtain rfl := some_inj hm
      refine post_ret (vs := [.bool z127]) Try.results13 (rvs_cons (rv_tmp rfl) rvs_nil) ?_
      exact ⟨rfl, hst.keep1⟩

theorem policy_Book_Grant_ref {w0 w : World} {I : HL} {R : SP} {a0 : (Option policy_Book)} {p0 : Value} {a1 : api_Rule} {a2 : Int}  (hst : St w0 w I [objO at_policy_Book p0 a0] R) {r : ((Option policy_Book))} (hm : policy_Book_Grant a0 a1 a2 = some r) :
    Calls Try.prog 10 #[p0, .agg #[.int .u64 a1.ID, .int .i64 a1.From, .int .i64 a1.To, .float .f64 a1.Lo, .float .f64 a1.Hi, .int .u64 a1.Authority, .int .i64 a1.Quota], .int .u64 a2] w fun e w' => e = .returned (.tuple #[]) ∧ St w0 w' I [objO at_policy_Book p0 r] R := by
  rcases a0 with _ | o0
  · skip
    obtain ⟨rfl, hst'⟩ := objO_none hst
    clear hst
    have hst := hst'
    clear hst'
    dsimp only [policy_Book_Grant] at hm
    refine calls_start (args := [.pointer none, .agg #[.int .u64 a1.ID, .int .i64 a1.From, .int .i64 a1.To, .float .f64 a1.Lo, .float .f64 a1.Hi, .int .u64 a1.Authority, .int .i64 a1.Quota], .int .u64 a2]) Try.func10 rfl Try.ntmps10 (Nat.le_of_ble_eq_true rfl) ?_
    refine wp_seq ?_
    refine wp_region_lit ?_
    obtain ⟨b175, w176, ew177, eb178, hst⟩ := hst.box [.int .u64 a1.ID, .int .i64 a1.From, .int .i64 a1.To, .float .f64 a1.Lo, .float .f64 a1.Hi, .int .u64 a1.Authority, .int .i64 a1.Quota] 30
    refine wl_run (v := .pointer (some ⟨b175, 0, none⟩)) (w' := w176) rfl rfl (x_al (by kernel_rfl) ew177 eb178) ?_
    refine wl_nil ?_
    refine then_n ?_
    refine wp_seq ?_
    refine wp_seq ?_
    refine wp_region_lit ?_
    refine wl_val (v := .pointer none) rfl rfl rfl ?_
    refine wl_val (v := .bool true) rfl rfl (by kernel_rfl) ?_
    refine wl_nil ?_
    refine then_n ?_
    refine wp_ift rfl ?_
    refine wp_ret ?_
    refine then_r ?_
    replace hst := hst.objO_nil at_policy_Book
    obtain rfl := some_inj hm
    refine post_ret (vs := []) Try.results10 rvs_nil ?_
    exact ⟨rfl, hst.keep1⟩
  · skip
    replace hst := objO_get hst
    dsimp only [policy_Book_Grant] at hm
    refine calls_start (args := [p0, .agg #[.int .u64 a1.ID, .int .i64 a1.From, .int .i64 a1.To, .float .f64 a1.Lo, .float .f64 a1.Hi, .int .u64 a1.Authority, .int .i64 a1.Quota], .int .u64 a2]) Try.func10 rfl Try.ntmps10 (Nat.le_of_ble_eq_true rfl) ?_
    refine wp_seq ?_
    refine wp_region_lit ?_
    obtain ⟨b180, w181, ew182, eb183, hst⟩ := hst.box [.int .u64 a1.ID, .int .i64 a1.From, .int .i64 a1.To, .float .f64 a1.Lo, .float .f64 a1.Hi, .int .u64 a1.Authority, .int .i64 a1.Quota] 30
    refine wl_run (v := .pointer (some ⟨b180, 0, none⟩)) (w' := w181) rfl rfl (x_al (by kernel_rfl) ew182 eb183) ?_
    refine wl_nil ?_
    refine then_n ?_
    refine wp_seq ?_
    refine wp_seq ?_
    refine wp_region_lit ?_
    refine wl_val (v := p0) rfl rfl rfl ?_
    replace hst := hst.pull1
    obtain ⟨b185, v186, rfl, hst'⟩ := at_policy_Book_open hst
    clear hst
    have hst := hst'
    clear hst'
    refine wl_val (v := .bool false) rfl rfl (by kernel_rfl) ?_
    refine wl_nil ?_
    refine then_n ?_
    refine wp_iff rfl ?_
    refine wp_skip ?_
    refine then_n ?_
    refine wp_seq ?_
    refine wp_region_lit ?_
    refine wl_val (v := .pointer (some ⟨b185, 0, none⟩)) rfl rfl rfl ?_
    refine wl_val (v := .pointer (some ⟨b180, 0, none⟩)) rfl rfl (x_field rfl Try.underlying30 rfl Try.sizeOf27 rfl) ?_
    refine wl_val (v := .int .u64 a1.ID) rfl rfl (x_load rfl Try.isAgg27 (hst.bc2 rfl)) ?_
    refine wl_val (v := .int .u64 a2) rfl rfl rfl ?_
    replace hst := hst.pull1
    replace hst := hst.pull1
    replace hst := at_policy_Book_close (pv := .pointer (some ⟨b185, 0, none⟩)) (x := o0) hst rfl
    replace hst := objO_some hst
    obtain ⟨t188, ht189, hm⟩ := bind_some hm
    refine wl_call rfl rfl (x_call Try.call13 rfl (vs := [.pointer (some ⟨b185, 0, none⟩), .int .u64 a1.ID, .int .u64 a2]) rfl) ?_
    refine (policy_Book_Revoke_ref hst.to1 ht189).mono ?_
    rintro _ w190 ⟨rfl, hst⟩
    refine ⟨_, rfl, ?_⟩
    replace hst := hst.of1
    rcases he194 : t188.2 with _ | y193
    · rw [he194] at hm; cases hm
    rw [he194] at hm hst; dsimp only at hm; replace hst := objO_get hst
    refine wl_nil ?_
    refine then_n ?_
    obtain ⟨b195, v196, e198, hst'⟩ := at_policy_Book_open hst
    clear hst
    have e198 := ptr_inj e198
    subst e198
    have hst := hst'
    clear hst'
    refine wp_region_St hst [(0, false), (1, false), (2, false), (3, false), (4, false), (5, false), (6, false), (7, false), (8, true), (9, true), (10, false), (11, false), (12, true)] Try.mixed (by kernel_rfl) (by decide) ?_
    refine ws_q (v := .pointer (some ⟨b185, 0, none⟩)) rfl rfl (yi_run rfl (fun w hst => rfl)) ?_
    refine ws_q (v := .pointer (some ⟨b185, 0, none⟩)) rfl rfl (yi_run rfl (fun w hst => rfl)) ?_
    refine ws_q (v := .pointer (some ⟨b185, 0, none⟩)) rfl rfl (yi_run rfl (fun w hst => rfl)) ?_
    refine ws_q (v := .pointer (some ⟨b185, 0, none⟩)) rfl rfl (yi_run rfl (fun w hst => x_field rfl Try.underlying64 rfl Try.sizeOf62 rfl)) ?_
    refine ws_q (v := v196) rfl rfl (yi_run rfl (fun w hst => x_load rfl Try.isAgg62 (hst.bc0 rfl))) ?_
    refine ws_q (v := .agg #[.int .u64 a1.ID, .int .i64 a1.From, .int .i64 a1.To, .float .f64 a1.Lo, .float .f64 a1.Hi, .int .u64 a1.Authority, .int .i64 a1.Quota]) rfl rfl (yi_run rfl (fun w hst => x_loadN (cs := [.int .u64 a1.ID, .int .i64 a1.From, .int .i64 a1.To, .float .f64 a1.Lo, .float .f64 a1.Hi, .int .u64 a1.Authority, .int .i64 a1.Quota]) rfl Try.isAgg30 Try.sizeOf30 (hst.bcs2 0 rfl))) ?_
    refine ws_q (v := .int .u64 a2) rfl rfl (yi_run rfl (fun w hst => rfl)) ?_
    refine ws_q (v := .agg #[.int .u64 a1.ID, .int .i64 a1.From, .int .i64 a1.To, .float .f64 a1.Lo, .float .f64 a1.Hi, .int .u64 a1.Authority, .int .i64 a1.Quota, .int .u64 a2, .int .u64 (0:Int)]) rfl rfl (yi_run rfl (fun w hst => by kernel_rfl)) ?_
    refine ws_e rfl rfl ?_
    clear hst
    intro w hst
    obtain ⟨b199, w200, ew201, eb202, hst⟩ := hst.lits (E := ty_policy_line) (xs := [({ r := a1, from_ := a2, to_ := (0:Int) } : policy_line)]) [[.int .u64 a1.ID, .int .i64 a1.From, .int .i64 a1.To, .float .f64 a1.Lo, .float .f64 a1.Hi, .int .u64 a1.Authority, .int .i64 a1.Quota, .int .u64 a2, .int .u64 (0:Int)]] 66 1 rfl (Reps.cons rfl Reps.nil)
    refine we_run (v := (.slice (some ⟨b199, 0, none⟩) 1 1)) (w' := w200) rfl (x_als (by kernel_rfl) ew201 eb202) ?_
    refine ws_next (pend' := [(4, v196), (3, .pointer (some ⟨b185, 0, none⟩)), (2, .pointer (some ⟨b185, 0, none⟩)), (1, .pointer (some ⟨b185, 0, none⟩)), (0, .pointer (some ⟨b185, 0, none⟩))]) hst (by kernel_rfl) (pk_cons rfl (yi_run rfl (fun w hst => x_load rfl Try.isAgg62 (hst.bc1 rfl))) (pk_cons rfl (yi_run rfl (fun w hst => x_field rfl Try.underlying64 rfl Try.sizeOf62 rfl)) (pk_cons rfl (yi_run rfl (fun w hst => rfl)) (pk_cons rfl (yi_run rfl (fun w hst => rfl)) (pk_cons rfl (yi_run rfl (fun w hst => rfl)) pk_nil))))) ?_
    refine ws_e rfl rfl ?_
    clear hst
    intro w hst
    obtain ⟨hg204, hm⟩ := gd_some hm
    replace hst := hst.pull2
    obtain ⟨v205, w206, hr207, hst⟩ := run_append elem_62 Try.underlying62 hst hst.src1 (room_of hg204 rfl) 62
    refine we_run (v := v205) (w' := w206) rfl (x_append rfl rfl hr207) ?_
    refine ws_next (pend' := [(0, .pointer (some ⟨b185, 0, none⟩))]) hst (by kernel_rfl) (pk_cons rfl (yi_run rfl (fun w hst => rfl)) pk_nil) ?_
    refine ws_q (v := .pointer (some ⟨b185, 0, none⟩)) rfl rfl (yi_run rfl (fun w hst => rfl)) ?_
    refine ws_q (v := .pointer (some ⟨b185, 0, none⟩)) rfl rfl (yi_run rfl (fun w hst => x_field rfl Try.underlying64 rfl Try.sizeOf62 rfl)) ?_
    refine ws_e rfl rfl ?_
    clear hst
    intro w hst
    replace hst := hst.pull2
    obtain ⟨w208, hr209, hst⟩ := hst.boxStore1 (P := Try.prog) (t := 62) (cs' := [v205]) 0 v205 (one_of_sliceV hst.sv1) Try.sizeOf62 rfl rfl
    refine we_unit rfl (x_unit hr209) ?_
    refine ws_next (pend' := []) hst (by kernel_rfl) pk_nil ?_
    refine ws_nil ?_
    intro w hst
    replace hst := hst.pull1
    replace hst := hst.pull1
    replace hst := at_policy_Book_close (pv := .pointer (some ⟨b185, 0, none⟩)) (x := ({ l := (y193.l ++ ([({ r := a1, from_ := a2, to_ := (0:Int) } : policy_line)])) } : policy_Book)) hst rfl
    replace hst := objO_some hst
    obtain rfl := some_inj hm
    refine post_end (vs := []) Try.results10 rvs_nil ?_
    exact ⟨rfl, hst.keep1⟩

theorem policy_Book_At_ref {w0 w : World} {I : HL} {R : SP} {a0 : (Option policy_Book)} {p0 : Value} {a1 : Int} {a2 : Int}  (hst : St w0 w I [objO at_policy_Book p0 a0] R) {r : (api_Rule × Bool)} (hm : policy_Book_At a0 a1 a2 = some r) :
    Calls Try.prog 11 #[p0, .int .u64 a1, .int .u64 a2] w fun e w' => e = .returned (.tuple #[.agg #[.int .u64 r.1.ID, .int .i64 r.1.From, .int .i64 r.1.To, .float .f64 r.1.Lo, .float .f64 r.1.Hi, .int .u64 r.1.Authority, .int .i64 r.1.Quota], .bool r.2]) ∧ St w0 w' I [objO at_policy_Book p0 a0] R := by
  rcases a0 with _ | o0
  · skip
    obtain ⟨rfl, hst'⟩ := objO_none hst
    clear hst
    have hst := hst'
    clear hst'
    dsimp only [policy_Book_At] at hm
    refine calls_start (args := [.pointer none, .int .u64 a1, .int .u64 a2]) Try.func11 rfl Try.ntmps11 (Nat.le_of_ble_eq_true rfl) ?_
    refine wp_seq ?_
    refine wp_region_lit ?_
    obtain ⟨b320, w321, ew322, eb323, hst⟩ := hst.box [.int .u64 (0:Int), .int .i64 (0:Int), .int .i64 (0:Int), .float .f64 (0:Nat), .float .f64 (0:Nat), .int .u64 (0:Int), .int .i64 (0:Int)] 30
    refine wl_run (v := .pointer (some ⟨b320, 0, none⟩)) (w' := w321) rfl rfl (x_al (by kernel_rfl) ew322 eb323) ?_
    refine wl_val (v := .bool false) rfl rfl rfl ?_
    refine wl_nil ?_
    refine then_n ?_
    refine wp_seq ?_
    refine wp_seq ?_
    refine wp_region_lit ?_
    refine wl_val (v := .pointer none) rfl rfl rfl ?_
    refine wl_val (v := .bool true) rfl rfl (by kernel_rfl) ?_
    refine wl_nil ?_
    refine then_n ?_
    refine wp_ift rfl ?_
    refine wp_seq ?_
    refine wp_region_lit ?_
    refine wl_val (v := .agg #[.int .u64 (0:Int), .int .i64 (0:Int), .int .i64 (0:Int), .float .f64 (0:Nat), .float .f64 (0:Nat), .int .u64 (0:Int), .int .i64 (0:Int)]) rfl rfl (by kernel_rfl) ?_
    obtain ⟨w325, hr326, hst⟩ := hst.boxStore (P := Try.prog) (t := 30) (cs' := [.int .u64 (0:Int), .int .i64 (0:Int), .int .i64 (0:Int), .float .f64 (0:Nat), .float .f64 (0:Nat), .int .u64 (0:Int), .int .i64 (0:Int)]) 0 (.agg #[.int .u64 (0:Int), .int .i64 (0:Int), .int .i64 (0:Int), .float .f64 (0:Nat), .float .f64 (0:Nat), .int .u64 (0:Int), .int .i64 (0:Int)]) Try.sizeOf30 (Nat.le_of_ble_eq_true rfl) (ones_cons rfl (ones_cons rfl (ones_cons rfl (ones_cons rfl (ones_cons rfl (ones_cons rfl (ones_cons rfl ones_nil))))))) rfl
    refine wl_unit rfl rfl (x_unit hr326) ?_
    refine wl_val (v := .bool false) rfl rfl rfl ?_
    refine wl_nil ?_
    refine then_n ?_
    refine wp_ret ?_
    refine then_r ?_
    replace hst := hst.objO_nil at_policy_Book
    obtain rfl := some_inj hm
    refine post_ret (vs := [.agg #[.int .u64 (0:Int), .int .i64 (0:Int), .int .i64 (0:Int), .float .f64 (0:Nat), .float .f64 (0:Nat), .int .u64 (0:Int), .int .i64 (0:Int)], .bool false]) Try.results11 (rvs_cons (rv_cell (cs := [.int .u64 (0:Int), .int .i64 (0:Int), .int .i64 (0:Int), .float .f64 (0:Nat), .float .f64 (0:Nat), .int .u64 (0:Int), .int .i64 (0:Int)]) rfl Try.isAgg30 Try.sizeOf30 (hst.bcs1 0 rfl)) (rvs_cons (rv_tmp rfl) rvs_nil)) ?_
    exact ⟨rfl, hst.keep1⟩
  · skip
    replace hst := objO_get hst
    dsimp only [policy_Book_At] at hm
    refine calls_start (args := [p0, .int .u64 a1, .int .u64 a2]) Try.func11 rfl Try.ntmps11 (Nat.le_of_ble_eq_true rfl) ?_
    refine wp_seq ?_
    refine wp_region_lit ?_
    obtain ⟨b327, w328, ew329, eb330, hst⟩ := hst.box [.int .u64 (0:Int), .int .i64 (0:Int), .int .i64 (0:Int), .float .f64 (0:Nat), .float .f64 (0:Nat), .int .u64 (0:Int), .int .i64 (0:Int)] 30
    refine wl_run (v := .pointer (some ⟨b327, 0, none⟩)) (w' := w328) rfl rfl (x_al (by kernel_rfl) ew329 eb330) ?_
    refine wl_val (v := .bool false) rfl rfl rfl ?_
    refine wl_nil ?_
    refine then_n ?_
    refine wp_seq ?_
    refine wp_seq ?_
    refine wp_region_lit ?_
    refine wl_val (v := p0) rfl rfl rfl ?_
    replace hst := hst.pull1
    obtain ⟨b332, v333, rfl, hst'⟩ := at_policy_Book_open hst
    clear hst
    have hst := hst'
    clear hst'
    refine wl_val (v := .bool false) rfl rfl (by kernel_rfl) ?_
    refine wl_nil ?_
    refine then_n ?_
    refine wp_iff rfl ?_
    refine wp_skip ?_
    refine then_n ?_
    refine wp_seq ?_
    refine wp_seq ?_
    refine wp_region_lit ?_
    refine wl_val (v := .pointer (some ⟨b332, 0, none⟩)) rfl rfl rfl ?_
    refine wl_val (v := .pointer (some ⟨b332, 0, none⟩)) rfl rfl rfl ?_
    refine wl_val (v := .pointer (some ⟨b332, 0, none⟩)) rfl rfl (x_field rfl Try.underlying64 rfl Try.sizeOf62 rfl) ?_
    refine wl_val (v := v333) rfl rfl (x_load rfl Try.isAgg62 (hst.bc0 rfl)) ?_
    refine wl_val (v := .int .i64 ((o0.l).length : Int)) rfl rfl (x_len rfl Try.underlying62 hst.sv1) ?_
    refine wl_val (v := .int .i64 (IntKind.i64.wrap (((o0.l).length : Int) - (1:Int)))) rfl rfl rfl ?_
    refine wl_val (v := .int .i64 (IntKind.i64.wrap (((o0.l).length : Int) - (1:Int)))) rfl rfl rfl ?_
    refine wl_nil ?_
    refine then_n ?_
    refine wp_block ?_
    replace hst := hst.pull1
    replace hst := hst.pull1
    replace hst := at_policy_Book_close (pv := .pointer (some ⟨b332, 0, none⟩)) (x := o0) hst rfl
    obtain ⟨n388, hm⟩ := loopO_some hm
    refine wp_loop_n (fun n a w => ∃ (z386 : Int) (σ387 : Nat → Value), loopN (policy_Book_At_l0 o0 a1 a2) n z386 = some r ∧ a = Fr 55 (upd (upd (upd (upd (upd σ387 0 (.pointer (some ⟨b332, 0, none⟩))) 1 (.int .u64 a1)) 2 (.int .u64 a2)) 6 (.pointer (some ⟨b327, 0, none⟩))) 8 (.int .i64 z386)) ∧ St w0 w I [at_policy_Book (.pointer (some ⟨b332, 0, none⟩)) o0, cells b327 [.int .u64 (0:Int), .int .i64 (0:Int), .int .i64 (0:Int), .float .f64 (0:Nat), .float .f64 (0:Nat), .int .u64 (0:Int), .int .i64 (0:Int)]] R) n388 ⟨(IntKind.i64.wrap (((o0.l).length : Int) - (1:Int))), _, hm, ((fr_upd (t := 0) (v := .pointer (some ⟨b332, 0, none⟩)) rfl).trans ((fr_upd (t := 1) (v := .int .u64 a1) rfl).trans ((fr_upd (t := 2) (v := .int .u64 a2) rfl).trans ((fr_upd (t := 6) (v := .pointer (some ⟨b327, 0, none⟩)) rfl).trans ((fr_upd (t := 8) (v := .int .i64 (IntKind.i64.wrap (((o0.l).length : Int) - (1:Int)))) rfl).trans rfl))))), hst⟩ ?_
    rintro n394 _ w389 ⟨z386, σ387, hm, rfl, hst⟩
    obtain ⟨n391, y392, rfl, hm, hx393⟩ := loopN_some hm
    dsimp only [policy_Book_At_l0] at hm
    refine wp_seq ?_
    refine wp_seq ?_
    refine wp_region_lit ?_
    refine wl_val (v := .int .i64 z386) rfl rfl rfl ?_
    refine wl_val (v := .bool (decide (z386 ≥ (0:Int)))) rfl rfl rfl ?_
    refine wl_nil ?_
    refine then_n ?_
    refine bsplit (decide (z386 ≥ (0:Int))) (fun hc395 => ?_) (fun hc395 => ?_)
    · skip
      replace hm := bif_t hc395 hm
      refine wp_ift (congrArg Value.bool hc395) ?_
      refine wp_skip ?_
      refine then_n ?_
      refine wp_seq ?_
      refine wp_block ?_
      refine wp_seq ?_
      refine wp_region_lit ?_
      refine wl_val (v := .pointer (some ⟨b332, 0, none⟩)) rfl rfl rfl ?_
      obtain ⟨b396, v397, e399, hst'⟩ := at_policy_Book_open hst
      clear hst
      have e399 := ptr_inj e399
      subst e399
      have hst := hst'
      clear hst'
      refine wl_val (v := .pointer (some ⟨b332, 0, none⟩)) rfl rfl rfl ?_
      refine wl_val (v := .pointer (some ⟨b332, 0, none⟩)) rfl rfl (x_field rfl Try.underlying64 rfl Try.sizeOf62 rfl) ?_
      refine wl_val (v := v397) rfl rfl (x_load rfl Try.isAgg62 (hst.bc0 rfl)) ?_
      refine wl_val (v := .int .i64 z386) rfl rfl rfl ?_
      obtain ⟨x400, hx401, hm⟩ := bind_some hm
      obtain ⟨h402, h403, hi404⟩ := geto_some hx401
      refine wl_val (v := .pointer (some (eAddr v397 (z386.toNat * 9 + 0)))) rfl rfl (x_index rfl rfl Try.underlying62 Try.sizeOf66 hst.sv1 h402 h403) ?_
      refine wl_val (v := .agg #[.int .u64 x400.r.ID, .int .i64 x400.r.From, .int .i64 x400.r.To, .float .f64 x400.r.Lo, .float .f64 x400.r.Hi, .int .u64 x400.r.Authority, .int .i64 x400.r.Quota, .int .u64 x400.from_, .int .u64 x400.to_]) rfl rfl (x_loadN (cs := [.int .u64 x400.r.ID, .int .i64 x400.r.From, .int .i64 x400.r.To, .float .f64 x400.r.Lo, .float .f64 x400.r.Hi, .int .u64 x400.r.Authority, .int .i64 x400.r.Quota, .int .u64 x400.from_, .int .u64 x400.to_]) rfl Try.isAgg66 Try.sizeOf66 (hst.olN1 hi404 0 (by rintro _ rfl; rfl))) ?_
      obtain ⟨b405, w406, ew407, eb408, hst⟩ := hst.box [.int .u64 (0:Int), .int .i64 (0:Int), .int .i64 (0:Int), .float .f64 (0:Nat), .float .f64 (0:Nat), .int .u64 (0:Int), .int .i64 (0:Int), .int .u64 (0:Int), .int .u64 (0:Int)] 66
      refine wl_run (v := .pointer (some ⟨b405, 0, none⟩)) (w' := w406) rfl rfl (x_al (by kernel_rfl) ew407 eb408) ?_
      obtain ⟨w410, hr411, hst⟩ := hst.boxStore (P := Try.prog) (t := 66) (cs' := [.int .u64 x400.r.ID, .int .i64 x400.r.From, .int .i64 x400.r.To, .float .f64 x400.r.Lo, .float .f64 x400.r.Hi, .int .u64 x400.r.Authority, .int .i64 x400.r.Quota, .int .u64 x400.from_, .int .u64 x400.to_]) 0 (.agg #[.int .u64 x400.r.ID, .int .i64 x400.r.From, .int .i64 x400.r.To, .float .f64 x400.r.Lo, .float .f64 x400.r.Hi, .int .u64 x400.r.Authority, .int .i64 x400.r.Quota, .int .u64 x400.from_, .int .u64 x400.to_]) Try.sizeOf66 (Nat.le_of_ble_eq_true rfl) (ones_cons rfl (ones_cons rfl (ones_cons rfl (ones_cons rfl (ones_cons rfl (ones_cons rfl (ones_cons rfl (ones_cons rfl (ones_cons rfl ones_nil))))))))) rfl
      refine wl_unit rfl rfl (x_unit hr411) ?_
      refine wl_nil ?_
      refine then_n ?_
      refine wp_seq ?_
      refine wp_region_lit ?_
      refine wl_val (v := .pointer (some ⟨b405, 0, none⟩)) rfl rfl (x_field rfl Try.underlying66 rfl Try.sizeOf30 rfl) ?_
      refine wl_val (v := .pointer (some ⟨b405, 0, none⟩)) rfl rfl (x_field rfl Try.underlying30 rfl Try.sizeOf27 rfl) ?_
      refine wl_val (v := .int .u64 x400.r.ID) rfl rfl (x_load rfl Try.isAgg27 (hst.bc0 rfl)) ?_
      refine wl_val (v := .int .u64 a1) rfl rfl rfl ?_
      refine wl_val (v := .bool (x400.r.ID == a1)) rfl rfl rfl ?_
      refine wl_val (v := .bool (x400.r.ID == a1)) rfl rfl rfl ?_
      refine bsplit (x400.r.ID == a1) (fun hc412 => ?_) (fun hc412 => ?_)
      · skip
        replace hm := bif_t hc412 hm
        refine wl_val (v := .pointer (some ⟨b405, 7, none⟩)) ((wanted_eq rfl rfl rfl (congrArg Value.bool hc412)).trans rfl) rfl (x_field rfl Try.underlying66 rfl Try.sizeOf27 rfl) ?_
        refine wl_val (v := .int .u64 x400.from_) ((wanted_eq rfl rfl rfl (congrArg Value.bool hc412)).trans rfl) rfl (x_load rfl Try.isAgg27 (hst.bc0 rfl)) ?_
        refine wl_val (v := .int .u64 a2) ((wanted_eq rfl rfl rfl (congrArg Value.bool hc412)).trans rfl) rfl rfl ?_
        refine wl_val (v := .bool (decide (x400.from_ ≤ a2))) ((wanted_eq rfl rfl rfl (congrArg Value.bool hc412)).trans rfl) rfl rfl ?_
        refine wl_val (v := .bool (decide (x400.from_ ≤ a2))) rfl rfl (x_pick_t hc412 rfl rfl) ?_
        refine wl_val (v := .bool (decide (x400.from_ ≤ a2))) rfl rfl rfl ?_
        refine bsplit (decide (x400.from_ ≤ a2)) (fun hc413 => ?_) (fun hc413 => ?_)
        · skip
          replace hm := bif_t hc413 hm
          refine wl_val (v := .pointer (some ⟨b405, 8, none⟩)) ((wanted_eq rfl rfl rfl (congrArg Value.bool hc413)).trans rfl) rfl (x_field rfl Try.underlying66 rfl Try.sizeOf27 rfl) ?_
          refine wl_val (v := .int .u64 x400.to_) ((wanted_eq rfl rfl rfl (congrArg Value.bool hc413)).trans rfl) rfl (x_load rfl Try.isAgg27 (hst.bc0 rfl)) ?_
          refine wl_val (v := .bool (x400.to_ == (0:Int))) ((wanted_eq rfl rfl rfl (congrArg Value.bool hc413)).trans rfl) rfl rfl ?_
          refine wl_val (v := .bool (x400.to_ == (0:Int))) ((wanted_eq rfl rfl rfl (congrArg Value.bool hc413)).trans rfl) rfl rfl ?_
          refine bsplit (x400.to_ == (0:Int)) (fun hc414 => ?_) (fun hc414 => ?_)
          · skip
            replace hm := bif_t hc414 hm
            refine wl_off ((wanted_eq rfl rfl rfl (congrArg Value.bool hc414)).trans rfl) rfl ?_
            refine wl_off ((wanted_eq rfl rfl rfl (congrArg Value.bool hc414)).trans rfl) rfl ?_
            refine wl_off ((wanted_eq rfl rfl rfl (congrArg Value.bool hc414)).trans rfl) rfl ?_
            refine wl_off ((wanted_eq rfl rfl rfl (congrArg Value.bool hc414)).trans rfl) rfl ?_
            refine wl_val (v := .bool true) ((wanted_eq rfl rfl rfl (congrArg Value.bool hc413)).trans rfl) rfl (x_pick_t hc414 rfl rfl) ?_
            refine wl_val (v := .bool true) rfl rfl (x_pick_t hc413 rfl rfl) ?_
            refine wl_nil ?_
            refine then_n ?_
            refine wp_ift rfl ?_
            refine wp_seq ?_
            refine wp_region_lit ?_
            refine wl_val (v := .pointer (some ⟨b405, 0, none⟩)) rfl rfl (x_field rfl Try.underlying66 rfl Try.sizeOf30 rfl) ?_
            refine wl_val (v := .agg #[.int .u64 x400.r.ID, .int .i64 x400.r.From, .int .i64 x400.r.To, .float .f64 x400.r.Lo, .float .f64 x400.r.Hi, .int .u64 x400.r.Authority, .int .i64 x400.r.Quota]) rfl rfl (x_loadN (cs := [.int .u64 x400.r.ID, .int .i64 x400.r.From, .int .i64 x400.r.To, .float .f64 x400.r.Lo, .float .f64 x400.r.Hi, .int .u64 x400.r.Authority, .int .i64 x400.r.Quota]) rfl Try.isAgg30 Try.sizeOf30 (hst.bcs0 0 rfl)) ?_
            replace hst := hst.pull3
            obtain ⟨w415, hr416, hst⟩ := hst.boxStore (P := Try.prog) (t := 30) (cs' := [.int .u64 x400.r.ID, .int .i64 x400.r.From, .int .i64 x400.r.To, .float .f64 x400.r.Lo, .float .f64 x400.r.Hi, .int .u64 x400.r.Authority, .int .i64 x400.r.Quota]) 0 (.agg #[.int .u64 x400.r.ID, .int .i64 x400.r.From, .int .i64 x400.r.To, .float .f64 x400.r.Lo, .float .f64 x400.r.Hi, .int .u64 x400.r.Authority, .int .i64 x400.r.Quota]) Try.sizeOf30 (Nat.le_of_ble_eq_true rfl) (ones_cons rfl (ones_cons rfl (ones_cons rfl (ones_cons rfl (ones_cons rfl (ones_cons rfl (ones_cons rfl ones_nil))))))) rfl
            refine wl_unit rfl rfl (x_unit hr416) ?_
            refine wl_val (v := .bool true) rfl rfl rfl ?_
            refine wl_nil ?_
            refine then_n ?_
            refine wp_ret ?_
            refine blk_r ?_
            refine then_r ?_
            refine then_r ?_
            replace hm := inr_up hm hx393
            refine blk_r ?_
            refine then_r ?_
            replace hst := hst.pull3
            replace hst := hst.pull3
            replace hst := at_policy_Book_close (pv := .pointer (some ⟨b332, 0, none⟩)) (x := o0) hst rfl
            replace hst := objO_some hst
            obtain rfl := some_inj hm
            refine post_ret (vs := [.agg #[.int .u64 x400.r.ID, .int .i64 x400.r.From, .int .i64 x400.r.To, .float .f64 x400.r.Lo, .float .f64 x400.r.Hi, .int .u64 x400.r.Authority, .int .i64 x400.r.Quota], .bool true]) Try.results11 (rvs_cons (rv_cell (cs := [.int .u64 x400.r.ID, .int .i64 x400.r.From, .int .i64 x400.r.To, .float .f64 x400.r.Lo, .float .f64 x400.r.Hi, .int .u64 x400.r.Authority, .int .i64 x400.r.Quota]) rfl Try.isAgg30 Try.sizeOf30 (hst.bcs1 0 rfl)) (rvs_cons (rv_tmp rfl) rvs_nil)) ?_
            exact ⟨rfl, hst.keep1⟩
          · skip
            replace hm := bif_f hc414 hm
            refine wl_val (v := .pointer (some ⟨b405, 8, none⟩)) ((wanted_eq rfl rfl rfl (congrArg Value.bool hc414)).trans rfl) rfl (x_field rfl Try.underlying66 rfl Try.sizeOf27 rfl) ?_
            refine wl_val (v := .int .u64 x400.to_) ((wanted_eq rfl rfl rfl (congrArg Value.bool hc414)).trans rfl) rfl (x_load rfl Try.isAgg27 (hst.bc0 rfl)) ?_
            refine wl_val (v := .int .u64 a2) ((wanted_eq rfl rfl rfl (congrArg Value.bool hc414)).trans rfl) rfl rfl ?_
            refine wl_val (v := .bool (decide (x400.to_ > a2))) ((wanted_eq rfl rfl rfl (congrArg Value.bool hc414)).trans rfl) rfl rfl ?_
            refine wl_val (v := .bool (decide (x400.to_ > a2))) ((wanted_eq rfl rfl rfl (congrArg Value.bool hc413)).trans rfl) rfl (x_pick_f hc414 rfl rfl) ?_
            refine wl_val (v := .bool (decide (x400.to_ > a2))) rfl rfl (x_pick_t hc413 rfl rfl) ?_
            refine wl_nil ?_
            refine then_n ?_
            refine bsplit (decide (x400.to_ > a2)) (fun hc417 => ?_) (fun hc417 => ?_)
            · skip
              replace hm := bif_t hc417 hm
              refine wp_ift (congrArg Value.bool hc417) ?_
              refine wp_seq ?_
              refine wp_region_lit ?_
              refine wl_val (v := .pointer (some ⟨b405, 0, none⟩)) rfl rfl (x_field rfl Try.underlying66 rfl Try.sizeOf30 rfl) ?_
              refine wl_val (v := .agg #[.int .u64 x400.r.ID, .int .i64 x400.r.From, .int .i64 x400.r.To, .float .f64 x400.r.Lo, .float .f64 x400.r.Hi, .int .u64 x400.r.Authority, .int .i64 x400.r.Quota]) rfl rfl (x_loadN (cs := [.int .u64 x400.r.ID, .int .i64 x400.r.From, .int .i64 x400.r.To, .float .f64 x400.r.Lo, .float .f64 x400.r.Hi, .int .u64 x400.r.Authority, .int .i64 x400.r.Quota]) rfl Try.isAgg30 Try.sizeOf30 (hst.bcs0 0 rfl)) ?_
              replace hst := hst.pull3
              obtain ⟨w418, hr419, hst⟩ := hst.boxStore (P := Try.prog) (t := 30) (cs' := [.int .u64 x400.r.ID, .int .i64 x400.r.From, .int .i64 x400.r.To, .float .f64 x400.r.Lo, .float .f64 x400.r.Hi, .int .u64 x400.r.Authority, .int .i64 x400.r.Quota]) 0 (.agg #[.int .u64 x400.r.ID, .int .i64 x400.r.From, .int .i64 x400.r.To, .float .f64 x400.r.Lo, .float .f64 x400.r.Hi, .int .u64 x400.r.Authority, .int .i64 x400.r.Quota]) Try.sizeOf30 (Nat.le_of_ble_eq_true rfl) (ones_cons rfl (ones_cons rfl (ones_cons rfl (ones_cons rfl (ones_cons rfl (ones_cons rfl (ones_cons rfl ones_nil))))))) rfl
              refine wl_unit rfl rfl (x_unit hr419) ?_
              refine wl_val (v := .bool true) rfl rfl rfl ?_
              refine wl_nil ?_
              refine then_n ?_
              refine wp_ret ?_
              refine blk_r ?_
              refine then_r ?_
              refine then_r ?_
              replace hm := inr_up hm hx393
              refine blk_r ?_
              refine then_r ?_
              replace hst := hst.pull3
              replace hst := hst.pull3
              replace hst := at_policy_Book_close (pv := .pointer (some ⟨b332, 0, none⟩)) (x := o0) hst rfl
              replace hst := objO_some hst
              obtain rfl := some_inj hm
              refine post_ret (vs := [.agg #[.int .u64 x400.r.ID, .int .i64 x400.r.From, .int .i64 x400.r.To, .float .f64 x400.r.Lo, .float .f64 x400.r.Hi, .int .u64 x400.r.Authority, .int .i64 x400.r.Quota], .bool true]) Try.results11 (rvs_cons (rv_cell (cs := [.int .u64 x400.r.ID, .int .i64 x400.r.From, .int .i64 x400.r.To, .float .f64 x400.r.Lo, .float .f64 x400.r.Hi, .int .u64 x400.r.Authority, .int .i64 x400.r.Quota]) rfl Try.isAgg30 Try.sizeOf30 (hst.bcs1 0 rfl)) (rvs_cons (rv_tmp rfl) rvs_nil)) ?_
              exact ⟨rfl, hst.keep1⟩
            · skip
              replace hm := bif_f hc417 hm
              refine wp_iff (congrArg Value.bool hc417) ?_
              refine wp_skip ?_
              refine blk_n ?_
              refine then_n ?_
              refine wp_region_lit ?_
              refine wl_val (v := .int .i64 z386) rfl rfl rfl ?_
              refine wl_val (v := .int .i64 (IntKind.i64.wrap (z386 - (1:Int)))) rfl rfl rfl ?_
              refine wl_val (v := .int .i64 (IntKind.i64.wrap (z386 - (1:Int)))) rfl rfl rfl ?_
              refine wl_nil ?_
              refine then_n ?_
              replace hst := hst.pull2
              replace hst := hst.pull2
              replace hst := at_policy_Book_close (pv := .pointer (some ⟨b332, 0, none⟩)) (x := o0) hst rfl
              replace hst := hst.pull2
              replace hst := hst.pull1
              replace hst := hst.keep2
              obtain rfl := some_inj hm
              exact ⟨_, Nat.lt_succ_self _, (IntKind.i64.wrap (z386 - (1:Int))), _, hx393, ((fr_upd (t := 0) (v := .pointer (some ⟨b332, 0, none⟩)) rfl).trans ((fr_upd (t := 1) (v := .int .u64 a1) rfl).trans ((fr_upd (t := 2) (v := .int .u64 a2) rfl).trans ((fr_upd (t := 6) (v := .pointer (some ⟨b327, 0, none⟩)) rfl).trans ((fr_upd (t := 8) (v := .int .i64 (IntKind.i64.wrap (z386 - (1:Int)))) rfl).trans rfl))))), hst⟩
        · skip
          replace hm := bif_f hc413 hm
          refine wl_off ((wanted_eq rfl rfl rfl (congrArg Value.bool hc413)).trans rfl) rfl ?_
          refine wl_off ((wanted_eq rfl rfl rfl (congrArg Value.bool hc413)).trans rfl) rfl ?_
          refine wl_off ((wanted_eq rfl rfl rfl (congrArg Value.bool hc413)).trans rfl) rfl ?_
          refine wl_off ((wanted_eq rfl rfl rfl (congrArg Value.bool hc413)).trans rfl) rfl ?_
          refine wl_off (wanted_undef rfl rfl rfl rfl) rfl ?_
          refine wl_off (wanted_undef rfl rfl rfl rfl) rfl ?_
          refine wl_off (wanted_undef rfl rfl rfl rfl) rfl ?_
          refine wl_off (wanted_undef rfl rfl rfl rfl) rfl ?_
          refine wl_off ((wanted_eq rfl rfl rfl (congrArg Value.bool hc413)).trans rfl) rfl ?_
          refine wl_val (v := .bool false) rfl rfl (x_pick_f hc413 rfl rfl) ?_
          refine wl_nil ?_
          refine then_n ?_
          refine wp_iff rfl ?_
          refine wp_skip ?_
          refine blk_n ?_
          refine then_n ?_
          refine wp_region_lit ?_
          refine wl_val (v := .int .i64 z386) rfl rfl rfl ?_
          refine wl_val (v := .int .i64 (IntKind.i64.wrap (z386 - (1:Int)))) rfl rfl rfl ?_
          refine wl_val (v := .int .i64 (IntKind.i64.wrap (z386 - (1:Int)))) rfl rfl rfl ?_
          refine wl_nil ?_
          refine then_n ?_
          replace hst := hst.pull2
          replace hst := hst.pull2
          replace hst := at_policy_Book_close (pv := .pointer (some ⟨b332, 0, none⟩)) (x := o0) hst rfl
          replace hst := hst.pull2
          replace hst := hst.pull1
          replace hst := hst.keep2
          obtain rfl := some_inj hm
          exact ⟨_, Nat.lt_succ_self _, (IntKind.i64.wrap (z386 - (1:Int))), _, hx393, ((fr_upd (t := 0) (v := .pointer (some ⟨b332, 0, none⟩)) rfl).trans ((fr_upd (t := 1) (v := .int .u64 a1) rfl).trans ((fr_upd (t := 2) (v := .int .u64 a2) rfl).trans ((fr_upd (t := 6) (v := .pointer (some ⟨b327, 0, none⟩)) rfl).trans ((fr_upd (t := 8) (v := .int .i64 (IntKind.i64.wrap (z386 - (1:Int)))) rfl).trans rfl))))), hst⟩
      · skip
        replace hm := bif_f hc412 hm
        refine wl_off ((wanted_eq rfl rfl rfl (congrArg Value.bool hc412)).trans rfl) rfl ?_
        refine wl_off ((wanted_eq rfl rfl rfl (congrArg Value.bool hc412)).trans rfl) rfl ?_
        refine wl_off ((wanted_eq rfl rfl rfl (congrArg Value.bool hc412)).trans rfl) rfl ?_
        refine wl_off ((wanted_eq rfl rfl rfl (congrArg Value.bool hc412)).trans rfl) rfl ?_
        refine wl_val (v := .bool false) rfl rfl (x_pick_f hc412 rfl rfl) ?_
        refine wl_val (v := .bool false) rfl rfl rfl ?_
        refine wl_off ((wanted_eq rfl rfl rfl rfl).trans rfl) rfl ?_
        refine wl_off ((wanted_eq rfl rfl rfl rfl).trans rfl) rfl ?_
        refine wl_off ((wanted_eq rfl rfl rfl rfl).trans rfl) rfl ?_
        refine wl_off ((wanted_eq rfl rfl rfl rfl).trans rfl) rfl ?_
        refine wl_off (wanted_undef rfl rfl rfl rfl) rfl ?_
        refine wl_off (wanted_undef rfl rfl rfl rfl) rfl ?_
        refine wl_off (wanted_undef rfl rfl rfl rfl) rfl ?_
        refine wl_off (wanted_undef rfl rfl rfl rfl) rfl ?_
        refine wl_off ((wanted_eq rfl rfl rfl rfl).trans rfl) rfl ?_
        refine wl_val (v := .bool false) rfl rfl (x_pick_f rfl rfl rfl) ?_
        refine wl_nil ?_
        refine then_n ?_
        refine wp_iff rfl ?_
        refine wp_skip ?_
        refine blk_n ?_
        refine then_n ?_
        refine wp_region_lit ?_
        refine wl_val (v := .int .i64 z386) rfl rfl rfl ?_
        refine wl_val (v := .int .i64 (IntKind.i64.wrap (z386 - (1:Int)))) rfl rfl rfl ?_
        refine wl_val (v := .int .i64 (IntKind.i64.wrap (z386 - (1:Int)))) rfl rfl rfl ?_
        refine wl_nil ?_
        refine then_n ?_
        replace hst := hst.pull2
        replace hst := hst.pull2
        replace hst := at_policy_Book_close (pv := .pointer (some ⟨b332, 0, none⟩)) (x := o0) hst rfl
        replace hst := hst.pull2
        replace hst := hst.pull1
        replace hst := hst.keep2
        obtain rfl := some_inj hm
        exact ⟨_, Nat.lt_succ_self _, (IntKind.i64.wrap (z386 - (1:Int))), _, hx393, ((fr_upd (t := 0) (v := .pointer (some ⟨b332, 0, none⟩)) rfl).trans ((fr_upd (t := 1) (v := .int .u64 a1) rfl).trans ((fr_upd (t := 2) (v := .int .u64 a2) rfl).trans ((fr_upd (t := 6) (v := .pointer (some ⟨b327, 0, none⟩)) rfl).trans ((fr_upd (t := 8) (v := .int .i64 (IntKind.i64.wrap (z386 - (1:Int)))) rfl).trans rfl))))), hst⟩
    · skip
      replace hm := bif_f hc395 hm
      refine wp_iff (congrArg Value.bool hc395) ?_
      refine wp_exit ?_
      refine then_x ?_
      refine then_x ?_
      replace hm := inr_up hm hx393
      refine blk_x ?_
      refine then_n ?_
      refine wp_seq ?_
      refine wp_region_lit ?_
      refine wl_val (v := .agg #[.int .u64 (0:Int), .int .i64 (0:Int), .int .i64 (0:Int), .float .f64 (0:Nat), .float .f64 (0:Nat), .int .u64 (0:Int), .int .i64 (0:Int)]) rfl rfl (by kernel_rfl) ?_
      replace hst := hst.pull1
      obtain ⟨w420, hr421, hst⟩ := hst.boxStore (P := Try.prog) (t := 30) (cs' := [.int .u64 (0:Int), .int .i64 (0:Int), .int .i64 (0:Int), .float .f64 (0:Nat), .float .f64 (0:Nat), .int .u64 (0:Int), .int .i64 (0:Int)]) 0 (.agg #[.int .u64 (0:Int), .int .i64 (0:Int), .int .i64 (0:Int), .float .f64 (0:Nat), .float .f64 (0:Nat), .int .u64 (0:Int), .int .i64 (0:Int)]) Try.sizeOf30 (Nat.le_of_ble_eq_true rfl) (ones_cons rfl (ones_cons rfl (ones_cons rfl (ones_cons rfl (ones_cons rfl (ones_cons rfl (ones_cons rfl ones_nil))))))) rfl
      refine wl_unit rfl rfl (x_unit hr421) ?_
      refine wl_val (v := .bool false) rfl rfl rfl ?_
      refine wl_nil ?_
      refine then_n ?_
      refine wp_ret ?_
      replace hst := hst.pull1
      replace hst := objO_some hst
      obtain rfl := some_inj hm
      refine post_ret (vs := [.agg #[.int .u64 (0:Int), .int .i64 (0:Int), .int .i64 (0:Int), .float .f64 (0:Nat), .float .f64 (0:Nat), .int .u64 (0:Int), .int .i64 (0:Int)], .bool false]) Try.results11 (rvs_cons (rv_cell (cs := [.int .u64 (0:Int), .int .i64 (0:Int), .int .i64 (0:Int), .float .f64 (0:Nat), .float .f64 (0:Nat), .int .u64 (0:Int), .int .i64 (0:Int)]) rfl Try.isAgg30 Try.sizeOf30 (hst.bcs1 0 rfl)) (rvs_cons (rv_tmp rfl) rvs_nil)) ?_
      exact ⟨rfl, hst.keep1⟩

theorem policy_New_ref {w0 w : World} {I : HL} {R : SP}   (hst : St w0 w I [] R) {r : (Option policy_Book)} (hm : policy_New = some r) :
    Calls Try.prog 9 #[] w fun e w' => ∃ (q0 : Value), e = .returned (q0) ∧ St w0 w' I [objO at_policy_Book q0 r] R := by
  unfold policy_New at hm
  refine calls_start (args := []) Try.func9 rfl Try.ntmps9 (Nat.le_of_ble_eq_true rfl) ?_
  refine wp_seq ?_
  refine wp_region_lit ?_
  refine wl_val (v := .pointer none) rfl rfl rfl ?_
  refine wl_nil ?_
  refine then_n ?_
  refine wp_seq ?_
  refine wp_region_lit ?_
  refine wl_val (v := .agg #[(.slice none 0 0)]) rfl rfl (by kernel_rfl) ?_
  obtain ⟨b443, w444, ew445, eb446, hst⟩ := hst.box [(.slice none 0 0)] 64
  refine wl_run (v := .pointer (some ⟨b443, 0, none⟩)) (w' := w444) rfl rfl (x_al (by kernel_rfl) ew445 eb446) ?_
  refine wl_val (v := .pointer (some ⟨b443, 0, none⟩)) rfl rfl rfl ?_
  refine wl_nil ?_
  refine then_n ?_
  refine wp_ret ?_
  replace hst := hst.own_nil ty_policy_line
  replace hst := hst.pull1
  replace hst := at_policy_Book_close (pv := .pointer (some ⟨b443, 0, none⟩)) (x := ({ l := [] } : policy_Book)) hst rfl
  replace hst := objO_some hst
  obtain rfl := some_inj hm
  refine post_ret (vs := [.pointer (some ⟨b443, 0, none⟩)]) Try.results9 (rvs_cons (rv_tmp rfl) rvs_nil) ?_
  exact ⟨.pointer (some ⟨b443, 0, none⟩), rfl, hst.keep1⟩

theorem law15_awake_ref {w0 w : World} {I : HL} {R : SP}   (hst : St w0 w I [] R) {r : (Bool)} (hm : law15_awake = some r) :
    Calls Try.prog 8 #[] w fun e w' => e = .returned (.bool r) ∧ St w0 w' I [] R := by
  unfold law15_awake at hm
  refine calls_start (args := []) Try.func8 rfl Try.ntmps8 (Nat.le_of_ble_eq_true rfl) ?_
  refine wp_seq ?_
  refine wp_region_lit ?_
  refine wl_val (v := .bool false) rfl rfl rfl ?_
  refine wl_nil ?_
  refine then_n ?_
  refine wp_seq ?_
  refine wp_region_lit ?_
  obtain ⟨t565, ht566, hm⟩ := bind_some hm
  refine wl_call rfl rfl (x_call Try.call9 rfl (vs := []) rfl) ?_
  refine (policy_New_ref hst.to0 ht566).mono ?_
  rintro _ w567 ⟨v570, rfl, hst⟩
  refine ⟨_, rfl, ?_⟩
  replace hst := hst.of1
  rcases he573 : t565 with _ | y572
  · skip
    rw [he573] at hm hst
    dsimp only at hm
    obtain ⟨rfl, hst'⟩ := objO_none hst
    clear hst
    have hst := hst'
    clear hst'
    refine wl_val (v := .pointer none) rfl rfl rfl ?_
    refine wl_nil ?_
    refine then_n ?_
    refine wp_seq ?_
    refine wp_region_lit ?_
    refine wl_val (v := .pointer none) rfl rfl rfl ?_
    refine wl_val (v := .agg #[.int .u64 (5:Int), .int .i64 (0:Int), .int .i64 (0:Int), .float .f64 (0:Nat), .float .f64 (0:Nat), .int .u64 (0:Int), .int .i64 (1:Int)]) rfl rfl (by kernel_rfl) ?_
    replace hst := hst.objO_nil at_policy_Book
    obtain ⟨t575, ht576, hm⟩ := bind_some hm
    refine wl_call rfl rfl (x_call Try.call10 rfl (vs := [.pointer none, .agg #[.int .u64 (5:Int), .int .i64 (0:Int), .int .i64 (0:Int), .float .f64 (0:Nat), .float .f64 (0:Nat), .int .u64 (0:Int), .int .i64 (1:Int)], .int .u64 (2:Int)]) rfl) ?_
    refine (policy_Book_Grant_ref hst.to1 ht576).mono ?_
    rintro _ w577 ⟨rfl, hst⟩
    refine ⟨_, rfl, ?_⟩
    replace hst := hst.of1
    refine wl_nil ?_
    refine then_n ?_
    refine wp_seq ?_
    refine wp_region_lit ?_
    refine wl_val (v := .pointer none) rfl rfl rfl ?_
    replace hst := hst.objO_nil at_policy_Book
    obtain ⟨t581, ht582, hm⟩ := bind_some hm
    refine wl_call rfl rfl (x_call Try.call13 rfl (vs := [.pointer none, .int .u64 (5:Int), .int .u64 (4:Int)]) rfl) ?_
    refine (policy_Book_Revoke_ref hst.to1 ht582).mono ?_
    rintro _ w583 ⟨rfl, hst⟩
    refine ⟨_, rfl, ?_⟩
    replace hst := hst.of1
    refine wl_nil ?_
    refine then_n ?_
    refine wp_seq ?_
    refine wp_region_lit ?_
    refine wl_val (v := .pointer none) rfl rfl rfl ?_
    replace hst := hst.objO_nil at_policy_Book
    obtain ⟨t587, ht588, hm⟩ := bind_some hm
    refine wl_call rfl rfl (x_call Try.call11 rfl (vs := [.pointer none, .int .u64 (5:Int), .int .u64 (1:Int)]) rfl) ?_
    refine (policy_Book_At_ref hst.to1 ht588).mono ?_
    rintro _ w589 ⟨rfl, hst⟩
    refine ⟨_, rfl, ?_⟩
    replace hst := hst.of1
    refine wl_val (v := .tuple #[.agg #[.int .u64 t587.1.ID, .int .i64 t587.1.From, .int .i64 t587.1.To, .float .f64 t587.1.Lo, .float .f64 t587.1.Hi, .int .u64 t587.1.Authority, .int .i64 t587.1.Quota], .bool t587.2]) rfl rfl rfl ?_
    refine wl_val (v := .agg #[.int .u64 t587.1.ID, .int .i64 t587.1.From, .int .i64 t587.1.To, .float .f64 t587.1.Lo, .float .f64 t587.1.Hi, .int .u64 t587.1.Authority, .int .i64 t587.1.Quota]) rfl rfl rfl ?_
    refine wl_val (v := .bool t587.2) rfl rfl rfl ?_
    obtain ⟨b592, w593, ew594, eb595, hst⟩ := hst.box [.int .u64 (0:Int), .int .i64 (0:Int), .int .i64 (0:Int), .float .f64 (0:Nat), .float .f64 (0:Nat), .int .u64 (0:Int), .int .i64 (0:Int)] 30
    refine wl_run (v := .pointer (some ⟨b592, 0, none⟩)) (w' := w593) rfl rfl (x_al (by kernel_rfl) ew594 eb595) ?_
    obtain ⟨w597, hr598, hst⟩ := hst.boxStore (P := Try.prog) (t := 30) (cs' := [.int .u64 t587.1.ID, .int .i64 t587.1.From, .int .i64 t587.1.To, .float .f64 t587.1.Lo, .float .f64 t587.1.Hi, .int .u64 t587.1.Authority, .int .i64 t587.1.Quota]) 0 (.agg #[.int .u64 t587.1.ID, .int .i64 t587.1.From, .int .i64 t587.1.To, .float .f64 t587.1.Lo, .float .f64 t587.1.Hi, .int .u64 t587.1.Authority, .int .i64 t587.1.Quota]) Try.sizeOf30 (Nat.le_of_ble_eq_true rfl) (ones_cons rfl (ones_cons rfl (ones_cons rfl (ones_cons rfl (ones_cons rfl (ones_cons rfl (ones_cons rfl ones_nil))))))) rfl
    refine wl_unit rfl rfl (x_unit hr598) ?_
    refine wl_val (v := .bool t587.2) rfl rfl rfl ?_
    refine wl_nil ?_
    refine then_n ?_
    refine wp_seq ?_
    refine wp_region_lit ?_
    refine wl_val (v := .pointer none) rfl rfl rfl ?_
    replace hst := hst.objO_nil at_policy_Book
    obtain ⟨t600, ht601, hm⟩ := bind_some hm
    refine wl_call rfl rfl (x_call Try.call11 rfl (vs := [.pointer none, .int .u64 (5:Int), .int .u64 (3:Int)]) rfl) ?_
    refine (policy_Book_At_ref hst.to1 ht601).mono ?_
    rintro _ w602 ⟨rfl, hst⟩
    refine ⟨_, rfl, ?_⟩
    replace hst := hst.of1
    refine wl_val (v := .tuple #[.agg #[.int .u64 t600.1.ID, .int .i64 t600.1.From, .int .i64 t600.1.To, .float .f64 t600.1.Lo, .float .f64 t600.1.Hi, .int .u64 t600.1.Authority, .int .i64 t600.1.Quota], .bool t600.2]) rfl rfl rfl ?_
    refine wl_val (v := .agg #[.int .u64 t600.1.ID, .int .i64 t600.1.From, .int .i64 t600.1.To, .float .f64 t600.1.Lo, .float .f64 t600.1.Hi, .int .u64 t600.1.Authority, .int .i64 t600.1.Quota]) rfl rfl rfl ?_
    refine wl_val (v := .bool t600.2) rfl rfl rfl ?_
    obtain ⟨b605, w606, ew607, eb608, hst⟩ := hst.box [.int .u64 (0:Int), .int .i64 (0:Int), .int .i64 (0:Int), .float .f64 (0:Nat), .float .f64 (0:Nat), .int .u64 (0:Int), .int .i64 (0:Int)] 30
    refine wl_run (v := .pointer (some ⟨b605, 0, none⟩)) (w' := w606) rfl rfl (x_al (by kernel_rfl) ew607 eb608) ?_
    obtain ⟨w610, hr611, hst⟩ := hst.boxStore (P := Try.prog) (t := 30) (cs' := [.int .u64 t600.1.ID, .int .i64 t600.1.From, .int .i64 t600.1.To, .float .f64 t600.1.Lo, .float .f64 t600.1.Hi, .int .u64 t600.1.Authority, .int .i64 t600.1.Quota]) 0 (.agg #[.int .u64 t600.1.ID, .int .i64 t600.1.From, .int .i64 t600.1.To, .float .f64 t600.1.Lo, .float .f64 t600.1.Hi, .int .u64 t600.1.Authority, .int .i64 t600.1.Quota]) Try.sizeOf30 (Nat.le_of_ble_eq_true rfl) (ones_cons rfl (ones_cons rfl (ones_cons rfl (ones_cons rfl (ones_cons rfl (ones_cons rfl (ones_cons rfl ones_nil))))))) rfl
    refine wl_unit rfl rfl (x_unit hr611) ?_
    refine wl_val (v := .bool t600.2) rfl rfl rfl ?_
    refine wl_nil ?_
    refine then_n ?_
    refine wp_seq ?_
    refine wp_region_lit ?_
    refine wl_val (v := .pointer none) rfl rfl rfl ?_
    replace hst := hst.objO_nil at_policy_Book
    obtain ⟨t613, ht614, hm⟩ := bind_some hm
    refine wl_call rfl rfl (x_call Try.call11 rfl (vs := [.pointer none, .int .u64 (5:Int), .int .u64 (4:Int)]) rfl) ?_
    refine (policy_Book_At_ref hst.to1 ht614).mono ?_
    rintro _ w615 ⟨rfl, hst⟩
    refine ⟨_, rfl, ?_⟩
    replace hst := hst.of1
    refine wl_val (v := .tuple #[.agg #[.int .u64 t613.1.ID, .int .i64 t613.1.From, .int .i64 t613.1.To, .float .f64 t613.1.Lo, .float .f64 t613.1.Hi, .int .u64 t613.1.Authority, .int .i64 t613.1.Quota], .bool t613.2]) rfl rfl rfl ?_
    refine wl_val (v := .agg #[.int .u64 t613.1.ID, .int .i64 t613.1.From, .int .i64 t613.1.To, .float .f64 t613.1.Lo, .float .f64 t613.1.Hi, .int .u64 t613.1.Authority, .int .i64 t613.1.Quota]) rfl rfl rfl ?_
    refine wl_val (v := .bool t613.2) rfl rfl rfl ?_
    obtain ⟨b618, w619, ew620, eb621, hst⟩ := hst.box [.int .u64 (0:Int), .int .i64 (0:Int), .int .i64 (0:Int), .float .f64 (0:Nat), .float .f64 (0:Nat), .int .u64 (0:Int), .int .i64 (0:Int)] 30
    refine wl_run (v := .pointer (some ⟨b618, 0, none⟩)) (w' := w619) rfl rfl (x_al (by kernel_rfl) ew620 eb621) ?_
    obtain ⟨w623, hr624, hst⟩ := hst.boxStore (P := Try.prog) (t := 30) (cs' := [.int .u64 t613.1.ID, .int .i64 t613.1.From, .int .i64 t613.1.To, .float .f64 t613.1.Lo, .float .f64 t613.1.Hi, .int .u64 t613.1.Authority, .int .i64 t613.1.Quota]) 0 (.agg #[.int .u64 t613.1.ID, .int .i64 t613.1.From, .int .i64 t613.1.To, .float .f64 t613.1.Lo, .float .f64 t613.1.Hi, .int .u64 t613.1.Authority, .int .i64 t613.1.Quota]) Try.sizeOf30 (Nat.le_of_ble_eq_true rfl) (ones_cons rfl (ones_cons rfl (ones_cons rfl (ones_cons rfl (ones_cons rfl (ones_cons rfl (ones_cons rfl ones_nil))))))) rfl
    refine wl_unit rfl rfl (x_unit hr624) ?_
    refine wl_val (v := .bool t613.2) rfl rfl rfl ?_
    refine wl_nil ?_
    refine then_n ?_
    refine wp_seq ?_
    refine wp_region_lit ?_
    refine wl_val (v := .bool t587.2) rfl rfl rfl ?_
    refine wl_val (v := .bool (!t587.2)) rfl rfl rfl ?_
    refine wl_val (v := .bool (!t587.2)) rfl rfl rfl ?_
    refine bsplit (!t587.2) (fun hc625 => ?_) (fun hc625 => ?_)
    · skip
      replace hm := bif_t hc625 hm
      refine wl_val (v := .bool t600.2) ((wanted_eq rfl rfl rfl (congrArg Value.bool hc625)).trans rfl) rfl rfl ?_
      refine wl_val (v := .bool t600.2) rfl rfl (x_pick_t hc625 rfl rfl) ?_
      refine wl_val (v := .bool t600.2) rfl rfl rfl ?_
      refine bsplit t600.2 (fun hc626 => ?_) (fun hc626 => ?_)
      · skip
        replace hm := bif_t hc626 hm
        refine wl_val (v := .pointer (some ⟨b605, 6, none⟩)) ((wanted_eq rfl rfl rfl (congrArg Value.bool hc626)).trans rfl) rfl (x_field rfl Try.underlying30 rfl Try.sizeOf3 rfl) ?_
        refine wl_val (v := .int .i64 t600.1.Quota) ((wanted_eq rfl rfl rfl (congrArg Value.bool hc626)).trans rfl) rfl (x_load rfl Try.isAgg3 (hst.bc2 rfl)) ?_
        refine wl_val (v := .bool (t600.1.Quota == (1:Int))) ((wanted_eq rfl rfl rfl (congrArg Value.bool hc626)).trans rfl) rfl rfl ?_
        refine wl_val (v := .bool (t600.1.Quota == (1:Int))) rfl rfl (x_pick_t hc626 rfl rfl) ?_
        refine wl_val (v := .bool (t600.1.Quota == (1:Int))) rfl rfl rfl ?_
        refine bsplit (t600.1.Quota == (1:Int)) (fun hc627 => ?_) (fun hc627 => ?_)
        · skip
          replace hm := bif_t hc627 hm
          refine wl_val (v := .bool t613.2) ((wanted_eq rfl rfl rfl (congrArg Value.bool hc627)).trans rfl) rfl rfl ?_
          refine wl_val (v := .bool (!t613.2)) ((wanted_eq rfl rfl rfl (congrArg Value.bool hc627)).trans rfl) rfl rfl ?_
          refine wl_val (v := .bool (!t613.2)) rfl rfl (x_pick_t hc627 rfl rfl) ?_
          refine wl_val (v := .bool (!t613.2)) rfl rfl rfl ?_
          refine wl_nil ?_
          refine then_n ?_
          refine wp_ret ?_
          obtain rfl := some_inj hm
          refine post_ret (vs := [.bool (!t613.2)]) Try.results8 (rvs_cons (rv_tmp rfl) rvs_nil) ?_
          exact ⟨rfl, hst.keep0⟩
        · skip
          replace hm := bif_f hc627 hm
          refine wl_off ((wanted_eq rfl rfl rfl (congrArg Value.bool hc627)).trans rfl) rfl ?_
          refine wl_off ((wanted_eq rfl rfl rfl (congrArg Value.bool hc627)).trans rfl) rfl ?_
          refine wl_val (v := .bool false) rfl rfl (x_pick_f hc627 rfl rfl) ?_
          refine wl_val (v := .bool false) rfl rfl rfl ?_
          refine wl_nil ?_
          refine then_n ?_
          refine wp_ret ?_
          obtain rfl := some_inj hm
          refine post_ret (vs := [.bool false]) Try.results8 (rvs_cons (rv_tmp rfl) rvs_nil) ?_
          exact ⟨rfl, hst.keep0⟩
      · skip
        replace hm := bif_f hc626 hm
        refine wl_off ((wanted_eq rfl rfl rfl (congrArg Value.bool hc626)).trans rfl) rfl ?_
        refine wl_off ((wanted_eq rfl rfl rfl (congrArg Value.bool hc626)).trans rfl) rfl ?_
        refine wl_off ((wanted_eq rfl rfl rfl (congrArg Value.bool hc626)).trans rfl) rfl ?_
        refine wl_val (v := .bool false) rfl rfl (x_pick_f hc626 rfl rfl) ?_
        refine wl_val (v := .bool false) rfl rfl rfl ?_
        refine wl_off ((wanted_eq rfl rfl rfl rfl).trans rfl) rfl ?_
        refine wl_off ((wanted_eq rfl rfl rfl rfl).trans rfl) rfl ?_
        refine wl_val (v := .bool false) rfl rfl (x_pick_f rfl rfl rfl) ?_
        refine wl_val (v := .bool false) rfl rfl rfl ?_
        refine wl_nil ?_
        refine then_n ?_
        refine wp_ret ?_
        obtain rfl := some_inj hm
        refine post_ret (vs := [.bool false]) Try.results8 (rvs_cons (rv_tmp rfl) rvs_nil) ?_
        exact ⟨rfl, hst.keep0⟩
    · skip
      replace hm := bif_f hc625 hm
      refine wl_off ((wanted_eq rfl rfl rfl (congrArg Value.bool hc625)).trans rfl) rfl ?_
      refine wl_val (v := .bool false) rfl rfl (x_pick_f hc625 rfl rfl) ?_
      refine wl_val (v := .bool false) rfl rfl rfl ?_
      refine wl_off ((wanted_eq rfl rfl rfl rfl).trans rfl) rfl ?_
      refine wl_off ((wanted_eq rfl rfl rfl rfl).trans rfl) rfl ?_
      refine wl_off ((wanted_eq rfl rfl rfl rfl).trans rfl) rfl ?_
      refine wl_val (v := .bool false) rfl rfl (x_pick_f rfl rfl rfl) ?_
      refine wl_val (v := .bool false) rfl rfl rfl ?_
      refine wl_off ((wanted_eq rfl rfl rfl rfl).trans rfl) rfl ?_
      refine wl_off ((wanted_eq rfl rfl rfl rfl).trans rfl) rfl ?_
      refine wl_val (v := .bool false) rfl rfl (x_pick_f rfl rfl rfl) ?_
      refine wl_val (v := .bool false) rfl rfl rfl ?_
      refine wl_nil ?_
      refine then_n ?_
      refine wp_ret ?_
      obtain rfl := some_inj hm
      refine post_ret (vs := [.bool false]) Try.results8 (rvs_cons (rv_tmp rfl) rvs_nil) ?_
      exact ⟨rfl, hst.keep0⟩
  · skip
    rw [he573] at hm hst
    dsimp only at hm
    replace hst := objO_get hst
    refine wl_val (v := v570) rfl rfl rfl ?_
    refine wl_nil ?_
    refine then_n ?_
    refine wp_seq ?_
    refine wp_region_lit ?_
    refine wl_val (v := v570) rfl rfl rfl ?_
    refine wl_val (v := .agg #[.int .u64 (5:Int), .int .i64 (0:Int), .int .i64 (0:Int), .float .f64 (0:Nat), .float .f64 (0:Nat), .int .u64 (0:Int), .int .i64 (1:Int)]) rfl rfl (by kernel_rfl) ?_
    replace hst := objO_some hst
    obtain ⟨t628, ht629, hm⟩ := bind_some hm
    refine wl_call rfl rfl (x_call Try.call10 rfl (vs := [v570, .agg #[.int .u64 (5:Int), .int .i64 (0:Int), .int .i64 (0:Int), .float .f64 (0:Nat), .float .f64 (0:Nat), .int .u64 (0:Int), .int .i64 (1:Int)], .int .u64 (2:Int)]) rfl) ?_
    refine (policy_Book_Grant_ref hst.to1 ht629).mono ?_
    rintro _ w630 ⟨rfl, hst⟩
    refine ⟨_, rfl, ?_⟩
    replace hst := hst.of1
    rcases he634 : t628 with _ | y633
    · rw [he634] at hm; cases hm
    rw [he634] at hm hst; dsimp only at hm; replace hst := objO_get hst
    refine wl_nil ?_
    refine then_n ?_
    refine wp_seq ?_
    refine wp_region_lit ?_
    refine wl_val (v := v570) rfl rfl rfl ?_
    replace hst := objO_some hst
    obtain ⟨t635, ht636, hm⟩ := bind_some hm
    refine wl_call rfl rfl (x_call Try.call13 rfl (vs := [v570, .int .u64 (5:Int), .int .u64 (4:Int)]) rfl) ?_
    refine (policy_Book_Revoke_ref hst.to1 ht636).mono ?_
    rintro _ w637 ⟨rfl, hst⟩
    refine ⟨_, rfl, ?_⟩
    replace hst := hst.of1
    rcases he641 : t635.2 with _ | y640
    · rw [he641] at hm; cases hm
    rw [he641] at hm hst; dsimp only at hm; replace hst := objO_get hst
    refine wl_nil ?_
    refine then_n ?_
    refine wp_seq ?_
    refine wp_region_lit ?_
    refine wl_val (v := v570) rfl rfl rfl ?_
    replace hst := objO_some hst
    obtain ⟨t642, ht643, hm⟩ := bind_some hm
    refine wl_call rfl rfl (x_call Try.call11 rfl (vs := [v570, .int .u64 (5:Int), .int .u64 (1:Int)]) rfl) ?_
    refine (policy_Book_At_ref hst.to1 ht643).mono ?_
    rintro _ w644 ⟨rfl, hst⟩
    refine ⟨_, rfl, ?_⟩
    replace hst := hst.of1
    replace hst := objO_get hst
    refine wl_val (v := .tuple #[.agg #[.int .u64 t642.1.ID, .int .i64 t642.1.From, .int .i64 t642.1.To, .float .f64 t642.1.Lo, .float .f64 t642.1.Hi, .int .u64 t642.1.Authority, .int .i64 t642.1.Quota], .bool t642.2]) rfl rfl rfl ?_
    refine wl_val (v := .agg #[.int .u64 t642.1.ID, .int .i64 t642.1.From, .int .i64 t642.1.To, .float .f64 t642.1.Lo, .float .f64 t642.1.Hi, .int .u64 t642.1.Authority, .int .i64 t642.1.Quota]) rfl rfl rfl ?_
    refine wl_val (v := .bool t642.2) rfl rfl rfl ?_
    obtain ⟨b647, w648, ew649, eb650, hst⟩ := hst.box [.int .u64 (0:Int), .int .i64 (0:Int), .int .i64 (0:Int), .float .f64 (0:Nat), .float .f64 (0:Nat), .int .u64 (0:Int), .int .i64 (0:Int)] 30
    refine wl_run (v := .pointer (some ⟨b647, 0, none⟩)) (w' := w648) rfl rfl (x_al (by kernel_rfl) ew649 eb650) ?_
    obtain ⟨w652, hr653, hst⟩ := hst.boxStore (P := Try.prog) (t := 30) (cs' := [.int .u64 t642.1.ID, .int .i64 t642.1.From, .int .i64 t642.1.To, .float .f64 t642.1.Lo, .float .f64 t642.1.Hi, .int .u64 t642.1.Authority, .int .i64 t642.1.Quota]) 0 (.agg #[.int .u64 t642.1.ID, .int .i64 t642.1.From, .int .i64 t642.1.To, .float .f64 t642.1.Lo, .float .f64 t642.1.Hi, .int .u64 t642.1.Authority, .int .i64 t642.1.Quota]) Try.sizeOf30 (Nat.le_of_ble_eq_true rfl) (ones_cons rfl (ones_cons rfl (ones_cons rfl (ones_cons rfl (ones_cons rfl (ones_cons rfl (ones_cons rfl ones_nil))))))) rfl
    refine wl_unit rfl rfl (x_unit hr653) ?_
    refine wl_val (v := .bool t642.2) rfl rfl rfl ?_
    refine wl_nil ?_
    refine then_n ?_
    refine wp_seq ?_
    refine wp_region_lit ?_
    refine wl_val (v := v570) rfl rfl rfl ?_
    replace hst := hst.pull1
    replace hst := objO_some hst
    obtain ⟨t654, ht655, hm⟩ := bind_some hm
    refine wl_call rfl rfl (x_call Try.call11 rfl (vs := [v570, .int .u64 (5:Int), .int .u64 (3:Int)]) rfl) ?_
    refine (policy_Book_At_ref hst.to1 ht655).mono ?_
    rintro _ w656 ⟨rfl, hst⟩
    refine ⟨_, rfl, ?_⟩
    replace hst := hst.of1
    replace hst := objO_get hst
    refine wl_val (v := .tuple #[.agg #[.int .u64 t654.1.ID, .int .i64 t654.1.From, .int .i64 t654.1.To, .float .f64 t654.1.Lo, .float .f64 t654.1.Hi, .int .u64 t654.1.Authority, .int .i64 t654.1.Quota], .bool t654.2]) rfl rfl rfl ?_
    refine wl_val (v := .agg #[.int .u64 t654.1.ID, .int .i64 t654.1.From, .int .i64 t654.1.To, .float .f64 t654.1.Lo, .float .f64 t654.1.Hi, .int .u64 t654.1.Authority, .int .i64 t654.1.Quota]) rfl rfl rfl ?_
    refine wl_val (v := .bool t654.2) rfl rfl rfl ?_
    obtain ⟨b659, w660, ew661, eb662, hst⟩ := hst.box [.int .u64 (0:Int), .int .i64 (0:Int), .int .i64 (0:Int), .float .f64 (0:Nat), .float .f64 (0:Nat), .int .u64 (0:Int), .int .i64 (0:Int)] 30
    refine wl_run (v := .pointer (some ⟨b659, 0, none⟩)) (w' := w660) rfl rfl (x_al (by kernel_rfl) ew661 eb662) ?_
    obtain ⟨w664, hr665, hst⟩ := hst.boxStore (P := Try.prog) (t := 30) (cs' := [.int .u64 t654.1.ID, .int .i64 t654.1.From, .int .i64 t654.1.To, .float .f64 t654.1.Lo, .float .f64 t654.1.Hi, .int .u64 t654.1.Authority, .int .i64 t654.1.Quota]) 0 (.agg #[.int .u64 t654.1.ID, .int .i64 t654.1.From, .int .i64 t654.1.To, .float .f64 t654.1.Lo, .float .f64 t654.1.Hi, .int .u64 t654.1.Authority, .int .i64 t654.1.Quota]) Try.sizeOf30 (Nat.le_of_ble_eq_true rfl) (ones_cons rfl (ones_cons rfl (ones_cons rfl (ones_cons rfl (ones_cons rfl (ones_cons rfl (ones_cons rfl ones_nil))))))) rfl
    refine wl_unit rfl rfl (x_unit hr665) ?_
    refine wl_val (v := .bool t654.2) rfl rfl rfl ?_
    refine wl_nil ?_
    refine then_n ?_
    refine wp_seq ?_
    refine wp_region_lit ?_
    refine wl_val (v := v570) rfl rfl rfl ?_
    replace hst := hst.pull1
    replace hst := objO_some hst
    obtain ⟨t666, ht667, hm⟩ := bind_some hm
    refine wl_call rfl rfl (x_call Try.call11 rfl (vs := [v570, .int .u64 (5:Int), .int .u64 (4:Int)]) rfl) ?_
    refine (policy_Book_At_ref hst.to1 ht667).mono ?_
    rintro _ w668 ⟨rfl, hst⟩
    refine ⟨_, rfl, ?_⟩
    replace hst := hst.of1
    replace hst := objO_get hst
    refine wl_val (v := .tuple #[.agg #[.int .u64 t666.1.ID, .int .i64 t666.1.From, .int .i64 t666.1.To, .float .f64 t666.1.Lo, .float .f64 t666.1.Hi, .int .u64 t666.1.Authority, .int .i64 t666.1.Quota], .bool t666.2]) rfl rfl rfl ?_
    refine wl_val (v := .agg #[.int .u64 t666.1.ID, .int .i64 t666.1.From, .int .i64 t666.1.To, .float .f64 t666.1.Lo, .float .f64 t666.1.Hi, .int .u64 t666.1.Authority, .int .i64 t666.1.Quota]) rfl rfl rfl ?_
    refine wl_val (v := .bool t666.2) rfl rfl rfl ?_
    obtain ⟨b671, w672, ew673, eb674, hst⟩ := hst.box [.int .u64 (0:Int), .int .i64 (0:Int), .int .i64 (0:Int), .float .f64 (0:Nat), .float .f64 (0:Nat), .int .u64 (0:Int), .int .i64 (0:Int)] 30
    refine wl_run (v := .pointer (some ⟨b671, 0, none⟩)) (w' := w672) rfl rfl (x_al (by kernel_rfl) ew673 eb674) ?_
    obtain ⟨w676, hr677, hst⟩ := hst.boxStore (P := Try.prog) (t := 30) (cs' := [.int .u64 t666.1.ID, .int .i64 t666.1.From, .int .i64 t666.1.To, .float .f64 t666.1.Lo, .float .f64 t666.1.Hi, .int .u64 t666.1.Authority, .int .i64 t666.1.Quota]) 0 (.agg #[.int .u64 t666.1.ID, .int .i64 t666.1.From, .int .i64 t666.1.To, .float .f64 t666.1.Lo, .float .f64 t666.1.Hi, .int .u64 t666.1.Authority, .int .i64 t666.1.Quota]) Try.sizeOf30 (Nat.le_of_ble_eq_true rfl) (ones_cons rfl (ones_cons rfl (ones_cons rfl (ones_cons rfl (ones_cons rfl (ones_cons rfl (ones_cons rfl ones_nil))))))) rfl
    refine wl_unit rfl rfl (x_unit hr677) ?_
    refine wl_val (v := .bool t666.2) rfl rfl rfl ?_
    refine wl_nil ?_
    refine then_n ?_
    refine wp_seq ?_
    refine wp_region_lit ?_
    refine wl_val (v := .bool t642.2) rfl rfl rfl ?_
    refine wl_val (v := .bool (!t642.2)) rfl rfl rfl ?_
    refine wl_val (v := .bool (!t642.2)) rfl rfl rfl ?_
    refine bsplit (!t642.2) (fun hc678 => ?_) (fun hc678 => ?_)
    · skip
      replace hm := bif_t hc678 hm
      refine wl_val (v := .bool t654.2) ((wanted_eq rfl rfl rfl (congrArg Value.bool hc678)).trans rfl) rfl rfl ?_
      refine wl_val (v := .bool t654.2) rfl rfl (x_pick_t hc678 rfl rfl) ?_
      refine wl_val (v := .bool t654.2) rfl rfl rfl ?_
      refine bsplit t654.2 (fun hc679 => ?_) (fun hc679 => ?_)
      · skip
        replace hm := bif_t hc679 hm
        refine wl_val (v := .pointer (some ⟨b659, 6, none⟩)) ((wanted_eq rfl rfl rfl (congrArg Value.bool hc679)).trans rfl) rfl (x_field rfl Try.underlying30 rfl Try.sizeOf3 rfl) ?_
        refine wl_val (v := .int .i64 t654.1.Quota) ((wanted_eq rfl rfl rfl (congrArg Value.bool hc679)).trans rfl) rfl (x_load rfl Try.isAgg3 (hst.bc2 rfl)) ?_
        refine wl_val (v := .bool (t654.1.Quota == (1:Int))) ((wanted_eq rfl rfl rfl (congrArg Value.bool hc679)).trans rfl) rfl rfl ?_
        refine wl_val (v := .bool (t654.1.Quota == (1:Int))) rfl rfl (x_pick_t hc679 rfl rfl) ?_
        refine wl_val (v := .bool (t654.1.Quota == (1:Int))) rfl rfl rfl ?_
        refine bsplit (t654.1.Quota == (1:Int)) (fun hc680 => ?_) (fun hc680 => ?_)
        · skip
          replace hm := bif_t hc680 hm
          refine wl_val (v := .bool t666.2) ((wanted_eq rfl rfl rfl (congrArg Value.bool hc680)).trans rfl) rfl rfl ?_
          refine wl_val (v := .bool (!t666.2)) ((wanted_eq rfl rfl rfl (congrArg Value.bool hc680)).trans rfl) rfl rfl ?_
          refine wl_val (v := .bool (!t666.2)) rfl rfl (x_pick_t hc680 rfl rfl) ?_
          refine wl_val (v := .bool (!t666.2)) rfl rfl rfl ?_
          refine wl_nil ?_
          refine then_n ?_
          refine wp_ret ?_
          obtain rfl := some_inj hm
          refine post_ret (vs := [.bool (!t666.2)]) Try.results8 (rvs_cons (rv_tmp rfl) rvs_nil) ?_
          exact ⟨rfl, hst.keep0⟩
        · skip
          replace hm := bif_f hc680 hm
          refine wl_off ((wanted_eq rfl rfl rfl (congrArg Value.bool hc680)).trans rfl) rfl ?_
          refine wl_off ((wanted_eq rfl rfl rfl (congrArg Value.bool hc680)).trans rfl) rfl ?_
          refine wl_val (v := .bool false) rfl rfl (x_pick_f hc680 rfl rfl) ?_
          refine wl_val (v := .bool false) rfl rfl rfl ?_
          refine wl_nil ?_
          refine then_n ?_
          refine wp_ret ?_
          obtain rfl := some_inj hm
          refine post_ret (vs := [.bool false]) Try.results8 (rvs_cons (rv_tmp rfl) rvs_nil) ?_
          exact ⟨rfl, hst.keep0⟩
      · skip
        replace hm := bif_f hc679 hm
        refine wl_off ((wanted_eq rfl rfl rfl (congrArg Value.bool hc679)).trans rfl) rfl ?_
        refine wl_off ((wanted_eq rfl rfl rfl (congrArg Value.bool hc679)).trans rfl) rfl ?_
        refine wl_off ((wanted_eq rfl rfl rfl (congrArg Value.bool hc679)).trans rfl) rfl ?_
        refine wl_val (v := .bool false) rfl rfl (x_pick_f hc679 rfl rfl) ?_
        refine wl_val (v := .bool false) rfl rfl rfl ?_
        refine wl_off ((wanted_eq rfl rfl rfl rfl).trans rfl) rfl ?_
        refine wl_off ((wanted_eq rfl rfl rfl rfl).trans rfl) rfl ?_
        refine wl_val (v := .bool false) rfl rfl (x_pick_f rfl rfl rfl) ?_
        refine wl_val (v := .bool false) rfl rfl rfl ?_
        refine wl_nil ?_
        refine then_n ?_
        refine wp_ret ?_
        obtain rfl := some_inj hm
        refine post_ret (vs := [.bool false]) Try.results8 (rvs_cons (rv_tmp rfl) rvs_nil) ?_
        exact ⟨rfl, hst.keep0⟩
    · skip
      replace hm := bif_f hc678 hm
      refine wl_off ((wanted_eq rfl rfl rfl (congrArg Value.bool hc678)).trans rfl) rfl ?_
      refine wl_val (v := .bool false) rfl rfl (x_pick_f hc678 rfl rfl) ?_
      refine wl_val (v := .bool false) rfl rfl rfl ?_
      refine wl_off ((wanted_eq rfl rfl rfl rfl).trans rfl) rfl ?_
      refine wl_off ((wanted_eq rfl rfl rfl rfl).trans rfl) rfl ?_
      refine wl_off ((wanted_eq rfl rfl rfl rfl).trans rfl) rfl ?_
      refine wl_val (v := .bool false) rfl rfl (x_pick_f rfl rfl rfl) ?_
      refine wl_val (v := .bool false) rfl rfl rfl ?_
      refine wl_off ((wanted_eq rfl rfl rfl rfl).trans rfl) rfl ?_
      refine wl_off ((wanted_eq rfl rfl rfl rfl).trans rfl) rfl ?_
      refine wl_val (v := .bool false) rfl rfl (x_pick_f rfl rfl rfl) ?_
      refine wl_val (v := .bool false) rfl rfl rfl ?_
      refine wl_nil ?_
      refine then_n ?_
      refine wp_ret ?_
      obtain rfl := some_inj hm
      refine post_ret (vs := [.bool false]) Try.results8 (rvs_cons (rv_tmp rfl) rvs_nil) ?_
      exact ⟨rfl, hst.keep0⟩

theorem policy_Book_Len_ref {w0 w : World} {I : HL} {R : SP} {a0 : (Option policy_Book)} {p0 : Value}  (hst : St w0 w I [objO at_policy_Book p0 a0] R) {r : (Int)} (hm : policy_Book_Len a0 = some r) :
    Calls Try.prog 14 #[p0] w fun e w' => e = .returned (.int .i64 r) ∧ St w0 w' I [objO at_policy_Book p0 a0] R := by
  rcases a0 with _ | o0
  · skip
    obtain ⟨rfl, hst'⟩ := objO_none hst
    clear hst
    have hst := hst'
    clear hst'
    dsimp only [policy_Book_Len] at hm
    refine calls_start (args := [.pointer none]) Try.func14 rfl Try.ntmps14 (Nat.le_of_ble_eq_true rfl) ?_
    refine wp_seq ?_
    refine wp_region_lit ?_
    refine wl_val (v := .int .i64 (0:Int)) rfl rfl rfl ?_
    refine wl_nil ?_
    refine then_n ?_
    refine wp_seq ?_
    refine wp_seq ?_
    refine wp_region_lit ?_
    refine wl_val (v := .pointer none) rfl rfl rfl ?_
    refine wl_val (v := .bool true) rfl rfl (by kernel_rfl) ?_
    refine wl_nil ?_
    refine then_n ?_
    refine wp_ift rfl ?_
    refine wp_seq ?_
    refine wp_region_lit ?_
    refine wl_val (v := .int .i64 (0:Int)) rfl rfl rfl ?_
    refine wl_nil ?_
    refine then_n ?_
    refine wp_ret ?_
    refine then_r ?_
    replace hst := hst.objO_nil at_policy_Book
    obtain rfl := some_inj hm
    refine post_ret (vs := [.int .i64 (0:Int)]) Try.results14 (rvs_cons (rv_tmp rfl) rvs_nil) ?_
    exact ⟨rfl, hst.keep1⟩
  · skip
    replace hst := objO_get hst
    dsimp only [policy_Book_Len] at hm
    refine calls_start (args := [p0]) Try.func14 rfl Try.ntmps14 (Nat.le_of_ble_eq_true rfl) ?_
    refine wp_seq ?_
    refine wp_region_lit ?_
    refine wl_val (v := .int .i64 (0:Int)) rfl rfl rfl ?_
    refine wl_nil ?_
    refine then_n ?_
    refine wp_seq ?_
    refine wp_seq ?_
    refine wp_region_lit ?_
    refine wl_val (v := p0) rfl rfl rfl ?_
    obtain ⟨b700, v701, rfl, hst'⟩ := at_policy_Book_open hst
    clear hst
    have hst := hst'
    clear hst'
    refine wl_val (v := .bool false) rfl rfl (by kernel_rfl) ?_
    refine wl_nil ?_
    refine then_n ?_
    refine wp_iff rfl ?_
    refine wp_skip ?_
    refine then_n ?_
    refine wp_seq ?_
    refine wp_region_lit ?_
    refine wl_val (v := .pointer (some ⟨b700, 0, none⟩)) rfl rfl rfl ?_
    refine wl_val (v := .pointer (some ⟨b700, 0, none⟩)) rfl rfl rfl ?_
    refine wl_val (v := .pointer (some ⟨b700, 0, none⟩)) rfl rfl (x_field rfl Try.underlying64 rfl Try.sizeOf62 rfl) ?_
    refine wl_val (v := v701) rfl rfl (x_load rfl Try.isAgg62 (hst.bc0 rfl)) ?_
    refine wl_val (v := .int .i64 ((o0.l).length : Int)) rfl rfl (x_len rfl Try.underlying62 hst.sv1) ?_
    refine wl_val (v := .int .i64 ((o0.l).length : Int)) rfl rfl rfl ?_
    refine wl_nil ?_
    refine then_n ?_
    refine wp_ret ?_
    replace hst := hst.pull1
    replace hst := hst.pull1
    replace hst := at_policy_Book_close (pv := .pointer (some ⟨b700, 0, none⟩)) (x := o0) hst rfl
    replace hst := objO_some hst
    obtain rfl := some_inj hm
    refine post_ret (vs := [.int .i64 ((o0.l).length : Int)]) Try.results14 (rvs_cons (rv_tmp rfl) rvs_nil) ?_
    exact ⟨rfl, hst.keep1⟩

theorem law15_PolicyNil_ref {w0 w : World} {I : HL} {R : SP} {a0 : api_Rule} {a1 : Int} {a2 : Int}  (hst : St w0 w I [] R) {r : (Bool)} (hm : law15_PolicyNil a0 a1 a2 = some r) :
    Calls Try.prog 4 #[.agg #[.int .u64 a0.ID, .int .i64 a0.From, .int .i64 a0.To, .float .f64 a0.Lo, .float .f64 a0.Hi, .int .u64 a0.Authority, .int .i64 a0.Quota], .int .u64 a1, .int .u64 a2] w fun e w' => e = .returned (.bool r) ∧ St w0 w' I [] R := by
  unfold law15_PolicyNil at hm
  refine calls_start (args := [.agg #[.int .u64 a0.ID, .int .i64 a0.From, .int .i64 a0.To, .float .f64 a0.Lo, .float .f64 a0.Hi, .int .u64 a0.Authority, .int .i64 a0.Quota], .int .u64 a1, .int .u64 a2]) Try.func4 rfl Try.ntmps4 (Nat.le_of_ble_eq_true rfl) ?_
  refine wp_seq ?_
  refine wp_region_lit ?_
  obtain ⟨b709, w710, ew711, eb712, hst⟩ := hst.box [.int .u64 a0.ID, .int .i64 a0.From, .int .i64 a0.To, .float .f64 a0.Lo, .float .f64 a0.Hi, .int .u64 a0.Authority, .int .i64 a0.Quota] 30
  refine wl_run (v := .pointer (some ⟨b709, 0, none⟩)) (w' := w710) rfl rfl (x_al (by kernel_rfl) ew711 eb712) ?_
  refine wl_val (v := .bool false) rfl rfl rfl ?_
  refine wl_nil ?_
  refine then_n ?_
  refine wp_seq ?_
  refine wp_region_lit ?_
  refine wl_val (v := .pointer none) rfl rfl rfl ?_
  refine wl_nil ?_
  refine then_n ?_
  refine wp_seq ?_
  refine wp_region_lit ?_
  refine wl_val (v := .pointer none) rfl rfl rfl ?_
  refine wl_val (v := .agg #[.int .u64 a0.ID, .int .i64 a0.From, .int .i64 a0.To, .float .f64 a0.Lo, .float .f64 a0.Hi, .int .u64 a0.Authority, .int .i64 a0.Quota]) rfl rfl (x_loadN (cs := [.int .u64 a0.ID, .int .i64 a0.From, .int .i64 a0.To, .float .f64 a0.Lo, .float .f64 a0.Hi, .int .u64 a0.Authority, .int .i64 a0.Quota]) rfl Try.isAgg30 Try.sizeOf30 (hst.bcs0 0 rfl)) ?_
  refine wl_val (v := .int .u64 a2) rfl rfl rfl ?_
  replace hst := hst.objO_nil at_policy_Book
  obtain ⟨t715, ht716, hm⟩ := bind_some hm
  refine wl_call rfl rfl (x_call Try.call10 rfl (vs := [.pointer none, .agg #[.int .u64 a0.ID, .int .i64 a0.From, .int .i64 a0.To, .float .f64 a0.Lo, .float .f64 a0.Hi, .int .u64 a0.Authority, .int .i64 a0.Quota], .int .u64 a2]) rfl) ?_
  refine (policy_Book_Grant_ref hst.to1 ht716).mono ?_
  rintro _ w717 ⟨rfl, hst⟩
  refine ⟨_, rfl, ?_⟩
  replace hst := hst.of1
  refine wl_nil ?_
  refine then_n ?_
  refine wp_seq ?_
  refine wp_region_lit ?_
  refine wl_val (v := .pointer none) rfl rfl rfl ?_
  refine wl_val (v := .int .u64 a1) rfl rfl rfl ?_
  refine wl_val (v := .int .u64 a2) rfl rfl rfl ?_
  replace hst := hst.objO_nil at_policy_Book
  obtain ⟨t721, ht722, hm⟩ := bind_some hm
  refine wl_call rfl rfl (x_call Try.call11 rfl (vs := [.pointer none, .int .u64 a1, .int .u64 a2]) rfl) ?_
  refine (policy_Book_At_ref hst.to1 ht722).mono ?_
  rintro _ w723 ⟨rfl, hst⟩
  refine ⟨_, rfl, ?_⟩
  replace hst := hst.of1
  refine wl_val (v := .tuple #[.agg #[.int .u64 t721.1.ID, .int .i64 t721.1.From, .int .i64 t721.1.To, .float .f64 t721.1.Lo, .float .f64 t721.1.Hi, .int .u64 t721.1.Authority, .int .i64 t721.1.Quota], .bool t721.2]) rfl rfl rfl ?_
  refine wl_val (v := .agg #[.int .u64 t721.1.ID, .int .i64 t721.1.From, .int .i64 t721.1.To, .float .f64 t721.1.Lo, .float .f64 t721.1.Hi, .int .u64 t721.1.Authority, .int .i64 t721.1.Quota]) rfl rfl rfl ?_
  refine wl_val (v := .bool t721.2) rfl rfl rfl ?_
  obtain ⟨b726, w727, ew728, eb729, hst⟩ := hst.box [.int .u64 (0:Int), .int .i64 (0:Int), .int .i64 (0:Int), .float .f64 (0:Nat), .float .f64 (0:Nat), .int .u64 (0:Int), .int .i64 (0:Int)] 30
  refine wl_run (v := .pointer (some ⟨b726, 0, none⟩)) (w' := w727) rfl rfl (x_al (by kernel_rfl) ew728 eb729) ?_
  obtain ⟨w731, hr732, hst⟩ := hst.boxStore (P := Try.prog) (t := 30) (cs' := [.int .u64 t721.1.ID, .int .i64 t721.1.From, .int .i64 t721.1.To, .float .f64 t721.1.Lo, .float .f64 t721.1.Hi, .int .u64 t721.1.Authority, .int .i64 t721.1.Quota]) 0 (.agg #[.int .u64 t721.1.ID, .int .i64 t721.1.From, .int .i64 t721.1.To, .float .f64 t721.1.Lo, .float .f64 t721.1.Hi, .int .u64 t721.1.Authority, .int .i64 t721.1.Quota]) Try.sizeOf30 (Nat.le_of_ble_eq_true rfl) (ones_cons rfl (ones_cons rfl (ones_cons rfl (ones_cons rfl (ones_cons rfl (ones_cons rfl (ones_cons rfl ones_nil))))))) rfl
  refine wl_unit rfl rfl (x_unit hr732) ?_
  refine wl_val (v := .bool t721.2) rfl rfl rfl ?_
  refine wl_nil ?_
  refine then_n ?_
  refine wp_seq ?_
  refine wp_region_lit ?_
  obtain ⟨t733, ht734, hm⟩ := bind_some hm
  refine wl_call rfl rfl (x_call Try.call8 rfl (vs := []) rfl) ?_
  refine (law15_awake_ref hst.to0 ht734).mono ?_
  rintro _ w735 ⟨rfl, hst⟩
  refine ⟨_, rfl, ?_⟩
  replace hst := hst.of0
  refine wl_val (v := .bool t733) rfl rfl rfl ?_
  refine bsplit t733 (fun hc738 => ?_) (fun hc738 => ?_)
  · skip
    replace hm := bif_t hc738 hm
    refine wl_val (v := .bool t721.2) ((wanted_eq rfl rfl rfl (congrArg Value.bool hc738)).trans rfl) rfl rfl ?_
    refine wl_val (v := .bool (!t721.2)) ((wanted_eq rfl rfl rfl (congrArg Value.bool hc738)).trans rfl) rfl rfl ?_
    refine wl_val (v := .bool (!t721.2)) rfl rfl (x_pick_t hc738 rfl rfl) ?_
    refine wl_val (v := .bool (!t721.2)) rfl rfl rfl ?_
    refine bsplit (!t721.2) (fun hc739 => ?_) (fun hc739 => ?_)
    · skip
      replace hm := bif_t hc739 hm
      refine wl_val (v := .pointer none) ((wanted_eq rfl rfl rfl (congrArg Value.bool hc739)).trans rfl) rfl rfl ?_
      refine wl_val (v := .int .u64 a1) ((wanted_eq rfl rfl rfl (congrArg Value.bool hc739)).trans rfl) rfl rfl ?_
      refine wl_val (v := .int .u64 a2) ((wanted_eq rfl rfl rfl (congrArg Value.bool hc739)).trans rfl) rfl rfl ?_
      replace hst := hst.objO_nil at_policy_Book
      obtain ⟨t741, ht742, hm⟩ := bind_some hm
      refine wl_call ((wanted_eq rfl rfl rfl (congrArg Value.bool hc739)).trans rfl) rfl (x_call Try.call13 rfl (vs := [.pointer none, .int .u64 a1, .int .u64 a2]) rfl) ?_
      refine (policy_Book_Revoke_ref hst.to1 ht742).mono ?_
      rintro _ w743 ⟨rfl, hst⟩
      refine ⟨_, rfl, ?_⟩
      replace hst := hst.of1
      refine wl_val (v := .bool (!t741.1)) ((wanted_eq rfl rfl rfl (congrArg Value.bool hc739)).trans rfl) rfl rfl ?_
      refine wl_val (v := .bool (!t741.1)) rfl rfl (x_pick_t hc739 rfl rfl) ?_
      refine wl_val (v := .bool (!t741.1)) rfl rfl rfl ?_
      refine bsplit (!t741.1) (fun hc746 => ?_) (fun hc746 => ?_)
      · skip
        replace hm := bif_t hc746 hm
        refine wl_val (v := .pointer none) ((wanted_eq rfl rfl rfl (congrArg Value.bool hc746)).trans rfl) rfl rfl ?_
        replace hst := hst.objO_nil at_policy_Book
        obtain ⟨t748, ht749, hm⟩ := bind_some hm
        refine wl_call ((wanted_eq rfl rfl rfl (congrArg Value.bool hc746)).trans rfl) rfl (x_call Try.call14 rfl (vs := [.pointer none]) rfl) ?_
        refine (policy_Book_Len_ref hst.to1 ht749).mono ?_
        rintro _ w750 ⟨rfl, hst⟩
        refine ⟨_, rfl, ?_⟩
        replace hst := hst.of1
        refine wl_val (v := .bool (t748 == (0:Int))) ((wanted_eq rfl rfl rfl (congrArg Value.bool hc746)).trans rfl) rfl rfl ?_
        refine wl_val (v := .bool (t748 == (0:Int))) rfl rfl (x_pick_t hc746 rfl rfl) ?_
        refine wl_val (v := .bool (t748 == (0:Int))) rfl rfl rfl ?_
        refine wl_nil ?_
        refine then_n ?_
        refine wp_ret ?_
        obtain rfl := some_inj hm
        refine post_ret (vs := [.bool (t748 == (0:Int))]) Try.results4 (rvs_cons (rv_tmp rfl) rvs_nil) ?_
        exact ⟨rfl, hst.keep0⟩
      · skip
        replace hm := bif_f hc746 hm
        refine wl_off ((wanted_eq rfl rfl rfl (congrArg Value.bool hc746)).trans rfl) rfl ?_
        refine wl_off ((wanted_eq rfl rfl rfl (congrArg Value.bool hc746)).trans rfl) rfl ?_
        refine wl_off ((wanted_eq rfl rfl rfl (congrArg Value.bool hc746)).trans rfl) rfl ?_
        refine wl_val (v := .bool false) rfl rfl (x_pick_f hc746 rfl rfl) ?_
        refine wl_val (v := .bool false) rfl rfl rfl ?_
        refine wl_nil ?_
        refine then_n ?_
        refine wp_ret ?_
        obtain rfl := some_inj hm
        refine post_ret (vs := [.bool false]) Try.results4 (rvs_cons (rv_tmp rfl) rvs_nil) ?_
        exact ⟨rfl, hst.keep0⟩
    · skip
      replace hm := bif_f hc739 hm
      refine wl_off ((wanted_eq rfl rfl rfl (congrArg Value.bool hc739)).trans rfl) rfl ?_
      refine wl_off ((wanted_eq rfl rfl rfl (congrArg Value.bool hc739)).trans rfl) rfl ?_
      refine wl_off ((wanted_eq rfl rfl rfl (congrArg Value.bool hc739)).trans rfl) rfl ?_
      refine wl_off ((wanted_eq rfl rfl rfl (congrArg Value.bool hc739)).trans rfl) rfl ?_
      refine wl_off ((wanted_eq rfl rfl rfl (congrArg Value.bool hc739)).trans rfl) rfl ?_
      refine wl_val (v := .bool false) rfl rfl (x_pick_f hc739 rfl rfl) ?_
      refine wl_val (v := .bool false) rfl rfl rfl ?_
      refine wl_off ((wanted_eq rfl rfl rfl rfl).trans rfl) rfl ?_
      refine wl_off ((wanted_eq rfl rfl rfl rfl).trans rfl) rfl ?_
      refine wl_off ((wanted_eq rfl rfl rfl rfl).trans rfl) rfl ?_
      refine wl_val (v := .bool false) rfl rfl (x_pick_f rfl rfl rfl) ?_
      refine wl_val (v := .bool false) rfl rfl rfl ?_
      refine wl_nil ?_
      refine then_n ?_
      refine wp_ret ?_
      obtain rfl := some_inj hm
      refine post_ret (vs := [.bool false]) Try.results4 (rvs_cons (rv_tmp rfl) rvs_nil) ?_
      exact ⟨rfl, hst.keep0⟩
  · skip
    replace hm := bif_f hc738 hm
    refine wl_off ((wanted_eq rfl rfl rfl (congrArg Value.bool hc738)).trans rfl) rfl ?_
    refine wl_off ((wanted_eq rfl rfl rfl (congrArg Value.bool hc738)).trans rfl) rfl ?_
    refine wl_val (v := .bool false) rfl rfl (x_pick_f hc738 rfl rfl) ?_
    refine wl_val (v := .bool false) rfl rfl rfl ?_
    refine wl_off ((wanted_eq rfl rfl rfl rfl).trans rfl) rfl ?_
    refine wl_off ((wanted_eq rfl rfl rfl rfl).trans rfl) rfl ?_
    refine wl_off ((wanted_eq rfl rfl rfl rfl).trans rfl) rfl ?_
    refine wl_off ((wanted_eq rfl rfl rfl rfl).trans rfl) rfl ?_
    refine wl_off ((wanted_eq rfl rfl rfl rfl).trans rfl) rfl ?_
    refine wl_val (v := .bool false) rfl rfl (x_pick_f rfl rfl rfl) ?_
    refine wl_val (v := .bool false) rfl rfl rfl ?_
    refine wl_off ((wanted_eq rfl rfl rfl rfl).trans rfl) rfl ?_
    refine wl_off ((wanted_eq rfl rfl rfl rfl).trans rfl) rfl ?_
    refine wl_off ((wanted_eq rfl rfl rfl rfl).trans rfl) rfl ?_
    refine wl_val (v := .bool false) rfl rfl (x_pick_f rfl rfl rfl) ?_
    refine wl_val (v := .bool false) rfl rfl rfl ?_
    refine wl_nil ?_
    refine then_n ?_
    refine wp_ret ?_
    obtain rfl := some_inj hm
    refine post_ret (vs := [.bool false]) Try.results4 (rvs_cons (rv_tmp rfl) rvs_nil) ?_
    exact ⟨rfl, hst.keep0⟩

end Go.Proofs.Ytcnldkkdommmdaa
