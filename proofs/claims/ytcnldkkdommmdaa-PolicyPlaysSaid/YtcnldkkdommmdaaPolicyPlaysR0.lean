/- The Go functions refine their models, part 0. -/
import Derived.Test.YtcnldkkdommmdaaPolicyPlaysT
set_option linter.unusedVariables false
set_option linter.unusedSimpArgs false
set_option maxRecDepth 100000
set_option maxHeartbeats 4000000
namespace Go.Proofs.Ytcnldkkdommmdaa
open Go Go.V
attribute [local irreducible] wpList Code.wp wpQuiet Calls bodyPost Oper.wp wpS Nx PendOK YieldsIn
theorem policy_New_ref {w0 w : World} {I : HL} {R : SP}   (hst : St w0 w I [] R) {r : (policy_Book)} (hm : policy_New = some r) :
    Calls Try.prog 9 #[] w fun e w' => ∃ (q0 : Value), e = .returned (q0) ∧ St w0 w' I [at_policy_Book q0 r] R := by
  unfold policy_New at hm
  refine calls_start (args := []) Try.func9 rfl Try.ntmps9 (Nat.le_of_ble_eq_true rfl) ?_
  refine wp_seq ?_
  refine wp_region_lit ?_
  refine wl_val (v := .pointer none) rfl rfl rfl ?_
  refine wl_nil ?_
  refine then_n ?_
  refine wp_seq ?_
  refine wp_region_lit ?_
  refine wl_val (v := .agg #[(.slice none 0 0)]) rfl rfl (by kernel_rfl) ?_
  obtain ⟨b10, w11, ew12, eb13, hst⟩ := hst.box [(.slice none 0 0)] 64
  refine wl_run (v := .pointer (some ⟨b10, 0, none⟩)) (w' := w11) rfl rfl (x_al (by kernel_rfl) ew12 eb13) ?_
  refine wl_val (v := .pointer (some ⟨b10, 0, none⟩)) rfl rfl rfl ?_
  refine wl_nil ?_
  refine then_n ?_
  refine wp_ret ?_
  replace hst := hst.own_nil ty_policy_line
  replace hst := hst.pull1
  replace hst := at_policy_Book_close (pv := .pointer (some ⟨b10, 0, none⟩)) (x := ({ l := [] } : policy_Book)) hst rfl
  obtain rfl := some_inj hm
  refine post_ret (vs := [.pointer (some ⟨b10, 0, none⟩)]) Try.results9 (rvs_cons (rv_tmp rfl) rvs_nil) ?_
  exact ⟨.pointer (some ⟨b10, 0, none⟩), rfl, hst.keep1⟩

theorem policy_Book_Revoke_ref {w0 w : World} {I : HL} {R : SP} {a0 : (Option policy_Book)} {p0 : Value} {a1 : Int} {a2 : Int}  (hst : St w0 w I [objO at_policy_Book p0 a0] R) {r : (Bool × (Option policy_Book))} (hm : policy_Book_Revoke a0 a1 a2 = some r) :
    Calls Try.prog 13 #[p0, .int .u64 a1, .int .u64 a2] w fun e w' => e = .returned (.bool r.1) ∧ St w0 w' I [objO at_policy_Book p0 r.2] R := by
  rcases a0 with _ | o0
  · skip
    obtain ⟨rfl, hst'⟩ := objO_none hst
    clear hst
    have hst := hst'
    clear hst'
    dsimp only [policy_Book_Revoke] at hm
    refine calls_start (args := [.pointer none, .int .u64 a1, .int .u64 a2]) Try.func13 rfl Try.ntmps13 (Nat.le_of_ble_eq_true rfl) ?_
    refine wp_seq ?_
    refine wp_region_lit ?_
    refine wl_val (v := .bool false) rfl rfl rfl ?_
    refine wl_nil ?_
    refine then_n ?_
    refine wp_seq ?_
    refine wp_seq ?_
    refine wp_region_lit ?_
    refine wl_val (v := .pointer none) rfl rfl rfl ?_
    refine wl_val (v := .bool true) rfl rfl (by kernel_rfl) ?_
    refine wl_nil ?_
    refine then_n ?_
    refine wp_ift rfl ?_
    refine wp_seq ?_
    refine wp_region_lit ?_
    refine wl_val (v := .bool false) rfl rfl rfl ?_
    refine wl_nil ?_
    refine then_n ?_
    refine wp_ret ?_
    refine then_r ?_
    replace hst := hst.objO_nil at_policy_Book
    obtain rfl := some_inj hm
    refine post_ret (vs := [.bool false]) Try.results13 (rvs_cons (rv_tmp rfl) rvs_nil) ?_
    exact ⟨rfl, hst.keep1⟩
  · skip
    replace hst := objO_get hst
    dsimp only [policy_Book_Revoke] at hm
    refine calls_start (args := [p0, .int .u64 a1, .int .u64 a2]) Try.func13 rfl Try.ntmps13 (Nat.le_of_ble_eq_true rfl) ?_
    refine wp_seq ?_
    refine wp_region_lit ?_
    refine wl_val (v := .bool false) rfl rfl rfl ?_
    refine wl_nil ?_
    refine then_n ?_
    refine wp_seq ?_
    refine wp_seq ?_
    refine wp_region_lit ?_
    refine wl_val (v := p0) rfl rfl rfl ?_
    obtain ⟨b90, v91, rfl, hst'⟩ := at_policy_Book_open hst
    clear hst
    have hst := hst'
    clear hst'
    refine wl_val (v := .bool false) rfl rfl (by kernel_rfl) ?_
    refine wl_nil ?_
    refine then_n ?_
    refine wp_iff rfl ?_
    refine wp_skip ?_
    refine then_n ?_
    refine wp_seq ?_
    refine wp_region_lit ?_
    refine wl_val (v := .bool false) rfl rfl rfl ?_
    refine wl_nil ?_
    refine then_n ?_
    refine wp_seq ?_
    refine wp_seq ?_
    refine wp_region_lit ?_
    refine wl_val (v := .pointer (some ⟨b90, 0, none⟩)) rfl rfl rfl ?_
    refine wl_val (v := .pointer (some ⟨b90, 0, none⟩)) rfl rfl rfl ?_
    refine wl_val (v := .pointer (some ⟨b90, 0, none⟩)) rfl rfl (x_field rfl Try.underlying64 rfl Try.sizeOf62 rfl) ?_
    refine wl_val (v := v91) rfl rfl (x_load rfl Try.isAgg62 (hst.bc0 rfl)) ?_
    refine wl_val (v := .int .i64 ((o0.l).length : Int)) rfl rfl (x_len rfl Try.underlying62 hst.sv1) ?_
    refine wl_val (v := .int .i64 (0:Int)) rfl rfl rfl ?_
    refine wl_nil ?_
    refine then_n ?_
    refine wp_block ?_
    replace hst := hst.pull1
    replace hst := hst.pull1
    replace hst := at_policy_Book_close (pv := .pointer (some ⟨b90, 0, none⟩)) (x := o0) hst rfl
    obtain ⟨n132, hm⟩ := loopO_some hm
    refine wp_loop_n (fun n a w => ∃ (z128 : policy_Book) (z129 : Int) (z130 : Bool) (σ131 : Nat → Value), loopN (policy_Book_Revoke_l0 o0 a1 a2) n (z128, z129, z130) = some r ∧ a = Fr 52 (upd (upd (upd (upd (upd (upd σ131 0 (.pointer (some ⟨b90, 0, none⟩))) 1 (.int .u64 a1)) 2 (.int .u64 a2)) 7 (.bool z130)) 15 (.int .i64 ((o0.l).length : Int))) 16 (.int .i64 z129)) ∧ St w0 w I [at_policy_Book (.pointer (some ⟨b90, 0, none⟩)) z128] R) n132 ⟨o0, (0:Int), false, _, hm, ((fr_upd (t := 0) (v := .pointer (some ⟨b90, 0, none⟩)) rfl).trans ((fr_upd (t := 1) (v := .int .u64 a1) rfl).trans ((fr_upd (t := 2) (v := .int .u64 a2) rfl).trans ((fr_upd (t := 7) (v := .bool false) rfl).trans ((fr_upd (t := 15) (v := .int .i64 ((o0.l).length : Int)) rfl).trans ((fr_upd (t := 16) (v := .int .i64 (0:Int)) rfl).trans rfl)))))), hst⟩ ?_
    rintro n138 _ w133 ⟨z128, z129, z130, σ131, hm, rfl, hst⟩
    obtain ⟨n135, y136, rfl, hm, hx137⟩ := loopN_some hm
    dsimp only [policy_Book_Revoke_l0] at hm
    refine wp_seq ?_
    refine wp_region_lit ?_
    refine wl_val (v := .bool (decide (z129 < ((o0.l).length : Int)))) rfl rfl rfl ?_
    refine wl_nil ?_
    refine then_n ?_
    refine wp_seq ?_
    refine bsplit (decide (z129 < ((o0.l).length : Int))) (fun hc139 => ?_) (fun hc139 => ?_)
    · skip
      replace hm := bif_t hc139 hm
      refine wp_ift (congrArg Value.bool hc139) ?_
      refine wp_skip ?_
      refine then_n ?_
      refine wp_seq ?_
      refine wp_block ?_
      refine wp_seq ?_
      refine wp_region_lit ?_
      refine wl_val (v := .int .i64 z129) rfl rfl rfl ?_
      refine wl_val (v := .int .i64 z129) rfl rfl rfl ?_
      refine wl_nil ?_
      refine then_n ?_
      refine wp_seq ?_
      refine wp_region_lit ?_
      refine wl_val (v := .pointer (some ⟨b90, 0, none⟩)) rfl rfl rfl ?_
      obtain ⟨b140, v141, e143, hst'⟩ := at_policy_Book_open hst
      clear hst
      have e143 := ptr_inj e143
      subst e143
      have hst := hst'
      clear hst'
      refine wl_val (v := .pointer (some ⟨b90, 0, none⟩)) rfl rfl rfl ?_
      refine wl_val (v := .pointer (some ⟨b90, 0, none⟩)) rfl rfl (x_field rfl Try.underlying64 rfl Try.sizeOf62 rfl) ?_
      refine wl_val (v := v141) rfl rfl (x_load rfl Try.isAgg62 (hst.bc0 rfl)) ?_
      refine wl_val (v := .int .i64 z129) rfl rfl rfl ?_
      obtain ⟨x144, hx145, hm⟩ := bind_some hm
      obtain ⟨h146, h147, hi148⟩ := geto_some hx145
      refine wl_val (v := .pointer (some (eAddr v141 (z129.toNat * 9 + 0)))) rfl rfl (x_index rfl rfl Try.underlying62 Try.sizeOf66 hst.sv1 h146 h147) ?_
      refine wl_val (v := .pointer (some (eAddr v141 (z129.toNat * 9 + 0)))) rfl rfl (x_field_e rfl Try.underlying66 rfl Try.sizeOf30 rfl) ?_
      refine wl_val (v := .pointer (some (eAddr v141 (z129.toNat * 9 + 0)))) rfl rfl (x_field_e rfl Try.underlying30 rfl Try.sizeOf27 rfl) ?_
      refine wl_val (v := .int .u64 x144.r.ID) rfl rfl (x_load rfl Try.isAgg27 (hst.ol1 hi148 (by rintro _ rfl; rfl))) ?_
      refine wl_val (v := .int .u64 a1) rfl rfl rfl ?_
      refine wl_val (v := .bool (x144.r.ID == a1)) rfl rfl rfl ?_
      refine wl_val (v := .bool (x144.r.ID == a1)) rfl rfl rfl ?_
      refine bsplit (x144.r.ID == a1) (fun hc149 => ?_) (fun hc149 => ?_)
      · skip
        replace hm := bif_t hc149 hm
        refine wl_val (v := .pointer (some ⟨b90, 0, none⟩)) ((wanted_eq rfl rfl rfl (congrArg Value.bool hc149)).trans rfl) rfl rfl ?_
        refine wl_val (v := .pointer (some ⟨b90, 0, none⟩)) ((wanted_eq rfl rfl rfl (congrArg Value.bool hc149)).trans rfl) rfl rfl ?_
        refine wl_val (v := .pointer (some ⟨b90, 0, none⟩)) ((wanted_eq rfl rfl rfl (congrArg Value.bool hc149)).trans rfl) rfl (x_field rfl Try.underlying64 rfl Try.sizeOf62 rfl) ?_
        refine wl_val (v := v141) ((wanted_eq rfl rfl rfl (congrArg Value.bool hc149)).trans rfl) rfl (x_load rfl Try.isAgg62 (hst.bc0 rfl)) ?_
        refine wl_val (v := .int .i64 z129) ((wanted_eq rfl rfl rfl (congrArg Value.bool hc149)).trans rfl) rfl rfl ?_
        refine wl_val (v := .pointer (some (eAddr v141 (z129.toNat * 9 + 0)))) ((wanted_eq rfl rfl rfl (congrArg Value.bool hc149)).trans rfl) rfl (x_index rfl rfl Try.underlying62 Try.sizeOf66 hst.sv1 h146 h147) ?_
        refine wl_val (v := .pointer (some (eAddr v141 (z129.toNat * 9 + 8)))) ((wanted_eq rfl rfl rfl (congrArg Value.bool hc149)).trans rfl) rfl (x_field_e rfl Try.underlying66 rfl Try.sizeOf27 rfl) ?_
        refine wl_val (v := .int .u64 x144.to_) ((wanted_eq rfl rfl rfl (congrArg Value.bool hc149)).trans rfl) rfl (x_load rfl Try.isAgg27 (hst.ol1 hi148 (by rintro _ rfl; rfl))) ?_
        refine wl_val (v := .bool (x144.to_ == (0:Int))) ((wanted_eq rfl rfl rfl (congrArg Value.bool hc149)).trans rfl) rfl rfl ?_
        refine wl_val (v := .bool (x144.to_ == (0:Int))) rfl rfl (x_pick_t hc149 rfl rfl) ?_
        refine wl_nil ?_
        refine then_n ?_
        refine bsplit (x144.to_ == (0:Int)) (fun hc150 => ?_) (fun hc150 => ?_)
        · skip
          replace hm := bif_t hc150 hm
          refine wp_ift (congrArg Value.bool hc150) ?_
          refine wp_region_lit ?_
          refine wl_val (v := .pointer (some ⟨b90, 0, none⟩)) rfl rfl rfl ?_
          refine wl_val (v := .pointer (some ⟨b90, 0, none⟩)) rfl rfl rfl ?_
          refine wl_val (v := .pointer (some ⟨b90, 0, none⟩)) rfl rfl (x_field rfl Try.underlying64 rfl Try.sizeOf62 rfl) ?_
          refine wl_val (v := v141) rfl rfl (x_load rfl Try.isAgg62 (hst.bc0 rfl)) ?_
          refine wl_val (v := .int .i64 z129) rfl rfl rfl ?_
          refine wl_val (v := .int .u64 a2) rfl rfl rfl ?_
          refine wl_val (v := .int .u64 (if (1:Int) > a2 then (1:Int) else a2)) rfl rfl (by kernel_rfl) ?_
          refine wl_val (v := .pointer (some (eAddr v141 (z129.toNat * 9 + 0)))) rfl rfl (x_index rfl rfl Try.underlying62 Try.sizeOf66 hst.sv1 h146 h147) ?_
          refine wl_val (v := .pointer (some (eAddr v141 (z129.toNat * 9 + 8)))) rfl rfl (x_field_e rfl Try.underlying66 rfl Try.sizeOf27 rfl) ?_
          replace hst := hst.pull1
          obtain ⟨w151, hr152, hst⟩ := hst.own_store (P := Try.prog) (t := 27) (y := ({ r := x144.r, from_ := x144.from_, to_ := (if (1:Int) > a2 then (1:Int) else a2) } : policy_line)) hi148 8 (.int .u64 (if (1:Int) > a2 then (1:Int) else a2)) Try.sizeOf27 (Nat.le_of_ble_eq_true rfl) (ones_cons rfl ones_nil) (by rintro _ rfl; rfl)
          have hi153 := set_get hi148 ({ r := x144.r, from_ := x144.from_, to_ := (if (1:Int) > a2 then (1:Int) else a2) } : policy_line)
          have h154 := set_lt h147 z129.toNat ({ r := x144.r, from_ := x144.from_, to_ := (if (1:Int) > a2 then (1:Int) else a2) } : policy_line)
          refine wl_unit rfl rfl (x_unit hr152) ?_
          refine wl_val (v := .bool true) rfl rfl rfl ?_
          refine wl_nil ?_
          refine blk_n ?_
          refine then_n ?_
          refine wp_region_lit ?_
          refine wl_val (v := .int .i64 (IntKind.i64.wrap (z129 + (1:Int)))) rfl rfl rfl ?_
          refine wl_val (v := .int .i64 (IntKind.i64.wrap (z129 + (1:Int)))) rfl rfl rfl ?_
          refine wl_nil ?_
          refine then_n ?_
          replace hst := hst.pull1
          replace hst := at_policy_Book_close (pv := .pointer (some ⟨b90, 0, none⟩)) (x := ({ l := (z128.l.set z129.toNat ({ r := x144.r, from_ := x144.from_, to_ := (if (1:Int) > a2 then (1:Int) else a2) } : policy_line)) } : policy_Book)) hst rfl
          replace hst := hst.keep1
          obtain rfl := some_inj hm
          exact ⟨_, Nat.lt_succ_self _, ({ l := (z128.l.set z129.toNat ({ r := x144.r, from_ := x144.from_, to_ := (if (1:Int) > a2 then (1:Int) else a2) } : policy_line)) } : policy_Book), (IntKind.i64.wrap (z129 + (1:Int))), true, _, hx137, ((fr_upd (t := 0) (v := .pointer (some ⟨b90, 0, none⟩)) rfl).trans ((fr_upd (t := 1) (v := .int .u64 a1) rfl).trans ((fr_upd (t := 2) (v := .int .u64 a2) rfl).trans ((fr_upd (t := 7) (v := .bool true) rfl).trans ((fr_upd (t := 15) (v := .int .i64 ((o0.l).length : Int)) rfl).trans ((fr_upd (t := 16) (v := .int .i64 (IntKind.i64.wrap (z129 + (1:Int)))) rfl).trans rfl)))))), hst⟩
        · skip
          replace hm := bif_f hc150 hm
          refine wp_iff (congrArg Value.bool hc150) ?_
          refine wp_skip ?_
          refine blk_n ?_
          refine then_n ?_
          refine wp_region_lit ?_
          refine wl_val (v := .int .i64 (IntKind.i64.wrap (z129 + (1:Int)))) rfl rfl rfl ?_
          refine wl_val (v := .int .i64 (IntKind.i64.wrap (z129 + (1:Int)))) rfl rfl rfl ?_
          refine wl_nil ?_
          refine then_n ?_
          replace hst := hst.pull1
          replace hst := hst.pull1
          replace hst := at_policy_Book_close (pv := .pointer (some ⟨b90, 0, none⟩)) (x := z128) hst rfl
          replace hst := hst.keep1
          obtain rfl := some_inj hm
          exact ⟨_, Nat.lt_succ_self _, z128, (IntKind.i64.wrap (z129 + (1:Int))), z130, _, hx137, ((fr_upd (t := 0) (v := .pointer (some ⟨b90, 0, none⟩)) rfl).trans ((fr_upd (t := 1) (v := .int .u64 a1) rfl).trans ((fr_upd (t := 2) (v := .int .u64 a2) rfl).trans ((fr_upd (t := 7) (v := .bool z130) rfl).trans ((fr_upd (t := 15) (v := .int .i64 ((o0.l).length : Int)) rfl).trans ((fr_upd (t := 16) (v := .int .i64 (IntKind.i64.wrap (z129 + (1:Int)))) rfl).trans rfl)))))), hst⟩
      · skip
        replace hm := bif_f hc149 hm
        refine wl_off ((wanted_eq rfl rfl rfl (congrArg Value.bool hc149)).trans rfl) rfl ?_
        refine wl_off ((wanted_eq rfl rfl rfl (congrArg Value.bool hc149)).trans rfl) rfl ?_
        refine wl_off ((wanted_eq rfl rfl rfl (congrArg Value.bool hc149)).trans rfl) rfl ?_
        refine wl_off ((wanted_eq rfl rfl rfl (congrArg Value.bool hc149)).trans rfl) rfl ?_
        refine wl_off ((wanted_eq rfl rfl rfl (congrArg Value.bool hc149)).trans rfl) rfl ?_
        refine wl_off ((wanted_eq rfl rfl rfl (congrArg Value.bool hc149)).trans rfl) rfl ?_
        refine wl_off ((wanted_eq rfl rfl rfl (congrArg Value.bool hc149)).trans rfl) rfl ?_
        refine wl_off ((wanted_eq rfl rfl rfl (congrArg Value.bool hc149)).trans rfl) rfl ?_
        refine wl_off ((wanted_eq rfl rfl rfl (congrArg Value.bool hc149)).trans rfl) rfl ?_
        refine wl_val (v := .bool false) rfl rfl (x_pick_f hc149 rfl rfl) ?_
        refine wl_nil ?_
        refine then_n ?_
        refine wp_iff rfl ?_
        refine wp_skip ?_
        refine blk_n ?_
        refine then_n ?_
        refine wp_region_lit ?_
        refine wl_val (v := .int .i64 (IntKind.i64.wrap (z129 + (1:Int)))) rfl rfl rfl ?_
        refine wl_val (v := .int .i64 (IntKind.i64.wrap (z129 + (1:Int)))) rfl rfl rfl ?_
        refine wl_nil ?_
        refine then_n ?_
        replace hst := hst.pull1
        replace hst := hst.pull1
        replace hst := at_policy_Book_close (pv := .pointer (some ⟨b90, 0, none⟩)) (x := z128) hst rfl
        replace hst := hst.keep1
        obtain rfl := some_inj hm
        exact ⟨_, Nat.lt_succ_self _, z128, (IntKind.i64.wrap (z129 + (1:Int))), z130, _, hx137, ((fr_upd (t := 0) (v := .pointer (some ⟨b90, 0, none⟩)) rfl).trans ((fr_upd (t := 1) (v := .int .u64 a1) rfl).trans ((fr_upd (t := 2) (v := .int .u64 a2) rfl).trans ((fr_upd (t := 7) (v := .bool z130) rfl).trans ((fr_upd (t := 15) (v := .int .i64 ((o0.l).length : Int)) rfl).trans ((fr_upd (t := 16) (v := .int .i64 (IntKind.i64.wrap (z129 + (1:Int)))) rfl).trans rfl)))))), hst⟩
    · skip
      replace hm := bif_f hc139 hm
      refine wp_iff (congrArg Value.bool hc139) ?_
      refine wp_exit ?_
      refine then_x ?_
      refine then_x ?_
      replace hm := inr_up hm hx137
      refine blk_x ?_
      refine then_n ?_
      refine wp_seq ?_
      refine wp_region_lit ?_
      refine wl_val (v := .bool z130) rfl rfl rfl ?_
      refine wl_val (v := .bool z130) rfl rfl rfl ?_
      refine wl_nil ?_
      refine then_n ?_
      refine wp_ret ?_
      replace hst := objO_some hst
      obtain rfl := some_inj hm
      refine post_ret (vs := [.bool z130]) Try.results13 (rvs_cons (rv_tmp rfl) rvs_nil) ?_
      exact ⟨rfl, hst.keep1⟩

theorem policy_Book_Grant_ref {w0 w : World} {I : HL} {R : SP} {a0 : (Option policy_Book)} {p0 : Value} {a1 : api_Rule} {a2 : Int}  (hst : St w0 w I [objO at_policy_Book p0 a0] R) {r : ((Option policy_Book))} (hm : policy_Book_Grant a0 a1 a2 = some r) :
    Calls Try.prog 10 #[p0, .agg #[.int .u64 a1.ID, .int .i64 a1.From, .int .i64 a1.To, .float .f64 a1.Lo, .float .f64 a1.Hi, .int .u64 a1.Authority, .int .i64 a1.Quota], .int .u64 a2] w fun e w' => e = .returned (.tuple #[]) ∧ St w0 w' I [objO at_policy_Book p0 r] R := by
  rcases a0 with _ | o0
  · skip
    obtain ⟨rfl, hst'⟩ := objO_none hst
    clear hst
    have hst := hst'
    clear hst'
    dsimp only [policy_Book_Grant] at hm
    refine calls_start (args := [.pointer none, .agg #[.int .u64 a1.ID, .int .i64 a1.From, .int .i64 a1.To, .float .f64 a1.Lo, .float .f64 a1.Hi, .int .u64 a1.Authority, .int .i64 a1.Quota], .int .u64 a2]) Try.func10 rfl Try.ntmps10 (Nat.le_of_ble_eq_true rfl) ?_
    refine wp_seq ?_
    refine wp_region_lit ?_
    obtain ⟨b46, w47, ew48, eb49, hst⟩ := hst.box [.int .u64 a1.ID, .int .i64 a1.From, .int .i64 a1.To, .float .f64 a1.Lo, .float .f64 a1.Hi, .int .u64 a1.Authority, .int .i64 a1.Quota] 30
    refine wl_run (v := .pointer (some ⟨b46, 0, none⟩)) (w' := w47) rfl rfl (x_al (by kernel_rfl) ew48 eb49) ?_
    refine wl_nil ?_
    refine then_n ?_
    refine wp_seq ?_
    refine wp_seq ?_
    refine wp_region_lit ?_
    refine wl_val (v := .pointer none) rfl rfl rfl ?_
    refine wl_val (v := .bool true) rfl rfl (by kernel_rfl) ?_
    refine wl_nil ?_
    refine then_n ?_
    refine wp_ift rfl ?_
    refine wp_ret ?_
    refine then_r ?_
    replace hst := hst.objO_nil at_policy_Book
    obtain rfl := some_inj hm
    refine post_ret (vs := []) Try.results10 rvs_nil ?_
    exact ⟨rfl, hst.keep1⟩
  · skip
    replace hst := objO_get hst
    dsimp only [policy_Book_Grant] at hm
    refine calls_start (args := [p0, .agg #[.int .u64 a1.ID, .int .i64 a1.From, .int .i64 a1.To, .float .f64 a1.Lo, .float .f64 a1.Hi, .int .u64 a1.Authority, .int .i64 a1.Quota], .int .u64 a2]) Try.func10 rfl Try.ntmps10 (Nat.le_of_ble_eq_true rfl) ?_
    refine wp_seq ?_
    refine wp_region_lit ?_
    obtain ⟨b51, w52, ew53, eb54, hst⟩ := hst.box [.int .u64 a1.ID, .int .i64 a1.From, .int .i64 a1.To, .float .f64 a1.Lo, .float .f64 a1.Hi, .int .u64 a1.Authority, .int .i64 a1.Quota] 30
    refine wl_run (v := .pointer (some ⟨b51, 0, none⟩)) (w' := w52) rfl rfl (x_al (by kernel_rfl) ew53 eb54) ?_
    refine wl_nil ?_
    refine then_n ?_
    refine wp_seq ?_
    refine wp_seq ?_
    refine wp_region_lit ?_
    refine wl_val (v := p0) rfl rfl rfl ?_
    replace hst := hst.pull1
    obtain ⟨b56, v57, rfl, hst'⟩ := at_policy_Book_open hst
    clear hst
    have hst := hst'
    clear hst'
    refine wl_val (v := .bool false) rfl rfl (by kernel_rfl) ?_
    refine wl_nil ?_
    refine then_n ?_
    refine wp_iff rfl ?_
    refine wp_skip ?_
    refine then_n ?_
    refine wp_seq ?_
    refine wp_region_lit ?_
    refine wl_val (v := .pointer (some ⟨b56, 0, none⟩)) rfl rfl rfl ?_
    refine wl_val (v := .pointer (some ⟨b51, 0, none⟩)) rfl rfl (x_field rfl Try.underlying30 rfl Try.sizeOf27 rfl) ?_
    refine wl_val (v := .int .u64 a1.ID) rfl rfl (x_load rfl Try.isAgg27 (hst.bc2 rfl)) ?_
    refine wl_val (v := .int .u64 a2) rfl rfl rfl ?_
    replace hst := hst.pull1
    replace hst := hst.pull1
    replace hst := at_policy_Book_close (pv := .pointer (some ⟨b56, 0, none⟩)) (x := o0) hst rfl
    replace hst := objO_some hst
    obtain ⟨t59, ht60, hm⟩ := bind_some hm
    refine wl_call rfl rfl (x_call Try.call13 rfl (vs := [.pointer (some ⟨b56, 0, none⟩), .int .u64 a1.ID, .int .u64 a2]) rfl) ?_
    refine (policy_Book_Revoke_ref hst.to1 ht60).mono ?_
    rintro _ w61 ⟨rfl, hst⟩
    refine ⟨_, rfl, ?_⟩
    replace hst := hst.of1
    rcases he65 : t59.2 with _ | y64
    · rw [he65] at hm; cases hm
    rw [he65] at hm hst; dsimp only at hm; replace hst := objO_get hst
    refine wl_nil ?_
    refine then_n ?_
    obtain ⟨b66, v67, e69, hst'⟩ := at_policy_Book_open hst
    clear hst
    have e69 := ptr_inj e69
    subst e69
    have hst := hst'
    clear hst'
    refine wp_region_St hst [(0, false), (1, false), (2, false), (3, false), (4, false), (5, false), (6, false), (7, false), (8, true), (9, true), (10, false), (11, false), (12, true)] Try.mixed (by kernel_rfl) (by decide) ?_
    refine ws_q (v := .pointer (some ⟨b56, 0, none⟩)) rfl rfl (yi_run rfl (fun w hst => rfl)) ?_
    refine ws_q (v := .pointer (some ⟨b56, 0, none⟩)) rfl rfl (yi_run rfl (fun w hst => rfl)) ?_
    refine ws_q (v := .pointer (some ⟨b56, 0, none⟩)) rfl rfl (yi_run rfl (fun w hst => rfl)) ?_
    refine ws_q (v := .pointer (some ⟨b56, 0, none⟩)) rfl rfl (yi_run rfl (fun w hst => x_field rfl Try.underlying64 rfl Try.sizeOf62 rfl)) ?_
    refine ws_q (v := v67) rfl rfl (yi_run rfl (fun w hst => x_load rfl Try.isAgg62 (hst.bc0 rfl))) ?_
    refine ws_q (v := .agg #[.int .u64 a1.ID, .int .i64 a1.From, .int .i64 a1.To, .float .f64 a1.Lo, .float .f64 a1.Hi, .int .u64 a1.Authority, .int .i64 a1.Quota]) rfl rfl (yi_run rfl (fun w hst => x_loadN (cs := [.int .u64 a1.ID, .int .i64 a1.From, .int .i64 a1.To, .float .f64 a1.Lo, .float .f64 a1.Hi, .int .u64 a1.Authority, .int .i64 a1.Quota]) rfl Try.isAgg30 Try.sizeOf30 (hst.bcs2 0 rfl))) ?_
    refine ws_q (v := .int .u64 a2) rfl rfl (yi_run rfl (fun w hst => rfl)) ?_
    refine ws_q (v := .agg #[.int .u64 a1.ID, .int .i64 a1.From, .int .i64 a1.To, .float .f64 a1.Lo, .float .f64 a1.Hi, .int .u64 a1.Authority, .int .i64 a1.Quota, .int .u64 a2, .int .u64 (0:Int)]) rfl rfl (yi_run rfl (fun w hst => by kernel_rfl)) ?_
    refine ws_e rfl rfl ?_
    clear hst
    intro w hst
    obtain ⟨b70, w71, ew72, eb73, hst⟩ := hst.lits (E := ty_policy_line) (xs := [({ r := a1, from_ := a2, to_ := (0:Int) } : policy_line)]) [[.int .u64 a1.ID, .int .i64 a1.From, .int .i64 a1.To, .float .f64 a1.Lo, .float .f64 a1.Hi, .int .u64 a1.Authority, .int .i64 a1.Quota, .int .u64 a2, .int .u64 (0:Int)]] 66 1 rfl (Reps.cons rfl Reps.nil)
    refine we_run (v := (.slice (some ⟨b70, 0, none⟩) 1 1)) (w' := w71) rfl (x_als (by kernel_rfl) ew72 eb73) ?_
    refine ws_next (pend' := [(4, v67), (3, .pointer (some ⟨b56, 0, none⟩)), (2, .pointer (some ⟨b56, 0, none⟩)), (1, .pointer (some ⟨b56, 0, none⟩)), (0, .pointer (some ⟨b56, 0, none⟩))]) hst (by kernel_rfl) (pk_cons rfl (yi_run rfl (fun w hst => x_load rfl Try.isAgg62 (hst.bc1 rfl))) (pk_cons rfl (yi_run rfl (fun w hst => x_field rfl Try.underlying64 rfl Try.sizeOf62 rfl)) (pk_cons rfl (yi_run rfl (fun w hst => rfl)) (pk_cons rfl (yi_run rfl (fun w hst => rfl)) (pk_cons rfl (yi_run rfl (fun w hst => rfl)) pk_nil))))) ?_
    refine ws_e rfl rfl ?_
    clear hst
    intro w hst
    obtain ⟨hg75, hm⟩ := gd_some hm
    replace hst := hst.pull2
    obtain ⟨v76, w77, hr78, hst⟩ := run_append elem_62 Try.underlying62 hst hst.src1 (room_of hg75 rfl) 62
    refine we_run (v := v76) (w' := w77) rfl (x_append rfl rfl hr78) ?_
    refine ws_next (pend' := [(0, .pointer (some ⟨b56, 0, none⟩))]) hst (by kernel_rfl) (pk_cons rfl (yi_run rfl (fun w hst => rfl)) pk_nil) ?_
    refine ws_q (v := .pointer (some ⟨b56, 0, none⟩)) rfl rfl (yi_run rfl (fun w hst => rfl)) ?_
    refine ws_q (v := .pointer (some ⟨b56, 0, none⟩)) rfl rfl (yi_run rfl (fun w hst => x_field rfl Try.underlying64 rfl Try.sizeOf62 rfl)) ?_
    refine ws_e rfl rfl ?_
    clear hst
    intro w hst
    replace hst := hst.pull2
    obtain ⟨w79, hr80, hst⟩ := hst.boxStore1 (P := Try.prog) (t := 62) (cs' := [v76]) 0 v76 (one_of_sliceV hst.sv1) Try.sizeOf62 rfl rfl
    refine we_unit rfl (x_unit hr80) ?_
    refine ws_next (pend' := []) hst (by kernel_rfl) pk_nil ?_
    refine ws_nil ?_
    intro w hst
    replace hst := hst.pull1
    replace hst := hst.pull1
    replace hst := at_policy_Book_close (pv := .pointer (some ⟨b56, 0, none⟩)) (x := ({ l := (y64.l ++ ([({ r := a1, from_ := a2, to_ := (0:Int) } : policy_line)])) } : policy_Book)) hst rfl
    replace hst := objO_some hst
    obtain rfl := some_inj hm
    refine post_end (vs := []) Try.results10 rvs_nil ?_
    exact ⟨rfl, hst.keep1⟩

theorem policy_Book_At_ref {w0 w : World} {I : HL} {R : SP} {a0 : (Option policy_Book)} {p0 : Value} {a1 : Int} {a2 : Int}  (hst : St w0 w I [objO at_policy_Book p0 a0] R) {r : (api_Rule × Bool)} (hm : policy_Book_At a0 a1 a2 = some r) :
    Calls Try.prog 11 #[p0, .int .u64 a1, .int .u64 a2] w fun e w' => e = .returned (.tuple #[.agg #[.int .u64 r.1.ID, .int .i64 r.1.From, .int .i64 r.1.To, .float .f64 r.1.Lo, .float .f64 r.1.Hi, .int .u64 r.1.Authority, .int .i64 r.1.Quota], .bool r.2]) ∧ St w0 w' I [objO at_policy_Book p0 a0] R := by
  rcases a0 with _ | o0
  · skip
    obtain ⟨rfl, hst'⟩ := objO_none hst
    clear hst
    have hst := hst'
    clear hst'
    dsimp only [policy_Book_At] at hm
    refine calls_start (args := [.pointer none, .int .u64 a1, .int .u64 a2]) Try.func11 rfl Try.ntmps11 (Nat.le_of_ble_eq_true rfl) ?_
    refine wp_seq ?_
    refine wp_region_lit ?_
    obtain ⟨b127, w128, ew129, eb130, hst⟩ := hst.box [.int .u64 (0:Int), .int .i64 (0:Int), .int .i64 (0:Int), .float .f64 (0:Nat), .float .f64 (0:Nat), .int .u64 (0:Int), .int .i64 (0:Int)] 30
    refine wl_run (v := .pointer (some ⟨b127, 0, none⟩)) (w' := w128) rfl rfl (x_al (by kernel_rfl) ew129 eb130) ?_
    refine wl_val (v := .bool false) rfl rfl rfl ?_
    refine wl_nil ?_
    refine then_n ?_
    refine wp_seq ?_
    refine wp_seq ?_
    refine wp_region_lit ?_
    refine wl_val (v := .pointer none) rfl rfl rfl ?_
    refine wl_val (v := .bool true) rfl rfl (by kernel_rfl) ?_
    refine wl_nil ?_
    refine then_n ?_
    refine wp_ift rfl ?_
    refine wp_seq ?_
    refine wp_region_lit ?_
    refine wl_val (v := .agg #[.int .u64 (0:Int), .int .i64 (0:Int), .int .i64 (0:Int), .float .f64 (0:Nat), .float .f64 (0:Nat), .int .u64 (0:Int), .int .i64 (0:Int)]) rfl rfl (by kernel_rfl) ?_
    obtain ⟨w132, hr133, hst⟩ := hst.boxStore (P := Try.prog) (t := 30) (cs' := [.int .u64 (0:Int), .int .i64 (0:Int), .int .i64 (0:Int), .float .f64 (0:Nat), .float .f64 (0:Nat), .int .u64 (0:Int), .int .i64 (0:Int)]) 0 (.agg #[.int .u64 (0:Int), .int .i64 (0:Int), .int .i64 (0:Int), .float .f64 (0:Nat), .float .f64 (0:Nat), .int .u64 (0:Int), .int .i64 (0:Int)]) Try.sizeOf30 (Nat.le_of_ble_eq_true rfl) (ones_cons rfl (ones_cons rfl (ones_cons rfl (ones_cons rfl (ones_cons rfl (ones_cons rfl (ones_cons rfl ones_nil))))))) rfl
    refine wl_unit rfl rfl (x_unit hr133) ?_
    refine wl_val (v := .bool false) rfl rfl rfl ?_
    refine wl_nil ?_
    refine then_n ?_
    refine wp_ret ?_
    refine then_r ?_
    replace hst := hst.objO_nil at_policy_Book
    obtain rfl := some_inj hm
    refine post_ret (vs := [.agg #[.int .u64 (0:Int), .int .i64 (0:Int), .int .i64 (0:Int), .float .f64 (0:Nat), .float .f64 (0:Nat), .int .u64 (0:Int), .int .i64 (0:Int)], .bool false]) Try.results11 (rvs_cons (rv_cell (cs := [.int .u64 (0:Int), .int .i64 (0:Int), .int .i64 (0:Int), .float .f64 (0:Nat), .float .f64 (0:Nat), .int .u64 (0:Int), .int .i64 (0:Int)]) rfl Try.isAgg30 Try.sizeOf30 (hst.bcs1 0 rfl)) (rvs_cons (rv_tmp rfl) rvs_nil)) ?_
    exact ⟨rfl, hst.keep1⟩
  · skip
    replace hst := objO_get hst
    dsimp only [policy_Book_At] at hm
    refine calls_start (args := [p0, .int .u64 a1, .int .u64 a2]) Try.func11 rfl Try.ntmps11 (Nat.le_of_ble_eq_true rfl) ?_
    refine wp_seq ?_
    refine wp_region_lit ?_
    obtain ⟨b134, w135, ew136, eb137, hst⟩ := hst.box [.int .u64 (0:Int), .int .i64 (0:Int), .int .i64 (0:Int), .float .f64 (0:Nat), .float .f64 (0:Nat), .int .u64 (0:Int), .int .i64 (0:Int)] 30
    refine wl_run (v := .pointer (some ⟨b134, 0, none⟩)) (w' := w135) rfl rfl (x_al (by kernel_rfl) ew136 eb137) ?_
    refine wl_val (v := .bool false) rfl rfl rfl ?_
    refine wl_nil ?_
    refine then_n ?_
    refine wp_seq ?_
    refine wp_seq ?_
    refine wp_region_lit ?_
    refine wl_val (v := p0) rfl rfl rfl ?_
    replace hst := hst.pull1
    obtain ⟨b139, v140, rfl, hst'⟩ := at_policy_Book_open hst
    clear hst
    have hst := hst'
    clear hst'
    refine wl_val (v := .bool false) rfl rfl (by kernel_rfl) ?_
    refine wl_nil ?_
    refine then_n ?_
    refine wp_iff rfl ?_
    refine wp_skip ?_
    refine then_n ?_
    refine wp_seq ?_
    refine wp_seq ?_
    refine wp_region_lit ?_
    refine wl_val (v := .pointer (some ⟨b139, 0, none⟩)) rfl rfl rfl ?_
    refine wl_val (v := .pointer (some ⟨b139, 0, none⟩)) rfl rfl rfl ?_
    refine wl_val (v := .pointer (some ⟨b139, 0, none⟩)) rfl rfl (x_field rfl Try.underlying64 rfl Try.sizeOf62 rfl) ?_
    refine wl_val (v := v140) rfl rfl (x_load rfl Try.isAgg62 (hst.bc0 rfl)) ?_
    refine wl_val (v := .int .i64 ((o0.l).length : Int)) rfl rfl (x_len rfl Try.underlying62 hst.sv1) ?_
    refine wl_val (v := .int .i64 (IntKind.i64.wrap (((o0.l).length : Int) - (1:Int)))) rfl rfl rfl ?_
    refine wl_val (v := .int .i64 (IntKind.i64.wrap (((o0.l).length : Int) - (1:Int)))) rfl rfl rfl ?_
    refine wl_nil ?_
    refine then_n ?_
    refine wp_block ?_
    replace hst := hst.pull1
    replace hst := hst.pull1
    replace hst := at_policy_Book_close (pv := .pointer (some ⟨b139, 0, none⟩)) (x := o0) hst rfl
    obtain ⟨n195, hm⟩ := loopO_some hm
    refine wp_loop_n (fun n a w => ∃ (z193 : Int) (σ194 : Nat → Value), loopN (policy_Book_At_l0 o0 a1 a2) n z193 = some r ∧ a = Fr 55 (upd (upd (upd (upd (upd σ194 0 (.pointer (some ⟨b139, 0, none⟩))) 1 (.int .u64 a1)) 2 (.int .u64 a2)) 6 (.pointer (some ⟨b134, 0, none⟩))) 8 (.int .i64 z193)) ∧ St w0 w I [at_policy_Book (.pointer (some ⟨b139, 0, none⟩)) o0, cells b134 [.int .u64 (0:Int), .int .i64 (0:Int), .int .i64 (0:Int), .float .f64 (0:Nat), .float .f64 (0:Nat), .int .u64 (0:Int), .int .i64 (0:Int)]] R) n195 ⟨(IntKind.i64.wrap (((o0.l).length : Int) - (1:Int))), _, hm, ((fr_upd (t := 0) (v := .pointer (some ⟨b139, 0, none⟩)) rfl).trans ((fr_upd (t := 1) (v := .int .u64 a1) rfl).trans ((fr_upd (t := 2) (v := .int .u64 a2) rfl).trans ((fr_upd (t := 6) (v := .pointer (some ⟨b134, 0, none⟩)) rfl).trans ((fr_upd (t := 8) (v := .int .i64 (IntKind.i64.wrap (((o0.l).length : Int) - (1:Int)))) rfl).trans rfl))))), hst⟩ ?_
    rintro n201 _ w196 ⟨z193, σ194, hm, rfl, hst⟩
    obtain ⟨n198, y199, rfl, hm, hx200⟩ := loopN_some hm
    dsimp only [policy_Book_At_l0] at hm
    refine wp_seq ?_
    refine wp_seq ?_
    refine wp_region_lit ?_
    refine wl_val (v := .int .i64 z193) rfl rfl rfl ?_
    refine wl_val (v := .bool (decide (z193 ≥ (0:Int)))) rfl rfl rfl ?_
    refine wl_nil ?_
    refine then_n ?_
    refine bsplit (decide (z193 ≥ (0:Int))) (fun hc202 => ?_) (fun hc202 => ?_)
    · skip
      replace hm := bif_t hc202 hm
      refine wp_ift (congrArg Value.bool hc202) ?_
      refine wp_skip ?_
      refine then_n ?_
      refine wp_seq ?_
      refine wp_block ?_
      refine wp_seq ?_
      refine wp_region_lit ?_
      refine wl_val (v := .pointer (some ⟨b139, 0, none⟩)) rfl rfl rfl ?_
      obtain ⟨b203, v204, e206, hst'⟩ := at_policy_Book_open hst
      clear hst
      have e206 := ptr_inj e206
      subst e206
      have hst := hst'
      clear hst'
      refine wl_val (v := .pointer (some ⟨b139, 0, none⟩)) rfl rfl rfl ?_
      refine wl_val (v := .pointer (some ⟨b139, 0, none⟩)) rfl rfl (x_field rfl Try.underlying64 rfl Try.sizeOf62 rfl) ?_
      refine wl_val (v := v204) rfl rfl (x_load rfl Try.isAgg62 (hst.bc0 rfl)) ?_
      refine wl_val (v := .int .i64 z193) rfl rfl rfl ?_
      obtain ⟨x207, hx208, hm⟩ := bind_some hm
      obtain ⟨h209, h210, hi211⟩ := geto_some hx208
      refine wl_val (v := .pointer (some (eAddr v204 (z193.toNat * 9 + 0)))) rfl rfl (x_index rfl rfl Try.underlying62 Try.sizeOf66 hst.sv1 h209 h210) ?_
      refine wl_val (v := .agg #[.int .u64 x207.r.ID, .int .i64 x207.r.From, .int .i64 x207.r.To, .float .f64 x207.r.Lo, .float .f64 x207.r.Hi, .int .u64 x207.r.Authority, .int .i64 x207.r.Quota, .int .u64 x207.from_, .int .u64 x207.to_]) rfl rfl (x_loadN (cs := [.int .u64 x207.r.ID, .int .i64 x207.r.From, .int .i64 x207.r.To, .float .f64 x207.r.Lo, .float .f64 x207.r.Hi, .int .u64 x207.r.Authority, .int .i64 x207.r.Quota, .int .u64 x207.from_, .int .u64 x207.to_]) rfl Try.isAgg66 Try.sizeOf66 (hst.olN1 hi211 0 (by rintro _ rfl; rfl))) ?_
      obtain ⟨b212, w213, ew214, eb215, hst⟩ := hst.box [.int .u64 (0:Int), .int .i64 (0:Int), .int .i64 (0:Int), .float .f64 (0:Nat), .float .f64 (0:Nat), .int .u64 (0:Int), .int .i64 (0:Int), .int .u64 (0:Int), .int .u64 (0:Int)] 66
      refine wl_run (v := .pointer (some ⟨b212, 0, none⟩)) (w' := w213) rfl rfl (x_al (by kernel_rfl) ew214 eb215) ?_
      obtain ⟨w217, hr218, hst⟩ := hst.boxStore (P := Try.prog) (t := 66) (cs' := [.int .u64 x207.r.ID, .int .i64 x207.r.From, .int .i64 x207.r.To, .float .f64 x207.r.Lo, .float .f64 x207.r.Hi, .int .u64 x207.r.Authority, .int .i64 x207.r.Quota, .int .u64 x207.from_, .int .u64 x207.to_]) 0 (.agg #[.int .u64 x207.r.ID, .int .i64 x207.r.From, .int .i64 x207.r.To, .float .f64 x207.r.Lo, .float .f64 x207.r.Hi, .int .u64 x207.r.Authority, .int .i64 x207.r.Quota, .int .u64 x207.from_, .int .u64 x207.to_]) Try.sizeOf66 (Nat.le_of_ble_eq_true rfl) (ones_cons rfl (ones_cons rfl (ones_cons rfl (ones_cons rfl (ones_cons rfl (ones_cons rfl (ones_cons rfl (ones_cons rfl (ones_cons rfl ones_nil))))))))) rfl
      refine wl_unit rfl rfl (x_unit hr218) ?_
      refine wl_nil ?_
      refine then_n ?_
      refine wp_seq ?_
      refine wp_region_lit ?_
      refine wl_val (v := .pointer (some ⟨b212, 0, none⟩)) rfl rfl (x_field rfl Try.underlying66 rfl Try.sizeOf30 rfl) ?_
      refine wl_val (v := .pointer (some ⟨b212, 0, none⟩)) rfl rfl (x_field rfl Try.underlying30 rfl Try.sizeOf27 rfl) ?_
      refine wl_val (v := .int .u64 x207.r.ID) rfl rfl (x_load rfl Try.isAgg27 (hst.bc0 rfl)) ?_
      refine wl_val (v := .int .u64 a1) rfl rfl rfl ?_
      refine wl_val (v := .bool (x207.r.ID == a1)) rfl rfl rfl ?_
      refine wl_val (v := .bool (x207.r.ID == a1)) rfl rfl rfl ?_
      refine bsplit (x207.r.ID == a1) (fun hc219 => ?_) (fun hc219 => ?_)
      · skip
        replace hm := bif_t hc219 hm
        refine wl_val (v := .pointer (some ⟨b212, 7, none⟩)) ((wanted_eq rfl rfl rfl (congrArg Value.bool hc219)).trans rfl) rfl (x_field rfl Try.underlying66 rfl Try.sizeOf27 rfl) ?_
        refine wl_val (v := .int .u64 x207.from_) ((wanted_eq rfl rfl rfl (congrArg Value.bool hc219)).trans rfl) rfl (x_load rfl Try.isAgg27 (hst.bc0 rfl)) ?_
        refine wl_val (v := .int .u64 a2) ((wanted_eq rfl rfl rfl (congrArg Value.bool hc219)).trans rfl) rfl rfl ?_
        refine wl_val (v := .bool (decide (x207.from_ ≤ a2))) ((wanted_eq rfl rfl rfl (congrArg Value.bool hc219)).trans rfl) rfl rfl ?_
        refine wl_val (v := .bool (decide (x207.from_ ≤ a2))) rfl rfl (x_pick_t hc219 rfl rfl) ?_
        refine wl_val (v := .bool (decide (x207.from_ ≤ a2))) rfl rfl rfl ?_
        refine bsplit (decide (x207.from_ ≤ a2)) (fun hc220 => ?_) (fun hc220 => ?_)
        · skip
          replace hm := bif_t hc220 hm
          refine wl_val (v := .pointer (some ⟨b212, 8, none⟩)) ((wanted_eq rfl rfl rfl (congrArg Value.bool hc220)).trans rfl) rfl (x_field rfl Try.underlying66 rfl Try.sizeOf27 rfl) ?_
          refine wl_val (v := .int .u64 x207.to_) ((wanted_eq rfl rfl rfl (congrArg Value.bool hc220)).trans rfl) rfl (x_load rfl Try.isAgg27 (hst.bc0 rfl)) ?_
          refine wl_val (v := .bool (x207.to_ == (0:Int))) ((wanted_eq rfl rfl rfl (congrArg Value.bool hc220)).trans rfl) rfl rfl ?_
          refine wl_val (v := .bool (x207.to_ == (0:Int))) ((wanted_eq rfl rfl rfl (congrArg Value.bool hc220)).trans rfl) rfl rfl ?_
          refine bsplit (x207.to_ == (0:Int)) (fun hc221 => ?_) (fun hc221 => ?_)
          · skip
            replace hm := bif_t hc221 hm
            refine wl_off ((wanted_eq rfl rfl rfl (congrArg Value.bool hc221)).trans rfl) rfl ?_
            refine wl_off ((wanted_eq rfl rfl rfl (congrArg Value.bool hc221)).trans rfl) rfl ?_
            refine wl_off ((wanted_eq rfl rfl rfl (congrArg Value.bool hc221)).trans rfl) rfl ?_
            refine wl_off ((wanted_eq rfl rfl rfl (congrArg Value.bool hc221)).trans rfl) rfl ?_
            refine wl_val (v := .bool true) ((wanted_eq rfl rfl rfl (congrArg Value.bool hc220)).trans rfl) rfl (x_pick_t hc221 rfl rfl) ?_
            refine wl_val (v := .bool true) rfl rfl (x_pick_t hc220 rfl rfl) ?_
            refine wl_nil ?_
            refine then_n ?_
            refine wp_ift rfl ?_
            refine wp_seq ?_
            refine wp_region_lit ?_
            refine wl_val (v := .pointer (some ⟨b212, 0, none⟩)) rfl rfl (x_field rfl Try.underlying66 rfl Try.sizeOf30 rfl) ?_
            refine wl_val (v := .agg #[.int .u64 x207.r.ID, .int .i64 x207.r.From, .int .i64 x207.r.To, .float .f64 x207.r.Lo, .float .f64 x207.r.Hi, .int .u64 x207.r.Authority, .int .i64 x207.r.Quota]) rfl rfl (x_loadN (cs := [.int .u64 x207.r.ID, .int .i64 x207.r.From, .int .i64 x207.r.To, .float .f64 x207.r.Lo, .float .f64 x207.r.Hi, .int .u64 x207.r.Authority, .int .i64 x207.r.Quota]) rfl Try.isAgg30 Try.sizeOf30 (hst.bcs0 0 rfl)) ?_
            replace hst := hst.pull3
            obtain ⟨w222, hr223, hst⟩ := hst.boxStore (P := Try.prog) (t := 30) (cs' := [.int .u64 x207.r.ID, .int .i64 x207.r.From, .int .i64 x207.r.To, .float .f64 x207.r.Lo, .float .f64 x207.r.Hi, .int .u64 x207.r.Authority, .int .i64 x207.r.Quota]) 0 (.agg #[.int .u64 x207.r.ID, .int .i64 x207.r.From, .int .i64 x207.r.To, .float .f64 x207.r.Lo, .float .f64 x207.r.Hi, .int .u64 x207.r.Authority, .int .i64 x207.r.Quota]) Try.sizeOf30 (Nat.le_of_ble_eq_true rfl) (ones_cons rfl (ones_cons rfl (ones_cons rfl (ones_cons rfl (ones_cons rfl (ones_cons rfl (ones_cons rfl ones_nil))))))) rfl
            refine wl_unit rfl rfl (x_unit hr223) ?_
            refine wl_val (v := .bool true) rfl rfl rfl ?_
            refine wl_nil ?_
            refine then_n ?_
            refine wp_ret ?_
            refine blk_r ?_
            refine then_r ?_
            refine then_r ?_
            replace hm := inr_up hm hx200
            refine blk_r ?_
            refine then_r ?_
            replace hst := hst.pull3
            replace hst := hst.pull3
            replace hst := at_policy_Book_close (pv := .pointer (some ⟨b139, 0, none⟩)) (x := o0) hst rfl
            replace hst := objO_some hst
            obtain rfl := some_inj hm
            refine post_ret (vs := [.agg #[.int .u64 x207.r.ID, .int .i64 x207.r.From, .int .i64 x207.r.To, .float .f64 x207.r.Lo, .float .f64 x207.r.Hi, .int .u64 x207.r.Authority, .int .i64 x207.r.Quota], .bool true]) Try.results11 (rvs_cons (rv_cell (cs := [.int .u64 x207.r.ID, .int .i64 x207.r.From, .int .i64 x207.r.To, .float .f64 x207.r.Lo, .float .f64 x207.r.Hi, .int .u64 x207.r.Authority, .int .i64 x207.r.Quota]) rfl Try.isAgg30 Try.sizeOf30 (hst.bcs1 0 rfl)) (rvs_cons (rv_tmp rfl) rvs_nil)) ?_
            exact ⟨rfl, hst.keep1⟩
          · skip
            replace hm := bif_f hc221 hm
            refine wl_val (v := .pointer (some ⟨b212, 8, none⟩)) ((wanted_eq rfl rfl rfl (congrArg Value.bool hc221)).trans rfl) rfl (x_field rfl Try.underlying66 rfl Try.sizeOf27 rfl) ?_
            refine wl_val (v := .int .u64 x207.to_) ((wanted_eq rfl rfl rfl (congrArg Value.bool hc221)).trans rfl) rfl (x_load rfl Try.isAgg27 (hst.bc0 rfl)) ?_
            refine wl_val (v := .int .u64 a2) ((wanted_eq rfl rfl rfl (congrArg Value.bool hc221)).trans rfl) rfl rfl ?_
            refine wl_val (v := .bool (decide (x207.to_ > a2))) ((wanted_eq rfl rfl rfl (congrArg Value.bool hc221)).trans rfl) rfl rfl ?_
            refine wl_val (v := .bool (decide (x207.to_ > a2))) ((wanted_eq rfl rfl rfl (congrArg Value.bool hc220)).trans rfl) rfl (x_pick_f hc221 rfl rfl) ?_
            refine wl_val (v := .bool (decide (x207.to_ > a2))) rfl rfl (x_pick_t hc220 rfl rfl) ?_
            refine wl_nil ?_
            refine then_n ?_
            refine bsplit (decide (x207.to_ > a2)) (fun hc224 => ?_) (fun hc224 => ?_)
            · skip
              replace hm := bif_t hc224 hm
              refine wp_ift (congrArg Value.bool hc224) ?_
              refine wp_seq ?_
              refine wp_region_lit ?_
              refine wl_val (v := .pointer (some ⟨b212, 0, none⟩)) rfl rfl (x_field rfl Try.underlying66 rfl Try.sizeOf30 rfl) ?_
              refine wl_val (v := .agg #[.int .u64 x207.r.ID, .int .i64 x207.r.From, .int .i64 x207.r.To, .float .f64 x207.r.Lo, .float .f64 x207.r.Hi, .int .u64 x207.r.Authority, .int .i64 x207.r.Quota]) rfl rfl (x_loadN (cs := [.int .u64 x207.r.ID, .int .i64 x207.r.From, .int .i64 x207.r.To, .float .f64 x207.r.Lo, .float .f64 x207.r.Hi, .int .u64 x207.r.Authority, .int .i64 x207.r.Quota]) rfl Try.isAgg30 Try.sizeOf30 (hst.bcs0 0 rfl)) ?_
              replace hst := hst.pull3
              obtain ⟨w225, hr226, hst⟩ := hst.boxStore (P := Try.prog) (t := 30) (cs' := [.int .u64 x207.r.ID, .int .i64 x207.r.From, .int .i64 x207.r.To, .float .f64 x207.r.Lo, .float .f64 x207.r.Hi, .int .u64 x207.r.Authority, .int .i64 x207.r.Quota]) 0 (.agg #[.int .u64 x207.r.ID, .int .i64 x207.r.From, .int .i64 x207.r.To, .float .f64 x207.r.Lo, .float .f64 x207.r.Hi, .int .u64 x207.r.Authority, .int .i64 x207.r.Quota]) Try.sizeOf30 (Nat.le_of_ble_eq_true rfl) (ones_cons rfl (ones_cons rfl (ones_cons rfl (ones_cons rfl (ones_cons rfl (ones_cons rfl (ones_cons rfl ones_nil))))))) rfl
              refine wl_unit rfl rfl (x_unit hr226) ?_
              refine wl_val (v := .bool true) rfl rfl rfl ?_
              refine wl_nil ?_
              refine then_n ?_
              refine wp_ret ?_
              refine blk_r ?_
              refine then_r ?_
              refine then_r ?_
              replace hm := inr_up hm hx200
              refine blk_r ?_
              refine then_r ?_
              replace hst := hst.pull3
              replace hst := hst.pull3
              replace hst := at_policy_Book_close (pv := .pointer (some ⟨b139, 0, none⟩)) (x := o0) hst rfl
              replace hst := objO_some hst
              obtain rfl := some_inj hm
              refine post_ret (vs := [.agg #[.int .u64 x207.r.ID, .int .i64 x207.r.From, .int .i64 x207.r.To, .float .f64 x207.r.Lo, .float .f64 x207.r.Hi, .int .u64 x207.r.Authority, .int .i64 x207.r.Quota], .bool true]) Try.results11 (rvs_cons (rv_cell (cs := [.int .u64 x207.r.ID, .int .i64 x207.r.From, .int .i64 x207.r.To, .float .f64 x207.r.Lo, .float .f64 x207.r.Hi, .int .u64 x207.r.Authority, .int .i64 x207.r.Quota]) rfl Try.isAgg30 Try.sizeOf30 (hst.bcs1 0 rfl)) (rvs_cons (rv_tmp rfl) rvs_nil)) ?_
              exact ⟨rfl, hst.keep1⟩
            · skip
              replace hm := bif_f hc224 hm
              refine wp_iff (congrArg Value.bool hc224) ?_
              refine wp_skip ?_
              refine blk_n ?_
              refine then_n ?_
              refine wp_region_lit ?_
              refine wl_val (v := .int .i64 z193) rfl rfl rfl ?_
              refine wl_val (v := .int .i64 (IntKind.i64.wrap (z193 - (1:Int)))) rfl rfl rfl ?_
              refine wl_val (v := .int .i64 (IntKind.i64.wrap (z193 - (1:Int)))) rfl rfl rfl ?_
              refine wl_nil ?_
              refine then_n ?_
              replace hst := hst.pull2
              replace hst := hst.pull2
              replace hst := at_policy_Book_close (pv := .pointer (some ⟨b139, 0, none⟩)) (x := o0) hst rfl
              replace hst := hst.pull2
              replace hst := hst.pull1
              replace hst := hst.keep2
              obtain rfl := some_inj hm
              exact ⟨_, Nat.lt_succ_self _, (IntKind.i64.wrap (z193 - (1:Int))), _, hx200, ((fr_upd (t := 0) (v := .pointer (some ⟨b139, 0, none⟩)) rfl).trans ((fr_upd (t := 1) (v := .int .u64 a1) rfl).trans ((fr_upd (t := 2) (v := .int .u64 a2) rfl).trans ((fr_upd (t := 6) (v := .pointer (some ⟨b134, 0, none⟩)) rfl).trans ((fr_upd (t := 8) (v := .int .i64 (IntKind.i64.wrap (z193 - (1:Int)))) rfl).trans rfl))))), hst⟩
        · skip
          replace hm := bif_f hc220 hm
          refine wl_off ((wanted_eq rfl rfl rfl (congrArg Value.bool hc220)).trans rfl) rfl ?_
          refine wl_off ((wanted_eq rfl rfl rfl (congrArg Value.bool hc220)).trans rfl) rfl ?_
          refine wl_off ((wanted_eq rfl rfl rfl (congrArg Value.bool hc220)).trans rfl) rfl ?_
          refine wl_off ((wanted_eq rfl rfl rfl (congrArg Value.bool hc220)).trans rfl) rfl ?_
          refine wl_off (wanted_undef rfl rfl rfl rfl) rfl ?_
          refine wl_off (wanted_undef rfl rfl rfl rfl) rfl ?_
          refine wl_off (wanted_undef rfl rfl rfl rfl) rfl ?_
          refine wl_off (wanted_undef rfl rfl rfl rfl) rfl ?_
          refine wl_off ((wanted_eq rfl rfl rfl (congrArg Value.bool hc220)).trans rfl) rfl ?_
          refine wl_val (v := .bool false) rfl rfl (x_pick_f hc220 rfl rfl) ?_
          refine wl_nil ?_
          refine then_n ?_
          refine wp_iff rfl ?_
          refine wp_skip ?_
          refine blk_n ?_
          refine then_n ?_
          refine wp_region_lit ?_
          refine wl_val (v := .int .i64 z193) rfl rfl rfl ?_
          refine wl_val (v := .int .i64 (IntKind.i64.wrap (z193 - (1:Int)))) rfl rfl rfl ?_
          refine wl_val (v := .int .i64 (IntKind.i64.wrap (z193 - (1:Int)))) rfl rfl rfl ?_
          refine wl_nil ?_
          refine then_n ?_
          replace hst := hst.pull2
          replace hst := hst.pull2
          replace hst := at_policy_Book_close (pv := .pointer (some ⟨b139, 0, none⟩)) (x := o0) hst rfl
          replace hst := hst.pull2
          replace hst := hst.pull1
          replace hst := hst.keep2
          obtain rfl := some_inj hm
          exact ⟨_, Nat.lt_succ_self _, (IntKind.i64.wrap (z193 - (1:Int))), _, hx200, ((fr_upd (t := 0) (v := .pointer (some ⟨b139, 0, none⟩)) rfl).trans ((fr_upd (t := 1) (v := .int .u64 a1) rfl).trans ((fr_upd (t := 2) (v := .int .u64 a2) rfl).trans ((fr_upd (t := 6) (v := .pointer (some ⟨b134, 0, none⟩)) rfl).trans ((fr_upd (t := 8) (v := .int .i64 (IntKind.i64.wrap (z193 - (1:Int)))) rfl).trans rfl))))), hst⟩
      · skip
        replace hm := bif_f hc219 hm
        refine wl_off ((wanted_eq rfl rfl rfl (congrArg Value.bool hc219)).trans rfl) rfl ?_
        refine wl_off ((wanted_eq rfl rfl rfl (congrArg Value.bool hc219)).trans rfl) rfl ?_
        refine wl_off ((wanted_eq rfl rfl rfl (congrArg Value.bool hc219)).trans rfl) rfl ?_
        refine wl_off ((wanted_eq rfl rfl rfl (congrArg Value.bool hc219)).trans rfl) rfl ?_
        refine wl_val (v := .bool false) rfl rfl (x_pick_f hc219 rfl rfl) ?_
        refine wl_val (v := .bool false) rfl rfl rfl ?_
        refine wl_off ((wanted_eq rfl rfl rfl rfl).trans rfl) rfl ?_
        refine wl_off ((wanted_eq rfl rfl rfl rfl).trans rfl) rfl ?_
        refine wl_off ((wanted_eq rfl rfl rfl rfl).trans rfl) rfl ?_
        refine wl_off ((wanted_eq rfl rfl rfl rfl).trans rfl) rfl ?_
        refine wl_off (wanted_undef rfl rfl rfl rfl) rfl ?_
        refine wl_off (wanted_undef rfl rfl rfl rfl) rfl ?_
        refine wl_off (wanted_undef rfl rfl rfl rfl) rfl ?_
        refine wl_off (wanted_undef rfl rfl rfl rfl) rfl ?_
        refine wl_off ((wanted_eq rfl rfl rfl rfl).trans rfl) rfl ?_
        refine wl_val (v := .bool false) rfl rfl (x_pick_f rfl rfl rfl) ?_
        refine wl_nil ?_
        refine then_n ?_
        refine wp_iff rfl ?_
        refine wp_skip ?_
        refine blk_n ?_
        refine then_n ?_
        refine wp_region_lit ?_
        refine wl_val (v := .int .i64 z193) rfl rfl rfl ?_
        refine wl_val (v := .int .i64 (IntKind.i64.wrap (z193 - (1:Int)))) rfl rfl rfl ?_
        refine wl_val (v := .int .i64 (IntKind.i64.wrap (z193 - (1:Int)))) rfl rfl rfl ?_
        refine wl_nil ?_
        refine then_n ?_
        replace hst := hst.pull2
        replace hst := hst.pull2
        replace hst := at_policy_Book_close (pv := .pointer (some ⟨b139, 0, none⟩)) (x := o0) hst rfl
        replace hst := hst.pull2
        replace hst := hst.pull1
        replace hst := hst.keep2
        obtain rfl := some_inj hm
        exact ⟨_, Nat.lt_succ_self _, (IntKind.i64.wrap (z193 - (1:Int))), _, hx200, ((fr_upd (t := 0) (v := .pointer (some ⟨b139, 0, none⟩)) rfl).trans ((fr_upd (t := 1) (v := .int .u64 a1) rfl).trans ((fr_upd (t := 2) (v := .int .u64 a2) rfl).trans ((fr_upd (t := 6) (v := .pointer (some ⟨b134, 0, none⟩)) rfl).trans ((fr_upd (t := 8) (v := .int .i64 (IntKind.i64.wrap (z193 - (1:Int)))) rfl).trans rfl))))), hst⟩
    · skip
      replace hm := bif_f hc202 hm
      refine wp_iff (congrArg Value.bool hc202) ?_
      refine wp_exit ?_
      refine then_x ?_
      refine then_x ?_
      replace hm := inr_up hm hx200
      refine blk_x ?_
      refine then_n ?_
      refine wp_seq ?_
      refine wp_region_lit ?_
      refine wl_val (v := .agg #[.int .u64 (0:Int), .int .i64 (0:Int), .int .i64 (0:Int), .float .f64 (0:Nat), .float .f64 (0:Nat), .int .u64 (0:Int), .int .i64 (0:Int)]) rfl rfl (by kernel_rfl) ?_
      replace hst := hst.pull1
      obtain ⟨w227, hr228, hst⟩ := hst.boxStore (P := Try.prog) (t := 30) (cs' := [.int .u64 (0:Int), .int .i64 (0:Int), .int .i64 (0:Int), .float .f64 (0:Nat), .float .f64 (0:Nat), .int .u64 (0:Int), .int .i64 (0:Int)]) 0 (.agg #[.int .u64 (0:Int), .int .i64 (0:Int), .int .i64 (0:Int), .float .f64 (0:Nat), .float .f64 (0:Nat), .int .u64 (0:Int), .int .i64 (0:Int)]) Try.sizeOf30 (Nat.le_of_ble_eq_true rfl) (ones_cons rfl (ones_cons rfl (ones_cons rfl (ones_cons rfl (ones_cons rfl (ones_cons rfl (ones_cons rfl ones_nil))))))) rfl
      refine wl_unit rfl rfl (x_unit hr228) ?_
      refine wl_val (v := .bool false) rfl rfl rfl ?_
      refine wl_nil ?_
      refine then_n ?_
      refine wp_ret ?_
      replace hst := hst.pull1
      replace hst := objO_some hst
      obtain rfl := some_inj hm
      refine post_ret (vs := [.agg #[.int .u64 (0:Int), .int .i64 (0:Int), .int .i64 (0:Int), .float .f64 (0:Nat), .float .f64 (0:Nat), .int .u64 (0:Int), .int .i64 (0:Int)], .bool false]) Try.results11 (rvs_cons (rv_cell (cs := [.int .u64 (0:Int), .int .i64 (0:Int), .int .i64 (0:Int), .float .f64 (0:Nat), .float .f64 (0:Nat), .int .u64 (0:Int), .int .i64 (0:Int)]) rfl Try.isAgg30 Try.sizeOf30 (hst.bcs1 0 rfl)) (rvs_cons (rv_tmp rfl) rvs_nil)) ?_
      exact ⟨rfl, hst.keep1⟩

theorem law15_awake_ref {w0 w : World} {I : HL} {R : SP}   (hst : St w0 w I [] R) {r : (Bool)} (hm : law15_awake = some r) :
    Calls Try.prog 8 #[] w fun e w' => e = .returned (.bool r) ∧ St w0 w' I [] R := by
  unfold law15_awake at hm
  refine calls_start (args := []) Try.func8 rfl Try.ntmps8 (Nat.le_of_ble_eq_true rfl) ?_
  refine wp_seq ?_
  refine wp_region_lit ?_
  refine wl_val (v := .bool false) rfl rfl rfl ?_
  refine wl_nil ?_
  refine then_n ?_
  refine wp_seq ?_
  refine wp_region_lit ?_
  obtain ⟨t62, ht63, hm⟩ := bind_some hm
  refine wl_call rfl rfl (x_call Try.call9 rfl (vs := []) rfl) ?_
  refine (policy_New_ref hst.to0 ht63).mono ?_
  rintro _ w64 ⟨v67, rfl, hst⟩
  refine ⟨_, rfl, ?_⟩
  replace hst := hst.of1
  refine wl_val (v := v67) rfl rfl rfl ?_
  refine wl_nil ?_
  refine then_n ?_
  refine wp_seq ?_
  refine wp_region_lit ?_
  refine wl_val (v := v67) rfl rfl rfl ?_
  refine wl_val (v := .agg #[.int .u64 (5:Int), .int .i64 (0:Int), .int .i64 (0:Int), .float .f64 (0:Nat), .float .f64 (0:Nat), .int .u64 (0:Int), .int .i64 (1:Int)]) rfl rfl (by kernel_rfl) ?_
  replace hst := objO_some hst
  obtain ⟨t69, ht70, hm⟩ := bind_some hm
  refine wl_call rfl rfl (x_call Try.call10 rfl (vs := [v67, .agg #[.int .u64 (5:Int), .int .i64 (0:Int), .int .i64 (0:Int), .float .f64 (0:Nat), .float .f64 (0:Nat), .int .u64 (0:Int), .int .i64 (1:Int)], .int .u64 (2:Int)]) rfl) ?_
  refine (policy_Book_Grant_ref hst.to1 ht70).mono ?_
  rintro _ w71 ⟨rfl, hst⟩
  refine ⟨_, rfl, ?_⟩
  replace hst := hst.of1
  rcases he75 : t69 with _ | y74
  · rw [he75] at hm; cases hm
  rw [he75] at hm hst; dsimp only at hm; replace hst := objO_get hst
  refine wl_nil ?_
  refine then_n ?_
  refine wp_seq ?_
  refine wp_region_lit ?_
  refine wl_val (v := v67) rfl rfl rfl ?_
  replace hst := objO_some hst
  obtain ⟨t76, ht77, hm⟩ := bind_some hm
  refine wl_call rfl rfl (x_call Try.call13 rfl (vs := [v67, .int .u64 (5:Int), .int .u64 (4:Int)]) rfl) ?_
  refine (policy_Book_Revoke_ref hst.to1 ht77).mono ?_
  rintro _ w78 ⟨rfl, hst⟩
  refine ⟨_, rfl, ?_⟩
  replace hst := hst.of1
  rcases he82 : t76.2 with _ | y81
  · rw [he82] at hm; cases hm
  rw [he82] at hm hst; dsimp only at hm; replace hst := objO_get hst
  refine wl_nil ?_
  refine then_n ?_
  refine wp_seq ?_
  refine wp_region_lit ?_
  refine wl_val (v := v67) rfl rfl rfl ?_
  replace hst := objO_some hst
  obtain ⟨t83, ht84, hm⟩ := bind_some hm
  refine wl_call rfl rfl (x_call Try.call11 rfl (vs := [v67, .int .u64 (5:Int), .int .u64 (1:Int)]) rfl) ?_
  refine (policy_Book_At_ref hst.to1 ht84).mono ?_
  rintro _ w85 ⟨rfl, hst⟩
  refine ⟨_, rfl, ?_⟩
  replace hst := hst.of1
  replace hst := objO_get hst
  refine wl_val (v := .tuple #[.agg #[.int .u64 t83.1.ID, .int .i64 t83.1.From, .int .i64 t83.1.To, .float .f64 t83.1.Lo, .float .f64 t83.1.Hi, .int .u64 t83.1.Authority, .int .i64 t83.1.Quota], .bool t83.2]) rfl rfl rfl ?_
  refine wl_val (v := .agg #[.int .u64 t83.1.ID, .int .i64 t83.1.From, .int .i64 t83.1.To, .float .f64 t83.1.Lo, .float .f64 t83.1.Hi, .int .u64 t83.1.Authority, .int .i64 t83.1.Quota]) rfl rfl rfl ?_
  refine wl_val (v := .bool t83.2) rfl rfl rfl ?_
  obtain ⟨b88, w89, ew90, eb91, hst⟩ := hst.box [.int .u64 (0:Int), .int .i64 (0:Int), .int .i64 (0:Int), .float .f64 (0:Nat), .float .f64 (0:Nat), .int .u64 (0:Int), .int .i64 (0:Int)] 30
  refine wl_run (v := .pointer (some ⟨b88, 0, none⟩)) (w' := w89) rfl rfl (x_al (by kernel_rfl) ew90 eb91) ?_
  obtain ⟨w93, hr94, hst⟩ := hst.boxStore (P := Try.prog) (t := 30) (cs' := [.int .u64 t83.1.ID, .int .i64 t83.1.From, .int .i64 t83.1.To, .float .f64 t83.1.Lo, .float .f64 t83.1.Hi, .int .u64 t83.1.Authority, .int .i64 t83.1.Quota]) 0 (.agg #[.int .u64 t83.1.ID, .int .i64 t83.1.From, .int .i64 t83.1.To, .float .f64 t83.1.Lo, .float .f64 t83.1.Hi, .int .u64 t83.1.Authority, .int .i64 t83.1.Quota]) Try.sizeOf30 (Nat.le_of_ble_eq_true rfl) (ones_cons rfl (ones_cons rfl (ones_cons rfl (ones_cons rfl (ones_cons rfl (ones_cons rfl (ones_cons rfl ones_nil))))))) rfl
  refine wl_unit rfl rfl (x_unit hr94) ?_
  refine wl_val (v := .bool t83.2) rfl rfl rfl ?_
  refine wl_nil ?_
  refine then_n ?_
  refine wp_seq ?_
  refine wp_region_lit ?_
  refine wl_val (v := v67) rfl rfl rfl ?_
  replace hst := hst.pull1
  replace hst := objO_some hst
  obtain ⟨t95, ht96, hm⟩ := bind_some hm
  refine wl_call rfl rfl (x_call Try.call11 rfl (vs := [v67, .int .u64 (5:Int), .int .u64 (3:Int)]) rfl) ?_
  refine (policy_Book_At_ref hst.to1 ht96).mono ?_
  rintro _ w97 ⟨rfl, hst⟩
  refine ⟨_, rfl, ?_⟩
  replace hst := hst.of1
  replace hst := objO_get hst
  refine wl_val (v := .tuple #[.agg #[.int .u64 t95.1.ID, .int .i64 t95.1.From, .int .i64 t95.1.To, .float .f64 t95.1.Lo, .float .f64 t95.1.Hi, .int .u64 t95.1.Authority, .int .i64 t95.1.Quota], .bool t95.2]) rfl rfl rfl ?_
  refine wl_val (v := .agg #[.int .u64 t95.1.ID, .int .i64 t95.1.From, .int .i64 t95.1.To, .float .f64 t95.1.Lo, .float .f64 t95.1.Hi, .int .u64 t95.1.Authority, .int .i64 t95.1.Quota]) rfl rfl rfl ?_
  refine wl_val (v := .bool t95.2) rfl rfl rfl ?_
  obtain ⟨b100, w101, ew102, eb103, hst⟩ := hst.box [.int .u64 (0:Int), .int .i64 (0:Int), .int .i64 (0:Int), .float .f64 (0:Nat), .float .f64 (0:Nat), .int .u64 (0:Int), .int .i64 (0:Int)] 30
  refine wl_run (v := .pointer (some ⟨b100, 0, none⟩)) (w' := w101) rfl rfl (x_al (by kernel_rfl) ew102 eb103) ?_
  obtain ⟨w105, hr106, hst⟩ := hst.boxStore (P := Try.prog) (t := 30) (cs' := [.int .u64 t95.1.ID, .int .i64 t95.1.From, .int .i64 t95.1.To, .float .f64 t95.1.Lo, .float .f64 t95.1.Hi, .int .u64 t95.1.Authority, .int .i64 t95.1.Quota]) 0 (.agg #[.int .u64 t95.1.ID, .int .i64 t95.1.From, .int .i64 t95.1.To, .float .f64 t95.1.Lo, .float .f64 t95.1.Hi, .int .u64 t95.1.Authority, .int .i64 t95.1.Quota]) Try.sizeOf30 (Nat.le_of_ble_eq_true rfl) (ones_cons rfl (ones_cons rfl (ones_cons rfl (ones_cons rfl (ones_cons rfl (ones_cons rfl (ones_cons rfl ones_nil))))))) rfl
  refine wl_unit rfl rfl (x_unit hr106) ?_
  refine wl_val (v := .bool t95.2) rfl rfl rfl ?_
  refine wl_nil ?_
  refine then_n ?_
  refine wp_seq ?_
  refine wp_region_lit ?_
  refine wl_val (v := v67) rfl rfl rfl ?_
  replace hst := hst.pull1
  replace hst := objO_some hst
  obtain ⟨t107, ht108, hm⟩ := bind_some hm
  refine wl_call rfl rfl (x_call Try.call11 rfl (vs := [v67, .int .u64 (5:Int), .int .u64 (4:Int)]) rfl) ?_
  refine (policy_Book_At_ref hst.to1 ht108).mono ?_
  rintro _ w109 ⟨rfl, hst⟩
  refine ⟨_, rfl, ?_⟩
  replace hst := hst.of1
  replace hst := objO_get hst
  refine wl_val (v := .tuple #[.agg #[.int .u64 t107.1.ID, .int .i64 t107.1.From, .int .i64 t107.1.To, .float .f64 t107.1.Lo, .float .f64 t107.1.Hi, .int .u64 t107.1.Authority, .int .i64 t107.1.Quota], .bool t107.2]) rfl rfl rfl ?_
  refine wl_val (v := .agg #[.int .u64 t107.1.ID, .int .i64 t107.1.From, .int .i64 t107.1.To, .float .f64 t107.1.Lo, .float .f64 t107.1.Hi, .int .u64 t107.1.Authority, .int .i64 t107.1.Quota]) rfl rfl rfl ?_
  refine wl_val (v := .bool t107.2) rfl rfl rfl ?_
  obtain ⟨b112, w113, ew114, eb115, hst⟩ := hst.box [.int .u64 (0:Int), .int .i64 (0:Int), .int .i64 (0:Int), .float .f64 (0:Nat), .float .f64 (0:Nat), .int .u64 (0:Int), .int .i64 (0:Int)] 30
  refine wl_run (v := .pointer (some ⟨b112, 0, none⟩)) (w' := w113) rfl rfl (x_al (by kernel_rfl) ew114 eb115) ?_
  obtain ⟨w117, hr118, hst⟩ := hst.boxStore (P := Try.prog) (t := 30) (cs' := [.int .u64 t107.1.ID, .int .i64 t107.1.From, .int .i64 t107.1.To, .float .f64 t107.1.Lo, .float .f64 t107.1.Hi, .int .u64 t107.1.Authority, .int .i64 t107.1.Quota]) 0 (.agg #[.int .u64 t107.1.ID, .int .i64 t107.1.From, .int .i64 t107.1.To, .float .f64 t107.1.Lo, .float .f64 t107.1.Hi, .int .u64 t107.1.Authority, .int .i64 t107.1.Quota]) Try.sizeOf30 (Nat.le_of_ble_eq_true rfl) (ones_cons rfl (ones_cons rfl (ones_cons rfl (ones_cons rfl (ones_cons rfl (ones_cons rfl (ones_cons rfl ones_nil))))))) rfl
  refine wl_unit rfl rfl (x_unit hr118) ?_
  refine wl_val (v := .bool t107.2) rfl rfl rfl ?_
  refine wl_nil ?_
  refine then_n ?_
  refine wp_seq ?_
  refine wp_region_lit ?_
  refine wl_val (v := .bool t83.2) rfl rfl rfl ?_
  refine wl_val (v := .bool (!t83.2)) rfl rfl rfl ?_
  refine wl_val (v := .bool (!t83.2)) rfl rfl rfl ?_
  refine bsplit (!t83.2) (fun hc119 => ?_) (fun hc119 => ?_)
  · skip
    replace hm := bif_t hc119 hm
    refine wl_val (v := .bool t95.2) ((wanted_eq rfl rfl rfl (congrArg Value.bool hc119)).trans rfl) rfl rfl ?_
    refine wl_val (v := .bool t95.2) rfl rfl (x_pick_t hc119 rfl rfl) ?_
    refine wl_val (v := .bool t95.2) rfl rfl rfl ?_
    refine bsplit t95.2 (fun hc120 => ?_) (fun hc120 => ?_)
    · skip
      replace hm := bif_t hc120 hm
      refine wl_val (v := .pointer (some ⟨b100, 6, none⟩)) ((wanted_eq rfl rfl rfl (congrArg Value.bool hc120)).trans rfl) rfl (x_field rfl Try.underlying30 rfl Try.sizeOf3 rfl) ?_
      refine wl_val (v := .int .i64 t95.1.Quota) ((wanted_eq rfl rfl rfl (congrArg Value.bool hc120)).trans rfl) rfl (x_load rfl Try.isAgg3 (hst.bc2 rfl)) ?_
      refine wl_val (v := .bool (t95.1.Quota == (1:Int))) ((wanted_eq rfl rfl rfl (congrArg Value.bool hc120)).trans rfl) rfl rfl ?_
      refine wl_val (v := .bool (t95.1.Quota == (1:Int))) rfl rfl (x_pick_t hc120 rfl rfl) ?_
      refine wl_val (v := .bool (t95.1.Quota == (1:Int))) rfl rfl rfl ?_
      refine bsplit (t95.1.Quota == (1:Int)) (fun hc121 => ?_) (fun hc121 => ?_)
      · skip
        replace hm := bif_t hc121 hm
        refine wl_val (v := .bool t107.2) ((wanted_eq rfl rfl rfl (congrArg Value.bool hc121)).trans rfl) rfl rfl ?_
        refine wl_val (v := .bool (!t107.2)) ((wanted_eq rfl rfl rfl (congrArg Value.bool hc121)).trans rfl) rfl rfl ?_
        refine wl_val (v := .bool (!t107.2)) rfl rfl (x_pick_t hc121 rfl rfl) ?_
        refine wl_val (v := .bool (!t107.2)) rfl rfl rfl ?_
        refine wl_nil ?_
        refine then_n ?_
        refine wp_ret ?_
        obtain rfl := some_inj hm
        refine post_ret (vs := [.bool (!t107.2)]) Try.results8 (rvs_cons (rv_tmp rfl) rvs_nil) ?_
        exact ⟨rfl, hst.keep0⟩
      · skip
        replace hm := bif_f hc121 hm
        refine wl_off ((wanted_eq rfl rfl rfl (congrArg Value.bool hc121)).trans rfl) rfl ?_
        refine wl_off ((wanted_eq rfl rfl rfl (congrArg Value.bool hc121)).trans rfl) rfl ?_
        refine wl_val (v := .bool false) rfl rfl (x_pick_f hc121 rfl rfl) ?_
        refine wl_val (v := .bool false) rfl rfl rfl ?_
        refine wl_nil ?_
        refine then_n ?_
        refine wp_ret ?_
        obtain rfl := some_inj hm
        refine post_ret (vs := [.bool false]) Try.results8 (rvs_cons (rv_tmp rfl) rvs_nil) ?_
        exact ⟨rfl, hst.keep0⟩
    · skip
      replace hm := bif_f hc120 hm
      refine wl_off ((wanted_eq rfl rfl rfl (congrArg Value.bool hc120)).trans rfl) rfl ?_
      refine wl_off ((wanted_eq rfl rfl rfl (congrArg Value.bool hc120)).trans rfl) rfl ?_
      refine wl_off ((wanted_eq rfl rfl rfl (congrArg Value.bool hc120)).trans rfl) rfl ?_
      refine wl_val (v := .bool false) rfl rfl (x_pick_f hc120 rfl rfl) ?_
      refine wl_val (v := .bool false) rfl rfl rfl ?_
      refine wl_off ((wanted_eq rfl rfl rfl rfl).trans rfl) rfl ?_
      refine wl_off ((wanted_eq rfl rfl rfl rfl).trans rfl) rfl ?_
      refine wl_val (v := .bool false) rfl rfl (x_pick_f rfl rfl rfl) ?_
      refine wl_val (v := .bool false) rfl rfl rfl ?_
      refine wl_nil ?_
      refine then_n ?_
      refine wp_ret ?_
      obtain rfl := some_inj hm
      refine post_ret (vs := [.bool false]) Try.results8 (rvs_cons (rv_tmp rfl) rvs_nil) ?_
      exact ⟨rfl, hst.keep0⟩
  · skip
    replace hm := bif_f hc119 hm
    refine wl_off ((wanted_eq rfl rfl rfl (congrArg Value.bool hc119)).trans rfl) rfl ?_
    refine wl_val (v := .bool false) rfl rfl (x_pick_f hc119 rfl rfl) ?_
    refine wl_val (v := .bool false) rfl rfl rfl ?_
    refine wl_off ((wanted_eq rfl rfl rfl rfl).trans rfl) rfl ?_
    refine wl_off ((wanted_eq rfl rfl rfl rfl).trans rfl) rfl ?_
    refine wl_off ((wanted_eq rfl rfl rfl rfl).trans rfl) rfl ?_
    refine wl_val (v := .bool false) rfl rfl (x_pick_f rfl rfl rfl) ?_
    refine wl_val (v := .bool false) rfl rfl rfl ?_
    refine wl_off ((wanted_eq rfl rfl rfl rfl).trans rfl) rfl ?_
    refine wl_off ((wanted_eq rfl rfl rfl rfl).trans rfl) rfl ?_
    refine wl_val (v := .bool false) rfl rfl (x_pick_f rfl rfl rfl) ?_
    refine wl_val (v := .bool false) rfl rfl rfl ?_
    refine wl_nil ?_
    refine then_n ?_
    refine wp_ret ?_
    obtain rfl := some_inj hm
    refine post_ret (vs := [.bool false]) Try.results8 (rvs_cons (rv_tmp rfl) rvs_nil) ?_
    exact ⟨rfl, hst.keep0⟩

theorem ref12_Tape_Next_ref {w0 w : World} {I : HL} {R : SP} {a0 : ref12_Tape} {p0 : Value} {a1 : Int}  (hst : St w0 w I [at_ref12_Tape p0 a0] R) {r : (Int × ref12_Tape)} (hm : ref12_Tape_Next a0 a1 = some r) :
    Calls Try.prog 15 #[p0, .int .i64 a1] w fun e w' => e = .returned (.int .i64 r.1) ∧ St w0 w' I [at_ref12_Tape p0 r.2] R := by
  unfold ref12_Tape_Next at hm
  refine calls_start (args := [p0, .int .i64 a1]) Try.func15 rfl Try.ntmps15 (Nat.le_of_ble_eq_true rfl) ?_
  refine wp_seq ?_
  refine wp_region_lit ?_
  refine wl_val (v := .int .i64 (0:Int)) rfl rfl rfl ?_
  refine wl_nil ?_
  refine then_n ?_
  refine wp_seq ?_
  refine wp_seq ?_
  obtain ⟨b50, v51, ⟨rfl, f53⟩, hst'⟩ := at_ref12_Tape_open hst
  clear hst
  have hst := hst'
  clear hst'
  refine wq_regionS hst Try.mixed (by kernel_rfl) ?_
  refine wq_run (v := .pointer (some ⟨b50, 0, none⟩)) rfl rfl (fun w hst => rfl) ?_
  refine wq_run (v := .pointer (some ⟨b50, 0, none⟩)) rfl rfl (fun w hst => rfl) ?_
  refine wq_run (v := .pointer (some ⟨b50, 1, none⟩)) rfl rfl (fun w hst => x_field rfl Try.underlying41 rfl Try.sizeOf3 rfl) ?_
  refine wq_run (v := .int .i64 a0.I) rfl rfl (fun w hst => x_load rfl Try.isAgg3 (hst.bc0 rfl)) ?_
  refine wq_run (v := .pointer (some ⟨b50, 0, none⟩)) rfl rfl (fun w hst => rfl) ?_
  refine wq_run (v := .pointer (some ⟨b50, 0, none⟩)) rfl rfl (fun w hst => rfl) ?_
  refine wq_run (v := .pointer (some ⟨b50, 0, none⟩)) rfl rfl (fun w hst => x_field rfl Try.underlying41 rfl Try.sizeOf23 rfl) ?_
  refine wq_run (v := v51) rfl rfl (fun w hst => x_load rfl Try.isAgg23 (hst.bc0 rfl)) ?_
  refine wq_run (v := .int .i64 ((a0.L).length : Int)) rfl rfl (fun w hst => x_len rfl Try.underlying23 (ro_sliceV f53)) ?_
  refine wq_run (v := .bool (decide (a0.I ≥ ((a0.L).length : Int)))) rfl rfl (fun w hst => rfl) ?_
  refine wq_nil ?_
  intro w hst
  refine then_n ?_
  refine bsplit (decide (a0.I ≥ ((a0.L).length : Int))) (fun hc54 => ?_) (fun hc54 => ?_)
  · skip
    replace hm := bif_t hc54 hm
    refine wp_ift (congrArg Value.bool hc54) ?_
    refine wp_seq ?_
    refine wp_region_lit ?_
    refine wl_val (v := .int .i64 (0:Int)) rfl rfl rfl ?_
    refine wl_nil ?_
    refine then_n ?_
    refine wp_ret ?_
    refine then_r ?_
    replace hst := at_ref12_Tape_close (pv := .pointer (some ⟨b50, 0, none⟩)) (x := a0) hst ⟨rfl, f53⟩
    obtain rfl := some_inj hm
    refine post_ret (vs := [.int .i64 (0:Int)]) Try.results15 (rvs_cons (rv_tmp rfl) rvs_nil) ?_
    exact ⟨rfl, hst.keep1⟩
  · skip
    replace hm := bif_f hc54 hm
    refine wp_iff (congrArg Value.bool hc54) ?_
    refine wp_skip ?_
    refine then_n ?_
    refine wp_seq ?_
    refine wp_region_lit ?_
    refine wl_val (v := .pointer (some ⟨b50, 0, none⟩)) rfl rfl rfl ?_
    refine wl_val (v := .pointer (some ⟨b50, 0, none⟩)) rfl rfl rfl ?_
    refine wl_val (v := .pointer (some ⟨b50, 1, none⟩)) rfl rfl (x_field rfl Try.underlying41 rfl Try.sizeOf3 rfl) ?_
    refine wl_val (v := .int .i64 a0.I) rfl rfl (x_load rfl Try.isAgg3 (hst.bc0 rfl)) ?_
    refine wl_val (v := .int .i64 (IntKind.i64.wrap (a0.I + (1:Int)))) rfl rfl rfl ?_
    refine wl_val (v := .pointer (some ⟨b50, 0, none⟩)) rfl rfl rfl ?_
    refine wl_val (v := .pointer (some ⟨b50, 1, none⟩)) rfl rfl (x_field rfl Try.underlying41 rfl Try.sizeOf3 rfl) ?_
    obtain ⟨w55, hr56, hst⟩ := hst.boxStore (P := Try.prog) (t := 3) (cs' := [v51, .int .i64 (IntKind.i64.wrap (a0.I + (1:Int)))]) 1 (.int .i64 (IntKind.i64.wrap (a0.I + (1:Int)))) Try.sizeOf3 (Nat.le_of_ble_eq_true rfl) (ones_cons rfl ones_nil) rfl
    refine wl_unit rfl rfl (x_unit hr56) ?_
    refine wl_nil ?_
    refine then_n ?_
    refine wp_seq ?_
    refine wq_regionS hst Try.mixed (by kernel_rfl) ?_
    refine wq_run (v := .pointer (some ⟨b50, 0, none⟩)) rfl rfl (fun w hst => rfl) ?_
    refine wq_run (v := .pointer (some ⟨b50, 0, none⟩)) rfl rfl (fun w hst => rfl) ?_
    refine wq_run (v := .pointer (some ⟨b50, 0, none⟩)) rfl rfl (fun w hst => x_field rfl Try.underlying41 rfl Try.sizeOf23 rfl) ?_
    refine wq_run (v := v51) rfl rfl (fun w hst => x_load rfl Try.isAgg23 (hst.bc0 rfl)) ?_
    refine wq_run (v := .pointer (some ⟨b50, 0, none⟩)) rfl rfl (fun w hst => rfl) ?_
    refine wq_run (v := .pointer (some ⟨b50, 0, none⟩)) rfl rfl (fun w hst => rfl) ?_
    refine wq_run (v := .pointer (some ⟨b50, 1, none⟩)) rfl rfl (fun w hst => x_field rfl Try.underlying41 rfl Try.sizeOf3 rfl) ?_
    refine wq_run (v := .int .i64 (IntKind.i64.wrap (a0.I + (1:Int)))) rfl rfl (fun w hst => x_load rfl Try.isAgg3 (hst.bc0 rfl)) ?_
    refine wq_run (v := .int .i64 (IntKind.i64.wrap ((IntKind.i64.wrap (a0.I + (1:Int))) - (1:Int)))) rfl rfl (fun w hst => rfl) ?_
    obtain ⟨x57, hx58, hm⟩ := bind_some hm
    obtain ⟨h59, h60, hi61⟩ := geto_some hx58
    refine wq_run (v := .pointer (some (eAddr v51 ((IntKind.i64.wrap ((IntKind.i64.wrap (a0.I + (1:Int))) - (1:Int))).toNat * 1 + 0)))) rfl rfl (fun w hst => x_index rfl rfl Try.underlying23 Try.sizeOf5 (ro_sliceV f53) h59 h60) ?_
    refine wq_run (v := .int .u8 x57) rfl rfl (fun w hst => x_load rfl Try.isAgg5 (ro_load f53 hst hi61 (by rintro _ rfl; rfl))) ?_
    refine wq_run (v := .int .i64 (IntKind.i64.wrap x57)) rfl rfl (fun w hst => by kernel_rfl) ?_
    refine wq_run (v := .int .i64 a1) rfl rfl (fun w hst => rfl) ?_
    obtain ⟨hg62, hm⟩ := gd_some hm
    refine wq_run (v := .int .i64 (Int.tmod (IntKind.i64.wrap x57) a1)) rfl rfl (fun w hst => x_rem (not_t hg62) rfl rfl) ?_
    refine wq_run (v := .int .i64 (Int.tmod (IntKind.i64.wrap x57) a1)) rfl rfl (fun w hst => rfl) ?_
    refine wq_nil ?_
    intro w hst
    refine then_n ?_
    refine wp_ret ?_
    replace hst := at_ref12_Tape_close (pv := .pointer (some ⟨b50, 0, none⟩)) (x := ({ L := a0.L, I := (IntKind.i64.wrap (a0.I + (1:Int))) } : ref12_Tape)) hst ⟨rfl, f53⟩
    obtain rfl := some_inj hm
    refine post_ret (vs := [.int .i64 (Int.tmod (IntKind.i64.wrap x57) a1)]) Try.results15 (rvs_cons (rv_tmp rfl) rvs_nil) ?_
    exact ⟨rfl, hst.keep1⟩

theorem ref12_small_ref {w0 w : World} {I : HL} {R : SP} {a0 : Int}  (hst : St w0 w I [] R) {r : (Nat)} (hm : ref12_small a0 = some r) :
    Calls Try.prog 38 #[.int .u8 a0] w fun e w' => e = .returned (.float .f64 r) ∧ St w0 w' I [] R := by
  unfold ref12_small at hm
  refine calls_start (args := [.int .u8 a0]) Try.func38 rfl Try.ntmps38 (Nat.le_of_ble_eq_true rfl) ?_
  refine wp_seq ?_
  refine wp_region_lit ?_
  refine wl_val (v := .float .f64 (0:Nat)) rfl rfl rfl ?_
  refine wl_nil ?_
  refine then_n ?_
  refine wp_seq ?_
  refine wp_region_lit ?_
  obtain ⟨b89, w90, ew91, eb92, hst⟩ := hst.lits (E := tyF64) (xs := [(0:Nat), (4607182418800017408:Nat), (13830554455654793216:Nat), (4612811918334230528:Nat), (9094988921128908188:Nat), (18318360957983683996:Nat), (4602678819172646912:Nat), (4613937818241073152:Nat)]) [[.float .f64 (0:Nat)], [.float .f64 (4607182418800017408:Nat)], [.float .f64 (13830554455654793216:Nat)], [.float .f64 (4612811918334230528:Nat)], [.float .f64 (9094988921128908188:Nat)], [.float .f64 (18318360957983683996:Nat)], [.float .f64 (4602678819172646912:Nat)], [.float .f64 (4613937818241073152:Nat)]] 28 8 rfl (Reps.cons rfl (Reps.cons rfl (Reps.cons rfl (Reps.cons rfl (Reps.cons rfl (Reps.cons rfl (Reps.cons rfl (Reps.cons rfl Reps.nil))))))))
  refine wl_run (v := (.slice (some ⟨b89, 0, none⟩) 8 8)) (w' := w90) rfl rfl (x_als (by kernel_rfl) ew91 eb92) ?_
  refine wl_val (v := (.slice (some ⟨b89, 0, none⟩) 8 8)) rfl rfl rfl ?_
  refine wl_nil ?_
  refine then_n ?_
  refine wp_seq ?_
  refine wp_region_lit ?_
  refine wl_val (v := (.slice (some ⟨b89, 0, none⟩) 8 8)) rfl rfl rfl ?_
  refine wl_val (v := .int .u8 a0) rfl rfl rfl ?_
  refine wl_val (v := .int .u8 (Int.tmod a0 (8:Int))) rfl rfl (x_rem (by decide) rfl rfl) ?_
  obtain ⟨x94, hx95, hm⟩ := bind_some hm
  obtain ⟨h96, h97, hi98⟩ := geto_some hx95
  refine wl_val (v := .pointer (some (eAddr (.slice (some ⟨b89, 0, none⟩) 8 8) ((Int.tmod a0 (8:Int)).toNat * 1 + 0)))) rfl rfl (x_index rfl rfl Try.underlying86 Try.sizeOf28 hst.sv0 h96 h97) ?_
  refine wl_val (v := .float .f64 x94) rfl rfl (x_load rfl Try.isAgg28 (hst.ol0 hi98 (by rintro _ rfl; rfl))) ?_
  refine wl_val (v := .float .f64 x94) rfl rfl rfl ?_
  refine wl_nil ?_
  refine then_n ?_
  refine wp_ret ?_
  obtain rfl := some_inj hm
  refine post_ret (vs := [.float .f64 x94]) Try.results38 (rvs_cons (rv_tmp rfl) rvs_nil) ?_
  exact ⟨rfl, hst.keep0⟩

theorem ref12_Tape_Float_ref {w0 w : World} {I : HL} {R : SP} {a0 : ref12_Tape} {p0 : Value}  (hst : St w0 w I [at_ref12_Tape p0 a0] R) {r : (Nat × ref12_Tape)} (hm : ref12_Tape_Float a0 = some r) :
    Calls Try.prog 24 #[p0] w fun e w' => e = .returned (.float .f64 r.1) ∧ St w0 w' I [at_ref12_Tape p0 r.2] R := by
  unfold ref12_Tape_Float at hm
  refine calls_start (args := [p0]) Try.func24 rfl Try.ntmps24 (Nat.le_of_ble_eq_true rfl) ?_
  refine wp_seq ?_
  refine wp_region_lit ?_
  refine wl_val (v := .float .f64 (0:Nat)) rfl rfl rfl ?_
  refine wl_nil ?_
  refine then_n ?_
  refine wp_seq ?_
  refine wp_region_lit ?_
  refine wl_val (v := p0) rfl rfl rfl ?_
  obtain ⟨t85, ht86, hm⟩ := bind_some hm
  refine wl_call rfl rfl (x_call Try.call15 rfl (vs := [p0, .int .i64 (8:Int)]) rfl) ?_
  refine (ref12_Tape_Next_ref hst.to1 ht86).mono ?_
  rintro _ w87 ⟨rfl, hst⟩
  refine ⟨_, rfl, ?_⟩
  replace hst := hst.of1
  refine wl_val (v := .int .u8 (IntKind.u8.wrap t85.1)) rfl rfl (by kernel_rfl) ?_
  obtain ⟨t90, ht91, hm⟩ := bind_some hm
  refine wl_call rfl rfl (x_call Try.call38 rfl (vs := [.int .u8 (IntKind.u8.wrap t85.1)]) rfl) ?_
  refine (ref12_small_ref hst.to0 ht91).mono ?_
  rintro _ w92 ⟨rfl, hst⟩
  refine ⟨_, rfl, ?_⟩
  replace hst := hst.of0
  refine wl_val (v := .float .f64 t90) rfl rfl rfl ?_
  refine wl_nil ?_
  refine then_n ?_
  refine wp_ret ?_
  obtain rfl := some_inj hm
  refine post_ret (vs := [.float .f64 t90]) Try.results24 (rvs_cons (rv_tmp rfl) rvs_nil) ?_
  exact ⟨rfl, hst.keep1⟩

theorem ref13_OfRule_ref {w0 w : World} {I : HL} {R : SP} {a0 : ref12_Tape} {p0 : Value}  (hst : St w0 w I [at_ref12_Tape p0 a0] R) {r : (api_Rule × ref12_Tape)} (hm : ref13_OfRule a0 = some r) :
    Calls Try.prog 16 #[p0] w fun e w' => e = .returned (.agg #[.int .u64 r.1.ID, .int .i64 r.1.From, .int .i64 r.1.To, .float .f64 r.1.Lo, .float .f64 r.1.Hi, .int .u64 r.1.Authority, .int .i64 r.1.Quota]) ∧ St w0 w' I [at_ref12_Tape p0 r.2] R := by
  unfold ref13_OfRule at hm
  refine calls_start (args := [p0]) Try.func16 rfl Try.ntmps16 (Nat.le_of_ble_eq_true rfl) ?_
  refine wp_seq ?_
  refine wp_region_lit ?_
  obtain ⟨b96, w97, ew98, eb99, hst⟩ := hst.box [.int .u64 (0:Int), .int .i64 (0:Int), .int .i64 (0:Int), .float .f64 (0:Nat), .float .f64 (0:Nat), .int .u64 (0:Int), .int .i64 (0:Int)] 30
  refine wl_run (v := .pointer (some ⟨b96, 0, none⟩)) (w' := w97) rfl rfl (x_al (by kernel_rfl) ew98 eb99) ?_
  refine wl_nil ?_
  refine then_n ?_
  refine wp_seq ?_
  refine wp_region_lit ?_
  refine wl_val (v := p0) rfl rfl rfl ?_
  replace hst := hst.pull1
  obtain ⟨t101, ht102, hm⟩ := bind_some hm
  refine wl_call rfl rfl (x_call Try.call15 rfl (vs := [p0, .int .i64 (3:Int)]) rfl) ?_
  refine (ref12_Tape_Next_ref hst.to1 ht102).mono ?_
  rintro _ w103 ⟨rfl, hst⟩
  refine ⟨_, rfl, ?_⟩
  replace hst := hst.of1
  refine wl_val (v := .int .u64 (IntKind.u64.wrap t101.1)) rfl rfl (by kernel_rfl) ?_
  refine wl_val (v := p0) rfl rfl rfl ?_
  obtain ⟨t106, ht107, hm⟩ := bind_some hm
  refine wl_call rfl rfl (x_call Try.call15 rfl (vs := [p0, .int .i64 (4:Int)]) rfl) ?_
  refine (ref12_Tape_Next_ref hst.to1 ht107).mono ?_
  rintro _ w108 ⟨rfl, hst⟩
  refine ⟨_, rfl, ?_⟩
  replace hst := hst.of1
  refine wl_val (v := p0) rfl rfl rfl ?_
  obtain ⟨t111, ht112, hm⟩ := bind_some hm
  refine wl_call rfl rfl (x_call Try.call15 rfl (vs := [p0, .int .i64 (4:Int)]) rfl) ?_
  refine (ref12_Tape_Next_ref hst.to1 ht112).mono ?_
  rintro _ w113 ⟨rfl, hst⟩
  refine ⟨_, rfl, ?_⟩
  replace hst := hst.of1
  refine wl_val (v := p0) rfl rfl rfl ?_
  obtain ⟨t116, ht117, hm⟩ := bind_some hm
  refine wl_call rfl rfl (x_call Try.call24 rfl (vs := [p0]) rfl) ?_
  refine (ref12_Tape_Float_ref hst.to1 ht117).mono ?_
  rintro _ w118 ⟨rfl, hst⟩
  refine ⟨_, rfl, ?_⟩
  replace hst := hst.of1
  refine wl_val (v := p0) rfl rfl rfl ?_
  obtain ⟨t121, ht122, hm⟩ := bind_some hm
  refine wl_call rfl rfl (x_call Try.call24 rfl (vs := [p0]) rfl) ?_
  refine (ref12_Tape_Float_ref hst.to1 ht122).mono ?_
  rintro _ w123 ⟨rfl, hst⟩
  refine ⟨_, rfl, ?_⟩
  replace hst := hst.of1
  refine wl_val (v := p0) rfl rfl rfl ?_
  obtain ⟨t126, ht127, hm⟩ := bind_some hm
  refine wl_call rfl rfl (x_call Try.call15 rfl (vs := [p0, .int .i64 (2:Int)]) rfl) ?_
  refine (ref12_Tape_Next_ref hst.to1 ht127).mono ?_
  rintro _ w128 ⟨rfl, hst⟩
  refine ⟨_, rfl, ?_⟩
  replace hst := hst.of1
  refine wl_val (v := .int .u64 (IntKind.u64.wrap t126.1)) rfl rfl (by kernel_rfl) ?_
  refine wl_val (v := p0) rfl rfl rfl ?_
  obtain ⟨t131, ht132, hm⟩ := bind_some hm
  refine wl_call rfl rfl (x_call Try.call15 rfl (vs := [p0, .int .i64 (3:Int)]) rfl) ?_
  refine (ref12_Tape_Next_ref hst.to1 ht132).mono ?_
  rintro _ w133 ⟨rfl, hst⟩
  refine ⟨_, rfl, ?_⟩
  replace hst := hst.of1
  refine wl_val (v := .agg #[.int .u64 (IntKind.u64.wrap t101.1), .int .i64 t106.1, .int .i64 t111.1, .float .f64 t116.1, .float .f64 t121.1, .int .u64 (IntKind.u64.wrap t126.1), .int .i64 t131.1]) rfl rfl (by kernel_rfl) ?_
  replace hst := hst.pull1
  obtain ⟨w136, hr137, hst⟩ := hst.boxStore (P := Try.prog) (t := 30) (cs' := [.int .u64 (IntKind.u64.wrap t101.1), .int .i64 t106.1, .int .i64 t111.1, .float .f64 t116.1, .float .f64 t121.1, .int .u64 (IntKind.u64.wrap t126.1), .int .i64 t131.1]) 0 (.agg #[.int .u64 (IntKind.u64.wrap t101.1), .int .i64 t106.1, .int .i64 t111.1, .float .f64 t116.1, .float .f64 t121.1, .int .u64 (IntKind.u64.wrap t126.1), .int .i64 t131.1]) Try.sizeOf30 (Nat.le_of_ble_eq_true rfl) (ones_cons rfl (ones_cons rfl (ones_cons rfl (ones_cons rfl (ones_cons rfl (ones_cons rfl (ones_cons rfl ones_nil))))))) rfl
  refine wl_unit rfl rfl (x_unit hr137) ?_
  refine wl_nil ?_
  refine then_n ?_
  refine wp_ret ?_
  obtain rfl := some_inj hm
  refine post_ret (vs := [.agg #[.int .u64 (IntKind.u64.wrap t101.1), .int .i64 t106.1, .int .i64 t111.1, .float .f64 t116.1, .float .f64 t121.1, .int .u64 (IntKind.u64.wrap t126.1), .int .i64 t131.1]]) Try.results16 (rvs_cons (rv_cell (cs := [.int .u64 (IntKind.u64.wrap t101.1), .int .i64 t106.1, .int .i64 t111.1, .float .f64 t116.1, .float .f64 t121.1, .int .u64 (IntKind.u64.wrap t126.1), .int .i64 t131.1]) rfl Try.isAgg30 Try.sizeOf30 (hst.bcs0 0 rfl)) rvs_nil) ?_
  replace hst := hst.pull1
  exact ⟨rfl, hst.keep1⟩

theorem ref11_Revoke_ref {w0 w : World} {I : HL} {R : SP} {a0 : (List ref11_Line)} {r0_0 : Value} {a1 : Int} {a2 : Int} (f0_0 : Rd ty_ref11_Line R I r0_0 a0) (hst : St w0 w I [] R) {r : ((List ref11_Line) × Bool)} (hm : ref11_Revoke a0 a1 a2 = some r) :
    Calls Try.prog 17 #[r0_0, .int .u64 a1, .int .u64 a2] w fun e w' => ∃ (q0_0 : Value), e = .returned (.tuple #[q0_0, .bool r.2]) ∧ St w0 w' I [ownS ty_ref11_Line q0_0 r.1] R := by
  unfold ref11_Revoke at hm
  refine calls_start (args := [r0_0, .int .u64 a1, .int .u64 a2]) Try.func17 rfl Try.ntmps17 (Nat.le_of_ble_eq_true rfl) ?_
  refine wp_seq ?_
  refine wp_region_lit ?_
  refine wl_val (v := (.slice none 0 0)) rfl rfl rfl ?_
  refine wl_val (v := .bool false) rfl rfl rfl ?_
  refine wl_nil ?_
  refine then_n ?_
  refine wp_seq ?_
  refine wp_region_lit ?_
  refine wl_val (v := (.slice none 0 0)) rfl rfl rfl ?_
  refine wl_nil ?_
  refine then_n ?_
  refine wp_seq ?_
  refine wp_region_lit ?_
  refine wl_val (v := .bool false) rfl rfl rfl ?_
  refine wl_nil ?_
  refine then_n ?_
  obtain ⟨y246, hm, hx247⟩ := bind_some hm
  refine wp_cut (fun a w => ∃ (z243 : Int) (σ244 : Nat → Value), (ref11_Revoke_j0 a0 a1) z243 = some r ∧ a = Fr 42 (upd (upd (upd (upd (upd σ244 0 (r0_0)) 1 (.int .u64 a1)) 2 (.int .u64 z243)) 8 ((.slice none 0 0))) 9 (.bool false)) ∧ St w0 w I [] R) ?_ ?_
  · skip
    refine wp_seq ?_
    refine wp_region_lit ?_
    refine wl_val (v := .int .u64 a2) rfl rfl rfl ?_
    refine wl_val (v := .bool (a2 == (0:Int))) rfl rfl rfl ?_
    refine wl_nil ?_
    refine then_n ?_
    refine bsplit (a2 == (0:Int)) (fun hc242 => ?_) (fun hc242 => ?_)
    · skip
      replace hm := bif_t hc242 hm
      refine wp_ift (congrArg Value.bool hc242) ?_
      refine wp_region_lit ?_
      refine wl_val (v := .int .u64 (1:Int)) rfl rfl rfl ?_
      refine wl_nil ?_
      refine then_n ?_
      replace hst := hst.keep0
      obtain rfl := some_inj hm
      exact ⟨(1:Int), _, hx247, ((fr_upd (t := 0) (v := r0_0) rfl).trans ((fr_upd (t := 1) (v := .int .u64 a1) rfl).trans ((fr_upd (t := 2) (v := .int .u64 (1:Int)) rfl).trans ((fr_upd (t := 8) (v := (.slice none 0 0)) rfl).trans ((fr_upd (t := 9) (v := .bool false) rfl).trans rfl))))), hst⟩
    · skip
      replace hm := bif_f hc242 hm
      refine wp_iff (congrArg Value.bool hc242) ?_
      refine wp_skip ?_
      refine then_n ?_
      replace hst := hst.keep0
      obtain rfl := some_inj hm
      exact ⟨a2, _, hx247, ((fr_upd (t := 0) (v := r0_0) rfl).trans ((fr_upd (t := 1) (v := .int .u64 a1) rfl).trans ((fr_upd (t := 2) (v := .int .u64 a2) rfl).trans ((fr_upd (t := 8) (v := (.slice none 0 0)) rfl).trans ((fr_upd (t := 9) (v := .bool false) rfl).trans rfl))))), hst⟩
  · skip
    clear hst
    rintro _ w248 ⟨z243, σ244, hm, rfl, hst⟩
    dsimp only [ref11_Revoke_j0] at hm
    obtain ⟨y405, hm, hx406⟩ := bind_some hm
    refine wp_cut (fun a w => ∃ (z401 : (List ref11_Line)) (z402 : Bool) (v400 : Value) (σ403 : Nat → Value), (ref11_Revoke_j1) (z401, z402) = some r ∧ a = Fr 42 (upd (upd σ403 8 (v400)) 9 (.bool z402)) ∧ St w0 w I [ownS ty_ref11_Line v400 z401] R) ?_ ?_
    · skip
      refine wp_seq ?_
      refine wp_region_lit ?_
      refine wl_val (v := .int .i64 (0:Int)) rfl rfl rfl ?_
      refine wl_nil ?_
      refine then_n ?_
      refine wp_block ?_
      replace hst := hst.own_nil ty_ref11_Line
      obtain ⟨n359, hm⟩ := loopO_some hm
      refine wp_loop_n (fun n a w => ∃ (z353 : Int) (z354 : (List ref11_Line)) (z357 : Bool) (v355 : Value) (σ358 : Nat → Value), loopN (ref11_Revoke_l2 a0 a1 z243) n (z353, z354, z357) = some y405 ∧ a = Fr 42 (upd (upd (upd (upd (upd (upd σ358 0 (r0_0)) 1 (.int .u64 a1)) 2 (.int .u64 z243)) 8 (v355)) 9 (.bool z357)) 10 (.int .i64 z353)) ∧ St w0 w I [ownS ty_ref11_Line v355 z354] R) n359 ⟨(0:Int), [], false, (.slice none 0 0), _, hm, ((fr_upd (t := 0) (v := r0_0) rfl).trans ((fr_upd (t := 1) (v := .int .u64 a1) rfl).trans ((fr_upd (t := 2) (v := .int .u64 z243) rfl).trans ((fr_upd (t := 8) (v := (.slice none 0 0)) rfl).trans ((fr_upd (t := 9) (v := .bool false) rfl).trans ((fr_upd (t := 10) (v := .int .i64 (0:Int)) rfl).trans rfl)))))), hst⟩ ?_
      rintro n365 _ w360 ⟨z353, z354, z357, v355, σ358, hm, rfl, hst⟩
      obtain ⟨n362, y363, rfl, hm, hx364⟩ := loopN_some hm
      dsimp only [ref11_Revoke_l2] at hm
      refine wp_seq ?_
      refine wp_seq ?_
      refine wp_region_lit ?_
      refine wl_val (v := .int .i64 z353) rfl rfl rfl ?_
      refine wl_val (v := r0_0) rfl rfl rfl ?_
      refine wl_val (v := .int .i64 ((a0).length : Int)) rfl rfl (x_len rfl Try.underlying42 (rd_sliceV f0_0)) ?_
      refine wl_val (v := .bool (decide (z353 < ((a0).length : Int)))) rfl rfl rfl ?_
      refine wl_nil ?_
      refine then_n ?_
      refine bsplit (decide (z353 < ((a0).length : Int))) (fun hc366 => ?_) (fun hc366 => ?_)
      · skip
        replace hm := bif_t hc366 hm
        refine wp_ift (congrArg Value.bool hc366) ?_
        refine wp_skip ?_
        refine then_n ?_
        refine wp_seq ?_
        refine wp_block ?_
        refine wp_seq ?_
        refine wp_region_lit ?_
        refine wl_val (v := r0_0) rfl rfl rfl ?_
        refine wl_val (v := .int .i64 z353) rfl rfl rfl ?_
        obtain ⟨x367, hx368, hm⟩ := bind_some hm
        obtain ⟨h369, h370, hi371⟩ := geto_some hx368
        refine wl_val (v := .pointer (some (eAddr r0_0 (z353.toNat * 9 + 0)))) rfl rfl (x_index rfl rfl Try.underlying42 Try.sizeOf48 (rd_sliceV f0_0) h369 h370) ?_
        refine wl_val (v := .agg #[.int .u64 x367.R.ID, .int .i64 x367.R.From, .int .i64 x367.R.To, .float .f64 x367.R.Lo, .float .f64 x367.R.Hi, .int .u64 x367.R.Authority, .int .i64 x367.R.Quota, .int .u64 x367.From, .int .u64 x367.To]) rfl rfl (x_loadN (cs := [.int .u64 x367.R.ID, .int .i64 x367.R.From, .int .i64 x367.R.To, .float .f64 x367.R.Lo, .float .f64 x367.R.Hi, .int .u64 x367.R.Authority, .int .i64 x367.R.Quota, .int .u64 x367.From, .int .u64 x367.To]) rfl Try.isAgg48 Try.sizeOf48 (rd_loadN f0_0 (HL.le.refl _) hst hi371 0 (by rintro _ rfl; rfl))) ?_
        obtain ⟨b372, w373, ew374, eb375, hst⟩ := hst.box [.int .u64 (0:Int), .int .i64 (0:Int), .int .i64 (0:Int), .float .f64 (0:Nat), .float .f64 (0:Nat), .int .u64 (0:Int), .int .i64 (0:Int), .int .u64 (0:Int), .int .u64 (0:Int)] 48
        refine wl_run (v := .pointer (some ⟨b372, 0, none⟩)) (w' := w373) rfl rfl (x_al (by kernel_rfl) ew374 eb375) ?_
        obtain ⟨w377, hr378, hst⟩ := hst.boxStore (P := Try.prog) (t := 48) (cs' := [.int .u64 x367.R.ID, .int .i64 x367.R.From, .int .i64 x367.R.To, .float .f64 x367.R.Lo, .float .f64 x367.R.Hi, .int .u64 x367.R.Authority, .int .i64 x367.R.Quota, .int .u64 x367.From, .int .u64 x367.To]) 0 (.agg #[.int .u64 x367.R.ID, .int .i64 x367.R.From, .int .i64 x367.R.To, .float .f64 x367.R.Lo, .float .f64 x367.R.Hi, .int .u64 x367.R.Authority, .int .i64 x367.R.Quota, .int .u64 x367.From, .int .u64 x367.To]) Try.sizeOf48 (Nat.le_of_ble_eq_true rfl) (ones_cons rfl (ones_cons rfl (ones_cons rfl (ones_cons rfl (ones_cons rfl (ones_cons rfl (ones_cons rfl (ones_cons rfl (ones_cons rfl ones_nil))))))))) rfl
        refine wl_unit rfl rfl (x_unit hr378) ?_
        refine wl_nil ?_
        refine then_n ?_
        obtain ⟨y387, hm, hx388⟩ := bind_some hm
        refine wp_cut (fun a w => ∃ (z383 : Bool) (z384 : Int) (σ385 : Nat → Value), (ref11_Revoke_j3 z354 x367 z353) (z383, z384) = some y363 ∧ a = Fr 42 (upd (upd (upd (upd (upd (upd (upd σ385 0 (r0_0)) 1 (.int .u64 a1)) 2 (.int .u64 z243)) 8 (v355)) 9 (.bool z383)) 10 (.int .i64 z353)) 11 (.pointer (some ⟨b372, 0, none⟩))) ∧ St w0 w I [ownS ty_ref11_Line v355 z354, cells b372 [.int .u64 x367.R.ID, .int .i64 x367.R.From, .int .i64 x367.R.To, .float .f64 x367.R.Lo, .float .f64 x367.R.Hi, .int .u64 x367.R.Authority, .int .i64 x367.R.Quota, .int .u64 x367.From, .int .u64 z384]] R) ?_ ?_
        · skip
          refine wp_seq ?_
          refine wp_region_lit ?_
          refine wl_val (v := .pointer (some ⟨b372, 0, none⟩)) rfl rfl (x_field rfl Try.underlying48 rfl Try.sizeOf30 rfl) ?_
          refine wl_val (v := .pointer (some ⟨b372, 0, none⟩)) rfl rfl (x_field rfl Try.underlying30 rfl Try.sizeOf27 rfl) ?_
          refine wl_val (v := .int .u64 x367.R.ID) rfl rfl (x_load rfl Try.isAgg27 (hst.bc0 rfl)) ?_
          refine wl_val (v := .int .u64 a1) rfl rfl rfl ?_
          refine wl_val (v := .bool (x367.R.ID == a1)) rfl rfl rfl ?_
          refine wl_val (v := .bool (x367.R.ID == a1)) rfl rfl rfl ?_
          refine bsplit (x367.R.ID == a1) (fun hc379 => ?_) (fun hc379 => ?_)
          · skip
            replace hm := bif_t hc379 hm
            refine wl_val (v := .pointer (some ⟨b372, 8, none⟩)) ((wanted_eq rfl rfl rfl (congrArg Value.bool hc379)).trans rfl) rfl (x_field rfl Try.underlying48 rfl Try.sizeOf27 rfl) ?_
            refine wl_val (v := .int .u64 x367.To) ((wanted_eq rfl rfl rfl (congrArg Value.bool hc379)).trans rfl) rfl (x_load rfl Try.isAgg27 (hst.bc0 rfl)) ?_
            refine wl_val (v := .bool (x367.To == (0:Int))) ((wanted_eq rfl rfl rfl (congrArg Value.bool hc379)).trans rfl) rfl rfl ?_
            refine wl_val (v := .bool (x367.To == (0:Int))) rfl rfl (x_pick_t hc379 rfl rfl) ?_
            refine wl_nil ?_
            refine then_n ?_
            refine bsplit (x367.To == (0:Int)) (fun hc380 => ?_) (fun hc380 => ?_)
            · skip
              replace hm := bif_t hc380 hm
              refine wp_ift (congrArg Value.bool hc380) ?_
              refine wp_seq ?_
              refine wp_region_lit ?_
              refine wl_val (v := .int .u64 z243) rfl rfl rfl ?_
              refine wl_val (v := .pointer (some ⟨b372, 8, none⟩)) rfl rfl (x_field rfl Try.underlying48 rfl Try.sizeOf27 rfl) ?_
              obtain ⟨w381, hr382, hst⟩ := hst.boxStore (P := Try.prog) (t := 27) (cs' := [.int .u64 x367.R.ID, .int .i64 x367.R.From, .int .i64 x367.R.To, .float .f64 x367.R.Lo, .float .f64 x367.R.Hi, .int .u64 x367.R.Authority, .int .i64 x367.R.Quota, .int .u64 x367.From, .int .u64 z243]) 8 (.int .u64 z243) Try.sizeOf27 (Nat.le_of_ble_eq_true rfl) (ones_cons rfl ones_nil) rfl
              refine wl_unit rfl rfl (x_unit hr382) ?_
              refine wl_nil ?_
              refine then_n ?_
              refine wp_region_lit ?_
              refine wl_val (v := .bool true) rfl rfl rfl ?_
              refine wl_nil ?_
              refine then_n ?_
              replace hst := hst.pull1
              replace hst := hst.keep2
              obtain rfl := some_inj hm
              exact ⟨true, z243, _, hx388, ((fr_upd (t := 0) (v := r0_0) rfl).trans ((fr_upd (t := 1) (v := .int .u64 a1) rfl).trans ((fr_upd (t := 2) (v := .int .u64 z243) rfl).trans ((fr_upd (t := 8) (v := v355) rfl).trans ((fr_upd (t := 9) (v := .bool true) rfl).trans ((fr_upd (t := 10) (v := .int .i64 z353) rfl).trans ((fr_upd (t := 11) (v := .pointer (some ⟨b372, 0, none⟩)) rfl).trans rfl))))))), hst⟩
            · skip
              replace hm := bif_f hc380 hm
              refine wp_iff (congrArg Value.bool hc380) ?_
              refine wp_skip ?_
              refine then_n ?_
              replace hst := hst.pull1
              replace hst := hst.keep2
              obtain rfl := some_inj hm
              exact ⟨z357, x367.To, _, hx388, ((fr_upd (t := 0) (v := r0_0) rfl).trans ((fr_upd (t := 1) (v := .int .u64 a1) rfl).trans ((fr_upd (t := 2) (v := .int .u64 z243) rfl).trans ((fr_upd (t := 8) (v := v355) rfl).trans ((fr_upd (t := 9) (v := .bool z357) rfl).trans ((fr_upd (t := 10) (v := .int .i64 z353) rfl).trans ((fr_upd (t := 11) (v := .pointer (some ⟨b372, 0, none⟩)) rfl).trans rfl))))))), hst⟩
          · skip
            replace hm := bif_f hc379 hm
            refine wl_off ((wanted_eq rfl rfl rfl (congrArg Value.bool hc379)).trans rfl) rfl ?_
            refine wl_off ((wanted_eq rfl rfl rfl (congrArg Value.bool hc379)).trans rfl) rfl ?_
            refine wl_off ((wanted_eq rfl rfl rfl (congrArg Value.bool hc379)).trans rfl) rfl ?_
            refine wl_val (v := .bool false) rfl rfl (x_pick_f hc379 rfl rfl) ?_
            refine wl_nil ?_
            refine then_n ?_
            refine wp_iff rfl ?_
            refine wp_skip ?_
            refine then_n ?_
            replace hst := hst.pull1
            replace hst := hst.keep2
            obtain rfl := some_inj hm
            exact ⟨z357, x367.To, _, hx388, ((fr_upd (t := 0) (v := r0_0) rfl).trans ((fr_upd (t := 1) (v := .int .u64 a1) rfl).trans ((fr_upd (t := 2) (v := .int .u64 z243) rfl).trans ((fr_upd (t := 8) (v := v355) rfl).trans ((fr_upd (t := 9) (v := .bool z357) rfl).trans ((fr_upd (t := 10) (v := .int .i64 z353) rfl).trans ((fr_upd (t := 11) (v := .pointer (some ⟨b372, 0, none⟩)) rfl).trans rfl))))))), hst⟩
        · skip
          clear hst
          rintro _ w389 ⟨z383, z384, σ385, hm, rfl, hst⟩
          dsimp only [ref11_Revoke_j3] at hm
          refine wp_region_lit ?_
          refine wl_val (v := v355) rfl rfl rfl ?_
          refine wl_val (v := .agg #[.int .u64 x367.R.ID, .int .i64 x367.R.From, .int .i64 x367.R.To, .float .f64 x367.R.Lo, .float .f64 x367.R.Hi, .int .u64 x367.R.Authority, .int .i64 x367.R.Quota, .int .u64 x367.From, .int .u64 z384]) rfl rfl (x_loadN (cs := [.int .u64 x367.R.ID, .int .i64 x367.R.From, .int .i64 x367.R.To, .float .f64 x367.R.Lo, .float .f64 x367.R.Hi, .int .u64 x367.R.Authority, .int .i64 x367.R.Quota, .int .u64 x367.From, .int .u64 z384]) rfl Try.isAgg48 Try.sizeOf48 (hst.bcs1 0 rfl)) ?_
          obtain ⟨b390, w391, ew392, eb393, hst⟩ := hst.lits (E := ty_ref11_Line) (xs := [({ R := x367.R, From := x367.From, To := z384 } : ref11_Line)]) [[.int .u64 x367.R.ID, .int .i64 x367.R.From, .int .i64 x367.R.To, .float .f64 x367.R.Lo, .float .f64 x367.R.Hi, .int .u64 x367.R.Authority, .int .i64 x367.R.Quota, .int .u64 x367.From, .int .u64 z384]] 48 1 rfl (Reps.cons rfl Reps.nil)
          refine wl_run (v := (.slice (some ⟨b390, 0, none⟩) 1 1)) (w' := w391) rfl rfl (x_als (by kernel_rfl) ew392 eb393) ?_
          obtain ⟨hg395, hm⟩ := gd_some hm
          replace hst := hst.pull1
          obtain ⟨v396, w397, hr398, hst⟩ := run_append elem_42 Try.underlying42 hst hst.src1 (room_of hg395 rfl) 42
          refine wl_run (v := v396) (w' := w397) rfl rfl (x_append rfl rfl hr398) ?_
          refine wl_val (v := v396) rfl rfl rfl ?_
          refine wl_nil ?_
          refine blk_n ?_
          refine then_n ?_
          refine wp_region_lit ?_
          refine wl_val (v := .int .i64 z353) rfl rfl rfl ?_
          refine wl_val (v := .int .i64 (IntKind.i64.wrap (z353 + (1:Int)))) rfl rfl rfl ?_
          refine wl_val (v := .int .i64 (IntKind.i64.wrap (z353 + (1:Int)))) rfl rfl rfl ?_
          refine wl_nil ?_
          refine then_n ?_
          replace hst := hst.keep1
          obtain rfl := some_inj hm
          exact ⟨_, Nat.lt_succ_self _, (IntKind.i64.wrap (z353 + (1:Int))), (z354 ++ ([({ R := x367.R, From := x367.From, To := z384 } : ref11_Line)])), z383, v396, _, hx364, ((fr_upd (t := 0) (v := r0_0) rfl).trans ((fr_upd (t := 1) (v := .int .u64 a1) rfl).trans ((fr_upd (t := 2) (v := .int .u64 z243) rfl).trans ((fr_upd (t := 8) (v := v396) rfl).trans ((fr_upd (t := 9) (v := .bool z383) rfl).trans ((fr_upd (t := 10) (v := .int .i64 (IntKind.i64.wrap (z353 + (1:Int)))) rfl).trans rfl)))))), hst⟩
      · skip
        replace hm := bif_f hc366 hm
        refine wp_iff (congrArg Value.bool hc366) ?_
        refine wp_exit ?_
        refine then_x ?_
        refine then_x ?_
        replace hm := inr_up hm hx364
        refine blk_x ?_
        refine then_n ?_
        replace hst := hst.keep1
        obtain rfl := some_inj hm
        exact ⟨z354, z357, v355, _, hx406, ((fr_upd (t := 8) (v := v355) rfl).trans ((fr_upd (t := 9) (v := .bool z357) rfl).trans rfl)), hst⟩
    · skip
      clear hst
      rintro _ w407 ⟨z401, z402, v400, σ403, hm, rfl, hst⟩
      dsimp only [ref11_Revoke_j1] at hm
      refine wp_seq ?_
      refine wp_region_lit ?_
      refine wl_val (v := v400) rfl rfl rfl ?_
      refine wl_val (v := .bool z402) rfl rfl rfl ?_
      refine wl_val (v := v400) rfl rfl rfl ?_
      refine wl_val (v := .bool z402) rfl rfl rfl ?_
      refine wl_nil ?_
      refine then_n ?_
      refine wp_ret ?_
      obtain rfl := some_inj hm
      refine post_ret (vs := [v400, .bool z402]) Try.results17 (rvs_cons (rv_tmp rfl) (rvs_cons (rv_tmp rfl) rvs_nil)) ?_
      exact ⟨v400, rfl, hst.keep1⟩

theorem policy_Book_Len_ref {w0 w : World} {I : HL} {R : SP} {a0 : (Option policy_Book)} {p0 : Value}  (hst : St w0 w I [objO at_policy_Book p0 a0] R) {r : (Int)} (hm : policy_Book_Len a0 = some r) :
    Calls Try.prog 14 #[p0] w fun e w' => e = .returned (.int .i64 r) ∧ St w0 w' I [objO at_policy_Book p0 a0] R := by
  rcases a0 with _ | o0
  · skip
    obtain ⟨rfl, hst'⟩ := objO_none hst
    clear hst
    have hst := hst'
    clear hst'
    dsimp only [policy_Book_Len] at hm
    refine calls_start (args := [.pointer none]) Try.func14 rfl Try.ntmps14 (Nat.le_of_ble_eq_true rfl) ?_
    refine wp_seq ?_
    refine wp_region_lit ?_
    refine wl_val (v := .int .i64 (0:Int)) rfl rfl rfl ?_
    refine wl_nil ?_
    refine then_n ?_
    refine wp_seq ?_
    refine wp_seq ?_
    refine wp_region_lit ?_
    refine wl_val (v := .pointer none) rfl rfl rfl ?_
    refine wl_val (v := .bool true) rfl rfl (by kernel_rfl) ?_
    refine wl_nil ?_
    refine then_n ?_
    refine wp_ift rfl ?_
    refine wp_seq ?_
    refine wp_region_lit ?_
    refine wl_val (v := .int .i64 (0:Int)) rfl rfl rfl ?_
    refine wl_nil ?_
    refine then_n ?_
    refine wp_ret ?_
    refine then_r ?_
    replace hst := hst.objO_nil at_policy_Book
    obtain rfl := some_inj hm
    refine post_ret (vs := [.int .i64 (0:Int)]) Try.results14 (rvs_cons (rv_tmp rfl) rvs_nil) ?_
    exact ⟨rfl, hst.keep1⟩
  · skip
    replace hst := objO_get hst
    dsimp only [policy_Book_Len] at hm
    refine calls_start (args := [p0]) Try.func14 rfl Try.ntmps14 (Nat.le_of_ble_eq_true rfl) ?_
    refine wp_seq ?_
    refine wp_region_lit ?_
    refine wl_val (v := .int .i64 (0:Int)) rfl rfl rfl ?_
    refine wl_nil ?_
    refine then_n ?_
    refine wp_seq ?_
    refine wp_seq ?_
    refine wp_region_lit ?_
    refine wl_val (v := p0) rfl rfl rfl ?_
    obtain ⟨b127, v128, rfl, hst'⟩ := at_policy_Book_open hst
    clear hst
    have hst := hst'
    clear hst'
    refine wl_val (v := .bool false) rfl rfl (by kernel_rfl) ?_
    refine wl_nil ?_
    refine then_n ?_
    refine wp_iff rfl ?_
    refine wp_skip ?_
    refine then_n ?_
    refine wp_seq ?_
    refine wp_region_lit ?_
    refine wl_val (v := .pointer (some ⟨b127, 0, none⟩)) rfl rfl rfl ?_
    refine wl_val (v := .pointer (some ⟨b127, 0, none⟩)) rfl rfl rfl ?_
    refine wl_val (v := .pointer (some ⟨b127, 0, none⟩)) rfl rfl (x_field rfl Try.underlying64 rfl Try.sizeOf62 rfl) ?_
    refine wl_val (v := v128) rfl rfl (x_load rfl Try.isAgg62 (hst.bc0 rfl)) ?_
    refine wl_val (v := .int .i64 ((o0.l).length : Int)) rfl rfl (x_len rfl Try.underlying62 hst.sv1) ?_
    refine wl_val (v := .int .i64 ((o0.l).length : Int)) rfl rfl rfl ?_
    refine wl_nil ?_
    refine then_n ?_
    refine wp_ret ?_
    replace hst := hst.pull1
    replace hst := hst.pull1
    replace hst := at_policy_Book_close (pv := .pointer (some ⟨b127, 0, none⟩)) (x := o0) hst rfl
    replace hst := objO_some hst
    obtain rfl := some_inj hm
    refine post_ret (vs := [.int .i64 ((o0.l).length : Int)]) Try.results14 (rvs_cons (rv_tmp rfl) rvs_nil) ?_
    exact ⟨rfl, hst.keep1⟩

theorem ref11_At_ref {w0 w : World} {I : HL} {R : SP} {a0 : (List ref11_Line)} {r0_0 : Value} {a1 : Int} {a2 : Int} (f0_0 : Rd ty_ref11_Line R I r0_0 a0) (hst : St w0 w I [] R) {r : (api_Rule × Bool)} (hm : ref11_At a0 a1 a2 = some r) :
    Calls Try.prog 25 #[r0_0, .int .u64 a1, .int .u64 a2] w fun e w' => e = .returned (.tuple #[.agg #[.int .u64 r.1.ID, .int .i64 r.1.From, .int .i64 r.1.To, .float .f64 r.1.Lo, .float .f64 r.1.Hi, .int .u64 r.1.Authority, .int .i64 r.1.Quota], .bool r.2]) ∧ St w0 w' I [] R := by
  unfold ref11_At at hm
  refine calls_start (args := [r0_0, .int .u64 a1, .int .u64 a2]) Try.func25 rfl Try.ntmps25 (Nat.le_of_ble_eq_true rfl) ?_
  refine wp_seq ?_
  refine wp_region_lit ?_
  obtain ⟨b241, w242, ew243, eb244, hst⟩ := hst.box [.int .u64 (0:Int), .int .i64 (0:Int), .int .i64 (0:Int), .float .f64 (0:Nat), .float .f64 (0:Nat), .int .u64 (0:Int), .int .i64 (0:Int)] 30
  refine wl_run (v := .pointer (some ⟨b241, 0, none⟩)) (w' := w242) rfl rfl (x_al (by kernel_rfl) ew243 eb244) ?_
  refine wl_val (v := .bool false) rfl rfl rfl ?_
  refine wl_nil ?_
  refine then_n ?_
  refine wp_seq ?_
  refine wp_region_lit ?_
  refine wl_val (v := .agg #[.int .u64 (0:Int), .int .i64 (0:Int), .int .i64 (0:Int), .float .f64 (0:Nat), .float .f64 (0:Nat), .int .u64 (0:Int), .int .i64 (0:Int)]) rfl rfl (by kernel_rfl) ?_
  obtain ⟨b246, w247, ew248, eb249, hst⟩ := hst.box [.int .u64 (0:Int), .int .i64 (0:Int), .int .i64 (0:Int), .float .f64 (0:Nat), .float .f64 (0:Nat), .int .u64 (0:Int), .int .i64 (0:Int)] 30
  refine wl_run (v := .pointer (some ⟨b246, 0, none⟩)) (w' := w247) rfl rfl (x_al (by kernel_rfl) ew248 eb249) ?_
  obtain ⟨w251, hr252, hst⟩ := hst.boxStore (P := Try.prog) (t := 30) (cs' := [.int .u64 (0:Int), .int .i64 (0:Int), .int .i64 (0:Int), .float .f64 (0:Nat), .float .f64 (0:Nat), .int .u64 (0:Int), .int .i64 (0:Int)]) 0 (.agg #[.int .u64 (0:Int), .int .i64 (0:Int), .int .i64 (0:Int), .float .f64 (0:Nat), .float .f64 (0:Nat), .int .u64 (0:Int), .int .i64 (0:Int)]) Try.sizeOf30 (Nat.le_of_ble_eq_true rfl) (ones_cons rfl (ones_cons rfl (ones_cons rfl (ones_cons rfl (ones_cons rfl (ones_cons rfl (ones_cons rfl ones_nil))))))) rfl
  refine wl_unit rfl rfl (x_unit hr252) ?_
  refine wl_nil ?_
  refine then_n ?_
  refine wp_seq ?_
  refine wp_region_lit ?_
  refine wl_val (v := .bool false) rfl rfl rfl ?_
  refine wl_nil ?_
  refine then_n ?_
  obtain ⟨y331, hm, hx332⟩ := bind_some hm
  refine wp_cut (fun a w => ∃ (z321 : Int) (z322 : Int) (z323 : Int) (z324 : Nat) (z325 : Nat) (z326 : Int) (z327 : Int) (z328 : Bool) (σ329 : Nat → Value), (ref11_At_j0) (z321, z322, z323, z324, z325, z326, z327, z328) = some r ∧ a = Fr 59 (upd (upd (upd σ329 6 (.pointer (some ⟨b241, 0, none⟩))) 8 (.pointer (some ⟨b246, 0, none⟩))) 9 (.bool z328)) ∧ St w0 w I [cells b241 [.int .u64 (0:Int), .int .i64 (0:Int), .int .i64 (0:Int), .float .f64 (0:Nat), .float .f64 (0:Nat), .int .u64 (0:Int), .int .i64 (0:Int)], cells b246 [.int .u64 z321, .int .i64 z322, .int .i64 z323, .float .f64 z324, .float .f64 z325, .int .u64 z326, .int .i64 z327]] R) ?_ ?_
  · skip
    refine wp_seq ?_
    refine wp_region_lit ?_
    refine wl_val (v := .int .i64 (0:Int)) rfl rfl rfl ?_
    refine wl_nil ?_
    refine then_n ?_
    refine wp_block ?_
    obtain ⟨n300, hm⟩ := loopO_some hm
    refine wp_loop_n (fun n a w => ∃ (z290 : Int) (z291 : Int) (z292 : Int) (z293 : Nat) (z294 : Nat) (z295 : Int) (z296 : Int) (z297 : Int) (z298 : Bool) (σ299 : Nat → Value), loopN (ref11_At_l1 a0 a1 a2) n (z290, z291, z292, z293, z294, z295, z296, z297, z298) = some y331 ∧ a = Fr 59 (upd (upd (upd (upd (upd (upd (upd σ299 0 (r0_0)) 1 (.int .u64 a1)) 2 (.int .u64 a2)) 6 (.pointer (some ⟨b241, 0, none⟩))) 8 (.pointer (some ⟨b246, 0, none⟩))) 9 (.bool z298)) 10 (.int .i64 z297)) ∧ St w0 w I [cells b246 [.int .u64 z290, .int .i64 z291, .int .i64 z292, .float .f64 z293, .float .f64 z294, .int .u64 z295, .int .i64 z296], cells b241 [.int .u64 (0:Int), .int .i64 (0:Int), .int .i64 (0:Int), .float .f64 (0:Nat), .float .f64 (0:Nat), .int .u64 (0:Int), .int .i64 (0:Int)]] R) n300 ⟨(0:Int), (0:Int), (0:Int), (0:Nat), (0:Nat), (0:Int), (0:Int), (0:Int), false, _, hm, ((fr_upd (t := 0) (v := r0_0) rfl).trans ((fr_upd (t := 1) (v := .int .u64 a1) rfl).trans ((fr_upd (t := 2) (v := .int .u64 a2) rfl).trans ((fr_upd (t := 6) (v := .pointer (some ⟨b241, 0, none⟩)) rfl).trans ((fr_upd (t := 8) (v := .pointer (some ⟨b246, 0, none⟩)) rfl).trans ((fr_upd (t := 9) (v := .bool false) rfl).trans ((fr_upd (t := 10) (v := .int .i64 (0:Int)) rfl).trans rfl))))))), hst⟩ ?_
    rintro n306 _ w301 ⟨z290, z291, z292, z293, z294, z295, z296, z297, z298, σ299, hm, rfl, hst⟩
    obtain ⟨n303, y304, rfl, hm, hx305⟩ := loopN_some hm
    dsimp only [ref11_At_l1] at hm
    refine wp_seq ?_
    refine wp_seq ?_
    refine wp_region_lit ?_
    refine wl_val (v := .int .i64 z297) rfl rfl rfl ?_
    refine wl_val (v := r0_0) rfl rfl rfl ?_
    refine wl_val (v := .int .i64 ((a0).length : Int)) rfl rfl (x_len rfl Try.underlying42 (rd_sliceV f0_0)) ?_
    refine wl_val (v := .bool (decide (z297 < ((a0).length : Int)))) rfl rfl rfl ?_
    refine wl_nil ?_
    refine then_n ?_
    refine bsplit (decide (z297 < ((a0).length : Int))) (fun hc307 => ?_) (fun hc307 => ?_)
    · skip
      replace hm := bif_t hc307 hm
      refine wp_ift (congrArg Value.bool hc307) ?_
      refine wp_skip ?_
      refine then_n ?_
      refine wp_seq ?_
      refine wp_block ?_
      refine wp_seq ?_
      refine wp_region_lit ?_
      refine wl_val (v := r0_0) rfl rfl rfl ?_
      refine wl_val (v := .int .i64 z297) rfl rfl rfl ?_
      obtain ⟨x308, hx309, hm⟩ := bind_some hm
      obtain ⟨h310, h311, hi312⟩ := geto_some hx309
      refine wl_val (v := .pointer (some (eAddr r0_0 (z297.toNat * 9 + 0)))) rfl rfl (x_index rfl rfl Try.underlying42 Try.sizeOf48 (rd_sliceV f0_0) h310 h311) ?_
      refine wl_val (v := .pointer (some (eAddr r0_0 (z297.toNat * 9 + 0)))) rfl rfl (x_field_e rfl Try.underlying48 rfl Try.sizeOf30 rfl) ?_
      refine wl_val (v := .pointer (some (eAddr r0_0 (z297.toNat * 9 + 0)))) rfl rfl (x_field_e rfl Try.underlying30 rfl Try.sizeOf27 rfl) ?_
      refine wl_val (v := .int .u64 x308.R.ID) rfl rfl (x_load rfl Try.isAgg27 (rd_load f0_0 (HL.le.refl _) hst hi312 (by rintro _ rfl; rfl))) ?_
      refine wl_val (v := .int .u64 a1) rfl rfl rfl ?_
      refine wl_val (v := .bool (x308.R.ID == a1)) rfl rfl rfl ?_
      refine wl_val (v := .bool (x308.R.ID == a1)) rfl rfl rfl ?_
      refine bsplit (x308.R.ID == a1) (fun hc313 => ?_) (fun hc313 => ?_)
      · skip
        replace hm := bif_t hc313 hm
        refine wl_val (v := r0_0) ((wanted_eq rfl rfl rfl (congrArg Value.bool hc313)).trans rfl) rfl rfl ?_
        refine wl_val (v := .int .i64 z297) ((wanted_eq rfl rfl rfl (congrArg Value.bool hc313)).trans rfl) rfl rfl ?_
        refine wl_val (v := .pointer (some (eAddr r0_0 (z297.toNat * 9 + 0)))) ((wanted_eq rfl rfl rfl (congrArg Value.bool hc313)).trans rfl) rfl (x_index rfl rfl Try.underlying42 Try.sizeOf48 (rd_sliceV f0_0) h310 h311) ?_
        refine wl_val (v := .pointer (some (eAddr r0_0 (z297.toNat * 9 + 7)))) ((wanted_eq rfl rfl rfl (congrArg Value.bool hc313)).trans rfl) rfl (x_field_e rfl Try.underlying48 rfl Try.sizeOf27 rfl) ?_
        refine wl_val (v := .int .u64 x308.From) ((wanted_eq rfl rfl rfl (congrArg Value.bool hc313)).trans rfl) rfl (x_load rfl Try.isAgg27 (rd_load f0_0 (HL.le.refl _) hst hi312 (by rintro _ rfl; rfl))) ?_
        refine wl_val (v := .int .u64 a2) ((wanted_eq rfl rfl rfl (congrArg Value.bool hc313)).trans rfl) rfl rfl ?_
        refine wl_val (v := .bool (decide (x308.From ≤ a2))) ((wanted_eq rfl rfl rfl (congrArg Value.bool hc313)).trans rfl) rfl rfl ?_
        refine wl_val (v := .bool (decide (x308.From ≤ a2))) rfl rfl (x_pick_t hc313 rfl rfl) ?_
        refine wl_val (v := .bool (decide (x308.From ≤ a2))) rfl rfl rfl ?_
        refine bsplit (decide (x308.From ≤ a2)) (fun hc314 => ?_) (fun hc314 => ?_)
        · skip
          replace hm := bif_t hc314 hm
          refine wl_val (v := r0_0) ((wanted_eq rfl rfl rfl (congrArg Value.bool hc314)).trans rfl) rfl rfl ?_
          refine wl_val (v := .int .i64 z297) ((wanted_eq rfl rfl rfl (congrArg Value.bool hc314)).trans rfl) rfl rfl ?_
          refine wl_val (v := .pointer (some (eAddr r0_0 (z297.toNat * 9 + 0)))) ((wanted_eq rfl rfl rfl (congrArg Value.bool hc314)).trans rfl) rfl (x_index rfl rfl Try.underlying42 Try.sizeOf48 (rd_sliceV f0_0) h310 h311) ?_
          refine wl_val (v := .pointer (some (eAddr r0_0 (z297.toNat * 9 + 8)))) ((wanted_eq rfl rfl rfl (congrArg Value.bool hc314)).trans rfl) rfl (x_field_e rfl Try.underlying48 rfl Try.sizeOf27 rfl) ?_
          refine wl_val (v := .int .u64 x308.To) ((wanted_eq rfl rfl rfl (congrArg Value.bool hc314)).trans rfl) rfl (x_load rfl Try.isAgg27 (rd_load f0_0 (HL.le.refl _) hst hi312 (by rintro _ rfl; rfl))) ?_
          refine wl_val (v := .bool (x308.To == (0:Int))) ((wanted_eq rfl rfl rfl (congrArg Value.bool hc314)).trans rfl) rfl rfl ?_
          refine wl_val (v := .bool (x308.To == (0:Int))) ((wanted_eq rfl rfl rfl (congrArg Value.bool hc314)).trans rfl) rfl rfl ?_
          refine bsplit (x308.To == (0:Int)) (fun hc315 => ?_) (fun hc315 => ?_)
          · skip
            replace hm := bif_t hc315 hm
            refine wl_off ((wanted_eq rfl rfl rfl (congrArg Value.bool hc315)).trans rfl) rfl ?_
            refine wl_off ((wanted_eq rfl rfl rfl (congrArg Value.bool hc315)).trans rfl) rfl ?_
            refine wl_off ((wanted_eq rfl rfl rfl (congrArg Value.bool hc315)).trans rfl) rfl ?_
            refine wl_off ((wanted_eq rfl rfl rfl (congrArg Value.bool hc315)).trans rfl) rfl ?_
            refine wl_off ((wanted_eq rfl rfl rfl (congrArg Value.bool hc315)).trans rfl) rfl ?_
            refine wl_off ((wanted_eq rfl rfl rfl (congrArg Value.bool hc315)).trans rfl) rfl ?_
            refine wl_off ((wanted_eq rfl rfl rfl (congrArg Value.bool hc315)).trans rfl) rfl ?_
            refine wl_val (v := .bool true) ((wanted_eq rfl rfl rfl (congrArg Value.bool hc314)).trans rfl) rfl (x_pick_t hc315 rfl rfl) ?_
            refine wl_val (v := .bool true) rfl rfl (x_pick_t hc314 rfl rfl) ?_
            refine wl_nil ?_
            refine then_n ?_
            refine wp_ift rfl ?_
            refine wp_seq ?_
            refine wp_region_lit ?_
            refine wl_val (v := r0_0) rfl rfl rfl ?_
            refine wl_val (v := .int .i64 z297) rfl rfl rfl ?_
            refine wl_val (v := .pointer (some (eAddr r0_0 (z297.toNat * 9 + 0)))) rfl rfl (x_index rfl rfl Try.underlying42 Try.sizeOf48 (rd_sliceV f0_0) h310 h311) ?_
            refine wl_val (v := .pointer (some (eAddr r0_0 (z297.toNat * 9 + 0)))) rfl rfl (x_field_e rfl Try.underlying48 rfl Try.sizeOf30 rfl) ?_
            refine wl_val (v := .agg #[.int .u64 x308.R.ID, .int .i64 x308.R.From, .int .i64 x308.R.To, .float .f64 x308.R.Lo, .float .f64 x308.R.Hi, .int .u64 x308.R.Authority, .int .i64 x308.R.Quota]) rfl rfl (x_loadN (cs := [.int .u64 x308.R.ID, .int .i64 x308.R.From, .int .i64 x308.R.To, .float .f64 x308.R.Lo, .float .f64 x308.R.Hi, .int .u64 x308.R.Authority, .int .i64 x308.R.Quota]) rfl Try.isAgg30 Try.sizeOf30 (rd_loadN f0_0 (HL.le.refl _) hst hi312 0 (by rintro _ rfl; rfl))) ?_
            obtain ⟨w316, hr317, hst⟩ := hst.boxStore (P := Try.prog) (t := 30) (cs' := [.int .u64 x308.R.ID, .int .i64 x308.R.From, .int .i64 x308.R.To, .float .f64 x308.R.Lo, .float .f64 x308.R.Hi, .int .u64 x308.R.Authority, .int .i64 x308.R.Quota]) 0 (.agg #[.int .u64 x308.R.ID, .int .i64 x308.R.From, .int .i64 x308.R.To, .float .f64 x308.R.Lo, .float .f64 x308.R.Hi, .int .u64 x308.R.Authority, .int .i64 x308.R.Quota]) Try.sizeOf30 (Nat.le_of_ble_eq_true rfl) (ones_cons rfl (ones_cons rfl (ones_cons rfl (ones_cons rfl (ones_cons rfl (ones_cons rfl (ones_cons rfl ones_nil))))))) rfl
            refine wl_unit rfl rfl (x_unit hr317) ?_
            refine wl_nil ?_
            refine then_n ?_
            refine wp_region_lit ?_
            refine wl_val (v := .bool true) rfl rfl rfl ?_
            refine wl_nil ?_
            refine blk_n ?_
            refine then_n ?_
            refine wp_region_lit ?_
            refine wl_val (v := .int .i64 z297) rfl rfl rfl ?_
            refine wl_val (v := .int .i64 (IntKind.i64.wrap (z297 + (1:Int)))) rfl rfl rfl ?_
            refine wl_val (v := .int .i64 (IntKind.i64.wrap (z297 + (1:Int)))) rfl rfl rfl ?_
            refine wl_nil ?_
            refine then_n ?_
            replace hst := hst.pull1
            replace hst := hst.pull1
            replace hst := hst.keep2
            obtain rfl := some_inj hm
            exact ⟨_, Nat.lt_succ_self _, x308.R.ID, x308.R.From, x308.R.To, x308.R.Lo, x308.R.Hi, x308.R.Authority, x308.R.Quota, (IntKind.i64.wrap (z297 + (1:Int))), true, _, hx305, ((fr_upd (t := 0) (v := r0_0) rfl).trans ((fr_upd (t := 1) (v := .int .u64 a1) rfl).trans ((fr_upd (t := 2) (v := .int .u64 a2) rfl).trans ((fr_upd (t := 6) (v := .pointer (some ⟨b241, 0, none⟩)) rfl).trans ((fr_upd (t := 8) (v := .pointer (some ⟨b246, 0, none⟩)) rfl).trans ((fr_upd (t := 9) (v := .bool true) rfl).trans ((fr_upd (t := 10) (v := .int .i64 (IntKind.i64.wrap (z297 + (1:Int)))) rfl).trans rfl))))))), hst⟩
          · skip
            replace hm := bif_f hc315 hm
            refine wl_val (v := .int .u64 a2) ((wanted_eq rfl rfl rfl (congrArg Value.bool hc315)).trans rfl) rfl rfl ?_
            refine wl_val (v := r0_0) ((wanted_eq rfl rfl rfl (congrArg Value.bool hc315)).trans rfl) rfl rfl ?_
            refine wl_val (v := .int .i64 z297) ((wanted_eq rfl rfl rfl (congrArg Value.bool hc315)).trans rfl) rfl rfl ?_
            refine wl_val (v := .pointer (some (eAddr r0_0 (z297.toNat * 9 + 0)))) ((wanted_eq rfl rfl rfl (congrArg Value.bool hc315)).trans rfl) rfl (x_index rfl rfl Try.underlying42 Try.sizeOf48 (rd_sliceV f0_0) h310 h311) ?_
            refine wl_val (v := .pointer (some (eAddr r0_0 (z297.toNat * 9 + 8)))) ((wanted_eq rfl rfl rfl (congrArg Value.bool hc315)).trans rfl) rfl (x_field_e rfl Try.underlying48 rfl Try.sizeOf27 rfl) ?_
            refine wl_val (v := .int .u64 x308.To) ((wanted_eq rfl rfl rfl (congrArg Value.bool hc315)).trans rfl) rfl (x_load rfl Try.isAgg27 (rd_load f0_0 (HL.le.refl _) hst hi312 (by rintro _ rfl; rfl))) ?_
            refine wl_val (v := .bool (decide (a2 < x308.To))) ((wanted_eq rfl rfl rfl (congrArg Value.bool hc315)).trans rfl) rfl rfl ?_
            refine wl_val (v := .bool (decide (a2 < x308.To))) ((wanted_eq rfl rfl rfl (congrArg Value.bool hc314)).trans rfl) rfl (x_pick_f hc315 rfl rfl) ?_
            refine wl_val (v := .bool (decide (a2 < x308.To))) rfl rfl (x_pick_t hc314 rfl rfl) ?_
            refine wl_nil ?_
            refine then_n ?_
            refine bsplit (decide (a2 < x308.To)) (fun hc318 => ?_) (fun hc318 => ?_)
            · skip
              replace hm := bif_t hc318 hm
              refine wp_ift (congrArg Value.bool hc318) ?_
              refine wp_seq ?_
              refine wp_region_lit ?_
              refine wl_val (v := r0_0) rfl rfl rfl ?_
              refine wl_val (v := .int .i64 z297) rfl rfl rfl ?_
              refine wl_val (v := .pointer (some (eAddr r0_0 (z297.toNat * 9 + 0)))) rfl rfl (x_index rfl rfl Try.underlying42 Try.sizeOf48 (rd_sliceV f0_0) h310 h311) ?_
              refine wl_val (v := .pointer (some (eAddr r0_0 (z297.toNat * 9 + 0)))) rfl rfl (x_field_e rfl Try.underlying48 rfl Try.sizeOf30 rfl) ?_
              refine wl_val (v := .agg #[.int .u64 x308.R.ID, .int .i64 x308.R.From, .int .i64 x308.R.To, .float .f64 x308.R.Lo, .float .f64 x308.R.Hi, .int .u64 x308.R.Authority, .int .i64 x308.R.Quota]) rfl rfl (x_loadN (cs := [.int .u64 x308.R.ID, .int .i64 x308.R.From, .int .i64 x308.R.To, .float .f64 x308.R.Lo, .float .f64 x308.R.Hi, .int .u64 x308.R.Authority, .int .i64 x308.R.Quota]) rfl Try.isAgg30 Try.sizeOf30 (rd_loadN f0_0 (HL.le.refl _) hst hi312 0 (by rintro _ rfl; rfl))) ?_
              obtain ⟨w319, hr320, hst⟩ := hst.boxStore (P := Try.prog) (t := 30) (cs' := [.int .u64 x308.R.ID, .int .i64 x308.R.From, .int .i64 x308.R.To, .float .f64 x308.R.Lo, .float .f64 x308.R.Hi, .int .u64 x308.R.Authority, .int .i64 x308.R.Quota]) 0 (.agg #[.int .u64 x308.R.ID, .int .i64 x308.R.From, .int .i64 x308.R.To, .float .f64 x308.R.Lo, .float .f64 x308.R.Hi, .int .u64 x308.R.Authority, .int .i64 x308.R.Quota]) Try.sizeOf30 (Nat.le_of_ble_eq_true rfl) (ones_cons rfl (ones_cons rfl (ones_cons rfl (ones_cons rfl (ones_cons rfl (ones_cons rfl (ones_cons rfl ones_nil))))))) rfl
              refine wl_unit rfl rfl (x_unit hr320) ?_
              refine wl_nil ?_
              refine then_n ?_
              refine wp_region_lit ?_
              refine wl_val (v := .bool true) rfl rfl rfl ?_
              refine wl_nil ?_
              refine blk_n ?_
              refine then_n ?_
              refine wp_region_lit ?_
              refine wl_val (v := .int .i64 z297) rfl rfl rfl ?_
              refine wl_val (v := .int .i64 (IntKind.i64.wrap (z297 + (1:Int)))) rfl rfl rfl ?_
              refine wl_val (v := .int .i64 (IntKind.i64.wrap (z297 + (1:Int)))) rfl rfl rfl ?_
              refine wl_nil ?_
              refine then_n ?_
              replace hst := hst.pull1
              replace hst := hst.pull1
              replace hst := hst.keep2
              obtain rfl := some_inj hm
              exact ⟨_, Nat.lt_succ_self _, x308.R.ID, x308.R.From, x308.R.To, x308.R.Lo, x308.R.Hi, x308.R.Authority, x308.R.Quota, (IntKind.i64.wrap (z297 + (1:Int))), true, _, hx305, ((fr_upd (t := 0) (v := r0_0) rfl).trans ((fr_upd (t := 1) (v := .int .u64 a1) rfl).trans ((fr_upd (t := 2) (v := .int .u64 a2) rfl).trans ((fr_upd (t := 6) (v := .pointer (some ⟨b241, 0, none⟩)) rfl).trans ((fr_upd (t := 8) (v := .pointer (some ⟨b246, 0, none⟩)) rfl).trans ((fr_upd (t := 9) (v := .bool true) rfl).trans ((fr_upd (t := 10) (v := .int .i64 (IntKind.i64.wrap (z297 + (1:Int)))) rfl).trans rfl))))))), hst⟩
            · skip
              replace hm := bif_f hc318 hm
              refine wp_iff (congrArg Value.bool hc318) ?_
              refine wp_skip ?_
              refine blk_n ?_
              refine then_n ?_
              refine wp_region_lit ?_
              refine wl_val (v := .int .i64 z297) rfl rfl rfl ?_
              refine wl_val (v := .int .i64 (IntKind.i64.wrap (z297 + (1:Int)))) rfl rfl rfl ?_
              refine wl_val (v := .int .i64 (IntKind.i64.wrap (z297 + (1:Int)))) rfl rfl rfl ?_
              refine wl_nil ?_
              refine then_n ?_
              replace hst := hst.pull1
              replace hst := hst.pull1
              replace hst := hst.keep2
              obtain rfl := some_inj hm
              exact ⟨_, Nat.lt_succ_self _, z290, z291, z292, z293, z294, z295, z296, (IntKind.i64.wrap (z297 + (1:Int))), z298, _, hx305, ((fr_upd (t := 0) (v := r0_0) rfl).trans ((fr_upd (t := 1) (v := .int .u64 a1) rfl).trans ((fr_upd (t := 2) (v := .int .u64 a2) rfl).trans ((fr_upd (t := 6) (v := .pointer (some ⟨b241, 0, none⟩)) rfl).trans ((fr_upd (t := 8) (v := .pointer (some ⟨b246, 0, none⟩)) rfl).trans ((fr_upd (t := 9) (v := .bool z298) rfl).trans ((fr_upd (t := 10) (v := .int .i64 (IntKind.i64.wrap (z297 + (1:Int)))) rfl).trans rfl))))))), hst⟩
        · skip
          replace hm := bif_f hc314 hm
          refine wl_off ((wanted_eq rfl rfl rfl (congrArg Value.bool hc314)).trans rfl) rfl ?_
          refine wl_off ((wanted_eq rfl rfl rfl (congrArg Value.bool hc314)).trans rfl) rfl ?_
          refine wl_off ((wanted_eq rfl rfl rfl (congrArg Value.bool hc314)).trans rfl) rfl ?_
          refine wl_off ((wanted_eq rfl rfl rfl (congrArg Value.bool hc314)).trans rfl) rfl ?_
          refine wl_off ((wanted_eq rfl rfl rfl (congrArg Value.bool hc314)).trans rfl) rfl ?_
          refine wl_off ((wanted_eq rfl rfl rfl (congrArg Value.bool hc314)).trans rfl) rfl ?_
          refine wl_off ((wanted_eq rfl rfl rfl (congrArg Value.bool hc314)).trans rfl) rfl ?_
          refine wl_off (wanted_undef rfl rfl rfl rfl) rfl ?_
          refine wl_off (wanted_undef rfl rfl rfl rfl) rfl ?_
          refine wl_off (wanted_undef rfl rfl rfl rfl) rfl ?_
          refine wl_off (wanted_undef rfl rfl rfl rfl) rfl ?_
          refine wl_off (wanted_undef rfl rfl rfl rfl) rfl ?_
          refine wl_off (wanted_undef rfl rfl rfl rfl) rfl ?_
          refine wl_off (wanted_undef rfl rfl rfl rfl) rfl ?_
          refine wl_off ((wanted_eq rfl rfl rfl (congrArg Value.bool hc314)).trans rfl) rfl ?_
          refine wl_val (v := .bool false) rfl rfl (x_pick_f hc314 rfl rfl) ?_
          refine wl_nil ?_
          refine then_n ?_
          refine wp_iff rfl ?_
          refine wp_skip ?_
          refine blk_n ?_
          refine then_n ?_
          refine wp_region_lit ?_
          refine wl_val (v := .int .i64 z297) rfl rfl rfl ?_
          refine wl_val (v := .int .i64 (IntKind.i64.wrap (z297 + (1:Int)))) rfl rfl rfl ?_
          refine wl_val (v := .int .i64 (IntKind.i64.wrap (z297 + (1:Int)))) rfl rfl rfl ?_
          refine wl_nil ?_
          refine then_n ?_
          replace hst := hst.pull1
          replace hst := hst.pull1
          replace hst := hst.keep2
          obtain rfl := some_inj hm
          exact ⟨_, Nat.lt_succ_self _, z290, z291, z292, z293, z294, z295, z296, (IntKind.i64.wrap (z297 + (1:Int))), z298, _, hx305, ((fr_upd (t := 0) (v := r0_0) rfl).trans ((fr_upd (t := 1) (v := .int .u64 a1) rfl).trans ((fr_upd (t := 2) (v := .int .u64 a2) rfl).trans ((fr_upd (t := 6) (v := .pointer (some ⟨b241, 0, none⟩)) rfl).trans ((fr_upd (t := 8) (v := .pointer (some ⟨b246, 0, none⟩)) rfl).trans ((fr_upd (t := 9) (v := .bool z298) rfl).trans ((fr_upd (t := 10) (v := .int .i64 (IntKind.i64.wrap (z297 + (1:Int)))) rfl).trans rfl))))))), hst⟩
      · skip
        replace hm := bif_f hc313 hm
        refine wl_off ((wanted_eq rfl rfl rfl (congrArg Value.bool hc313)).trans rfl) rfl ?_
        refine wl_off ((wanted_eq rfl rfl rfl (congrArg Value.bool hc313)).trans rfl) rfl ?_
        refine wl_off ((wanted_eq rfl rfl rfl (congrArg Value.bool hc313)).trans rfl) rfl ?_
        refine wl_off ((wanted_eq rfl rfl rfl (congrArg Value.bool hc313)).trans rfl) rfl ?_
        refine wl_off ((wanted_eq rfl rfl rfl (congrArg Value.bool hc313)).trans rfl) rfl ?_
        refine wl_off ((wanted_eq rfl rfl rfl (congrArg Value.bool hc313)).trans rfl) rfl ?_
        refine wl_off ((wanted_eq rfl rfl rfl (congrArg Value.bool hc313)).trans rfl) rfl ?_
        refine wl_val (v := .bool false) rfl rfl (x_pick_f hc313 rfl rfl) ?_
        refine wl_val (v := .bool false) rfl rfl rfl ?_
        refine wl_off ((wanted_eq rfl rfl rfl rfl).trans rfl) rfl ?_
        refine wl_off ((wanted_eq rfl rfl rfl rfl).trans rfl) rfl ?_
        refine wl_off ((wanted_eq rfl rfl rfl rfl).trans rfl) rfl ?_
        refine wl_off ((wanted_eq rfl rfl rfl rfl).trans rfl) rfl ?_
        refine wl_off ((wanted_eq rfl rfl rfl rfl).trans rfl) rfl ?_
        refine wl_off ((wanted_eq rfl rfl rfl rfl).trans rfl) rfl ?_
        refine wl_off ((wanted_eq rfl rfl rfl rfl).trans rfl) rfl ?_
        refine wl_off (wanted_undef rfl rfl rfl rfl) rfl ?_
        refine wl_off (wanted_undef rfl rfl rfl rfl) rfl ?_
        refine wl_off (wanted_undef rfl rfl rfl rfl) rfl ?_
        refine wl_off (wanted_undef rfl rfl rfl rfl) rfl ?_
        refine wl_off (wanted_undef rfl rfl rfl rfl) rfl ?_
        refine wl_off (wanted_undef rfl rfl rfl rfl) rfl ?_
        refine wl_off (wanted_undef rfl rfl rfl rfl) rfl ?_
        refine wl_off ((wanted_eq rfl rfl rfl rfl).trans rfl) rfl ?_
        refine wl_val (v := .bool false) rfl rfl (x_pick_f rfl rfl rfl) ?_
        refine wl_nil ?_
        refine then_n ?_
        refine wp_iff rfl ?_
        refine wp_skip ?_
        refine blk_n ?_
        refine then_n ?_
        refine wp_region_lit ?_
        refine wl_val (v := .int .i64 z297) rfl rfl rfl ?_
        refine wl_val (v := .int .i64 (IntKind.i64.wrap (z297 + (1:Int)))) rfl rfl rfl ?_
        refine wl_val (v := .int .i64 (IntKind.i64.wrap (z297 + (1:Int)))) rfl rfl rfl ?_
        refine wl_nil ?_
        refine then_n ?_
        replace hst := hst.pull1
        replace hst := hst.pull1
        replace hst := hst.keep2
        obtain rfl := some_inj hm
        exact ⟨_, Nat.lt_succ_self _, z290, z291, z292, z293, z294, z295, z296, (IntKind.i64.wrap (z297 + (1:Int))), z298, _, hx305, ((fr_upd (t := 0) (v := r0_0) rfl).trans ((fr_upd (t := 1) (v := .int .u64 a1) rfl).trans ((fr_upd (t := 2) (v := .int .u64 a2) rfl).trans ((fr_upd (t := 6) (v := .pointer (some ⟨b241, 0, none⟩)) rfl).trans ((fr_upd (t := 8) (v := .pointer (some ⟨b246, 0, none⟩)) rfl).trans ((fr_upd (t := 9) (v := .bool z298) rfl).trans ((fr_upd (t := 10) (v := .int .i64 (IntKind.i64.wrap (z297 + (1:Int)))) rfl).trans rfl))))))), hst⟩
    · skip
      replace hm := bif_f hc307 hm
      refine wp_iff (congrArg Value.bool hc307) ?_
      refine wp_exit ?_
      refine then_x ?_
      refine then_x ?_
      replace hm := inr_up hm hx305
      refine blk_x ?_
      refine then_n ?_
      replace hst := hst.pull1
      replace hst := hst.keep2
      obtain rfl := some_inj hm
      exact ⟨z290, z291, z292, z293, z294, z295, z296, z298, _, hx332, ((fr_upd (t := 6) (v := .pointer (some ⟨b241, 0, none⟩)) rfl).trans ((fr_upd (t := 8) (v := .pointer (some ⟨b246, 0, none⟩)) rfl).trans ((fr_upd (t := 9) (v := .bool z298) rfl).trans rfl))), hst⟩
  · skip
    clear hst
    rintro _ w333 ⟨z321, z322, z323, z324, z325, z326, z327, z328, σ329, hm, rfl, hst⟩
    dsimp only [ref11_At_j0] at hm
    refine wp_seq ?_
    refine wp_region_lit ?_
    refine wl_val (v := .agg #[.int .u64 z321, .int .i64 z322, .int .i64 z323, .float .f64 z324, .float .f64 z325, .int .u64 z326, .int .i64 z327]) rfl rfl (x_loadN (cs := [.int .u64 z321, .int .i64 z322, .int .i64 z323, .float .f64 z324, .float .f64 z325, .int .u64 z326, .int .i64 z327]) rfl Try.isAgg30 Try.sizeOf30 (hst.bcs1 0 rfl)) ?_
    refine wl_val (v := .bool z328) rfl rfl rfl ?_
    obtain ⟨w334, hr335, hst⟩ := hst.boxStore (P := Try.prog) (t := 30) (cs' := [.int .u64 z321, .int .i64 z322, .int .i64 z323, .float .f64 z324, .float .f64 z325, .int .u64 z326, .int .i64 z327]) 0 (.agg #[.int .u64 z321, .int .i64 z322, .int .i64 z323, .float .f64 z324, .float .f64 z325, .int .u64 z326, .int .i64 z327]) Try.sizeOf30 (Nat.le_of_ble_eq_true rfl) (ones_cons rfl (ones_cons rfl (ones_cons rfl (ones_cons rfl (ones_cons rfl (ones_cons rfl (ones_cons rfl ones_nil))))))) rfl
    refine wl_unit rfl rfl (x_unit hr335) ?_
    refine wl_val (v := .bool z328) rfl rfl rfl ?_
    refine wl_nil ?_
    refine then_n ?_
    refine wp_ret ?_
    obtain rfl := some_inj hm
    refine post_ret (vs := [.agg #[.int .u64 z321, .int .i64 z322, .int .i64 z323, .float .f64 z324, .float .f64 z325, .int .u64 z326, .int .i64 z327], .bool z328]) Try.results25 (rvs_cons (rv_cell (cs := [.int .u64 z321, .int .i64 z322, .int .i64 z323, .float .f64 z324, .float .f64 z325, .int .u64 z326, .int .i64 z327]) rfl Try.isAgg30 Try.sizeOf30 (hst.bcs0 0 rfl)) (rvs_cons (rv_tmp rfl) rvs_nil)) ?_
    exact ⟨rfl, hst.keep0⟩

theorem math_Signbit_ref {w0 w : World} {I : HL} {R : SP} {a0 : Nat}  (hst : St w0 w I [] R) {r : (Bool)} (hm : math_Signbit a0 = some r) :
    Calls Try.prog 39 #[.float .f64 a0] w fun e w' => e = .returned (.bool r) ∧ St w0 w' I [] R := by
  unfold math_Signbit at hm
  refine calls_start (args := [.float .f64 a0]) Try.func39 rfl Try.ntmps39 (Nat.le_of_ble_eq_true rfl) ?_
  refine wp_seq ?_
  refine wp_region_lit ?_
  refine wl_val (v := .bool false) rfl rfl rfl ?_
  refine wl_nil ?_
  refine then_n ?_
  refine wp_seq ?_
  refine wp_region_lit ?_
  refine wl_val (v := .float .f64 a0) rfl rfl rfl ?_
  refine wl_val (v := .int .u64 (Int.ofNat a0)) rfl rfl (by kernel_rfl) ?_
  refine wl_val (v := .int .i64 (IntKind.i64.wrap (Int.ofNat a0))) rfl rfl (by kernel_rfl) ?_
  refine wl_val (v := .bool (decide ((IntKind.i64.wrap (Int.ofNat a0)) < (0:Int)))) rfl rfl rfl ?_
  refine wl_val (v := .bool (decide ((IntKind.i64.wrap (Int.ofNat a0)) < (0:Int)))) rfl rfl rfl ?_
  refine wl_nil ?_
  refine then_n ?_
  refine wp_ret ?_
  obtain rfl := some_inj hm
  refine post_ret (vs := [.bool (decide ((IntKind.i64.wrap (Int.ofNat a0)) < (0:Int)))]) Try.results39 (rvs_cons (rv_tmp rfl) rvs_nil) ?_
  exact ⟨rfl, hst.keep0⟩

theorem ref01_Ahead_ref {w0 w : World} {I : HL} {R : SP} {a0 : Nat} {a1 : Nat}  (hst : St w0 w I [] R) {r : (Bool)} (hm : ref01_Ahead a0 a1 = some r) :
    Calls Try.prog 26 #[.float .f64 a0, .float .f64 a1] w fun e w' => e = .returned (.bool r) ∧ St w0 w' I [] R := by
  unfold ref01_Ahead at hm
  refine calls_start (args := [.float .f64 a0, .float .f64 a1]) Try.func26 rfl Try.ntmps26 (Nat.le_of_ble_eq_true rfl) ?_
  refine wp_seq ?_
  refine wp_region_lit ?_
  refine wl_val (v := .bool false) rfl rfl rfl ?_
  refine wl_nil ?_
  refine then_n ?_
  refine wp_seq ?_
  refine wp_seq ?_
  refine wp_region_lit ?_
  refine wl_val (v := .float .f64 a0) rfl rfl rfl ?_
  refine wl_val (v := .float .f64 a0) rfl rfl rfl ?_
  refine wl_val (v := .bool (fNe a0 a0)) rfl rfl rfl ?_
  refine wl_nil ?_
  refine then_n ?_
  refine bsplit (fNe a0 a0) (fun hc190 => ?_) (fun hc190 => ?_)
  · skip
    replace hm := bif_t hc190 hm
    refine wp_ift (congrArg Value.bool hc190) ?_
    refine wp_seq ?_
    refine wp_region_lit ?_
    refine wl_val (v := .bool false) rfl rfl rfl ?_
    refine wl_nil ?_
    refine then_n ?_
    refine wp_ret ?_
    refine then_r ?_
    obtain rfl := some_inj hm
    refine post_ret (vs := [.bool false]) Try.results26 (rvs_cons (rv_tmp rfl) rvs_nil) ?_
    exact ⟨rfl, hst.keep0⟩
  · skip
    replace hm := bif_f hc190 hm
    refine wp_iff (congrArg Value.bool hc190) ?_
    refine wp_skip ?_
    refine then_n ?_
    refine wp_seq ?_
    refine wp_seq ?_
    refine wp_region_lit ?_
    refine wl_val (v := .float .f64 a1) rfl rfl rfl ?_
    refine wl_val (v := .float .f64 a1) rfl rfl rfl ?_
    refine wl_val (v := .bool (fNe a1 a1)) rfl rfl rfl ?_
    refine wl_nil ?_
    refine then_n ?_
    refine bsplit (fNe a1 a1) (fun hc191 => ?_) (fun hc191 => ?_)
    · skip
      replace hm := bif_t hc191 hm
      refine wp_ift (congrArg Value.bool hc191) ?_
      refine wp_seq ?_
      refine wp_region_lit ?_
      refine wl_val (v := .bool true) rfl rfl rfl ?_
      refine wl_nil ?_
      refine then_n ?_
      refine wp_ret ?_
      refine then_r ?_
      obtain rfl := some_inj hm
      refine post_ret (vs := [.bool true]) Try.results26 (rvs_cons (rv_tmp rfl) rvs_nil) ?_
      exact ⟨rfl, hst.keep0⟩
    · skip
      replace hm := bif_f hc191 hm
      refine wp_iff (congrArg Value.bool hc191) ?_
      refine wp_skip ?_
      refine then_n ?_
      obtain ⟨y207, hm, hx208⟩ := joinO_some hm
      refine wp_cut (fun a w => ∃ (σ205 : Nat → Value), (ref01_Ahead_j0 a0 a1) () = some r ∧ a = Fr 27 (upd (upd σ205 0 (.float .f64 a0)) 1 (.float .f64 a1)) ∧ St w0 w I [] R) ?_ ?_
      · skip
        refine wp_seq ?_
        refine wp_region_lit ?_
        refine wl_val (v := .float .f64 a0) rfl rfl rfl ?_
        refine wl_val (v := .bool (fEq a0 (0:Nat))) rfl rfl rfl ?_
        refine wl_val (v := .bool (fEq a0 (0:Nat))) rfl rfl rfl ?_
        refine bsplit (fEq a0 (0:Nat)) (fun hc192 => ?_) (fun hc192 => ?_)
        · skip
          replace hm := bif_t hc192 hm
          refine wl_val (v := .float .f64 a1) ((wanted_eq rfl rfl rfl (congrArg Value.bool hc192)).trans rfl) rfl rfl ?_
          refine wl_val (v := .bool (fEq a1 (0:Nat))) ((wanted_eq rfl rfl rfl (congrArg Value.bool hc192)).trans rfl) rfl rfl ?_
          refine wl_val (v := .bool (fEq a1 (0:Nat))) rfl rfl (x_pick_t hc192 rfl rfl) ?_
          refine wl_nil ?_
          refine then_n ?_
          refine bsplit (fEq a1 (0:Nat)) (fun hc193 => ?_) (fun hc193 => ?_)
          · skip
            replace hm := bif_t hc193 hm
            refine wp_ift (congrArg Value.bool hc193) ?_
            refine wp_seq ?_
            refine wp_region_lit ?_
            refine wl_val (v := .float .f64 a0) rfl rfl rfl ?_
            obtain ⟨t194, ht195, hm⟩ := bind_some hm
            refine wl_call rfl rfl (x_call Try.call39 rfl (vs := [.float .f64 a0]) rfl) ?_
            refine (math_Signbit_ref hst.to0 ht195).mono ?_
            rintro _ w196 ⟨rfl, hst⟩
            refine ⟨_, rfl, ?_⟩
            replace hst := hst.of0
            refine wl_val (v := .bool t194) rfl rfl rfl ?_
            refine bsplit t194 (fun hc199 => ?_) (fun hc199 => ?_)
            · skip
              replace hm := bif_t hc199 hm
              refine wl_val (v := .float .f64 a1) ((wanted_eq rfl rfl rfl (congrArg Value.bool hc199)).trans rfl) rfl rfl ?_
              obtain ⟨t200, ht201, hm⟩ := bind_some hm
              refine wl_call ((wanted_eq rfl rfl rfl (congrArg Value.bool hc199)).trans rfl) rfl (x_call Try.call39 rfl (vs := [.float .f64 a1]) rfl) ?_
              refine (math_Signbit_ref hst.to0 ht201).mono ?_
              rintro _ w202 ⟨rfl, hst⟩
              refine ⟨_, rfl, ?_⟩
              replace hst := hst.of0
              refine wl_val (v := .bool (!t200)) ((wanted_eq rfl rfl rfl (congrArg Value.bool hc199)).trans rfl) rfl rfl ?_
              refine wl_val (v := .bool (!t200)) rfl rfl (x_pick_t hc199 rfl rfl) ?_
              refine wl_val (v := .bool (!t200)) rfl rfl rfl ?_
              refine wl_nil ?_
              refine then_n ?_
              refine wp_ret ?_
              refine then_r ?_
              replace hm := inr_up hm hx208
              obtain rfl := some_inj hm
              refine post_ret (vs := [.bool (!t200)]) Try.results26 (rvs_cons (rv_tmp rfl) rvs_nil) ?_
              exact ⟨rfl, hst.keep0⟩
            · skip
              replace hm := bif_f hc199 hm
              refine wl_off ((wanted_eq rfl rfl rfl (congrArg Value.bool hc199)).trans rfl) rfl ?_
              refine wl_off ((wanted_eq rfl rfl rfl (congrArg Value.bool hc199)).trans rfl) rfl ?_
              refine wl_off ((wanted_eq rfl rfl rfl (congrArg Value.bool hc199)).trans rfl) rfl ?_
              refine wl_val (v := .bool false) rfl rfl (x_pick_f hc199 rfl rfl) ?_
              refine wl_val (v := .bool false) rfl rfl rfl ?_
              refine wl_nil ?_
              refine then_n ?_
              refine wp_ret ?_
              refine then_r ?_
              replace hm := inr_up hm hx208
              obtain rfl := some_inj hm
              refine post_ret (vs := [.bool false]) Try.results26 (rvs_cons (rv_tmp rfl) rvs_nil) ?_
              exact ⟨rfl, hst.keep0⟩
          · skip
            replace hm := bif_f hc193 hm
            refine wp_iff (congrArg Value.bool hc193) ?_
            refine wp_skip ?_
            refine then_n ?_
            replace hst := hst.keep0
            obtain rfl := some_inj hm
            exact ⟨_, hx208, ((fr_upd (t := 0) (v := .float .f64 a0) rfl).trans ((fr_upd (t := 1) (v := .float .f64 a1) rfl).trans rfl)), hst⟩
        · skip
          replace hm := bif_f hc192 hm
          refine wl_off ((wanted_eq rfl rfl rfl (congrArg Value.bool hc192)).trans rfl) rfl ?_
          refine wl_off ((wanted_eq rfl rfl rfl (congrArg Value.bool hc192)).trans rfl) rfl ?_
          refine wl_val (v := .bool false) rfl rfl (x_pick_f hc192 rfl rfl) ?_
          refine wl_nil ?_
          refine then_n ?_
          refine wp_iff rfl ?_
          refine wp_skip ?_
          refine then_n ?_
          replace hst := hst.keep0
          obtain rfl := some_inj hm
          exact ⟨_, hx208, ((fr_upd (t := 0) (v := .float .f64 a0) rfl).trans ((fr_upd (t := 1) (v := .float .f64 a1) rfl).trans rfl)), hst⟩
      · skip
        clear hst
        rintro _ w209 ⟨σ205, hm, rfl, hst⟩
        dsimp only [ref01_Ahead_j0] at hm
        refine wp_seq ?_
        refine wp_region_lit ?_
        refine wl_val (v := .float .f64 a0) rfl rfl rfl ?_
        refine wl_val (v := .float .f64 a1) rfl rfl rfl ?_
        refine wl_val (v := .bool (fLt a0 a1)) rfl rfl rfl ?_
        refine wl_val (v := .bool (fLt a0 a1)) rfl rfl rfl ?_
        refine wl_nil ?_
        refine then_n ?_
        refine wp_ret ?_
        obtain rfl := some_inj hm
        refine post_ret (vs := [.bool (fLt a0 a1)]) Try.results26 (rvs_cons (rv_tmp rfl) rvs_nil) ?_
        exact ⟨rfl, hst.keep0⟩

theorem ref01_Same_ref {w0 w : World} {I : HL} {R : SP} {a0 : Nat} {a1 : Nat}  (hst : St w0 w I [] R) {r : (Bool)} (hm : ref01_Same a0 a1 = some r) :
    Calls Try.prog 23 #[.float .f64 a0, .float .f64 a1] w fun e w' => e = .returned (.bool r) ∧ St w0 w' I [] R := by
  unfold ref01_Same at hm
  refine calls_start (args := [.float .f64 a0, .float .f64 a1]) Try.func23 rfl Try.ntmps23 (Nat.le_of_ble_eq_true rfl) ?_
  refine wp_seq ?_
  refine wp_region_lit ?_
  refine wl_val (v := .bool false) rfl rfl rfl ?_
  refine wl_nil ?_
  refine then_n ?_
  refine wp_seq ?_
  refine wp_region_lit ?_
  refine wl_val (v := .float .f64 a0) rfl rfl rfl ?_
  refine wl_val (v := .float .f64 a1) rfl rfl rfl ?_
  obtain ⟨t181, ht182, hm⟩ := bind_some hm
  refine wl_call rfl rfl (x_call Try.call26 rfl (vs := [.float .f64 a0, .float .f64 a1]) rfl) ?_
  refine (ref01_Ahead_ref hst.to0 ht182).mono ?_
  rintro _ w183 ⟨rfl, hst⟩
  refine ⟨_, rfl, ?_⟩
  replace hst := hst.of0
  refine wl_val (v := .bool (!t181)) rfl rfl rfl ?_
  refine wl_val (v := .bool (!t181)) rfl rfl rfl ?_
  refine bsplit (!t181) (fun hc186 => ?_) (fun hc186 => ?_)
  · skip
    replace hm := bif_t hc186 hm
    refine wl_val (v := .float .f64 a1) ((wanted_eq rfl rfl rfl (congrArg Value.bool hc186)).trans rfl) rfl rfl ?_
    refine wl_val (v := .float .f64 a0) ((wanted_eq rfl rfl rfl (congrArg Value.bool hc186)).trans rfl) rfl rfl ?_
    obtain ⟨t187, ht188, hm⟩ := bind_some hm
    refine wl_call ((wanted_eq rfl rfl rfl (congrArg Value.bool hc186)).trans rfl) rfl (x_call Try.call26 rfl (vs := [.float .f64 a1, .float .f64 a0]) rfl) ?_
    refine (ref01_Ahead_ref hst.to0 ht188).mono ?_
    rintro _ w189 ⟨rfl, hst⟩
    refine ⟨_, rfl, ?_⟩
    replace hst := hst.of0
    refine wl_val (v := .bool (!t187)) ((wanted_eq rfl rfl rfl (congrArg Value.bool hc186)).trans rfl) rfl rfl ?_
    refine wl_val (v := .bool (!t187)) rfl rfl (x_pick_t hc186 rfl rfl) ?_
    refine wl_val (v := .bool (!t187)) rfl rfl rfl ?_
    refine wl_nil ?_
    refine then_n ?_
    refine wp_ret ?_
    obtain rfl := some_inj hm
    refine post_ret (vs := [.bool (!t187)]) Try.results23 (rvs_cons (rv_tmp rfl) rvs_nil) ?_
    exact ⟨rfl, hst.keep0⟩
  · skip
    replace hm := bif_f hc186 hm
    refine wl_off ((wanted_eq rfl rfl rfl (congrArg Value.bool hc186)).trans rfl) rfl ?_
    refine wl_off ((wanted_eq rfl rfl rfl (congrArg Value.bool hc186)).trans rfl) rfl ?_
    refine wl_off ((wanted_eq rfl rfl rfl (congrArg Value.bool hc186)).trans rfl) rfl ?_
    refine wl_off ((wanted_eq rfl rfl rfl (congrArg Value.bool hc186)).trans rfl) rfl ?_
    refine wl_val (v := .bool false) rfl rfl (x_pick_f hc186 rfl rfl) ?_
    refine wl_val (v := .bool false) rfl rfl rfl ?_
    refine wl_nil ?_
    refine then_n ?_
    refine wp_ret ?_
    obtain rfl := some_inj hm
    refine post_ret (vs := [.bool false]) Try.results23 (rvs_cons (rv_tmp rfl) rvs_nil) ?_
    exact ⟨rfl, hst.keep0⟩

theorem ref11_SameRule_ref {w0 w : World} {I : HL} {R : SP} {a0 : api_Rule} {a1 : api_Rule}  (hst : St w0 w I [] R) {r : (Bool)} (hm : ref11_SameRule a0 a1 = some r) :
    Calls Try.prog 12 #[.agg #[.int .u64 a0.ID, .int .i64 a0.From, .int .i64 a0.To, .float .f64 a0.Lo, .float .f64 a0.Hi, .int .u64 a0.Authority, .int .i64 a0.Quota], .agg #[.int .u64 a1.ID, .int .i64 a1.From, .int .i64 a1.To, .float .f64 a1.Lo, .float .f64 a1.Hi, .int .u64 a1.Authority, .int .i64 a1.Quota]] w fun e w' => e = .returned (.bool r) ∧ St w0 w' I [] R := by
  unfold ref11_SameRule at hm
  refine calls_start (args := [.agg #[.int .u64 a0.ID, .int .i64 a0.From, .int .i64 a0.To, .float .f64 a0.Lo, .float .f64 a0.Hi, .int .u64 a0.Authority, .int .i64 a0.Quota], .agg #[.int .u64 a1.ID, .int .i64 a1.From, .int .i64 a1.To, .float .f64 a1.Lo, .float .f64 a1.Hi, .int .u64 a1.Authority, .int .i64 a1.Quota]]) Try.func12 rfl Try.ntmps12 (Nat.le_of_ble_eq_true rfl) ?_
  refine wp_seq ?_
  refine wp_region_lit ?_
  obtain ⟨b183, w184, ew185, eb186, hst⟩ := hst.box [.int .u64 a0.ID, .int .i64 a0.From, .int .i64 a0.To, .float .f64 a0.Lo, .float .f64 a0.Hi, .int .u64 a0.Authority, .int .i64 a0.Quota] 30
  refine wl_run (v := .pointer (some ⟨b183, 0, none⟩)) (w' := w184) rfl rfl (x_al (by kernel_rfl) ew185 eb186) ?_
  obtain ⟨b188, w189, ew190, eb191, hst⟩ := hst.box [.int .u64 a1.ID, .int .i64 a1.From, .int .i64 a1.To, .float .f64 a1.Lo, .float .f64 a1.Hi, .int .u64 a1.Authority, .int .i64 a1.Quota] 30
  refine wl_run (v := .pointer (some ⟨b188, 0, none⟩)) (w' := w189) rfl rfl (x_al (by kernel_rfl) ew190 eb191) ?_
  refine wl_val (v := .bool false) rfl rfl rfl ?_
  refine wl_nil ?_
  refine then_n ?_
  refine wp_seq ?_
  refine wp_region_lit ?_
  refine wl_val (v := .pointer (some ⟨b183, 0, none⟩)) rfl rfl (x_field rfl Try.underlying30 rfl Try.sizeOf27 rfl) ?_
  refine wl_val (v := .int .u64 a0.ID) rfl rfl (x_load rfl Try.isAgg27 (hst.bc1 rfl)) ?_
  refine wl_val (v := .pointer (some ⟨b188, 0, none⟩)) rfl rfl (x_field rfl Try.underlying30 rfl Try.sizeOf27 rfl) ?_
  refine wl_val (v := .int .u64 a1.ID) rfl rfl (x_load rfl Try.isAgg27 (hst.bc0 rfl)) ?_
  refine wl_val (v := .bool (a0.ID == a1.ID)) rfl rfl rfl ?_
  refine wl_val (v := .bool (a0.ID == a1.ID)) rfl rfl rfl ?_
  refine bsplit (a0.ID == a1.ID) (fun hc193 => ?_) (fun hc193 => ?_)
  · skip
    replace hm := bif_t hc193 hm
    refine wl_val (v := .pointer (some ⟨b183, 1, none⟩)) ((wanted_eq rfl rfl rfl (congrArg Value.bool hc193)).trans rfl) rfl (x_field rfl Try.underlying30 rfl Try.sizeOf3 rfl) ?_
    refine wl_val (v := .int .i64 a0.From) ((wanted_eq rfl rfl rfl (congrArg Value.bool hc193)).trans rfl) rfl (x_load rfl Try.isAgg3 (hst.bc1 rfl)) ?_
    refine wl_val (v := .pointer (some ⟨b188, 1, none⟩)) ((wanted_eq rfl rfl rfl (congrArg Value.bool hc193)).trans rfl) rfl (x_field rfl Try.underlying30 rfl Try.sizeOf3 rfl) ?_
    refine wl_val (v := .int .i64 a1.From) ((wanted_eq rfl rfl rfl (congrArg Value.bool hc193)).trans rfl) rfl (x_load rfl Try.isAgg3 (hst.bc0 rfl)) ?_
    refine wl_val (v := .bool (a0.From == a1.From)) ((wanted_eq rfl rfl rfl (congrArg Value.bool hc193)).trans rfl) rfl rfl ?_
    refine wl_val (v := .bool (a0.From == a1.From)) rfl rfl (x_pick_t hc193 rfl rfl) ?_
    refine wl_val (v := .bool (a0.From == a1.From)) rfl rfl rfl ?_
    refine bsplit (a0.From == a1.From) (fun hc194 => ?_) (fun hc194 => ?_)
    · skip
      replace hm := bif_t hc194 hm
      refine wl_val (v := .pointer (some ⟨b183, 2, none⟩)) ((wanted_eq rfl rfl rfl (congrArg Value.bool hc194)).trans rfl) rfl (x_field rfl Try.underlying30 rfl Try.sizeOf3 rfl) ?_
      refine wl_val (v := .int .i64 a0.To) ((wanted_eq rfl rfl rfl (congrArg Value.bool hc194)).trans rfl) rfl (x_load rfl Try.isAgg3 (hst.bc1 rfl)) ?_
      refine wl_val (v := .pointer (some ⟨b188, 2, none⟩)) ((wanted_eq rfl rfl rfl (congrArg Value.bool hc194)).trans rfl) rfl (x_field rfl Try.underlying30 rfl Try.sizeOf3 rfl) ?_
      refine wl_val (v := .int .i64 a1.To) ((wanted_eq rfl rfl rfl (congrArg Value.bool hc194)).trans rfl) rfl (x_load rfl Try.isAgg3 (hst.bc0 rfl)) ?_
      refine wl_val (v := .bool (a0.To == a1.To)) ((wanted_eq rfl rfl rfl (congrArg Value.bool hc194)).trans rfl) rfl rfl ?_
      refine wl_val (v := .bool (a0.To == a1.To)) rfl rfl (x_pick_t hc194 rfl rfl) ?_
      refine wl_val (v := .bool (a0.To == a1.To)) rfl rfl rfl ?_
      refine bsplit (a0.To == a1.To) (fun hc195 => ?_) (fun hc195 => ?_)
      · skip
        replace hm := bif_t hc195 hm
        refine wl_val (v := .pointer (some ⟨b183, 3, none⟩)) ((wanted_eq rfl rfl rfl (congrArg Value.bool hc195)).trans rfl) rfl (x_field rfl Try.underlying30 rfl Try.sizeOf28 rfl) ?_
        refine wl_val (v := .float .f64 a0.Lo) ((wanted_eq rfl rfl rfl (congrArg Value.bool hc195)).trans rfl) rfl (x_load rfl Try.isAgg28 (hst.bc1 rfl)) ?_
        refine wl_val (v := .pointer (some ⟨b188, 3, none⟩)) ((wanted_eq rfl rfl rfl (congrArg Value.bool hc195)).trans rfl) rfl (x_field rfl Try.underlying30 rfl Try.sizeOf28 rfl) ?_
        refine wl_val (v := .float .f64 a1.Lo) ((wanted_eq rfl rfl rfl (congrArg Value.bool hc195)).trans rfl) rfl (x_load rfl Try.isAgg28 (hst.bc0 rfl)) ?_
        obtain ⟨t196, ht197, hm⟩ := bind_some hm
        refine wl_call ((wanted_eq rfl rfl rfl (congrArg Value.bool hc195)).trans rfl) rfl (x_call Try.call23 rfl (vs := [.float .f64 a0.Lo, .float .f64 a1.Lo]) rfl) ?_
        refine (ref01_Same_ref hst.to0 ht197).mono ?_
        rintro _ w198 ⟨rfl, hst⟩
        refine ⟨_, rfl, ?_⟩
        replace hst := hst.of0
        refine wl_val (v := .bool t196) rfl rfl (x_pick_t hc195 rfl rfl) ?_
        refine wl_val (v := .bool t196) rfl rfl rfl ?_
        refine bsplit t196 (fun hc201 => ?_) (fun hc201 => ?_)
        · skip
          replace hm := bif_t hc201 hm
          refine wl_val (v := .pointer (some ⟨b183, 4, none⟩)) ((wanted_eq rfl rfl rfl (congrArg Value.bool hc201)).trans rfl) rfl (x_field rfl Try.underlying30 rfl Try.sizeOf28 rfl) ?_
          refine wl_val (v := .float .f64 a0.Hi) ((wanted_eq rfl rfl rfl (congrArg Value.bool hc201)).trans rfl) rfl (x_load rfl Try.isAgg28 (hst.bc1 rfl)) ?_
          refine wl_val (v := .pointer (some ⟨b188, 4, none⟩)) ((wanted_eq rfl rfl rfl (congrArg Value.bool hc201)).trans rfl) rfl (x_field rfl Try.underlying30 rfl Try.sizeOf28 rfl) ?_
          refine wl_val (v := .float .f64 a1.Hi) ((wanted_eq rfl rfl rfl (congrArg Value.bool hc201)).trans rfl) rfl (x_load rfl Try.isAgg28 (hst.bc0 rfl)) ?_
          obtain ⟨t202, ht203, hm⟩ := bind_some hm
          refine wl_call ((wanted_eq rfl rfl rfl (congrArg Value.bool hc201)).trans rfl) rfl (x_call Try.call23 rfl (vs := [.float .f64 a0.Hi, .float .f64 a1.Hi]) rfl) ?_
          refine (ref01_Same_ref hst.to0 ht203).mono ?_
          rintro _ w204 ⟨rfl, hst⟩
          refine ⟨_, rfl, ?_⟩
          replace hst := hst.of0
          refine wl_val (v := .bool t202) rfl rfl (x_pick_t hc201 rfl rfl) ?_
          refine wl_val (v := .bool t202) rfl rfl rfl ?_
          refine bsplit t202 (fun hc207 => ?_) (fun hc207 => ?_)
          · skip
            replace hm := bif_t hc207 hm
            refine wl_val (v := .pointer (some ⟨b183, 5, none⟩)) ((wanted_eq rfl rfl rfl (congrArg Value.bool hc207)).trans rfl) rfl (x_field rfl Try.underlying30 rfl Try.sizeOf27 rfl) ?_
            refine wl_val (v := .int .u64 a0.Authority) ((wanted_eq rfl rfl rfl (congrArg Value.bool hc207)).trans rfl) rfl (x_load rfl Try.isAgg27 (hst.bc1 rfl)) ?_
            refine wl_val (v := .pointer (some ⟨b188, 5, none⟩)) ((wanted_eq rfl rfl rfl (congrArg Value.bool hc207)).trans rfl) rfl (x_field rfl Try.underlying30 rfl Try.sizeOf27 rfl) ?_
            refine wl_val (v := .int .u64 a1.Authority) ((wanted_eq rfl rfl rfl (congrArg Value.bool hc207)).trans rfl) rfl (x_load rfl Try.isAgg27 (hst.bc0 rfl)) ?_
            refine wl_val (v := .bool (a0.Authority == a1.Authority)) ((wanted_eq rfl rfl rfl (congrArg Value.bool hc207)).trans rfl) rfl rfl ?_
            refine wl_val (v := .bool (a0.Authority == a1.Authority)) rfl rfl (x_pick_t hc207 rfl rfl) ?_
            refine wl_val (v := .bool (a0.Authority == a1.Authority)) rfl rfl rfl ?_
            refine bsplit (a0.Authority == a1.Authority) (fun hc208 => ?_) (fun hc208 => ?_)
            · skip
              replace hm := bif_t hc208 hm
              refine wl_val (v := .pointer (some ⟨b183, 6, none⟩)) ((wanted_eq rfl rfl rfl (congrArg Value.bool hc208)).trans rfl) rfl (x_field rfl Try.underlying30 rfl Try.sizeOf3 rfl) ?_
              refine wl_val (v := .int .i64 a0.Quota) ((wanted_eq rfl rfl rfl (congrArg Value.bool hc208)).trans rfl) rfl (x_load rfl Try.isAgg3 (hst.bc1 rfl)) ?_
              refine wl_val (v := .pointer (some ⟨b188, 6, none⟩)) ((wanted_eq rfl rfl rfl (congrArg Value.bool hc208)).trans rfl) rfl (x_field rfl Try.underlying30 rfl Try.sizeOf3 rfl) ?_
              refine wl_val (v := .int .i64 a1.Quota) ((wanted_eq rfl rfl rfl (congrArg Value.bool hc208)).trans rfl) rfl (x_load rfl Try.isAgg3 (hst.bc0 rfl)) ?_
              refine wl_val (v := .bool (a0.Quota == a1.Quota)) ((wanted_eq rfl rfl rfl (congrArg Value.bool hc208)).trans rfl) rfl rfl ?_
              refine wl_val (v := .bool (a0.Quota == a1.Quota)) rfl rfl (x_pick_t hc208 rfl rfl) ?_
              refine wl_val (v := .bool (a0.Quota == a1.Quota)) rfl rfl rfl ?_
              refine wl_nil ?_
              refine then_n ?_
              refine wp_ret ?_
              obtain rfl := some_inj hm
              refine post_ret (vs := [.bool (a0.Quota == a1.Quota)]) Try.results12 (rvs_cons (rv_tmp rfl) rvs_nil) ?_
              exact ⟨rfl, hst.keep0⟩
            · skip
              replace hm := bif_f hc208 hm
              refine wl_off ((wanted_eq rfl rfl rfl (congrArg Value.bool hc208)).trans rfl) rfl ?_
              refine wl_off ((wanted_eq rfl rfl rfl (congrArg Value.bool hc208)).trans rfl) rfl ?_
              refine wl_off ((wanted_eq rfl rfl rfl (congrArg Value.bool hc208)).trans rfl) rfl ?_
              refine wl_off ((wanted_eq rfl rfl rfl (congrArg Value.bool hc208)).trans rfl) rfl ?_
              refine wl_off ((wanted_eq rfl rfl rfl (congrArg Value.bool hc208)).trans rfl) rfl ?_
              refine wl_val (v := .bool false) rfl rfl (x_pick_f hc208 rfl rfl) ?_
              refine wl_val (v := .bool false) rfl rfl rfl ?_
              refine wl_nil ?_
              refine then_n ?_
              refine wp_ret ?_
              obtain rfl := some_inj hm
              refine post_ret (vs := [.bool false]) Try.results12 (rvs_cons (rv_tmp rfl) rvs_nil) ?_
              exact ⟨rfl, hst.keep0⟩
          · skip
            replace hm := bif_f hc207 hm
            refine wl_off ((wanted_eq rfl rfl rfl (congrArg Value.bool hc207)).trans rfl) rfl ?_
            refine wl_off ((wanted_eq rfl rfl rfl (congrArg Value.bool hc207)).trans rfl) rfl ?_
            refine wl_off ((wanted_eq rfl rfl rfl (congrArg Value.bool hc207)).trans rfl) rfl ?_
            refine wl_off ((wanted_eq rfl rfl rfl (congrArg Value.bool hc207)).trans rfl) rfl ?_
            refine wl_off ((wanted_eq rfl rfl rfl (congrArg Value.bool hc207)).trans rfl) rfl ?_
            refine wl_val (v := .bool false) rfl rfl (x_pick_f hc207 rfl rfl) ?_
            refine wl_val (v := .bool false) rfl rfl rfl ?_
            refine wl_off ((wanted_eq rfl rfl rfl rfl).trans rfl) rfl ?_
            refine wl_off ((wanted_eq rfl rfl rfl rfl).trans rfl) rfl ?_
            refine wl_off ((wanted_eq rfl rfl rfl rfl).trans rfl) rfl ?_
            refine wl_off ((wanted_eq rfl rfl rfl rfl).trans rfl) rfl ?_
            refine wl_off ((wanted_eq rfl rfl rfl rfl).trans rfl) rfl ?_
            refine wl_val (v := .bool false) rfl rfl (x_pick_f rfl rfl rfl) ?_
            refine wl_val (v := .bool false) rfl rfl rfl ?_
            refine wl_nil ?_
            refine then_n ?_
            refine wp_ret ?_
            obtain rfl := some_inj hm
            refine post_ret (vs := [.bool false]) Try.results12 (rvs_cons (rv_tmp rfl) rvs_nil) ?_
            exact ⟨rfl, hst.keep0⟩
        · skip
          replace hm := bif_f hc201 hm
          refine wl_off ((wanted_eq rfl rfl rfl (congrArg Value.bool hc201)).trans rfl) rfl ?_
          refine wl_off ((wanted_eq rfl rfl rfl (congrArg Value.bool hc201)).trans rfl) rfl ?_
          refine wl_off ((wanted_eq rfl rfl rfl (congrArg Value.bool hc201)).trans rfl) rfl ?_
          refine wl_off ((wanted_eq rfl rfl rfl (congrArg Value.bool hc201)).trans rfl) rfl ?_
          refine wl_off ((wanted_eq rfl rfl rfl (congrArg Value.bool hc201)).trans rfl) rfl ?_
          refine wl_val (v := .bool false) rfl rfl (x_pick_f hc201 rfl rfl) ?_
          refine wl_val (v := .bool false) rfl rfl rfl ?_
          refine wl_off ((wanted_eq rfl rfl rfl rfl).trans rfl) rfl ?_
          refine wl_off ((wanted_eq rfl rfl rfl rfl).trans rfl) rfl ?_
          refine wl_off ((wanted_eq rfl rfl rfl rfl).trans rfl) rfl ?_
          refine wl_off ((wanted_eq rfl rfl rfl rfl).trans rfl) rfl ?_
          refine wl_off ((wanted_eq rfl rfl rfl rfl).trans rfl) rfl ?_
          refine wl_val (v := .bool false) rfl rfl (x_pick_f rfl rfl rfl) ?_
          refine wl_val (v := .bool false) rfl rfl rfl ?_
          refine wl_off ((wanted_eq rfl rfl rfl rfl).trans rfl) rfl ?_
          refine wl_off ((wanted_eq rfl rfl rfl rfl).trans rfl) rfl ?_
          refine wl_off ((wanted_eq rfl rfl rfl rfl).trans rfl) rfl ?_
          refine wl_off ((wanted_eq rfl rfl rfl rfl).trans rfl) rfl ?_
          refine wl_off ((wanted_eq rfl rfl rfl rfl).trans rfl) rfl ?_
          refine wl_val (v := .bool false) rfl rfl (x_pick_f rfl rfl rfl) ?_
          refine wl_val (v := .bool false) rfl rfl rfl ?_
          refine wl_nil ?_
          refine then_n ?_
          refine wp_ret ?_
          obtain rfl := some_inj hm
          refine post_ret (vs := [.bool false]) Try.results12 (rvs_cons (rv_tmp rfl) rvs_nil) ?_
          exact ⟨rfl, hst.keep0⟩
      · skip
        replace hm := bif_f hc195 hm
        refine wl_off ((wanted_eq rfl rfl rfl (congrArg Value.bool hc195)).trans rfl) rfl ?_
        refine wl_off ((wanted_eq rfl rfl rfl (congrArg Value.bool hc195)).trans rfl) rfl ?_
        refine wl_off ((wanted_eq rfl rfl rfl (congrArg Value.bool hc195)).trans rfl) rfl ?_
        refine wl_off ((wanted_eq rfl rfl rfl (congrArg Value.bool hc195)).trans rfl) rfl ?_
        refine wl_off ((wanted_eq rfl rfl rfl (congrArg Value.bool hc195)).trans rfl) rfl ?_
        refine wl_val (v := .bool false) rfl rfl (x_pick_f hc195 rfl rfl) ?_
        refine wl_val (v := .bool false) rfl rfl rfl ?_
        refine wl_off ((wanted_eq rfl rfl rfl rfl).trans rfl) rfl ?_
        refine wl_off ((wanted_eq rfl rfl rfl rfl).trans rfl) rfl ?_
        refine wl_off ((wanted_eq rfl rfl rfl rfl).trans rfl) rfl ?_
        refine wl_off ((wanted_eq rfl rfl rfl rfl).trans rfl) rfl ?_
        refine wl_off ((wanted_eq rfl rfl rfl rfl).trans rfl) rfl ?_
        refine wl_val (v := .bool false) rfl rfl (x_pick_f rfl rfl rfl) ?_
        refine wl_val (v := .bool false) rfl rfl rfl ?_
        refine wl_off ((wanted_eq rfl rfl rfl rfl).trans rfl) rfl ?_
        refine wl_off ((wanted_eq rfl rfl rfl rfl).trans rfl) rfl ?_
        refine wl_off ((wanted_eq rfl rfl rfl rfl).trans rfl) rfl ?_
        refine wl_off ((wanted_eq rfl rfl rfl rfl).trans rfl) rfl ?_
        refine wl_off ((wanted_eq rfl rfl rfl rfl).trans rfl) rfl ?_
        refine wl_val (v := .bool false) rfl rfl (x_pick_f rfl rfl rfl) ?_
        refine wl_val (v := .bool false) rfl rfl rfl ?_
        refine wl_off ((wanted_eq rfl rfl rfl rfl).trans rfl) rfl ?_
        refine wl_off ((wanted_eq rfl rfl rfl rfl).trans rfl) rfl ?_
        refine wl_off ((wanted_eq rfl rfl rfl rfl).trans rfl) rfl ?_
        refine wl_off ((wanted_eq rfl rfl rfl rfl).trans rfl) rfl ?_
        refine wl_off ((wanted_eq rfl rfl rfl rfl).trans rfl) rfl ?_
        refine wl_val (v := .bool false) rfl rfl (x_pick_f rfl rfl rfl) ?_
        refine wl_val (v := .bool false) rfl rfl rfl ?_
        refine wl_nil ?_
        refine then_n ?_
        refine wp_ret ?_
        obtain rfl := some_inj hm
        refine post_ret (vs := [.bool false]) Try.results12 (rvs_cons (rv_tmp rfl) rvs_nil) ?_
        exact ⟨rfl, hst.keep0⟩
    · skip
      replace hm := bif_f hc194 hm
      refine wl_off ((wanted_eq rfl rfl rfl (congrArg Value.bool hc194)).trans rfl) rfl ?_
      refine wl_off ((wanted_eq rfl rfl rfl (congrArg Value.bool hc194)).trans rfl) rfl ?_
      refine wl_off ((wanted_eq rfl rfl rfl (congrArg Value.bool hc194)).trans rfl) rfl ?_
      refine wl_off ((wanted_eq rfl rfl rfl (congrArg Value.bool hc194)).trans rfl) rfl ?_
      refine wl_off ((wanted_eq rfl rfl rfl (congrArg Value.bool hc194)).trans rfl) rfl ?_
      refine wl_val (v := .bool false) rfl rfl (x_pick_f hc194 rfl rfl) ?_
      refine wl_val (v := .bool false) rfl rfl rfl ?_
      refine wl_off ((wanted_eq rfl rfl rfl rfl).trans rfl) rfl ?_
      refine wl_off ((wanted_eq rfl rfl rfl rfl).trans rfl) rfl ?_
      refine wl_off ((wanted_eq rfl rfl rfl rfl).trans rfl) rfl ?_
      refine wl_off ((wanted_eq rfl rfl rfl rfl).trans rfl) rfl ?_
      refine wl_off ((wanted_eq rfl rfl rfl rfl).trans rfl) rfl ?_
      refine wl_val (v := .bool false) rfl rfl (x_pick_f rfl rfl rfl) ?_
      refine wl_val (v := .bool false) rfl rfl rfl ?_
      refine wl_off ((wanted_eq rfl rfl rfl rfl).trans rfl) rfl ?_
      refine wl_off ((wanted_eq rfl rfl rfl rfl).trans rfl) rfl ?_
      refine wl_off ((wanted_eq rfl rfl rfl rfl).trans rfl) rfl ?_
      refine wl_off ((wanted_eq rfl rfl rfl rfl).trans rfl) rfl ?_
      refine wl_off ((wanted_eq rfl rfl rfl rfl).trans rfl) rfl ?_
      refine wl_val (v := .bool false) rfl rfl (x_pick_f rfl rfl rfl) ?_
      refine wl_val (v := .bool false) rfl rfl rfl ?_
      refine wl_off ((wanted_eq rfl rfl rfl rfl).trans rfl) rfl ?_
      refine wl_off ((wanted_eq rfl rfl rfl rfl).trans rfl) rfl ?_
      refine wl_off ((wanted_eq rfl rfl rfl rfl).trans rfl) rfl ?_
      refine wl_off ((wanted_eq rfl rfl rfl rfl).trans rfl) rfl ?_
      refine wl_off ((wanted_eq rfl rfl rfl rfl).trans rfl) rfl ?_
      refine wl_val (v := .bool false) rfl rfl (x_pick_f rfl rfl rfl) ?_
      refine wl_val (v := .bool false) rfl rfl rfl ?_
      refine wl_off ((wanted_eq rfl rfl rfl rfl).trans rfl) rfl ?_
      refine wl_off ((wanted_eq rfl rfl rfl rfl).trans rfl) rfl ?_
      refine wl_off ((wanted_eq rfl rfl rfl rfl).trans rfl) rfl ?_
      refine wl_off ((wanted_eq rfl rfl rfl rfl).trans rfl) rfl ?_
      refine wl_off ((wanted_eq rfl rfl rfl rfl).trans rfl) rfl ?_
      refine wl_val (v := .bool false) rfl rfl (x_pick_f rfl rfl rfl) ?_
      refine wl_val (v := .bool false) rfl rfl rfl ?_
      refine wl_nil ?_
      refine then_n ?_
      refine wp_ret ?_
      obtain rfl := some_inj hm
      refine post_ret (vs := [.bool false]) Try.results12 (rvs_cons (rv_tmp rfl) rvs_nil) ?_
      exact ⟨rfl, hst.keep0⟩
  · skip
    replace hm := bif_f hc193 hm
    refine wl_off ((wanted_eq rfl rfl rfl (congrArg Value.bool hc193)).trans rfl) rfl ?_
    refine wl_off ((wanted_eq rfl rfl rfl (congrArg Value.bool hc193)).trans rfl) rfl ?_
    refine wl_off ((wanted_eq rfl rfl rfl (congrArg Value.bool hc193)).trans rfl) rfl ?_
    refine wl_off ((wanted_eq rfl rfl rfl (congrArg Value.bool hc193)).trans rfl) rfl ?_
    refine wl_off ((wanted_eq rfl rfl rfl (congrArg Value.bool hc193)).trans rfl) rfl ?_
    refine wl_val (v := .bool false) rfl rfl (x_pick_f hc193 rfl rfl) ?_
    refine wl_val (v := .bool false) rfl rfl rfl ?_
    refine wl_off ((wanted_eq rfl rfl rfl rfl).trans rfl) rfl ?_
    refine wl_off ((wanted_eq rfl rfl rfl rfl).trans rfl) rfl ?_
    refine wl_off ((wanted_eq rfl rfl rfl rfl).trans rfl) rfl ?_
    refine wl_off ((wanted_eq rfl rfl rfl rfl).trans rfl) rfl ?_
    refine wl_off ((wanted_eq rfl rfl rfl rfl).trans rfl) rfl ?_
    refine wl_val (v := .bool false) rfl rfl (x_pick_f rfl rfl rfl) ?_
    refine wl_val (v := .bool false) rfl rfl rfl ?_
    refine wl_off ((wanted_eq rfl rfl rfl rfl).trans rfl) rfl ?_
    refine wl_off ((wanted_eq rfl rfl rfl rfl).trans rfl) rfl ?_
    refine wl_off ((wanted_eq rfl rfl rfl rfl).trans rfl) rfl ?_
    refine wl_off ((wanted_eq rfl rfl rfl rfl).trans rfl) rfl ?_
    refine wl_off ((wanted_eq rfl rfl rfl rfl).trans rfl) rfl ?_
    refine wl_val (v := .bool false) rfl rfl (x_pick_f rfl rfl rfl) ?_
    refine wl_val (v := .bool false) rfl rfl rfl ?_
    refine wl_off ((wanted_eq rfl rfl rfl rfl).trans rfl) rfl ?_
    refine wl_off ((wanted_eq rfl rfl rfl rfl).trans rfl) rfl ?_
    refine wl_off ((wanted_eq rfl rfl rfl rfl).trans rfl) rfl ?_
    refine wl_off ((wanted_eq rfl rfl rfl rfl).trans rfl) rfl ?_
    refine wl_off ((wanted_eq rfl rfl rfl rfl).trans rfl) rfl ?_
    refine wl_val (v := .bool false) rfl rfl (x_pick_f rfl rfl rfl) ?_
    refine wl_val (v := .bool false) rfl rfl rfl ?_
    refine wl_off ((wanted_eq rfl rfl rfl rfl).trans rfl) rfl ?_
    refine wl_off ((wanted_eq rfl rfl rfl rfl).trans rfl) rfl ?_
    refine wl_off ((wanted_eq rfl rfl rfl rfl).trans rfl) rfl ?_
    refine wl_off ((wanted_eq rfl rfl rfl rfl).trans rfl) rfl ?_
    refine wl_off ((wanted_eq rfl rfl rfl rfl).trans rfl) rfl ?_
    refine wl_val (v := .bool false) rfl rfl (x_pick_f rfl rfl rfl) ?_
    refine wl_val (v := .bool false) rfl rfl rfl ?_
    refine wl_off ((wanted_eq rfl rfl rfl rfl).trans rfl) rfl ?_
    refine wl_off ((wanted_eq rfl rfl rfl rfl).trans rfl) rfl ?_
    refine wl_off ((wanted_eq rfl rfl rfl rfl).trans rfl) rfl ?_
    refine wl_off ((wanted_eq rfl rfl rfl rfl).trans rfl) rfl ?_
    refine wl_off ((wanted_eq rfl rfl rfl rfl).trans rfl) rfl ?_
    refine wl_val (v := .bool false) rfl rfl (x_pick_f rfl rfl rfl) ?_
    refine wl_val (v := .bool false) rfl rfl rfl ?_
    refine wl_nil ?_
    refine then_n ?_
    refine wp_ret ?_
    obtain rfl := some_inj hm
    refine post_ret (vs := [.bool false]) Try.results12 (rvs_cons (rv_tmp rfl) rvs_nil) ?_
    exact ⟨rfl, hst.keep0⟩

theorem law15_told_ref {w0 w : World} {I : HL} {R : SP} {a0 : (Option policy_Book)} {p0 : Value} {a1 : (List ref11_Line)} {r1_0 : Value} (f1_0 : Rd ty_ref11_Line R I r1_0 a1) (hst : St w0 w I [objO at_policy_Book p0 a0] R) {r : (Bool)} (hm : law15_told a0 a1 = some r) :
    Calls Try.prog 18 #[p0, r1_0] w fun e w' => e = .returned (.bool r) ∧ St w0 w' I [objO at_policy_Book p0 a0] R := by
  rcases a0 with _ | o0
  · skip
    obtain ⟨rfl, hst'⟩ := objO_none hst
    clear hst
    have hst := hst'
    clear hst'
    dsimp only [law15_told] at hm
    refine calls_start (args := [.pointer none, r1_0]) Try.func18 rfl Try.ntmps18 (Nat.le_of_ble_eq_true rfl) ?_
    refine wp_seq ?_
    refine wp_region_lit ?_
    refine wl_val (v := .bool false) rfl rfl rfl ?_
    refine wl_nil ?_
    refine then_n ?_
    refine wp_seq ?_
    refine wp_seq ?_
    refine wp_region_lit ?_
    refine wl_val (v := .pointer none) rfl rfl rfl ?_
    replace hst := hst.objO_nil at_policy_Book
    obtain ⟨t809, ht810, hm⟩ := bind_some hm
    refine wl_call rfl rfl (x_call Try.call14 rfl (vs := [.pointer none]) rfl) ?_
    refine (policy_Book_Len_ref hst.to1 ht810).mono ?_
    rintro _ w811 ⟨rfl, hst⟩
    refine ⟨_, rfl, ?_⟩
    replace hst := hst.of1
    refine wl_val (v := r1_0) rfl rfl rfl ?_
    refine wl_val (v := .int .i64 ((a1).length : Int)) rfl rfl (x_len rfl Try.underlying42 (rd_sliceV f1_0)) ?_
    refine wl_val (v := .bool (t809 != ((a1).length : Int))) rfl rfl rfl ?_
    refine wl_nil ?_
    refine then_n ?_
    refine bsplit (t809 != ((a1).length : Int)) (fun hc814 => ?_) (fun hc814 => ?_)
    · skip
      replace hm := bif_t hc814 hm
      refine wp_ift (congrArg Value.bool hc814) ?_
      refine wp_seq ?_
      refine wp_region_lit ?_
      refine wl_val (v := .bool false) rfl rfl rfl ?_
      refine wl_nil ?_
      refine then_n ?_
      refine wp_ret ?_
      refine then_r ?_
      replace hst := hst.objO_nil at_policy_Book
      obtain rfl := some_inj hm
      refine post_ret (vs := [.bool false]) Try.results18 (rvs_cons (rv_tmp rfl) rvs_nil) ?_
      exact ⟨rfl, hst.keep1⟩
    · skip
      replace hm := bif_f hc814 hm
      refine wp_iff (congrArg Value.bool hc814) ?_
      refine wp_skip ?_
      refine then_n ?_
      refine wp_seq ?_
      refine wp_seq ?_
      refine wp_region_lit ?_
      refine wl_val (v := .int .u64 (0:Int)) rfl rfl rfl ?_
      refine wl_nil ?_
      refine then_n ?_
      refine wp_block ?_
      replace hst := hst.sub
      obtain ⟨n1038, hm⟩ := loopO_some hm
      refine wp_loop_n (fun n a w => ∃ (z1036 : Int) (σ1037 : Nat → Value), loopN (law15_told_l0 a1) n z1036 = some r ∧ a = Fr 47 (upd (upd (upd σ1037 0 (.pointer none)) 1 (r1_0)) 5 (.int .u64 z1036)) ∧ St w0 w I [] R) n1038 ⟨(0:Int), _, hm, ((fr_upd (t := 0) (v := .pointer none) rfl).trans ((fr_upd (t := 1) (v := r1_0) rfl).trans ((fr_upd (t := 5) (v := .int .u64 (0:Int)) rfl).trans rfl))), hst⟩ ?_
      rintro n1044 _ w1039 ⟨z1036, σ1037, hm, rfl, hst⟩
      obtain ⟨n1041, y1042, rfl, hm, hx1043⟩ := loopN_some hm
      dsimp only [law15_told_l0] at hm
      refine wp_seq ?_
      refine wp_seq ?_
      refine wp_region_lit ?_
      refine wl_val (v := .int .u64 z1036) rfl rfl rfl ?_
      refine wl_val (v := .bool (decide (z1036 < (4:Int)))) rfl rfl rfl ?_
      refine wl_nil ?_
      refine then_n ?_
      refine bsplit (decide (z1036 < (4:Int))) (fun hc1045 => ?_) (fun hc1045 => ?_)
      · skip
        replace hm := bif_t hc1045 hm
        refine wp_ift (congrArg Value.bool hc1045) ?_
        refine wp_skip ?_
        refine then_n ?_
        refine wp_seq ?_
        refine wp_block ?_
        refine wp_seq ?_
        refine wp_region_lit ?_
        refine wl_val (v := .int .u64 (0:Int)) rfl rfl rfl ?_
        refine wl_nil ?_
        refine then_n ?_
        refine wp_block ?_
        obtain ⟨n1115, hm⟩ := loopO_some hm
        refine wp_loop_n (fun n a w => ∃ (z1113 : Int) (σ1114 : Nat → Value), loopN (law15_told_l1 z1036 a1) n z1113 = some y1042 ∧ a = Fr 47 (upd (upd (upd (upd σ1114 0 (.pointer none)) 1 (r1_0)) 5 (.int .u64 z1036)) 6 (.int .u64 z1113)) ∧ St w0 w I [] R) n1115 ⟨(0:Int), _, hm, ((fr_upd (t := 0) (v := .pointer none) rfl).trans ((fr_upd (t := 1) (v := r1_0) rfl).trans ((fr_upd (t := 5) (v := .int .u64 z1036) rfl).trans ((fr_upd (t := 6) (v := .int .u64 (0:Int)) rfl).trans rfl)))), hst⟩ ?_
        rintro n1121 _ w1116 ⟨z1113, σ1114, hm, rfl, hst⟩
        obtain ⟨n1118, y1119, rfl, hm, hx1120⟩ := loopN_some hm
        dsimp only [law15_told_l1] at hm
        refine wp_seq ?_
        refine wp_seq ?_
        refine wp_region_lit ?_
        refine wl_val (v := .int .u64 z1113) rfl rfl rfl ?_
        refine wl_val (v := .bool (decide (z1113 < (9:Int)))) rfl rfl rfl ?_
        refine wl_nil ?_
        refine then_n ?_
        refine bsplit (decide (z1113 < (9:Int))) (fun hc1122 => ?_) (fun hc1122 => ?_)
        · skip
          replace hm := bif_t hc1122 hm
          refine wp_ift (congrArg Value.bool hc1122) ?_
          refine wp_skip ?_
          refine then_n ?_
          refine wp_seq ?_
          refine wp_block ?_
          refine wp_seq ?_
          refine wp_region_lit ?_
          refine wl_val (v := .pointer none) rfl rfl rfl ?_
          refine wl_val (v := .int .u64 z1036) rfl rfl rfl ?_
          refine wl_val (v := .int .u64 z1113) rfl rfl rfl ?_
          replace hst := hst.objO_nil at_policy_Book
          obtain ⟨t1124, ht1125, hm⟩ := bind_some hm
          refine wl_call rfl rfl (x_call Try.call11 rfl (vs := [.pointer none, .int .u64 z1036, .int .u64 z1113]) rfl) ?_
          refine (policy_Book_At_ref hst.to1 ht1125).mono ?_
          rintro _ w1126 ⟨rfl, hst⟩
          refine ⟨_, rfl, ?_⟩
          replace hst := hst.of1
          refine wl_val (v := .tuple #[.agg #[.int .u64 t1124.1.ID, .int .i64 t1124.1.From, .int .i64 t1124.1.To, .float .f64 t1124.1.Lo, .float .f64 t1124.1.Hi, .int .u64 t1124.1.Authority, .int .i64 t1124.1.Quota], .bool t1124.2]) rfl rfl rfl ?_
          refine wl_val (v := .agg #[.int .u64 t1124.1.ID, .int .i64 t1124.1.From, .int .i64 t1124.1.To, .float .f64 t1124.1.Lo, .float .f64 t1124.1.Hi, .int .u64 t1124.1.Authority, .int .i64 t1124.1.Quota]) rfl rfl rfl ?_
          refine wl_val (v := .bool t1124.2) rfl rfl rfl ?_
          obtain ⟨b1129, w1130, ew1131, eb1132, hst⟩ := hst.box [.int .u64 (0:Int), .int .i64 (0:Int), .int .i64 (0:Int), .float .f64 (0:Nat), .float .f64 (0:Nat), .int .u64 (0:Int), .int .i64 (0:Int)] 30
          refine wl_run (v := .pointer (some ⟨b1129, 0, none⟩)) (w' := w1130) rfl rfl (x_al (by kernel_rfl) ew1131 eb1132) ?_
          obtain ⟨w1134, hr1135, hst⟩ := hst.boxStore (P := Try.prog) (t := 30) (cs' := [.int .u64 t1124.1.ID, .int .i64 t1124.1.From, .int .i64 t1124.1.To, .float .f64 t1124.1.Lo, .float .f64 t1124.1.Hi, .int .u64 t1124.1.Authority, .int .i64 t1124.1.Quota]) 0 (.agg #[.int .u64 t1124.1.ID, .int .i64 t1124.1.From, .int .i64 t1124.1.To, .float .f64 t1124.1.Lo, .float .f64 t1124.1.Hi, .int .u64 t1124.1.Authority, .int .i64 t1124.1.Quota]) Try.sizeOf30 (Nat.le_of_ble_eq_true rfl) (ones_cons rfl (ones_cons rfl (ones_cons rfl (ones_cons rfl (ones_cons rfl (ones_cons rfl (ones_cons rfl ones_nil))))))) rfl
          refine wl_unit rfl rfl (x_unit hr1135) ?_
          refine wl_val (v := .bool t1124.2) rfl rfl rfl ?_
          refine wl_nil ?_
          refine then_n ?_
          refine wp_seq ?_
          refine wp_region_lit ?_
          refine wl_val (v := r1_0) rfl rfl rfl ?_
          refine wl_val (v := .int .u64 z1036) rfl rfl rfl ?_
          refine wl_val (v := .int .u64 z1113) rfl rfl rfl ?_
          obtain ⟨t1136, ht1137, hm⟩ := bind_some hm
          refine wl_call rfl rfl (x_call Try.call25 rfl (vs := [r1_0, .int .u64 z1036, .int .u64 z1113]) rfl) ?_
          refine (ref11_At_ref (f1_0.mono (rd_weak _)) hst.to0 ht1137).mono ?_
          rintro _ w1138 ⟨rfl, hst⟩
          refine ⟨_, rfl, ?_⟩
          replace hst := hst.of0
          refine wl_val (v := .tuple #[.agg #[.int .u64 t1136.1.ID, .int .i64 t1136.1.From, .int .i64 t1136.1.To, .float .f64 t1136.1.Lo, .float .f64 t1136.1.Hi, .int .u64 t1136.1.Authority, .int .i64 t1136.1.Quota], .bool t1136.2]) rfl rfl rfl ?_
          refine wl_val (v := .agg #[.int .u64 t1136.1.ID, .int .i64 t1136.1.From, .int .i64 t1136.1.To, .float .f64 t1136.1.Lo, .float .f64 t1136.1.Hi, .int .u64 t1136.1.Authority, .int .i64 t1136.1.Quota]) rfl rfl rfl ?_
          refine wl_val (v := .bool t1136.2) rfl rfl rfl ?_
          obtain ⟨b1141, w1142, ew1143, eb1144, hst⟩ := hst.box [.int .u64 (0:Int), .int .i64 (0:Int), .int .i64 (0:Int), .float .f64 (0:Nat), .float .f64 (0:Nat), .int .u64 (0:Int), .int .i64 (0:Int)] 30
          refine wl_run (v := .pointer (some ⟨b1141, 0, none⟩)) (w' := w1142) rfl rfl (x_al (by kernel_rfl) ew1143 eb1144) ?_
          obtain ⟨w1146, hr1147, hst⟩ := hst.boxStore (P := Try.prog) (t := 30) (cs' := [.int .u64 t1136.1.ID, .int .i64 t1136.1.From, .int .i64 t1136.1.To, .float .f64 t1136.1.Lo, .float .f64 t1136.1.Hi, .int .u64 t1136.1.Authority, .int .i64 t1136.1.Quota]) 0 (.agg #[.int .u64 t1136.1.ID, .int .i64 t1136.1.From, .int .i64 t1136.1.To, .float .f64 t1136.1.Lo, .float .f64 t1136.1.Hi, .int .u64 t1136.1.Authority, .int .i64 t1136.1.Quota]) Try.sizeOf30 (Nat.le_of_ble_eq_true rfl) (ones_cons rfl (ones_cons rfl (ones_cons rfl (ones_cons rfl (ones_cons rfl (ones_cons rfl (ones_cons rfl ones_nil))))))) rfl
          refine wl_unit rfl rfl (x_unit hr1147) ?_
          refine wl_val (v := .bool t1136.2) rfl rfl rfl ?_
          refine wl_nil ?_
          refine then_n ?_
          refine wp_seq ?_
          refine wp_region_lit ?_
          refine wl_val (v := .bool t1124.2) rfl rfl rfl ?_
          refine wl_val (v := .bool t1136.2) rfl rfl rfl ?_
          refine wl_val (v := .bool (!(t1124.2 == t1136.2))) rfl rfl (by kernel_rfl) ?_
          refine wl_val (v := .bool (!(t1124.2 == t1136.2))) rfl rfl rfl ?_
          refine bsplit (!(t1124.2 == t1136.2)) (fun hc1148 => ?_) (fun hc1148 => ?_)
          · skip
            replace hm := bif_t hc1148 hm
            refine wl_off ((wanted_eq rfl rfl rfl (congrArg Value.bool hc1148)).trans rfl) rfl ?_
            refine wl_off ((wanted_eq rfl rfl rfl (congrArg Value.bool hc1148)).trans rfl) rfl ?_
            refine wl_off ((wanted_eq rfl rfl rfl (congrArg Value.bool hc1148)).trans rfl) rfl ?_
            refine wl_off ((wanted_eq rfl rfl rfl (congrArg Value.bool hc1148)).trans rfl) rfl ?_
            refine wl_val (v := .bool true) rfl rfl (x_pick_t hc1148 rfl rfl) ?_
            refine wl_nil ?_
            refine then_n ?_
            refine wp_ift rfl ?_
            refine wp_seq ?_
            refine wp_region_lit ?_
            refine wl_val (v := .bool false) rfl rfl rfl ?_
            refine wl_nil ?_
            refine then_n ?_
            refine wp_ret ?_
            refine blk_r ?_
            refine then_r ?_
            refine then_r ?_
            replace hm := inr_up hm hx1120
            refine blk_r ?_
            refine blk_r ?_
            refine then_r ?_
            refine then_r ?_
            replace hm := inr_up hm hx1043
            refine blk_r ?_
            refine then_r ?_
            replace hst := hst.objO_nil at_policy_Book
            obtain rfl := some_inj hm
            refine post_ret (vs := [.bool false]) Try.results18 (rvs_cons (rv_tmp rfl) rvs_nil) ?_
            exact ⟨rfl, hst.keep1⟩
          · skip
            replace hm := bif_f hc1148 hm
            refine wl_val (v := .agg #[.int .u64 t1124.1.ID, .int .i64 t1124.1.From, .int .i64 t1124.1.To, .float .f64 t1124.1.Lo, .float .f64 t1124.1.Hi, .int .u64 t1124.1.Authority, .int .i64 t1124.1.Quota]) ((wanted_eq rfl rfl rfl (congrArg Value.bool hc1148)).trans rfl) rfl (x_loadN (cs := [.int .u64 t1124.1.ID, .int .i64 t1124.1.From, .int .i64 t1124.1.To, .float .f64 t1124.1.Lo, .float .f64 t1124.1.Hi, .int .u64 t1124.1.Authority, .int .i64 t1124.1.Quota]) rfl Try.isAgg30 Try.sizeOf30 (hst.bcs1 0 rfl)) ?_
            refine wl_val (v := .agg #[.int .u64 t1136.1.ID, .int .i64 t1136.1.From, .int .i64 t1136.1.To, .float .f64 t1136.1.Lo, .float .f64 t1136.1.Hi, .int .u64 t1136.1.Authority, .int .i64 t1136.1.Quota]) ((wanted_eq rfl rfl rfl (congrArg Value.bool hc1148)).trans rfl) rfl (x_loadN (cs := [.int .u64 t1136.1.ID, .int .i64 t1136.1.From, .int .i64 t1136.1.To, .float .f64 t1136.1.Lo, .float .f64 t1136.1.Hi, .int .u64 t1136.1.Authority, .int .i64 t1136.1.Quota]) rfl Try.isAgg30 Try.sizeOf30 (hst.bcs0 0 rfl)) ?_
            obtain ⟨t1149, ht1150, hm⟩ := bind_some hm
            refine wl_call ((wanted_eq rfl rfl rfl (congrArg Value.bool hc1148)).trans rfl) rfl (x_call Try.call12 rfl (vs := [.agg #[.int .u64 t1124.1.ID, .int .i64 t1124.1.From, .int .i64 t1124.1.To, .float .f64 t1124.1.Lo, .float .f64 t1124.1.Hi, .int .u64 t1124.1.Authority, .int .i64 t1124.1.Quota], .agg #[.int .u64 t1136.1.ID, .int .i64 t1136.1.From, .int .i64 t1136.1.To, .float .f64 t1136.1.Lo, .float .f64 t1136.1.Hi, .int .u64 t1136.1.Authority, .int .i64 t1136.1.Quota]]) rfl) ?_
            refine (ref11_SameRule_ref hst.to0 ht1150).mono ?_
            rintro _ w1151 ⟨rfl, hst⟩
            refine ⟨_, rfl, ?_⟩
            replace hst := hst.of0
            refine wl_val (v := .bool (!t1149)) ((wanted_eq rfl rfl rfl (congrArg Value.bool hc1148)).trans rfl) rfl rfl ?_
            refine wl_val (v := .bool (!t1149)) rfl rfl (x_pick_f hc1148 rfl rfl) ?_
            refine wl_nil ?_
            refine then_n ?_
            refine bsplit (!t1149) (fun hc1154 => ?_) (fun hc1154 => ?_)
            · skip
              replace hm := bif_t hc1154 hm
              refine wp_ift (congrArg Value.bool hc1154) ?_
              refine wp_seq ?_
              refine wp_region_lit ?_
              refine wl_val (v := .bool false) rfl rfl rfl ?_
              refine wl_nil ?_
              refine then_n ?_
              refine wp_ret ?_
              refine blk_r ?_
              refine then_r ?_
              refine then_r ?_
              replace hm := inr_up hm hx1120
              refine blk_r ?_
              refine blk_r ?_
              refine then_r ?_
              refine then_r ?_
              replace hm := inr_up hm hx1043
              refine blk_r ?_
              refine then_r ?_
              replace hst := hst.objO_nil at_policy_Book
              obtain rfl := some_inj hm
              refine post_ret (vs := [.bool false]) Try.results18 (rvs_cons (rv_tmp rfl) rvs_nil) ?_
              exact ⟨rfl, hst.keep1⟩
            · skip
              replace hm := bif_f hc1154 hm
              refine wp_iff (congrArg Value.bool hc1154) ?_
              refine wp_skip ?_
              refine blk_n ?_
              refine then_n ?_
              refine wp_region_lit ?_
              refine wl_val (v := .int .u64 z1113) rfl rfl rfl ?_
              refine wl_val (v := .int .u64 (IntKind.u64.wrap (z1113 + (1:Int)))) rfl rfl rfl ?_
              refine wl_val (v := .int .u64 (IntKind.u64.wrap (z1113 + (1:Int)))) rfl rfl rfl ?_
              refine wl_nil ?_
              refine then_n ?_
              replace hst := hst.keep0
              obtain rfl := some_inj hm
              exact ⟨_, Nat.lt_succ_self _, (IntKind.u64.wrap (z1113 + (1:Int))), _, hx1120, ((fr_upd (t := 0) (v := .pointer none) rfl).trans ((fr_upd (t := 1) (v := r1_0) rfl).trans ((fr_upd (t := 5) (v := .int .u64 z1036) rfl).trans ((fr_upd (t := 6) (v := .int .u64 (IntKind.u64.wrap (z1113 + (1:Int)))) rfl).trans rfl)))), hst⟩
        · skip
          replace hm := bif_f hc1122 hm
          refine wp_iff (congrArg Value.bool hc1122) ?_
          refine wp_exit ?_
          refine then_x ?_
          refine then_x ?_
          replace hm := inr_up hm hx1120
          refine blk_x ?_
          refine blk_n ?_
          refine then_n ?_
          refine wp_region_lit ?_
          refine wl_val (v := .int .u64 z1036) rfl rfl rfl ?_
          refine wl_val (v := .int .u64 (IntKind.u64.wrap (z1036 + (1:Int)))) rfl rfl rfl ?_
          refine wl_val (v := .int .u64 (IntKind.u64.wrap (z1036 + (1:Int)))) rfl rfl rfl ?_
          refine wl_nil ?_
          refine then_n ?_
          replace hst := hst.keep0
          obtain rfl := some_inj hm
          exact ⟨_, Nat.lt_succ_self _, (IntKind.u64.wrap (z1036 + (1:Int))), _, hx1043, ((fr_upd (t := 0) (v := .pointer none) rfl).trans ((fr_upd (t := 1) (v := r1_0) rfl).trans ((fr_upd (t := 5) (v := .int .u64 (IntKind.u64.wrap (z1036 + (1:Int)))) rfl).trans rfl))), hst⟩
      · skip
        replace hm := bif_f hc1045 hm
        refine wp_iff (congrArg Value.bool hc1045) ?_
        refine wp_exit ?_
        refine then_x ?_
        refine then_x ?_
        replace hm := inr_up hm hx1043
        refine blk_x ?_
        refine then_n ?_
        refine wp_seq ?_
        refine wp_region_lit ?_
        refine wl_val (v := .bool true) rfl rfl rfl ?_
        refine wl_nil ?_
        refine then_n ?_
        refine wp_ret ?_
        replace hst := hst.objO_nil at_policy_Book
        obtain rfl := some_inj hm
        refine post_ret (vs := [.bool true]) Try.results18 (rvs_cons (rv_tmp rfl) rvs_nil) ?_
        exact ⟨rfl, hst.keep1⟩
  · skip
    replace hst := objO_get hst
    dsimp only [law15_told] at hm
    refine calls_start (args := [p0, r1_0]) Try.func18 rfl Try.ntmps18 (Nat.le_of_ble_eq_true rfl) ?_
    refine wp_seq ?_
    refine wp_region_lit ?_
    refine wl_val (v := .bool false) rfl rfl rfl ?_
    refine wl_nil ?_
    refine then_n ?_
    refine wp_seq ?_
    refine wp_seq ?_
    refine wp_region_lit ?_
    refine wl_val (v := p0) rfl rfl rfl ?_
    replace hst := objO_some hst
    obtain ⟨t1155, ht1156, hm⟩ := bind_some hm
    refine wl_call rfl rfl (x_call Try.call14 rfl (vs := [p0]) rfl) ?_
    refine (policy_Book_Len_ref hst.to1 ht1156).mono ?_
    rintro _ w1157 ⟨rfl, hst⟩
    refine ⟨_, rfl, ?_⟩
    replace hst := hst.of1
    replace hst := objO_get hst
    refine wl_val (v := r1_0) rfl rfl rfl ?_
    refine wl_val (v := .int .i64 ((a1).length : Int)) rfl rfl (x_len rfl Try.underlying42 (rd_sliceV f1_0)) ?_
    refine wl_val (v := .bool (t1155 != ((a1).length : Int))) rfl rfl rfl ?_
    refine wl_nil ?_
    refine then_n ?_
    refine bsplit (t1155 != ((a1).length : Int)) (fun hc1160 => ?_) (fun hc1160 => ?_)
    · skip
      replace hm := bif_t hc1160 hm
      refine wp_ift (congrArg Value.bool hc1160) ?_
      refine wp_seq ?_
      refine wp_region_lit ?_
      refine wl_val (v := .bool false) rfl rfl rfl ?_
      refine wl_nil ?_
      refine then_n ?_
      refine wp_ret ?_
      refine then_r ?_
      replace hst := objO_some hst
      obtain rfl := some_inj hm
      refine post_ret (vs := [.bool false]) Try.results18 (rvs_cons (rv_tmp rfl) rvs_nil) ?_
      exact ⟨rfl, hst.keep1⟩
    · skip
      replace hm := bif_f hc1160 hm
      refine wp_iff (congrArg Value.bool hc1160) ?_
      refine wp_skip ?_
      refine then_n ?_
      refine wp_seq ?_
      refine wp_seq ?_
      refine wp_region_lit ?_
      refine wl_val (v := .int .u64 (0:Int)) rfl rfl rfl ?_
      refine wl_nil ?_
      refine then_n ?_
      refine wp_block ?_
      obtain ⟨n1378, hm⟩ := loopO_some hm
      refine wp_loop_n (fun n a w => ∃ (z1376 : Int) (σ1377 : Nat → Value), loopN (law15_told_l2 o0 a1) n z1376 = some r ∧ a = Fr 47 (upd (upd (upd σ1377 0 (p0)) 1 (r1_0)) 5 (.int .u64 z1376)) ∧ St w0 w I [at_policy_Book p0 o0] R) n1378 ⟨(0:Int), _, hm, ((fr_upd (t := 0) (v := p0) rfl).trans ((fr_upd (t := 1) (v := r1_0) rfl).trans ((fr_upd (t := 5) (v := .int .u64 (0:Int)) rfl).trans rfl))), hst⟩ ?_
      rintro n1384 _ w1379 ⟨z1376, σ1377, hm, rfl, hst⟩
      obtain ⟨n1381, y1382, rfl, hm, hx1383⟩ := loopN_some hm
      dsimp only [law15_told_l2] at hm
      refine wp_seq ?_
      refine wp_seq ?_
      refine wp_region_lit ?_
      refine wl_val (v := .int .u64 z1376) rfl rfl rfl ?_
      refine wl_val (v := .bool (decide (z1376 < (4:Int)))) rfl rfl rfl ?_
      refine wl_nil ?_
      refine then_n ?_
      refine bsplit (decide (z1376 < (4:Int))) (fun hc1385 => ?_) (fun hc1385 => ?_)
      · skip
        replace hm := bif_t hc1385 hm
        refine wp_ift (congrArg Value.bool hc1385) ?_
        refine wp_skip ?_
        refine then_n ?_
        refine wp_seq ?_
        refine wp_block ?_
        refine wp_seq ?_
        refine wp_region_lit ?_
        refine wl_val (v := .int .u64 (0:Int)) rfl rfl rfl ?_
        refine wl_nil ?_
        refine then_n ?_
        refine wp_block ?_
        obtain ⟨n1453, hm⟩ := loopO_some hm
        refine wp_loop_n (fun n a w => ∃ (z1451 : Int) (σ1452 : Nat → Value), loopN (law15_told_l3 o0 z1376 a1) n z1451 = some y1382 ∧ a = Fr 47 (upd (upd (upd (upd σ1452 0 (p0)) 1 (r1_0)) 5 (.int .u64 z1376)) 6 (.int .u64 z1451)) ∧ St w0 w I [at_policy_Book p0 o0] R) n1453 ⟨(0:Int), _, hm, ((fr_upd (t := 0) (v := p0) rfl).trans ((fr_upd (t := 1) (v := r1_0) rfl).trans ((fr_upd (t := 5) (v := .int .u64 z1376) rfl).trans ((fr_upd (t := 6) (v := .int .u64 (0:Int)) rfl).trans rfl)))), hst⟩ ?_
        rintro n1459 _ w1454 ⟨z1451, σ1452, hm, rfl, hst⟩
        obtain ⟨n1456, y1457, rfl, hm, hx1458⟩ := loopN_some hm
        dsimp only [law15_told_l3] at hm
        refine wp_seq ?_
        refine wp_seq ?_
        refine wp_region_lit ?_
        refine wl_val (v := .int .u64 z1451) rfl rfl rfl ?_
        refine wl_val (v := .bool (decide (z1451 < (9:Int)))) rfl rfl rfl ?_
        refine wl_nil ?_
        refine then_n ?_
        refine bsplit (decide (z1451 < (9:Int))) (fun hc1460 => ?_) (fun hc1460 => ?_)
        · skip
          replace hm := bif_t hc1460 hm
          refine wp_ift (congrArg Value.bool hc1460) ?_
          refine wp_skip ?_
          refine then_n ?_
          refine wp_seq ?_
          refine wp_block ?_
          refine wp_seq ?_
          refine wp_region_lit ?_
          refine wl_val (v := p0) rfl rfl rfl ?_
          refine wl_val (v := .int .u64 z1376) rfl rfl rfl ?_
          refine wl_val (v := .int .u64 z1451) rfl rfl rfl ?_
          replace hst := objO_some hst
          obtain ⟨t1461, ht1462, hm⟩ := bind_some hm
          refine wl_call rfl rfl (x_call Try.call11 rfl (vs := [p0, .int .u64 z1376, .int .u64 z1451]) rfl) ?_
          refine (policy_Book_At_ref hst.to1 ht1462).mono ?_
          rintro _ w1463 ⟨rfl, hst⟩
          refine ⟨_, rfl, ?_⟩
          replace hst := hst.of1
          replace hst := objO_get hst
          refine wl_val (v := .tuple #[.agg #[.int .u64 t1461.1.ID, .int .i64 t1461.1.From, .int .i64 t1461.1.To, .float .f64 t1461.1.Lo, .float .f64 t1461.1.Hi, .int .u64 t1461.1.Authority, .int .i64 t1461.1.Quota], .bool t1461.2]) rfl rfl rfl ?_
          refine wl_val (v := .agg #[.int .u64 t1461.1.ID, .int .i64 t1461.1.From, .int .i64 t1461.1.To, .float .f64 t1461.1.Lo, .float .f64 t1461.1.Hi, .int .u64 t1461.1.Authority, .int .i64 t1461.1.Quota]) rfl rfl rfl ?_
          refine wl_val (v := .bool t1461.2) rfl rfl rfl ?_
          obtain ⟨b1466, w1467, ew1468, eb1469, hst⟩ := hst.box [.int .u64 (0:Int), .int .i64 (0:Int), .int .i64 (0:Int), .float .f64 (0:Nat), .float .f64 (0:Nat), .int .u64 (0:Int), .int .i64 (0:Int)] 30
          refine wl_run (v := .pointer (some ⟨b1466, 0, none⟩)) (w' := w1467) rfl rfl (x_al (by kernel_rfl) ew1468 eb1469) ?_
          obtain ⟨w1471, hr1472, hst⟩ := hst.boxStore (P := Try.prog) (t := 30) (cs' := [.int .u64 t1461.1.ID, .int .i64 t1461.1.From, .int .i64 t1461.1.To, .float .f64 t1461.1.Lo, .float .f64 t1461.1.Hi, .int .u64 t1461.1.Authority, .int .i64 t1461.1.Quota]) 0 (.agg #[.int .u64 t1461.1.ID, .int .i64 t1461.1.From, .int .i64 t1461.1.To, .float .f64 t1461.1.Lo, .float .f64 t1461.1.Hi, .int .u64 t1461.1.Authority, .int .i64 t1461.1.Quota]) Try.sizeOf30 (Nat.le_of_ble_eq_true rfl) (ones_cons rfl (ones_cons rfl (ones_cons rfl (ones_cons rfl (ones_cons rfl (ones_cons rfl (ones_cons rfl ones_nil))))))) rfl
          refine wl_unit rfl rfl (x_unit hr1472) ?_
          refine wl_val (v := .bool t1461.2) rfl rfl rfl ?_
          refine wl_nil ?_
          refine then_n ?_
          refine wp_seq ?_
          refine wp_region_lit ?_
          refine wl_val (v := r1_0) rfl rfl rfl ?_
          refine wl_val (v := .int .u64 z1376) rfl rfl rfl ?_
          refine wl_val (v := .int .u64 z1451) rfl rfl rfl ?_
          obtain ⟨t1473, ht1474, hm⟩ := bind_some hm
          refine wl_call rfl rfl (x_call Try.call25 rfl (vs := [r1_0, .int .u64 z1376, .int .u64 z1451]) rfl) ?_
          refine (ref11_At_ref (f1_0.mono (rd_weak _)) hst.to0 ht1474).mono ?_
          rintro _ w1475 ⟨rfl, hst⟩
          refine ⟨_, rfl, ?_⟩
          replace hst := hst.of0
          refine wl_val (v := .tuple #[.agg #[.int .u64 t1473.1.ID, .int .i64 t1473.1.From, .int .i64 t1473.1.To, .float .f64 t1473.1.Lo, .float .f64 t1473.1.Hi, .int .u64 t1473.1.Authority, .int .i64 t1473.1.Quota], .bool t1473.2]) rfl rfl rfl ?_
          refine wl_val (v := .agg #[.int .u64 t1473.1.ID, .int .i64 t1473.1.From, .int .i64 t1473.1.To, .float .f64 t1473.1.Lo, .float .f64 t1473.1.Hi, .int .u64 t1473.1.Authority, .int .i64 t1473.1.Quota]) rfl rfl rfl ?_
          refine wl_val (v := .bool t1473.2) rfl rfl rfl ?_
          obtain ⟨b1478, w1479, ew1480, eb1481, hst⟩ := hst.box [.int .u64 (0:Int), .int .i64 (0:Int), .int .i64 (0:Int), .float .f64 (0:Nat), .float .f64 (0:Nat), .int .u64 (0:Int), .int .i64 (0:Int)] 30
          refine wl_run (v := .pointer (some ⟨b1478, 0, none⟩)) (w' := w1479) rfl rfl (x_al (by kernel_rfl) ew1480 eb1481) ?_
          obtain ⟨w1483, hr1484, hst⟩ := hst.boxStore (P := Try.prog) (t := 30) (cs' := [.int .u64 t1473.1.ID, .int .i64 t1473.1.From, .int .i64 t1473.1.To, .float .f64 t1473.1.Lo, .float .f64 t1473.1.Hi, .int .u64 t1473.1.Authority, .int .i64 t1473.1.Quota]) 0 (.agg #[.int .u64 t1473.1.ID, .int .i64 t1473.1.From, .int .i64 t1473.1.To, .float .f64 t1473.1.Lo, .float .f64 t1473.1.Hi, .int .u64 t1473.1.Authority, .int .i64 t1473.1.Quota]) Try.sizeOf30 (Nat.le_of_ble_eq_true rfl) (ones_cons rfl (ones_cons rfl (ones_cons rfl (ones_cons rfl (ones_cons rfl (ones_cons rfl (ones_cons rfl ones_nil))))))) rfl
          refine wl_unit rfl rfl (x_unit hr1484) ?_
          refine wl_val (v := .bool t1473.2) rfl rfl rfl ?_
          refine wl_nil ?_
          refine then_n ?_
          refine wp_seq ?_
          refine wp_region_lit ?_
          refine wl_val (v := .bool t1461.2) rfl rfl rfl ?_
          refine wl_val (v := .bool t1473.2) rfl rfl rfl ?_
          refine wl_val (v := .bool (!(t1461.2 == t1473.2))) rfl rfl (by kernel_rfl) ?_
          refine wl_val (v := .bool (!(t1461.2 == t1473.2))) rfl rfl rfl ?_
          refine bsplit (!(t1461.2 == t1473.2)) (fun hc1485 => ?_) (fun hc1485 => ?_)
          · skip
            replace hm := bif_t hc1485 hm
            refine wl_off ((wanted_eq rfl rfl rfl (congrArg Value.bool hc1485)).trans rfl) rfl ?_
            refine wl_off ((wanted_eq rfl rfl rfl (congrArg Value.bool hc1485)).trans rfl) rfl ?_
            refine wl_off ((wanted_eq rfl rfl rfl (congrArg Value.bool hc1485)).trans rfl) rfl ?_
            refine wl_off ((wanted_eq rfl rfl rfl (congrArg Value.bool hc1485)).trans rfl) rfl ?_
            refine wl_val (v := .bool true) rfl rfl (x_pick_t hc1485 rfl rfl) ?_
            refine wl_nil ?_
            refine then_n ?_
            refine wp_ift rfl ?_
            refine wp_seq ?_
            refine wp_region_lit ?_
            refine wl_val (v := .bool false) rfl rfl rfl ?_
            refine wl_nil ?_
            refine then_n ?_
            refine wp_ret ?_
            refine blk_r ?_
            refine then_r ?_
            refine then_r ?_
            replace hm := inr_up hm hx1458
            refine blk_r ?_
            refine blk_r ?_
            refine then_r ?_
            refine then_r ?_
            replace hm := inr_up hm hx1383
            refine blk_r ?_
            refine then_r ?_
            replace hst := hst.pull2
            replace hst := objO_some hst
            obtain rfl := some_inj hm
            refine post_ret (vs := [.bool false]) Try.results18 (rvs_cons (rv_tmp rfl) rvs_nil) ?_
            exact ⟨rfl, hst.keep1⟩
          · skip
            replace hm := bif_f hc1485 hm
            refine wl_val (v := .agg #[.int .u64 t1461.1.ID, .int .i64 t1461.1.From, .int .i64 t1461.1.To, .float .f64 t1461.1.Lo, .float .f64 t1461.1.Hi, .int .u64 t1461.1.Authority, .int .i64 t1461.1.Quota]) ((wanted_eq rfl rfl rfl (congrArg Value.bool hc1485)).trans rfl) rfl (x_loadN (cs := [.int .u64 t1461.1.ID, .int .i64 t1461.1.From, .int .i64 t1461.1.To, .float .f64 t1461.1.Lo, .float .f64 t1461.1.Hi, .int .u64 t1461.1.Authority, .int .i64 t1461.1.Quota]) rfl Try.isAgg30 Try.sizeOf30 (hst.bcs1 0 rfl)) ?_
            refine wl_val (v := .agg #[.int .u64 t1473.1.ID, .int .i64 t1473.1.From, .int .i64 t1473.1.To, .float .f64 t1473.1.Lo, .float .f64 t1473.1.Hi, .int .u64 t1473.1.Authority, .int .i64 t1473.1.Quota]) ((wanted_eq rfl rfl rfl (congrArg Value.bool hc1485)).trans rfl) rfl (x_loadN (cs := [.int .u64 t1473.1.ID, .int .i64 t1473.1.From, .int .i64 t1473.1.To, .float .f64 t1473.1.Lo, .float .f64 t1473.1.Hi, .int .u64 t1473.1.Authority, .int .i64 t1473.1.Quota]) rfl Try.isAgg30 Try.sizeOf30 (hst.bcs0 0 rfl)) ?_
            obtain ⟨t1486, ht1487, hm⟩ := bind_some hm
            refine wl_call ((wanted_eq rfl rfl rfl (congrArg Value.bool hc1485)).trans rfl) rfl (x_call Try.call12 rfl (vs := [.agg #[.int .u64 t1461.1.ID, .int .i64 t1461.1.From, .int .i64 t1461.1.To, .float .f64 t1461.1.Lo, .float .f64 t1461.1.Hi, .int .u64 t1461.1.Authority, .int .i64 t1461.1.Quota], .agg #[.int .u64 t1473.1.ID, .int .i64 t1473.1.From, .int .i64 t1473.1.To, .float .f64 t1473.1.Lo, .float .f64 t1473.1.Hi, .int .u64 t1473.1.Authority, .int .i64 t1473.1.Quota]]) rfl) ?_
            refine (ref11_SameRule_ref hst.to0 ht1487).mono ?_
            rintro _ w1488 ⟨rfl, hst⟩
            refine ⟨_, rfl, ?_⟩
            replace hst := hst.of0
            refine wl_val (v := .bool (!t1486)) ((wanted_eq rfl rfl rfl (congrArg Value.bool hc1485)).trans rfl) rfl rfl ?_
            refine wl_val (v := .bool (!t1486)) rfl rfl (x_pick_f hc1485 rfl rfl) ?_
            refine wl_nil ?_
            refine then_n ?_
            refine bsplit (!t1486) (fun hc1491 => ?_) (fun hc1491 => ?_)
            · skip
              replace hm := bif_t hc1491 hm
              refine wp_ift (congrArg Value.bool hc1491) ?_
              refine wp_seq ?_
              refine wp_region_lit ?_
              refine wl_val (v := .bool false) rfl rfl rfl ?_
              refine wl_nil ?_
              refine then_n ?_
              refine wp_ret ?_
              refine blk_r ?_
              refine then_r ?_
              refine then_r ?_
              replace hm := inr_up hm hx1458
              refine blk_r ?_
              refine blk_r ?_
              refine then_r ?_
              refine then_r ?_
              replace hm := inr_up hm hx1383
              refine blk_r ?_
              refine then_r ?_
              replace hst := hst.pull2
              replace hst := objO_some hst
              obtain rfl := some_inj hm
              refine post_ret (vs := [.bool false]) Try.results18 (rvs_cons (rv_tmp rfl) rvs_nil) ?_
              exact ⟨rfl, hst.keep1⟩
            · skip
              replace hm := bif_f hc1491 hm
              refine wp_iff (congrArg Value.bool hc1491) ?_
              refine wp_skip ?_
              refine blk_n ?_
              refine then_n ?_
              refine wp_region_lit ?_
              refine wl_val (v := .int .u64 z1451) rfl rfl rfl ?_
              refine wl_val (v := .int .u64 (IntKind.u64.wrap (z1451 + (1:Int)))) rfl rfl rfl ?_
              refine wl_val (v := .int .u64 (IntKind.u64.wrap (z1451 + (1:Int)))) rfl rfl rfl ?_
              refine wl_nil ?_
              refine then_n ?_
              replace hst := hst.pull2
              replace hst := hst.keep1
              obtain rfl := some_inj hm
              exact ⟨_, Nat.lt_succ_self _, (IntKind.u64.wrap (z1451 + (1:Int))), _, hx1458, ((fr_upd (t := 0) (v := p0) rfl).trans ((fr_upd (t := 1) (v := r1_0) rfl).trans ((fr_upd (t := 5) (v := .int .u64 z1376) rfl).trans ((fr_upd (t := 6) (v := .int .u64 (IntKind.u64.wrap (z1451 + (1:Int)))) rfl).trans rfl)))), hst⟩
        · skip
          replace hm := bif_f hc1460 hm
          refine wp_iff (congrArg Value.bool hc1460) ?_
          refine wp_exit ?_
          refine then_x ?_
          refine then_x ?_
          replace hm := inr_up hm hx1458
          refine blk_x ?_
          refine blk_n ?_
          refine then_n ?_
          refine wp_region_lit ?_
          refine wl_val (v := .int .u64 z1376) rfl rfl rfl ?_
          refine wl_val (v := .int .u64 (IntKind.u64.wrap (z1376 + (1:Int)))) rfl rfl rfl ?_
          refine wl_val (v := .int .u64 (IntKind.u64.wrap (z1376 + (1:Int)))) rfl rfl rfl ?_
          refine wl_nil ?_
          refine then_n ?_
          replace hst := hst.keep1
          obtain rfl := some_inj hm
          exact ⟨_, Nat.lt_succ_self _, (IntKind.u64.wrap (z1376 + (1:Int))), _, hx1383, ((fr_upd (t := 0) (v := p0) rfl).trans ((fr_upd (t := 1) (v := r1_0) rfl).trans ((fr_upd (t := 5) (v := .int .u64 (IntKind.u64.wrap (z1376 + (1:Int)))) rfl).trans rfl))), hst⟩
      · skip
        replace hm := bif_f hc1385 hm
        refine wp_iff (congrArg Value.bool hc1385) ?_
        refine wp_exit ?_
        refine then_x ?_
        refine then_x ?_
        replace hm := inr_up hm hx1383
        refine blk_x ?_
        refine then_n ?_
        refine wp_seq ?_
        refine wp_region_lit ?_
        refine wl_val (v := .bool true) rfl rfl rfl ?_
        refine wl_nil ?_
        refine then_n ?_
        refine wp_ret ?_
        replace hst := objO_some hst
        obtain rfl := some_inj hm
        refine post_ret (vs := [.bool true]) Try.results18 (rvs_cons (rv_tmp rfl) rvs_nil) ?_
        exact ⟨rfl, hst.keep1⟩

theorem law15_PolicyPlays_ref {w0 w : World} {I : HL} {R : SP} {a0 : (List Int)} {r0_0 : Value} {a1 : Bool} (f0_0 : Ro (tyInt .u8) I r0_0 a0) (hst : St w0 w I [] R) {r : (Bool)} (hm : law15_PolicyPlays a0 a1 = some r) :
    Calls Try.prog 5 #[r0_0, .bool a1] w fun e w' => e = .returned (.bool r) ∧ St w0 w' I [] R := by
  unfold law15_PolicyPlays at hm
  refine calls_start (args := [r0_0, .bool a1]) Try.func5 rfl Try.ntmps5 (Nat.le_of_ble_eq_true rfl) ?_
  refine wp_seq ?_
  refine wp_region_lit ?_
  refine wl_val (v := .bool false) rfl rfl rfl ?_
  refine wl_nil ?_
  refine then_n ?_
  refine wp_seq ?_
  refine wp_seq ?_
  refine wp_region_lit ?_
  obtain ⟨t442, ht443, hm⟩ := bind_some hm
  refine wl_call rfl rfl (x_call Try.call8 rfl (vs := []) rfl) ?_
  refine (law15_awake_ref hst.to0 ht443).mono ?_
  rintro _ w444 ⟨rfl, hst⟩
  refine ⟨_, rfl, ?_⟩
  replace hst := hst.of0
  refine wl_val (v := .bool (!t442)) rfl rfl rfl ?_
  refine wl_val (v := .bool (!t442)) rfl rfl rfl ?_
  refine bsplit (!t442) (fun hc447 => ?_) (fun hc447 => ?_)
  · skip
    replace hm := bif_t hc447 hm
    refine wl_off ((wanted_eq rfl rfl rfl (congrArg Value.bool hc447)).trans rfl) rfl ?_
    refine wl_off ((wanted_eq rfl rfl rfl (congrArg Value.bool hc447)).trans rfl) rfl ?_
    refine wl_off ((wanted_eq rfl rfl rfl (congrArg Value.bool hc447)).trans rfl) rfl ?_
    refine wl_val (v := .bool true) rfl rfl (x_pick_t hc447 rfl rfl) ?_
    refine wl_nil ?_
    refine then_n ?_
    refine wp_ift rfl ?_
    refine wp_seq ?_
    refine wp_region_lit ?_
    obtain ⟨t448, ht449, hm⟩ := bind_some hm
    refine wl_call rfl rfl (x_call Try.call8 rfl (vs := []) rfl) ?_
    refine (law15_awake_ref hst.to0 ht449).mono ?_
    rintro _ w450 ⟨rfl, hst⟩
    refine ⟨_, rfl, ?_⟩
    replace hst := hst.of0
    refine wl_val (v := .bool t448) rfl rfl rfl ?_
    refine wl_nil ?_
    refine then_n ?_
    refine wp_ret ?_
    refine then_r ?_
    obtain rfl := some_inj hm
    refine post_ret (vs := [.bool t448]) Try.results5 (rvs_cons (rv_tmp rfl) rvs_nil) ?_
    exact ⟨rfl, hst.keep0⟩
  · skip
    replace hm := bif_f hc447 hm
    refine wl_val (v := r0_0) ((wanted_eq rfl rfl rfl (congrArg Value.bool hc447)).trans rfl) rfl rfl ?_
    refine wl_val (v := .int .i64 ((a0).length : Int)) ((wanted_eq rfl rfl rfl (congrArg Value.bool hc447)).trans rfl) rfl (x_len rfl Try.underlying23 (ro_sliceV f0_0)) ?_
    refine wl_val (v := .bool (decide (((a0).length : Int) > (400:Int)))) ((wanted_eq rfl rfl rfl (congrArg Value.bool hc447)).trans rfl) rfl rfl ?_
    refine wl_val (v := .bool (decide (((a0).length : Int) > (400:Int)))) rfl rfl (x_pick_f hc447 rfl rfl) ?_
    refine wl_nil ?_
    refine then_n ?_
    refine bsplit (decide (((a0).length : Int) > (400:Int))) (fun hc453 => ?_) (fun hc453 => ?_)
    · skip
      replace hm := bif_t hc453 hm
      refine wp_ift (congrArg Value.bool hc453) ?_
      refine wp_seq ?_
      refine wp_region_lit ?_
      obtain ⟨t454, ht455, hm⟩ := bind_some hm
      refine wl_call rfl rfl (x_call Try.call8 rfl (vs := []) rfl) ?_
      refine (law15_awake_ref hst.to0 ht455).mono ?_
      rintro _ w456 ⟨rfl, hst⟩
      refine ⟨_, rfl, ?_⟩
      replace hst := hst.of0
      refine wl_val (v := .bool t454) rfl rfl rfl ?_
      refine wl_nil ?_
      refine then_n ?_
      refine wp_ret ?_
      refine then_r ?_
      obtain rfl := some_inj hm
      refine post_ret (vs := [.bool t454]) Try.results5 (rvs_cons (rv_tmp rfl) rvs_nil) ?_
      exact ⟨rfl, hst.keep0⟩
    · skip
      replace hm := bif_f hc453 hm
      refine wp_iff (congrArg Value.bool hc453) ?_
      refine wp_skip ?_
      refine then_n ?_
      refine wp_seq ?_
      refine wp_region_lit ?_
      refine wl_val (v := r0_0) rfl rfl rfl ?_
      refine wl_val (v := .agg #[r0_0, .int .i64 (0:Int)]) rfl rfl (by obtain ⟨_, _, hv_, _⟩ := (ro_sliceV f0_0); rw [hv_]; kernel_rfl) ?_
      obtain ⟨b460, w461, ew462, eb463, hst⟩ := hst.box [r0_0, .int .i64 (0:Int)] 41
      refine wl_run (v := .pointer (some ⟨b460, 0, none⟩)) (w' := w461) rfl rfl (x_al (by kernel_rfl) ew462 eb463) ?_
      refine wl_val (v := .pointer (some ⟨b460, 0, none⟩)) rfl rfl rfl ?_
      refine wl_nil ?_
      refine then_n ?_
      refine wp_seq ?_
      refine wp_region_lit ?_
      obtain ⟨t465, ht466, hm⟩ := bind_some hm
      refine wl_call rfl rfl (x_call Try.call9 rfl (vs := []) rfl) ?_
      refine (policy_New_ref hst.to0 ht466).mono ?_
      rintro _ w467 ⟨v470, rfl, hst⟩
      refine ⟨_, rfl, ?_⟩
      replace hst := hst.of1
      refine wl_val (v := v470) rfl rfl rfl ?_
      refine wl_nil ?_
      refine then_n ?_
      refine wp_seq ?_
      refine wp_region_lit ?_
      refine wl_val (v := (.slice none 0 0)) rfl rfl rfl ?_
      refine wl_nil ?_
      refine then_n ?_
      refine wp_seq ?_
      refine wp_region_lit ?_
      refine wl_val (v := .int .u64 (1:Int)) rfl rfl rfl ?_
      refine wl_nil ?_
      refine then_n ?_
      refine wp_seq ?_
      refine wp_seq ?_
      refine wp_region_lit ?_
      refine wl_val (v := .int .i64 (0:Int)) rfl rfl rfl ?_
      refine wl_nil ?_
      refine then_n ?_
      refine wp_block ?_
      replace hst := hst.pull1
      replace hst := at_ref12_Tape_close (pv := .pointer (some ⟨b460, 0, none⟩)) (x := ({ L := a0, I := (0:Int) } : ref12_Tape)) hst ⟨rfl, f0_0⟩
      replace hst := hst.own_nil ty_ref11_Line
      obtain ⟨n777, hm⟩ := loopO_some hm
      refine wp_loop_n (fun n a w => ∃ (z769 : ref12_Tape) (z770 : policy_Book) (z771 : (List ref11_Line)) (z774 : Int) (z775 : Int) (v772 : Value) (σ776 : Nat → Value), loopN (law15_PolicyPlays_l0 a1) n (z769, z770, z771, z774, z775) = some r ∧ a = Fr 81 (upd (upd (upd (upd (upd (upd σ776 1 (.bool a1)) 5 (.pointer (some ⟨b460, 0, none⟩))) 6 (v470)) 7 (v772)) 8 (.int .u64 z774)) 9 (.int .i64 z775)) ∧ St w0 w I [ownS ty_ref11_Line v772 z771, at_ref12_Tape (.pointer (some ⟨b460, 0, none⟩)) z769, at_policy_Book v470 z770] R) n777 ⟨({ L := a0, I := (0:Int) } : ref12_Tape), t465, [], (1:Int), (0:Int), (.slice none 0 0), _, hm, ((fr_upd (t := 1) (v := .bool a1) rfl).trans ((fr_upd (t := 5) (v := .pointer (some ⟨b460, 0, none⟩)) rfl).trans ((fr_upd (t := 6) (v := v470) rfl).trans ((fr_upd (t := 7) (v := (.slice none 0 0)) rfl).trans ((fr_upd (t := 8) (v := .int .u64 (1:Int)) rfl).trans ((fr_upd (t := 9) (v := .int .i64 (0:Int)) rfl).trans rfl)))))), hst⟩ ?_
      rintro n783 _ w778 ⟨z769, z770, z771, z774, z775, v772, σ776, hm, rfl, hst⟩
      obtain ⟨n780, y781, rfl, hm, hx782⟩ := loopN_some hm
      dsimp only [law15_PolicyPlays_l0] at hm
      refine wp_seq ?_
      refine wp_seq ?_
      refine wp_region_lit ?_
      refine wl_val (v := .int .i64 z775) rfl rfl rfl ?_
      refine wl_val (v := .bool (decide (z775 < (20:Int)))) rfl rfl rfl ?_
      refine wl_nil ?_
      refine then_n ?_
      refine bsplit (decide (z775 < (20:Int))) (fun hc784 => ?_) (fun hc784 => ?_)
      · skip
        replace hm := bif_t hc784 hm
        refine wp_ift (congrArg Value.bool hc784) ?_
        refine wp_skip ?_
        refine then_n ?_
        refine wp_seq ?_
        refine wp_block ?_
        obtain ⟨y800, hm, hx801⟩ := bind_some hm
        refine wp_cut (fun a w => ∃ (z796 : ref12_Tape) (z797 : Int) (σ798 : Nat → Value), (law15_PolicyPlays_j1 z771 z770 z775) (z796, z797) = some y781 ∧ a = Fr 81 (upd (upd (upd (upd (upd (upd σ798 1 (.bool a1)) 5 (.pointer (some ⟨b460, 0, none⟩))) 6 (v470)) 7 (v772)) 8 (.int .u64 z797)) 9 (.int .i64 z775)) ∧ St w0 w I [at_ref12_Tape (.pointer (some ⟨b460, 0, none⟩)) z796, at_policy_Book v470 z770, ownS ty_ref11_Line v772 z771] R) ?_ ?_
        · skip
          refine wp_seq ?_
          refine wp_region_lit ?_
          refine wl_val (v := .bool a1) rfl rfl rfl ?_
          refine wl_nil ?_
          refine then_n ?_
          refine bsplit a1 (fun hc785 => ?_) (fun hc785 => ?_)
          · skip
            replace hm := bif_t hc785 hm
            refine wp_ift (congrArg Value.bool hc785) ?_
            refine wp_region_lit ?_
            refine wl_val (v := .int .u64 z774) rfl rfl rfl ?_
            refine wl_val (v := .pointer (some ⟨b460, 0, none⟩)) rfl rfl rfl ?_
            replace hst := hst.pull1
            obtain ⟨t786, ht787, hm⟩ := bind_some hm
            refine wl_call rfl rfl (x_call Try.call15 rfl (vs := [.pointer (some ⟨b460, 0, none⟩), .int .i64 (2:Int)]) rfl) ?_
            refine (ref12_Tape_Next_ref hst.to1 ht787).mono ?_
            rintro _ w788 ⟨rfl, hst⟩
            refine ⟨_, rfl, ?_⟩
            replace hst := hst.of1
            refine wl_val (v := .int .u64 (IntKind.u64.wrap t786.1)) rfl rfl (by kernel_rfl) ?_
            refine wl_val (v := .int .u64 (IntKind.u64.wrap (z774 + (IntKind.u64.wrap t786.1)))) rfl rfl rfl ?_
            refine wl_val (v := .int .u64 (IntKind.u64.wrap (z774 + (IntKind.u64.wrap t786.1)))) rfl rfl rfl ?_
            refine wl_nil ?_
            refine then_n ?_
            replace hst := hst.pull1
            replace hst := hst.pull2
            replace hst := hst.pull2
            replace hst := hst.keep3
            obtain rfl := some_inj hm
            exact ⟨t786.2, (IntKind.u64.wrap (z774 + (IntKind.u64.wrap t786.1))), _, hx801, ((fr_upd (t := 1) (v := .bool a1) rfl).trans ((fr_upd (t := 5) (v := .pointer (some ⟨b460, 0, none⟩)) rfl).trans ((fr_upd (t := 6) (v := v470) rfl).trans ((fr_upd (t := 7) (v := v772) rfl).trans ((fr_upd (t := 8) (v := .int .u64 (IntKind.u64.wrap (z774 + (IntKind.u64.wrap t786.1)))) rfl).trans ((fr_upd (t := 9) (v := .int .i64 z775) rfl).trans rfl)))))), hst⟩
          · skip
            replace hm := bif_f hc785 hm
            refine wp_iff (congrArg Value.bool hc785) ?_
            refine wp_region_lit ?_
            refine wl_val (v := .pointer (some ⟨b460, 0, none⟩)) rfl rfl rfl ?_
            replace hst := hst.pull1
            obtain ⟨t791, ht792, hm⟩ := bind_some hm
            refine wl_call rfl rfl (x_call Try.call15 rfl (vs := [.pointer (some ⟨b460, 0, none⟩), .int .i64 (7:Int)]) rfl) ?_
            refine (ref12_Tape_Next_ref hst.to1 ht792).mono ?_
            rintro _ w793 ⟨rfl, hst⟩
            refine ⟨_, rfl, ?_⟩
            replace hst := hst.of1
            refine wl_val (v := .int .u64 (IntKind.u64.wrap t791.1)) rfl rfl (by kernel_rfl) ?_
            refine wl_val (v := .int .u64 (IntKind.u64.wrap t791.1)) rfl rfl rfl ?_
            refine wl_nil ?_
            refine then_n ?_
            replace hst := hst.pull1
            replace hst := hst.pull2
            replace hst := hst.pull2
            replace hst := hst.keep3
            obtain rfl := some_inj hm
            exact ⟨t791.2, (IntKind.u64.wrap t791.1), _, hx801, ((fr_upd (t := 1) (v := .bool a1) rfl).trans ((fr_upd (t := 5) (v := .pointer (some ⟨b460, 0, none⟩)) rfl).trans ((fr_upd (t := 6) (v := v470) rfl).trans ((fr_upd (t := 7) (v := v772) rfl).trans ((fr_upd (t := 8) (v := .int .u64 (IntKind.u64.wrap t791.1)) rfl).trans ((fr_upd (t := 9) (v := .int .i64 z775) rfl).trans rfl)))))), hst⟩
        · skip
          clear hst
          rintro _ w802 ⟨z796, z797, σ798, hm, rfl, hst⟩
          dsimp only [law15_PolicyPlays_j1] at hm
          refine wp_seq ?_
          refine wp_region_lit ?_
          refine wl_val (v := .pointer (some ⟨b460, 0, none⟩)) rfl rfl rfl ?_
          obtain ⟨t803, ht804, hm⟩ := bind_some hm
          refine wl_call rfl rfl (x_call Try.call16 rfl (vs := [.pointer (some ⟨b460, 0, none⟩)]) rfl) ?_
          refine (ref13_OfRule_ref hst.to1 ht804).mono ?_
          rintro _ w805 ⟨rfl, hst⟩
          refine ⟨_, rfl, ?_⟩
          replace hst := hst.of1
          obtain ⟨b808, w809, ew810, eb811, hst⟩ := hst.box [.int .u64 (0:Int), .int .i64 (0:Int), .int .i64 (0:Int), .float .f64 (0:Nat), .float .f64 (0:Nat), .int .u64 (0:Int), .int .i64 (0:Int)] 30
          refine wl_run (v := .pointer (some ⟨b808, 0, none⟩)) (w' := w809) rfl rfl (x_al (by kernel_rfl) ew810 eb811) ?_
          obtain ⟨w813, hr814, hst⟩ := hst.boxStore (P := Try.prog) (t := 30) (cs' := [.int .u64 t803.1.ID, .int .i64 t803.1.From, .int .i64 t803.1.To, .float .f64 t803.1.Lo, .float .f64 t803.1.Hi, .int .u64 t803.1.Authority, .int .i64 t803.1.Quota]) 0 (.agg #[.int .u64 t803.1.ID, .int .i64 t803.1.From, .int .i64 t803.1.To, .float .f64 t803.1.Lo, .float .f64 t803.1.Hi, .int .u64 t803.1.Authority, .int .i64 t803.1.Quota]) Try.sizeOf30 (Nat.le_of_ble_eq_true rfl) (ones_cons rfl (ones_cons rfl (ones_cons rfl (ones_cons rfl (ones_cons rfl (ones_cons rfl (ones_cons rfl ones_nil))))))) rfl
          refine wl_unit rfl rfl (x_unit hr814) ?_
          refine wl_nil ?_
          refine then_n ?_
          obtain ⟨y870, hm, hx871⟩ := joinO_some hm
          refine wp_cut (fun a w => ∃ (z863 : ref12_Tape) (z864 : policy_Book) (z867 : (List ref11_Line)) (v866 : Value) (σ868 : Nat → Value), (law15_PolicyPlays_j2 z797 z775) (z863, z864, z867) = some y781 ∧ a = Fr 81 (upd (upd (upd (upd (upd (upd σ868 1 (.bool a1)) 5 (.pointer (some ⟨b460, 0, none⟩))) 6 (v470)) 7 (v866)) 8 (.int .u64 z797)) 9 (.int .i64 z775)) ∧ St w0 w I [at_ref12_Tape (.pointer (some ⟨b460, 0, none⟩)) z863, at_policy_Book v470 z864, ownS ty_ref11_Line v866 z867] R) ?_ ?_
          · skip
            refine wp_seq ?_
            refine wp_region_lit ?_
            refine wl_val (v := .pointer (some ⟨b460, 0, none⟩)) rfl rfl rfl ?_
            replace hst := hst.pull1
            obtain ⟨t815, ht816, hm⟩ := bind_some hm
            refine wl_call rfl rfl (x_call Try.call15 rfl (vs := [.pointer (some ⟨b460, 0, none⟩), .int .i64 (3:Int)]) rfl) ?_
            refine (ref12_Tape_Next_ref hst.to1 ht816).mono ?_
            rintro _ w817 ⟨rfl, hst⟩
            refine ⟨_, rfl, ?_⟩
            replace hst := hst.of1
            refine wl_val (v := .bool (t815.1 == (0:Int))) rfl rfl rfl ?_
            refine wl_nil ?_
            refine then_n ?_
            refine bsplit (t815.1 == (0:Int)) (fun hc820 => ?_) (fun hc820 => ?_)
            · skip
              replace hm := bif_t hc820 hm
              refine wp_ift (congrArg Value.bool hc820) ?_
              refine wp_seq ?_
              refine wp_region_lit ?_
              refine wl_val (v := v772) rfl rfl rfl ?_
              refine wl_val (v := .pointer (some ⟨b808, 0, none⟩)) rfl rfl (x_field rfl Try.underlying30 rfl Try.sizeOf27 rfl) ?_
              refine wl_val (v := .int .u64 t803.1.ID) rfl rfl (x_load rfl Try.isAgg27 (hst.bc1 rfl)) ?_
              refine wl_val (v := .int .u64 z797) rfl rfl rfl ?_
              replace hst := hst.pull3
              obtain ⟨css821, hq822, hst⟩ := hst.own_open
              obtain ⟨t823, ht824, hm⟩ := bind_some hm
              refine wl_call rfl rfl (x_call Try.call17 rfl (vs := [v772, .int .u64 t803.1.ID, .int .u64 z797]) rfl) ?_
              refine (ref11_Revoke_ref (hst.rdrow0 hq822) hst.to0 ht824).mono ?_
              rintro _ w825 ⟨v828, rfl, hst⟩
              refine ⟨_, rfl, ?_⟩
              replace hst := hst.of1
              replace hst := hst.pull1
              replace hst := hst.own_close hq822
              refine wl_val (v := .tuple #[v828, .bool t823.2]) rfl rfl rfl ?_
              refine wl_val (v := v828) rfl rfl rfl ?_
              refine wl_val (v := .bool t823.2) rfl rfl rfl ?_
              refine wl_val (v := v828) rfl rfl rfl ?_
              refine wl_val (v := .bool t823.2) rfl rfl rfl ?_
              refine wl_nil ?_
              refine then_n ?_
              refine wp_seq ?_
              refine wp_region_lit ?_
              refine wl_val (v := v828) rfl rfl rfl ?_
              refine wl_val (v := v828) rfl rfl rfl ?_
              refine wl_nil ?_
              refine then_n ?_
              refine wp_seq ?_
              refine wp_region_lit ?_
              refine wl_val (v := v470) rfl rfl rfl ?_
              refine wl_val (v := .pointer (some ⟨b808, 0, none⟩)) rfl rfl (x_field rfl Try.underlying30 rfl Try.sizeOf27 rfl) ?_
              refine wl_val (v := .int .u64 t803.1.ID) rfl rfl (x_load rfl Try.isAgg27 (hst.bc3 rfl)) ?_
              refine wl_val (v := .int .u64 z797) rfl rfl rfl ?_
              replace hst := hst.pull4
              replace hst := objO_some hst
              obtain ⟨t830, ht831, hm⟩ := bind_some hm
              refine wl_call rfl rfl (x_call Try.call13 rfl (vs := [v470, .int .u64 t803.1.ID, .int .u64 z797]) rfl) ?_
              refine (policy_Book_Revoke_ref hst.to1 ht831).mono ?_
              rintro _ w832 ⟨rfl, hst⟩
              refine ⟨_, rfl, ?_⟩
              replace hst := hst.of1
              rcases he836 : t830.2 with _ | y835
              · rw [he836] at hm; cases hm
              rw [he836] at hm hst; dsimp only at hm; replace hst := objO_get hst
              refine wl_val (v := .bool t823.2) rfl rfl rfl ?_
              refine wl_val (v := .bool (!(t830.1 == t823.2))) rfl rfl (by kernel_rfl) ?_
              refine wl_nil ?_
              refine then_n ?_
              refine bsplit (!(t830.1 == t823.2)) (fun hc837 => ?_) (fun hc837 => ?_)
              · skip
                replace hm := bif_t hc837 hm
                refine wp_ift (congrArg Value.bool hc837) ?_
                refine wp_seq ?_
                refine wp_region_lit ?_
                refine wl_val (v := .bool false) rfl rfl rfl ?_
                refine wl_nil ?_
                refine then_n ?_
                refine wp_ret ?_
                refine then_r ?_
                replace hm := inr_up hm hx871
                refine blk_r ?_
                refine then_r ?_
                refine then_r ?_
                replace hm := inr_up hm hx782
                refine blk_r ?_
                refine then_r ?_
                obtain rfl := some_inj hm
                refine post_ret (vs := [.bool false]) Try.results5 (rvs_cons (rv_tmp rfl) rvs_nil) ?_
                exact ⟨rfl, hst.keep0⟩
              · skip
                replace hm := bif_f hc837 hm
                refine wp_iff (congrArg Value.bool hc837) ?_
                refine wp_skip ?_
                refine then_n ?_
                replace hst := hst.pull2
                replace hst := hst.pull1
                replace hst := hst.pull3
                replace hst := hst.keep3
                obtain rfl := some_inj hm
                exact ⟨t815.2, y835, t823.1, v828, _, hx871, ((fr_upd (t := 1) (v := .bool a1) rfl).trans ((fr_upd (t := 5) (v := .pointer (some ⟨b460, 0, none⟩)) rfl).trans ((fr_upd (t := 6) (v := v470) rfl).trans ((fr_upd (t := 7) (v := v828) rfl).trans ((fr_upd (t := 8) (v := .int .u64 z797) rfl).trans ((fr_upd (t := 9) (v := .int .i64 z775) rfl).trans rfl)))))), hst⟩
            · skip
              replace hm := bif_f hc820 hm
              refine wp_iff (congrArg Value.bool hc820) ?_
              refine wp_seq ?_
              refine wp_region_lit ?_
              refine wl_val (v := v772) rfl rfl rfl ?_
              refine wl_val (v := .pointer (some ⟨b808, 0, none⟩)) rfl rfl (x_field rfl Try.underlying30 rfl Try.sizeOf27 rfl) ?_
              refine wl_val (v := .int .u64 t803.1.ID) rfl rfl (x_load rfl Try.isAgg27 (hst.bc1 rfl)) ?_
              refine wl_val (v := .int .u64 z797) rfl rfl rfl ?_
              replace hst := hst.pull3
              obtain ⟨css838, hq839, hst⟩ := hst.own_open
              obtain ⟨t840, ht841, hm⟩ := bind_some hm
              refine wl_call rfl rfl (x_call Try.call17 rfl (vs := [v772, .int .u64 t803.1.ID, .int .u64 z797]) rfl) ?_
              refine (ref11_Revoke_ref (hst.rdrow0 hq839) hst.to0 ht841).mono ?_
              rintro _ w842 ⟨v845, rfl, hst⟩
              refine ⟨_, rfl, ?_⟩
              replace hst := hst.of1
              replace hst := hst.pull1
              replace hst := hst.own_close hq839
              refine wl_val (v := .tuple #[v845, .bool t840.2]) rfl rfl rfl ?_
              refine wl_val (v := v845) rfl rfl rfl ?_
              refine wl_val (v := .bool t840.2) rfl rfl rfl ?_
              refine wl_val (v := v845) rfl rfl rfl ?_
              refine wl_nil ?_
              refine then_n ?_
              refine wp_seq ?_
              refine wp_region_lit ?_
              refine wl_val (v := v845) rfl rfl rfl ?_
              refine wl_val (v := .agg #[.int .u64 t803.1.ID, .int .i64 t803.1.From, .int .i64 t803.1.To, .float .f64 t803.1.Lo, .float .f64 t803.1.Hi, .int .u64 t803.1.Authority, .int .i64 t803.1.Quota]) rfl rfl (x_loadN (cs := [.int .u64 t803.1.ID, .int .i64 t803.1.From, .int .i64 t803.1.To, .float .f64 t803.1.Lo, .float .f64 t803.1.Hi, .int .u64 t803.1.Authority, .int .i64 t803.1.Quota]) rfl Try.isAgg30 Try.sizeOf30 (hst.bcs3 0 rfl)) ?_
              refine wl_val (v := .int .u64 z797) rfl rfl rfl ?_
              refine wl_val (v := .agg #[.int .u64 t803.1.ID, .int .i64 t803.1.From, .int .i64 t803.1.To, .float .f64 t803.1.Lo, .float .f64 t803.1.Hi, .int .u64 t803.1.Authority, .int .i64 t803.1.Quota, .int .u64 z797, .int .u64 (0:Int)]) rfl rfl (by kernel_rfl) ?_
              obtain ⟨b847, w848, ew849, eb850, hst⟩ := hst.lits (E := ty_ref11_Line) (xs := [({ R := t803.1, From := z797, To := (0:Int) } : ref11_Line)]) [[.int .u64 t803.1.ID, .int .i64 t803.1.From, .int .i64 t803.1.To, .float .f64 t803.1.Lo, .float .f64 t803.1.Hi, .int .u64 t803.1.Authority, .int .i64 t803.1.Quota, .int .u64 z797, .int .u64 (0:Int)]] 48 1 rfl (Reps.cons rfl Reps.nil)
              refine wl_run (v := (.slice (some ⟨b847, 0, none⟩) 1 1)) (w' := w848) rfl rfl (x_als (by kernel_rfl) ew849 eb850) ?_
              obtain ⟨hg852, hm⟩ := gd_some hm
              replace hst := hst.pull2
              obtain ⟨v853, w854, hr855, hst⟩ := run_append elem_42 Try.underlying42 hst hst.src1 (room_of hg852 rfl) 42
              refine wl_run (v := v853) (w' := w854) rfl rfl (x_append rfl rfl hr855) ?_
              refine wl_val (v := v853) rfl rfl rfl ?_
              refine wl_nil ?_
              refine then_n ?_
              refine wp_region_lit ?_
              refine wl_val (v := v470) rfl rfl rfl ?_
              refine wl_val (v := .agg #[.int .u64 t803.1.ID, .int .i64 t803.1.From, .int .i64 t803.1.To, .float .f64 t803.1.Lo, .float .f64 t803.1.Hi, .int .u64 t803.1.Authority, .int .i64 t803.1.Quota]) rfl rfl (x_loadN (cs := [.int .u64 t803.1.ID, .int .i64 t803.1.From, .int .i64 t803.1.To, .float .f64 t803.1.Lo, .float .f64 t803.1.Hi, .int .u64 t803.1.Authority, .int .i64 t803.1.Quota]) rfl Try.isAgg30 Try.sizeOf30 (hst.bcs4 0 rfl)) ?_
              refine wl_val (v := .int .u64 z797) rfl rfl rfl ?_
              replace hst := hst.pull5
              replace hst := objO_some hst
              obtain ⟨t856, ht857, hm⟩ := bind_some hm
              refine wl_call rfl rfl (x_call Try.call10 rfl (vs := [v470, .agg #[.int .u64 t803.1.ID, .int .i64 t803.1.From, .int .i64 t803.1.To, .float .f64 t803.1.Lo, .float .f64 t803.1.Hi, .int .u64 t803.1.Authority, .int .i64 t803.1.Quota], .int .u64 z797]) rfl) ?_
              refine (policy_Book_Grant_ref hst.to1 ht857).mono ?_
              rintro _ w858 ⟨rfl, hst⟩
              refine ⟨_, rfl, ?_⟩
              replace hst := hst.of1
              rcases he862 : t856 with _ | y861
              · rw [he862] at hm; cases hm
              rw [he862] at hm hst; dsimp only at hm; replace hst := objO_get hst
              refine wl_nil ?_
              refine then_n ?_
              replace hst := hst.pull1
              replace hst := hst.pull1
              replace hst := hst.pull4
              replace hst := hst.keep3
              obtain rfl := some_inj hm
              exact ⟨t815.2, y861, (t840.1 ++ ([({ R := t803.1, From := z797, To := (0:Int) } : ref11_Line)])), v853, _, hx871, ((fr_upd (t := 1) (v := .bool a1) rfl).trans ((fr_upd (t := 5) (v := .pointer (some ⟨b460, 0, none⟩)) rfl).trans ((fr_upd (t := 6) (v := v470) rfl).trans ((fr_upd (t := 7) (v := v853) rfl).trans ((fr_upd (t := 8) (v := .int .u64 z797) rfl).trans ((fr_upd (t := 9) (v := .int .i64 z775) rfl).trans rfl)))))), hst⟩
          · skip
            clear hst
            rintro _ w872 ⟨z863, z864, z867, v866, σ868, hm, rfl, hst⟩
            dsimp only [law15_PolicyPlays_j2] at hm
            refine wp_seq ?_
            refine wp_region_lit ?_
            refine wl_val (v := v470) rfl rfl rfl ?_
            refine wl_val (v := v866) rfl rfl rfl ?_
            replace hst := hst.pull1
            replace hst := objO_some hst
            replace hst := hst.pull2
            obtain ⟨css873, hq874, hst⟩ := hst.own_open
            replace hst := hst.pull1
            obtain ⟨t875, ht876, hm⟩ := bind_some hm
            refine wl_call rfl rfl (x_call Try.call18 rfl (vs := [v470, v866]) rfl) ?_
            refine (law15_told_ref (hst.sub.rdrow0 hq874) hst.to1 ht876).mono ?_
            rintro _ w877 ⟨rfl, hst⟩
            refine ⟨_, rfl, ?_⟩
            replace hst := hst.of1
            replace hst := hst.pull1
            replace hst := hst.own_close hq874
            replace hst := hst.pull1
            replace hst := objO_get hst
            refine wl_val (v := .bool (!t875)) rfl rfl rfl ?_
            refine wl_nil ?_
            refine then_n ?_
            refine bsplit (!t875) (fun hc880 => ?_) (fun hc880 => ?_)
            · skip
              replace hm := bif_t hc880 hm
              refine wp_ift (congrArg Value.bool hc880) ?_
              refine wp_seq ?_
              refine wp_region_lit ?_
              refine wl_val (v := .bool false) rfl rfl rfl ?_
              refine wl_nil ?_
              refine then_n ?_
              refine wp_ret ?_
              refine blk_r ?_
              refine then_r ?_
              refine then_r ?_
              replace hm := inr_up hm hx782
              refine blk_r ?_
              refine then_r ?_
              obtain rfl := some_inj hm
              refine post_ret (vs := [.bool false]) Try.results5 (rvs_cons (rv_tmp rfl) rvs_nil) ?_
              exact ⟨rfl, hst.keep0⟩
            · skip
              replace hm := bif_f hc880 hm
              refine wp_iff (congrArg Value.bool hc880) ?_
              refine wp_skip ?_
              refine blk_n ?_
              refine then_n ?_
              refine wp_region_lit ?_
              refine wl_val (v := .int .i64 z775) rfl rfl rfl ?_
              refine wl_val (v := .int .i64 (IntKind.i64.wrap (z775 + (1:Int)))) rfl rfl rfl ?_
              refine wl_val (v := .int .i64 (IntKind.i64.wrap (z775 + (1:Int)))) rfl rfl rfl ?_
              refine wl_nil ?_
              refine then_n ?_
              replace hst := hst.pull2
              replace hst := hst.pull2
              replace hst := hst.keep3
              obtain rfl := some_inj hm
              exact ⟨_, Nat.lt_succ_self _, z863, z864, z867, z797, (IntKind.i64.wrap (z775 + (1:Int))), v866, _, hx782, ((fr_upd (t := 1) (v := .bool a1) rfl).trans ((fr_upd (t := 5) (v := .pointer (some ⟨b460, 0, none⟩)) rfl).trans ((fr_upd (t := 6) (v := v470) rfl).trans ((fr_upd (t := 7) (v := v866) rfl).trans ((fr_upd (t := 8) (v := .int .u64 z797) rfl).trans ((fr_upd (t := 9) (v := .int .i64 (IntKind.i64.wrap (z775 + (1:Int)))) rfl).trans rfl)))))), hst⟩
      · skip
        replace hm := bif_f hc784 hm
        refine wp_iff (congrArg Value.bool hc784) ?_
        refine wp_exit ?_
        refine then_x ?_
        refine then_x ?_
        replace hm := inr_up hm hx782
        refine blk_x ?_
        refine then_n ?_
        refine wp_seq ?_
        refine wp_region_lit ?_
        refine wl_val (v := .bool true) rfl rfl rfl ?_
        refine wl_nil ?_
        refine then_n ?_
        refine wp_ret ?_
        obtain rfl := some_inj hm
        refine post_ret (vs := [.bool true]) Try.results5 (rvs_cons (rv_tmp rfl) rvs_nil) ?_
        exact ⟨rfl, hst.keep0⟩

end Go.Proofs.Ytcnldkkdommmdaa
