/- The Go functions refine their models, part 0. -/
import Derived.Test.YtcnldkkdommmdaaPolicyOneT
set_option linter.unusedVariables false
set_option linter.unusedSimpArgs false
set_option maxRecDepth 100000
set_option maxHeartbeats 4000000
namespace Go.Proofs.Ytcnldkkdommmdaa
open Go Go.V
attribute [local irreducible] wpList Code.wp wpQuiet Calls bodyPost Oper.wp wpS Nx PendOK YieldsIn
theorem policy_New_ref {w0 w : World} {I : HL} {R : SP}   (hst : St w0 w I [] R) {r : (policy_Book)} (hm : policy_New = some r) :
    Calls Try.prog 9 #[] w fun e w' => ∃ (q0 : Value), e = .returned (q0) ∧ St w0 w' I [at_policy_Book q0 r] R := by
  unfold policy_New at hm
  refine calls_start (args := []) Try.func9 rfl Try.ntmps9 (Nat.le_of_ble_eq_true rfl) ?_
  refine wp_seq ?_
  refine wp_region_lit ?_
  refine wl_val (v := .pointer none) rfl rfl rfl ?_
  refine wl_nil ?_
  refine then_n ?_
  refine wp_seq ?_
  refine wp_region_lit ?_
  refine wl_val (v := .agg #[(.slice none 0 0)]) rfl rfl (by kernel_rfl) ?_
  obtain ⟨b11, w12, ew13, eb14, hst⟩ := hst.box [(.slice none 0 0)] 64
  refine wl_run (v := .pointer (some ⟨b11, 0, none⟩)) (w' := w12) rfl rfl (x_al (by kernel_rfl) ew13 eb14) ?_
  refine wl_val (v := .pointer (some ⟨b11, 0, none⟩)) rfl rfl rfl ?_
  refine wl_nil ?_
  refine then_n ?_
  refine wp_ret ?_
  replace hst := hst.own_nil ty_policy_line
  replace hst := hst.pull1
  replace hst := at_policy_Book_close (pv := .pointer (some ⟨b11, 0, none⟩)) (x := ({ l := [] } : policy_Book)) hst rfl
  obtain rfl := some_inj hm
  refine post_ret (vs := [.pointer (some ⟨b11, 0, none⟩)]) Try.results9 (rvs_cons (rv_tmp rfl) rvs_nil) ?_
  exact ⟨.pointer (some ⟨b11, 0, none⟩), rfl, hst.keep1⟩

theorem policy_Book_Revoke_ref {w0 w : World} {I : HL} {R : SP} {a0 : (Option policy_Book)} {p0 : Value} {a1 : Int} {a2 : Int}  (hst : St w0 w I [objO at_policy_Book p0 a0] R) {r : (Bool × (Option policy_Book))} (hm : policy_Book_Revoke a0 a1 a2 = some r) :
    Calls Try.prog 13 #[p0, .int .u64 a1, .int .u64 a2] w fun e w' => e = .returned (.bool r.1) ∧ St w0 w' I [objO at_policy_Book p0 r.2] R := by
  rcases a0 with _ | o0
  · skip
    obtain ⟨rfl, hst'⟩ := objO_none hst
    clear hst
    have hst := hst'
    clear hst'
    dsimp only [policy_Book_Revoke] at hm
    refine calls_start (args := [.pointer none, .int .u64 a1, .int .u64 a2]) Try.func13 rfl Try.ntmps13 (Nat.le_of_ble_eq_true rfl) ?_
    refine wp_seq ?_
    refine wp_region_lit ?_
    refine wl_val (v := .bool false) rfl rfl rfl ?_
    refine wl_nil ?_
    refine then_n ?_
    refine wp_seq ?_
    refine wp_seq ?_
    refine wp_region_lit ?_
    refine wl_val (v := .pointer none) rfl rfl rfl ?_
    refine wl_val (v := .bool true) rfl rfl (by kernel_rfl) ?_
    refine wl_nil ?_
    refine then_n ?_
    refine wp_ift rfl ?_
    refine wp_seq ?_
    refine wp_region_lit ?_
    refine wl_val (v := .bool false) rfl rfl rfl ?_
    refine wl_nil ?_
    refine then_n ?_
    refine wp_ret ?_
    refine then_r ?_
    replace hst := hst.objO_nil at_policy_Book
    obtain rfl := some_inj hm
    refine post_ret (vs := [.bool false]) Try.results13 (rvs_cons (rv_tmp rfl) rvs_nil) ?_
    exact ⟨rfl, hst.keep1⟩
  · skip
    replace hst := objO_get hst
    dsimp only [policy_Book_Revoke] at hm
    refine calls_start (args := [p0, .int .u64 a1, .int .u64 a2]) Try.func13 rfl Try.ntmps13 (Nat.le_of_ble_eq_true rfl) ?_
    refine wp_seq ?_
    refine wp_region_lit ?_
    refine wl_val (v := .bool false) rfl rfl rfl ?_
    refine wl_nil ?_
    refine then_n ?_
    refine wp_seq ?_
    refine wp_seq ?_
    refine wp_region_lit ?_
    refine wl_val (v := p0) rfl rfl rfl ?_
    obtain ⟨b91, v92, rfl, hst'⟩ := at_policy_Book_open hst
    clear hst
    have hst := hst'
    clear hst'
    refine wl_val (v := .bool false) rfl rfl (by kernel_rfl) ?_
    refine wl_nil ?_
    refine then_n ?_
    refine wp_iff rfl ?_
    refine wp_skip ?_
    refine then_n ?_
    refine wp_seq ?_
    refine wp_region_lit ?_
    refine wl_val (v := .bool false) rfl rfl rfl ?_
    refine wl_nil ?_
    refine then_n ?_
    refine wp_seq ?_
    refine wp_seq ?_
    refine wp_region_lit ?_
    refine wl_val (v := .pointer (some ⟨b91, 0, none⟩)) rfl rfl rfl ?_
    refine wl_val (v := .pointer (some ⟨b91, 0, none⟩)) rfl rfl rfl ?_
    refine wl_val (v := .pointer (some ⟨b91, 0, none⟩)) rfl rfl (x_field rfl Try.underlying64 rfl Try.sizeOf62 rfl) ?_
    refine wl_val (v := v92) rfl rfl (x_load rfl Try.isAgg62 (hst.bc0 rfl)) ?_
    refine wl_val (v := .int .i64 ((o0.l).length : Int)) rfl rfl (x_len rfl Try.underlying62 hst.sv1) ?_
    refine wl_val (v := .int .i64 (0:Int)) rfl rfl rfl ?_
    refine wl_nil ?_
    refine then_n ?_
    refine wp_block ?_
    replace hst := hst.pull1
    replace hst := hst.pull1
    replace hst := at_policy_Book_close (pv := .pointer (some ⟨b91, 0, none⟩)) (x := o0) hst rfl
    obtain ⟨n133, hm⟩ := loopO_some hm
    refine wp_loop_n (fun n a w => ∃ (z129 : policy_Book) (z130 : Int) (z131 : Bool) (σ132 : Nat → Value), loopN (policy_Book_Revoke_l0 o0 a1 a2) n (z129, z130, z131) = some r ∧ a = Fr 52 (upd (upd (upd (upd (upd (upd σ132 0 (.pointer (some ⟨b91, 0, none⟩))) 1 (.int .u64 a1)) 2 (.int .u64 a2)) 7 (.bool z131)) 15 (.int .i64 ((o0.l).length : Int))) 16 (.int .i64 z130)) ∧ St w0 w I [at_policy_Book (.pointer (some ⟨b91, 0, none⟩)) z129] R) n133 ⟨o0, (0:Int), false, _, hm, ((fr_upd (t := 0) (v := .pointer (some ⟨b91, 0, none⟩)) rfl).trans ((fr_upd (t := 1) (v := .int .u64 a1) rfl).trans ((fr_upd (t := 2) (v := .int .u64 a2) rfl).trans ((fr_upd (t := 7) (v := .bool false) rfl).trans ((fr_upd (t := 15) (v := .int .i64 ((o0.l).length : Int)) rfl).trans ((fr_upd (t := 16) (v := .int .i64 (0:Int)) rfl).trans rfl)))))), hst⟩ ?_
    rintro n139 _ w134 ⟨z129, z130, z131, σ132, hm, rfl, hst⟩
    obtain ⟨n136, y137, rfl, hm, hx138⟩ := loopN_some hm
    dsimp only [policy_Book_Revoke_l0] at hm
    refine wp_seq ?_
    refine wp_region_lit ?_
    refine wl_val (v := .bool (decide (z130 < ((o0.l).length : Int)))) rfl rfl rfl ?_
    refine wl_nil ?_
    refine then_n ?_
    refine wp_seq ?_
    refine bsplit (decide (z130 < ((o0.l).length : Int))) (fun hc140 => ?_) (fun hc140 => ?_)
    · skip
      replace hm := bif_t hc140 hm
      refine wp_ift (congrArg Value.bool hc140) ?_
      refine wp_skip ?_
      refine then_n ?_
      refine wp_seq ?_
      refine wp_block ?_
      refine wp_seq ?_
      refine wp_region_lit ?_
      refine wl_val (v := .int .i64 z130) rfl rfl rfl ?_
      refine wl_val (v := .int .i64 z130) rfl rfl rfl ?_
      refine wl_nil ?_
      refine then_n ?_
      refine wp_seq ?_
      refine wp_region_lit ?_
      refine wl_val (v := .pointer (some ⟨b91, 0, none⟩)) rfl rfl rfl ?_
      obtain ⟨b141, v142, e144, hst'⟩ := at_policy_Book_open hst
      clear hst
      have e144 := ptr_inj e144
      subst e144
      have hst := hst'
      clear hst'
      refine wl_val (v := .pointer (some ⟨b91, 0, none⟩)) rfl rfl rfl ?_
      refine wl_val (v := .pointer (some ⟨b91, 0, none⟩)) rfl rfl (x_field rfl Try.underlying64 rfl Try.sizeOf62 rfl) ?_
      refine wl_val (v := v142) rfl rfl (x_load rfl Try.isAgg62 (hst.bc0 rfl)) ?_
      refine wl_val (v := .int .i64 z130) rfl rfl rfl ?_
      obtain ⟨x145, hx146, hm⟩ := bind_some hm
      obtain ⟨h147, h148, hi149⟩ := geto_some hx146
      refine wl_val (v := .pointer (some (eAddr v142 (z130.toNat * 9 + 0)))) rfl rfl (x_index rfl rfl Try.underlying62 Try.sizeOf66 hst.sv1 h147 h148) ?_
      refine wl_val (v := .pointer (some (eAddr v142 (z130.toNat * 9 + 0)))) rfl rfl (x_field_e rfl Try.underlying66 rfl Try.sizeOf30 rfl) ?_
      refine wl_val (v := .pointer (some (eAddr v142 (z130.toNat * 9 + 0)))) rfl rfl (x_field_e rfl Try.underlying30 rfl Try.sizeOf27 rfl) ?_
      refine wl_val (v := .int .u64 x145.r.ID) rfl rfl (x_load rfl Try.isAgg27 (hst.ol1 hi149 (by rintro _ rfl; rfl))) ?_
      refine wl_val (v := .int .u64 a1) rfl rfl rfl ?_
      refine wl_val (v := .bool (x145.r.ID == a1)) rfl rfl rfl ?_
      refine wl_val (v := .bool (x145.r.ID == a1)) rfl rfl rfl ?_
      refine bsplit (x145.r.ID == a1) (fun hc150 => ?_) (fun hc150 => ?_)
      · skip
        replace hm := bif_t hc150 hm
        refine wl_val (v := .pointer (some ⟨b91, 0, none⟩)) ((wanted_eq rfl rfl rfl (congrArg Value.bool hc150)).trans rfl) rfl rfl ?_
        refine wl_val (v := .pointer (some ⟨b91, 0, none⟩)) ((wanted_eq rfl rfl rfl (congrArg Value.bool hc150)).trans rfl) rfl rfl ?_
        refine wl_val (v := .pointer (some ⟨b91, 0, none⟩)) ((wanted_eq rfl rfl rfl (congrArg Value.bool hc150)).trans rfl) rfl (x_field rfl Try.underlying64 rfl Try.sizeOf62 rfl) ?_
        refine wl_val (v := v142) ((wanted_eq rfl rfl rfl (congrArg Value.bool hc150)).trans rfl) rfl (x_load rfl Try.isAgg62 (hst.bc0 rfl)) ?_
        refine wl_val (v := .int .i64 z130) ((wanted_eq rfl rfl rfl (congrArg Value.bool hc150)).trans rfl) rfl rfl ?_
        refine wl_val (v := .pointer (some (eAddr v142 (z130.toNat * 9 + 0)))) ((wanted_eq rfl rfl rfl (congrArg Value.bool hc150)).trans rfl) rfl (x_index rfl rfl Try.underlying62 Try.sizeOf66 hst.sv1 h147 h148) ?_
        refine wl_val (v := .pointer (some (eAddr v142 (z130.toNat * 9 + 8)))) ((wanted_eq rfl rfl rfl (congrArg Value.bool hc150)).trans rfl) rfl (x_field_e rfl Try.underlying66 rfl Try.sizeOf27 rfl) ?_
        refine wl_val (v := .int .u64 x145.to_) ((wanted_eq rfl rfl rfl (congrArg Value.bool hc150)).trans rfl) rfl (x_load rfl Try.isAgg27 (hst.ol1 hi149 (by rintro _ rfl; rfl))) ?_
        refine wl_val (v := .bool (x145.to_ == (0:Int))) ((wanted_eq rfl rfl rfl (congrArg Value.bool hc150)).trans rfl) rfl rfl ?_
        refine wl_val (v := .bool (x145.to_ == (0:Int))) rfl rfl (x_pick_t hc150 rfl rfl) ?_
        refine wl_nil ?_
        refine then_n ?_
        refine bsplit (x145.to_ == (0:Int)) (fun hc151 => ?_) (fun hc151 => ?_)
        · skip
          replace hm := bif_t hc151 hm
          refine wp_ift (congrArg Value.bool hc151) ?_
          refine wp_region_lit ?_
          refine wl_val (v := .pointer (some ⟨b91, 0, none⟩)) rfl rfl rfl ?_
          refine wl_val (v := .pointer (some ⟨b91, 0, none⟩)) rfl rfl rfl ?_
          refine wl_val (v := .pointer (some ⟨b91, 0, none⟩)) rfl rfl (x_field rfl Try.underlying64 rfl Try.sizeOf62 rfl) ?_
          refine wl_val (v := v142) rfl rfl (x_load rfl Try.isAgg62 (hst.bc0 rfl)) ?_
          refine wl_val (v := .int .i64 z130) rfl rfl rfl ?_
          refine wl_val (v := .int .u64 a2) rfl rfl rfl ?_
          refine wl_val (v := .int .u64 (if (1:Int) > a2 then (1:Int) else a2)) rfl rfl (by kernel_rfl) ?_
          refine wl_val (v := .pointer (some (eAddr v142 (z130.toNat * 9 + 0)))) rfl rfl (x_index rfl rfl Try.underlying62 Try.sizeOf66 hst.sv1 h147 h148) ?_
          refine wl_val (v := .pointer (some (eAddr v142 (z130.toNat * 9 + 8)))) rfl rfl (x_field_e rfl Try.underlying66 rfl Try.sizeOf27 rfl) ?_
          replace hst := hst.pull1
          obtain ⟨w152, hr153, hst⟩ := hst.own_store (P := Try.prog) (t := 27) (y := ({ r := x145.r, from_ := x145.from_, to_ := (if (1:Int) > a2 then (1:Int) else a2) } : policy_line)) hi149 8 (.int .u64 (if (1:Int) > a2 then (1:Int) else a2)) Try.sizeOf27 (Nat.le_of_ble_eq_true rfl) (ones_cons rfl ones_nil) (by rintro _ rfl; rfl)
          have hi154 := set_get hi149 ({ r := x145.r, from_ := x145.from_, to_ := (if (1:Int) > a2 then (1:Int) else a2) } : policy_line)
          have h155 := set_lt h148 z130.toNat ({ r := x145.r, from_ := x145.from_, to_ := (if (1:Int) > a2 then (1:Int) else a2) } : policy_line)
          refine wl_unit rfl rfl (x_unit hr153) ?_
          refine wl_val (v := .bool true) rfl rfl rfl ?_
          refine wl_nil ?_
          refine blk_n ?_
          refine then_n ?_
          refine wp_region_lit ?_
          refine wl_val (v := .int .i64 (IntKind.i64.wrap (z130 + (1:Int)))) rfl rfl rfl ?_
          refine wl_val (v := .int .i64 (IntKind.i64.wrap (z130 + (1:Int)))) rfl rfl rfl ?_
          refine wl_nil ?_
          refine then_n ?_
          replace hst := hst.pull1
          replace hst := at_policy_Book_close (pv := .pointer (some ⟨b91, 0, none⟩)) (x := ({ l := (z129.l.set z130.toNat ({ r := x145.r, from_ := x145.from_, to_ := (if (1:Int) > a2 then (1:Int) else a2) } : policy_line)) } : policy_Book)) hst rfl
          replace hst := hst.keep1
          obtain rfl := some_inj hm
          exact ⟨_, Nat.lt_succ_self _, ({ l := (z129.l.set z130.toNat ({ r := x145.r, from_ := x145.from_, to_ := (if (1:Int) > a2 then (1:Int) else a2) } : policy_line)) } : policy_Book), (IntKind.i64.wrap (z130 + (1:Int))), true, _, hx138, ((fr_upd (t := 0) (v := .pointer (some ⟨b91, 0, none⟩)) rfl).trans ((fr_upd (t := 1) (v := .int .u64 a1) rfl).trans ((fr_upd (t := 2) (v := .int .u64 a2) rfl).trans ((fr_upd (t := 7) (v := .bool true) rfl).trans ((fr_upd (t := 15) (v := .int .i64 ((o0.l).length : Int)) rfl).trans ((fr_upd (t := 16) (v := .int .i64 (IntKind.i64.wrap (z130 + (1:Int)))) rfl).trans rfl)))))), hst⟩
        · skip
          replace hm := bif_f hc151 hm
          refine wp_iff (congrArg Value.bool hc151) ?_
          refine wp_skip ?_
          refine blk_n ?_
          refine then_n ?_
          refine wp_region_lit ?_
          refine wl_val (v := .int .i64 (IntKind.i64.wrap (z130 + (1:Int)))) rfl rfl rfl ?_
          refine wl_val (v := .int .i64 (IntKind.i64.wrap (z130 + (1:Int)))) rfl rfl rfl ?_
          refine wl_nil ?_
          refine then_n ?_
          replace hst := hst.pull1
          replace hst := hst.pull1
          replace hst := at_policy_Book_close (pv := .pointer (some ⟨b91, 0, none⟩)) (x := z129) hst rfl
          replace hst := hst.keep1
          obtain rfl := some_inj hm
          exact ⟨_, Nat.lt_succ_self _, z129, (IntKind.i64.wrap (z130 + (1:Int))), z131, _, hx138, ((fr_upd (t := 0) (v := .pointer (some ⟨b91, 0, none⟩)) rfl).trans ((fr_upd (t := 1) (v := .int .u64 a1) rfl).trans ((fr_upd (t := 2) (v := .int .u64 a2) rfl).trans ((fr_upd (t := 7) (v := .bool z131) rfl).trans ((fr_upd (t := 15) (v := .int .i64 ((o0.l).length : Int)) rfl).trans ((fr_upd (t := 16) (v := .int .i64 (IntKind.i64.wrap (z130 + (1:Int)))) rfl).trans rfl)))))), hst⟩
      · skip
        replace hm := bif_f hc150 hm
        refine wl_off ((wanted_eq rfl rfl rfl (congrArg Value.bool hc150)).trans rfl) rfl ?_
        refine wl_off ((wanted_eq rfl rfl rfl (congrArg Value.bool hc150)).trans rfl) rfl ?_
        refine wl_off ((wanted_eq rfl rfl rfl (congrArg Value.bool hc150)).trans rfl) rfl ?_
        refine wl_off ((wanted_eq rfl rfl rfl (congrArg Value.bool hc150)).trans rfl) rfl ?_
        refine wl_off ((wanted_eq rfl rfl rfl (congrArg Value.bool hc150)).trans rfl) rfl ?_
        refine wl_off ((wanted_eq rfl rfl rfl (congrArg Value.bool hc150)).trans rfl) rfl ?_
        refine wl_off ((wanted_eq rfl rfl rfl (congrArg Value.bool hc150)).trans rfl) rfl ?_
        refine wl_off ((wanted_eq rfl rfl rfl (congrArg Value.bool hc150)).trans rfl) rfl ?_
        refine wl_off ((wanted_eq rfl rfl rfl (congrArg Value.bool hc150)).trans rfl) rfl ?_
        refine wl_val (v := .bool false) rfl rfl (x_pick_f hc150 rfl rfl) ?_
        refine wl_nil ?_
        refine then_n ?_
        refine wp_iff rfl ?_
        refine wp_skip ?_
        refine blk_n ?_
        refine then_n ?_
        refine wp_region_lit ?_
        refine wl_val (v := .int .i64 (IntKind.i64.wrap (z130 + (1:Int)))) rfl rfl rfl ?_
        refine wl_val (v := .int .i64 (IntKind.i64.wrap (z130 + (1:Int)))) rfl rfl rfl ?_
        refine wl_nil ?_
        refine then_n ?_
        replace hst := hst.pull1
        replace hst := hst.pull1
        replace hst := at_policy_Book_close (pv := .pointer (some ⟨b91, 0, none⟩)) (x := z129) hst rfl
        replace hst := hst.keep1
        obtain rfl := some_inj hm
        exact ⟨_, Nat.lt_succ_self _, z129, (IntKind.i64.wrap (z130 + (1:Int))), z131, _, hx138, ((fr_upd (t := 0) (v := .pointer (some ⟨b91, 0, none⟩)) rfl).trans ((fr_upd (t := 1) (v := .int .u64 a1) rfl).trans ((fr_upd (t := 2) (v := .int .u64 a2) rfl).trans ((fr_upd (t := 7) (v := .bool z131) rfl).trans ((fr_upd (t := 15) (v := .int .i64 ((o0.l).length : Int)) rfl).trans ((fr_upd (t := 16) (v := .int .i64 (IntKind.i64.wrap (z130 + (1:Int)))) rfl).trans rfl)))))), hst⟩
    · skip
      replace hm := bif_f hc140 hm
      refine wp_iff (congrArg Value.bool hc140) ?_
      refine wp_exit ?_
      refine then_x ?_
      refine then_x ?_
      replace hm := inr_up hm hx138
      refine blk_x ?_
      refine then_n ?_
      refine wp_seq ?_
      refine wp_region_lit ?_
      refine wl_val (v := .bool z131) rfl rfl rfl ?_
      refine wl_val (v := .bool z131) rfl rfl rfl ?_
      refine wl_nil ?_
      refine then_n ?_
      refine wp_ret ?_
      replace hst := objO_some hst
      obtain rfl := some_inj hm
      refine post_ret (vs := [.bool z131]) Try.results13 (rvs_cons (rv_tmp rfl) rvs_nil) ?_
      exact ⟨rfl, hst.keep1⟩

theorem policy_Book_Grant_ref {w0 w : World} {I : HL} {R : SP} {a0 : (Option policy_Book)} {p0 : Value} {a1 : api_Rule} {a2 : Int}  (hst : St w0 w I [objO at_policy_Book p0 a0] R) {r : ((Option policy_Book))} (hm : policy_Book_Grant a0 a1 a2 = some r) :
    Calls Try.prog 10 #[p0, .agg #[.int .u64 a1.ID, .int .i64 a1.From, .int .i64 a1.To, .float .f64 a1.Lo, .float .f64 a1.Hi, .int .u64 a1.Authority, .int .i64 a1.Quota], .int .u64 a2] w fun e w' => e = .returned (.tuple #[]) ∧ St w0 w' I [objO at_policy_Book p0 r] R := by
  rcases a0 with _ | o0
  · skip
    obtain ⟨rfl, hst'⟩ := objO_none hst
    clear hst
    have hst := hst'
    clear hst'
    dsimp only [policy_Book_Grant] at hm
    refine calls_start (args := [.pointer none, .agg #[.int .u64 a1.ID, .int .i64 a1.From, .int .i64 a1.To, .float .f64 a1.Lo, .float .f64 a1.Hi, .int .u64 a1.Authority, .int .i64 a1.Quota], .int .u64 a2]) Try.func10 rfl Try.ntmps10 (Nat.le_of_ble_eq_true rfl) ?_
    refine wp_seq ?_
    refine wp_region_lit ?_
    obtain ⟨b47, w48, ew49, eb50, hst⟩ := hst.box [.int .u64 a1.ID, .int .i64 a1.From, .int .i64 a1.To, .float .f64 a1.Lo, .float .f64 a1.Hi, .int .u64 a1.Authority, .int .i64 a1.Quota] 30
    refine wl_run (v := .pointer (some ⟨b47, 0, none⟩)) (w' := w48) rfl rfl (x_al (by kernel_rfl) ew49 eb50) ?_
    refine wl_nil ?_
    refine then_n ?_
    refine wp_seq ?_
    refine wp_seq ?_
    refine wp_region_lit ?_
    refine wl_val (v := .pointer none) rfl rfl rfl ?_
    refine wl_val (v := .bool true) rfl rfl (by kernel_rfl) ?_
    refine wl_nil ?_
    refine then_n ?_
    refine wp_ift rfl ?_
    refine wp_ret ?_
    refine then_r ?_
    replace hst := hst.objO_nil at_policy_Book
    obtain rfl := some_inj hm
    refine post_ret (vs := []) Try.results10 rvs_nil ?_
    exact ⟨rfl, hst.keep1⟩
  · skip
    replace hst := objO_get hst
    dsimp only [policy_Book_Grant] at hm
    refine calls_start (args := [p0, .agg #[.int .u64 a1.ID, .int .i64 a1.From, .int .i64 a1.To, .float .f64 a1.Lo, .float .f64 a1.Hi, .int .u64 a1.Authority, .int .i64 a1.Quota], .int .u64 a2]) Try.func10 rfl Try.ntmps10 (Nat.le_of_ble_eq_true rfl) ?_
    refine wp_seq ?_
    refine wp_region_lit ?_
    obtain ⟨b52, w53, ew54, eb55, hst⟩ := hst.box [.int .u64 a1.ID, .int .i64 a1.From, .int .i64 a1.To, .float .f64 a1.Lo, .float .f64 a1.Hi, .int .u64 a1.Authority, .int .i64 a1.Quota] 30
    refine wl_run (v := .pointer (some ⟨b52, 0, none⟩)) (w' := w53) rfl rfl (x_al (by kernel_rfl) ew54 eb55) ?_
    refine wl_nil ?_
    refine then_n ?_
    refine wp_seq ?_
    refine wp_seq ?_
    refine wp_region_lit ?_
    refine wl_val (v := p0) rfl rfl rfl ?_
    replace hst := hst.pull1
    obtain ⟨b57, v58, rfl, hst'⟩ := at_policy_Book_open hst
    clear hst
    have hst := hst'
    clear hst'
    refine wl_val (v := .bool false) rfl rfl (by kernel_rfl) ?_
    refine wl_nil ?_
    refine then_n ?_
    refine wp_iff rfl ?_
    refine wp_skip ?_
    refine then_n ?_
    refine wp_seq ?_
    refine wp_region_lit ?_
    refine wl_val (v := .pointer (some ⟨b57, 0, none⟩)) rfl rfl rfl ?_
    refine wl_val (v := .pointer (some ⟨b52, 0, none⟩)) rfl rfl (x_field rfl Try.underlying30 rfl Try.sizeOf27 rfl) ?_
    refine wl_val (v := .int .u64 a1.ID) rfl rfl (x_load rfl Try.isAgg27 (hst.bc2 rfl)) ?_
    refine wl_val (v := .int .u64 a2) rfl rfl rfl ?_
    replace hst := hst.pull1
    replace hst := hst.pull1
    replace hst := at_policy_Book_close (pv := .pointer (some ⟨b57, 0, none⟩)) (x := o0) hst rfl
    replace hst := objO_some hst
    obtain ⟨t60, ht61, hm⟩ := bind_some hm
    refine wl_call rfl rfl (x_call Try.call13 rfl (vs := [.pointer (some ⟨b57, 0, none⟩), .int .u64 a1.ID, .int .u64 a2]) rfl) ?_
    refine (policy_Book_Revoke_ref hst.to1 ht61).mono ?_
    rintro _ w62 ⟨rfl, hst⟩
    refine ⟨_, rfl, ?_⟩
    replace hst := hst.of1
    rcases he66 : t60.2 with _ | y65
    · rw [he66] at hm; cases hm
    rw [he66] at hm hst; dsimp only at hm; replace hst := objO_get hst
    refine wl_nil ?_
    refine then_n ?_
    obtain ⟨b67, v68, e70, hst'⟩ := at_policy_Book_open hst
    clear hst
    have e70 := ptr_inj e70
    subst e70
    have hst := hst'
    clear hst'
    refine wp_region_St hst [(0, false), (1, false), (2, false), (3, false), (4, false), (5, false), (6, false), (7, false), (8, true), (9, true), (10, false), (11, false), (12, true)] Try.mixed (by kernel_rfl) (by decide) ?_
    refine ws_q (v := .pointer (some ⟨b57, 0, none⟩)) rfl rfl (yi_run rfl (fun w hst => rfl)) ?_
    refine ws_q (v := .pointer (some ⟨b57, 0, none⟩)) rfl rfl (yi_run rfl (fun w hst => rfl)) ?_
    refine ws_q (v := .pointer (some ⟨b57, 0, none⟩)) rfl rfl (yi_run rfl (fun w hst => rfl)) ?_
    refine ws_q (v := .pointer (some ⟨b57, 0, none⟩)) rfl rfl (yi_run rfl (fun w hst => x_field rfl Try.underlying64 rfl Try.sizeOf62 rfl)) ?_
    refine ws_q (v := v68) rfl rfl (yi_run rfl (fun w hst => x_load rfl Try.isAgg62 (hst.bc0 rfl))) ?_
    refine ws_q (v := .agg #[.int .u64 a1.ID, .int .i64 a1.From, .int .i64 a1.To, .float .f64 a1.Lo, .float .f64 a1.Hi, .int .u64 a1.Authority, .int .i64 a1.Quota]) rfl rfl (yi_run rfl (fun w hst => x_loadN (cs := [.int .u64 a1.ID, .int .i64 a1.From, .int .i64 a1.To, .float .f64 a1.Lo, .float .f64 a1.Hi, .int .u64 a1.Authority, .int .i64 a1.Quota]) rfl Try.isAgg30 Try.sizeOf30 (hst.bcs2 0 rfl))) ?_
    refine ws_q (v := .int .u64 a2) rfl rfl (yi_run rfl (fun w hst => rfl)) ?_
    refine ws_q (v := .agg #[.int .u64 a1.ID, .int .i64 a1.From, .int .i64 a1.To, .float .f64 a1.Lo, .float .f64 a1.Hi, .int .u64 a1.Authority, .int .i64 a1.Quota, .int .u64 a2, .int .u64 (0:Int)]) rfl rfl (yi_run rfl (fun w hst => by kernel_rfl)) ?_
    refine ws_e rfl rfl ?_
    clear hst
    intro w hst
    obtain ⟨b71, w72, ew73, eb74, hst⟩ := hst.lits (E := ty_policy_line) (xs := [({ r := a1, from_ := a2, to_ := (0:Int) } : policy_line)]) [[.int .u64 a1.ID, .int .i64 a1.From, .int .i64 a1.To, .float .f64 a1.Lo, .float .f64 a1.Hi, .int .u64 a1.Authority, .int .i64 a1.Quota, .int .u64 a2, .int .u64 (0:Int)]] 66 1 rfl (Reps.cons rfl Reps.nil)
    refine we_run (v := (.slice (some ⟨b71, 0, none⟩) 1 1)) (w' := w72) rfl (x_als (by kernel_rfl) ew73 eb74) ?_
    refine ws_next (pend' := [(4, v68), (3, .pointer (some ⟨b57, 0, none⟩)), (2, .pointer (some ⟨b57, 0, none⟩)), (1, .pointer (some ⟨b57, 0, none⟩)), (0, .pointer (some ⟨b57, 0, none⟩))]) hst (by kernel_rfl) (pk_cons rfl (yi_run rfl (fun w hst => x_load rfl Try.isAgg62 (hst.bc1 rfl))) (pk_cons rfl (yi_run rfl (fun w hst => x_field rfl Try.underlying64 rfl Try.sizeOf62 rfl)) (pk_cons rfl (yi_run rfl (fun w hst => rfl)) (pk_cons rfl (yi_run rfl (fun w hst => rfl)) (pk_cons rfl (yi_run rfl (fun w hst => rfl)) pk_nil))))) ?_
    refine ws_e rfl rfl ?_
    clear hst
    intro w hst
    obtain ⟨hg76, hm⟩ := gd_some hm
    replace hst := hst.pull2
    obtain ⟨v77, w78, hr79, hst⟩ := run_append elem_62 Try.underlying62 hst hst.src1 (room_of hg76 rfl) 62
    refine we_run (v := v77) (w' := w78) rfl (x_append rfl rfl hr79) ?_
    refine ws_next (pend' := [(0, .pointer (some ⟨b57, 0, none⟩))]) hst (by kernel_rfl) (pk_cons rfl (yi_run rfl (fun w hst => rfl)) pk_nil) ?_
    refine ws_q (v := .pointer (some ⟨b57, 0, none⟩)) rfl rfl (yi_run rfl (fun w hst => rfl)) ?_
    refine ws_q (v := .pointer (some ⟨b57, 0, none⟩)) rfl rfl (yi_run rfl (fun w hst => x_field rfl Try.underlying64 rfl Try.sizeOf62 rfl)) ?_
    refine ws_e rfl rfl ?_
    clear hst
    intro w hst
    replace hst := hst.pull2
    obtain ⟨w80, hr81, hst⟩ := hst.boxStore1 (P := Try.prog) (t := 62) (cs' := [v77]) 0 v77 (one_of_sliceV hst.sv1) Try.sizeOf62 rfl rfl
    refine we_unit rfl (x_unit hr81) ?_
    refine ws_next (pend' := []) hst (by kernel_rfl) pk_nil ?_
    refine ws_nil ?_
    intro w hst
    replace hst := hst.pull1
    replace hst := hst.pull1
    replace hst := at_policy_Book_close (pv := .pointer (some ⟨b57, 0, none⟩)) (x := ({ l := (y65.l ++ ([({ r := a1, from_ := a2, to_ := (0:Int) } : policy_line)])) } : policy_Book)) hst rfl
    replace hst := objO_some hst
    obtain rfl := some_inj hm
    refine post_end (vs := []) Try.results10 rvs_nil ?_
    exact ⟨rfl, hst.keep1⟩

theorem policy_Book_At_ref {w0 w : World} {I : HL} {R : SP} {a0 : (Option policy_Book)} {p0 : Value} {a1 : Int} {a2 : Int}  (hst : St w0 w I [objO at_policy_Book p0 a0] R) {r : (api_Rule × Bool)} (hm : policy_Book_At a0 a1 a2 = some r) :
    Calls Try.prog 11 #[p0, .int .u64 a1, .int .u64 a2] w fun e w' => e = .returned (.tuple #[.agg #[.int .u64 r.1.ID, .int .i64 r.1.From, .int .i64 r.1.To, .float .f64 r.1.Lo, .float .f64 r.1.Hi, .int .u64 r.1.Authority, .int .i64 r.1.Quota], .bool r.2]) ∧ St w0 w' I [objO at_policy_Book p0 a0] R := by
  rcases a0 with _ | o0
  · skip
    obtain ⟨rfl, hst'⟩ := objO_none hst
    clear hst
    have hst := hst'
    clear hst'
    dsimp only [policy_Book_At] at hm
    refine calls_start (args := [.pointer none, .int .u64 a1, .int .u64 a2]) Try.func11 rfl Try.ntmps11 (Nat.le_of_ble_eq_true rfl) ?_
    refine wp_seq ?_
    refine wp_region_lit ?_
    obtain ⟨b128, w129, ew130, eb131, hst⟩ := hst.box [.int .u64 (0:Int), .int .i64 (0:Int), .int .i64 (0:Int), .float .f64 (0:Nat), .float .f64 (0:Nat), .int .u64 (0:Int), .int .i64 (0:Int)] 30
    refine wl_run (v := .pointer (some ⟨b128, 0, none⟩)) (w' := w129) rfl rfl (x_al (by kernel_rfl) ew130 eb131) ?_
    refine wl_val (v := .bool false) rfl rfl rfl ?_
    refine wl_nil ?_
    refine then_n ?_
    refine wp_seq ?_
    refine wp_seq ?_
    refine wp_region_lit ?_
    refine wl_val (v := .pointer none) rfl rfl rfl ?_
    refine wl_val (v := .bool true) rfl rfl (by kernel_rfl) ?_
    refine wl_nil ?_
    refine then_n ?_
    refine wp_ift rfl ?_
    refine wp_seq ?_
    refine wp_region_lit ?_
    refine wl_val (v := .agg #[.int .u64 (0:Int), .int .i64 (0:Int), .int .i64 (0:Int), .float .f64 (0:Nat), .float .f64 (0:Nat), .int .u64 (0:Int), .int .i64 (0:Int)]) rfl rfl (by kernel_rfl) ?_
    obtain ⟨w133, hr134, hst⟩ := hst.boxStore (P := Try.prog) (t := 30) (cs' := [.int .u64 (0:Int), .int .i64 (0:Int), .int .i64 (0:Int), .float .f64 (0:Nat), .float .f64 (0:Nat), .int .u64 (0:Int), .int .i64 (0:Int)]) 0 (.agg #[.int .u64 (0:Int), .int .i64 (0:Int), .int .i64 (0:Int), .float .f64 (0:Nat), .float .f64 (0:Nat), .int .u64 (0:Int), .int .i64 (0:Int)]) Try.sizeOf30 (Nat.le_of_ble_eq_true rfl) (ones_cons rfl (ones_cons rfl (ones_cons rfl (ones_cons rfl (ones_cons rfl (ones_cons rfl (ones_cons rfl ones_nil))))))) rfl
    refine wl_unit rfl rfl (x_unit hr134) ?_
    refine wl_val (v := .bool false) rfl rfl rfl ?_
    refine wl_nil ?_
    refine then_n ?_
    refine wp_ret ?_
    refine then_r ?_
    replace hst := hst.objO_nil at_policy_Book
    obtain rfl := some_inj hm
    refine post_ret (vs := [.agg #[.int .u64 (0:Int), .int .i64 (0:Int), .int .i64 (0:Int), .float .f64 (0:Nat), .float .f64 (0:Nat), .int .u64 (0:Int), .int .i64 (0:Int)], .bool false]) Try.results11 (rvs_cons (rv_cell (cs := [.int .u64 (0:Int), .int .i64 (0:Int), .int .i64 (0:Int), .float .f64 (0:Nat), .float .f64 (0:Nat), .int .u64 (0:Int), .int .i64 (0:Int)]) rfl Try.isAgg30 Try.sizeOf30 (hst.bcs1 0 rfl)) (rvs_cons (rv_tmp rfl) rvs_nil)) ?_
    exact ⟨rfl, hst.keep1⟩
  · skip
    replace hst := objO_get hst
    dsimp only [policy_Book_At] at hm
    refine calls_start (args := [p0, .int .u64 a1, .int .u64 a2]) Try.func11 rfl Try.ntmps11 (Nat.le_of_ble_eq_true rfl) ?_
    refine wp_seq ?_
    refine wp_region_lit ?_
    obtain ⟨b135, w136, ew137, eb138, hst⟩ := hst.box [.int .u64 (0:Int), .int .i64 (0:Int), .int .i64 (0:Int), .float .f64 (0:Nat), .float .f64 (0:Nat), .int .u64 (0:Int), .int .i64 (0:Int)] 30
    refine wl_run (v := .pointer (some ⟨b135, 0, none⟩)) (w' := w136) rfl rfl (x_al (by kernel_rfl) ew137 eb138) ?_
    refine wl_val (v := .bool false) rfl rfl rfl ?_
    refine wl_nil ?_
    refine then_n ?_
    refine wp_seq ?_
    refine wp_seq ?_
    refine wp_region_lit ?_
    refine wl_val (v := p0) rfl rfl rfl ?_
    replace hst := hst.pull1
    obtain ⟨b140, v141, rfl, hst'⟩ := at_policy_Book_open hst
    clear hst
    have hst := hst'
    clear hst'
    refine wl_val (v := .bool false) rfl rfl (by kernel_rfl) ?_
    refine wl_nil ?_
    refine then_n ?_
    refine wp_iff rfl ?_
    refine wp_skip ?_
    refine then_n ?_
    refine wp_seq ?_
    refine wp_seq ?_
    refine wp_region_lit ?_
    refine wl_val (v := .pointer (some ⟨b140, 0, none⟩)) rfl rfl rfl ?_
    refine wl_val (v := .pointer (some ⟨b140, 0, none⟩)) rfl rfl rfl ?_
    refine wl_val (v := .pointer (some ⟨b140, 0, none⟩)) rfl rfl (x_field rfl Try.underlying64 rfl Try.sizeOf62 rfl) ?_
    refine wl_val (v := v141) rfl rfl (x_load rfl Try.isAgg62 (hst.bc0 rfl)) ?_
    refine wl_val (v := .int .i64 ((o0.l).length : Int)) rfl rfl (x_len rfl Try.underlying62 hst.sv1) ?_
    refine wl_val (v := .int .i64 (IntKind.i64.wrap (((o0.l).length : Int) - (1:Int)))) rfl rfl rfl ?_
    refine wl_val (v := .int .i64 (IntKind.i64.wrap (((o0.l).length : Int) - (1:Int)))) rfl rfl rfl ?_
    refine wl_nil ?_
    refine then_n ?_
    refine wp_block ?_
    replace hst := hst.pull1
    replace hst := hst.pull1
    replace hst := at_policy_Book_close (pv := .pointer (some ⟨b140, 0, none⟩)) (x := o0) hst rfl
    obtain ⟨n196, hm⟩ := loopO_some hm
    refine wp_loop_n (fun n a w => ∃ (z194 : Int) (σ195 : Nat → Value), loopN (policy_Book_At_l0 o0 a1 a2) n z194 = some r ∧ a = Fr 55 (upd (upd (upd (upd (upd σ195 0 (.pointer (some ⟨b140, 0, none⟩))) 1 (.int .u64 a1)) 2 (.int .u64 a2)) 6 (.pointer (some ⟨b135, 0, none⟩))) 8 (.int .i64 z194)) ∧ St w0 w I [at_policy_Book (.pointer (some ⟨b140, 0, none⟩)) o0, cells b135 [.int .u64 (0:Int), .int .i64 (0:Int), .int .i64 (0:Int), .float .f64 (0:Nat), .float .f64 (0:Nat), .int .u64 (0:Int), .int .i64 (0:Int)]] R) n196 ⟨(IntKind.i64.wrap (((o0.l).length : Int) - (1:Int))), _, hm, ((fr_upd (t := 0) (v := .pointer (some ⟨b140, 0, none⟩)) rfl).trans ((fr_upd (t := 1) (v := .int .u64 a1) rfl).trans ((fr_upd (t := 2) (v := .int .u64 a2) rfl).trans ((fr_upd (t := 6) (v := .pointer (some ⟨b135, 0, none⟩)) rfl).trans ((fr_upd (t := 8) (v := .int .i64 (IntKind.i64.wrap (((o0.l).length : Int) - (1:Int)))) rfl).trans rfl))))), hst⟩ ?_
    rintro n202 _ w197 ⟨z194, σ195, hm, rfl, hst⟩
    obtain ⟨n199, y200, rfl, hm, hx201⟩ := loopN_some hm
    dsimp only [policy_Book_At_l0] at hm
    refine wp_seq ?_
    refine wp_seq ?_
    refine wp_region_lit ?_
    refine wl_val (v := .int .i64 z194) rfl rfl rfl ?_
    refine wl_val (v := .bool (decide (z194 ≥ (0:Int)))) rfl rfl rfl ?_
    refine wl_nil ?_
    refine then_n ?_
    refine bsplit (decide (z194 ≥ (0:Int))) (fun hc203 => ?_) (fun hc203 => ?_)
    · skip
      replace hm := bif_t hc203 hm
      refine wp_ift (congrArg Value.bool hc203) ?_
      refine wp_skip ?_
      refine then_n ?_
      refine wp_seq ?_
      refine wp_block ?_
      refine wp_seq ?_
      refine wp_region_lit ?_
      refine wl_val (v := .pointer (some ⟨b140, 0, none⟩)) rfl rfl rfl ?_
      obtain ⟨b204, v205, e207, hst'⟩ := at_policy_Book_open hst
      clear hst
      have e207 := ptr_inj e207
      subst e207
      have hst := hst'
      clear hst'
      refine wl_val (v := .pointer (some ⟨b140, 0, none⟩)) rfl rfl rfl ?_
      refine wl_val (v := .pointer (some ⟨b140, 0, none⟩)) rfl rfl (x_field rfl Try.underlying64 rfl Try.sizeOf62 rfl) ?_
      refine wl_val (v := v205) rfl rfl (x_load rfl Try.isAgg62 (hst.bc0 rfl)) ?_
      refine wl_val (v := .int .i64 z194) rfl rfl rfl ?_
      obtain ⟨x208, hx209, hm⟩ := bind_some hm
      obtain ⟨h210, h211, hi212⟩ := geto_some hx209
      refine wl_val (v := .pointer (some (eAddr v205 (z194.toNat * 9 + 0)))) rfl rfl (x_index rfl rfl Try.underlying62 Try.sizeOf66 hst.sv1 h210 h211) ?_
      refine wl_val (v := .agg #[.int .u64 x208.r.ID, .int .i64 x208.r.From, .int .i64 x208.r.To, .float .f64 x208.r.Lo, .float .f64 x208.r.Hi, .int .u64 x208.r.Authority, .int .i64 x208.r.Quota, .int .u64 x208.from_, .int .u64 x208.to_]) rfl rfl (x_loadN (cs := [.int .u64 x208.r.ID, .int .i64 x208.r.From, .int .i64 x208.r.To, .float .f64 x208.r.Lo, .float .f64 x208.r.Hi, .int .u64 x208.r.Authority, .int .i64 x208.r.Quota, .int .u64 x208.from_, .int .u64 x208.to_]) rfl Try.isAgg66 Try.sizeOf66 (hst.olN1 hi212 0 (by rintro _ rfl; rfl))) ?_
      obtain ⟨b213, w214, ew215, eb216, hst⟩ := hst.box [.int .u64 (0:Int), .int .i64 (0:Int), .int .i64 (0:Int), .float .f64 (0:Nat), .float .f64 (0:Nat), .int .u64 (0:Int), .int .i64 (0:Int), .int .u64 (0:Int), .int .u64 (0:Int)] 66
      refine wl_run (v := .pointer (some ⟨b213, 0, none⟩)) (w' := w214) rfl rfl (x_al (by kernel_rfl) ew215 eb216) ?_
      obtain ⟨w218, hr219, hst⟩ := hst.boxStore (P := Try.prog) (t := 66) (cs' := [.int .u64 x208.r.ID, .int .i64 x208.r.From, .int .i64 x208.r.To, .float .f64 x208.r.Lo, .float .f64 x208.r.Hi, .int .u64 x208.r.Authority, .int .i64 x208.r.Quota, .int .u64 x208.from_, .int .u64 x208.to_]) 0 (.agg #[.int .u64 x208.r.ID, .int .i64 x208.r.From, .int .i64 x208.r.To, .float .f64 x208.r.Lo, .float .f64 x208.r.Hi, .int .u64 x208.r.Authority, .int .i64 x208.r.Quota, .int .u64 x208.from_, .int .u64 x208.to_]) Try.sizeOf66 (Nat.le_of_ble_eq_true rfl) (ones_cons rfl (ones_cons rfl (ones_cons rfl (ones_cons rfl (ones_cons rfl (ones_cons rfl (ones_cons rfl (ones_cons rfl (ones_cons rfl ones_nil))))))))) rfl
      refine wl_unit rfl rfl (x_unit hr219) ?_
      refine wl_nil ?_
      refine then_n ?_
      refine wp_seq ?_
      refine wp_region_lit ?_
      refine wl_val (v := .pointer (some ⟨b213, 0, none⟩)) rfl rfl (x_field rfl Try.underlying66 rfl Try.sizeOf30 rfl) ?_
      refine wl_val (v := .pointer (some ⟨b213, 0, none⟩)) rfl rfl (x_field rfl Try.underlying30 rfl Try.sizeOf27 rfl) ?_
      refine wl_val (v := .int .u64 x208.r.ID) rfl rfl (x_load rfl Try.isAgg27 (hst.bc0 rfl)) ?_
      refine wl_val (v := .int .u64 a1) rfl rfl rfl ?_
      refine wl_val (v := .bool (x208.r.ID == a1)) rfl rfl rfl ?_
      refine wl_val (v := .bool (x208.r.ID == a1)) rfl rfl rfl ?_
      refine bsplit (x208.r.ID == a1) (fun hc220 => ?_) (fun hc220 => ?_)
      · skip
        replace hm := bif_t hc220 hm
        refine wl_val (v := .pointer (some ⟨b213, 7, none⟩)) ((wanted_eq rfl rfl rfl (congrArg Value.bool hc220)).trans rfl) rfl (x_field rfl Try.underlying66 rfl Try.sizeOf27 rfl) ?_
        refine wl_val (v := .int .u64 x208.from_) ((wanted_eq rfl rfl rfl (congrArg Value.bool hc220)).trans rfl) rfl (x_load rfl Try.isAgg27 (hst.bc0 rfl)) ?_
        refine wl_val (v := .int .u64 a2) ((wanted_eq rfl rfl rfl (congrArg Value.bool hc220)).trans rfl) rfl rfl ?_
        refine wl_val (v := .bool (decide (x208.from_ ≤ a2))) ((wanted_eq rfl rfl rfl (congrArg Value.bool hc220)).trans rfl) rfl rfl ?_
        refine wl_val (v := .bool (decide (x208.from_ ≤ a2))) rfl rfl (x_pick_t hc220 rfl rfl) ?_
        refine wl_val (v := .bool (decide (x208.from_ ≤ a2))) rfl rfl rfl ?_
        refine bsplit (decide (x208.from_ ≤ a2)) (fun hc221 => ?_) (fun hc221 => ?_)
        · skip
          replace hm := bif_t hc221 hm
          refine wl_val (v := .pointer (some ⟨b213, 8, none⟩)) ((wanted_eq rfl rfl rfl (congrArg Value.bool hc221)).trans rfl) rfl (x_field rfl Try.underlying66 rfl Try.sizeOf27 rfl) ?_
          refine wl_val (v := .int .u64 x208.to_) ((wanted_eq rfl rfl rfl (congrArg Value.bool hc221)).trans rfl) rfl (x_load rfl Try.isAgg27 (hst.bc0 rfl)) ?_
          refine wl_val (v := .bool (x208.to_ == (0:Int))) ((wanted_eq rfl rfl rfl (congrArg Value.bool hc221)).trans rfl) rfl rfl ?_
          refine wl_val (v := .bool (x208.to_ == (0:Int))) ((wanted_eq rfl rfl rfl (congrArg Value.bool hc221)).trans rfl) rfl rfl ?_
          refine bsplit (x208.to_ == (0:Int)) (fun hc222 => ?_) (fun hc222 => ?_)
          · skip
            replace hm := bif_t hc222 hm
            refine wl_off ((wanted_eq rfl rfl rfl (congrArg Value.bool hc222)).trans rfl) rfl ?_
            refine wl_off ((wanted_eq rfl rfl rfl (congrArg Value.bool hc222)).trans rfl) rfl ?_
            refine wl_off ((wanted_eq rfl rfl rfl (congrArg Value.bool hc222)).trans rfl) rfl ?_
            refine wl_off ((wanted_eq rfl rfl rfl (congrArg Value.bool hc222)).trans rfl) rfl ?_
            refine wl_val (v := .bool true) ((wanted_eq rfl rfl rfl (congrArg Value.bool hc221)).trans rfl) rfl (x_pick_t hc222 rfl rfl) ?_
            refine wl_val (v := .bool true) rfl rfl (x_pick_t hc221 rfl rfl) ?_
            refine wl_nil ?_
            refine then_n ?_
            refine wp_ift rfl ?_
            refine wp_seq ?_
            refine wp_region_lit ?_
            refine wl_val (v := .pointer (some ⟨b213, 0, none⟩)) rfl rfl (x_field rfl Try.underlying66 rfl Try.sizeOf30 rfl) ?_
            refine wl_val (v := .agg #[.int .u64 x208.r.ID, .int .i64 x208.r.From, .int .i64 x208.r.To, .float .f64 x208.r.Lo, .float .f64 x208.r.Hi, .int .u64 x208.r.Authority, .int .i64 x208.r.Quota]) rfl rfl (x_loadN (cs := [.int .u64 x208.r.ID, .int .i64 x208.r.From, .int .i64 x208.r.To, .float .f64 x208.r.Lo, .float .f64 x208.r.Hi, .int .u64 x208.r.Authority, .int .i64 x208.r.Quota]) rfl Try.isAgg30 Try.sizeOf30 (hst.bcs0 0 rfl)) ?_
            replace hst := hst.pull3
            obtain ⟨w223, hr224, hst⟩ := hst.boxStore (P := Try.prog) (t := 30) (cs' := [.int .u64 x208.r.ID, .int .i64 x208.r.From, .int .i64 x208.r.To, .float .f64 x208.r.Lo, .float .f64 x208.r.Hi, .int .u64 x208.r.Authority, .int .i64 x208.r.Quota]) 0 (.agg #[.int .u64 x208.r.ID, .int .i64 x208.r.From, .int .i64 x208.r.To, .float .f64 x208.r.Lo, .float .f64 x208.r.Hi, .int .u64 x208.r.Authority, .int .i64 x208.r.Quota]) Try.sizeOf30 (Nat.le_of_ble_eq_true rfl) (ones_cons rfl (ones_cons rfl (ones_cons rfl (ones_cons rfl (ones_cons rfl (ones_cons rfl (ones_cons rfl ones_nil))))))) rfl
            refine wl_unit rfl rfl (x_unit hr224) ?_
            refine wl_val (v := .bool true) rfl rfl rfl ?_
            refine wl_nil ?_
            refine then_n ?_
            refine wp_ret ?_
            refine blk_r ?_
            refine then_r ?_
            refine then_r ?_
            replace hm := inr_up hm hx201
            refine blk_r ?_
            refine then_r ?_
            replace hst := hst.pull3
            replace hst := hst.pull3
            replace hst := at_policy_Book_close (pv := .pointer (some ⟨b140, 0, none⟩)) (x := o0) hst rfl
            replace hst := objO_some hst
            obtain rfl := some_inj hm
            refine post_ret (vs := [.agg #[.int .u64 x208.r.ID, .int .i64 x208.r.From, .int .i64 x208.r.To, .float .f64 x208.r.Lo, .float .f64 x208.r.Hi, .int .u64 x208.r.Authority, .int .i64 x208.r.Quota], .bool true]) Try.results11 (rvs_cons (rv_cell (cs := [.int .u64 x208.r.ID, .int .i64 x208.r.From, .int .i64 x208.r.To, .float .f64 x208.r.Lo, .float .f64 x208.r.Hi, .int .u64 x208.r.Authority, .int .i64 x208.r.Quota]) rfl Try.isAgg30 Try.sizeOf30 (hst.bcs1 0 rfl)) (rvs_cons (rv_tmp rfl) rvs_nil)) ?_
            exact ⟨rfl, hst.keep1⟩
          · skip
            replace hm := bif_f hc222 hm
            refine wl_val (v := .pointer (some ⟨b213, 8, none⟩)) ((wanted_eq rfl rfl rfl (congrArg Value.bool hc222)).trans rfl) rfl (x_field rfl Try.underlying66 rfl Try.sizeOf27 rfl) ?_
            refine wl_val (v := .int .u64 x208.to_) ((wanted_eq rfl rfl rfl (congrArg Value.bool hc222)).trans rfl) rfl (x_load rfl Try.isAgg27 (hst.bc0 rfl)) ?_
            refine wl_val (v := .int .u64 a2) ((wanted_eq rfl rfl rfl (congrArg Value.bool hc222)).trans rfl) rfl rfl ?_
            refine wl_val (v := .bool (decide (x208.to_ > a2))) ((wanted_eq rfl rfl rfl (congrArg Value.bool hc222)).trans rfl) rfl rfl ?_
            refine wl_val (v := .bool (decide (x208.to_ > a2))) ((wanted_eq rfl rfl rfl (congrArg Value.bool hc221)).trans rfl) rfl (x_pick_f hc222 rfl rfl) ?_
            refine wl_val (v := .bool (decide (x208.to_ > a2))) rfl rfl (x_pick_t hc221 rfl rfl) ?_
            refine wl_nil ?_
            refine then_n ?_
            refine bsplit (decide (x208.to_ > a2)) (fun hc225 => ?_) (fun hc225 => ?_)
            · skip
              replace hm := bif_t hc225 hm
              refine wp_ift (congrArg Value.bool hc225) ?_
              refine wp_seq ?_
              refine wp_region_lit ?_
              refine wl_val (v := .pointer (some ⟨b213, 0, none⟩)) rfl rfl (x_field rfl Try.underlying66 rfl Try.sizeOf30 rfl) ?_
              refine wl_val (v := .agg #[.int .u64 x208.r.ID, .int .i64 x208.r.From, .int .i64 x208.r.To, .float .f64 x208.r.Lo, .float .f64 x208.r.Hi, .int .u64 x208.r.Authority, .int .i64 x208.r.Quota]) rfl rfl (x_loadN (cs := [.int .u64 x208.r.ID, .int .i64 x208.r.From, .int .i64 x208.r.To, .float .f64 x208.r.Lo, .float .f64 x208.r.Hi, .int .u64 x208.r.Authority, .int .i64 x208.r.Quota]) rfl Try.isAgg30 Try.sizeOf30 (hst.bcs0 0 rfl)) ?_
              replace hst := hst.pull3
              obtain ⟨w226, hr227, hst⟩ := hst.boxStore (P := Try.prog) (t := 30) (cs' := [.int .u64 x208.r.ID, .int .i64 x208.r.From, .int .i64 x208.r.To, .float .f64 x208.r.Lo, .float .f64 x208.r.Hi, .int .u64 x208.r.Authority, .int .i64 x208.r.Quota]) 0 (.agg #[.int .u64 x208.r.ID, .int .i64 x208.r.From, .int .i64 x208.r.To, .float .f64 x208.r.Lo, .float .f64 x208.r.Hi, .int .u64 x208.r.Authority, .int .i64 x208.r.Quota]) Try.sizeOf30 (Nat.le_of_ble_eq_true rfl) (ones_cons rfl (ones_cons rfl (ones_cons rfl (ones_cons rfl (ones_cons rfl (ones_cons rfl (ones_cons rfl ones_nil))))))) rfl
              refine wl_unit rfl rfl (x_unit hr227) ?_
              refine wl_val (v := .bool true) rfl rfl rfl ?_
              refine wl_nil ?_
              refine then_n ?_
              refine wp_ret ?_
              refine blk_r ?_
              refine then_r ?_
              refine then_r ?_
              replace hm := inr_up hm hx201
              refine blk_r ?_
              refine then_r ?_
              replace hst := hst.pull3
              replace hst := hst.pull3
              replace hst := at_policy_Book_close (pv := .pointer (some ⟨b140, 0, none⟩)) (x := o0) hst rfl
              replace hst := objO_some hst
              obtain rfl := some_inj hm
              refine post_ret (vs := [.agg #[.int .u64 x208.r.ID, .int .i64 x208.r.From, .int .i64 x208.r.To, .float .f64 x208.r.Lo, .float .f64 x208.r.Hi, .int .u64 x208.r.Authority, .int .i64 x208.r.Quota], .bool true]) Try.results11 (rvs_cons (rv_cell (cs := [.int .u64 x208.r.ID, .int .i64 x208.r.From, .int .i64 x208.r.To, .float .f64 x208.r.Lo, .float .f64 x208.r.Hi, .int .u64 x208.r.Authority, .int .i64 x208.r.Quota]) rfl Try.isAgg30 Try.sizeOf30 (hst.bcs1 0 rfl)) (rvs_cons (rv_tmp rfl) rvs_nil)) ?_
              exact ⟨rfl, hst.keep1⟩
            · skip
              replace hm := bif_f hc225 hm
              refine wp_iff (congrArg Value.bool hc225) ?_
              refine wp_skip ?_
              refine blk_n ?_
              refine then_n ?_
              refine wp_region_lit ?_
              refine wl_val (v := .int .i64 z194) rfl rfl rfl ?_
              refine wl_val (v := .int .i64 (IntKind.i64.wrap (z194 - (1:Int)))) rfl rfl rfl ?_
              refine wl_val (v := .int .i64 (IntKind.i64.wrap (z194 - (1:Int)))) rfl rfl rfl ?_
              refine wl_nil ?_
              refine then_n ?_
              replace hst := hst.pull2
              replace hst := hst.pull2
              replace hst := at_policy_Book_close (pv := .pointer (some ⟨b140, 0, none⟩)) (x := o0) hst rfl
              replace hst := hst.pull2
              replace hst := hst.pull1
              replace hst := hst.keep2
              obtain rfl := some_inj hm
              exact ⟨_, Nat.lt_succ_self _, (IntKind.i64.wrap (z194 - (1:Int))), _, hx201, ((fr_upd (t := 0) (v := .pointer (some ⟨b140, 0, none⟩)) rfl).trans ((fr_upd (t := 1) (v := .int .u64 a1) rfl).trans ((fr_upd (t := 2) (v := .int .u64 a2) rfl).trans ((fr_upd (t := 6) (v := .pointer (some ⟨b135, 0, none⟩)) rfl).trans ((fr_upd (t := 8) (v := .int .i64 (IntKind.i64.wrap (z194 - (1:Int)))) rfl).trans rfl))))), hst⟩
        · skip
          replace hm := bif_f hc221 hm
          refine wl_off ((wanted_eq rfl rfl rfl (congrArg Value.bool hc221)).trans rfl) rfl ?_
          refine wl_off ((wanted_eq rfl rfl rfl (congrArg Value.bool hc221)).trans rfl) rfl ?_
          refine wl_off ((wanted_eq rfl rfl rfl (congrArg Value.bool hc221)).trans rfl) rfl ?_
          refine wl_off ((wanted_eq rfl rfl rfl (congrArg Value.bool hc221)).trans rfl) rfl ?_
          refine wl_off (wanted_undef rfl rfl rfl rfl) rfl ?_
          refine wl_off (wanted_undef rfl rfl rfl rfl) rfl ?_
          refine wl_off (wanted_undef rfl rfl rfl rfl) rfl ?_
          refine wl_off (wanted_undef rfl rfl rfl rfl) rfl ?_
          refine wl_off ((wanted_eq rfl rfl rfl (congrArg Value.bool hc221)).trans rfl) rfl ?_
          refine wl_val (v := .bool false) rfl rfl (x_pick_f hc221 rfl rfl) ?_
          refine wl_nil ?_
          refine then_n ?_
          refine wp_iff rfl ?_
          refine wp_skip ?_
          refine blk_n ?_
          refine then_n ?_
          refine wp_region_lit ?_
          refine wl_val (v := .int .i64 z194) rfl rfl rfl ?_
          refine wl_val (v := .int .i64 (IntKind.i64.wrap (z194 - (1:Int)))) rfl rfl rfl ?_
          refine wl_val (v := .int .i64 (IntKind.i64.wrap (z194 - (1:Int)))) rfl rfl rfl ?_
          refine wl_nil ?_
          refine then_n ?_
          replace hst := hst.pull2
          replace hst := hst.pull2
          replace hst := at_policy_Book_close (pv := .pointer (some ⟨b140, 0, none⟩)) (x := o0) hst rfl
          replace hst := hst.pull2
          replace hst := hst.pull1
          replace hst := hst.keep2
          obtain rfl := some_inj hm
          exact ⟨_, Nat.lt_succ_self _, (IntKind.i64.wrap (z194 - (1:Int))), _, hx201, ((fr_upd (t := 0) (v := .pointer (some ⟨b140, 0, none⟩)) rfl).trans ((fr_upd (t := 1) (v := .int .u64 a1) rfl).trans ((fr_upd (t := 2) (v := .int .u64 a2) rfl).trans ((fr_upd (t := 6) (v := .pointer (some ⟨b135, 0, none⟩)) rfl).trans ((fr_upd (t := 8) (v := .int .i64 (IntKind.i64.wrap (z194 - (1:Int)))) rfl).trans rfl))))), hst⟩
      · skip
        replace hm := bif_f hc220 hm
        refine wl_off ((wanted_eq rfl rfl rfl (congrArg Value.bool hc220)).trans rfl) rfl ?_
        refine wl_off ((wanted_eq rfl rfl rfl (congrArg Value.bool hc220)).trans rfl) rfl ?_
        refine wl_off ((wanted_eq rfl rfl rfl (congrArg Value.bool hc220)).trans rfl) rfl ?_
        refine wl_off ((wanted_eq rfl rfl rfl (congrArg Value.bool hc220)).trans rfl) rfl ?_
        refine wl_val (v := .bool false) rfl rfl (x_pick_f hc220 rfl rfl) ?_
        refine wl_val (v := .bool false) rfl rfl rfl ?_
        refine wl_off ((wanted_eq rfl rfl rfl rfl).trans rfl) rfl ?_
        refine wl_off ((wanted_eq rfl rfl rfl rfl).trans rfl) rfl ?_
        refine wl_off ((wanted_eq rfl rfl rfl rfl).trans rfl) rfl ?_
        refine wl_off ((wanted_eq rfl rfl rfl rfl).trans rfl) rfl ?_
        refine wl_off (wanted_undef rfl rfl rfl rfl) rfl ?_
        refine wl_off (wanted_undef rfl rfl rfl rfl) rfl ?_
        refine wl_off (wanted_undef rfl rfl rfl rfl) rfl ?_
        refine wl_off (wanted_undef rfl rfl rfl rfl) rfl ?_
        refine wl_off ((wanted_eq rfl rfl rfl rfl).trans rfl) rfl ?_
        refine wl_val (v := .bool false) rfl rfl (x_pick_f rfl rfl rfl) ?_
        refine wl_nil ?_
        refine then_n ?_
        refine wp_iff rfl ?_
        refine wp_skip ?_
        refine blk_n ?_
        refine then_n ?_
        refine wp_region_lit ?_
        refine wl_val (v := .int .i64 z194) rfl rfl rfl ?_
        refine wl_val (v := .int .i64 (IntKind.i64.wrap (z194 - (1:Int)))) rfl rfl rfl ?_
        refine wl_val (v := .int .i64 (IntKind.i64.wrap (z194 - (1:Int)))) rfl rfl rfl ?_
        refine wl_nil ?_
        refine then_n ?_
        replace hst := hst.pull2
        replace hst := hst.pull2
        replace hst := at_policy_Book_close (pv := .pointer (some ⟨b140, 0, none⟩)) (x := o0) hst rfl
        replace hst := hst.pull2
        replace hst := hst.pull1
        replace hst := hst.keep2
        obtain rfl := some_inj hm
        exact ⟨_, Nat.lt_succ_self _, (IntKind.i64.wrap (z194 - (1:Int))), _, hx201, ((fr_upd (t := 0) (v := .pointer (some ⟨b140, 0, none⟩)) rfl).trans ((fr_upd (t := 1) (v := .int .u64 a1) rfl).trans ((fr_upd (t := 2) (v := .int .u64 a2) rfl).trans ((fr_upd (t := 6) (v := .pointer (some ⟨b135, 0, none⟩)) rfl).trans ((fr_upd (t := 8) (v := .int .i64 (IntKind.i64.wrap (z194 - (1:Int)))) rfl).trans rfl))))), hst⟩
    · skip
      replace hm := bif_f hc203 hm
      refine wp_iff (congrArg Value.bool hc203) ?_
      refine wp_exit ?_
      refine then_x ?_
      refine then_x ?_
      replace hm := inr_up hm hx201
      refine blk_x ?_
      refine then_n ?_
      refine wp_seq ?_
      refine wp_region_lit ?_
      refine wl_val (v := .agg #[.int .u64 (0:Int), .int .i64 (0:Int), .int .i64 (0:Int), .float .f64 (0:Nat), .float .f64 (0:Nat), .int .u64 (0:Int), .int .i64 (0:Int)]) rfl rfl (by kernel_rfl) ?_
      replace hst := hst.pull1
      obtain ⟨w228, hr229, hst⟩ := hst.boxStore (P := Try.prog) (t := 30) (cs' := [.int .u64 (0:Int), .int .i64 (0:Int), .int .i64 (0:Int), .float .f64 (0:Nat), .float .f64 (0:Nat), .int .u64 (0:Int), .int .i64 (0:Int)]) 0 (.agg #[.int .u64 (0:Int), .int .i64 (0:Int), .int .i64 (0:Int), .float .f64 (0:Nat), .float .f64 (0:Nat), .int .u64 (0:Int), .int .i64 (0:Int)]) Try.sizeOf30 (Nat.le_of_ble_eq_true rfl) (ones_cons rfl (ones_cons rfl (ones_cons rfl (ones_cons rfl (ones_cons rfl (ones_cons rfl (ones_cons rfl ones_nil))))))) rfl
      refine wl_unit rfl rfl (x_unit hr229) ?_
      refine wl_val (v := .bool false) rfl rfl rfl ?_
      refine wl_nil ?_
      refine then_n ?_
      refine wp_ret ?_
      replace hst := hst.pull1
      replace hst := objO_some hst
      obtain rfl := some_inj hm
      refine post_ret (vs := [.agg #[.int .u64 (0:Int), .int .i64 (0:Int), .int .i64 (0:Int), .float .f64 (0:Nat), .float .f64 (0:Nat), .int .u64 (0:Int), .int .i64 (0:Int)], .bool false]) Try.results11 (rvs_cons (rv_cell (cs := [.int .u64 (0:Int), .int .i64 (0:Int), .int .i64 (0:Int), .float .f64 (0:Nat), .float .f64 (0:Nat), .int .u64 (0:Int), .int .i64 (0:Int)]) rfl Try.isAgg30 Try.sizeOf30 (hst.bcs1 0 rfl)) (rvs_cons (rv_tmp rfl) rvs_nil)) ?_
      exact ⟨rfl, hst.keep1⟩

theorem law15_awake_ref {w0 w : World} {I : HL} {R : SP}   (hst : St w0 w I [] R) {r : (Bool)} (hm : law15_awake = some r) :
    Calls Try.prog 8 #[] w fun e w' => e = .returned (.bool r) ∧ St w0 w' I [] R := by
  unfold law15_awake at hm
  refine calls_start (args := []) Try.func8 rfl Try.ntmps8 (Nat.le_of_ble_eq_true rfl) ?_
  refine wp_seq ?_
  refine wp_region_lit ?_
  refine wl_val (v := .bool false) rfl rfl rfl ?_
  refine wl_nil ?_
  refine then_n ?_
  refine wp_seq ?_
  refine wp_region_lit ?_
  obtain ⟨t63, ht64, hm⟩ := bind_some hm
  refine wl_call rfl rfl (x_call Try.call9 rfl (vs := []) rfl) ?_
  refine (policy_New_ref hst.to0 ht64).mono ?_
  rintro _ w65 ⟨v68, rfl, hst⟩
  refine ⟨_, rfl, ?_⟩
  replace hst := hst.of1
  refine wl_val (v := v68) rfl rfl rfl ?_
  refine wl_nil ?_
  refine then_n ?_
  refine wp_seq ?_
  refine wp_region_lit ?_
  refine wl_val (v := v68) rfl rfl rfl ?_
  refine wl_val (v := .agg #[.int .u64 (5:Int), .int .i64 (0:Int), .int .i64 (0:Int), .float .f64 (0:Nat), .float .f64 (0:Nat), .int .u64 (0:Int), .int .i64 (1:Int)]) rfl rfl (by kernel_rfl) ?_
  replace hst := objO_some hst
  obtain ⟨t70, ht71, hm⟩ := bind_some hm
  refine wl_call rfl rfl (x_call Try.call10 rfl (vs := [v68, .agg #[.int .u64 (5:Int), .int .i64 (0:Int), .int .i64 (0:Int), .float .f64 (0:Nat), .float .f64 (0:Nat), .int .u64 (0:Int), .int .i64 (1:Int)], .int .u64 (2:Int)]) rfl) ?_
  refine (policy_Book_Grant_ref hst.to1 ht71).mono ?_
  rintro _ w72 ⟨rfl, hst⟩
  refine ⟨_, rfl, ?_⟩
  replace hst := hst.of1
  rcases he76 : t70 with _ | y75
  · rw [he76] at hm; cases hm
  rw [he76] at hm hst; dsimp only at hm; replace hst := objO_get hst
  refine wl_nil ?_
  refine then_n ?_
  refine wp_seq ?_
  refine wp_region_lit ?_
  refine wl_val (v := v68) rfl rfl rfl ?_
  replace hst := objO_some hst
  obtain ⟨t77, ht78, hm⟩ := bind_some hm
  refine wl_call rfl rfl (x_call Try.call13 rfl (vs := [v68, .int .u64 (5:Int), .int .u64 (4:Int)]) rfl) ?_
  refine (policy_Book_Revoke_ref hst.to1 ht78).mono ?_
  rintro _ w79 ⟨rfl, hst⟩
  refine ⟨_, rfl, ?_⟩
  replace hst := hst.of1
  rcases he83 : t77.2 with _ | y82
  · rw [he83] at hm; cases hm
  rw [he83] at hm hst; dsimp only at hm; replace hst := objO_get hst
  refine wl_nil ?_
  refine then_n ?_
  refine wp_seq ?_
  refine wp_region_lit ?_
  refine wl_val (v := v68) rfl rfl rfl ?_
  replace hst := objO_some hst
  obtain ⟨t84, ht85, hm⟩ := bind_some hm
  refine wl_call rfl rfl (x_call Try.call11 rfl (vs := [v68, .int .u64 (5:Int), .int .u64 (1:Int)]) rfl) ?_
  refine (policy_Book_At_ref hst.to1 ht85).mono ?_
  rintro _ w86 ⟨rfl, hst⟩
  refine ⟨_, rfl, ?_⟩
  replace hst := hst.of1
  replace hst := objO_get hst
  refine wl_val (v := .tuple #[.agg #[.int .u64 t84.1.ID, .int .i64 t84.1.From, .int .i64 t84.1.To, .float .f64 t84.1.Lo, .float .f64 t84.1.Hi, .int .u64 t84.1.Authority, .int .i64 t84.1.Quota], .bool t84.2]) rfl rfl rfl ?_
  refine wl_val (v := .agg #[.int .u64 t84.1.ID, .int .i64 t84.1.From, .int .i64 t84.1.To, .float .f64 t84.1.Lo, .float .f64 t84.1.Hi, .int .u64 t84.1.Authority, .int .i64 t84.1.Quota]) rfl rfl rfl ?_
  refine wl_val (v := .bool t84.2) rfl rfl rfl ?_
  obtain ⟨b89, w90, ew91, eb92, hst⟩ := hst.box [.int .u64 (0:Int), .int .i64 (0:Int), .int .i64 (0:Int), .float .f64 (0:Nat), .float .f64 (0:Nat), .int .u64 (0:Int), .int .i64 (0:Int)] 30
  refine wl_run (v := .pointer (some ⟨b89, 0, none⟩)) (w' := w90) rfl rfl (x_al (by kernel_rfl) ew91 eb92) ?_
  obtain ⟨w94, hr95, hst⟩ := hst.boxStore (P := Try.prog) (t := 30) (cs' := [.int .u64 t84.1.ID, .int .i64 t84.1.From, .int .i64 t84.1.To, .float .f64 t84.1.Lo, .float .f64 t84.1.Hi, .int .u64 t84.1.Authority, .int .i64 t84.1.Quota]) 0 (.agg #[.int .u64 t84.1.ID, .int .i64 t84.1.From, .int .i64 t84.1.To, .float .f64 t84.1.Lo, .float .f64 t84.1.Hi, .int .u64 t84.1.Authority, .int .i64 t84.1.Quota]) Try.sizeOf30 (Nat.le_of_ble_eq_true rfl) (ones_cons rfl (ones_cons rfl (ones_cons rfl (ones_cons rfl (ones_cons rfl (ones_cons rfl (ones_cons rfl ones_nil))))))) rfl
  refine wl_unit rfl rfl (x_unit hr95) ?_
  refine wl_val (v := .bool t84.2) rfl rfl rfl ?_
  refine wl_nil ?_
  refine then_n ?_
  refine wp_seq ?_
  refine wp_region_lit ?_
  refine wl_val (v := v68) rfl rfl rfl ?_
  replace hst := hst.pull1
  replace hst := objO_some hst
  obtain ⟨t96, ht97, hm⟩ := bind_some hm
  refine wl_call rfl rfl (x_call Try.call11 rfl (vs := [v68, .int .u64 (5:Int), .int .u64 (3:Int)]) rfl) ?_
  refine (policy_Book_At_ref hst.to1 ht97).mono ?_
  rintro _ w98 ⟨rfl, hst⟩
  refine ⟨_, rfl, ?_⟩
  replace hst := hst.of1
  replace hst := objO_get hst
  refine wl_val (v := .tuple #[.agg #[.int .u64 t96.1.ID, .int .i64 t96.1.From, .int .i64 t96.1.To, .float .f64 t96.1.Lo, .float .f64 t96.1.Hi, .int .u64 t96.1.Authority, .int .i64 t96.1.Quota], .bool t96.2]) rfl rfl rfl ?_
  refine wl_val (v := .agg #[.int .u64 t96.1.ID, .int .i64 t96.1.From, .int .i64 t96.1.To, .float .f64 t96.1.Lo, .float .f64 t96.1.Hi, .int .u64 t96.1.Authority, .int .i64 t96.1.Quota]) rfl rfl rfl ?_
  refine wl_val (v := .bool t96.2) rfl rfl rfl ?_
  obtain ⟨b101, w102, ew103, eb104, hst⟩ := hst.box [.int .u64 (0:Int), .int .i64 (0:Int), .int .i64 (0:Int), .float .f64 (0:Nat), .float .f64 (0:Nat), .int .u64 (0:Int), .int .i64 (0:Int)] 30
  refine wl_run (v := .pointer (some ⟨b101, 0, none⟩)) (w' := w102) rfl rfl (x_al (by kernel_rfl) ew103 eb104) ?_
  obtain ⟨w106, hr107, hst⟩ := hst.boxStore (P := Try.prog) (t := 30) (cs' := [.int .u64 t96.1.ID, .int .i64 t96.1.From, .int .i64 t96.1.To, .float .f64 t96.1.Lo, .float .f64 t96.1.Hi, .int .u64 t96.1.Authority, .int .i64 t96.1.Quota]) 0 (.agg #[.int .u64 t96.1.ID, .int .i64 t96.1.From, .int .i64 t96.1.To, .float .f64 t96.1.Lo, .float .f64 t96.1.Hi, .int .u64 t96.1.Authority, .int .i64 t96.1.Quota]) Try.sizeOf30 (Nat.le_of_ble_eq_true rfl) (ones_cons rfl (ones_cons rfl (ones_cons rfl (ones_cons rfl (ones_cons rfl (ones_cons rfl (ones_cons rfl ones_nil))))))) rfl
  refine wl_unit rfl rfl (x_unit hr107) ?_
  refine wl_val (v := .bool t96.2) rfl rfl rfl ?_
  refine wl_nil ?_
  refine then_n ?_
  refine wp_seq ?_
  refine wp_region_lit ?_
  refine wl_val (v := v68) rfl rfl rfl ?_
  replace hst := hst.pull1
  replace hst := objO_some hst
  obtain ⟨t108, ht109, hm⟩ := bind_some hm
  refine wl_call rfl rfl (x_call Try.call11 rfl (vs := [v68, .int .u64 (5:Int), .int .u64 (4:Int)]) rfl) ?_
  refine (policy_Book_At_ref hst.to1 ht109).mono ?_
  rintro _ w110 ⟨rfl, hst⟩
  refine ⟨_, rfl, ?_⟩
  replace hst := hst.of1
  replace hst := objO_get hst
  refine wl_val (v := .tuple #[.agg #[.int .u64 t108.1.ID, .int .i64 t108.1.From, .int .i64 t108.1.To, .float .f64 t108.1.Lo, .float .f64 t108.1.Hi, .int .u64 t108.1.Authority, .int .i64 t108.1.Quota], .bool t108.2]) rfl rfl rfl ?_
  refine wl_val (v := .agg #[.int .u64 t108.1.ID, .int .i64 t108.1.From, .int .i64 t108.1.To, .float .f64 t108.1.Lo, .float .f64 t108.1.Hi, .int .u64 t108.1.Authority, .int .i64 t108.1.Quota]) rfl rfl rfl ?_
  refine wl_val (v := .bool t108.2) rfl rfl rfl ?_
  obtain ⟨b113, w114, ew115, eb116, hst⟩ := hst.box [.int .u64 (0:Int), .int .i64 (0:Int), .int .i64 (0:Int), .float .f64 (0:Nat), .float .f64 (0:Nat), .int .u64 (0:Int), .int .i64 (0:Int)] 30
  refine wl_run (v := .pointer (some ⟨b113, 0, none⟩)) (w' := w114) rfl rfl (x_al (by kernel_rfl) ew115 eb116) ?_
  obtain ⟨w118, hr119, hst⟩ := hst.boxStore (P := Try.prog) (t := 30) (cs' := [.int .u64 t108.1.ID, .int .i64 t108.1.From, .int .i64 t108.1.To, .float .f64 t108.1.Lo, .float .f64 t108.1.Hi, .int .u64 t108.1.Authority, .int .i64 t108.1.Quota]) 0 (.agg #[.int .u64 t108.1.ID, .int .i64 t108.1.From, .int .i64 t108.1.To, .float .f64 t108.1.Lo, .float .f64 t108.1.Hi, .int .u64 t108.1.Authority, .int .i64 t108.1.Quota]) Try.sizeOf30 (Nat.le_of_ble_eq_true rfl) (ones_cons rfl (ones_cons rfl (ones_cons rfl (ones_cons rfl (ones_cons rfl (ones_cons rfl (ones_cons rfl ones_nil))))))) rfl
  refine wl_unit rfl rfl (x_unit hr119) ?_
  refine wl_val (v := .bool t108.2) rfl rfl rfl ?_
  refine wl_nil ?_
  refine then_n ?_
  refine wp_seq ?_
  refine wp_region_lit ?_
  refine wl_val (v := .bool t84.2) rfl rfl rfl ?_
  refine wl_val (v := .bool (!t84.2)) rfl rfl rfl ?_
  refine wl_val (v := .bool (!t84.2)) rfl rfl rfl ?_
  refine bsplit (!t84.2) (fun hc120 => ?_) (fun hc120 => ?_)
  · skip
    replace hm := bif_t hc120 hm
    refine wl_val (v := .bool t96.2) ((wanted_eq rfl rfl rfl (congrArg Value.bool hc120)).trans rfl) rfl rfl ?_
    refine wl_val (v := .bool t96.2) rfl rfl (x_pick_t hc120 rfl rfl) ?_
    refine wl_val (v := .bool t96.2) rfl rfl rfl ?_
    refine bsplit t96.2 (fun hc121 => ?_) (fun hc121 => ?_)
    · skip
      replace hm := bif_t hc121 hm
      refine wl_val (v := .pointer (some ⟨b101, 6, none⟩)) ((wanted_eq rfl rfl rfl (congrArg Value.bool hc121)).trans rfl) rfl (x_field rfl Try.underlying30 rfl Try.sizeOf3 rfl) ?_
      refine wl_val (v := .int .i64 t96.1.Quota) ((wanted_eq rfl rfl rfl (congrArg Value.bool hc121)).trans rfl) rfl (x_load rfl Try.isAgg3 (hst.bc2 rfl)) ?_
      refine wl_val (v := .bool (t96.1.Quota == (1:Int))) ((wanted_eq rfl rfl rfl (congrArg Value.bool hc121)).trans rfl) rfl rfl ?_
      refine wl_val (v := .bool (t96.1.Quota == (1:Int))) rfl rfl (x_pick_t hc121 rfl rfl) ?_
      refine wl_val (v := .bool (t96.1.Quota == (1:Int))) rfl rfl rfl ?_
      refine bsplit (t96.1.Quota == (1:Int)) (fun hc122 => ?_) (fun hc122 => ?_)
      · skip
        replace hm := bif_t hc122 hm
        refine wl_val (v := .bool t108.2) ((wanted_eq rfl rfl rfl (congrArg Value.bool hc122)).trans rfl) rfl rfl ?_
        refine wl_val (v := .bool (!t108.2)) ((wanted_eq rfl rfl rfl (congrArg Value.bool hc122)).trans rfl) rfl rfl ?_
        refine wl_val (v := .bool (!t108.2)) rfl rfl (x_pick_t hc122 rfl rfl) ?_
        refine wl_val (v := .bool (!t108.2)) rfl rfl rfl ?_
        refine wl_nil ?_
        refine then_n ?_
        refine wp_ret ?_
        obtain rfl := some_inj hm
        refine post_ret (vs := [.bool (!t108.2)]) Try.results8 (rvs_cons (rv_tmp rfl) rvs_nil) ?_
        exact ⟨rfl, hst.keep0⟩
      · skip
        replace hm := bif_f hc122 hm
        refine wl_off ((wanted_eq rfl rfl rfl (congrArg Value.bool hc122)).trans rfl) rfl ?_
        refine wl_off ((wanted_eq rfl rfl rfl (congrArg Value.bool hc122)).trans rfl) rfl ?_
        refine wl_val (v := .bool false) rfl rfl (x_pick_f hc122 rfl rfl) ?_
        refine wl_val (v := .bool false) rfl rfl rfl ?_
        refine wl_nil ?_
        refine then_n ?_
        refine wp_ret ?_
        obtain rfl := some_inj hm
        refine post_ret (vs := [.bool false]) Try.results8 (rvs_cons (rv_tmp rfl) rvs_nil) ?_
        exact ⟨rfl, hst.keep0⟩
    · skip
      replace hm := bif_f hc121 hm
      refine wl_off ((wanted_eq rfl rfl rfl (congrArg Value.bool hc121)).trans rfl) rfl ?_
      refine wl_off ((wanted_eq rfl rfl rfl (congrArg Value.bool hc121)).trans rfl) rfl ?_
      refine wl_off ((wanted_eq rfl rfl rfl (congrArg Value.bool hc121)).trans rfl) rfl ?_
      refine wl_val (v := .bool false) rfl rfl (x_pick_f hc121 rfl rfl) ?_
      refine wl_val (v := .bool false) rfl rfl rfl ?_
      refine wl_off ((wanted_eq rfl rfl rfl rfl).trans rfl) rfl ?_
      refine wl_off ((wanted_eq rfl rfl rfl rfl).trans rfl) rfl ?_
      refine wl_val (v := .bool false) rfl rfl (x_pick_f rfl rfl rfl) ?_
      refine wl_val (v := .bool false) rfl rfl rfl ?_
      refine wl_nil ?_
      refine then_n ?_
      refine wp_ret ?_
      obtain rfl := some_inj hm
      refine post_ret (vs := [.bool false]) Try.results8 (rvs_cons (rv_tmp rfl) rvs_nil) ?_
      exact ⟨rfl, hst.keep0⟩
  · skip
    replace hm := bif_f hc120 hm
    refine wl_off ((wanted_eq rfl rfl rfl (congrArg Value.bool hc120)).trans rfl) rfl ?_
    refine wl_val (v := .bool false) rfl rfl (x_pick_f hc120 rfl rfl) ?_
    refine wl_val (v := .bool false) rfl rfl rfl ?_
    refine wl_off ((wanted_eq rfl rfl rfl rfl).trans rfl) rfl ?_
    refine wl_off ((wanted_eq rfl rfl rfl rfl).trans rfl) rfl ?_
    refine wl_off ((wanted_eq rfl rfl rfl rfl).trans rfl) rfl ?_
    refine wl_val (v := .bool false) rfl rfl (x_pick_f rfl rfl rfl) ?_
    refine wl_val (v := .bool false) rfl rfl rfl ?_
    refine wl_off ((wanted_eq rfl rfl rfl rfl).trans rfl) rfl ?_
    refine wl_off ((wanted_eq rfl rfl rfl rfl).trans rfl) rfl ?_
    refine wl_val (v := .bool false) rfl rfl (x_pick_f rfl rfl rfl) ?_
    refine wl_val (v := .bool false) rfl rfl rfl ?_
    refine wl_nil ?_
    refine then_n ?_
    refine wp_ret ?_
    obtain rfl := some_inj hm
    refine post_ret (vs := [.bool false]) Try.results8 (rvs_cons (rv_tmp rfl) rvs_nil) ?_
    exact ⟨rfl, hst.keep0⟩

theorem math_Signbit_ref {w0 w : World} {I : HL} {R : SP} {a0 : Nat}  (hst : St w0 w I [] R) {r : (Bool)} (hm : math_Signbit a0 = some r) :
    Calls Try.prog 39 #[.float .f64 a0] w fun e w' => e = .returned (.bool r) ∧ St w0 w' I [] R := by
  unfold math_Signbit at hm
  refine calls_start (args := [.float .f64 a0]) Try.func39 rfl Try.ntmps39 (Nat.le_of_ble_eq_true rfl) ?_
  refine wp_seq ?_
  refine wp_region_lit ?_
  refine wl_val (v := .bool false) rfl rfl rfl ?_
  refine wl_nil ?_
  refine then_n ?_
  refine wp_seq ?_
  refine wp_region_lit ?_
  refine wl_val (v := .float .f64 a0) rfl rfl rfl ?_
  refine wl_val (v := .int .u64 (Int.ofNat a0)) rfl rfl (by kernel_rfl) ?_
  refine wl_val (v := .int .i64 (IntKind.i64.wrap (Int.ofNat a0))) rfl rfl (by kernel_rfl) ?_
  refine wl_val (v := .bool (decide ((IntKind.i64.wrap (Int.ofNat a0)) < (0:Int)))) rfl rfl rfl ?_
  refine wl_val (v := .bool (decide ((IntKind.i64.wrap (Int.ofNat a0)) < (0:Int)))) rfl rfl rfl ?_
  refine wl_nil ?_
  refine then_n ?_
  refine wp_ret ?_
  obtain rfl := some_inj hm
  refine post_ret (vs := [.bool (decide ((IntKind.i64.wrap (Int.ofNat a0)) < (0:Int)))]) Try.results39 (rvs_cons (rv_tmp rfl) rvs_nil) ?_
  exact ⟨rfl, hst.keep0⟩

theorem ref01_Ahead_ref {w0 w : World} {I : HL} {R : SP} {a0 : Nat} {a1 : Nat}  (hst : St w0 w I [] R) {r : (Bool)} (hm : ref01_Ahead a0 a1 = some r) :
    Calls Try.prog 26 #[.float .f64 a0, .float .f64 a1] w fun e w' => e = .returned (.bool r) ∧ St w0 w' I [] R := by
  unfold ref01_Ahead at hm
  refine calls_start (args := [.float .f64 a0, .float .f64 a1]) Try.func26 rfl Try.ntmps26 (Nat.le_of_ble_eq_true rfl) ?_
  refine wp_seq ?_
  refine wp_region_lit ?_
  refine wl_val (v := .bool false) rfl rfl rfl ?_
  refine wl_nil ?_
  refine then_n ?_
  refine wp_seq ?_
  refine wp_seq ?_
  refine wp_region_lit ?_
  refine wl_val (v := .float .f64 a0) rfl rfl rfl ?_
  refine wl_val (v := .float .f64 a0) rfl rfl rfl ?_
  refine wl_val (v := .bool (fNe a0 a0)) rfl rfl rfl ?_
  refine wl_nil ?_
  refine then_n ?_
  refine bsplit (fNe a0 a0) (fun hc103 => ?_) (fun hc103 => ?_)
  · skip
    replace hm := bif_t hc103 hm
    refine wp_ift (congrArg Value.bool hc103) ?_
    refine wp_seq ?_
    refine wp_region_lit ?_
    refine wl_val (v := .bool false) rfl rfl rfl ?_
    refine wl_nil ?_
    refine then_n ?_
    refine wp_ret ?_
    refine then_r ?_
    obtain rfl := some_inj hm
    refine post_ret (vs := [.bool false]) Try.results26 (rvs_cons (rv_tmp rfl) rvs_nil) ?_
    exact ⟨rfl, hst.keep0⟩
  · skip
    replace hm := bif_f hc103 hm
    refine wp_iff (congrArg Value.bool hc103) ?_
    refine wp_skip ?_
    refine then_n ?_
    refine wp_seq ?_
    refine wp_seq ?_
    refine wp_region_lit ?_
    refine wl_val (v := .float .f64 a1) rfl rfl rfl ?_
    refine wl_val (v := .float .f64 a1) rfl rfl rfl ?_
    refine wl_val (v := .bool (fNe a1 a1)) rfl rfl rfl ?_
    refine wl_nil ?_
    refine then_n ?_
    refine bsplit (fNe a1 a1) (fun hc104 => ?_) (fun hc104 => ?_)
    · skip
      replace hm := bif_t hc104 hm
      refine wp_ift (congrArg Value.bool hc104) ?_
      refine wp_seq ?_
      refine wp_region_lit ?_
      refine wl_val (v := .bool true) rfl rfl rfl ?_
      refine wl_nil ?_
      refine then_n ?_
      refine wp_ret ?_
      refine then_r ?_
      obtain rfl := some_inj hm
      refine post_ret (vs := [.bool true]) Try.results26 (rvs_cons (rv_tmp rfl) rvs_nil) ?_
      exact ⟨rfl, hst.keep0⟩
    · skip
      replace hm := bif_f hc104 hm
      refine wp_iff (congrArg Value.bool hc104) ?_
      refine wp_skip ?_
      refine then_n ?_
      obtain ⟨y120, hm, hx121⟩ := joinO_some hm
      refine wp_cut (fun a w => ∃ (σ118 : Nat → Value), (ref01_Ahead_j0 a0 a1) () = some r ∧ a = Fr 27 (upd (upd σ118 0 (.float .f64 a0)) 1 (.float .f64 a1)) ∧ St w0 w I [] R) ?_ ?_
      · skip
        refine wp_seq ?_
        refine wp_region_lit ?_
        refine wl_val (v := .float .f64 a0) rfl rfl rfl ?_
        refine wl_val (v := .bool (fEq a0 (0:Nat))) rfl rfl rfl ?_
        refine wl_val (v := .bool (fEq a0 (0:Nat))) rfl rfl rfl ?_
        refine bsplit (fEq a0 (0:Nat)) (fun hc105 => ?_) (fun hc105 => ?_)
        · skip
          replace hm := bif_t hc105 hm
          refine wl_val (v := .float .f64 a1) ((wanted_eq rfl rfl rfl (congrArg Value.bool hc105)).trans rfl) rfl rfl ?_
          refine wl_val (v := .bool (fEq a1 (0:Nat))) ((wanted_eq rfl rfl rfl (congrArg Value.bool hc105)).trans rfl) rfl rfl ?_
          refine wl_val (v := .bool (fEq a1 (0:Nat))) rfl rfl (x_pick_t hc105 rfl rfl) ?_
          refine wl_nil ?_
          refine then_n ?_
          refine bsplit (fEq a1 (0:Nat)) (fun hc106 => ?_) (fun hc106 => ?_)
          · skip
            replace hm := bif_t hc106 hm
            refine wp_ift (congrArg Value.bool hc106) ?_
            refine wp_seq ?_
            refine wp_region_lit ?_
            refine wl_val (v := .float .f64 a0) rfl rfl rfl ?_
            obtain ⟨t107, ht108, hm⟩ := bind_some hm
            refine wl_call rfl rfl (x_call Try.call39 rfl (vs := [.float .f64 a0]) rfl) ?_
            refine (math_Signbit_ref hst.to0 ht108).mono ?_
            rintro _ w109 ⟨rfl, hst⟩
            refine ⟨_, rfl, ?_⟩
            replace hst := hst.of0
            refine wl_val (v := .bool t107) rfl rfl rfl ?_
            refine bsplit t107 (fun hc112 => ?_) (fun hc112 => ?_)
            · skip
              replace hm := bif_t hc112 hm
              refine wl_val (v := .float .f64 a1) ((wanted_eq rfl rfl rfl (congrArg Value.bool hc112)).trans rfl) rfl rfl ?_
              obtain ⟨t113, ht114, hm⟩ := bind_some hm
              refine wl_call ((wanted_eq rfl rfl rfl (congrArg Value.bool hc112)).trans rfl) rfl (x_call Try.call39 rfl (vs := [.float .f64 a1]) rfl) ?_
              refine (math_Signbit_ref hst.to0 ht114).mono ?_
              rintro _ w115 ⟨rfl, hst⟩
              refine ⟨_, rfl, ?_⟩
              replace hst := hst.of0
              refine wl_val (v := .bool (!t113)) ((wanted_eq rfl rfl rfl (congrArg Value.bool hc112)).trans rfl) rfl rfl ?_
              refine wl_val (v := .bool (!t113)) rfl rfl (x_pick_t hc112 rfl rfl) ?_
              refine wl_val (v := .bool (!t113)) rfl rfl rfl ?_
              refine wl_nil ?_
              refine then_n ?_
              refine wp_ret ?_
              refine then_r ?_
              replace hm := inr_up hm hx121
              obtain rfl := some_inj hm
              refine post_ret (vs := [.bool (!t113)]) Try.results26 (rvs_cons (rv_tmp rfl) rvs_nil) ?_
              exact ⟨rfl, hst.keep0⟩
            · skip
              replace hm := bif_f hc112 hm
              refine wl_off ((wanted_eq rfl rfl rfl (congrArg Value.bool hc112)).trans rfl) rfl ?_
              refine wl_off ((wanted_eq rfl rfl rfl (congrArg Value.bool hc112)).trans rfl) rfl ?_
              refine wl_off ((wanted_eq rfl rfl rfl (congrArg Value.bool hc112)).trans rfl) rfl ?_
              refine wl_val (v := .bool false) rfl rfl (x_pick_f hc112 rfl rfl) ?_
              refine wl_val (v := .bool false) rfl rfl rfl ?_
              refine wl_nil ?_
              refine then_n ?_
              refine wp_ret ?_
              refine then_r ?_
              replace hm := inr_up hm hx121
              obtain rfl := some_inj hm
              refine post_ret (vs := [.bool false]) Try.results26 (rvs_cons (rv_tmp rfl) rvs_nil) ?_
              exact ⟨rfl, hst.keep0⟩
          · skip
            replace hm := bif_f hc106 hm
            refine wp_iff (congrArg Value.bool hc106) ?_
            refine wp_skip ?_
            refine then_n ?_
            replace hst := hst.keep0
            obtain rfl := some_inj hm
            exact ⟨_, hx121, ((fr_upd (t := 0) (v := .float .f64 a0) rfl).trans ((fr_upd (t := 1) (v := .float .f64 a1) rfl).trans rfl)), hst⟩
        · skip
          replace hm := bif_f hc105 hm
          refine wl_off ((wanted_eq rfl rfl rfl (congrArg Value.bool hc105)).trans rfl) rfl ?_
          refine wl_off ((wanted_eq rfl rfl rfl (congrArg Value.bool hc105)).trans rfl) rfl ?_
          refine wl_val (v := .bool false) rfl rfl (x_pick_f hc105 rfl rfl) ?_
          refine wl_nil ?_
          refine then_n ?_
          refine wp_iff rfl ?_
          refine wp_skip ?_
          refine then_n ?_
          replace hst := hst.keep0
          obtain rfl := some_inj hm
          exact ⟨_, hx121, ((fr_upd (t := 0) (v := .float .f64 a0) rfl).trans ((fr_upd (t := 1) (v := .float .f64 a1) rfl).trans rfl)), hst⟩
      · skip
        clear hst
        rintro _ w122 ⟨σ118, hm, rfl, hst⟩
        dsimp only [ref01_Ahead_j0] at hm
        refine wp_seq ?_
        refine wp_region_lit ?_
        refine wl_val (v := .float .f64 a0) rfl rfl rfl ?_
        refine wl_val (v := .float .f64 a1) rfl rfl rfl ?_
        refine wl_val (v := .bool (fLt a0 a1)) rfl rfl rfl ?_
        refine wl_val (v := .bool (fLt a0 a1)) rfl rfl rfl ?_
        refine wl_nil ?_
        refine then_n ?_
        refine wp_ret ?_
        obtain rfl := some_inj hm
        refine post_ret (vs := [.bool (fLt a0 a1)]) Try.results26 (rvs_cons (rv_tmp rfl) rvs_nil) ?_
        exact ⟨rfl, hst.keep0⟩

theorem ref01_Same_ref {w0 w : World} {I : HL} {R : SP} {a0 : Nat} {a1 : Nat}  (hst : St w0 w I [] R) {r : (Bool)} (hm : ref01_Same a0 a1 = some r) :
    Calls Try.prog 23 #[.float .f64 a0, .float .f64 a1] w fun e w' => e = .returned (.bool r) ∧ St w0 w' I [] R := by
  unfold ref01_Same at hm
  refine calls_start (args := [.float .f64 a0, .float .f64 a1]) Try.func23 rfl Try.ntmps23 (Nat.le_of_ble_eq_true rfl) ?_
  refine wp_seq ?_
  refine wp_region_lit ?_
  refine wl_val (v := .bool false) rfl rfl rfl ?_
  refine wl_nil ?_
  refine then_n ?_
  refine wp_seq ?_
  refine wp_region_lit ?_
  refine wl_val (v := .float .f64 a0) rfl rfl rfl ?_
  refine wl_val (v := .float .f64 a1) rfl rfl rfl ?_
  obtain ⟨t94, ht95, hm⟩ := bind_some hm
  refine wl_call rfl rfl (x_call Try.call26 rfl (vs := [.float .f64 a0, .float .f64 a1]) rfl) ?_
  refine (ref01_Ahead_ref hst.to0 ht95).mono ?_
  rintro _ w96 ⟨rfl, hst⟩
  refine ⟨_, rfl, ?_⟩
  replace hst := hst.of0
  refine wl_val (v := .bool (!t94)) rfl rfl rfl ?_
  refine wl_val (v := .bool (!t94)) rfl rfl rfl ?_
  refine bsplit (!t94) (fun hc99 => ?_) (fun hc99 => ?_)
  · skip
    replace hm := bif_t hc99 hm
    refine wl_val (v := .float .f64 a1) ((wanted_eq rfl rfl rfl (congrArg Value.bool hc99)).trans rfl) rfl rfl ?_
    refine wl_val (v := .float .f64 a0) ((wanted_eq rfl rfl rfl (congrArg Value.bool hc99)).trans rfl) rfl rfl ?_
    obtain ⟨t100, ht101, hm⟩ := bind_some hm
    refine wl_call ((wanted_eq rfl rfl rfl (congrArg Value.bool hc99)).trans rfl) rfl (x_call Try.call26 rfl (vs := [.float .f64 a1, .float .f64 a0]) rfl) ?_
    refine (ref01_Ahead_ref hst.to0 ht101).mono ?_
    rintro _ w102 ⟨rfl, hst⟩
    refine ⟨_, rfl, ?_⟩
    replace hst := hst.of0
    refine wl_val (v := .bool (!t100)) ((wanted_eq rfl rfl rfl (congrArg Value.bool hc99)).trans rfl) rfl rfl ?_
    refine wl_val (v := .bool (!t100)) rfl rfl (x_pick_t hc99 rfl rfl) ?_
    refine wl_val (v := .bool (!t100)) rfl rfl rfl ?_
    refine wl_nil ?_
    refine then_n ?_
    refine wp_ret ?_
    obtain rfl := some_inj hm
    refine post_ret (vs := [.bool (!t100)]) Try.results23 (rvs_cons (rv_tmp rfl) rvs_nil) ?_
    exact ⟨rfl, hst.keep0⟩
  · skip
    replace hm := bif_f hc99 hm
    refine wl_off ((wanted_eq rfl rfl rfl (congrArg Value.bool hc99)).trans rfl) rfl ?_
    refine wl_off ((wanted_eq rfl rfl rfl (congrArg Value.bool hc99)).trans rfl) rfl ?_
    refine wl_off ((wanted_eq rfl rfl rfl (congrArg Value.bool hc99)).trans rfl) rfl ?_
    refine wl_off ((wanted_eq rfl rfl rfl (congrArg Value.bool hc99)).trans rfl) rfl ?_
    refine wl_val (v := .bool false) rfl rfl (x_pick_f hc99 rfl rfl) ?_
    refine wl_val (v := .bool false) rfl rfl rfl ?_
    refine wl_nil ?_
    refine then_n ?_
    refine wp_ret ?_
    obtain rfl := some_inj hm
    refine post_ret (vs := [.bool false]) Try.results23 (rvs_cons (rv_tmp rfl) rvs_nil) ?_
    exact ⟨rfl, hst.keep0⟩

theorem ref11_SameRule_ref {w0 w : World} {I : HL} {R : SP} {a0 : api_Rule} {a1 : api_Rule}  (hst : St w0 w I [] R) {r : (Bool)} (hm : ref11_SameRule a0 a1 = some r) :
    Calls Try.prog 12 #[.agg #[.int .u64 a0.ID, .int .i64 a0.From, .int .i64 a0.To, .float .f64 a0.Lo, .float .f64 a0.Hi, .int .u64 a0.Authority, .int .i64 a0.Quota], .agg #[.int .u64 a1.ID, .int .i64 a1.From, .int .i64 a1.To, .float .f64 a1.Lo, .float .f64 a1.Hi, .int .u64 a1.Authority, .int .i64 a1.Quota]] w fun e w' => e = .returned (.bool r) ∧ St w0 w' I [] R := by
  unfold ref11_SameRule at hm
  refine calls_start (args := [.agg #[.int .u64 a0.ID, .int .i64 a0.From, .int .i64 a0.To, .float .f64 a0.Lo, .float .f64 a0.Hi, .int .u64 a0.Authority, .int .i64 a0.Quota], .agg #[.int .u64 a1.ID, .int .i64 a1.From, .int .i64 a1.To, .float .f64 a1.Lo, .float .f64 a1.Hi, .int .u64 a1.Authority, .int .i64 a1.Quota]]) Try.func12 rfl Try.ntmps12 (Nat.le_of_ble_eq_true rfl) ?_
  refine wp_seq ?_
  refine wp_region_lit ?_
  obtain ⟨b96, w97, ew98, eb99, hst⟩ := hst.box [.int .u64 a0.ID, .int .i64 a0.From, .int .i64 a0.To, .float .f64 a0.Lo, .float .f64 a0.Hi, .int .u64 a0.Authority, .int .i64 a0.Quota] 30
  refine wl_run (v := .pointer (some ⟨b96, 0, none⟩)) (w' := w97) rfl rfl (x_al (by kernel_rfl) ew98 eb99) ?_
  obtain ⟨b101, w102, ew103, eb104, hst⟩ := hst.box [.int .u64 a1.ID, .int .i64 a1.From, .int .i64 a1.To, .float .f64 a1.Lo, .float .f64 a1.Hi, .int .u64 a1.Authority, .int .i64 a1.Quota] 30
  refine wl_run (v := .pointer (some ⟨b101, 0, none⟩)) (w' := w102) rfl rfl (x_al (by kernel_rfl) ew103 eb104) ?_
  refine wl_val (v := .bool false) rfl rfl rfl ?_
  refine wl_nil ?_
  refine then_n ?_
  refine wp_seq ?_
  refine wp_region_lit ?_
  refine wl_val (v := .pointer (some ⟨b96, 0, none⟩)) rfl rfl (x_field rfl Try.underlying30 rfl Try.sizeOf27 rfl) ?_
  refine wl_val (v := .int .u64 a0.ID) rfl rfl (x_load rfl Try.isAgg27 (hst.bc1 rfl)) ?_
  refine wl_val (v := .pointer (some ⟨b101, 0, none⟩)) rfl rfl (x_field rfl Try.underlying30 rfl Try.sizeOf27 rfl) ?_
  refine wl_val (v := .int .u64 a1.ID) rfl rfl (x_load rfl Try.isAgg27 (hst.bc0 rfl)) ?_
  refine wl_val (v := .bool (a0.ID == a1.ID)) rfl rfl rfl ?_
  refine wl_val (v := .bool (a0.ID == a1.ID)) rfl rfl rfl ?_
  refine bsplit (a0.ID == a1.ID) (fun hc106 => ?_) (fun hc106 => ?_)
  · skip
    replace hm := bif_t hc106 hm
    refine wl_val (v := .pointer (some ⟨b96, 1, none⟩)) ((wanted_eq rfl rfl rfl (congrArg Value.bool hc106)).trans rfl) rfl (x_field rfl Try.underlying30 rfl Try.sizeOf3 rfl) ?_
    refine wl_val (v := .int .i64 a0.From) ((wanted_eq rfl rfl rfl (congrArg Value.bool hc106)).trans rfl) rfl (x_load rfl Try.isAgg3 (hst.bc1 rfl)) ?_
    refine wl_val (v := .pointer (some ⟨b101, 1, none⟩)) ((wanted_eq rfl rfl rfl (congrArg Value.bool hc106)).trans rfl) rfl (x_field rfl Try.underlying30 rfl Try.sizeOf3 rfl) ?_
    refine wl_val (v := .int .i64 a1.From) ((wanted_eq rfl rfl rfl (congrArg Value.bool hc106)).trans rfl) rfl (x_load rfl Try.isAgg3 (hst.bc0 rfl)) ?_
    refine wl_val (v := .bool (a0.From == a1.From)) ((wanted_eq rfl rfl rfl (congrArg Value.bool hc106)).trans rfl) rfl rfl ?_
    refine wl_val (v := .bool (a0.From == a1.From)) rfl rfl (x_pick_t hc106 rfl rfl) ?_
    refine wl_val (v := .bool (a0.From == a1.From)) rfl rfl rfl ?_
    refine bsplit (a0.From == a1.From) (fun hc107 => ?_) (fun hc107 => ?_)
    · skip
      replace hm := bif_t hc107 hm
      refine wl_val (v := .pointer (some ⟨b96, 2, none⟩)) ((wanted_eq rfl rfl rfl (congrArg Value.bool hc107)).trans rfl) rfl (x_field rfl Try.underlying30 rfl Try.sizeOf3 rfl) ?_
      refine wl_val (v := .int .i64 a0.To) ((wanted_eq rfl rfl rfl (congrArg Value.bool hc107)).trans rfl) rfl (x_load rfl Try.isAgg3 (hst.bc1 rfl)) ?_
      refine wl_val (v := .pointer (some ⟨b101, 2, none⟩)) ((wanted_eq rfl rfl rfl (congrArg Value.bool hc107)).trans rfl) rfl (x_field rfl Try.underlying30 rfl Try.sizeOf3 rfl) ?_
      refine wl_val (v := .int .i64 a1.To) ((wanted_eq rfl rfl rfl (congrArg Value.bool hc107)).trans rfl) rfl (x_load rfl Try.isAgg3 (hst.bc0 rfl)) ?_
      refine wl_val (v := .bool (a0.To == a1.To)) ((wanted_eq rfl rfl rfl (congrArg Value.bool hc107)).trans rfl) rfl rfl ?_
      refine wl_val (v := .bool (a0.To == a1.To)) rfl rfl (x_pick_t hc107 rfl rfl) ?_
      refine wl_val (v := .bool (a0.To == a1.To)) rfl rfl rfl ?_
      refine bsplit (a0.To == a1.To) (fun hc108 => ?_) (fun hc108 => ?_)
      · skip
        replace hm := bif_t hc108 hm
        refine wl_val (v := .pointer (some ⟨b96, 3, none⟩)) ((wanted_eq rfl rfl rfl (congrArg Value.bool hc108)).trans rfl) rfl (x_field rfl Try.underlying30 rfl Try.sizeOf28 rfl) ?_
        refine wl_val (v := .float .f64 a0.Lo) ((wanted_eq rfl rfl rfl (congrArg Value.bool hc108)).trans rfl) rfl (x_load rfl Try.isAgg28 (hst.bc1 rfl)) ?_
        refine wl_val (v := .pointer (some ⟨b101, 3, none⟩)) ((wanted_eq rfl rfl rfl (congrArg Value.bool hc108)).trans rfl) rfl (x_field rfl Try.underlying30 rfl Try.sizeOf28 rfl) ?_
        refine wl_val (v := .float .f64 a1.Lo) ((wanted_eq rfl rfl rfl (congrArg Value.bool hc108)).trans rfl) rfl (x_load rfl Try.isAgg28 (hst.bc0 rfl)) ?_
        obtain ⟨t109, ht110, hm⟩ := bind_some hm
        refine wl_call ((wanted_eq rfl rfl rfl (congrArg Value.bool hc108)).trans rfl) rfl (x_call Try.call23 rfl (vs := [.float .f64 a0.Lo, .float .f64 a1.Lo]) rfl) ?_
        refine (ref01_Same_ref hst.to0 ht110).mono ?_
        rintro _ w111 ⟨rfl, hst⟩
        refine ⟨_, rfl, ?_⟩
        replace hst := hst.of0
        refine wl_val (v := .bool t109) rfl rfl (x_pick_t hc108 rfl rfl) ?_
        refine wl_val (v := .bool t109) rfl rfl rfl ?_
        refine bsplit t109 (fun hc114 => ?_) (fun hc114 => ?_)
        · skip
          replace hm := bif_t hc114 hm
          refine wl_val (v := .pointer (some ⟨b96, 4, none⟩)) ((wanted_eq rfl rfl rfl (congrArg Value.bool hc114)).trans rfl) rfl (x_field rfl Try.underlying30 rfl Try.sizeOf28 rfl) ?_
          refine wl_val (v := .float .f64 a0.Hi) ((wanted_eq rfl rfl rfl (congrArg Value.bool hc114)).trans rfl) rfl (x_load rfl Try.isAgg28 (hst.bc1 rfl)) ?_
          refine wl_val (v := .pointer (some ⟨b101, 4, none⟩)) ((wanted_eq rfl rfl rfl (congrArg Value.bool hc114)).trans rfl) rfl (x_field rfl Try.underlying30 rfl Try.sizeOf28 rfl) ?_
          refine wl_val (v := .float .f64 a1.Hi) ((wanted_eq rfl rfl rfl (congrArg Value.bool hc114)).trans rfl) rfl (x_load rfl Try.isAgg28 (hst.bc0 rfl)) ?_
          obtain ⟨t115, ht116, hm⟩ := bind_some hm
          refine wl_call ((wanted_eq rfl rfl rfl (congrArg Value.bool hc114)).trans rfl) rfl (x_call Try.call23 rfl (vs := [.float .f64 a0.Hi, .float .f64 a1.Hi]) rfl) ?_
          refine (ref01_Same_ref hst.to0 ht116).mono ?_
          rintro _ w117 ⟨rfl, hst⟩
          refine ⟨_, rfl, ?_⟩
          replace hst := hst.of0
          refine wl_val (v := .bool t115) rfl rfl (x_pick_t hc114 rfl rfl) ?_
          refine wl_val (v := .bool t115) rfl rfl rfl ?_
          refine bsplit t115 (fun hc120 => ?_) (fun hc120 => ?_)
          · skip
            replace hm := bif_t hc120 hm
            refine wl_val (v := .pointer (some ⟨b96, 5, none⟩)) ((wanted_eq rfl rfl rfl (congrArg Value.bool hc120)).trans rfl) rfl (x_field rfl Try.underlying30 rfl Try.sizeOf27 rfl) ?_
            refine wl_val (v := .int .u64 a0.Authority) ((wanted_eq rfl rfl rfl (congrArg Value.bool hc120)).trans rfl) rfl (x_load rfl Try.isAgg27 (hst.bc1 rfl)) ?_
            refine wl_val (v := .pointer (some ⟨b101, 5, none⟩)) ((wanted_eq rfl rfl rfl (congrArg Value.bool hc120)).trans rfl) rfl (x_field rfl Try.underlying30 rfl Try.sizeOf27 rfl) ?_
            refine wl_val (v := .int .u64 a1.Authority) ((wanted_eq rfl rfl rfl (congrArg Value.bool hc120)).trans rfl) rfl (x_load rfl Try.isAgg27 (hst.bc0 rfl)) ?_
            refine wl_val (v := .bool (a0.Authority == a1.Authority)) ((wanted_eq rfl rfl rfl (congrArg Value.bool hc120)).trans rfl) rfl rfl ?_
            refine wl_val (v := .bool (a0.Authority == a1.Authority)) rfl rfl (x_pick_t hc120 rfl rfl) ?_
            refine wl_val (v := .bool (a0.Authority == a1.Authority)) rfl rfl rfl ?_
            refine bsplit (a0.Authority == a1.Authority) (fun hc121 => ?_) (fun hc121 => ?_)
            · skip
              replace hm := bif_t hc121 hm
              refine wl_val (v := .pointer (some ⟨b96, 6, none⟩)) ((wanted_eq rfl rfl rfl (congrArg Value.bool hc121)).trans rfl) rfl (x_field rfl Try.underlying30 rfl Try.sizeOf3 rfl) ?_
              refine wl_val (v := .int .i64 a0.Quota) ((wanted_eq rfl rfl rfl (congrArg Value.bool hc121)).trans rfl) rfl (x_load rfl Try.isAgg3 (hst.bc1 rfl)) ?_
              refine wl_val (v := .pointer (some ⟨b101, 6, none⟩)) ((wanted_eq rfl rfl rfl (congrArg Value.bool hc121)).trans rfl) rfl (x_field rfl Try.underlying30 rfl Try.sizeOf3 rfl) ?_
              refine wl_val (v := .int .i64 a1.Quota) ((wanted_eq rfl rfl rfl (congrArg Value.bool hc121)).trans rfl) rfl (x_load rfl Try.isAgg3 (hst.bc0 rfl)) ?_
              refine wl_val (v := .bool (a0.Quota == a1.Quota)) ((wanted_eq rfl rfl rfl (congrArg Value.bool hc121)).trans rfl) rfl rfl ?_
              refine wl_val (v := .bool (a0.Quota == a1.Quota)) rfl rfl (x_pick_t hc121 rfl rfl) ?_
              refine wl_val (v := .bool (a0.Quota == a1.Quota)) rfl rfl rfl ?_
              refine wl_nil ?_
              refine then_n ?_
              refine wp_ret ?_
              obtain rfl := some_inj hm
              refine post_ret (vs := [.bool (a0.Quota == a1.Quota)]) Try.results12 (rvs_cons (rv_tmp rfl) rvs_nil) ?_
              exact ⟨rfl, hst.keep0⟩
            · skip
              replace hm := bif_f hc121 hm
              refine wl_off ((wanted_eq rfl rfl rfl (congrArg Value.bool hc121)).trans rfl) rfl ?_
              refine wl_off ((wanted_eq rfl rfl rfl (congrArg Value.bool hc121)).trans rfl) rfl ?_
              refine wl_off ((wanted_eq rfl rfl rfl (congrArg Value.bool hc121)).trans rfl) rfl ?_
              refine wl_off ((wanted_eq rfl rfl rfl (congrArg Value.bool hc121)).trans rfl) rfl ?_
              refine wl_off ((wanted_eq rfl rfl rfl (congrArg Value.bool hc121)).trans rfl) rfl ?_
              refine wl_val (v := .bool false) rfl rfl (x_pick_f hc121 rfl rfl) ?_
              refine wl_val (v := .bool false) rfl rfl rfl ?_
              refine wl_nil ?_
              refine then_n ?_
              refine wp_ret ?_
              obtain rfl := some_inj hm
              refine post_ret (vs := [.bool false]) Try.results12 (rvs_cons (rv_tmp rfl) rvs_nil) ?_
              exact ⟨rfl, hst.keep0⟩
          · skip
            replace hm := bif_f hc120 hm
            refine wl_off ((wanted_eq rfl rfl rfl (congrArg Value.bool hc120)).trans rfl) rfl ?_
            refine wl_off ((wanted_eq rfl rfl rfl (congrArg Value.bool hc120)).trans rfl) rfl ?_
            refine wl_off ((wanted_eq rfl rfl rfl (congrArg Value.bool hc120)).trans rfl) rfl ?_
            refine wl_off ((wanted_eq rfl rfl rfl (congrArg Value.bool hc120)).trans rfl) rfl ?_
            refine wl_off ((wanted_eq rfl rfl rfl (congrArg Value.bool hc120)).trans rfl) rfl ?_
            refine wl_val (v := .bool false) rfl rfl (x_pick_f hc120 rfl rfl) ?_
            refine wl_val (v := .bool false) rfl rfl rfl ?_
            refine wl_off ((wanted_eq rfl rfl rfl rfl).trans rfl) rfl ?_
            refine wl_off ((wanted_eq rfl rfl rfl rfl).trans rfl) rfl ?_
            refine wl_off ((wanted_eq rfl rfl rfl rfl).trans rfl) rfl ?_
            refine wl_off ((wanted_eq rfl rfl rfl rfl).trans rfl) rfl ?_
            refine wl_off ((wanted_eq rfl rfl rfl rfl).trans rfl) rfl ?_
            refine wl_val (v := .bool false) rfl rfl (x_pick_f rfl rfl rfl) ?_
            refine wl_val (v := .bool false) rfl rfl rfl ?_
            refine wl_nil ?_
            refine then_n ?_
            refine wp_ret ?_
            obtain rfl := some_inj hm
            refine post_ret (vs := [.bool false]) Try.results12 (rvs_cons (rv_tmp rfl) rvs_nil) ?_
            exact ⟨rfl, hst.keep0⟩
        · skip
          replace hm := bif_f hc114 hm
          refine wl_off ((wanted_eq rfl rfl rfl (congrArg Value.bool hc114)).trans rfl) rfl ?_
          refine wl_off ((wanted_eq rfl rfl rfl (congrArg Value.bool hc114)).trans rfl) rfl ?_
          refine wl_off ((wanted_eq rfl rfl rfl (congrArg Value.bool hc114)).trans rfl) rfl ?_
          refine wl_off ((wanted_eq rfl rfl rfl (congrArg Value.bool hc114)).trans rfl) rfl ?_
          refine wl_off ((wanted_eq rfl rfl rfl (congrArg Value.bool hc114)).trans rfl) rfl ?_
          refine wl_val (v := .bool false) rfl rfl (x_pick_f hc114 rfl rfl) ?_
          refine wl_val (v := .bool false) rfl rfl rfl ?_
          refine wl_off ((wanted_eq rfl rfl rfl rfl).trans rfl) rfl ?_
          refine wl_off ((wanted_eq rfl rfl rfl rfl).trans rfl) rfl ?_
          refine wl_off ((wanted_eq rfl rfl rfl rfl).trans rfl) rfl ?_
          refine wl_off ((wanted_eq rfl rfl rfl rfl).trans rfl) rfl ?_
          refine wl_off ((wanted_eq rfl rfl rfl rfl).trans rfl) rfl ?_
          refine wl_val (v := .bool false) rfl rfl (x_pick_f rfl rfl rfl) ?_
          refine wl_val (v := .bool false) rfl rfl rfl ?_
          refine wl_off ((wanted_eq rfl rfl rfl rfl).trans rfl) rfl ?_
          refine wl_off ((wanted_eq rfl rfl rfl rfl).trans rfl) rfl ?_
          refine wl_off ((wanted_eq rfl rfl rfl rfl).trans rfl) rfl ?_
          refine wl_off ((wanted_eq rfl rfl rfl rfl).trans rfl) rfl ?_
          refine wl_off ((wanted_eq rfl rfl rfl rfl).trans rfl) rfl ?_
          refine wl_val (v := .bool false) rfl rfl (x_pick_f rfl rfl rfl) ?_
          refine wl_val (v := .bool false) rfl rfl rfl ?_
          refine wl_nil ?_
          refine then_n ?_
          refine wp_ret ?_
          obtain rfl := some_inj hm
          refine post_ret (vs := [.bool false]) Try.results12 (rvs_cons (rv_tmp rfl) rvs_nil) ?_
          exact ⟨rfl, hst.keep0⟩
      · skip
        replace hm := bif_f hc108 hm
        refine wl_off ((wanted_eq rfl rfl rfl (congrArg Value.bool hc108)).trans rfl) rfl ?_
        refine wl_off ((wanted_eq rfl rfl rfl (congrArg Value.bool hc108)).trans rfl) rfl ?_
        refine wl_off ((wanted_eq rfl rfl rfl (congrArg Value.bool hc108)).trans rfl) rfl ?_
        refine wl_off ((wanted_eq rfl rfl rfl (congrArg Value.bool hc108)).trans rfl) rfl ?_
        refine wl_off ((wanted_eq rfl rfl rfl (congrArg Value.bool hc108)).trans rfl) rfl ?_
        refine wl_val (v := .bool false) rfl rfl (x_pick_f hc108 rfl rfl) ?_
        refine wl_val (v := .bool false) rfl rfl rfl ?_
        refine wl_off ((wanted_eq rfl rfl rfl rfl).trans rfl) rfl ?_
        refine wl_off ((wanted_eq rfl rfl rfl rfl).trans rfl) rfl ?_
        refine wl_off ((wanted_eq rfl rfl rfl rfl).trans rfl) rfl ?_
        refine wl_off ((wanted_eq rfl rfl rfl rfl).trans rfl) rfl ?_
        refine wl_off ((wanted_eq rfl rfl rfl rfl).trans rfl) rfl ?_
        refine wl_val (v := .bool false) rfl rfl (x_pick_f rfl rfl rfl) ?_
        refine wl_val (v := .bool false) rfl rfl rfl ?_
        refine wl_off ((wanted_eq rfl rfl rfl rfl).trans rfl) rfl ?_
        refine wl_off ((wanted_eq rfl rfl rfl rfl).trans rfl) rfl ?_
        refine wl_off ((wanted_eq rfl rfl rfl rfl).trans rfl) rfl ?_
        refine wl_off ((wanted_eq rfl rfl rfl rfl).trans rfl) rfl ?_
        refine wl_off ((wanted_eq rfl rfl rfl rfl).trans rfl) rfl ?_
        refine wl_val (v := .bool false) rfl rfl (x_pick_f rfl rfl rfl) ?_
        refine wl_val (v := .bool false) rfl rfl rfl ?_
        refine wl_off ((wanted_eq rfl rfl rfl rfl).trans rfl) rfl ?_
        refine wl_off ((wanted_eq rfl rfl rfl rfl).trans rfl) rfl ?_
        refine wl_off ((wanted_eq rfl rfl rfl rfl).trans rfl) rfl ?_
        refine wl_off ((wanted_eq rfl rfl rfl rfl).trans rfl) rfl ?_
        refine wl_off ((wanted_eq rfl rfl rfl rfl).trans rfl) rfl ?_
        refine wl_val (v := .bool false) rfl rfl (x_pick_f rfl rfl rfl) ?_
        refine wl_val (v := .bool false) rfl rfl rfl ?_
        refine wl_nil ?_
        refine then_n ?_
        refine wp_ret ?_
        obtain rfl := some_inj hm
        refine post_ret (vs := [.bool false]) Try.results12 (rvs_cons (rv_tmp rfl) rvs_nil) ?_
        exact ⟨rfl, hst.keep0⟩
    · skip
      replace hm := bif_f hc107 hm
      refine wl_off ((wanted_eq rfl rfl rfl (congrArg Value.bool hc107)).trans rfl) rfl ?_
      refine wl_off ((wanted_eq rfl rfl rfl (congrArg Value.bool hc107)).trans rfl) rfl ?_
      refine wl_off ((wanted_eq rfl rfl rfl (congrArg Value.bool hc107)).trans rfl) rfl ?_
      refine wl_off ((wanted_eq rfl rfl rfl (congrArg Value.bool hc107)).trans rfl) rfl ?_
      refine wl_off ((wanted_eq rfl rfl rfl (congrArg Value.bool hc107)).trans rfl) rfl ?_
      refine wl_val (v := .bool false) rfl rfl (x_pick_f hc107 rfl rfl) ?_
      refine wl_val (v := .bool false) rfl rfl rfl ?_
      refine wl_off ((wanted_eq rfl rfl rfl rfl).trans rfl) rfl ?_
      refine wl_off ((wanted_eq rfl rfl rfl rfl).trans rfl) rfl ?_
      refine wl_off ((wanted_eq rfl rfl rfl rfl).trans rfl) rfl ?_
      refine wl_off ((wanted_eq rfl rfl rfl rfl).trans rfl) rfl ?_
      refine wl_off ((wanted_eq rfl rfl rfl rfl).trans rfl) rfl ?_
      refine wl_val (v := .bool false) rfl rfl (x_pick_f rfl rfl rfl) ?_
      refine wl_val (v := .bool false) rfl rfl rfl ?_
      refine wl_off ((wanted_eq rfl rfl rfl rfl).trans rfl) rfl ?_
      refine wl_off ((wanted_eq rfl rfl rfl rfl).trans rfl) rfl ?_
      refine wl_off ((wanted_eq rfl rfl rfl rfl).trans rfl) rfl ?_
      refine wl_off ((wanted_eq rfl rfl rfl rfl).trans rfl) rfl ?_
      refine wl_off ((wanted_eq rfl rfl rfl rfl).trans rfl) rfl ?_
      refine wl_val (v := .bool false) rfl rfl (x_pick_f rfl rfl rfl) ?_
      refine wl_val (v := .bool false) rfl rfl rfl ?_
      refine wl_off ((wanted_eq rfl rfl rfl rfl).trans rfl) rfl ?_
      refine wl_off ((wanted_eq rfl rfl rfl rfl).trans rfl) rfl ?_
      refine wl_off ((wanted_eq rfl rfl rfl rfl).trans rfl) rfl ?_
      refine wl_off ((wanted_eq rfl rfl rfl rfl).trans rfl) rfl ?_
      refine wl_off ((wanted_eq rfl rfl rfl rfl).trans rfl) rfl ?_
      refine wl_val (v := .bool false) rfl rfl (x_pick_f rfl rfl rfl) ?_
      refine wl_val (v := .bool false) rfl rfl rfl ?_
      refine wl_off ((wanted_eq rfl rfl rfl rfl).trans rfl) rfl ?_
      refine wl_off ((wanted_eq rfl rfl rfl rfl).trans rfl) rfl ?_
      refine wl_off ((wanted_eq rfl rfl rfl rfl).trans rfl) rfl ?_
      refine wl_off ((wanted_eq rfl rfl rfl rfl).trans rfl) rfl ?_
      refine wl_off ((wanted_eq rfl rfl rfl rfl).trans rfl) rfl ?_
      refine wl_val (v := .bool false) rfl rfl (x_pick_f rfl rfl rfl) ?_
      refine wl_val (v := .bool false) rfl rfl rfl ?_
      refine wl_nil ?_
      refine then_n ?_
      refine wp_ret ?_
      obtain rfl := some_inj hm
      refine post_ret (vs := [.bool false]) Try.results12 (rvs_cons (rv_tmp rfl) rvs_nil) ?_
      exact ⟨rfl, hst.keep0⟩
  · skip
    replace hm := bif_f hc106 hm
    refine wl_off ((wanted_eq rfl rfl rfl (congrArg Value.bool hc106)).trans rfl) rfl ?_
    refine wl_off ((wanted_eq rfl rfl rfl (congrArg Value.bool hc106)).trans rfl) rfl ?_
    refine wl_off ((wanted_eq rfl rfl rfl (congrArg Value.bool hc106)).trans rfl) rfl ?_
    refine wl_off ((wanted_eq rfl rfl rfl (congrArg Value.bool hc106)).trans rfl) rfl ?_
    refine wl_off ((wanted_eq rfl rfl rfl (congrArg Value.bool hc106)).trans rfl) rfl ?_
    refine wl_val (v := .bool false) rfl rfl (x_pick_f hc106 rfl rfl) ?_
    refine wl_val (v := .bool false) rfl rfl rfl ?_
    refine wl_off ((wanted_eq rfl rfl rfl rfl).trans rfl) rfl ?_
    refine wl_off ((wanted_eq rfl rfl rfl rfl).trans rfl) rfl ?_
    refine wl_off ((wanted_eq rfl rfl rfl rfl).trans rfl) rfl ?_
    refine wl_off ((wanted_eq rfl rfl rfl rfl).trans rfl) rfl ?_
    refine wl_off ((wanted_eq rfl rfl rfl rfl).trans rfl) rfl ?_
    refine wl_val (v := .bool false) rfl rfl (x_pick_f rfl rfl rfl) ?_
    refine wl_val (v := .bool false) rfl rfl rfl ?_
    refine wl_off ((wanted_eq rfl rfl rfl rfl).trans rfl) rfl ?_
    refine wl_off ((wanted_eq rfl rfl rfl rfl).trans rfl) rfl ?_
    refine wl_off ((wanted_eq rfl rfl rfl rfl).trans rfl) rfl ?_
    refine wl_off ((wanted_eq rfl rfl rfl rfl).trans rfl) rfl ?_
    refine wl_off ((wanted_eq rfl rfl rfl rfl).trans rfl) rfl ?_
    refine wl_val (v := .bool false) rfl rfl (x_pick_f rfl rfl rfl) ?_
    refine wl_val (v := .bool false) rfl rfl rfl ?_
    refine wl_off ((wanted_eq rfl rfl rfl rfl).trans rfl) rfl ?_
    refine wl_off ((wanted_eq rfl rfl rfl rfl).trans rfl) rfl ?_
    refine wl_off ((wanted_eq rfl rfl rfl rfl).trans rfl) rfl ?_
    refine wl_off ((wanted_eq rfl rfl rfl rfl).trans rfl) rfl ?_
    refine wl_off ((wanted_eq rfl rfl rfl rfl).trans rfl) rfl ?_
    refine wl_val (v := .bool false) rfl rfl (x_pick_f rfl rfl rfl) ?_
    refine wl_val (v := .bool false) rfl rfl rfl ?_
    refine wl_off ((wanted_eq rfl rfl rfl rfl).trans rfl) rfl ?_
    refine wl_off ((wanted_eq rfl rfl rfl rfl).trans rfl) rfl ?_
    refine wl_off ((wanted_eq rfl rfl rfl rfl).trans rfl) rfl ?_
    refine wl_off ((wanted_eq rfl rfl rfl rfl).trans rfl) rfl ?_
    refine wl_off ((wanted_eq rfl rfl rfl rfl).trans rfl) rfl ?_
    refine wl_val (v := .bool false) rfl rfl (x_pick_f rfl rfl rfl) ?_
    refine wl_val (v := .bool false) rfl rfl rfl ?_
    refine wl_off ((wanted_eq rfl rfl rfl rfl).trans rfl) rfl ?_
    refine wl_off ((wanted_eq rfl rfl rfl rfl).trans rfl) rfl ?_
    refine wl_off ((wanted_eq rfl rfl rfl rfl).trans rfl) rfl ?_
    refine wl_off ((wanted_eq rfl rfl rfl rfl).trans rfl) rfl ?_
    refine wl_off ((wanted_eq rfl rfl rfl rfl).trans rfl) rfl ?_
    refine wl_val (v := .bool false) rfl rfl (x_pick_f rfl rfl rfl) ?_
    refine wl_val (v := .bool false) rfl rfl rfl ?_
    refine wl_nil ?_
    refine then_n ?_
    refine wp_ret ?_
    obtain rfl := some_inj hm
    refine post_ret (vs := [.bool false]) Try.results12 (rvs_cons (rv_tmp rfl) rvs_nil) ?_
    exact ⟨rfl, hst.keep0⟩

theorem law15_PolicyOne_ref {w0 w : World} {I : HL} {R : SP} {a0 : (List api_Rule)} {r0_0 : Value} {a1 : (List Int)} {r1_0 : Value} (f0_0 : Rd ty_api_Rule R I r0_0 a0) (f1_0 : Rd (tyInt .u8) R I r1_0 a1) (hst : St w0 w I [] R) {r : (Bool)} (hm : law15_PolicyOne a0 a1 = some r) :
    Calls Try.prog 3 #[r0_0, r1_0] w fun e w' => e = .returned (.bool r) ∧ St w0 w' I [] R := by
  unfold law15_PolicyOne at hm
  refine calls_start (args := [r0_0, r1_0]) Try.func3 rfl Try.ntmps3 (Nat.le_of_ble_eq_true rfl) ?_
  refine wp_seq ?_
  refine wp_region_lit ?_
  refine wl_val (v := .bool false) rfl rfl rfl ?_
  refine wl_nil ?_
  refine then_n ?_
  refine wp_seq ?_
  refine wp_seq ?_
  refine wp_region_lit ?_
  obtain ⟨t193, ht194, hm⟩ := bind_some hm
  refine wl_call rfl rfl (x_call Try.call8 rfl (vs := []) rfl) ?_
  refine (law15_awake_ref hst.to0 ht194).mono ?_
  rintro _ w195 ⟨rfl, hst⟩
  refine ⟨_, rfl, ?_⟩
  replace hst := hst.of0
  refine wl_val (v := .bool (!t193)) rfl rfl rfl ?_
  refine wl_val (v := .bool (!t193)) rfl rfl rfl ?_
  refine bsplit (!t193) (fun hc198 => ?_) (fun hc198 => ?_)
  · skip
    replace hm := bif_t hc198 hm
    refine wl_off ((wanted_eq rfl rfl rfl (congrArg Value.bool hc198)).trans rfl) rfl ?_
    refine wl_off ((wanted_eq rfl rfl rfl (congrArg Value.bool hc198)).trans rfl) rfl ?_
    refine wl_off ((wanted_eq rfl rfl rfl (congrArg Value.bool hc198)).trans rfl) rfl ?_
    refine wl_val (v := .bool true) rfl rfl (x_pick_t hc198 rfl rfl) ?_
    refine wl_nil ?_
    refine then_n ?_
    refine wp_ift rfl ?_
    refine wp_seq ?_
    refine wp_region_lit ?_
    obtain ⟨t199, ht200, hm⟩ := bind_some hm
    refine wl_call rfl rfl (x_call Try.call8 rfl (vs := []) rfl) ?_
    refine (law15_awake_ref hst.to0 ht200).mono ?_
    rintro _ w201 ⟨rfl, hst⟩
    refine ⟨_, rfl, ?_⟩
    replace hst := hst.of0
    refine wl_val (v := .bool t199) rfl rfl rfl ?_
    refine wl_nil ?_
    refine then_n ?_
    refine wp_ret ?_
    refine then_r ?_
    obtain rfl := some_inj hm
    refine post_ret (vs := [.bool t199]) Try.results3 (rvs_cons (rv_tmp rfl) rvs_nil) ?_
    exact ⟨rfl, hst.keep0⟩
  · skip
    replace hm := bif_f hc198 hm
    refine wl_val (v := r0_0) ((wanted_eq rfl rfl rfl (congrArg Value.bool hc198)).trans rfl) rfl rfl ?_
    refine wl_val (v := .int .i64 ((a0).length : Int)) ((wanted_eq rfl rfl rfl (congrArg Value.bool hc198)).trans rfl) rfl (x_len rfl Try.underlying22 (rd_sliceV f0_0)) ?_
    refine wl_val (v := .bool (decide (((a0).length : Int) > (12:Int)))) ((wanted_eq rfl rfl rfl (congrArg Value.bool hc198)).trans rfl) rfl rfl ?_
    refine wl_val (v := .bool (decide (((a0).length : Int) > (12:Int)))) rfl rfl (x_pick_f hc198 rfl rfl) ?_
    refine wl_nil ?_
    refine then_n ?_
    refine bsplit (decide (((a0).length : Int) > (12:Int))) (fun hc204 => ?_) (fun hc204 => ?_)
    · skip
      replace hm := bif_t hc204 hm
      refine wp_ift (congrArg Value.bool hc204) ?_
      refine wp_seq ?_
      refine wp_region_lit ?_
      obtain ⟨t205, ht206, hm⟩ := bind_some hm
      refine wl_call rfl rfl (x_call Try.call8 rfl (vs := []) rfl) ?_
      refine (law15_awake_ref hst.to0 ht206).mono ?_
      rintro _ w207 ⟨rfl, hst⟩
      refine ⟨_, rfl, ?_⟩
      replace hst := hst.of0
      refine wl_val (v := .bool t205) rfl rfl rfl ?_
      refine wl_nil ?_
      refine then_n ?_
      refine wp_ret ?_
      refine then_r ?_
      obtain rfl := some_inj hm
      refine post_ret (vs := [.bool t205]) Try.results3 (rvs_cons (rv_tmp rfl) rvs_nil) ?_
      exact ⟨rfl, hst.keep0⟩
    · skip
      replace hm := bif_f hc204 hm
      refine wp_iff (congrArg Value.bool hc204) ?_
      refine wp_skip ?_
      refine then_n ?_
      refine wp_seq ?_
      refine wp_region_lit ?_
      obtain ⟨t210, ht211, hm⟩ := bind_some hm
      refine wl_call rfl rfl (x_call Try.call9 rfl (vs := []) rfl) ?_
      refine (policy_New_ref hst.to0 ht211).mono ?_
      rintro _ w212 ⟨v215, rfl, hst⟩
      refine ⟨_, rfl, ?_⟩
      replace hst := hst.of1
      refine wl_val (v := v215) rfl rfl rfl ?_
      refine wl_nil ?_
      refine then_n ?_
      refine wp_seq ?_
      refine wp_region_lit ?_
      refine wl_val (v := .int .u64 (1:Int)) rfl rfl rfl ?_
      refine wl_nil ?_
      refine then_n ?_
      refine wp_seq ?_
      refine wp_seq ?_
      refine wp_region_lit ?_
      refine wl_val (v := .int .i64 (0:Int)) rfl rfl rfl ?_
      refine wl_nil ?_
      refine then_n ?_
      refine wp_block ?_
      obtain ⟨n324, hm⟩ := loopO_some hm
      refine wp_loop_n (fun n a w => ∃ (z320 : policy_Book) (z321 : Int) (z322 : Int) (σ323 : Nat → Value), loopN (law15_PolicyOne_l0 a0 a1) n (z320, z321, z322) = some r ∧ a = Fr 112 (upd (upd (upd (upd (upd σ323 0 (r0_0)) 1 (r1_0)) 5 (v215)) 6 (.int .u64 z321)) 7 (.int .i64 z322)) ∧ St w0 w I [at_policy_Book v215 z320] R) n324 ⟨t210, (1:Int), (0:Int), _, hm, ((fr_upd (t := 0) (v := r0_0) rfl).trans ((fr_upd (t := 1) (v := r1_0) rfl).trans ((fr_upd (t := 5) (v := v215) rfl).trans ((fr_upd (t := 6) (v := .int .u64 (1:Int)) rfl).trans ((fr_upd (t := 7) (v := .int .i64 (0:Int)) rfl).trans rfl))))), hst⟩ ?_
      rintro n330 _ w325 ⟨z320, z321, z322, σ323, hm, rfl, hst⟩
      obtain ⟨n327, y328, rfl, hm, hx329⟩ := loopN_some hm
      dsimp only [law15_PolicyOne_l0] at hm
      refine wp_seq ?_
      refine wp_seq ?_
      refine wp_region_lit ?_
      refine wl_val (v := .int .i64 z322) rfl rfl rfl ?_
      refine wl_val (v := r0_0) rfl rfl rfl ?_
      refine wl_val (v := .int .i64 ((a0).length : Int)) rfl rfl (x_len rfl Try.underlying22 (rd_sliceV f0_0)) ?_
      refine wl_val (v := .bool (decide (z322 < ((a0).length : Int)))) rfl rfl rfl ?_
      refine wl_nil ?_
      refine then_n ?_
      refine bsplit (decide (z322 < ((a0).length : Int))) (fun hc331 => ?_) (fun hc331 => ?_)
      · skip
        replace hm := bif_t hc331 hm
        refine wp_ift (congrArg Value.bool hc331) ?_
        refine wp_skip ?_
        refine then_n ?_
        refine wp_seq ?_
        refine wp_block ?_
        obtain ⟨y341, hm, hx342⟩ := bind_some hm
        refine wp_cut (fun a w => ∃ (z338 : Int) (σ339 : Nat → Value), (law15_PolicyOne_j1 a0 z322 z320) z338 = some y328 ∧ a = Fr 112 (upd (upd (upd (upd (upd σ339 0 (r0_0)) 1 (r1_0)) 5 (v215)) 6 (.int .u64 z338)) 7 (.int .i64 z322)) ∧ St w0 w I [at_policy_Book v215 z320] R) ?_ ?_
        · skip
          refine wp_seq ?_
          refine wp_region_lit ?_
          refine wl_val (v := .int .i64 z322) rfl rfl rfl ?_
          refine wl_val (v := r1_0) rfl rfl rfl ?_
          refine wl_val (v := .int .i64 ((a1).length : Int)) rfl rfl (x_len rfl Try.underlying23 (rd_sliceV f1_0)) ?_
          refine wl_val (v := .bool (decide (z322 < ((a1).length : Int)))) rfl rfl rfl ?_
          refine wl_nil ?_
          refine then_n ?_
          refine bsplit (decide (z322 < ((a1).length : Int))) (fun hc332 => ?_) (fun hc332 => ?_)
          · skip
            replace hm := bif_t hc332 hm
            refine wp_ift (congrArg Value.bool hc332) ?_
            refine wp_region_lit ?_
            refine wl_val (v := .int .u64 z321) rfl rfl rfl ?_
            refine wl_val (v := r1_0) rfl rfl rfl ?_
            refine wl_val (v := .int .i64 z322) rfl rfl rfl ?_
            obtain ⟨x333, hx334, hm⟩ := bind_some hm
            obtain ⟨h335, h336, hi337⟩ := geto_some hx334
            refine wl_val (v := .pointer (some (eAddr r1_0 (z322.toNat * 1 + 0)))) rfl rfl (x_index rfl rfl Try.underlying23 Try.sizeOf5 (rd_sliceV f1_0) h335 h336) ?_
            refine wl_val (v := .int .u8 x333) rfl rfl (x_load rfl Try.isAgg5 (rd_load f1_0 (HL.le.refl _) hst hi337 (by rintro _ rfl; rfl))) ?_
            refine wl_val (v := .int .u8 (Int.tmod x333 (3:Int))) rfl rfl (x_rem (by decide) rfl rfl) ?_
            refine wl_val (v := .int .u64 (IntKind.u64.wrap (Int.tmod x333 (3:Int)))) rfl rfl (by kernel_rfl) ?_
            refine wl_val (v := .int .u64 (IntKind.u64.wrap (z321 + (IntKind.u64.wrap (Int.tmod x333 (3:Int)))))) rfl rfl rfl ?_
            refine wl_val (v := .int .u64 (IntKind.u64.wrap (z321 + (IntKind.u64.wrap (Int.tmod x333 (3:Int)))))) rfl rfl rfl ?_
            refine wl_nil ?_
            refine then_n ?_
            replace hst := hst.keep1
            obtain rfl := some_inj hm
            exact ⟨(IntKind.u64.wrap (z321 + (IntKind.u64.wrap (Int.tmod x333 (3:Int))))), _, hx342, ((fr_upd (t := 0) (v := r0_0) rfl).trans ((fr_upd (t := 1) (v := r1_0) rfl).trans ((fr_upd (t := 5) (v := v215) rfl).trans ((fr_upd (t := 6) (v := .int .u64 (IntKind.u64.wrap (z321 + (IntKind.u64.wrap (Int.tmod x333 (3:Int)))))) rfl).trans ((fr_upd (t := 7) (v := .int .i64 z322) rfl).trans rfl))))), hst⟩
          · skip
            replace hm := bif_f hc332 hm
            refine wp_iff (congrArg Value.bool hc332) ?_
            refine wp_skip ?_
            refine then_n ?_
            replace hst := hst.keep1
            obtain rfl := some_inj hm
            exact ⟨z321, _, hx342, ((fr_upd (t := 0) (v := r0_0) rfl).trans ((fr_upd (t := 1) (v := r1_0) rfl).trans ((fr_upd (t := 5) (v := v215) rfl).trans ((fr_upd (t := 6) (v := .int .u64 z321) rfl).trans ((fr_upd (t := 7) (v := .int .i64 z322) rfl).trans rfl))))), hst⟩
        · skip
          clear hst
          rintro _ w343 ⟨z338, σ339, hm, rfl, hst⟩
          dsimp only [law15_PolicyOne_j1] at hm
          refine wp_seq ?_
          refine wp_seq ?_
          refine wp_region_lit ?_
          refine wl_val (v := r0_0) rfl rfl rfl ?_
          refine wl_val (v := .int .i64 z322) rfl rfl rfl ?_
          obtain ⟨x344, hx345, hm⟩ := bind_some hm
          obtain ⟨h346, h347, hi348⟩ := geto_some hx345
          refine wl_val (v := .pointer (some (eAddr r0_0 (z322.toNat * 7 + 0)))) rfl rfl (x_index rfl rfl Try.underlying22 Try.sizeOf30 (rd_sliceV f0_0) h346 h347) ?_
          refine wl_val (v := .pointer (some (eAddr r0_0 (z322.toNat * 7 + 1)))) rfl rfl (x_field_e rfl Try.underlying30 rfl Try.sizeOf3 rfl) ?_
          refine wl_val (v := .int .i64 x344.From) rfl rfl (x_load rfl Try.isAgg3 (rd_load f0_0 (HL.le.refl _) hst hi348 (by rintro _ rfl; rfl))) ?_
          refine wl_val (v := .bool (decide (x344.From < (0:Int)))) rfl rfl rfl ?_
          refine wl_val (v := .bool (decide (x344.From < (0:Int)))) rfl rfl rfl ?_
          refine bsplit (decide (x344.From < (0:Int))) (fun hc349 => ?_) (fun hc349 => ?_)
          · skip
            replace hm := bif_t hc349 hm
            refine wl_off ((wanted_eq rfl rfl rfl (congrArg Value.bool hc349)).trans rfl) rfl ?_
            refine wl_off ((wanted_eq rfl rfl rfl (congrArg Value.bool hc349)).trans rfl) rfl ?_
            refine wl_off ((wanted_eq rfl rfl rfl (congrArg Value.bool hc349)).trans rfl) rfl ?_
            refine wl_off ((wanted_eq rfl rfl rfl (congrArg Value.bool hc349)).trans rfl) rfl ?_
            refine wl_off ((wanted_eq rfl rfl rfl (congrArg Value.bool hc349)).trans rfl) rfl ?_
            refine wl_off ((wanted_eq rfl rfl rfl (congrArg Value.bool hc349)).trans rfl) rfl ?_
            refine wl_val (v := .bool true) rfl rfl (x_pick_t hc349 rfl rfl) ?_
            refine wl_val (v := .bool true) rfl rfl rfl ?_
            refine wl_off ((wanted_eq rfl rfl rfl rfl).trans rfl) rfl ?_
            refine wl_off ((wanted_eq rfl rfl rfl rfl).trans rfl) rfl ?_
            refine wl_off ((wanted_eq rfl rfl rfl rfl).trans rfl) rfl ?_
            refine wl_off ((wanted_eq rfl rfl rfl rfl).trans rfl) rfl ?_
            refine wl_off ((wanted_eq rfl rfl rfl rfl).trans rfl) rfl ?_
            refine wl_off ((wanted_eq rfl rfl rfl rfl).trans rfl) rfl ?_
            refine wl_val (v := .bool true) rfl rfl (x_pick_t rfl rfl rfl) ?_
            refine wl_val (v := .bool true) rfl rfl rfl ?_
            refine wl_off ((wanted_eq rfl rfl rfl rfl).trans rfl) rfl ?_
            refine wl_off ((wanted_eq rfl rfl rfl rfl).trans rfl) rfl ?_
            refine wl_off ((wanted_eq rfl rfl rfl rfl).trans rfl) rfl ?_
            refine wl_off ((wanted_eq rfl rfl rfl rfl).trans rfl) rfl ?_
            refine wl_off ((wanted_eq rfl rfl rfl rfl).trans rfl) rfl ?_
            refine wl_off ((wanted_eq rfl rfl rfl rfl).trans rfl) rfl ?_
            refine wl_val (v := .bool true) rfl rfl (x_pick_t rfl rfl rfl) ?_
            refine wl_val (v := .bool true) rfl rfl rfl ?_
            refine wl_off ((wanted_eq rfl rfl rfl rfl).trans rfl) rfl ?_
            refine wl_off ((wanted_eq rfl rfl rfl rfl).trans rfl) rfl ?_
            refine wl_off ((wanted_eq rfl rfl rfl rfl).trans rfl) rfl ?_
            refine wl_off ((wanted_eq rfl rfl rfl rfl).trans rfl) rfl ?_
            refine wl_off ((wanted_eq rfl rfl rfl rfl).trans rfl) rfl ?_
            refine wl_off ((wanted_eq rfl rfl rfl rfl).trans rfl) rfl ?_
            refine wl_val (v := .bool true) rfl rfl (x_pick_t rfl rfl rfl) ?_
            refine wl_val (v := .bool true) rfl rfl rfl ?_
            refine wl_off ((wanted_eq rfl rfl rfl rfl).trans rfl) rfl ?_
            refine wl_off ((wanted_eq rfl rfl rfl rfl).trans rfl) rfl ?_
            refine wl_off ((wanted_eq rfl rfl rfl rfl).trans rfl) rfl ?_
            refine wl_off ((wanted_eq rfl rfl rfl rfl).trans rfl) rfl ?_
            refine wl_off ((wanted_eq rfl rfl rfl rfl).trans rfl) rfl ?_
            refine wl_off ((wanted_eq rfl rfl rfl rfl).trans rfl) rfl ?_
            refine wl_val (v := .bool true) rfl rfl (x_pick_t rfl rfl rfl) ?_
            refine wl_nil ?_
            refine then_n ?_
            refine wp_ift rfl ?_
            refine wp_seq ?_
            refine wp_region_lit ?_
            refine wl_val (v := .bool true) rfl rfl rfl ?_
            refine wl_nil ?_
            refine then_n ?_
            refine wp_ret ?_
            refine then_r ?_
            refine blk_r ?_
            refine then_r ?_
            refine then_r ?_
            replace hm := inr_up hm hx329
            refine blk_r ?_
            refine then_r ?_
            obtain rfl := some_inj hm
            refine post_ret (vs := [.bool true]) Try.results3 (rvs_cons (rv_tmp rfl) rvs_nil) ?_
            exact ⟨rfl, hst.keep0⟩
          · skip
            replace hm := bif_f hc349 hm
            refine wl_val (v := r0_0) ((wanted_eq rfl rfl rfl (congrArg Value.bool hc349)).trans rfl) rfl rfl ?_
            refine wl_val (v := .int .i64 z322) ((wanted_eq rfl rfl rfl (congrArg Value.bool hc349)).trans rfl) rfl rfl ?_
            refine wl_val (v := .pointer (some (eAddr r0_0 (z322.toNat * 7 + 0)))) ((wanted_eq rfl rfl rfl (congrArg Value.bool hc349)).trans rfl) rfl (x_index rfl rfl Try.underlying22 Try.sizeOf30 (rd_sliceV f0_0) h346 h347) ?_
            refine wl_val (v := .pointer (some (eAddr r0_0 (z322.toNat * 7 + 1)))) ((wanted_eq rfl rfl rfl (congrArg Value.bool hc349)).trans rfl) rfl (x_field_e rfl Try.underlying30 rfl Try.sizeOf3 rfl) ?_
            refine wl_val (v := .int .i64 x344.From) ((wanted_eq rfl rfl rfl (congrArg Value.bool hc349)).trans rfl) rfl (x_load rfl Try.isAgg3 (rd_load f0_0 (HL.le.refl _) hst hi348 (by rintro _ rfl; rfl))) ?_
            refine wl_val (v := .bool (decide (x344.From > (255:Int)))) ((wanted_eq rfl rfl rfl (congrArg Value.bool hc349)).trans rfl) rfl rfl ?_
            refine wl_val (v := .bool (decide (x344.From > (255:Int)))) rfl rfl (x_pick_f hc349 rfl rfl) ?_
            refine wl_val (v := .bool (decide (x344.From > (255:Int)))) rfl rfl rfl ?_
            refine bsplit (decide (x344.From > (255:Int))) (fun hc350 => ?_) (fun hc350 => ?_)
            · skip
              replace hm := bif_t hc350 hm
              refine wl_off ((wanted_eq rfl rfl rfl (congrArg Value.bool hc350)).trans rfl) rfl ?_
              refine wl_off ((wanted_eq rfl rfl rfl (congrArg Value.bool hc350)).trans rfl) rfl ?_
              refine wl_off ((wanted_eq rfl rfl rfl (congrArg Value.bool hc350)).trans rfl) rfl ?_
              refine wl_off ((wanted_eq rfl rfl rfl (congrArg Value.bool hc350)).trans rfl) rfl ?_
              refine wl_off ((wanted_eq rfl rfl rfl (congrArg Value.bool hc350)).trans rfl) rfl ?_
              refine wl_off ((wanted_eq rfl rfl rfl (congrArg Value.bool hc350)).trans rfl) rfl ?_
              refine wl_val (v := .bool true) rfl rfl (x_pick_t hc350 rfl rfl) ?_
              refine wl_val (v := .bool true) rfl rfl rfl ?_
              refine wl_off ((wanted_eq rfl rfl rfl rfl).trans rfl) rfl ?_
              refine wl_off ((wanted_eq rfl rfl rfl rfl).trans rfl) rfl ?_
              refine wl_off ((wanted_eq rfl rfl rfl rfl).trans rfl) rfl ?_
              refine wl_off ((wanted_eq rfl rfl rfl rfl).trans rfl) rfl ?_
              refine wl_off ((wanted_eq rfl rfl rfl rfl).trans rfl) rfl ?_
              refine wl_off ((wanted_eq rfl rfl rfl rfl).trans rfl) rfl ?_
              refine wl_val (v := .bool true) rfl rfl (x_pick_t rfl rfl rfl) ?_
              refine wl_val (v := .bool true) rfl rfl rfl ?_
              refine wl_off ((wanted_eq rfl rfl rfl rfl).trans rfl) rfl ?_
              refine wl_off ((wanted_eq rfl rfl rfl rfl).trans rfl) rfl ?_
              refine wl_off ((wanted_eq rfl rfl rfl rfl).trans rfl) rfl ?_
              refine wl_off ((wanted_eq rfl rfl rfl rfl).trans rfl) rfl ?_
              refine wl_off ((wanted_eq rfl rfl rfl rfl).trans rfl) rfl ?_
              refine wl_off ((wanted_eq rfl rfl rfl rfl).trans rfl) rfl ?_
              refine wl_val (v := .bool true) rfl rfl (x_pick_t rfl rfl rfl) ?_
              refine wl_val (v := .bool true) rfl rfl rfl ?_
              refine wl_off ((wanted_eq rfl rfl rfl rfl).trans rfl) rfl ?_
              refine wl_off ((wanted_eq rfl rfl rfl rfl).trans rfl) rfl ?_
              refine wl_off ((wanted_eq rfl rfl rfl rfl).trans rfl) rfl ?_
              refine wl_off ((wanted_eq rfl rfl rfl rfl).trans rfl) rfl ?_
              refine wl_off ((wanted_eq rfl rfl rfl rfl).trans rfl) rfl ?_
              refine wl_off ((wanted_eq rfl rfl rfl rfl).trans rfl) rfl ?_
              refine wl_val (v := .bool true) rfl rfl (x_pick_t rfl rfl rfl) ?_
              refine wl_nil ?_
              refine then_n ?_
              refine wp_ift rfl ?_
              refine wp_seq ?_
              refine wp_region_lit ?_
              refine wl_val (v := .bool true) rfl rfl rfl ?_
              refine wl_nil ?_
              refine then_n ?_
              refine wp_ret ?_
              refine then_r ?_
              refine blk_r ?_
              refine then_r ?_
              refine then_r ?_
              replace hm := inr_up hm hx329
              refine blk_r ?_
              refine then_r ?_
              obtain rfl := some_inj hm
              refine post_ret (vs := [.bool true]) Try.results3 (rvs_cons (rv_tmp rfl) rvs_nil) ?_
              exact ⟨rfl, hst.keep0⟩
            · skip
              replace hm := bif_f hc350 hm
              refine wl_val (v := r0_0) ((wanted_eq rfl rfl rfl (congrArg Value.bool hc350)).trans rfl) rfl rfl ?_
              refine wl_val (v := .int .i64 z322) ((wanted_eq rfl rfl rfl (congrArg Value.bool hc350)).trans rfl) rfl rfl ?_
              refine wl_val (v := .pointer (some (eAddr r0_0 (z322.toNat * 7 + 0)))) ((wanted_eq rfl rfl rfl (congrArg Value.bool hc350)).trans rfl) rfl (x_index rfl rfl Try.underlying22 Try.sizeOf30 (rd_sliceV f0_0) h346 h347) ?_
              refine wl_val (v := .pointer (some (eAddr r0_0 (z322.toNat * 7 + 2)))) ((wanted_eq rfl rfl rfl (congrArg Value.bool hc350)).trans rfl) rfl (x_field_e rfl Try.underlying30 rfl Try.sizeOf3 rfl) ?_
              refine wl_val (v := .int .i64 x344.To) ((wanted_eq rfl rfl rfl (congrArg Value.bool hc350)).trans rfl) rfl (x_load rfl Try.isAgg3 (rd_load f0_0 (HL.le.refl _) hst hi348 (by rintro _ rfl; rfl))) ?_
              refine wl_val (v := .bool (decide (x344.To < (0:Int)))) ((wanted_eq rfl rfl rfl (congrArg Value.bool hc350)).trans rfl) rfl rfl ?_
              refine wl_val (v := .bool (decide (x344.To < (0:Int)))) rfl rfl (x_pick_f hc350 rfl rfl) ?_
              refine wl_val (v := .bool (decide (x344.To < (0:Int)))) rfl rfl rfl ?_
              refine bsplit (decide (x344.To < (0:Int))) (fun hc351 => ?_) (fun hc351 => ?_)
              · skip
                replace hm := bif_t hc351 hm
                refine wl_off ((wanted_eq rfl rfl rfl (congrArg Value.bool hc351)).trans rfl) rfl ?_
                refine wl_off ((wanted_eq rfl rfl rfl (congrArg Value.bool hc351)).trans rfl) rfl ?_
                refine wl_off ((wanted_eq rfl rfl rfl (congrArg Value.bool hc351)).trans rfl) rfl ?_
                refine wl_off ((wanted_eq rfl rfl rfl (congrArg Value.bool hc351)).trans rfl) rfl ?_
                refine wl_off ((wanted_eq rfl rfl rfl (congrArg Value.bool hc351)).trans rfl) rfl ?_
                refine wl_off ((wanted_eq rfl rfl rfl (congrArg Value.bool hc351)).trans rfl) rfl ?_
                refine wl_val (v := .bool true) rfl rfl (x_pick_t hc351 rfl rfl) ?_
                refine wl_val (v := .bool true) rfl rfl rfl ?_
                refine wl_off ((wanted_eq rfl rfl rfl rfl).trans rfl) rfl ?_
                refine wl_off ((wanted_eq rfl rfl rfl rfl).trans rfl) rfl ?_
                refine wl_off ((wanted_eq rfl rfl rfl rfl).trans rfl) rfl ?_
                refine wl_off ((wanted_eq rfl rfl rfl rfl).trans rfl) rfl ?_
                refine wl_off ((wanted_eq rfl rfl rfl rfl).trans rfl) rfl ?_
                refine wl_off ((wanted_eq rfl rfl rfl rfl).trans rfl) rfl ?_
                refine wl_val (v := .bool true) rfl rfl (x_pick_t rfl rfl rfl) ?_
                refine wl_val (v := .bool true) rfl rfl rfl ?_
                refine wl_off ((wanted_eq rfl rfl rfl rfl).trans rfl) rfl ?_
                refine wl_off ((wanted_eq rfl rfl rfl rfl).trans rfl) rfl ?_
                refine wl_off ((wanted_eq rfl rfl rfl rfl).trans rfl) rfl ?_
                refine wl_off ((wanted_eq rfl rfl rfl rfl).trans rfl) rfl ?_
                refine wl_off ((wanted_eq rfl rfl rfl rfl).trans rfl) rfl ?_
                refine wl_off ((wanted_eq rfl rfl rfl rfl).trans rfl) rfl ?_
                refine wl_val (v := .bool true) rfl rfl (x_pick_t rfl rfl rfl) ?_
                refine wl_nil ?_
                refine then_n ?_
                refine wp_ift rfl ?_
                refine wp_seq ?_
                refine wp_region_lit ?_
                refine wl_val (v := .bool true) rfl rfl rfl ?_
                refine wl_nil ?_
                refine then_n ?_
                refine wp_ret ?_
                refine then_r ?_
                refine blk_r ?_
                refine then_r ?_
                refine then_r ?_
                replace hm := inr_up hm hx329
                refine blk_r ?_
                refine then_r ?_
                obtain rfl := some_inj hm
                refine post_ret (vs := [.bool true]) Try.results3 (rvs_cons (rv_tmp rfl) rvs_nil) ?_
                exact ⟨rfl, hst.keep0⟩
              · skip
                replace hm := bif_f hc351 hm
                refine wl_val (v := r0_0) ((wanted_eq rfl rfl rfl (congrArg Value.bool hc351)).trans rfl) rfl rfl ?_
                refine wl_val (v := .int .i64 z322) ((wanted_eq rfl rfl rfl (congrArg Value.bool hc351)).trans rfl) rfl rfl ?_
                refine wl_val (v := .pointer (some (eAddr r0_0 (z322.toNat * 7 + 0)))) ((wanted_eq rfl rfl rfl (congrArg Value.bool hc351)).trans rfl) rfl (x_index rfl rfl Try.underlying22 Try.sizeOf30 (rd_sliceV f0_0) h346 h347) ?_
                refine wl_val (v := .pointer (some (eAddr r0_0 (z322.toNat * 7 + 2)))) ((wanted_eq rfl rfl rfl (congrArg Value.bool hc351)).trans rfl) rfl (x_field_e rfl Try.underlying30 rfl Try.sizeOf3 rfl) ?_
                refine wl_val (v := .int .i64 x344.To) ((wanted_eq rfl rfl rfl (congrArg Value.bool hc351)).trans rfl) rfl (x_load rfl Try.isAgg3 (rd_load f0_0 (HL.le.refl _) hst hi348 (by rintro _ rfl; rfl))) ?_
                refine wl_val (v := .bool (decide (x344.To > (255:Int)))) ((wanted_eq rfl rfl rfl (congrArg Value.bool hc351)).trans rfl) rfl rfl ?_
                refine wl_val (v := .bool (decide (x344.To > (255:Int)))) rfl rfl (x_pick_f hc351 rfl rfl) ?_
                refine wl_val (v := .bool (decide (x344.To > (255:Int)))) rfl rfl rfl ?_
                refine bsplit (decide (x344.To > (255:Int))) (fun hc352 => ?_) (fun hc352 => ?_)
                · skip
                  replace hm := bif_t hc352 hm
                  refine wl_off ((wanted_eq rfl rfl rfl (congrArg Value.bool hc352)).trans rfl) rfl ?_
                  refine wl_off ((wanted_eq rfl rfl rfl (congrArg Value.bool hc352)).trans rfl) rfl ?_
                  refine wl_off ((wanted_eq rfl rfl rfl (congrArg Value.bool hc352)).trans rfl) rfl ?_
                  refine wl_off ((wanted_eq rfl rfl rfl (congrArg Value.bool hc352)).trans rfl) rfl ?_
                  refine wl_off ((wanted_eq rfl rfl rfl (congrArg Value.bool hc352)).trans rfl) rfl ?_
                  refine wl_off ((wanted_eq rfl rfl rfl (congrArg Value.bool hc352)).trans rfl) rfl ?_
                  refine wl_val (v := .bool true) rfl rfl (x_pick_t hc352 rfl rfl) ?_
                  refine wl_val (v := .bool true) rfl rfl rfl ?_
                  refine wl_off ((wanted_eq rfl rfl rfl rfl).trans rfl) rfl ?_
                  refine wl_off ((wanted_eq rfl rfl rfl rfl).trans rfl) rfl ?_
                  refine wl_off ((wanted_eq rfl rfl rfl rfl).trans rfl) rfl ?_
                  refine wl_off ((wanted_eq rfl rfl rfl rfl).trans rfl) rfl ?_
                  refine wl_off ((wanted_eq rfl rfl rfl rfl).trans rfl) rfl ?_
                  refine wl_off ((wanted_eq rfl rfl rfl rfl).trans rfl) rfl ?_
                  refine wl_val (v := .bool true) rfl rfl (x_pick_t rfl rfl rfl) ?_
                  refine wl_nil ?_
                  refine then_n ?_
                  refine wp_ift rfl ?_
                  refine wp_seq ?_
                  refine wp_region_lit ?_
                  refine wl_val (v := .bool true) rfl rfl rfl ?_
                  refine wl_nil ?_
                  refine then_n ?_
                  refine wp_ret ?_
                  refine then_r ?_
                  refine blk_r ?_
                  refine then_r ?_
                  refine then_r ?_
                  replace hm := inr_up hm hx329
                  refine blk_r ?_
                  refine then_r ?_
                  obtain rfl := some_inj hm
                  refine post_ret (vs := [.bool true]) Try.results3 (rvs_cons (rv_tmp rfl) rvs_nil) ?_
                  exact ⟨rfl, hst.keep0⟩
                · skip
                  replace hm := bif_f hc352 hm
                  refine wl_val (v := r0_0) ((wanted_eq rfl rfl rfl (congrArg Value.bool hc352)).trans rfl) rfl rfl ?_
                  refine wl_val (v := .int .i64 z322) ((wanted_eq rfl rfl rfl (congrArg Value.bool hc352)).trans rfl) rfl rfl ?_
                  refine wl_val (v := .pointer (some (eAddr r0_0 (z322.toNat * 7 + 0)))) ((wanted_eq rfl rfl rfl (congrArg Value.bool hc352)).trans rfl) rfl (x_index rfl rfl Try.underlying22 Try.sizeOf30 (rd_sliceV f0_0) h346 h347) ?_
                  refine wl_val (v := .pointer (some (eAddr r0_0 (z322.toNat * 7 + 6)))) ((wanted_eq rfl rfl rfl (congrArg Value.bool hc352)).trans rfl) rfl (x_field_e rfl Try.underlying30 rfl Try.sizeOf3 rfl) ?_
                  refine wl_val (v := .int .i64 x344.Quota) ((wanted_eq rfl rfl rfl (congrArg Value.bool hc352)).trans rfl) rfl (x_load rfl Try.isAgg3 (rd_load f0_0 (HL.le.refl _) hst hi348 (by rintro _ rfl; rfl))) ?_
                  refine wl_val (v := .bool (decide (x344.Quota < (0:Int)))) ((wanted_eq rfl rfl rfl (congrArg Value.bool hc352)).trans rfl) rfl rfl ?_
                  refine wl_val (v := .bool (decide (x344.Quota < (0:Int)))) rfl rfl (x_pick_f hc352 rfl rfl) ?_
                  refine wl_val (v := .bool (decide (x344.Quota < (0:Int)))) rfl rfl rfl ?_
                  refine bsplit (decide (x344.Quota < (0:Int))) (fun hc353 => ?_) (fun hc353 => ?_)
                  · skip
                    replace hm := bif_t hc353 hm
                    refine wl_off ((wanted_eq rfl rfl rfl (congrArg Value.bool hc353)).trans rfl) rfl ?_
                    refine wl_off ((wanted_eq rfl rfl rfl (congrArg Value.bool hc353)).trans rfl) rfl ?_
                    refine wl_off ((wanted_eq rfl rfl rfl (congrArg Value.bool hc353)).trans rfl) rfl ?_
                    refine wl_off ((wanted_eq rfl rfl rfl (congrArg Value.bool hc353)).trans rfl) rfl ?_
                    refine wl_off ((wanted_eq rfl rfl rfl (congrArg Value.bool hc353)).trans rfl) rfl ?_
                    refine wl_off ((wanted_eq rfl rfl rfl (congrArg Value.bool hc353)).trans rfl) rfl ?_
                    refine wl_val (v := .bool true) rfl rfl (x_pick_t hc353 rfl rfl) ?_
                    refine wl_nil ?_
                    refine then_n ?_
                    refine wp_ift rfl ?_
                    refine wp_seq ?_
                    refine wp_region_lit ?_
                    refine wl_val (v := .bool true) rfl rfl rfl ?_
                    refine wl_nil ?_
                    refine then_n ?_
                    refine wp_ret ?_
                    refine then_r ?_
                    refine blk_r ?_
                    refine then_r ?_
                    refine then_r ?_
                    replace hm := inr_up hm hx329
                    refine blk_r ?_
                    refine then_r ?_
                    obtain rfl := some_inj hm
                    refine post_ret (vs := [.bool true]) Try.results3 (rvs_cons (rv_tmp rfl) rvs_nil) ?_
                    exact ⟨rfl, hst.keep0⟩
                  · skip
                    replace hm := bif_f hc353 hm
                    refine wl_val (v := r0_0) ((wanted_eq rfl rfl rfl (congrArg Value.bool hc353)).trans rfl) rfl rfl ?_
                    refine wl_val (v := .int .i64 z322) ((wanted_eq rfl rfl rfl (congrArg Value.bool hc353)).trans rfl) rfl rfl ?_
                    refine wl_val (v := .pointer (some (eAddr r0_0 (z322.toNat * 7 + 0)))) ((wanted_eq rfl rfl rfl (congrArg Value.bool hc353)).trans rfl) rfl (x_index rfl rfl Try.underlying22 Try.sizeOf30 (rd_sliceV f0_0) h346 h347) ?_
                    refine wl_val (v := .pointer (some (eAddr r0_0 (z322.toNat * 7 + 6)))) ((wanted_eq rfl rfl rfl (congrArg Value.bool hc353)).trans rfl) rfl (x_field_e rfl Try.underlying30 rfl Try.sizeOf3 rfl) ?_
                    refine wl_val (v := .int .i64 x344.Quota) ((wanted_eq rfl rfl rfl (congrArg Value.bool hc353)).trans rfl) rfl (x_load rfl Try.isAgg3 (rd_load f0_0 (HL.le.refl _) hst hi348 (by rintro _ rfl; rfl))) ?_
                    refine wl_val (v := .bool (decide (x344.Quota > (65536:Int)))) ((wanted_eq rfl rfl rfl (congrArg Value.bool hc353)).trans rfl) rfl rfl ?_
                    refine wl_val (v := .bool (decide (x344.Quota > (65536:Int)))) rfl rfl (x_pick_f hc353 rfl rfl) ?_
                    refine wl_nil ?_
                    refine then_n ?_
                    refine bsplit (decide (x344.Quota > (65536:Int))) (fun hc354 => ?_) (fun hc354 => ?_)
                    · skip
                      replace hm := bif_t hc354 hm
                      refine wp_ift (congrArg Value.bool hc354) ?_
                      refine wp_seq ?_
                      refine wp_region_lit ?_
                      refine wl_val (v := .bool true) rfl rfl rfl ?_
                      refine wl_nil ?_
                      refine then_n ?_
                      refine wp_ret ?_
                      refine then_r ?_
                      refine blk_r ?_
                      refine then_r ?_
                      refine then_r ?_
                      replace hm := inr_up hm hx329
                      refine blk_r ?_
                      refine then_r ?_
                      obtain rfl := some_inj hm
                      refine post_ret (vs := [.bool true]) Try.results3 (rvs_cons (rv_tmp rfl) rvs_nil) ?_
                      exact ⟨rfl, hst.keep0⟩
                    · skip
                      replace hm := bif_f hc354 hm
                      refine wp_iff (congrArg Value.bool hc354) ?_
                      refine wp_skip ?_
                      refine then_n ?_
                      refine wp_seq ?_
                      refine wp_region_lit ?_
                      refine wl_val (v := v215) rfl rfl rfl ?_
                      refine wl_val (v := r0_0) rfl rfl rfl ?_
                      refine wl_val (v := .int .i64 z322) rfl rfl rfl ?_
                      refine wl_val (v := .pointer (some (eAddr r0_0 (z322.toNat * 7 + 0)))) rfl rfl (x_index rfl rfl Try.underlying22 Try.sizeOf30 (rd_sliceV f0_0) h346 h347) ?_
                      refine wl_val (v := .agg #[.int .u64 x344.ID, .int .i64 x344.From, .int .i64 x344.To, .float .f64 x344.Lo, .float .f64 x344.Hi, .int .u64 x344.Authority, .int .i64 x344.Quota]) rfl rfl (x_loadN (cs := [.int .u64 x344.ID, .int .i64 x344.From, .int .i64 x344.To, .float .f64 x344.Lo, .float .f64 x344.Hi, .int .u64 x344.Authority, .int .i64 x344.Quota]) rfl Try.isAgg30 Try.sizeOf30 (rd_loadN f0_0 (HL.le.refl _) hst hi348 0 (by rintro _ rfl; rfl))) ?_
                      refine wl_val (v := .int .u64 z338) rfl rfl rfl ?_
                      replace hst := objO_some hst
                      obtain ⟨t355, ht356, hm⟩ := bind_some hm
                      refine wl_call rfl rfl (x_call Try.call10 rfl (vs := [v215, .agg #[.int .u64 x344.ID, .int .i64 x344.From, .int .i64 x344.To, .float .f64 x344.Lo, .float .f64 x344.Hi, .int .u64 x344.Authority, .int .i64 x344.Quota], .int .u64 z338]) rfl) ?_
                      refine (policy_Book_Grant_ref hst.to1 ht356).mono ?_
                      rintro _ w357 ⟨rfl, hst⟩
                      refine ⟨_, rfl, ?_⟩
                      replace hst := hst.of1
                      rcases he361 : t355 with _ | y360
                      · rw [he361] at hm; cases hm
                      rw [he361] at hm hst; dsimp only at hm; replace hst := objO_get hst
                      refine wl_nil ?_
                      refine then_n ?_
                      refine wp_seq ?_
                      refine wp_region_lit ?_
                      refine wl_val (v := v215) rfl rfl rfl ?_
                      refine wl_val (v := r0_0) rfl rfl rfl ?_
                      refine wl_val (v := .int .i64 z322) rfl rfl rfl ?_
                      refine wl_val (v := .pointer (some (eAddr r0_0 (z322.toNat * 7 + 0)))) rfl rfl (x_index rfl rfl Try.underlying22 Try.sizeOf30 (rd_sliceV f0_0) h346 h347) ?_
                      refine wl_val (v := .pointer (some (eAddr r0_0 (z322.toNat * 7 + 0)))) rfl rfl (x_field_e rfl Try.underlying30 rfl Try.sizeOf27 rfl) ?_
                      refine wl_val (v := .int .u64 x344.ID) rfl rfl (x_load rfl Try.isAgg27 (rd_load f0_0 (HL.le.refl _) hst hi348 (by rintro _ rfl; rfl))) ?_
                      refine wl_val (v := .int .u64 z338) rfl rfl rfl ?_
                      replace hst := objO_some hst
                      obtain ⟨t362, ht363, hm⟩ := bind_some hm
                      refine wl_call rfl rfl (x_call Try.call11 rfl (vs := [v215, .int .u64 x344.ID, .int .u64 z338]) rfl) ?_
                      refine (policy_Book_At_ref hst.to1 ht363).mono ?_
                      rintro _ w364 ⟨rfl, hst⟩
                      refine ⟨_, rfl, ?_⟩
                      replace hst := hst.of1
                      replace hst := objO_get hst
                      refine wl_val (v := .tuple #[.agg #[.int .u64 t362.1.ID, .int .i64 t362.1.From, .int .i64 t362.1.To, .float .f64 t362.1.Lo, .float .f64 t362.1.Hi, .int .u64 t362.1.Authority, .int .i64 t362.1.Quota], .bool t362.2]) rfl rfl rfl ?_
                      refine wl_val (v := .agg #[.int .u64 t362.1.ID, .int .i64 t362.1.From, .int .i64 t362.1.To, .float .f64 t362.1.Lo, .float .f64 t362.1.Hi, .int .u64 t362.1.Authority, .int .i64 t362.1.Quota]) rfl rfl rfl ?_
                      refine wl_val (v := .bool t362.2) rfl rfl rfl ?_
                      obtain ⟨b367, w368, ew369, eb370, hst⟩ := hst.box [.int .u64 (0:Int), .int .i64 (0:Int), .int .i64 (0:Int), .float .f64 (0:Nat), .float .f64 (0:Nat), .int .u64 (0:Int), .int .i64 (0:Int)] 30
                      refine wl_run (v := .pointer (some ⟨b367, 0, none⟩)) (w' := w368) rfl rfl (x_al (by kernel_rfl) ew369 eb370) ?_
                      obtain ⟨w372, hr373, hst⟩ := hst.boxStore (P := Try.prog) (t := 30) (cs' := [.int .u64 t362.1.ID, .int .i64 t362.1.From, .int .i64 t362.1.To, .float .f64 t362.1.Lo, .float .f64 t362.1.Hi, .int .u64 t362.1.Authority, .int .i64 t362.1.Quota]) 0 (.agg #[.int .u64 t362.1.ID, .int .i64 t362.1.From, .int .i64 t362.1.To, .float .f64 t362.1.Lo, .float .f64 t362.1.Hi, .int .u64 t362.1.Authority, .int .i64 t362.1.Quota]) Try.sizeOf30 (Nat.le_of_ble_eq_true rfl) (ones_cons rfl (ones_cons rfl (ones_cons rfl (ones_cons rfl (ones_cons rfl (ones_cons rfl (ones_cons rfl ones_nil))))))) rfl
                      refine wl_unit rfl rfl (x_unit hr373) ?_
                      refine wl_val (v := .bool t362.2) rfl rfl rfl ?_
                      refine wl_nil ?_
                      refine then_n ?_
                      refine wp_seq ?_
                      refine wp_region_St hst [(0, false), (1, false), (2, false), (3, false), (4, false), (5, false), (6, false), (7, false), (8, true), (9, false), (10, false)] Try.mixed (by kernel_rfl) (by decide) ?_
                      refine ws_q (v := .bool t362.2) rfl rfl (yi_run rfl (fun w hst => rfl)) ?_
                      refine ws_q (v := .bool (!t362.2)) rfl rfl (yi_run rfl (fun w hst => rfl)) ?_
                      refine ws_q (v := .bool (!t362.2)) rfl rfl (yi_run rfl (fun w hst => rfl)) ?_
                      refine bsplit (!t362.2) (fun hc374 => ?_) (fun hc374 => ?_)
                      · skip
                        replace hm := bif_t hc374 hm
                        refine ws_q (v := undef) rfl rfl (yi_off ((wanted_eq rfl rfl rfl (congrArg Value.bool hc374)).trans rfl)) ?_
                        refine ws_q (v := undef) rfl rfl (yi_off ((wanted_eq rfl rfl rfl (congrArg Value.bool hc374)).trans rfl)) ?_
                        refine ws_q (v := undef) rfl rfl (yi_off ((wanted_eq rfl rfl rfl (congrArg Value.bool hc374)).trans rfl)) ?_
                        refine ws_q (v := undef) rfl rfl (yi_off ((wanted_eq rfl rfl rfl (congrArg Value.bool hc374)).trans rfl)) ?_
                        refine ws_q (v := undef) rfl rfl (yi_off ((wanted_eq rfl rfl rfl (congrArg Value.bool hc374)).trans rfl)) ?_
                        refine ws_q (v := undef) rfl rfl (yi_off ((wanted_eq rfl rfl rfl (congrArg Value.bool hc374)).trans rfl)) ?_
                        refine ws_q (v := undef) rfl rfl (yi_off ((wanted_eq rfl rfl rfl (congrArg Value.bool hc374)).trans rfl)) ?_
                        refine ws_q (v := .bool true) rfl rfl (yi_run rfl (fun w hst => x_pick_t hc374 rfl rfl)) ?_
                        refine ws_nil ?_
                        intro w hst
                        refine then_n ?_
                        refine wp_ift rfl ?_
                        refine wp_seq ?_
                        refine wp_region_lit ?_
                        refine wl_val (v := .bool false) rfl rfl rfl ?_
                        refine wl_nil ?_
                        refine then_n ?_
                        refine wp_ret ?_
                        refine blk_r ?_
                        refine then_r ?_
                        refine then_r ?_
                        replace hm := inr_up hm hx329
                        refine blk_r ?_
                        refine then_r ?_
                        obtain rfl := some_inj hm
                        refine post_ret (vs := [.bool false]) Try.results3 (rvs_cons (rv_tmp rfl) rvs_nil) ?_
                        exact ⟨rfl, hst.keep0⟩
                      · skip
                        replace hm := bif_f hc374 hm
                        refine ws_q (v := .agg #[.int .u64 t362.1.ID, .int .i64 t362.1.From, .int .i64 t362.1.To, .float .f64 t362.1.Lo, .float .f64 t362.1.Hi, .int .u64 t362.1.Authority, .int .i64 t362.1.Quota]) rfl rfl (yi_run ((wanted_eq rfl rfl rfl (congrArg Value.bool hc374)).trans rfl) (fun w hst => x_loadN (cs := [.int .u64 t362.1.ID, .int .i64 t362.1.From, .int .i64 t362.1.To, .float .f64 t362.1.Lo, .float .f64 t362.1.Hi, .int .u64 t362.1.Authority, .int .i64 t362.1.Quota]) rfl Try.isAgg30 Try.sizeOf30 (hst.bcs0 0 rfl))) ?_
                        refine ws_q (v := r0_0) rfl rfl (yi_run ((wanted_eq rfl rfl rfl (congrArg Value.bool hc374)).trans rfl) (fun w hst => rfl)) ?_
                        refine ws_q (v := .int .i64 z322) rfl rfl (yi_run ((wanted_eq rfl rfl rfl (congrArg Value.bool hc374)).trans rfl) (fun w hst => rfl)) ?_
                        refine ws_q (v := .pointer (some (eAddr r0_0 (z322.toNat * 7 + 0)))) rfl rfl (yi_run ((wanted_eq rfl rfl rfl (congrArg Value.bool hc374)).trans rfl) (fun w hst => x_index rfl rfl Try.underlying22 Try.sizeOf30 (rd_sliceV f0_0) h346 h347)) ?_
                        refine ws_q (v := .agg #[.int .u64 x344.ID, .int .i64 x344.From, .int .i64 x344.To, .float .f64 x344.Lo, .float .f64 x344.Hi, .int .u64 x344.Authority, .int .i64 x344.Quota]) rfl rfl (yi_run ((wanted_eq rfl rfl rfl (congrArg Value.bool hc374)).trans rfl) (fun w hst => x_loadN (cs := [.int .u64 x344.ID, .int .i64 x344.From, .int .i64 x344.To, .float .f64 x344.Lo, .float .f64 x344.Hi, .int .u64 x344.Authority, .int .i64 x344.Quota]) rfl Try.isAgg30 Try.sizeOf30 (rd_loadN f0_0 (HL.le.refl _) hst hi348 0 (by rintro _ rfl; rfl)))) ?_
                        refine ws_e rfl ((wanted_eq rfl rfl rfl (congrArg Value.bool hc374)).trans rfl) ?_
                        clear hst
                        intro w hst
                        obtain ⟨t375, ht376, hm⟩ := bind_some hm
                        refine we_call rfl (x_call Try.call12 rfl (vs := [.agg #[.int .u64 t362.1.ID, .int .i64 t362.1.From, .int .i64 t362.1.To, .float .f64 t362.1.Lo, .float .f64 t362.1.Hi, .int .u64 t362.1.Authority, .int .i64 t362.1.Quota], .agg #[.int .u64 x344.ID, .int .i64 x344.From, .int .i64 x344.To, .float .f64 x344.Lo, .float .f64 x344.Hi, .int .u64 x344.Authority, .int .i64 x344.Quota]]) rfl) ?_
                        refine (ref11_SameRule_ref hst.to0 ht376).mono ?_
                        rintro _ w377 ⟨rfl, hst⟩
                        refine ⟨_, rfl, ?_⟩
                        replace hst := hst.of0
                        refine ws_next (pend' := []) hst (by kernel_rfl) pk_nil ?_
                        refine ws_q (v := .bool (!t375)) rfl rfl (yi_run ((wanted_eq rfl rfl rfl (congrArg Value.bool hc374)).trans rfl) (fun w hst => rfl)) ?_
                        refine ws_q (v := .bool (!t375)) rfl rfl (yi_run rfl (fun w hst => x_pick_f hc374 rfl rfl)) ?_
                        refine ws_nil ?_
                        intro w hst
                        refine then_n ?_
                        refine bsplit (!t375) (fun hc380 => ?_) (fun hc380 => ?_)
                        · skip
                          replace hm := bif_t hc380 hm
                          refine wp_ift (congrArg Value.bool hc380) ?_
                          refine wp_seq ?_
                          refine wp_region_lit ?_
                          refine wl_val (v := .bool false) rfl rfl rfl ?_
                          refine wl_nil ?_
                          refine then_n ?_
                          refine wp_ret ?_
                          refine blk_r ?_
                          refine then_r ?_
                          refine then_r ?_
                          replace hm := inr_up hm hx329
                          refine blk_r ?_
                          refine then_r ?_
                          obtain rfl := some_inj hm
                          refine post_ret (vs := [.bool false]) Try.results3 (rvs_cons (rv_tmp rfl) rvs_nil) ?_
                          exact ⟨rfl, hst.keep0⟩
                        · skip
                          replace hm := bif_f hc380 hm
                          refine wp_iff (congrArg Value.bool hc380) ?_
                          refine wp_skip ?_
                          refine blk_n ?_
                          refine then_n ?_
                          refine wp_region_lit ?_
                          refine wl_val (v := .int .i64 z322) rfl rfl rfl ?_
                          refine wl_val (v := .int .i64 (IntKind.i64.wrap (z322 + (1:Int)))) rfl rfl rfl ?_
                          refine wl_val (v := .int .i64 (IntKind.i64.wrap (z322 + (1:Int)))) rfl rfl rfl ?_
                          refine wl_nil ?_
                          refine then_n ?_
                          replace hst := hst.pull1
                          replace hst := hst.keep1
                          obtain rfl := some_inj hm
                          exact ⟨_, Nat.lt_succ_self _, y360, z338, (IntKind.i64.wrap (z322 + (1:Int))), _, hx329, ((fr_upd (t := 0) (v := r0_0) rfl).trans ((fr_upd (t := 1) (v := r1_0) rfl).trans ((fr_upd (t := 5) (v := v215) rfl).trans ((fr_upd (t := 6) (v := .int .u64 z338) rfl).trans ((fr_upd (t := 7) (v := .int .i64 (IntKind.i64.wrap (z322 + (1:Int)))) rfl).trans rfl))))), hst⟩
      · skip
        replace hm := bif_f hc331 hm
        refine wp_iff (congrArg Value.bool hc331) ?_
        refine wp_exit ?_
        refine then_x ?_
        refine then_x ?_
        replace hm := inr_up hm hx329
        refine blk_x ?_
        refine then_n ?_
        refine wp_seq ?_
        refine wp_region_lit ?_
        refine wl_val (v := .bool true) rfl rfl rfl ?_
        refine wl_nil ?_
        refine then_n ?_
        refine wp_ret ?_
        obtain rfl := some_inj hm
        refine post_ret (vs := [.bool true]) Try.results3 (rvs_cons (rv_tmp rfl) rvs_nil) ?_
        exact ⟨rfl, hst.keep0⟩

end Go.Proofs.Ytcnldkkdommmdaa
