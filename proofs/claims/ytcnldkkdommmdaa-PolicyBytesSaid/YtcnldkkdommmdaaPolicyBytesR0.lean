/- The Go functions refine their models, part 0. -/
import Derived.Test.YtcnldkkdommmdaaPolicyBytesT
set_option linter.unusedVariables false
set_option linter.unusedSimpArgs false
set_option maxRecDepth 100000
set_option maxHeartbeats 4000000
namespace Go.Proofs.Ytcnldkkdommmdaa
open Go Go.V
attribute [local irreducible] wpList Code.wp wpQuiet Calls bodyPost Oper.wp wpS Nx PendOK YieldsIn
theorem policy_New_ref {w0 w : World} {I : HL} {R : SP}   (hst : St w0 w I [] R) {r : (policy_Book)} (hm : policy_New = some r) :
    Calls Try.prog 9 #[] w fun e w' => ∃ (q0 : Value), e = .returned (q0) ∧ St w0 w' I [at_policy_Book q0 r] R := by
  unfold policy_New at hm
  refine calls_start (args := []) Try.func9 rfl Try.ntmps9 (Nat.le_of_ble_eq_true rfl) ?_
  refine wp_seq ?_
  refine wp_region_lit ?_
  refine wl_val (v := .pointer none) rfl rfl rfl ?_
  refine wl_nil ?_
  refine then_n ?_
  refine wp_seq ?_
  refine wp_region_lit ?_
  refine wl_val (v := .agg #[(.slice none 0 0)]) rfl rfl (by kernel_rfl) ?_
  obtain ⟨b11, w12, ew13, eb14, hst⟩ := hst.box [(.slice none 0 0)] 64
  refine wl_run (v := .pointer (some ⟨b11, 0, none⟩)) (w' := w12) rfl rfl (x_al (by kernel_rfl) ew13 eb14) ?_
  refine wl_val (v := .pointer (some ⟨b11, 0, none⟩)) rfl rfl rfl ?_
  refine wl_nil ?_
  refine then_n ?_
  refine wp_ret ?_
  replace hst := hst.own_nil ty_policy_line
  replace hst := hst.pull1
  replace hst := at_policy_Book_close (pv := .pointer (some ⟨b11, 0, none⟩)) (x := ({ l := [] } : policy_Book)) hst rfl
  obtain rfl := some_inj hm
  refine post_ret (vs := [.pointer (some ⟨b11, 0, none⟩)]) Try.results9 (rvs_cons (rv_tmp rfl) rvs_nil) ?_
  exact ⟨.pointer (some ⟨b11, 0, none⟩), rfl, hst.keep1⟩

theorem policy_Book_Revoke_ref {w0 w : World} {I : HL} {R : SP} {a0 : (Option policy_Book)} {p0 : Value} {a1 : Int} {a2 : Int}  (hst : St w0 w I [objO at_policy_Book p0 a0] R) {r : (Bool × (Option policy_Book))} (hm : policy_Book_Revoke a0 a1 a2 = some r) :
    Calls Try.prog 13 #[p0, .int .u64 a1, .int .u64 a2] w fun e w' => e = .returned (.bool r.1) ∧ St w0 w' I [objO at_policy_Book p0 r.2] R := by
  rcases a0 with _ | o0
  · skip
    obtain ⟨rfl, hst'⟩ := objO_none hst
    clear hst
    have hst := hst'
    clear hst'
    dsimp only [policy_Book_Revoke] at hm
    refine calls_start (args := [.pointer none, .int .u64 a1, .int .u64 a2]) Try.func13 rfl Try.ntmps13 (Nat.le_of_ble_eq_true rfl) ?_
    refine wp_seq ?_
    refine wp_region_lit ?_
    refine wl_val (v := .bool false) rfl rfl rfl ?_
    refine wl_nil ?_
    refine then_n ?_
    refine wp_seq ?_
    refine wp_seq ?_
    refine wp_region_lit ?_
    refine wl_val (v := .pointer none) rfl rfl rfl ?_
    refine wl_val (v := .bool true) rfl rfl (by kernel_rfl) ?_
    refine wl_nil ?_
    refine then_n ?_
    refine wp_ift rfl ?_
    refine wp_seq ?_
    refine wp_region_lit ?_
    refine wl_val (v := .bool false) rfl rfl rfl ?_
    refine wl_nil ?_
    refine then_n ?_
    refine wp_ret ?_
    refine then_r ?_
    replace hst := hst.objO_nil at_policy_Book
    obtain rfl := some_inj hm
    refine post_ret (vs := [.bool false]) Try.results13 (rvs_cons (rv_tmp rfl) rvs_nil) ?_
    exact ⟨rfl, hst.keep1⟩
  · skip
    replace hst := objO_get hst
    dsimp only [policy_Book_Revoke] at hm
    refine calls_start (args := [p0, .int .u64 a1, .int .u64 a2]) Try.func13 rfl Try.ntmps13 (Nat.le_of_ble_eq_true rfl) ?_
    refine wp_seq ?_
    refine wp_region_lit ?_
    refine wl_val (v := .bool false) rfl rfl rfl ?_
    refine wl_nil ?_
    refine then_n ?_
    refine wp_seq ?_
    refine wp_seq ?_
    refine wp_region_lit ?_
    refine wl_val (v := p0) rfl rfl rfl ?_
    obtain ⟨b91, v92, rfl, hst'⟩ := at_policy_Book_open hst
    clear hst
    have hst := hst'
    clear hst'
    refine wl_val (v := .bool false) rfl rfl (by kernel_rfl) ?_
    refine wl_nil ?_
    refine then_n ?_
    refine wp_iff rfl ?_
    refine wp_skip ?_
    refine then_n ?_
    refine wp_seq ?_
    refine wp_region_lit ?_
    refine wl_val (v := .bool false) rfl rfl rfl ?_
    refine wl_nil ?_
    refine then_n ?_
    refine wp_seq ?_
    refine wp_seq ?_
    refine wp_region_lit ?_
    refine wl_val (v := .pointer (some ⟨b91, 0, none⟩)) rfl rfl rfl ?_
    refine wl_val (v := .pointer (some ⟨b91, 0, none⟩)) rfl rfl rfl ?_
    refine wl_val (v := .pointer (some ⟨b91, 0, none⟩)) rfl rfl (x_field rfl Try.underlying64 rfl Try.sizeOf62 rfl) ?_
    refine wl_val (v := v92) rfl rfl (x_load rfl Try.isAgg62 (hst.bc0 rfl)) ?_
    refine wl_val (v := .int .i64 ((o0.l).length : Int)) rfl rfl (x_len rfl Try.underlying62 hst.sv1) ?_
    refine wl_val (v := .int .i64 (0:Int)) rfl rfl rfl ?_
    refine wl_nil ?_
    refine then_n ?_
    refine wp_block ?_
    replace hst := hst.pull1
    replace hst := hst.pull1
    replace hst := at_policy_Book_close (pv := .pointer (some ⟨b91, 0, none⟩)) (x := o0) hst rfl
    obtain ⟨n133, hm⟩ := loopO_some hm
    refine wp_loop_n (fun n a w => ∃ (z129 : policy_Book) (z130 : Int) (z131 : Bool) (σ132 : Nat → Value), loopN (policy_Book_Revoke_l0 o0 a1 a2) n (z129, z130, z131) = some r ∧ a = Fr 52 (upd (upd (upd (upd (upd (upd σ132 0 (.pointer (some ⟨b91, 0, none⟩))) 1 (.int .u64 a1)) 2 (.int .u64 a2)) 7 (.bool z131)) 15 (.int .i64 ((o0.l).length : Int))) 16 (.int .i64 z130)) ∧ St w0 w I [at_policy_Book (.pointer (some ⟨b91, 0, none⟩)) z129] R) n133 ⟨o0, (0:Int), false, _, hm, ((fr_upd (t := 0) (v := .pointer (some ⟨b91, 0, none⟩)) rfl).trans ((fr_upd (t := 1) (v := .int .u64 a1) rfl).trans ((fr_upd (t := 2) (v := .int .u64 a2) rfl).trans ((fr_upd (t := 7) (v := .bool false) rfl).trans ((fr_upd (t := 15) (v := .int .i64 ((o0.l).length : Int)) rfl).trans ((fr_upd (t := 16) (v := .int .i64 (0:Int)) rfl).trans rfl)))))), hst⟩ ?_
    rintro n139 _ w134 ⟨z129, z130, z131, σ132, hm, rfl, hst⟩
    obtain ⟨n136, y137, rfl, hm, hx138⟩ := loopN_some hm
    dsimp only [policy_Book_Revoke_l0] at hm
    refine wp_seq ?_
    refine wp_region_lit ?_
    refine wl_val (v := .bool (decide (z130 < ((o0.l).length : Int)))) rfl rfl rfl ?_
    refine wl_nil ?_
    refine then_n ?_
    refine wp_seq ?_
    refine bsplit (decide (z130 < ((o0.l).length : Int))) (fun hc140 => ?_) (fun hc140 => ?_)
    · skip
      replace hm := bif_t hc140 hm
      refine wp_ift (congrArg Value.bool hc140) ?_
      refine wp_skip ?_
      refine then_n ?_
      refine wp_seq ?_
      refine wp_block ?_
      refine wp_seq ?_
      refine wp_region_lit ?_
      refine wl_val (v := .int .i64 z130) rfl rfl rfl ?_
      refine wl_val (v := .int .i64 z130) rfl rfl rfl ?_
      refine wl_nil ?_
      refine then_n ?_
      refine wp_seq ?_
      refine wp_region_lit ?_
      refine wl_val (v := .pointer (some ⟨b91, 0, none⟩)) rfl rfl rfl ?_
      obtain ⟨b141, v142, e144, hst'⟩ := at_policy_Book_open hst
      clear hst
      have e144 := ptr_inj e144
      subst e144
      have hst := hst'
      clear hst'
      refine wl_val (v := .pointer (some ⟨b91, 0, none⟩)) rfl rfl rfl ?_
      refine wl_val (v := .pointer (some ⟨b91, 0, none⟩)) rfl rfl (x_field rfl Try.underlying64 rfl Try.sizeOf62 rfl) ?_
      refine wl_val (v := v142) rfl rfl (x_load rfl Try.isAgg62 (hst.bc0 rfl)) ?_
      refine wl_val (v := .int .i64 z130) rfl rfl rfl ?_
      obtain ⟨x145, hx146, hm⟩ := bind_some hm
      obtain ⟨h147, h148, hi149⟩ := geto_some hx146
      refine wl_val (v := .pointer (some (eAddr v142 (z130.toNat * 9 + 0)))) rfl rfl (x_index rfl rfl Try.underlying62 Try.sizeOf66 hst.sv1 h147 h148) ?_
      refine wl_val (v := .pointer (some (eAddr v142 (z130.toNat * 9 + 0)))) rfl rfl (x_field_e rfl Try.underlying66 rfl Try.sizeOf30 rfl) ?_
      refine wl_val (v := .pointer (some (eAddr v142 (z130.toNat * 9 + 0)))) rfl rfl (x_field_e rfl Try.underlying30 rfl Try.sizeOf27 rfl) ?_
      refine wl_val (v := .int .u64 x145.r.ID) rfl rfl (x_load rfl Try.isAgg27 (hst.ol1 hi149 (by rintro _ rfl; rfl))) ?_
      refine wl_val (v := .int .u64 a1) rfl rfl rfl ?_
      refine wl_val (v := .bool (x145.r.ID == a1)) rfl rfl rfl ?_
      refine wl_val (v := .bool (x145.r.ID == a1)) rfl rfl rfl ?_
      refine bsplit (x145.r.ID == a1) (fun hc150 => ?_) (fun hc150 => ?_)
      · skip
        replace hm := bif_t hc150 hm
        refine wl_val (v := .pointer (some ⟨b91, 0, none⟩)) ((wanted_eq rfl rfl rfl (congrArg Value.bool hc150)).trans rfl) rfl rfl ?_
        refine wl_val (v := .pointer (some ⟨b91, 0, none⟩)) ((wanted_eq rfl rfl rfl (congrArg Value.bool hc150)).trans rfl) rfl rfl ?_
        refine wl_val (v := .pointer (some ⟨b91, 0, none⟩)) ((wanted_eq rfl rfl rfl (congrArg Value.bool hc150)).trans rfl) rfl (x_field rfl Try.underlying64 rfl Try.sizeOf62 rfl) ?_
        refine wl_val (v := v142) ((wanted_eq rfl rfl rfl (congrArg Value.bool hc150)).trans rfl) rfl (x_load rfl Try.isAgg62 (hst.bc0 rfl)) ?_
        refine wl_val (v := .int .i64 z130) ((wanted_eq rfl rfl rfl (congrArg Value.bool hc150)).trans rfl) rfl rfl ?_
        refine wl_val (v := .pointer (some (eAddr v142 (z130.toNat * 9 + 0)))) ((wanted_eq rfl rfl rfl (congrArg Value.bool hc150)).trans rfl) rfl (x_index rfl rfl Try.underlying62 Try.sizeOf66 hst.sv1 h147 h148) ?_
        refine wl_val (v := .pointer (some (eAddr v142 (z130.toNat * 9 + 8)))) ((wanted_eq rfl rfl rfl (congrArg Value.bool hc150)).trans rfl) rfl (x_field_e rfl Try.underlying66 rfl Try.sizeOf27 rfl) ?_
        refine wl_val (v := .int .u64 x145.to_) ((wanted_eq rfl rfl rfl (congrArg Value.bool hc150)).trans rfl) rfl (x_load rfl Try.isAgg27 (hst.ol1 hi149 (by rintro _ rfl; rfl))) ?_
        refine wl_val (v := .bool (x145.to_ == (0:Int))) ((wanted_eq rfl rfl rfl (congrArg Value.bool hc150)).trans rfl) rfl rfl ?_
        refine wl_val (v := .bool (x145.to_ == (0:Int))) rfl rfl (x_pick_t hc150 rfl rfl) ?_
        refine wl_nil ?_
        refine then_n ?_
        refine bsplit (x145.to_ == (0:Int)) (fun hc151 => ?_) (fun hc151 => ?_)
        · skip
          replace hm := bif_t hc151 hm
          refine wp_ift (congrArg Value.bool hc151) ?_
          refine wp_region_lit ?_
          refine wl_val (v := .pointer (some ⟨b91, 0, none⟩)) rfl rfl rfl ?_
          refine wl_val (v := .pointer (some ⟨b91, 0, none⟩)) rfl rfl rfl ?_
          refine wl_val (v := .pointer (some ⟨b91, 0, none⟩)) rfl rfl (x_field rfl Try.underlying64 rfl Try.sizeOf62 rfl) ?_
          refine wl_val (v := v142) rfl rfl (x_load rfl Try.isAgg62 (hst.bc0 rfl)) ?_
          refine wl_val (v := .int .i64 z130) rfl rfl rfl ?_
          refine wl_val (v := .int .u64 a2) rfl rfl rfl ?_
          refine wl_val (v := .int .u64 (if (1:Int) > a2 then (1:Int) else a2)) rfl rfl (by kernel_rfl) ?_
          refine wl_val (v := .pointer (some (eAddr v142 (z130.toNat * 9 + 0)))) rfl rfl (x_index rfl rfl Try.underlying62 Try.sizeOf66 hst.sv1 h147 h148) ?_
          refine wl_val (v := .pointer (some (eAddr v142 (z130.toNat * 9 + 8)))) rfl rfl (x_field_e rfl Try.underlying66 rfl Try.sizeOf27 rfl) ?_
          replace hst := hst.pull1
          obtain ⟨w152, hr153, hst⟩ := hst.own_store (P := Try.prog) (t := 27) (y := ({ r := x145.r, from_ := x145.from_, to_ := (if (1:Int) > a2 then (1:Int) else a2) } : policy_line)) hi149 8 (.int .u64 (if (1:Int) > a2 then (1:Int) else a2)) Try.sizeOf27 (Nat.le_of_ble_eq_true rfl) (ones_cons rfl ones_nil) (by rintro _ rfl; rfl)
          have hi154 := set_get hi149 ({ r := x145.r, from_ := x145.from_, to_ := (if (1:Int) > a2 then (1:Int) else a2) } : policy_line)
          have h155 := set_lt h148 z130.toNat ({ r := x145.r, from_ := x145.from_, to_ := (if (1:Int) > a2 then (1:Int) else a2) } : policy_line)
          refine wl_unit rfl rfl (x_unit hr153) ?_
          refine wl_val (v := .bool true) rfl rfl rfl ?_
          refine wl_nil ?_
          refine blk_n ?_
          refine then_n ?_
          refine wp_region_lit ?_
          refine wl_val (v := .int .i64 (IntKind.i64.wrap (z130 + (1:Int)))) rfl rfl rfl ?_
          refine wl_val (v := .int .i64 (IntKind.i64.wrap (z130 + (1:Int)))) rfl rfl rfl ?_
          refine wl_nil ?_
          refine then_n ?_
          replace hst := hst.pull1
          replace hst := at_policy_Book_close (pv := .pointer (some ⟨b91, 0, none⟩)) (x := ({ l := (z129.l.set z130.toNat ({ r := x145.r, from_ := x145.from_, to_ := (if (1:Int) > a2 then (1:Int) else a2) } : policy_line)) } : policy_Book)) hst rfl
          replace hst := hst.keep1
          obtain rfl := some_inj hm
          exact ⟨_, Nat.lt_succ_self _, ({ l := (z129.l.set z130.toNat ({ r := x145.r, from_ := x145.from_, to_ := (if (1:Int) > a2 then (1:Int) else a2) } : policy_line)) } : policy_Book), (IntKind.i64.wrap (z130 + (1:Int))), true, _, hx138, ((fr_upd (t := 0) (v := .pointer (some ⟨b91, 0, none⟩)) rfl).trans ((fr_upd (t := 1) (v := .int .u64 a1) rfl).trans ((fr_upd (t := 2) (v := .int .u64 a2) rfl).trans ((fr_upd (t := 7) (v := .bool true) rfl).trans ((fr_upd (t := 15) (v := .int .i64 ((o0.l).length : Int)) rfl).trans ((fr_upd (t := 16) (v := .int .i64 (IntKind.i64.wrap (z130 + (1:Int)))) rfl).trans rfl)))))), hst⟩
        · skip
          replace hm := bif_f hc151 hm
          refine wp_iff (congrArg Value.bool hc151) ?_
          refine wp_skip ?_
          refine blk_n ?_
          refine then_n ?_
          refine wp_region_lit ?_
          refine wl_val (v := .int .i64 (IntKind.i64.wrap (z130 + (1:Int)))) rfl rfl rfl ?_
          refine wl_val (v := .int .i64 (IntKind.i64.wrap (z130 + (1:Int)))) rfl rfl rfl ?_
          refine wl_nil ?_
          refine then_n ?_
          replace hst := hst.pull1
          replace hst := hst.pull1
          replace hst := at_policy_Book_close (pv := .pointer (some ⟨b91, 0, none⟩)) (x := z129) hst rfl
          replace hst := hst.keep1
          obtain rfl := some_inj hm
          exact ⟨_, Nat.lt_succ_self _, z129, (IntKind.i64.wrap (z130 + (1:Int))), z131, _, hx138, ((fr_upd (t := 0) (v := .pointer (some ⟨b91, 0, none⟩)) rfl).trans ((fr_upd (t := 1) (v := .int .u64 a1) rfl).trans ((fr_upd (t := 2) (v := .int .u64 a2) rfl).trans ((fr_upd (t := 7) (v := .bool z131) rfl).trans ((fr_upd (t := 15) (v := .int .i64 ((o0.l).length : Int)) rfl).trans ((fr_upd (t := 16) (v := .int .i64 (IntKind.i64.wrap (z130 + (1:Int)))) rfl).trans rfl)))))), hst⟩
      · skip
        replace hm := bif_f hc150 hm
        refine wl_off ((wanted_eq rfl rfl rfl (congrArg Value.bool hc150)).trans rfl) rfl ?_
        refine wl_off ((wanted_eq rfl rfl rfl (congrArg Value.bool hc150)).trans rfl) rfl ?_
        refine wl_off ((wanted_eq rfl rfl rfl (congrArg Value.bool hc150)).trans rfl) rfl ?_
        refine wl_off ((wanted_eq rfl rfl rfl (congrArg Value.bool hc150)).trans rfl) rfl ?_
        refine wl_off ((wanted_eq rfl rfl rfl (congrArg Value.bool hc150)).trans rfl) rfl ?_
        refine wl_off ((wanted_eq rfl rfl rfl (congrArg Value.bool hc150)).trans rfl) rfl ?_
        refine wl_off ((wanted_eq rfl rfl rfl (congrArg Value.bool hc150)).trans rfl) rfl ?_
        refine wl_off ((wanted_eq rfl rfl rfl (congrArg Value.bool hc150)).trans rfl) rfl ?_
        refine wl_off ((wanted_eq rfl rfl rfl (congrArg Value.bool hc150)).trans rfl) rfl ?_
        refine wl_val (v := .bool false) rfl rfl (x_pick_f hc150 rfl rfl) ?_
        refine wl_nil ?_
        refine then_n ?_
        refine wp_iff rfl ?_
        refine wp_skip ?_
        refine blk_n ?_
        refine then_n ?_
        refine wp_region_lit ?_
        refine wl_val (v := .int .i64 (IntKind.i64.wrap (z130 + (1:Int)))) rfl rfl rfl ?_
        refine wl_val (v := .int .i64 (IntKind.i64.wrap (z130 + (1:Int)))) rfl rfl rfl ?_
        refine wl_nil ?_
        refine then_n ?_
        replace hst := hst.pull1
        replace hst := hst.pull1
        replace hst := at_policy_Book_close (pv := .pointer (some ⟨b91, 0, none⟩)) (x := z129) hst rfl
        replace hst := hst.keep1
        obtain rfl := some_inj hm
        exact ⟨_, Nat.lt_succ_self _, z129, (IntKind.i64.wrap (z130 + (1:Int))), z131, _, hx138, ((fr_upd (t := 0) (v := .pointer (some ⟨b91, 0, none⟩)) rfl).trans ((fr_upd (t := 1) (v := .int .u64 a1) rfl).trans ((fr_upd (t := 2) (v := .int .u64 a2) rfl).trans ((fr_upd (t := 7) (v := .bool z131) rfl).trans ((fr_upd (t := 15) (v := .int .i64 ((o0.l).length : Int)) rfl).trans ((fr_upd (t := 16) (v := .int .i64 (IntKind.i64.wrap (z130 + (1:Int)))) rfl).trans rfl)))))), hst⟩
    · skip
      replace hm := bif_f hc140 hm
      refine wp_iff (congrArg Value.bool hc140) ?_
      refine wp_exit ?_
      refine then_x ?_
      refine then_x ?_
      replace hm := inr_up hm hx138
      refine blk_x ?_
      refine then_n ?_
      refine wp_seq ?_
      refine wp_region_lit ?_
      refine wl_val (v := .bool z131) rfl rfl rfl ?_
      refine wl_val (v := .bool z131) rfl rfl rfl ?_
      refine wl_nil ?_
      refine then_n ?_
      refine wp_ret ?_
      replace hst := objO_some hst
      obtain rfl := some_inj hm
      refine post_ret (vs := [.bool z131]) Try.results13 (rvs_cons (rv_tmp rfl) rvs_nil) ?_
      exact ⟨rfl, hst.keep1⟩

theorem policy_Book_Grant_ref {w0 w : World} {I : HL} {R : SP} {a0 : (Option policy_Book)} {p0 : Value} {a1 : api_Rule} {a2 : Int}  (hst : St w0 w I [objO at_policy_Book p0 a0] R) {r : ((Option policy_Book))} (hm : policy_Book_Grant a0 a1 a2 = some r) :
    Calls Try.prog 10 #[p0, .agg #[.int .u64 a1.ID, .int .i64 a1.From, .int .i64 a1.To, .float .f64 a1.Lo, .float .f64 a1.Hi, .int .u64 a1.Authority, .int .i64 a1.Quota], .int .u64 a2] w fun e w' => e = .returned (.tuple #[]) ∧ St w0 w' I [objO at_policy_Book p0 r] R := by
  rcases a0 with _ | o0
  · skip
    obtain ⟨rfl, hst'⟩ := objO_none hst
    clear hst
    have hst := hst'
    clear hst'
    dsimp only [policy_Book_Grant] at hm
    refine calls_start (args := [.pointer none, .agg #[.int .u64 a1.ID, .int .i64 a1.From, .int .i64 a1.To, .float .f64 a1.Lo, .float .f64 a1.Hi, .int .u64 a1.Authority, .int .i64 a1.Quota], .int .u64 a2]) Try.func10 rfl Try.ntmps10 (Nat.le_of_ble_eq_true rfl) ?_
    refine wp_seq ?_
    refine wp_region_lit ?_
    obtain ⟨b47, w48, ew49, eb50, hst⟩ := hst.box [.int .u64 a1.ID, .int .i64 a1.From, .int .i64 a1.To, .float .f64 a1.Lo, .float .f64 a1.Hi, .int .u64 a1.Authority, .int .i64 a1.Quota] 30
    refine wl_run (v := .pointer (some ⟨b47, 0, none⟩)) (w' := w48) rfl rfl (x_al (by kernel_rfl) ew49 eb50) ?_
    refine wl_nil ?_
    refine then_n ?_
    refine wp_seq ?_
    refine wp_seq ?_
    refine wp_region_lit ?_
    refine wl_val (v := .pointer none) rfl rfl rfl ?_
    refine wl_val (v := .bool true) rfl rfl (by kernel_rfl) ?_
    refine wl_nil ?_
    refine then_n ?_
    refine wp_ift rfl ?_
    refine wp_ret ?_
    refine then_r ?_
    replace hst := hst.objO_nil at_policy_Book
    obtain rfl := some_inj hm
    refine post_ret (vs := []) Try.results10 rvs_nil ?_
    exact ⟨rfl, hst.keep1⟩
  · skip
    replace hst := objO_get hst
    dsimp only [policy_Book_Grant] at hm
    refine calls_start (args := [p0, .agg #[.int .u64 a1.ID, .int .i64 a1.From, .int .i64 a1.To, .float .f64 a1.Lo, .float .f64 a1.Hi, .int .u64 a1.Authority, .int .i64 a1.Quota], .int .u64 a2]) Try.func10 rfl Try.ntmps10 (Nat.le_of_ble_eq_true rfl) ?_
    refine wp_seq ?_
    refine wp_region_lit ?_
    obtain ⟨b52, w53, ew54, eb55, hst⟩ := hst.box [.int .u64 a1.ID, .int .i64 a1.From, .int .i64 a1.To, .float .f64 a1.Lo, .float .f64 a1.Hi, .int .u64 a1.Authority, .int .i64 a1.Quota] 30
    refine wl_run (v := .pointer (some ⟨b52, 0, none⟩)) (w' := w53) rfl rfl (x_al (by kernel_rfl) ew54 eb55) ?_
    refine wl_nil ?_
    refine then_n ?_
    refine wp_seq ?_
    refine wp_seq ?_
    refine wp_region_lit ?_
    refine wl_val (v := p0) rfl rfl rfl ?_
    replace hst := hst.pull1
    obtain ⟨b57, v58, rfl, hst'⟩ := at_policy_Book_open hst
    clear hst
    have hst := hst'
    clear hst'
    refine wl_val (v := .bool false) rfl rfl (by kernel_rfl) ?_
    refine wl_nil ?_
    refine then_n ?_
    refine wp_iff rfl ?_
    refine wp_skip ?_
    refine then_n ?_
    refine wp_seq ?_
    refine wp_region_lit ?_
    refine wl_val (v := .pointer (some ⟨b57, 0, none⟩)) rfl rfl rfl ?_
    refine wl_val (v := .pointer (some ⟨b52, 0, none⟩)) rfl rfl (x_field rfl Try.underlying30 rfl Try.sizeOf27 rfl) ?_
    refine wl_val (v := .int .u64 a1.ID) rfl rfl (x_load rfl Try.isAgg27 (hst.bc2 rfl)) ?_
    refine wl_val (v := .int .u64 a2) rfl rfl rfl ?_
    replace hst := hst.pull1
    replace hst := hst.pull1
    replace hst := at_policy_Book_close (pv := .pointer (some ⟨b57, 0, none⟩)) (x := o0) hst rfl
    replace hst := objO_some hst
    obtain ⟨t60, ht61, hm⟩ := bind_some hm
    refine wl_call rfl rfl (x_call Try.call13 rfl (vs := [.pointer (some ⟨b57, 0, none⟩), .int .u64 a1.ID, .int .u64 a2]) rfl) ?_
    refine (policy_Book_Revoke_ref hst.to1 ht61).mono ?_
    rintro _ w62 ⟨rfl, hst⟩
    refine ⟨_, rfl, ?_⟩
    replace hst := hst.of1
    rcases he66 : t60.2 with _ | y65
    · rw [he66] at hm; cases hm
    rw [he66] at hm hst; dsimp only at hm; replace hst := objO_get hst
    refine wl_nil ?_
    refine then_n ?_
    obtain ⟨b67, v68, e70, hst'⟩ := at_policy_Book_open hst
    clear hst
    have e70 := ptr_inj e70
    subst e70
    have hst := hst'
    clear hst'
    refine wp_region_St hst [(0, false), (1, false), (2, false), (3, false), (4, false), (5, false), (6, false), (7, false), (8, true), (9, true), (10, false), (11, false), (12, true)] Try.mixed (by kernel_rfl) (by decide) ?_
    refine ws_q (v := .pointer (some ⟨b57, 0, none⟩)) rfl rfl (yi_run rfl (fun w hst => rfl)) ?_
    refine ws_q (v := .pointer (some ⟨b57, 0, none⟩)) rfl rfl (yi_run rfl (fun w hst => rfl)) ?_
    refine ws_q (v := .pointer (some ⟨b57, 0, none⟩)) rfl rfl (yi_run rfl (fun w hst => rfl)) ?_
    refine ws_q (v := .pointer (some ⟨b57, 0, none⟩)) rfl rfl (yi_run rfl (fun w hst => x_field rfl Try.underlying64 rfl Try.sizeOf62 rfl)) ?_
    refine ws_q (v := v68) rfl rfl (yi_run rfl (fun w hst => x_load rfl Try.isAgg62 (hst.bc0 rfl))) ?_
    refine ws_q (v := .agg #[.int .u64 a1.ID, .int .i64 a1.From, .int .i64 a1.To, .float .f64 a1.Lo, .float .f64 a1.Hi, .int .u64 a1.Authority, .int .i64 a1.Quota]) rfl rfl (yi_run rfl (fun w hst => x_loadN (cs := [.int .u64 a1.ID, .int .i64 a1.From, .int .i64 a1.To, .float .f64 a1.Lo, .float .f64 a1.Hi, .int .u64 a1.Authority, .int .i64 a1.Quota]) rfl Try.isAgg30 Try.sizeOf30 (hst.bcs2 0 rfl))) ?_
    refine ws_q (v := .int .u64 a2) rfl rfl (yi_run rfl (fun w hst => rfl)) ?_
    refine ws_q (v := .agg #[.int .u64 a1.ID, .int .i64 a1.From, .int .i64 a1.To, .float .f64 a1.Lo, .float .f64 a1.Hi, .int .u64 a1.Authority, .int .i64 a1.Quota, .int .u64 a2, .int .u64 (0:Int)]) rfl rfl (yi_run rfl (fun w hst => by kernel_rfl)) ?_
    refine ws_e rfl rfl ?_
    clear hst
    intro w hst
    obtain ⟨b71, w72, ew73, eb74, hst⟩ := hst.lits (E := ty_policy_line) (xs := [({ r := a1, from_ := a2, to_ := (0:Int) } : policy_line)]) [[.int .u64 a1.ID, .int .i64 a1.From, .int .i64 a1.To, .float .f64 a1.Lo, .float .f64 a1.Hi, .int .u64 a1.Authority, .int .i64 a1.Quota, .int .u64 a2, .int .u64 (0:Int)]] 66 1 rfl (Reps.cons rfl Reps.nil)
    refine we_run (v := (.slice (some ⟨b71, 0, none⟩) 1 1)) (w' := w72) rfl (x_als (by kernel_rfl) ew73 eb74) ?_
    refine ws_next (pend' := [(4, v68), (3, .pointer (some ⟨b57, 0, none⟩)), (2, .pointer (some ⟨b57, 0, none⟩)), (1, .pointer (some ⟨b57, 0, none⟩)), (0, .pointer (some ⟨b57, 0, none⟩))]) hst (by kernel_rfl) (pk_cons rfl (yi_run rfl (fun w hst => x_load rfl Try.isAgg62 (hst.bc1 rfl))) (pk_cons rfl (yi_run rfl (fun w hst => x_field rfl Try.underlying64 rfl Try.sizeOf62 rfl)) (pk_cons rfl (yi_run rfl (fun w hst => rfl)) (pk_cons rfl (yi_run rfl (fun w hst => rfl)) (pk_cons rfl (yi_run rfl (fun w hst => rfl)) pk_nil))))) ?_
    refine ws_e rfl rfl ?_
    clear hst
    intro w hst
    obtain ⟨hg76, hm⟩ := gd_some hm
    replace hst := hst.pull2
    obtain ⟨v77, w78, hr79, hst⟩ := run_append elem_62 Try.underlying62 hst hst.src1 (room_of hg76 rfl) 62
    refine we_run (v := v77) (w' := w78) rfl (x_append rfl rfl hr79) ?_
    refine ws_next (pend' := [(0, .pointer (some ⟨b57, 0, none⟩))]) hst (by kernel_rfl) (pk_cons rfl (yi_run rfl (fun w hst => rfl)) pk_nil) ?_
    refine ws_q (v := .pointer (some ⟨b57, 0, none⟩)) rfl rfl (yi_run rfl (fun w hst => rfl)) ?_
    refine ws_q (v := .pointer (some ⟨b57, 0, none⟩)) rfl rfl (yi_run rfl (fun w hst => x_field rfl Try.underlying64 rfl Try.sizeOf62 rfl)) ?_
    refine ws_e rfl rfl ?_
    clear hst
    intro w hst
    replace hst := hst.pull2
    obtain ⟨w80, hr81, hst⟩ := hst.boxStore1 (P := Try.prog) (t := 62) (cs' := [v77]) 0 v77 (one_of_sliceV hst.sv1) Try.sizeOf62 rfl rfl
    refine we_unit rfl (x_unit hr81) ?_
    refine ws_next (pend' := []) hst (by kernel_rfl) pk_nil ?_
    refine ws_nil ?_
    intro w hst
    replace hst := hst.pull1
    replace hst := hst.pull1
    replace hst := at_policy_Book_close (pv := .pointer (some ⟨b57, 0, none⟩)) (x := ({ l := (y65.l ++ ([({ r := a1, from_ := a2, to_ := (0:Int) } : policy_line)])) } : policy_Book)) hst rfl
    replace hst := objO_some hst
    obtain rfl := some_inj hm
    refine post_end (vs := []) Try.results10 rvs_nil ?_
    exact ⟨rfl, hst.keep1⟩

theorem policy_Book_At_ref {w0 w : World} {I : HL} {R : SP} {a0 : (Option policy_Book)} {p0 : Value} {a1 : Int} {a2 : Int}  (hst : St w0 w I [objO at_policy_Book p0 a0] R) {r : (api_Rule × Bool)} (hm : policy_Book_At a0 a1 a2 = some r) :
    Calls Try.prog 11 #[p0, .int .u64 a1, .int .u64 a2] w fun e w' => e = .returned (.tuple #[.agg #[.int .u64 r.1.ID, .int .i64 r.1.From, .int .i64 r.1.To, .float .f64 r.1.Lo, .float .f64 r.1.Hi, .int .u64 r.1.Authority, .int .i64 r.1.Quota], .bool r.2]) ∧ St w0 w' I [objO at_policy_Book p0 a0] R := by
  rcases a0 with _ | o0
  · skip
    obtain ⟨rfl, hst'⟩ := objO_none hst
    clear hst
    have hst := hst'
    clear hst'
    dsimp only [policy_Book_At] at hm
    refine calls_start (args := [.pointer none, .int .u64 a1, .int .u64 a2]) Try.func11 rfl Try.ntmps11 (Nat.le_of_ble_eq_true rfl) ?_
    refine wp_seq ?_
    refine wp_region_lit ?_
    obtain ⟨b128, w129, ew130, eb131, hst⟩ := hst.box [.int .u64 (0:Int), .int .i64 (0:Int), .int .i64 (0:Int), .float .f64 (0:Nat), .float .f64 (0:Nat), .int .u64 (0:Int), .int .i64 (0:Int)] 30
    refine wl_run (v := .pointer (some ⟨b128, 0, none⟩)) (w' := w129) rfl rfl (x_al (by kernel_rfl) ew130 eb131) ?_
    refine wl_val (v := .bool false) rfl rfl rfl ?_
    refine wl_nil ?_
    refine then_n ?_
    refine wp_seq ?_
    refine wp_seq ?_
    refine wp_region_lit ?_
    refine wl_val (v := .pointer none) rfl rfl rfl ?_
    refine wl_val (v := .bool true) rfl rfl (by kernel_rfl) ?_
    refine wl_nil ?_
    refine then_n ?_
    refine wp_ift rfl ?_
    refine wp_seq ?_
    refine wp_region_lit ?_
    refine wl_val (v := .agg #[.int .u64 (0:Int), .int .i64 (0:Int), .int .i64 (0:Int), .float .f64 (0:Nat), .float .f64 (0:Nat), .int .u64 (0:Int), .int .i64 (0:Int)]) rfl rfl (by kernel_rfl) ?_
    obtain ⟨w133, hr134, hst⟩ := hst.boxStore (P := Try.prog) (t := 30) (cs' := [.int .u64 (0:Int), .int .i64 (0:Int), .int .i64 (0:Int), .float .f64 (0:Nat), .float .f64 (0:Nat), .int .u64 (0:Int), .int .i64 (0:Int)]) 0 (.agg #[.int .u64 (0:Int), .int .i64 (0:Int), .int .i64 (0:Int), .float .f64 (0:Nat), .float .f64 (0:Nat), .int .u64 (0:Int), .int .i64 (0:Int)]) Try.sizeOf30 (Nat.le_of_ble_eq_true rfl) (ones_cons rfl (ones_cons rfl (ones_cons rfl (ones_cons rfl (ones_cons rfl (ones_cons rfl (ones_cons rfl ones_nil))))))) rfl
    refine wl_unit rfl rfl (x_unit hr134) ?_
    refine wl_val (v := .bool false) rfl rfl rfl ?_
    refine wl_nil ?_
    refine then_n ?_
    refine wp_ret ?_
    refine then_r ?_
    replace hst := hst.objO_nil at_policy_Book
    obtain rfl := some_inj hm
    refine post_ret (vs := [.agg #[.int .u64 (0:Int), .int .i64 (0:Int), .int .i64 (0:Int), .float .f64 (0:Nat), .float .f64 (0:Nat), .int .u64 (0:Int), .int .i64 (0:Int)], .bool false]) Try.results11 (rvs_cons (rv_cell (cs := [.int .u64 (0:Int), .int .i64 (0:Int), .int .i64 (0:Int), .float .f64 (0:Nat), .float .f64 (0:Nat), .int .u64 (0:Int), .int .i64 (0:Int)]) rfl Try.isAgg30 Try.sizeOf30 (hst.bcs1 0 rfl)) (rvs_cons (rv_tmp rfl) rvs_nil)) ?_
    exact ⟨rfl, hst.keep1⟩
  · skip
    replace hst := objO_get hst
    dsimp only [policy_Book_At] at hm
    refine calls_start (args := [p0, .int .u64 a1, .int .u64 a2]) Try.func11 rfl Try.ntmps11 (Nat.le_of_ble_eq_true rfl) ?_
    refine wp_seq ?_
    refine wp_region_lit ?_
    obtain ⟨b135, w136, ew137, eb138, hst⟩ := hst.box [.int .u64 (0:Int), .int .i64 (0:Int), .int .i64 (0:Int), .float .f64 (0:Nat), .float .f64 (0:Nat), .int .u64 (0:Int), .int .i64 (0:Int)] 30
    refine wl_run (v := .pointer (some ⟨b135, 0, none⟩)) (w' := w136) rfl rfl (x_al (by kernel_rfl) ew137 eb138) ?_
    refine wl_val (v := .bool false) rfl rfl rfl ?_
    refine wl_nil ?_
    refine then_n ?_
    refine wp_seq ?_
    refine wp_seq ?_
    refine wp_region_lit ?_
    refine wl_val (v := p0) rfl rfl rfl ?_
    replace hst := hst.pull1
    obtain ⟨b140, v141, rfl, hst'⟩ := at_policy_Book_open hst
    clear hst
    have hst := hst'
    clear hst'
    refine wl_val (v := .bool false) rfl rfl (by kernel_rfl) ?_
    refine wl_nil ?_
    refine then_n ?_
    refine wp_iff rfl ?_
    refine wp_skip ?_
    refine then_n ?_
    refine wp_seq ?_
    refine wp_seq ?_
    refine wp_region_lit ?_
    refine wl_val (v := .pointer (some ⟨b140, 0, none⟩)) rfl rfl rfl ?_
    refine wl_val (v := .pointer (some ⟨b140, 0, none⟩)) rfl rfl rfl ?_
    refine wl_val (v := .pointer (some ⟨b140, 0, none⟩)) rfl rfl (x_field rfl Try.underlying64 rfl Try.sizeOf62 rfl) ?_
    refine wl_val (v := v141) rfl rfl (x_load rfl Try.isAgg62 (hst.bc0 rfl)) ?_
    refine wl_val (v := .int .i64 ((o0.l).length : Int)) rfl rfl (x_len rfl Try.underlying62 hst.sv1) ?_
    refine wl_val (v := .int .i64 (IntKind.i64.wrap (((o0.l).length : Int) - (1:Int)))) rfl rfl rfl ?_
    refine wl_val (v := .int .i64 (IntKind.i64.wrap (((o0.l).length : Int) - (1:Int)))) rfl rfl rfl ?_
    refine wl_nil ?_
    refine then_n ?_
    refine wp_block ?_
    replace hst := hst.pull1
    replace hst := hst.pull1
    replace hst := at_policy_Book_close (pv := .pointer (some ⟨b140, 0, none⟩)) (x := o0) hst rfl
    obtain ⟨n196, hm⟩ := loopO_some hm
    refine wp_loop_n (fun n a w => ∃ (z194 : Int) (σ195 : Nat → Value), loopN (policy_Book_At_l0 o0 a1 a2) n z194 = some r ∧ a = Fr 55 (upd (upd (upd (upd (upd σ195 0 (.pointer (some ⟨b140, 0, none⟩))) 1 (.int .u64 a1)) 2 (.int .u64 a2)) 6 (.pointer (some ⟨b135, 0, none⟩))) 8 (.int .i64 z194)) ∧ St w0 w I [at_policy_Book (.pointer (some ⟨b140, 0, none⟩)) o0, cells b135 [.int .u64 (0:Int), .int .i64 (0:Int), .int .i64 (0:Int), .float .f64 (0:Nat), .float .f64 (0:Nat), .int .u64 (0:Int), .int .i64 (0:Int)]] R) n196 ⟨(IntKind.i64.wrap (((o0.l).length : Int) - (1:Int))), _, hm, ((fr_upd (t := 0) (v := .pointer (some ⟨b140, 0, none⟩)) rfl).trans ((fr_upd (t := 1) (v := .int .u64 a1) rfl).trans ((fr_upd (t := 2) (v := .int .u64 a2) rfl).trans ((fr_upd (t := 6) (v := .pointer (some ⟨b135, 0, none⟩)) rfl).trans ((fr_upd (t := 8) (v := .int .i64 (IntKind.i64.wrap (((o0.l).length : Int) - (1:Int)))) rfl).trans rfl))))), hst⟩ ?_
    rintro n202 _ w197 ⟨z194, σ195, hm, rfl, hst⟩
    obtain ⟨n199, y200, rfl, hm, hx201⟩ := loopN_some hm
    dsimp only [policy_Book_At_l0] at hm
    refine wp_seq ?_
    refine wp_seq ?_
    refine wp_region_lit ?_
    refine wl_val (v := .int .i64 z194) rfl rfl rfl ?_
    refine wl_val (v := .bool (decide (z194 ≥ (0:Int)))) rfl rfl rfl ?_
    refine wl_nil ?_
    refine then_n ?_
    refine bsplit (decide (z194 ≥ (0:Int))) (fun hc203 => ?_) (fun hc203 => ?_)
    · skip
      replace hm := bif_t hc203 hm
      refine wp_ift (congrArg Value.bool hc203) ?_
      refine wp_skip ?_
      refine then_n ?_
      refine wp_seq ?_
      refine wp_block ?_
      refine wp_seq ?_
      refine wp_region_lit ?_
      refine wl_val (v := .pointer (some ⟨b140, 0, none⟩)) rfl rfl rfl ?_
      obtain ⟨b204, v205, e207, hst'⟩ := at_policy_Book_open hst
      clear hst
      have e207 := ptr_inj e207
      subst e207
      have hst := hst'
      clear hst'
      refine wl_val (v := .pointer (some ⟨b140, 0, none⟩)) rfl rfl rfl ?_
      refine wl_val (v := .pointer (some ⟨b140, 0, none⟩)) rfl rfl (x_field rfl Try.underlying64 rfl Try.sizeOf62 rfl) ?_
      refine wl_val (v := v205) rfl rfl (x_load rfl Try.isAgg62 (hst.bc0 rfl)) ?_
      refine wl_val (v := .int .i64 z194) rfl rfl rfl ?_
      obtain ⟨x208, hx209, hm⟩ := bind_some hm
      obtain ⟨h210, h211, hi212⟩ := geto_some hx209
      refine wl_val (v := .pointer (some (eAddr v205 (z194.toNat * 9 + 0)))) rfl rfl (x_index rfl rfl Try.underlying62 Try.sizeOf66 hst.sv1 h210 h211) ?_
      refine wl_val (v := .agg #[.int .u64 x208.r.ID, .int .i64 x208.r.From, .int .i64 x208.r.To, .float .f64 x208.r.Lo, .float .f64 x208.r.Hi, .int .u64 x208.r.Authority, .int .i64 x208.r.Quota, .int .u64 x208.from_, .int .u64 x208.to_]) rfl rfl (x_loadN (cs := [.int .u64 x208.r.ID, .int .i64 x208.r.From, .int .i64 x208.r.To, .float .f64 x208.r.Lo, .float .f64 x208.r.Hi, .int .u64 x208.r.Authority, .int .i64 x208.r.Quota, .int .u64 x208.from_, .int .u64 x208.to_]) rfl Try.isAgg66 Try.sizeOf66 (hst.olN1 hi212 0 (by rintro _ rfl; rfl))) ?_
      obtain ⟨b213, w214, ew215, eb216, hst⟩ := hst.box [.int .u64 (0:Int), .int .i64 (0:Int), .int .i64 (0:Int), .float .f64 (0:Nat), .float .f64 (0:Nat), .int .u64 (0:Int), .int .i64 (0:Int), .int .u64 (0:Int), .int .u64 (0:Int)] 66
      refine wl_run (v := .pointer (some ⟨b213, 0, none⟩)) (w' := w214) rfl rfl (x_al (by kernel_rfl) ew215 eb216) ?_
      obtain ⟨w218, hr219, hst⟩ := hst.boxStore (P := Try.prog) (t := 66) (cs' := [.int .u64 x208.r.ID, .int .i64 x208.r.From, .int .i64 x208.r.To, .float .f64 x208.r.Lo, .float .f64 x208.r.Hi, .int .u64 x208.r.Authority, .int .i64 x208.r.Quota, .int .u64 x208.from_, .int .u64 x208.to_]) 0 (.agg #[.int .u64 x208.r.ID, .int .i64 x208.r.From, .int .i64 x208.r.To, .float .f64 x208.r.Lo, .float .f64 x208.r.Hi, .int .u64 x208.r.Authority, .int .i64 x208.r.Quota, .int .u64 x208.from_, .int .u64 x208.to_]) Try.sizeOf66 (Nat.le_of_ble_eq_true rfl) (ones_cons rfl (ones_cons rfl (ones_cons rfl (ones_cons rfl (ones_cons rfl (ones_cons rfl (ones_cons rfl (ones_cons rfl (ones_cons rfl ones_nil))))))))) rfl
      refine wl_unit rfl rfl (x_unit hr219) ?_
      refine wl_nil ?_
      refine then_n ?_
      refine wp_seq ?_
      refine wp_region_lit ?_
      refine wl_val (v := .pointer (some ⟨b213, 0, none⟩)) rfl rfl (x_field rfl Try.underlying66 rfl Try.sizeOf30 rfl) ?_
      refine wl_val (v := .pointer (some ⟨b213, 0, none⟩)) rfl rfl (x_field rfl Try.underlying30 rfl Try.sizeOf27 rfl) ?_
      refine wl_val (v := .int .u64 x208.r.ID) rfl rfl (x_load rfl Try.isAgg27 (hst.bc0 rfl)) ?_
      refine wl_val (v := .int .u64 a1) rfl rfl rfl ?_
      refine wl_val (v := .bool (x208.r.ID == a1)) rfl rfl rfl ?_
      refine wl_val (v := .bool (x208.r.ID == a1)) rfl rfl rfl ?_
      refine bsplit (x208.r.ID == a1) (fun hc220 => ?_) (fun hc220 => ?_)
      · skip
        replace hm := bif_t hc220 hm
        refine wl_val (v := .pointer (some ⟨b213, 7, none⟩)) ((wanted_eq rfl rfl rfl (congrArg Value.bool hc220)).trans rfl) rfl (x_field rfl Try.underlying66 rfl Try.sizeOf27 rfl) ?_
        refine wl_val (v := .int .u64 x208.from_) ((wanted_eq rfl rfl rfl (congrArg Value.bool hc220)).trans rfl) rfl (x_load rfl Try.isAgg27 (hst.bc0 rfl)) ?_
        refine wl_val (v := .int .u64 a2) ((wanted_eq rfl rfl rfl (congrArg Value.bool hc220)).trans rfl) rfl rfl ?_
        refine wl_val (v := .bool (decide (x208.from_ ≤ a2))) ((wanted_eq rfl rfl rfl (congrArg Value.bool hc220)).trans rfl) rfl rfl ?_
        refine wl_val (v := .bool (decide (x208.from_ ≤ a2))) rfl rfl (x_pick_t hc220 rfl rfl) ?_
        refine wl_val (v := .bool (decide (x208.from_ ≤ a2))) rfl rfl rfl ?_
        refine bsplit (decide (x208.from_ ≤ a2)) (fun hc221 => ?_) (fun hc221 => ?_)
        · skip
          replace hm := bif_t hc221 hm
          refine wl_val (v := .pointer (some ⟨b213, 8, none⟩)) ((wanted_eq rfl rfl rfl (congrArg Value.bool hc221)).trans rfl) rfl (x_field rfl Try.underlying66 rfl Try.sizeOf27 rfl) ?_
          refine wl_val (v := .int .u64 x208.to_) ((wanted_eq rfl rfl rfl (congrArg Value.bool hc221)).trans rfl) rfl (x_load rfl Try.isAgg27 (hst.bc0 rfl)) ?_
          refine wl_val (v := .bool (x208.to_ == (0:Int))) ((wanted_eq rfl rfl rfl (congrArg Value.bool hc221)).trans rfl) rfl rfl ?_
          refine wl_val (v := .bool (x208.to_ == (0:Int))) ((wanted_eq rfl rfl rfl (congrArg Value.bool hc221)).trans rfl) rfl rfl ?_
          refine bsplit (x208.to_ == (0:Int)) (fun hc222 => ?_) (fun hc222 => ?_)
          · skip
            replace hm := bif_t hc222 hm
            refine wl_off ((wanted_eq rfl rfl rfl (congrArg Value.bool hc222)).trans rfl) rfl ?_
            refine wl_off ((wanted_eq rfl rfl rfl (congrArg Value.bool hc222)).trans rfl) rfl ?_
            refine wl_off ((wanted_eq rfl rfl rfl (congrArg Value.bool hc222)).trans rfl) rfl ?_
            refine wl_off ((wanted_eq rfl rfl rfl (congrArg Value.bool hc222)).trans rfl) rfl ?_
            refine wl_val (v := .bool true) ((wanted_eq rfl rfl rfl (congrArg Value.bool hc221)).trans rfl) rfl (x_pick_t hc222 rfl rfl) ?_
            refine wl_val (v := .bool true) rfl rfl (x_pick_t hc221 rfl rfl) ?_
            refine wl_nil ?_
            refine then_n ?_
            refine wp_ift rfl ?_
            refine wp_seq ?_
            refine wp_region_lit ?_
            refine wl_val (v := .pointer (some ⟨b213, 0, none⟩)) rfl rfl (x_field rfl Try.underlying66 rfl Try.sizeOf30 rfl) ?_
            refine wl_val (v := .agg #[.int .u64 x208.r.ID, .int .i64 x208.r.From, .int .i64 x208.r.To, .float .f64 x208.r.Lo, .float .f64 x208.r.Hi, .int .u64 x208.r.Authority, .int .i64 x208.r.Quota]) rfl rfl (x_loadN (cs := [.int .u64 x208.r.ID, .int .i64 x208.r.From, .int .i64 x208.r.To, .float .f64 x208.r.Lo, .float .f64 x208.r.Hi, .int .u64 x208.r.Authority, .int .i64 x208.r.Quota]) rfl Try.isAgg30 Try.sizeOf30 (hst.bcs0 0 rfl)) ?_
            replace hst := hst.pull3
            obtain ⟨w223, hr224, hst⟩ := hst.boxStore (P := Try.prog) (t := 30) (cs' := [.int .u64 x208.r.ID, .int .i64 x208.r.From, .int .i64 x208.r.To, .float .f64 x208.r.Lo, .float .f64 x208.r.Hi, .int .u64 x208.r.Authority, .int .i64 x208.r.Quota]) 0 (.agg #[.int .u64 x208.r.ID, .int .i64 x208.r.From, .int .i64 x208.r.To, .float .f64 x208.r.Lo, .float .f64 x208.r.Hi, .int .u64 x208.r.Authority, .int .i64 x208.r.Quota]) Try.sizeOf30 (Nat.le_of_ble_eq_true rfl) (ones_cons rfl (ones_cons rfl (ones_cons rfl (ones_cons rfl (ones_cons rfl (ones_cons rfl (ones_cons rfl ones_nil))))))) rfl
            refine wl_unit rfl rfl (x_unit hr224) ?_
            refine wl_val (v := .bool true) rfl rfl rfl ?_
            refine wl_nil ?_
            refine then_n ?_
            refine wp_ret ?_
            refine blk_r ?_
            refine then_r ?_
            refine then_r ?_
            replace hm := inr_up hm hx201
            refine blk_r ?_
            refine then_r ?_
            replace hst := hst.pull3
            replace hst := hst.pull3
            replace hst := at_policy_Book_close (pv := .pointer (some ⟨b140, 0, none⟩)) (x := o0) hst rfl
            replace hst := objO_some hst
            obtain rfl := some_inj hm
            refine post_ret (vs := [.agg #[.int .u64 x208.r.ID, .int .i64 x208.r.From, .int .i64 x208.r.To, .float .f64 x208.r.Lo, .float .f64 x208.r.Hi, .int .u64 x208.r.Authority, .int .i64 x208.r.Quota], .bool true]) Try.results11 (rvs_cons (rv_cell (cs := [.int .u64 x208.r.ID, .int .i64 x208.r.From, .int .i64 x208.r.To, .float .f64 x208.r.Lo, .float .f64 x208.r.Hi, .int .u64 x208.r.Authority, .int .i64 x208.r.Quota]) rfl Try.isAgg30 Try.sizeOf30 (hst.bcs1 0 rfl)) (rvs_cons (rv_tmp rfl) rvs_nil)) ?_
            exact ⟨rfl, hst.keep1⟩
          · skip
            replace hm := bif_f hc222 hm
            refine wl_val (v := .pointer (some ⟨b213, 8, none⟩)) ((wanted_eq rfl rfl rfl (congrArg Value.bool hc222)).trans rfl) rfl (x_field rfl Try.underlying66 rfl Try.sizeOf27 rfl) ?_
            refine wl_val (v := .int .u64 x208.to_) ((wanted_eq rfl rfl rfl (congrArg Value.bool hc222)).trans rfl) rfl (x_load rfl Try.isAgg27 (hst.bc0 rfl)) ?_
            refine wl_val (v := .int .u64 a2) ((wanted_eq rfl rfl rfl (congrArg Value.bool hc222)).trans rfl) rfl rfl ?_
            refine wl_val (v := .bool (decide (x208.to_ > a2))) ((wanted_eq rfl rfl rfl (congrArg Value.bool hc222)).trans rfl) rfl rfl ?_
            refine wl_val (v := .bool (decide (x208.to_ > a2))) ((wanted_eq rfl rfl rfl (congrArg Value.bool hc221)).trans rfl) rfl (x_pick_f hc222 rfl rfl) ?_
            refine wl_val (v := .bool (decide (x208.to_ > a2))) rfl rfl (x_pick_t hc221 rfl rfl) ?_
            refine wl_nil ?_
            refine then_n ?_
            refine bsplit (decide (x208.to_ > a2)) (fun hc225 => ?_) (fun hc225 => ?_)
            · skip
              replace hm := bif_t hc225 hm
              refine wp_ift (congrArg Value.bool hc225) ?_
              refine wp_seq ?_
              refine wp_region_lit ?_
              refine wl_val (v := .pointer (some ⟨b213, 0, none⟩)) rfl rfl (x_field rfl Try.underlying66 rfl Try.sizeOf30 rfl) ?_
              refine wl_val (v := .agg #[.int .u64 x208.r.ID, .int .i64 x208.r.From, .int .i64 x208.r.To, .float .f64 x208.r.Lo, .float .f64 x208.r.Hi, .int .u64 x208.r.Authority, .int .i64 x208.r.Quota]) rfl rfl (x_loadN (cs := [.int .u64 x208.r.ID, .int .i64 x208.r.From, .int .i64 x208.r.To, .float .f64 x208.r.Lo, .float .f64 x208.r.Hi, .int .u64 x208.r.Authority, .int .i64 x208.r.Quota]) rfl Try.isAgg30 Try.sizeOf30 (hst.bcs0 0 rfl)) ?_
              replace hst := hst.pull3
              obtain ⟨w226, hr227, hst⟩ := hst.boxStore (P := Try.prog) (t := 30) (cs' := [.int .u64 x208.r.ID, .int .i64 x208.r.From, .int .i64 x208.r.To, .float .f64 x208.r.Lo, .float .f64 x208.r.Hi, .int .u64 x208.r.Authority, .int .i64 x208.r.Quota]) 0 (.agg #[.int .u64 x208.r.ID, .int .i64 x208.r.From, .int .i64 x208.r.To, .float .f64 x208.r.Lo, .float .f64 x208.r.Hi, .int .u64 x208.r.Authority, .int .i64 x208.r.Quota]) Try.sizeOf30 (Nat.le_of_ble_eq_true rfl) (ones_cons rfl (ones_cons rfl (ones_cons rfl (ones_cons rfl (ones_cons rfl (ones_cons rfl (ones_cons rfl ones_nil))))))) rfl
              refine wl_unit rfl rfl (x_unit hr227) ?_
              refine wl_val (v := .bool true) rfl rfl rfl ?_
              refine wl_nil ?_
              refine then_n ?_
              refine wp_ret ?_
              refine blk_r ?_
              refine then_r ?_
              refine then_r ?_
              replace hm := inr_up hm hx201
              refine blk_r ?_
              refine then_r ?_
              replace hst := hst.pull3
              replace hst := hst.pull3
              replace hst := at_policy_Book_close (pv := .pointer (some ⟨b140, 0, none⟩)) (x := o0) hst rfl
              replace hst := objO_some hst
              obtain rfl := some_inj hm
              refine post_ret (vs := [.agg #[.int .u64 x208.r.ID, .int .i64 x208.r.From, .int .i64 x208.r.To, .float .f64 x208.r.Lo, .float .f64 x208.r.Hi, .int .u64 x208.r.Authority, .int .i64 x208.r.Quota], .bool true]) Try.results11 (rvs_cons (rv_cell (cs := [.int .u64 x208.r.ID, .int .i64 x208.r.From, .int .i64 x208.r.To, .float .f64 x208.r.Lo, .float .f64 x208.r.Hi, .int .u64 x208.r.Authority, .int .i64 x208.r.Quota]) rfl Try.isAgg30 Try.sizeOf30 (hst.bcs1 0 rfl)) (rvs_cons (rv_tmp rfl) rvs_nil)) ?_
              exact ⟨rfl, hst.keep1⟩
            · skip
              replace hm := bif_f hc225 hm
              refine wp_iff (congrArg Value.bool hc225) ?_
              refine wp_skip ?_
              refine blk_n ?_
              refine then_n ?_
              refine wp_region_lit ?_
              refine wl_val (v := .int .i64 z194) rfl rfl rfl ?_
              refine wl_val (v := .int .i64 (IntKind.i64.wrap (z194 - (1:Int)))) rfl rfl rfl ?_
              refine wl_val (v := .int .i64 (IntKind.i64.wrap (z194 - (1:Int)))) rfl rfl rfl ?_
              refine wl_nil ?_
              refine then_n ?_
              replace hst := hst.pull2
              replace hst := hst.pull2
              replace hst := at_policy_Book_close (pv := .pointer (some ⟨b140, 0, none⟩)) (x := o0) hst rfl
              replace hst := hst.pull2
              replace hst := hst.pull1
              replace hst := hst.keep2
              obtain rfl := some_inj hm
              exact ⟨_, Nat.lt_succ_self _, (IntKind.i64.wrap (z194 - (1:Int))), _, hx201, ((fr_upd (t := 0) (v := .pointer (some ⟨b140, 0, none⟩)) rfl).trans ((fr_upd (t := 1) (v := .int .u64 a1) rfl).trans ((fr_upd (t := 2) (v := .int .u64 a2) rfl).trans ((fr_upd (t := 6) (v := .pointer (some ⟨b135, 0, none⟩)) rfl).trans ((fr_upd (t := 8) (v := .int .i64 (IntKind.i64.wrap (z194 - (1:Int)))) rfl).trans rfl))))), hst⟩
        · skip
          replace hm := bif_f hc221 hm
          refine wl_off ((wanted_eq rfl rfl rfl (congrArg Value.bool hc221)).trans rfl) rfl ?_
          refine wl_off ((wanted_eq rfl rfl rfl (congrArg Value.bool hc221)).trans rfl) rfl ?_
          refine wl_off ((wanted_eq rfl rfl rfl (congrArg Value.bool hc221)).trans rfl) rfl ?_
          refine wl_off ((wanted_eq rfl rfl rfl (congrArg Value.bool hc221)).trans rfl) rfl ?_
          refine wl_off (wanted_undef rfl rfl rfl rfl) rfl ?_
          refine wl_off (wanted_undef rfl rfl rfl rfl) rfl ?_
          refine wl_off (wanted_undef rfl rfl rfl rfl) rfl ?_
          refine wl_off (wanted_undef rfl rfl rfl rfl) rfl ?_
          refine wl_off ((wanted_eq rfl rfl rfl (congrArg Value.bool hc221)).trans rfl) rfl ?_
          refine wl_val (v := .bool false) rfl rfl (x_pick_f hc221 rfl rfl) ?_
          refine wl_nil ?_
          refine then_n ?_
          refine wp_iff rfl ?_
          refine wp_skip ?_
          refine blk_n ?_
          refine then_n ?_
          refine wp_region_lit ?_
          refine wl_val (v := .int .i64 z194) rfl rfl rfl ?_
          refine wl_val (v := .int .i64 (IntKind.i64.wrap (z194 - (1:Int)))) rfl rfl rfl ?_
          refine wl_val (v := .int .i64 (IntKind.i64.wrap (z194 - (1:Int)))) rfl rfl rfl ?_
          refine wl_nil ?_
          refine then_n ?_
          replace hst := hst.pull2
          replace hst := hst.pull2
          replace hst := at_policy_Book_close (pv := .pointer (some ⟨b140, 0, none⟩)) (x := o0) hst rfl
          replace hst := hst.pull2
          replace hst := hst.pull1
          replace hst := hst.keep2
          obtain rfl := some_inj hm
          exact ⟨_, Nat.lt_succ_self _, (IntKind.i64.wrap (z194 - (1:Int))), _, hx201, ((fr_upd (t := 0) (v := .pointer (some ⟨b140, 0, none⟩)) rfl).trans ((fr_upd (t := 1) (v := .int .u64 a1) rfl).trans ((fr_upd (t := 2) (v := .int .u64 a2) rfl).trans ((fr_upd (t := 6) (v := .pointer (some ⟨b135, 0, none⟩)) rfl).trans ((fr_upd (t := 8) (v := .int .i64 (IntKind.i64.wrap (z194 - (1:Int)))) rfl).trans rfl))))), hst⟩
      · skip
        replace hm := bif_f hc220 hm
        refine wl_off ((wanted_eq rfl rfl rfl (congrArg Value.bool hc220)).trans rfl) rfl ?_
        refine wl_off ((wanted_eq rfl rfl rfl (congrArg Value.bool hc220)).trans rfl) rfl ?_
        refine wl_off ((wanted_eq rfl rfl rfl (congrArg Value.bool hc220)).trans rfl) rfl ?_
        refine wl_off ((wanted_eq rfl rfl rfl (congrArg Value.bool hc220)).trans rfl) rfl ?_
        refine wl_val (v := .bool false) rfl rfl (x_pick_f hc220 rfl rfl) ?_
        refine wl_val (v := .bool false) rfl rfl rfl ?_
        refine wl_off ((wanted_eq rfl rfl rfl rfl).trans rfl) rfl ?_
        refine wl_off ((wanted_eq rfl rfl rfl rfl).trans rfl) rfl ?_
        refine wl_off ((wanted_eq rfl rfl rfl rfl).trans rfl) rfl ?_
        refine wl_off ((wanted_eq rfl rfl rfl rfl).trans rfl) rfl ?_
        refine wl_off (wanted_undef rfl rfl rfl rfl) rfl ?_
        refine wl_off (wanted_undef rfl rfl rfl rfl) rfl ?_
        refine wl_off (wanted_undef rfl rfl rfl rfl) rfl ?_
        refine wl_off (wanted_undef rfl rfl rfl rfl) rfl ?_
        refine wl_off ((wanted_eq rfl rfl rfl rfl).trans rfl) rfl ?_
        refine wl_val (v := .bool false) rfl rfl (x_pick_f rfl rfl rfl) ?_
        refine wl_nil ?_
        refine then_n ?_
        refine wp_iff rfl ?_
        refine wp_skip ?_
        refine blk_n ?_
        refine then_n ?_
        refine wp_region_lit ?_
        refine wl_val (v := .int .i64 z194) rfl rfl rfl ?_
        refine wl_val (v := .int .i64 (IntKind.i64.wrap (z194 - (1:Int)))) rfl rfl rfl ?_
        refine wl_val (v := .int .i64 (IntKind.i64.wrap (z194 - (1:Int)))) rfl rfl rfl ?_
        refine wl_nil ?_
        refine then_n ?_
        replace hst := hst.pull2
        replace hst := hst.pull2
        replace hst := at_policy_Book_close (pv := .pointer (some ⟨b140, 0, none⟩)) (x := o0) hst rfl
        replace hst := hst.pull2
        replace hst := hst.pull1
        replace hst := hst.keep2
        obtain rfl := some_inj hm
        exact ⟨_, Nat.lt_succ_self _, (IntKind.i64.wrap (z194 - (1:Int))), _, hx201, ((fr_upd (t := 0) (v := .pointer (some ⟨b140, 0, none⟩)) rfl).trans ((fr_upd (t := 1) (v := .int .u64 a1) rfl).trans ((fr_upd (t := 2) (v := .int .u64 a2) rfl).trans ((fr_upd (t := 6) (v := .pointer (some ⟨b135, 0, none⟩)) rfl).trans ((fr_upd (t := 8) (v := .int .i64 (IntKind.i64.wrap (z194 - (1:Int)))) rfl).trans rfl))))), hst⟩
    · skip
      replace hm := bif_f hc203 hm
      refine wp_iff (congrArg Value.bool hc203) ?_
      refine wp_exit ?_
      refine then_x ?_
      refine then_x ?_
      replace hm := inr_up hm hx201
      refine blk_x ?_
      refine then_n ?_
      refine wp_seq ?_
      refine wp_region_lit ?_
      refine wl_val (v := .agg #[.int .u64 (0:Int), .int .i64 (0:Int), .int .i64 (0:Int), .float .f64 (0:Nat), .float .f64 (0:Nat), .int .u64 (0:Int), .int .i64 (0:Int)]) rfl rfl (by kernel_rfl) ?_
      replace hst := hst.pull1
      obtain ⟨w228, hr229, hst⟩ := hst.boxStore (P := Try.prog) (t := 30) (cs' := [.int .u64 (0:Int), .int .i64 (0:Int), .int .i64 (0:Int), .float .f64 (0:Nat), .float .f64 (0:Nat), .int .u64 (0:Int), .int .i64 (0:Int)]) 0 (.agg #[.int .u64 (0:Int), .int .i64 (0:Int), .int .i64 (0:Int), .float .f64 (0:Nat), .float .f64 (0:Nat), .int .u64 (0:Int), .int .i64 (0:Int)]) Try.sizeOf30 (Nat.le_of_ble_eq_true rfl) (ones_cons rfl (ones_cons rfl (ones_cons rfl (ones_cons rfl (ones_cons rfl (ones_cons rfl (ones_cons rfl ones_nil))))))) rfl
      refine wl_unit rfl rfl (x_unit hr229) ?_
      refine wl_val (v := .bool false) rfl rfl rfl ?_
      refine wl_nil ?_
      refine then_n ?_
      refine wp_ret ?_
      replace hst := hst.pull1
      replace hst := objO_some hst
      obtain rfl := some_inj hm
      refine post_ret (vs := [.agg #[.int .u64 (0:Int), .int .i64 (0:Int), .int .i64 (0:Int), .float .f64 (0:Nat), .float .f64 (0:Nat), .int .u64 (0:Int), .int .i64 (0:Int)], .bool false]) Try.results11 (rvs_cons (rv_cell (cs := [.int .u64 (0:Int), .int .i64 (0:Int), .int .i64 (0:Int), .float .f64 (0:Nat), .float .f64 (0:Nat), .int .u64 (0:Int), .int .i64 (0:Int)]) rfl Try.isAgg30 Try.sizeOf30 (hst.bcs1 0 rfl)) (rvs_cons (rv_tmp rfl) rvs_nil)) ?_
      exact ⟨rfl, hst.keep1⟩

theorem law15_awake_ref {w0 w : World} {I : HL} {R : SP}   (hst : St w0 w I [] R) {r : (Bool)} (hm : law15_awake = some r) :
    Calls Try.prog 8 #[] w fun e w' => e = .returned (.bool r) ∧ St w0 w' I [] R := by
  unfold law15_awake at hm
  refine calls_start (args := []) Try.func8 rfl Try.ntmps8 (Nat.le_of_ble_eq_true rfl) ?_
  refine wp_seq ?_
  refine wp_region_lit ?_
  refine wl_val (v := .bool false) rfl rfl rfl ?_
  refine wl_nil ?_
  refine then_n ?_
  refine wp_seq ?_
  refine wp_region_lit ?_
  obtain ⟨t63, ht64, hm⟩ := bind_some hm
  refine wl_call rfl rfl (x_call Try.call9 rfl (vs := []) rfl) ?_
  refine (policy_New_ref hst.to0 ht64).mono ?_
  rintro _ w65 ⟨v68, rfl, hst⟩
  refine ⟨_, rfl, ?_⟩
  replace hst := hst.of1
  refine wl_val (v := v68) rfl rfl rfl ?_
  refine wl_nil ?_
  refine then_n ?_
  refine wp_seq ?_
  refine wp_region_lit ?_
  refine wl_val (v := v68) rfl rfl rfl ?_
  refine wl_val (v := .agg #[.int .u64 (5:Int), .int .i64 (0:Int), .int .i64 (0:Int), .float .f64 (0:Nat), .float .f64 (0:Nat), .int .u64 (0:Int), .int .i64 (1:Int)]) rfl rfl (by kernel_rfl) ?_
  replace hst := objO_some hst
  obtain ⟨t70, ht71, hm⟩ := bind_some hm
  refine wl_call rfl rfl (x_call Try.call10 rfl (vs := [v68, .agg #[.int .u64 (5:Int), .int .i64 (0:Int), .int .i64 (0:Int), .float .f64 (0:Nat), .float .f64 (0:Nat), .int .u64 (0:Int), .int .i64 (1:Int)], .int .u64 (2:Int)]) rfl) ?_
  refine (policy_Book_Grant_ref hst.to1 ht71).mono ?_
  rintro _ w72 ⟨rfl, hst⟩
  refine ⟨_, rfl, ?_⟩
  replace hst := hst.of1
  rcases he76 : t70 with _ | y75
  · rw [he76] at hm; cases hm
  rw [he76] at hm hst; dsimp only at hm; replace hst := objO_get hst
  refine wl_nil ?_
  refine then_n ?_
  refine wp_seq ?_
  refine wp_region_lit ?_
  refine wl_val (v := v68) rfl rfl rfl ?_
  replace hst := objO_some hst
  obtain ⟨t77, ht78, hm⟩ := bind_some hm
  refine wl_call rfl rfl (x_call Try.call13 rfl (vs := [v68, .int .u64 (5:Int), .int .u64 (4:Int)]) rfl) ?_
  refine (policy_Book_Revoke_ref hst.to1 ht78).mono ?_
  rintro _ w79 ⟨rfl, hst⟩
  refine ⟨_, rfl, ?_⟩
  replace hst := hst.of1
  rcases he83 : t77.2 with _ | y82
  · rw [he83] at hm; cases hm
  rw [he83] at hm hst; dsimp only at hm; replace hst := objO_get hst
  refine wl_nil ?_
  refine then_n ?_
  refine wp_seq ?_
  refine wp_region_lit ?_
  refine wl_val (v := v68) rfl rfl rfl ?_
  replace hst := objO_some hst
  obtain ⟨t84, ht85, hm⟩ := bind_some hm
  refine wl_call rfl rfl (x_call Try.call11 rfl (vs := [v68, .int .u64 (5:Int), .int .u64 (1:Int)]) rfl) ?_
  refine (policy_Book_At_ref hst.to1 ht85).mono ?_
  rintro _ w86 ⟨rfl, hst⟩
  refine ⟨_, rfl, ?_⟩
  replace hst := hst.of1
  replace hst := objO_get hst
  refine wl_val (v := .tuple #[.agg #[.int .u64 t84.1.ID, .int .i64 t84.1.From, .int .i64 t84.1.To, .float .f64 t84.1.Lo, .float .f64 t84.1.Hi, .int .u64 t84.1.Authority, .int .i64 t84.1.Quota], .bool t84.2]) rfl rfl rfl ?_
  refine wl_val (v := .agg #[.int .u64 t84.1.ID, .int .i64 t84.1.From, .int .i64 t84.1.To, .float .f64 t84.1.Lo, .float .f64 t84.1.Hi, .int .u64 t84.1.Authority, .int .i64 t84.1.Quota]) rfl rfl rfl ?_
  refine wl_val (v := .bool t84.2) rfl rfl rfl ?_
  obtain ⟨b89, w90, ew91, eb92, hst⟩ := hst.box [.int .u64 (0:Int), .int .i64 (0:Int), .int .i64 (0:Int), .float .f64 (0:Nat), .float .f64 (0:Nat), .int .u64 (0:Int), .int .i64 (0:Int)] 30
  refine wl_run (v := .pointer (some ⟨b89, 0, none⟩)) (w' := w90) rfl rfl (x_al (by kernel_rfl) ew91 eb92) ?_
  obtain ⟨w94, hr95, hst⟩ := hst.boxStore (P := Try.prog) (t := 30) (cs' := [.int .u64 t84.1.ID, .int .i64 t84.1.From, .int .i64 t84.1.To, .float .f64 t84.1.Lo, .float .f64 t84.1.Hi, .int .u64 t84.1.Authority, .int .i64 t84.1.Quota]) 0 (.agg #[.int .u64 t84.1.ID, .int .i64 t84.1.From, .int .i64 t84.1.To, .float .f64 t84.1.Lo, .float .f64 t84.1.Hi, .int .u64 t84.1.Authority, .int .i64 t84.1.Quota]) Try.sizeOf30 (Nat.le_of_ble_eq_true rfl) (ones_cons rfl (ones_cons rfl (ones_cons rfl (ones_cons rfl (ones_cons rfl (ones_cons rfl (ones_cons rfl ones_nil))))))) rfl
  refine wl_unit rfl rfl (x_unit hr95) ?_
  refine wl_val (v := .bool t84.2) rfl rfl rfl ?_
  refine wl_nil ?_
  refine then_n ?_
  refine wp_seq ?_
  refine wp_region_lit ?_
  refine wl_val (v := v68) rfl rfl rfl ?_
  replace hst := hst.pull1
  replace hst := objO_some hst
  obtain ⟨t96, ht97, hm⟩ := bind_some hm
  refine wl_call rfl rfl (x_call Try.call11 rfl (vs := [v68, .int .u64 (5:Int), .int .u64 (3:Int)]) rfl) ?_
  refine (policy_Book_At_ref hst.to1 ht97).mono ?_
  rintro _ w98 ⟨rfl, hst⟩
  refine ⟨_, rfl, ?_⟩
  replace hst := hst.of1
  replace hst := objO_get hst
  refine wl_val (v := .tuple #[.agg #[.int .u64 t96.1.ID, .int .i64 t96.1.From, .int .i64 t96.1.To, .float .f64 t96.1.Lo, .float .f64 t96.1.Hi, .int .u64 t96.1.Authority, .int .i64 t96.1.Quota], .bool t96.2]) rfl rfl rfl ?_
  refine wl_val (v := .agg #[.int .u64 t96.1.ID, .int .i64 t96.1.From, .int .i64 t96.1.To, .float .f64 t96.1.Lo, .float .f64 t96.1.Hi, .int .u64 t96.1.Authority, .int .i64 t96.1.Quota]) rfl rfl rfl ?_
  refine wl_val (v := .bool t96.2) rfl rfl rfl ?_
  obtain ⟨b101, w102, ew103, eb104, hst⟩ := hst.box [.int .u64 (0:Int), .int .i64 (0:Int), .int .i64 (0:Int), .float .f64 (0:Nat), .float .f64 (0:Nat), .int .u64 (0:Int), .int .i64 (0:Int)] 30
  refine wl_run (v := .pointer (some ⟨b101, 0, none⟩)) (w' := w102) rfl rfl (x_al (by kernel_rfl) ew103 eb104) ?_
  obtain ⟨w106, hr107, hst⟩ := hst.boxStore (P := Try.prog) (t := 30) (cs' := [.int .u64 t96.1.ID, .int .i64 t96.1.From, .int .i64 t96.1.To, .float .f64 t96.1.Lo, .float .f64 t96.1.Hi, .int .u64 t96.1.Authority, .int .i64 t96.1.Quota]) 0 (.agg #[.int .u64 t96.1.ID, .int .i64 t96.1.From, .int .i64 t96.1.To, .float .f64 t96.1.Lo, .float .f64 t96.1.Hi, .int .u64 t96.1.Authority, .int .i64 t96.1.Quota]) Try.sizeOf30 (Nat.le_of_ble_eq_true rfl) (ones_cons rfl (ones_cons rfl (ones_cons rfl (ones_cons rfl (ones_cons rfl (ones_cons rfl (ones_cons rfl ones_nil))))))) rfl
  refine wl_unit rfl rfl (x_unit hr107) ?_
  refine wl_val (v := .bool t96.2) rfl rfl rfl ?_
  refine wl_nil ?_
  refine then_n ?_
  refine wp_seq ?_
  refine wp_region_lit ?_
  refine wl_val (v := v68) rfl rfl rfl ?_
  replace hst := hst.pull1
  replace hst := objO_some hst
  obtain ⟨t108, ht109, hm⟩ := bind_some hm
  refine wl_call rfl rfl (x_call Try.call11 rfl (vs := [v68, .int .u64 (5:Int), .int .u64 (4:Int)]) rfl) ?_
  refine (policy_Book_At_ref hst.to1 ht109).mono ?_
  rintro _ w110 ⟨rfl, hst⟩
  refine ⟨_, rfl, ?_⟩
  replace hst := hst.of1
  replace hst := objO_get hst
  refine wl_val (v := .tuple #[.agg #[.int .u64 t108.1.ID, .int .i64 t108.1.From, .int .i64 t108.1.To, .float .f64 t108.1.Lo, .float .f64 t108.1.Hi, .int .u64 t108.1.Authority, .int .i64 t108.1.Quota], .bool t108.2]) rfl rfl rfl ?_
  refine wl_val (v := .agg #[.int .u64 t108.1.ID, .int .i64 t108.1.From, .int .i64 t108.1.To, .float .f64 t108.1.Lo, .float .f64 t108.1.Hi, .int .u64 t108.1.Authority, .int .i64 t108.1.Quota]) rfl rfl rfl ?_
  refine wl_val (v := .bool t108.2) rfl rfl rfl ?_
  obtain ⟨b113, w114, ew115, eb116, hst⟩ := hst.box [.int .u64 (0:Int), .int .i64 (0:Int), .int .i64 (0:Int), .float .f64 (0:Nat), .float .f64 (0:Nat), .int .u64 (0:Int), .int .i64 (0:Int)] 30
  refine wl_run (v := .pointer (some ⟨b113, 0, none⟩)) (w' := w114) rfl rfl (x_al (by kernel_rfl) ew115 eb116) ?_
  obtain ⟨w118, hr119, hst⟩ := hst.boxStore (P := Try.prog) (t := 30) (cs' := [.int .u64 t108.1.ID, .int .i64 t108.1.From, .int .i64 t108.1.To, .float .f64 t108.1.Lo, .float .f64 t108.1.Hi, .int .u64 t108.1.Authority, .int .i64 t108.1.Quota]) 0 (.agg #[.int .u64 t108.1.ID, .int .i64 t108.1.From, .int .i64 t108.1.To, .float .f64 t108.1.Lo, .float .f64 t108.1.Hi, .int .u64 t108.1.Authority, .int .i64 t108.1.Quota]) Try.sizeOf30 (Nat.le_of_ble_eq_true rfl) (ones_cons rfl (ones_cons rfl (ones_cons rfl (ones_cons rfl (ones_cons rfl (ones_cons rfl (ones_cons rfl ones_nil))))))) rfl
  refine wl_unit rfl rfl (x_unit hr119) ?_
  refine wl_val (v := .bool t108.2) rfl rfl rfl ?_
  refine wl_nil ?_
  refine then_n ?_
  refine wp_seq ?_
  refine wp_region_lit ?_
  refine wl_val (v := .bool t84.2) rfl rfl rfl ?_
  refine wl_val (v := .bool (!t84.2)) rfl rfl rfl ?_
  refine wl_val (v := .bool (!t84.2)) rfl rfl rfl ?_
  refine bsplit (!t84.2) (fun hc120 => ?_) (fun hc120 => ?_)
  · skip
    replace hm := bif_t hc120 hm
    refine wl_val (v := .bool t96.2) ((wanted_eq rfl rfl rfl (congrArg Value.bool hc120)).trans rfl) rfl rfl ?_
    refine wl_val (v := .bool t96.2) rfl rfl (x_pick_t hc120 rfl rfl) ?_
    refine wl_val (v := .bool t96.2) rfl rfl rfl ?_
    refine bsplit t96.2 (fun hc121 => ?_) (fun hc121 => ?_)
    · skip
      replace hm := bif_t hc121 hm
      refine wl_val (v := .pointer (some ⟨b101, 6, none⟩)) ((wanted_eq rfl rfl rfl (congrArg Value.bool hc121)).trans rfl) rfl (x_field rfl Try.underlying30 rfl Try.sizeOf3 rfl) ?_
      refine wl_val (v := .int .i64 t96.1.Quota) ((wanted_eq rfl rfl rfl (congrArg Value.bool hc121)).trans rfl) rfl (x_load rfl Try.isAgg3 (hst.bc2 rfl)) ?_
      refine wl_val (v := .bool (t96.1.Quota == (1:Int))) ((wanted_eq rfl rfl rfl (congrArg Value.bool hc121)).trans rfl) rfl rfl ?_
      refine wl_val (v := .bool (t96.1.Quota == (1:Int))) rfl rfl (x_pick_t hc121 rfl rfl) ?_
      refine wl_val (v := .bool (t96.1.Quota == (1:Int))) rfl rfl rfl ?_
      refine bsplit (t96.1.Quota == (1:Int)) (fun hc122 => ?_) (fun hc122 => ?_)
      · skip
        replace hm := bif_t hc122 hm
        refine wl_val (v := .bool t108.2) ((wanted_eq rfl rfl rfl (congrArg Value.bool hc122)).trans rfl) rfl rfl ?_
        refine wl_val (v := .bool (!t108.2)) ((wanted_eq rfl rfl rfl (congrArg Value.bool hc122)).trans rfl) rfl rfl ?_
        refine wl_val (v := .bool (!t108.2)) rfl rfl (x_pick_t hc122 rfl rfl) ?_
        refine wl_val (v := .bool (!t108.2)) rfl rfl rfl ?_
        refine wl_nil ?_
        refine then_n ?_
        refine wp_ret ?_
        obtain rfl := some_inj hm
        refine post_ret (vs := [.bool (!t108.2)]) Try.results8 (rvs_cons (rv_tmp rfl) rvs_nil) ?_
        exact ⟨rfl, hst.keep0⟩
      · skip
        replace hm := bif_f hc122 hm
        refine wl_off ((wanted_eq rfl rfl rfl (congrArg Value.bool hc122)).trans rfl) rfl ?_
        refine wl_off ((wanted_eq rfl rfl rfl (congrArg Value.bool hc122)).trans rfl) rfl ?_
        refine wl_val (v := .bool false) rfl rfl (x_pick_f hc122 rfl rfl) ?_
        refine wl_val (v := .bool false) rfl rfl rfl ?_
        refine wl_nil ?_
        refine then_n ?_
        refine wp_ret ?_
        obtain rfl := some_inj hm
        refine post_ret (vs := [.bool false]) Try.results8 (rvs_cons (rv_tmp rfl) rvs_nil) ?_
        exact ⟨rfl, hst.keep0⟩
    · skip
      replace hm := bif_f hc121 hm
      refine wl_off ((wanted_eq rfl rfl rfl (congrArg Value.bool hc121)).trans rfl) rfl ?_
      refine wl_off ((wanted_eq rfl rfl rfl (congrArg Value.bool hc121)).trans rfl) rfl ?_
      refine wl_off ((wanted_eq rfl rfl rfl (congrArg Value.bool hc121)).trans rfl) rfl ?_
      refine wl_val (v := .bool false) rfl rfl (x_pick_f hc121 rfl rfl) ?_
      refine wl_val (v := .bool false) rfl rfl rfl ?_
      refine wl_off ((wanted_eq rfl rfl rfl rfl).trans rfl) rfl ?_
      refine wl_off ((wanted_eq rfl rfl rfl rfl).trans rfl) rfl ?_
      refine wl_val (v := .bool false) rfl rfl (x_pick_f rfl rfl rfl) ?_
      refine wl_val (v := .bool false) rfl rfl rfl ?_
      refine wl_nil ?_
      refine then_n ?_
      refine wp_ret ?_
      obtain rfl := some_inj hm
      refine post_ret (vs := [.bool false]) Try.results8 (rvs_cons (rv_tmp rfl) rvs_nil) ?_
      exact ⟨rfl, hst.keep0⟩
  · skip
    replace hm := bif_f hc120 hm
    refine wl_off ((wanted_eq rfl rfl rfl (congrArg Value.bool hc120)).trans rfl) rfl ?_
    refine wl_val (v := .bool false) rfl rfl (x_pick_f hc120 rfl rfl) ?_
    refine wl_val (v := .bool false) rfl rfl rfl ?_
    refine wl_off ((wanted_eq rfl rfl rfl rfl).trans rfl) rfl ?_
    refine wl_off ((wanted_eq rfl rfl rfl rfl).trans rfl) rfl ?_
    refine wl_off ((wanted_eq rfl rfl rfl rfl).trans rfl) rfl ?_
    refine wl_val (v := .bool false) rfl rfl (x_pick_f rfl rfl rfl) ?_
    refine wl_val (v := .bool false) rfl rfl rfl ?_
    refine wl_off ((wanted_eq rfl rfl rfl rfl).trans rfl) rfl ?_
    refine wl_off ((wanted_eq rfl rfl rfl rfl).trans rfl) rfl ?_
    refine wl_val (v := .bool false) rfl rfl (x_pick_f rfl rfl rfl) ?_
    refine wl_val (v := .bool false) rfl rfl rfl ?_
    refine wl_nil ?_
    refine then_n ?_
    refine wp_ret ?_
    obtain rfl := some_inj hm
    refine post_ret (vs := [.bool false]) Try.results8 (rvs_cons (rv_tmp rfl) rvs_nil) ?_
    exact ⟨rfl, hst.keep0⟩

theorem ref12_Tape_Next_ref {w0 w : World} {I : HL} {R : SP} {a0 : ref12_Tape} {p0 : Value} {a1 : Int}  (hst : St w0 w I [at_ref12_Tape p0 a0] R) {r : (Int × ref12_Tape)} (hm : ref12_Tape_Next a0 a1 = some r) :
    Calls Try.prog 15 #[p0, .int .i64 a1] w fun e w' => e = .returned (.int .i64 r.1) ∧ St w0 w' I [at_ref12_Tape p0 r.2] R := by
  unfold ref12_Tape_Next at hm
  refine calls_start (args := [p0, .int .i64 a1]) Try.func15 rfl Try.ntmps15 (Nat.le_of_ble_eq_true rfl) ?_
  refine wp_seq ?_
  refine wp_region_lit ?_
  refine wl_val (v := .int .i64 (0:Int)) rfl rfl rfl ?_
  refine wl_nil ?_
  refine then_n ?_
  refine wp_seq ?_
  refine wp_seq ?_
  obtain ⟨b62, v63, ⟨rfl, f65⟩, hst'⟩ := at_ref12_Tape_open hst
  clear hst
  have hst := hst'
  clear hst'
  refine wq_regionS hst Try.mixed (by kernel_rfl) ?_
  refine wq_run (v := .pointer (some ⟨b62, 0, none⟩)) rfl rfl (fun w hst => rfl) ?_
  refine wq_run (v := .pointer (some ⟨b62, 0, none⟩)) rfl rfl (fun w hst => rfl) ?_
  refine wq_run (v := .pointer (some ⟨b62, 1, none⟩)) rfl rfl (fun w hst => x_field rfl Try.underlying41 rfl Try.sizeOf3 rfl) ?_
  refine wq_run (v := .int .i64 a0.I) rfl rfl (fun w hst => x_load rfl Try.isAgg3 (hst.bc0 rfl)) ?_
  refine wq_run (v := .pointer (some ⟨b62, 0, none⟩)) rfl rfl (fun w hst => rfl) ?_
  refine wq_run (v := .pointer (some ⟨b62, 0, none⟩)) rfl rfl (fun w hst => rfl) ?_
  refine wq_run (v := .pointer (some ⟨b62, 0, none⟩)) rfl rfl (fun w hst => x_field rfl Try.underlying41 rfl Try.sizeOf23 rfl) ?_
  refine wq_run (v := v63) rfl rfl (fun w hst => x_load rfl Try.isAgg23 (hst.bc0 rfl)) ?_
  refine wq_run (v := .int .i64 ((a0.L).length : Int)) rfl rfl (fun w hst => x_len rfl Try.underlying23 (ro_sliceV f65)) ?_
  refine wq_run (v := .bool (decide (a0.I ≥ ((a0.L).length : Int)))) rfl rfl (fun w hst => rfl) ?_
  refine wq_nil ?_
  intro w hst
  refine then_n ?_
  refine bsplit (decide (a0.I ≥ ((a0.L).length : Int))) (fun hc66 => ?_) (fun hc66 => ?_)
  · skip
    replace hm := bif_t hc66 hm
    refine wp_ift (congrArg Value.bool hc66) ?_
    refine wp_seq ?_
    refine wp_region_lit ?_
    refine wl_val (v := .int .i64 (0:Int)) rfl rfl rfl ?_
    refine wl_nil ?_
    refine then_n ?_
    refine wp_ret ?_
    refine then_r ?_
    replace hst := at_ref12_Tape_close (pv := .pointer (some ⟨b62, 0, none⟩)) (x := a0) hst ⟨rfl, f65⟩
    obtain rfl := some_inj hm
    refine post_ret (vs := [.int .i64 (0:Int)]) Try.results15 (rvs_cons (rv_tmp rfl) rvs_nil) ?_
    exact ⟨rfl, hst.keep1⟩
  · skip
    replace hm := bif_f hc66 hm
    refine wp_iff (congrArg Value.bool hc66) ?_
    refine wp_skip ?_
    refine then_n ?_
    refine wp_seq ?_
    refine wp_region_lit ?_
    refine wl_val (v := .pointer (some ⟨b62, 0, none⟩)) rfl rfl rfl ?_
    refine wl_val (v := .pointer (some ⟨b62, 0, none⟩)) rfl rfl rfl ?_
    refine wl_val (v := .pointer (some ⟨b62, 1, none⟩)) rfl rfl (x_field rfl Try.underlying41 rfl Try.sizeOf3 rfl) ?_
    refine wl_val (v := .int .i64 a0.I) rfl rfl (x_load rfl Try.isAgg3 (hst.bc0 rfl)) ?_
    refine wl_val (v := .int .i64 (IntKind.i64.wrap (a0.I + (1:Int)))) rfl rfl rfl ?_
    refine wl_val (v := .pointer (some ⟨b62, 0, none⟩)) rfl rfl rfl ?_
    refine wl_val (v := .pointer (some ⟨b62, 1, none⟩)) rfl rfl (x_field rfl Try.underlying41 rfl Try.sizeOf3 rfl) ?_
    obtain ⟨w67, hr68, hst⟩ := hst.boxStore (P := Try.prog) (t := 3) (cs' := [v63, .int .i64 (IntKind.i64.wrap (a0.I + (1:Int)))]) 1 (.int .i64 (IntKind.i64.wrap (a0.I + (1:Int)))) Try.sizeOf3 (Nat.le_of_ble_eq_true rfl) (ones_cons rfl ones_nil) rfl
    refine wl_unit rfl rfl (x_unit hr68) ?_
    refine wl_nil ?_
    refine then_n ?_
    refine wp_seq ?_
    refine wq_regionS hst Try.mixed (by kernel_rfl) ?_
    refine wq_run (v := .pointer (some ⟨b62, 0, none⟩)) rfl rfl (fun w hst => rfl) ?_
    refine wq_run (v := .pointer (some ⟨b62, 0, none⟩)) rfl rfl (fun w hst => rfl) ?_
    refine wq_run (v := .pointer (some ⟨b62, 0, none⟩)) rfl rfl (fun w hst => x_field rfl Try.underlying41 rfl Try.sizeOf23 rfl) ?_
    refine wq_run (v := v63) rfl rfl (fun w hst => x_load rfl Try.isAgg23 (hst.bc0 rfl)) ?_
    refine wq_run (v := .pointer (some ⟨b62, 0, none⟩)) rfl rfl (fun w hst => rfl) ?_
    refine wq_run (v := .pointer (some ⟨b62, 0, none⟩)) rfl rfl (fun w hst => rfl) ?_
    refine wq_run (v := .pointer (some ⟨b62, 1, none⟩)) rfl rfl (fun w hst => x_field rfl Try.underlying41 rfl Try.sizeOf3 rfl) ?_
    refine wq_run (v := .int .i64 (IntKind.i64.wrap (a0.I + (1:Int)))) rfl rfl (fun w hst => x_load rfl Try.isAgg3 (hst.bc0 rfl)) ?_
    refine wq_run (v := .int .i64 (IntKind.i64.wrap ((IntKind.i64.wrap (a0.I + (1:Int))) - (1:Int)))) rfl rfl (fun w hst => rfl) ?_
    obtain ⟨x69, hx70, hm⟩ := bind_some hm
    obtain ⟨h71, h72, hi73⟩ := geto_some hx70
    refine wq_run (v := .pointer (some (eAddr v63 ((IntKind.i64.wrap ((IntKind.i64.wrap (a0.I + (1:Int))) - (1:Int))).toNat * 1 + 0)))) rfl rfl (fun w hst => x_index rfl rfl Try.underlying23 Try.sizeOf5 (ro_sliceV f65) h71 h72) ?_
    refine wq_run (v := .int .u8 x69) rfl rfl (fun w hst => x_load rfl Try.isAgg5 (ro_load f65 hst hi73 (by rintro _ rfl; rfl))) ?_
    refine wq_run (v := .int .i64 (IntKind.i64.wrap x69)) rfl rfl (fun w hst => by kernel_rfl) ?_
    refine wq_run (v := .int .i64 a1) rfl rfl (fun w hst => rfl) ?_
    obtain ⟨hg74, hm⟩ := gd_some hm
    refine wq_run (v := .int .i64 (Int.tmod (IntKind.i64.wrap x69) a1)) rfl rfl (fun w hst => x_rem (not_t hg74) rfl rfl) ?_
    refine wq_run (v := .int .i64 (Int.tmod (IntKind.i64.wrap x69) a1)) rfl rfl (fun w hst => rfl) ?_
    refine wq_nil ?_
    intro w hst
    refine then_n ?_
    refine wp_ret ?_
    replace hst := at_ref12_Tape_close (pv := .pointer (some ⟨b62, 0, none⟩)) (x := ({ L := a0.L, I := (IntKind.i64.wrap (a0.I + (1:Int))) } : ref12_Tape)) hst ⟨rfl, f65⟩
    obtain rfl := some_inj hm
    refine post_ret (vs := [.int .i64 (Int.tmod (IntKind.i64.wrap x69) a1)]) Try.results15 (rvs_cons (rv_tmp rfl) rvs_nil) ?_
    exact ⟨rfl, hst.keep1⟩

theorem ref12_small_ref {w0 w : World} {I : HL} {R : SP} {a0 : Int}  (hst : St w0 w I [] R) {r : (Nat)} (hm : ref12_small a0 = some r) :
    Calls Try.prog 38 #[.int .u8 a0] w fun e w' => e = .returned (.float .f64 r) ∧ St w0 w' I [] R := by
  unfold ref12_small at hm
  refine calls_start (args := [.int .u8 a0]) Try.func38 rfl Try.ntmps38 (Nat.le_of_ble_eq_true rfl) ?_
  refine wp_seq ?_
  refine wp_region_lit ?_
  refine wl_val (v := .float .f64 (0:Nat)) rfl rfl rfl ?_
  refine wl_nil ?_
  refine then_n ?_
  refine wp_seq ?_
  refine wp_region_lit ?_
  obtain ⟨b78, w79, ew80, eb81, hst⟩ := hst.lits (E := tyF64) (xs := [(0:Nat), (4607182418800017408:Nat), (13830554455654793216:Nat), (4612811918334230528:Nat), (9094988921128908188:Nat), (18318360957983683996:Nat), (4602678819172646912:Nat), (4613937818241073152:Nat)]) [[.float .f64 (0:Nat)], [.float .f64 (4607182418800017408:Nat)], [.float .f64 (13830554455654793216:Nat)], [.float .f64 (4612811918334230528:Nat)], [.float .f64 (9094988921128908188:Nat)], [.float .f64 (18318360957983683996:Nat)], [.float .f64 (4602678819172646912:Nat)], [.float .f64 (4613937818241073152:Nat)]] 28 8 rfl (Reps.cons rfl (Reps.cons rfl (Reps.cons rfl (Reps.cons rfl (Reps.cons rfl (Reps.cons rfl (Reps.cons rfl (Reps.cons rfl Reps.nil))))))))
  refine wl_run (v := (.slice (some ⟨b78, 0, none⟩) 8 8)) (w' := w79) rfl rfl (x_als (by kernel_rfl) ew80 eb81) ?_
  refine wl_val (v := (.slice (some ⟨b78, 0, none⟩) 8 8)) rfl rfl rfl ?_
  refine wl_nil ?_
  refine then_n ?_
  refine wp_seq ?_
  refine wp_region_lit ?_
  refine wl_val (v := (.slice (some ⟨b78, 0, none⟩) 8 8)) rfl rfl rfl ?_
  refine wl_val (v := .int .u8 a0) rfl rfl rfl ?_
  refine wl_val (v := .int .u8 (Int.tmod a0 (8:Int))) rfl rfl (x_rem (by decide) rfl rfl) ?_
  obtain ⟨x83, hx84, hm⟩ := bind_some hm
  obtain ⟨h85, h86, hi87⟩ := geto_some hx84
  refine wl_val (v := .pointer (some (eAddr (.slice (some ⟨b78, 0, none⟩) 8 8) ((Int.tmod a0 (8:Int)).toNat * 1 + 0)))) rfl rfl (x_index rfl rfl Try.underlying86 Try.sizeOf28 hst.sv0 h85 h86) ?_
  refine wl_val (v := .float .f64 x83) rfl rfl (x_load rfl Try.isAgg28 (hst.ol0 hi87 (by rintro _ rfl; rfl))) ?_
  refine wl_val (v := .float .f64 x83) rfl rfl rfl ?_
  refine wl_nil ?_
  refine then_n ?_
  refine wp_ret ?_
  obtain rfl := some_inj hm
  refine post_ret (vs := [.float .f64 x83]) Try.results38 (rvs_cons (rv_tmp rfl) rvs_nil) ?_
  exact ⟨rfl, hst.keep0⟩

theorem ref12_Tape_Float_ref {w0 w : World} {I : HL} {R : SP} {a0 : ref12_Tape} {p0 : Value}  (hst : St w0 w I [at_ref12_Tape p0 a0] R) {r : (Nat × ref12_Tape)} (hm : ref12_Tape_Float a0 = some r) :
    Calls Try.prog 24 #[p0] w fun e w' => e = .returned (.float .f64 r.1) ∧ St w0 w' I [at_ref12_Tape p0 r.2] R := by
  unfold ref12_Tape_Float at hm
  refine calls_start (args := [p0]) Try.func24 rfl Try.ntmps24 (Nat.le_of_ble_eq_true rfl) ?_
  refine wp_seq ?_
  refine wp_region_lit ?_
  refine wl_val (v := .float .f64 (0:Nat)) rfl rfl rfl ?_
  refine wl_nil ?_
  refine then_n ?_
  refine wp_seq ?_
  refine wp_region_lit ?_
  refine wl_val (v := p0) rfl rfl rfl ?_
  obtain ⟨t74, ht75, hm⟩ := bind_some hm
  refine wl_call rfl rfl (x_call Try.call15 rfl (vs := [p0, .int .i64 (8:Int)]) rfl) ?_
  refine (ref12_Tape_Next_ref hst.to1 ht75).mono ?_
  rintro _ w76 ⟨rfl, hst⟩
  refine ⟨_, rfl, ?_⟩
  replace hst := hst.of1
  refine wl_val (v := .int .u8 (IntKind.u8.wrap t74.1)) rfl rfl (by kernel_rfl) ?_
  obtain ⟨t79, ht80, hm⟩ := bind_some hm
  refine wl_call rfl rfl (x_call Try.call38 rfl (vs := [.int .u8 (IntKind.u8.wrap t74.1)]) rfl) ?_
  refine (ref12_small_ref hst.to0 ht80).mono ?_
  rintro _ w81 ⟨rfl, hst⟩
  refine ⟨_, rfl, ?_⟩
  replace hst := hst.of0
  refine wl_val (v := .float .f64 t79) rfl rfl rfl ?_
  refine wl_nil ?_
  refine then_n ?_
  refine wp_ret ?_
  obtain rfl := some_inj hm
  refine post_ret (vs := [.float .f64 t79]) Try.results24 (rvs_cons (rv_tmp rfl) rvs_nil) ?_
  exact ⟨rfl, hst.keep1⟩

theorem ref13_OfRule_ref {w0 w : World} {I : HL} {R : SP} {a0 : ref12_Tape} {p0 : Value}  (hst : St w0 w I [at_ref12_Tape p0 a0] R) {r : (api_Rule × ref12_Tape)} (hm : ref13_OfRule a0 = some r) :
    Calls Try.prog 16 #[p0] w fun e w' => e = .returned (.agg #[.int .u64 r.1.ID, .int .i64 r.1.From, .int .i64 r.1.To, .float .f64 r.1.Lo, .float .f64 r.1.Hi, .int .u64 r.1.Authority, .int .i64 r.1.Quota]) ∧ St w0 w' I [at_ref12_Tape p0 r.2] R := by
  unfold ref13_OfRule at hm
  refine calls_start (args := [p0]) Try.func16 rfl Try.ntmps16 (Nat.le_of_ble_eq_true rfl) ?_
  refine wp_seq ?_
  refine wp_region_lit ?_
  obtain ⟨b85, w86, ew87, eb88, hst⟩ := hst.box [.int .u64 (0:Int), .int .i64 (0:Int), .int .i64 (0:Int), .float .f64 (0:Nat), .float .f64 (0:Nat), .int .u64 (0:Int), .int .i64 (0:Int)] 30
  refine wl_run (v := .pointer (some ⟨b85, 0, none⟩)) (w' := w86) rfl rfl (x_al (by kernel_rfl) ew87 eb88) ?_
  refine wl_nil ?_
  refine then_n ?_
  refine wp_seq ?_
  refine wp_region_lit ?_
  refine wl_val (v := p0) rfl rfl rfl ?_
  replace hst := hst.pull1
  obtain ⟨t90, ht91, hm⟩ := bind_some hm
  refine wl_call rfl rfl (x_call Try.call15 rfl (vs := [p0, .int .i64 (3:Int)]) rfl) ?_
  refine (ref12_Tape_Next_ref hst.to1 ht91).mono ?_
  rintro _ w92 ⟨rfl, hst⟩
  refine ⟨_, rfl, ?_⟩
  replace hst := hst.of1
  refine wl_val (v := .int .u64 (IntKind.u64.wrap t90.1)) rfl rfl (by kernel_rfl) ?_
  refine wl_val (v := p0) rfl rfl rfl ?_
  obtain ⟨t95, ht96, hm⟩ := bind_some hm
  refine wl_call rfl rfl (x_call Try.call15 rfl (vs := [p0, .int .i64 (4:Int)]) rfl) ?_
  refine (ref12_Tape_Next_ref hst.to1 ht96).mono ?_
  rintro _ w97 ⟨rfl, hst⟩
  refine ⟨_, rfl, ?_⟩
  replace hst := hst.of1
  refine wl_val (v := p0) rfl rfl rfl ?_
  obtain ⟨t100, ht101, hm⟩ := bind_some hm
  refine wl_call rfl rfl (x_call Try.call15 rfl (vs := [p0, .int .i64 (4:Int)]) rfl) ?_
  refine (ref12_Tape_Next_ref hst.to1 ht101).mono ?_
  rintro _ w102 ⟨rfl, hst⟩
  refine ⟨_, rfl, ?_⟩
  replace hst := hst.of1
  refine wl_val (v := p0) rfl rfl rfl ?_
  obtain ⟨t105, ht106, hm⟩ := bind_some hm
  refine wl_call rfl rfl (x_call Try.call24 rfl (vs := [p0]) rfl) ?_
  refine (ref12_Tape_Float_ref hst.to1 ht106).mono ?_
  rintro _ w107 ⟨rfl, hst⟩
  refine ⟨_, rfl, ?_⟩
  replace hst := hst.of1
  refine wl_val (v := p0) rfl rfl rfl ?_
  obtain ⟨t110, ht111, hm⟩ := bind_some hm
  refine wl_call rfl rfl (x_call Try.call24 rfl (vs := [p0]) rfl) ?_
  refine (ref12_Tape_Float_ref hst.to1 ht111).mono ?_
  rintro _ w112 ⟨rfl, hst⟩
  refine ⟨_, rfl, ?_⟩
  replace hst := hst.of1
  refine wl_val (v := p0) rfl rfl rfl ?_
  obtain ⟨t115, ht116, hm⟩ := bind_some hm
  refine wl_call rfl rfl (x_call Try.call15 rfl (vs := [p0, .int .i64 (2:Int)]) rfl) ?_
  refine (ref12_Tape_Next_ref hst.to1 ht116).mono ?_
  rintro _ w117 ⟨rfl, hst⟩
  refine ⟨_, rfl, ?_⟩
  replace hst := hst.of1
  refine wl_val (v := .int .u64 (IntKind.u64.wrap t115.1)) rfl rfl (by kernel_rfl) ?_
  refine wl_val (v := p0) rfl rfl rfl ?_
  obtain ⟨t120, ht121, hm⟩ := bind_some hm
  refine wl_call rfl rfl (x_call Try.call15 rfl (vs := [p0, .int .i64 (3:Int)]) rfl) ?_
  refine (ref12_Tape_Next_ref hst.to1 ht121).mono ?_
  rintro _ w122 ⟨rfl, hst⟩
  refine ⟨_, rfl, ?_⟩
  replace hst := hst.of1
  refine wl_val (v := .agg #[.int .u64 (IntKind.u64.wrap t90.1), .int .i64 t95.1, .int .i64 t100.1, .float .f64 t105.1, .float .f64 t110.1, .int .u64 (IntKind.u64.wrap t115.1), .int .i64 t120.1]) rfl rfl (by kernel_rfl) ?_
  replace hst := hst.pull1
  obtain ⟨w125, hr126, hst⟩ := hst.boxStore (P := Try.prog) (t := 30) (cs' := [.int .u64 (IntKind.u64.wrap t90.1), .int .i64 t95.1, .int .i64 t100.1, .float .f64 t105.1, .float .f64 t110.1, .int .u64 (IntKind.u64.wrap t115.1), .int .i64 t120.1]) 0 (.agg #[.int .u64 (IntKind.u64.wrap t90.1), .int .i64 t95.1, .int .i64 t100.1, .float .f64 t105.1, .float .f64 t110.1, .int .u64 (IntKind.u64.wrap t115.1), .int .i64 t120.1]) Try.sizeOf30 (Nat.le_of_ble_eq_true rfl) (ones_cons rfl (ones_cons rfl (ones_cons rfl (ones_cons rfl (ones_cons rfl (ones_cons rfl (ones_cons rfl ones_nil))))))) rfl
  refine wl_unit rfl rfl (x_unit hr126) ?_
  refine wl_nil ?_
  refine then_n ?_
  refine wp_ret ?_
  obtain rfl := some_inj hm
  refine post_ret (vs := [.agg #[.int .u64 (IntKind.u64.wrap t90.1), .int .i64 t95.1, .int .i64 t100.1, .float .f64 t105.1, .float .f64 t110.1, .int .u64 (IntKind.u64.wrap t115.1), .int .i64 t120.1]]) Try.results16 (rvs_cons (rv_cell (cs := [.int .u64 (IntKind.u64.wrap t90.1), .int .i64 t95.1, .int .i64 t100.1, .float .f64 t105.1, .float .f64 t110.1, .int .u64 (IntKind.u64.wrap t115.1), .int .i64 t120.1]) rfl Try.isAgg30 Try.sizeOf30 (hst.bcs0 0 rfl)) rvs_nil) ?_
  replace hst := hst.pull1
  exact ⟨rfl, hst.keep1⟩

theorem ref11_Revoke_ref {w0 w : World} {I : HL} {R : SP} {a0 : (List ref11_Line)} {r0_0 : Value} {a1 : Int} {a2 : Int} (f0_0 : Rd ty_ref11_Line R I r0_0 a0) (hst : St w0 w I [] R) {r : ((List ref11_Line) × Bool)} (hm : ref11_Revoke a0 a1 a2 = some r) :
    Calls Try.prog 17 #[r0_0, .int .u64 a1, .int .u64 a2] w fun e w' => ∃ (q0_0 : Value), e = .returned (.tuple #[q0_0, .bool r.2]) ∧ St w0 w' I [ownS ty_ref11_Line q0_0 r.1] R := by
  unfold ref11_Revoke at hm
  refine calls_start (args := [r0_0, .int .u64 a1, .int .u64 a2]) Try.func17 rfl Try.ntmps17 (Nat.le_of_ble_eq_true rfl) ?_
  refine wp_seq ?_
  refine wp_region_lit ?_
  refine wl_val (v := (.slice none 0 0)) rfl rfl rfl ?_
  refine wl_val (v := .bool false) rfl rfl rfl ?_
  refine wl_nil ?_
  refine then_n ?_
  refine wp_seq ?_
  refine wp_region_lit ?_
  refine wl_val (v := (.slice none 0 0)) rfl rfl rfl ?_
  refine wl_nil ?_
  refine then_n ?_
  refine wp_seq ?_
  refine wp_region_lit ?_
  refine wl_val (v := .bool false) rfl rfl rfl ?_
  refine wl_nil ?_
  refine then_n ?_
  obtain ⟨y234, hm, hx235⟩ := bind_some hm
  refine wp_cut (fun a w => ∃ (z231 : Int) (σ232 : Nat → Value), (ref11_Revoke_j0 a0 a1) z231 = some r ∧ a = Fr 42 (upd (upd (upd (upd (upd σ232 0 (r0_0)) 1 (.int .u64 a1)) 2 (.int .u64 z231)) 8 ((.slice none 0 0))) 9 (.bool false)) ∧ St w0 w I [] R) ?_ ?_
  · skip
    refine wp_seq ?_
    refine wp_region_lit ?_
    refine wl_val (v := .int .u64 a2) rfl rfl rfl ?_
    refine wl_val (v := .bool (a2 == (0:Int))) rfl rfl rfl ?_
    refine wl_nil ?_
    refine then_n ?_
    refine bsplit (a2 == (0:Int)) (fun hc230 => ?_) (fun hc230 => ?_)
    · skip
      replace hm := bif_t hc230 hm
      refine wp_ift (congrArg Value.bool hc230) ?_
      refine wp_region_lit ?_
      refine wl_val (v := .int .u64 (1:Int)) rfl rfl rfl ?_
      refine wl_nil ?_
      refine then_n ?_
      replace hst := hst.keep0
      obtain rfl := some_inj hm
      exact ⟨(1:Int), _, hx235, ((fr_upd (t := 0) (v := r0_0) rfl).trans ((fr_upd (t := 1) (v := .int .u64 a1) rfl).trans ((fr_upd (t := 2) (v := .int .u64 (1:Int)) rfl).trans ((fr_upd (t := 8) (v := (.slice none 0 0)) rfl).trans ((fr_upd (t := 9) (v := .bool false) rfl).trans rfl))))), hst⟩
    · skip
      replace hm := bif_f hc230 hm
      refine wp_iff (congrArg Value.bool hc230) ?_
      refine wp_skip ?_
      refine then_n ?_
      replace hst := hst.keep0
      obtain rfl := some_inj hm
      exact ⟨a2, _, hx235, ((fr_upd (t := 0) (v := r0_0) rfl).trans ((fr_upd (t := 1) (v := .int .u64 a1) rfl).trans ((fr_upd (t := 2) (v := .int .u64 a2) rfl).trans ((fr_upd (t := 8) (v := (.slice none 0 0)) rfl).trans ((fr_upd (t := 9) (v := .bool false) rfl).trans rfl))))), hst⟩
  · skip
    clear hst
    rintro _ w236 ⟨z231, σ232, hm, rfl, hst⟩
    dsimp only [ref11_Revoke_j0] at hm
    obtain ⟨y393, hm, hx394⟩ := bind_some hm
    refine wp_cut (fun a w => ∃ (z389 : (List ref11_Line)) (z390 : Bool) (v388 : Value) (σ391 : Nat → Value), (ref11_Revoke_j1) (z389, z390) = some r ∧ a = Fr 42 (upd (upd σ391 8 (v388)) 9 (.bool z390)) ∧ St w0 w I [ownS ty_ref11_Line v388 z389] R) ?_ ?_
    · skip
      refine wp_seq ?_
      refine wp_region_lit ?_
      refine wl_val (v := .int .i64 (0:Int)) rfl rfl rfl ?_
      refine wl_nil ?_
      refine then_n ?_
      refine wp_block ?_
      replace hst := hst.own_nil ty_ref11_Line
      obtain ⟨n347, hm⟩ := loopO_some hm
      refine wp_loop_n (fun n a w => ∃ (z341 : Int) (z342 : (List ref11_Line)) (z345 : Bool) (v343 : Value) (σ346 : Nat → Value), loopN (ref11_Revoke_l2 a0 a1 z231) n (z341, z342, z345) = some y393 ∧ a = Fr 42 (upd (upd (upd (upd (upd (upd σ346 0 (r0_0)) 1 (.int .u64 a1)) 2 (.int .u64 z231)) 8 (v343)) 9 (.bool z345)) 10 (.int .i64 z341)) ∧ St w0 w I [ownS ty_ref11_Line v343 z342] R) n347 ⟨(0:Int), [], false, (.slice none 0 0), _, hm, ((fr_upd (t := 0) (v := r0_0) rfl).trans ((fr_upd (t := 1) (v := .int .u64 a1) rfl).trans ((fr_upd (t := 2) (v := .int .u64 z231) rfl).trans ((fr_upd (t := 8) (v := (.slice none 0 0)) rfl).trans ((fr_upd (t := 9) (v := .bool false) rfl).trans ((fr_upd (t := 10) (v := .int .i64 (0:Int)) rfl).trans rfl)))))), hst⟩ ?_
      rintro n353 _ w348 ⟨z341, z342, z345, v343, σ346, hm, rfl, hst⟩
      obtain ⟨n350, y351, rfl, hm, hx352⟩ := loopN_some hm
      dsimp only [ref11_Revoke_l2] at hm
      refine wp_seq ?_
      refine wp_seq ?_
      refine wp_region_lit ?_
      refine wl_val (v := .int .i64 z341) rfl rfl rfl ?_
      refine wl_val (v := r0_0) rfl rfl rfl ?_
      refine wl_val (v := .int .i64 ((a0).length : Int)) rfl rfl (x_len rfl Try.underlying42 (rd_sliceV f0_0)) ?_
      refine wl_val (v := .bool (decide (z341 < ((a0).length : Int)))) rfl rfl rfl ?_
      refine wl_nil ?_
      refine then_n ?_
      refine bsplit (decide (z341 < ((a0).length : Int))) (fun hc354 => ?_) (fun hc354 => ?_)
      · skip
        replace hm := bif_t hc354 hm
        refine wp_ift (congrArg Value.bool hc354) ?_
        refine wp_skip ?_
        refine then_n ?_
        refine wp_seq ?_
        refine wp_block ?_
        refine wp_seq ?_
        refine wp_region_lit ?_
        refine wl_val (v := r0_0) rfl rfl rfl ?_
        refine wl_val (v := .int .i64 z341) rfl rfl rfl ?_
        obtain ⟨x355, hx356, hm⟩ := bind_some hm
        obtain ⟨h357, h358, hi359⟩ := geto_some hx356
        refine wl_val (v := .pointer (some (eAddr r0_0 (z341.toNat * 9 + 0)))) rfl rfl (x_index rfl rfl Try.underlying42 Try.sizeOf48 (rd_sliceV f0_0) h357 h358) ?_
        refine wl_val (v := .agg #[.int .u64 x355.R.ID, .int .i64 x355.R.From, .int .i64 x355.R.To, .float .f64 x355.R.Lo, .float .f64 x355.R.Hi, .int .u64 x355.R.Authority, .int .i64 x355.R.Quota, .int .u64 x355.From, .int .u64 x355.To]) rfl rfl (x_loadN (cs := [.int .u64 x355.R.ID, .int .i64 x355.R.From, .int .i64 x355.R.To, .float .f64 x355.R.Lo, .float .f64 x355.R.Hi, .int .u64 x355.R.Authority, .int .i64 x355.R.Quota, .int .u64 x355.From, .int .u64 x355.To]) rfl Try.isAgg48 Try.sizeOf48 (rd_loadN f0_0 (HL.le.refl _) hst hi359 0 (by rintro _ rfl; rfl))) ?_
        obtain ⟨b360, w361, ew362, eb363, hst⟩ := hst.box [.int .u64 (0:Int), .int .i64 (0:Int), .int .i64 (0:Int), .float .f64 (0:Nat), .float .f64 (0:Nat), .int .u64 (0:Int), .int .i64 (0:Int), .int .u64 (0:Int), .int .u64 (0:Int)] 48
        refine wl_run (v := .pointer (some ⟨b360, 0, none⟩)) (w' := w361) rfl rfl (x_al (by kernel_rfl) ew362 eb363) ?_
        obtain ⟨w365, hr366, hst⟩ := hst.boxStore (P := Try.prog) (t := 48) (cs' := [.int .u64 x355.R.ID, .int .i64 x355.R.From, .int .i64 x355.R.To, .float .f64 x355.R.Lo, .float .f64 x355.R.Hi, .int .u64 x355.R.Authority, .int .i64 x355.R.Quota, .int .u64 x355.From, .int .u64 x355.To]) 0 (.agg #[.int .u64 x355.R.ID, .int .i64 x355.R.From, .int .i64 x355.R.To, .float .f64 x355.R.Lo, .float .f64 x355.R.Hi, .int .u64 x355.R.Authority, .int .i64 x355.R.Quota, .int .u64 x355.From, .int .u64 x355.To]) Try.sizeOf48 (Nat.le_of_ble_eq_true rfl) (ones_cons rfl (ones_cons rfl (ones_cons rfl (ones_cons rfl (ones_cons rfl (ones_cons rfl (ones_cons rfl (ones_cons rfl (ones_cons rfl ones_nil))))))))) rfl
        refine wl_unit rfl rfl (x_unit hr366) ?_
        refine wl_nil ?_
        refine then_n ?_
        obtain ⟨y375, hm, hx376⟩ := bind_some hm
        refine wp_cut (fun a w => ∃ (z371 : Bool) (z372 : Int) (σ373 : Nat → Value), (ref11_Revoke_j3 z342 x355 z341) (z371, z372) = some y351 ∧ a = Fr 42 (upd (upd (upd (upd (upd (upd (upd σ373 0 (r0_0)) 1 (.int .u64 a1)) 2 (.int .u64 z231)) 8 (v343)) 9 (.bool z371)) 10 (.int .i64 z341)) 11 (.pointer (some ⟨b360, 0, none⟩))) ∧ St w0 w I [ownS ty_ref11_Line v343 z342, cells b360 [.int .u64 x355.R.ID, .int .i64 x355.R.From, .int .i64 x355.R.To, .float .f64 x355.R.Lo, .float .f64 x355.R.Hi, .int .u64 x355.R.Authority, .int .i64 x355.R.Quota, .int .u64 x355.From, .int .u64 z372]] R) ?_ ?_
        · skip
          refine wp_seq ?_
          refine wp_region_lit ?_
          refine wl_val (v := .pointer (some ⟨b360, 0, none⟩)) rfl rfl (x_field rfl Try.underlying48 rfl Try.sizeOf30 rfl) ?_
          refine wl_val (v := .pointer (some ⟨b360, 0, none⟩)) rfl rfl (x_field rfl Try.underlying30 rfl Try.sizeOf27 rfl) ?_
          refine wl_val (v := .int .u64 x355.R.ID) rfl rfl (x_load rfl Try.isAgg27 (hst.bc0 rfl)) ?_
          refine wl_val (v := .int .u64 a1) rfl rfl rfl ?_
          refine wl_val (v := .bool (x355.R.ID == a1)) rfl rfl rfl ?_
          refine wl_val (v := .bool (x355.R.ID == a1)) rfl rfl rfl ?_
          refine bsplit (x355.R.ID == a1) (fun hc367 => ?_) (fun hc367 => ?_)
          · skip
            replace hm := bif_t hc367 hm
            refine wl_val (v := .pointer (some ⟨b360, 8, none⟩)) ((wanted_eq rfl rfl rfl (congrArg Value.bool hc367)).trans rfl) rfl (x_field rfl Try.underlying48 rfl Try.sizeOf27 rfl) ?_
            refine wl_val (v := .int .u64 x355.To) ((wanted_eq rfl rfl rfl (congrArg Value.bool hc367)).trans rfl) rfl (x_load rfl Try.isAgg27 (hst.bc0 rfl)) ?_
            refine wl_val (v := .bool (x355.To == (0:Int))) ((wanted_eq rfl rfl rfl (congrArg Value.bool hc367)).trans rfl) rfl rfl ?_
            refine wl_val (v := .bool (x355.To == (0:Int))) rfl rfl (x_pick_t hc367 rfl rfl) ?_
            refine wl_nil ?_
            refine then_n ?_
            refine bsplit (x355.To == (0:Int)) (fun hc368 => ?_) (fun hc368 => ?_)
            · skip
              replace hm := bif_t hc368 hm
              refine wp_ift (congrArg Value.bool hc368) ?_
              refine wp_seq ?_
              refine wp_region_lit ?_
              refine wl_val (v := .int .u64 z231) rfl rfl rfl ?_
              refine wl_val (v := .pointer (some ⟨b360, 8, none⟩)) rfl rfl (x_field rfl Try.underlying48 rfl Try.sizeOf27 rfl) ?_
              obtain ⟨w369, hr370, hst⟩ := hst.boxStore (P := Try.prog) (t := 27) (cs' := [.int .u64 x355.R.ID, .int .i64 x355.R.From, .int .i64 x355.R.To, .float .f64 x355.R.Lo, .float .f64 x355.R.Hi, .int .u64 x355.R.Authority, .int .i64 x355.R.Quota, .int .u64 x355.From, .int .u64 z231]) 8 (.int .u64 z231) Try.sizeOf27 (Nat.le_of_ble_eq_true rfl) (ones_cons rfl ones_nil) rfl
              refine wl_unit rfl rfl (x_unit hr370) ?_
              refine wl_nil ?_
              refine then_n ?_
              refine wp_region_lit ?_
              refine wl_val (v := .bool true) rfl rfl rfl ?_
              refine wl_nil ?_
              refine then_n ?_
              replace hst := hst.pull1
              replace hst := hst.keep2
              obtain rfl := some_inj hm
              exact ⟨true, z231, _, hx376, ((fr_upd (t := 0) (v := r0_0) rfl).trans ((fr_upd (t := 1) (v := .int .u64 a1) rfl).trans ((fr_upd (t := 2) (v := .int .u64 z231) rfl).trans ((fr_upd (t := 8) (v := v343) rfl).trans ((fr_upd (t := 9) (v := .bool true) rfl).trans ((fr_upd (t := 10) (v := .int .i64 z341) rfl).trans ((fr_upd (t := 11) (v := .pointer (some ⟨b360, 0, none⟩)) rfl).trans rfl))))))), hst⟩
            · skip
              replace hm := bif_f hc368 hm
              refine wp_iff (congrArg Value.bool hc368) ?_
              refine wp_skip ?_
              refine then_n ?_
              replace hst := hst.pull1
              replace hst := hst.keep2
              obtain rfl := some_inj hm
              exact ⟨z345, x355.To, _, hx376, ((fr_upd (t := 0) (v := r0_0) rfl).trans ((fr_upd (t := 1) (v := .int .u64 a1) rfl).trans ((fr_upd (t := 2) (v := .int .u64 z231) rfl).trans ((fr_upd (t := 8) (v := v343) rfl).trans ((fr_upd (t := 9) (v := .bool z345) rfl).trans ((fr_upd (t := 10) (v := .int .i64 z341) rfl).trans ((fr_upd (t := 11) (v := .pointer (some ⟨b360, 0, none⟩)) rfl).trans rfl))))))), hst⟩
          · skip
            replace hm := bif_f hc367 hm
            refine wl_off ((wanted_eq rfl rfl rfl (congrArg Value.bool hc367)).trans rfl) rfl ?_
            refine wl_off ((wanted_eq rfl rfl rfl (congrArg Value.bool hc367)).trans rfl) rfl ?_
            refine wl_off ((wanted_eq rfl rfl rfl (congrArg Value.bool hc367)).trans rfl) rfl ?_
            refine wl_val (v := .bool false) rfl rfl (x_pick_f hc367 rfl rfl) ?_
            refine wl_nil ?_
            refine then_n ?_
            refine wp_iff rfl ?_
            refine wp_skip ?_
            refine then_n ?_
            replace hst := hst.pull1
            replace hst := hst.keep2
            obtain rfl := some_inj hm
            exact ⟨z345, x355.To, _, hx376, ((fr_upd (t := 0) (v := r0_0) rfl).trans ((fr_upd (t := 1) (v := .int .u64 a1) rfl).trans ((fr_upd (t := 2) (v := .int .u64 z231) rfl).trans ((fr_upd (t := 8) (v := v343) rfl).trans ((fr_upd (t := 9) (v := .bool z345) rfl).trans ((fr_upd (t := 10) (v := .int .i64 z341) rfl).trans ((fr_upd (t := 11) (v := .pointer (some ⟨b360, 0, none⟩)) rfl).trans rfl))))))), hst⟩
        · skip
          clear hst
          rintro _ w377 ⟨z371, z372, σ373, hm, rfl, hst⟩
          dsimp only [ref11_Revoke_j3] at hm
          refine wp_region_lit ?_
          refine wl_val (v := v343) rfl rfl rfl ?_
          refine wl_val (v := .agg #[.int .u64 x355.R.ID, .int .i64 x355.R.From, .int .i64 x355.R.To, .float .f64 x355.R.Lo, .float .f64 x355.R.Hi, .int .u64 x355.R.Authority, .int .i64 x355.R.Quota, .int .u64 x355.From, .int .u64 z372]) rfl rfl (x_loadN (cs := [.int .u64 x355.R.ID, .int .i64 x355.R.From, .int .i64 x355.R.To, .float .f64 x355.R.Lo, .float .f64 x355.R.Hi, .int .u64 x355.R.Authority, .int .i64 x355.R.Quota, .int .u64 x355.From, .int .u64 z372]) rfl Try.isAgg48 Try.sizeOf48 (hst.bcs1 0 rfl)) ?_
          obtain ⟨b378, w379, ew380, eb381, hst⟩ := hst.lits (E := ty_ref11_Line) (xs := [({ R := x355.R, From := x355.From, To := z372 } : ref11_Line)]) [[.int .u64 x355.R.ID, .int .i64 x355.R.From, .int .i64 x355.R.To, .float .f64 x355.R.Lo, .float .f64 x355.R.Hi, .int .u64 x355.R.Authority, .int .i64 x355.R.Quota, .int .u64 x355.From, .int .u64 z372]] 48 1 rfl (Reps.cons rfl Reps.nil)
          refine wl_run (v := (.slice (some ⟨b378, 0, none⟩) 1 1)) (w' := w379) rfl rfl (x_als (by kernel_rfl) ew380 eb381) ?_
          obtain ⟨hg383, hm⟩ := gd_some hm
          replace hst := hst.pull1
          obtain ⟨v384, w385, hr386, hst⟩ := run_append elem_42 Try.underlying42 hst hst.src1 (room_of hg383 rfl) 42
          refine wl_run (v := v384) (w' := w385) rfl rfl (x_append rfl rfl hr386) ?_
          refine wl_val (v := v384) rfl rfl rfl ?_
          refine wl_nil ?_
          refine blk_n ?_
          refine then_n ?_
          refine wp_region_lit ?_
          refine wl_val (v := .int .i64 z341) rfl rfl rfl ?_
          refine wl_val (v := .int .i64 (IntKind.i64.wrap (z341 + (1:Int)))) rfl rfl rfl ?_
          refine wl_val (v := .int .i64 (IntKind.i64.wrap (z341 + (1:Int)))) rfl rfl rfl ?_
          refine wl_nil ?_
          refine then_n ?_
          replace hst := hst.keep1
          obtain rfl := some_inj hm
          exact ⟨_, Nat.lt_succ_self _, (IntKind.i64.wrap (z341 + (1:Int))), (z342 ++ ([({ R := x355.R, From := x355.From, To := z372 } : ref11_Line)])), z371, v384, _, hx352, ((fr_upd (t := 0) (v := r0_0) rfl).trans ((fr_upd (t := 1) (v := .int .u64 a1) rfl).trans ((fr_upd (t := 2) (v := .int .u64 z231) rfl).trans ((fr_upd (t := 8) (v := v384) rfl).trans ((fr_upd (t := 9) (v := .bool z371) rfl).trans ((fr_upd (t := 10) (v := .int .i64 (IntKind.i64.wrap (z341 + (1:Int)))) rfl).trans rfl)))))), hst⟩
      · skip
        replace hm := bif_f hc354 hm
        refine wp_iff (congrArg Value.bool hc354) ?_
        refine wp_exit ?_
        refine then_x ?_
        refine then_x ?_
        replace hm := inr_up hm hx352
        refine blk_x ?_
        refine then_n ?_
        replace hst := hst.keep1
        obtain rfl := some_inj hm
        exact ⟨z342, z345, v343, _, hx394, ((fr_upd (t := 8) (v := v343) rfl).trans ((fr_upd (t := 9) (v := .bool z345) rfl).trans rfl)), hst⟩
    · skip
      clear hst
      rintro _ w395 ⟨z389, z390, v388, σ391, hm, rfl, hst⟩
      dsimp only [ref11_Revoke_j1] at hm
      refine wp_seq ?_
      refine wp_region_lit ?_
      refine wl_val (v := v388) rfl rfl rfl ?_
      refine wl_val (v := .bool z390) rfl rfl rfl ?_
      refine wl_val (v := v388) rfl rfl rfl ?_
      refine wl_val (v := .bool z390) rfl rfl rfl ?_
      refine wl_nil ?_
      refine then_n ?_
      refine wp_ret ?_
      obtain rfl := some_inj hm
      refine post_ret (vs := [v388, .bool z390]) Try.results17 (rvs_cons (rv_tmp rfl) (rvs_cons (rv_tmp rfl) rvs_nil)) ?_
      exact ⟨v388, rfl, hst.keep1⟩

theorem policy_Book_Len_ref {w0 w : World} {I : HL} {R : SP} {a0 : (Option policy_Book)} {p0 : Value}  (hst : St w0 w I [objO at_policy_Book p0 a0] R) {r : (Int)} (hm : policy_Book_Len a0 = some r) :
    Calls Try.prog 14 #[p0] w fun e w' => e = .returned (.int .i64 r) ∧ St w0 w' I [objO at_policy_Book p0 a0] R := by
  rcases a0 with _ | o0
  · skip
    obtain ⟨rfl, hst'⟩ := objO_none hst
    clear hst
    have hst := hst'
    clear hst'
    dsimp only [policy_Book_Len] at hm
    refine calls_start (args := [.pointer none]) Try.func14 rfl Try.ntmps14 (Nat.le_of_ble_eq_true rfl) ?_
    refine wp_seq ?_
    refine wp_region_lit ?_
    refine wl_val (v := .int .i64 (0:Int)) rfl rfl rfl ?_
    refine wl_nil ?_
    refine then_n ?_
    refine wp_seq ?_
    refine wp_seq ?_
    refine wp_region_lit ?_
    refine wl_val (v := .pointer none) rfl rfl rfl ?_
    refine wl_val (v := .bool true) rfl rfl (by kernel_rfl) ?_
    refine wl_nil ?_
    refine then_n ?_
    refine wp_ift rfl ?_
    refine wp_seq ?_
    refine wp_region_lit ?_
    refine wl_val (v := .int .i64 (0:Int)) rfl rfl rfl ?_
    refine wl_nil ?_
    refine then_n ?_
    refine wp_ret ?_
    refine then_r ?_
    replace hst := hst.objO_nil at_policy_Book
    obtain rfl := some_inj hm
    refine post_ret (vs := [.int .i64 (0:Int)]) Try.results14 (rvs_cons (rv_tmp rfl) rvs_nil) ?_
    exact ⟨rfl, hst.keep1⟩
  · skip
    replace hst := objO_get hst
    dsimp only [policy_Book_Len] at hm
    refine calls_start (args := [p0]) Try.func14 rfl Try.ntmps14 (Nat.le_of_ble_eq_true rfl) ?_
    refine wp_seq ?_
    refine wp_region_lit ?_
    refine wl_val (v := .int .i64 (0:Int)) rfl rfl rfl ?_
    refine wl_nil ?_
    refine then_n ?_
    refine wp_seq ?_
    refine wp_seq ?_
    refine wp_region_lit ?_
    refine wl_val (v := p0) rfl rfl rfl ?_
    obtain ⟨b254, v255, rfl, hst'⟩ := at_policy_Book_open hst
    clear hst
    have hst := hst'
    clear hst'
    refine wl_val (v := .bool false) rfl rfl (by kernel_rfl) ?_
    refine wl_nil ?_
    refine then_n ?_
    refine wp_iff rfl ?_
    refine wp_skip ?_
    refine then_n ?_
    refine wp_seq ?_
    refine wp_region_lit ?_
    refine wl_val (v := .pointer (some ⟨b254, 0, none⟩)) rfl rfl rfl ?_
    refine wl_val (v := .pointer (some ⟨b254, 0, none⟩)) rfl rfl rfl ?_
    refine wl_val (v := .pointer (some ⟨b254, 0, none⟩)) rfl rfl (x_field rfl Try.underlying64 rfl Try.sizeOf62 rfl) ?_
    refine wl_val (v := v255) rfl rfl (x_load rfl Try.isAgg62 (hst.bc0 rfl)) ?_
    refine wl_val (v := .int .i64 ((o0.l).length : Int)) rfl rfl (x_len rfl Try.underlying62 hst.sv1) ?_
    refine wl_val (v := .int .i64 ((o0.l).length : Int)) rfl rfl rfl ?_
    refine wl_nil ?_
    refine then_n ?_
    refine wp_ret ?_
    replace hst := hst.pull1
    replace hst := hst.pull1
    replace hst := at_policy_Book_close (pv := .pointer (some ⟨b254, 0, none⟩)) (x := o0) hst rfl
    replace hst := objO_some hst
    obtain rfl := some_inj hm
    refine post_ret (vs := [.int .i64 ((o0.l).length : Int)]) Try.results14 (rvs_cons (rv_tmp rfl) rvs_nil) ?_
    exact ⟨rfl, hst.keep1⟩

theorem octet_Writer_lay_ref {w0 w : World} {I : HL} {R : SP} {a0 : octet_Writer} {p0 : Value} {a1 : (List Int)} {r1_0 : Value} (f1_0 : Rd (tyInt .u8) R I r1_0 a1) (hst : St w0 w I [at_octet_Writer p0 a0] R) {r : (octet_Writer)} (hm : octet_Writer_lay a0 a1 = some r) :
    Calls Try.prog 43 #[p0, r1_0] w fun e w' => e = .returned (p0) ∧ St w0 w' I [at_octet_Writer p0 r] R := by
  unfold octet_Writer_lay at hm
  refine calls_start (args := [p0, r1_0]) Try.func43 rfl Try.ntmps43 (Nat.le_of_ble_eq_true rfl) ?_
  refine wp_seq ?_
  refine wp_region_lit ?_
  refine wl_val (v := .pointer none) rfl rfl rfl ?_
  refine wl_nil ?_
  refine then_n ?_
  refine wp_seq ?_
  refine wp_region_lit ?_
  refine wl_val (v := p0) rfl rfl rfl ?_
  refine wl_val (v := p0) rfl rfl rfl ?_
  obtain ⟨b276, v277, rfl, hst'⟩ := at_octet_Writer_open hst
  clear hst
  have hst := hst'
  clear hst'
  refine wl_val (v := .pointer (some ⟨b276, 0, none⟩)) rfl rfl rfl ?_
  refine wl_val (v := .pointer (some ⟨b276, 0, none⟩)) rfl rfl (x_field rfl Try.underlying77 rfl Try.sizeOf23 rfl) ?_
  refine wl_val (v := v277) rfl rfl (x_load rfl Try.isAgg23 (hst.bc0 rfl)) ?_
  refine wl_val (v := r1_0) rfl rfl rfl ?_
  obtain ⟨hg279, hm⟩ := gd_some hm
  replace hst := hst.pull1
  obtain ⟨v280, w281, hr282, hst⟩ := run_append elem_23 Try.underlying23 hst (Src.of_rd hst f1_0 flat_int) (room_of hg279 rfl) 23
  refine wl_run (v := v280) (w' := w281) rfl rfl (x_append rfl rfl hr282) ?_
  refine wl_val (v := .pointer (some ⟨b276, 0, none⟩)) rfl rfl rfl ?_
  refine wl_val (v := .pointer (some ⟨b276, 0, none⟩)) rfl rfl (x_field rfl Try.underlying77 rfl Try.sizeOf23 rfl) ?_
  replace hst := hst.pull1
  obtain ⟨w283, hr284, hst⟩ := hst.boxStore1 (P := Try.prog) (t := 23) (cs' := [v280]) 0 v280 (one_of_sliceV hst.sv1) Try.sizeOf23 rfl rfl
  refine wl_unit rfl rfl (x_unit hr284) ?_
  refine wl_nil ?_
  refine then_n ?_
  refine wp_seq ?_
  refine wp_region_lit ?_
  refine wl_val (v := .pointer (some ⟨b276, 0, none⟩)) rfl rfl rfl ?_
  refine wl_val (v := .pointer (some ⟨b276, 0, none⟩)) rfl rfl rfl ?_
  refine wl_nil ?_
  refine then_n ?_
  refine wp_ret ?_
  replace hst := hst.pull1
  replace hst := hst.pull1
  replace hst := at_octet_Writer_close (pv := .pointer (some ⟨b276, 0, none⟩)) (x := ({ p := (a0.p ++ a1) } : octet_Writer)) hst rfl
  obtain rfl := some_inj hm
  refine post_ret (vs := [.pointer (some ⟨b276, 0, none⟩)]) Try.results43 (rvs_cons (rv_tmp rfl) rvs_nil) ?_
  exact ⟨rfl, hst.keep1⟩

theorem octet_Writer_Num_ref {w0 w : World} {I : HL} {R : SP} {a0 : octet_Writer} {p0 : Value} {a1 : Int} {a2 : Int}  (hst : St w0 w I [at_octet_Writer p0 a0] R) {r : (octet_Writer)} (hm : octet_Writer_Num a0 a1 a2 = some r) :
    Calls Try.prog 35 #[p0, .int .u64 a1, .int .i64 a2] w fun e w' => e = .returned (p0) ∧ St w0 w' I [at_octet_Writer p0 r] R := by
  unfold octet_Writer_Num at hm
  refine calls_start (args := [p0, .int .u64 a1, .int .i64 a2]) Try.func35 rfl Try.ntmps35 (Nat.le_of_ble_eq_true rfl) ?_
  refine wp_seq ?_
  refine wp_region_lit ?_
  refine wl_val (v := .pointer none) rfl rfl rfl ?_
  refine wl_nil ?_
  refine then_n ?_
  refine wp_seq ?_
  refine wp_seq ?_
  refine wp_region_lit ?_
  refine wl_val (v := .int .i64 a2) rfl rfl rfl ?_
  refine wl_val (v := .int .i64 (0:Int)) rfl rfl rfl ?_
  refine wl_nil ?_
  refine then_n ?_
  refine wp_block ?_
  obtain ⟨n344, hm⟩ := loopO_some hm
  refine wp_loop_n (fun n a w => ∃ (z341 : octet_Writer) (z342 : Int) (σ343 : Nat → Value), loopN (octet_Writer_Num_l0 a2 a1) n (z341, z342) = some r ∧ a = Fr 22 (upd (upd (upd (upd σ343 0 (p0)) 1 (.int .u64 a1)) 8 (.int .i64 a2)) 9 (.int .i64 z342)) ∧ St w0 w I [at_octet_Writer p0 z341] R) n344 ⟨a0, (0:Int), _, hm, ((fr_upd (t := 0) (v := p0) rfl).trans ((fr_upd (t := 1) (v := .int .u64 a1) rfl).trans ((fr_upd (t := 8) (v := .int .i64 a2) rfl).trans ((fr_upd (t := 9) (v := .int .i64 (0:Int)) rfl).trans rfl)))), hst⟩ ?_
  rintro n350 _ w345 ⟨z341, z342, σ343, hm, rfl, hst⟩
  obtain ⟨n347, y348, rfl, hm, hx349⟩ := loopN_some hm
  dsimp only [octet_Writer_Num_l0] at hm
  refine wp_seq ?_
  refine wp_region_lit ?_
  refine wl_val (v := .bool (decide (z342 < a2))) rfl rfl rfl ?_
  refine wl_nil ?_
  refine then_n ?_
  refine wp_seq ?_
  refine bsplit (decide (z342 < a2)) (fun hc351 => ?_) (fun hc351 => ?_)
  · skip
    replace hm := bif_t hc351 hm
    refine wp_ift (congrArg Value.bool hc351) ?_
    refine wp_skip ?_
    refine then_n ?_
    refine wp_seq ?_
    refine wp_block ?_
    refine wp_seq ?_
    refine wp_region_lit ?_
    refine wl_val (v := .int .i64 z342) rfl rfl rfl ?_
    refine wl_val (v := .int .i64 z342) rfl rfl rfl ?_
    refine wl_nil ?_
    refine then_n ?_
    refine wp_region_lit ?_
    refine wl_val (v := p0) rfl rfl rfl ?_
    refine wl_val (v := .int .u64 a1) rfl rfl rfl ?_
    refine wl_val (v := .int .i64 z342) rfl rfl rfl ?_
    refine wl_val (v := .int .i64 (IntKind.i64.wrap ((8:Int) * z342))) rfl rfl rfl ?_
    obtain ⟨hg352, hm⟩ := gd_some hm
    refine wl_val (v := .int .u64 (iShr .u64 a1 (IntKind.i64.wrap ((8:Int) * z342)))) rfl rfl (x_shr (of_decide_eq_true hg352) rfl rfl) ?_
    refine wl_val (v := .int .u8 (IntKind.u8.wrap (iShr .u64 a1 (IntKind.i64.wrap ((8:Int) * z342))))) rfl rfl (by kernel_rfl) ?_
    obtain ⟨b353, w354, ew355, eb356, hst⟩ := hst.lits (E := (tyInt .u8)) (xs := [(IntKind.u8.wrap (iShr .u64 a1 (IntKind.i64.wrap ((8:Int) * z342))))]) [[.int .u8 (IntKind.u8.wrap (iShr .u64 a1 (IntKind.i64.wrap ((8:Int) * z342))))]] 5 1 rfl (Reps.cons rfl Reps.nil)
    refine wl_run (v := (.slice (some ⟨b353, 0, none⟩) 1 1)) (w' := w354) rfl rfl (x_als (by kernel_rfl) ew355 eb356) ?_
    obtain ⟨css358, hq359, hst⟩ := hst.own_open
    replace hst := hst.pull1
    obtain ⟨t360, ht361, hm⟩ := bind_some hm
    refine wl_call rfl rfl (x_call Try.call43 rfl (vs := [p0, (.slice (some ⟨b353, 0, none⟩) 1 1)]) rfl) ?_
    refine (octet_Writer_lay_ref (hst.sub.rdrow0 hq359) hst.to1 ht361).mono ?_
    rintro _ w362 ⟨rfl, hst⟩
    refine ⟨_, rfl, ?_⟩
    replace hst := hst.of1
    replace hst := hst.pull1
    replace hst := hst.own_close hq359
    refine wl_nil ?_
    refine blk_n ?_
    refine then_n ?_
    refine wp_region_lit ?_
    refine wl_val (v := .int .i64 (IntKind.i64.wrap (z342 + (1:Int)))) rfl rfl rfl ?_
    refine wl_val (v := .int .i64 (IntKind.i64.wrap (z342 + (1:Int)))) rfl rfl rfl ?_
    refine wl_nil ?_
    refine then_n ?_
    replace hst := hst.pull1
    replace hst := hst.keep1
    obtain rfl := some_inj hm
    exact ⟨_, Nat.lt_succ_self _, t360, (IntKind.i64.wrap (z342 + (1:Int))), _, hx349, ((fr_upd (t := 0) (v := p0) rfl).trans ((fr_upd (t := 1) (v := .int .u64 a1) rfl).trans ((fr_upd (t := 8) (v := .int .i64 a2) rfl).trans ((fr_upd (t := 9) (v := .int .i64 (IntKind.i64.wrap (z342 + (1:Int)))) rfl).trans rfl)))), hst⟩
  · skip
    replace hm := bif_f hc351 hm
    refine wp_iff (congrArg Value.bool hc351) ?_
    refine wp_exit ?_
    refine then_x ?_
    refine then_x ?_
    replace hm := inr_up hm hx349
    refine blk_x ?_
    refine then_n ?_
    refine wp_seq ?_
    refine wp_region_lit ?_
    refine wl_val (v := p0) rfl rfl rfl ?_
    refine wl_val (v := p0) rfl rfl rfl ?_
    refine wl_nil ?_
    refine then_n ?_
    refine wp_ret ?_
    obtain rfl := some_inj hm
    refine post_ret (vs := [p0]) Try.results35 (rvs_cons (rv_tmp rfl) rvs_nil) ?_
    exact ⟨rfl, hst.keep1⟩

theorem octet_Writer_Done_ref {w0 w : World} {I : HL} {R : SP} {a0 : octet_Writer} {p0 : Value}  (hst : St w0 w I [at_octet_Writer p0 a0] R) {r : ((List Int))} (hm : octet_Writer_Done a0 = some r) :
    Calls Try.prog 37 #[p0] w fun e w' => ∃ (q0_0 : Value), e = .returned (q0_0) ∧ St w0 w' I [ownS (tyInt .u8) q0_0 r] R := by
  unfold octet_Writer_Done at hm
  refine calls_start (args := [p0]) Try.func37 rfl Try.ntmps37 (Nat.le_of_ble_eq_true rfl) ?_
  refine wp_seq ?_
  refine wp_region_lit ?_
  refine wl_val (v := (.slice none 0 0)) rfl rfl rfl ?_
  refine wl_nil ?_
  refine then_n ?_
  refine wp_seq ?_
  refine wp_region_lit ?_
  refine wl_val (v := p0) rfl rfl rfl ?_
  obtain ⟨b283, v284, rfl, hst'⟩ := at_octet_Writer_open hst
  clear hst
  have hst := hst'
  clear hst'
  refine wl_val (v := .pointer (some ⟨b283, 0, none⟩)) rfl rfl rfl ?_
  refine wl_val (v := .pointer (some ⟨b283, 0, none⟩)) rfl rfl (x_field rfl Try.underlying77 rfl Try.sizeOf23 rfl) ?_
  refine wl_val (v := v284) rfl rfl (x_load rfl Try.isAgg23 (hst.bc0 rfl)) ?_
  refine wl_val (v := v284) rfl rfl rfl ?_
  refine wl_nil ?_
  refine then_n ?_
  refine wp_ret ?_
  obtain rfl := some_inj hm
  refine post_ret (vs := [v284]) Try.results37 (rvs_cons (rv_tmp rfl) rvs_nil) ?_
  replace hst := hst.pull1
  exact ⟨v284, rfl, hst.keep1⟩

theorem math_IsNaN_ref {w0 w : World} {I : HL} {R : SP} {a0 : Nat}  (hst : St w0 w I [] R) {r : (Bool)} (hm : math_IsNaN a0 = some r) :
    Calls Try.prog 44 #[.float .f64 a0] w fun e w' => e = .returned (.bool r) ∧ St w0 w' I [] R := by
  unfold math_IsNaN at hm
  refine calls_start (args := [.float .f64 a0]) Try.func44 rfl Try.ntmps44 (Nat.le_of_ble_eq_true rfl) ?_
  refine wp_seq ?_
  refine wp_region_lit ?_
  refine wl_val (v := .bool false) rfl rfl rfl ?_
  refine wl_nil ?_
  refine then_n ?_
  refine wp_seq ?_
  refine wp_region_lit ?_
  refine wl_val (v := .float .f64 a0) rfl rfl rfl ?_
  refine wl_val (v := .float .f64 a0) rfl rfl rfl ?_
  refine wl_val (v := .bool (fNe a0 a0)) rfl rfl rfl ?_
  refine wl_val (v := .bool (fNe a0 a0)) rfl rfl rfl ?_
  refine wl_nil ?_
  refine then_n ?_
  refine wp_ret ?_
  obtain rfl := some_inj hm
  refine post_ret (vs := [.bool (fNe a0 a0)]) Try.results44 (rvs_cons (rv_tmp rfl) rvs_nil) ?_
  exact ⟨rfl, hst.keep0⟩

theorem number_Rank_ref {w0 w : World} {I : HL} {R : SP} {a0 : Nat}  (hst : St w0 w I [] R) {r : (Int)} (hm : number_Rank a0 = some r) :
    Calls Try.prog 36 #[.float .f64 a0] w fun e w' => e = .returned (.int .u64 r) ∧ St w0 w' I [] R := by
  unfold number_Rank at hm
  refine calls_start (args := [.float .f64 a0]) Try.func36 rfl Try.ntmps36 (Nat.le_of_ble_eq_true rfl) ?_
  refine wp_seq ?_
  refine wp_region_lit ?_
  refine wl_val (v := .int .u64 (0:Int)) rfl rfl rfl ?_
  refine wl_nil ?_
  refine then_n ?_
  refine wp_seq ?_
  refine wp_seq ?_
  refine wp_region_lit ?_
  refine wl_val (v := .float .f64 a0) rfl rfl rfl ?_
  obtain ⟨t329, ht330, hm⟩ := bind_some hm
  refine wl_call rfl rfl (x_call Try.call44 rfl (vs := [.float .f64 a0]) rfl) ?_
  refine (math_IsNaN_ref hst.to0 ht330).mono ?_
  rintro _ w331 ⟨rfl, hst⟩
  refine ⟨_, rfl, ?_⟩
  replace hst := hst.of0
  refine wl_nil ?_
  refine then_n ?_
  refine bsplit t329 (fun hc334 => ?_) (fun hc334 => ?_)
  · skip
    replace hm := bif_t hc334 hm
    refine wp_ift (congrArg Value.bool hc334) ?_
    refine wp_seq ?_
    refine wp_region_lit ?_
    refine wl_val (v := .int .u64 (18446744073709551615:Int)) rfl rfl rfl ?_
    refine wl_nil ?_
    refine then_n ?_
    refine wp_ret ?_
    refine then_r ?_
    obtain rfl := some_inj hm
    refine post_ret (vs := [.int .u64 (18446744073709551615:Int)]) Try.results36 (rvs_cons (rv_tmp rfl) rvs_nil) ?_
    exact ⟨rfl, hst.keep0⟩
  · skip
    replace hm := bif_f hc334 hm
    refine wp_iff (congrArg Value.bool hc334) ?_
    refine wp_skip ?_
    refine then_n ?_
    refine wp_seq ?_
    refine wp_region_lit ?_
    refine wl_val (v := .float .f64 a0) rfl rfl rfl ?_
    refine wl_val (v := .int .u64 (Int.ofNat a0)) rfl rfl (by kernel_rfl) ?_
    refine wl_val (v := .int .u64 (Int.ofNat a0)) rfl rfl rfl ?_
    refine wl_nil ?_
    refine then_n ?_
    refine wp_seq ?_
    refine wp_seq ?_
    refine wp_region_lit ?_
    refine wl_val (v := .int .u64 (Int.ofNat a0)) rfl rfl rfl ?_
    refine wl_val (v := .int .u64 (iShr .u64 (Int.ofNat a0) (63:Int))) rfl rfl (x_shr (by decide) rfl rfl) ?_
    refine wl_val (v := .bool ((iShr .u64 (Int.ofNat a0) (63:Int)) == (1:Int))) rfl rfl rfl ?_
    refine wl_nil ?_
    refine then_n ?_
    refine bsplit ((iShr .u64 (Int.ofNat a0) (63:Int)) == (1:Int)) (fun hc335 => ?_) (fun hc335 => ?_)
    · skip
      replace hm := bif_t hc335 hm
      refine wp_ift (congrArg Value.bool hc335) ?_
      refine wp_seq ?_
      refine wp_region_lit ?_
      refine wl_val (v := .int .u64 (Int.ofNat a0)) rfl rfl rfl ?_
      refine wl_val (v := .int .u64 (bXor .u64 ((18446744073709551615):Int) (Int.ofNat a0))) rfl rfl (by kernel_rfl) ?_
      refine wl_val (v := .int .u64 (bXor .u64 ((18446744073709551615):Int) (Int.ofNat a0))) rfl rfl rfl ?_
      refine wl_nil ?_
      refine then_n ?_
      refine wp_ret ?_
      refine then_r ?_
      obtain rfl := some_inj hm
      refine post_ret (vs := [.int .u64 (bXor .u64 ((18446744073709551615):Int) (Int.ofNat a0))]) Try.results36 (rvs_cons (rv_tmp rfl) rvs_nil) ?_
      exact ⟨rfl, hst.keep0⟩
    · skip
      replace hm := bif_f hc335 hm
      refine wp_iff (congrArg Value.bool hc335) ?_
      refine wp_skip ?_
      refine then_n ?_
      refine wp_seq ?_
      refine wp_region_lit ?_
      refine wl_val (v := .int .u64 (Int.ofNat a0)) rfl rfl rfl ?_
      refine wl_val (v := .int .u64 (bOr .u64 (Int.ofNat a0) (9223372036854775808:Int))) rfl rfl rfl ?_
      refine wl_val (v := .int .u64 (bOr .u64 (Int.ofNat a0) (9223372036854775808:Int))) rfl rfl rfl ?_
      refine wl_nil ?_
      refine then_n ?_
      refine wp_ret ?_
      obtain rfl := some_inj hm
      refine post_ret (vs := [.int .u64 (bOr .u64 (Int.ofNat a0) (9223372036854775808:Int))]) Try.results36 (rvs_cons (rv_tmp rfl) rvs_nil) ?_
      exact ⟨rfl, hst.keep0⟩

theorem policy_Book_Encode_ref {w0 w : World} {I : HL} {R : SP} {a0 : (Option policy_Book)} {p0 : Value}  (hst : St w0 w I [objO at_policy_Book p0 a0] R) {r : ((List Int))} (hm : policy_Book_Encode a0 = some r) :
    Calls Try.prog 22 #[p0] w fun e w' => ∃ (q0_0 : Value), e = .returned (q0_0) ∧ St w0 w' I [ownS (tyInt .u8) q0_0 r, objO at_policy_Book p0 a0] R := by
  rcases a0 with _ | o0
  · skip
    obtain ⟨rfl, hst'⟩ := objO_none hst
    clear hst
    have hst := hst'
    clear hst'
    dsimp only [policy_Book_Encode] at hm
    refine calls_start (args := [.pointer none]) Try.func22 rfl Try.ntmps22 (Nat.le_of_ble_eq_true rfl) ?_
    refine wp_seq ?_
    refine wp_region_lit ?_
    refine wl_val (v := (.slice none 0 0)) rfl rfl rfl ?_
    refine wl_nil ?_
    refine then_n ?_
    refine wp_seq ?_
    refine wp_region_lit ?_
    refine wl_val (v := .agg #[(.slice none 0 0)]) rfl rfl (by kernel_rfl) ?_
    obtain ⟨b541, w542, ew543, eb544, hst⟩ := hst.box [(.slice none 0 0)] 77
    refine wl_run (v := .pointer (some ⟨b541, 0, none⟩)) (w' := w542) rfl rfl (x_al (by kernel_rfl) ew543 eb544) ?_
    refine wl_val (v := .pointer (some ⟨b541, 0, none⟩)) rfl rfl rfl ?_
    refine wl_nil ?_
    refine then_n ?_
    refine wp_seq ?_
    refine wp_region_lit ?_
    refine wl_val (v := .pointer (some ⟨b541, 0, none⟩)) rfl rfl rfl ?_
    refine wl_val (v := .pointer none) rfl rfl rfl ?_
    replace hst := hst.objO_nil at_policy_Book
    obtain ⟨t548, ht549, hm⟩ := bind_some hm
    refine wl_call rfl rfl (x_call Try.call14 rfl (vs := [.pointer none]) rfl) ?_
    refine (policy_Book_Len_ref hst.to1 ht549).mono ?_
    rintro _ w550 ⟨rfl, hst⟩
    refine ⟨_, rfl, ?_⟩
    replace hst := hst.of1
    refine wl_val (v := .int .u64 (IntKind.u64.wrap t548)) rfl rfl (by kernel_rfl) ?_
    replace hst := hst.own_nil (tyInt .u8)
    replace hst := hst.pull2
    replace hst := at_octet_Writer_close (pv := .pointer (some ⟨b541, 0, none⟩)) (x := ({ p := [] } : octet_Writer)) hst rfl
    obtain ⟨t553, ht554, hm⟩ := bind_some hm
    refine wl_call rfl rfl (x_call Try.call35 rfl (vs := [.pointer (some ⟨b541, 0, none⟩), .int .u64 (IntKind.u64.wrap t548), .int .i64 (4:Int)]) rfl) ?_
    refine (octet_Writer_Num_ref hst.to1 ht554).mono ?_
    rintro _ w555 ⟨rfl, hst⟩
    refine ⟨_, rfl, ?_⟩
    replace hst := hst.of1
    refine wl_nil ?_
    refine then_n ?_
    refine wp_seq ?_
    refine wp_seq ?_
    refine wp_region_lit ?_
    refine wl_val (v := .pointer none) rfl rfl rfl ?_
    replace hst := hst.objO_nil at_policy_Book
    obtain ⟨t559, ht560, hm⟩ := bind_some hm
    refine wl_call rfl rfl (x_call Try.call14 rfl (vs := [.pointer none]) rfl) ?_
    refine (policy_Book_Len_ref hst.to1 ht560).mono ?_
    rintro _ w561 ⟨rfl, hst⟩
    refine ⟨_, rfl, ?_⟩
    replace hst := hst.of1
    refine wl_val (v := .int .i64 (0:Int)) rfl rfl rfl ?_
    refine wl_nil ?_
    refine then_n ?_
    refine wp_block ?_
    replace hst := hst.sub
    replace hst := hst.pull1
    replace hst := hst.sub
    obtain ⟨n566, hm⟩ := loopO_some hm
    refine wp_loop_n (fun n a w => ∃ (σ565 : Nat → Value), loopN (policy_Book_Encode_l0 t559 t553) n () = some r ∧ a = Fr 68 (upd (upd (upd (upd σ565 0 (.pointer none)) 3 (.pointer (some ⟨b541, 0, none⟩))) 14 (.int .i64 t559)) 15 (.int .i64 (0:Int))) ∧ St w0 w I [at_octet_Writer (.pointer (some ⟨b541, 0, none⟩)) t553] R) n566 ⟨_, hm, ((fr_upd (t := 0) (v := .pointer none) rfl).trans ((fr_upd (t := 3) (v := .pointer (some ⟨b541, 0, none⟩)) rfl).trans ((fr_upd (t := 14) (v := .int .i64 t559) rfl).trans ((fr_upd (t := 15) (v := .int .i64 (0:Int)) rfl).trans rfl)))), hst⟩ ?_
    rintro n572 _ w567 ⟨σ565, hm, rfl, hst⟩
    obtain ⟨n569, y570, rfl, hm, hx571⟩ := loopN_some hm
    dsimp only [policy_Book_Encode_l0] at hm
    refine wp_seq ?_
    refine wp_region_lit ?_
    refine wl_val (v := .bool (decide ((0:Int) < t559))) rfl rfl rfl ?_
    refine wl_nil ?_
    refine then_n ?_
    refine wp_seq ?_
    refine bsplit (decide ((0:Int) < t559)) (fun hc573 => ?_) (fun hc573 => ?_)
    · skip
      replace hm := bif_t hc573 hm
      refine wp_ift (congrArg Value.bool hc573) ?_
      refine wp_skip ?_
      refine then_n ?_
      refine wp_seq ?_
      refine wp_block ?_
      refine wp_seq ?_
      refine wp_region_lit ?_
      refine wl_val (v := .int .i64 (0:Int)) rfl rfl rfl ?_
      refine wl_val (v := .int .i64 (0:Int)) rfl rfl rfl ?_
      refine wl_nil ?_
      refine then_n ?_
      refine wp_seq ?_
      refine wp_region_lit ?_
      refine wl_val (v := .pointer none) rfl rfl rfl ?_
      cases hm
    · skip
      replace hm := bif_f hc573 hm
      refine wp_iff (congrArg Value.bool hc573) ?_
      refine wp_exit ?_
      refine then_x ?_
      refine then_x ?_
      replace hm := inr_up hm hx571
      refine blk_x ?_
      refine then_n ?_
      refine wp_seq ?_
      refine wp_region_lit ?_
      refine wl_val (v := .pointer (some ⟨b541, 0, none⟩)) rfl rfl rfl ?_
      obtain ⟨t574, ht575, hm⟩ := bind_some hm
      refine wl_call rfl rfl (x_call Try.call37 rfl (vs := [.pointer (some ⟨b541, 0, none⟩)]) rfl) ?_
      refine (octet_Writer_Done_ref hst.to1 ht575).mono ?_
      rintro _ w576 ⟨v579, rfl, hst⟩
      refine ⟨_, rfl, ?_⟩
      replace hst := hst.of1
      refine wl_val (v := v579) rfl rfl rfl ?_
      refine wl_nil ?_
      refine then_n ?_
      refine wp_ret ?_
      replace hst := hst.objO_nil at_policy_Book
      obtain rfl := some_inj hm
      refine post_ret (vs := [v579]) Try.results22 (rvs_cons (rv_tmp rfl) rvs_nil) ?_
      replace hst := hst.pull1
      exact ⟨v579, rfl, hst.keep2⟩
  · skip
    replace hst := objO_get hst
    dsimp only [policy_Book_Encode] at hm
    refine calls_start (args := [p0]) Try.func22 rfl Try.ntmps22 (Nat.le_of_ble_eq_true rfl) ?_
    refine wp_seq ?_
    refine wp_region_lit ?_
    refine wl_val (v := (.slice none 0 0)) rfl rfl rfl ?_
    refine wl_nil ?_
    refine then_n ?_
    refine wp_seq ?_
    refine wp_region_lit ?_
    refine wl_val (v := .agg #[(.slice none 0 0)]) rfl rfl (by kernel_rfl) ?_
    obtain ⟨b583, w584, ew585, eb586, hst⟩ := hst.box [(.slice none 0 0)] 77
    refine wl_run (v := .pointer (some ⟨b583, 0, none⟩)) (w' := w584) rfl rfl (x_al (by kernel_rfl) ew585 eb586) ?_
    refine wl_val (v := .pointer (some ⟨b583, 0, none⟩)) rfl rfl rfl ?_
    refine wl_nil ?_
    refine then_n ?_
    refine wp_seq ?_
    refine wp_region_lit ?_
    refine wl_val (v := .pointer (some ⟨b583, 0, none⟩)) rfl rfl rfl ?_
    refine wl_val (v := p0) rfl rfl rfl ?_
    replace hst := hst.pull1
    replace hst := objO_some hst
    obtain ⟨t589, ht590, hm⟩ := bind_some hm
    refine wl_call rfl rfl (x_call Try.call14 rfl (vs := [p0]) rfl) ?_
    refine (policy_Book_Len_ref hst.to1 ht590).mono ?_
    rintro _ w591 ⟨rfl, hst⟩
    refine ⟨_, rfl, ?_⟩
    replace hst := hst.of1
    replace hst := objO_get hst
    refine wl_val (v := .int .u64 (IntKind.u64.wrap t589)) rfl rfl (by kernel_rfl) ?_
    replace hst := hst.own_nil (tyInt .u8)
    replace hst := hst.pull2
    replace hst := at_octet_Writer_close (pv := .pointer (some ⟨b583, 0, none⟩)) (x := ({ p := [] } : octet_Writer)) hst rfl
    obtain ⟨t594, ht595, hm⟩ := bind_some hm
    refine wl_call rfl rfl (x_call Try.call35 rfl (vs := [.pointer (some ⟨b583, 0, none⟩), .int .u64 (IntKind.u64.wrap t589), .int .i64 (4:Int)]) rfl) ?_
    refine (octet_Writer_Num_ref hst.to1 ht595).mono ?_
    rintro _ w596 ⟨rfl, hst⟩
    refine ⟨_, rfl, ?_⟩
    replace hst := hst.of1
    refine wl_nil ?_
    refine then_n ?_
    refine wp_seq ?_
    refine wp_seq ?_
    refine wp_region_lit ?_
    refine wl_val (v := p0) rfl rfl rfl ?_
    replace hst := hst.pull1
    replace hst := objO_some hst
    obtain ⟨t599, ht600, hm⟩ := bind_some hm
    refine wl_call rfl rfl (x_call Try.call14 rfl (vs := [p0]) rfl) ?_
    refine (policy_Book_Len_ref hst.to1 ht600).mono ?_
    rintro _ w601 ⟨rfl, hst⟩
    refine ⟨_, rfl, ?_⟩
    replace hst := hst.of1
    replace hst := objO_get hst
    refine wl_val (v := .int .i64 (0:Int)) rfl rfl rfl ?_
    refine wl_nil ?_
    refine then_n ?_
    refine wp_block ?_
    obtain ⟨n751, hm⟩ := loopO_some hm
    refine wp_loop_n (fun n a w => ∃ (z748 : octet_Writer) (z749 : Int) (σ750 : Nat → Value), loopN (policy_Book_Encode_l1 t599 o0) n (z748, z749) = some r ∧ a = Fr 68 (upd (upd (upd (upd σ750 0 (p0)) 3 (.pointer (some ⟨b583, 0, none⟩))) 14 (.int .i64 t599)) 15 (.int .i64 z749)) ∧ St w0 w I [at_policy_Book p0 o0, at_octet_Writer (.pointer (some ⟨b583, 0, none⟩)) z748] R) n751 ⟨t594, (0:Int), _, hm, ((fr_upd (t := 0) (v := p0) rfl).trans ((fr_upd (t := 3) (v := .pointer (some ⟨b583, 0, none⟩)) rfl).trans ((fr_upd (t := 14) (v := .int .i64 t599) rfl).trans ((fr_upd (t := 15) (v := .int .i64 (0:Int)) rfl).trans rfl)))), hst⟩ ?_
    rintro n757 _ w752 ⟨z748, z749, σ750, hm, rfl, hst⟩
    obtain ⟨n754, y755, rfl, hm, hx756⟩ := loopN_some hm
    dsimp only [policy_Book_Encode_l1] at hm
    refine wp_seq ?_
    refine wp_region_lit ?_
    refine wl_val (v := .bool (decide (z749 < t599))) rfl rfl rfl ?_
    refine wl_nil ?_
    refine then_n ?_
    refine wp_seq ?_
    refine bsplit (decide (z749 < t599)) (fun hc758 => ?_) (fun hc758 => ?_)
    · skip
      replace hm := bif_t hc758 hm
      refine wp_ift (congrArg Value.bool hc758) ?_
      refine wp_skip ?_
      refine then_n ?_
      refine wp_seq ?_
      refine wp_block ?_
      refine wp_seq ?_
      refine wp_region_lit ?_
      refine wl_val (v := .int .i64 z749) rfl rfl rfl ?_
      refine wl_val (v := .int .i64 z749) rfl rfl rfl ?_
      refine wl_nil ?_
      refine then_n ?_
      refine wp_seq ?_
      refine wp_region_lit ?_
      refine wl_val (v := p0) rfl rfl rfl ?_
      obtain ⟨b759, v760, rfl, hst'⟩ := at_policy_Book_open hst
      clear hst
      have hst := hst'
      clear hst'
      refine wl_val (v := .pointer (some ⟨b759, 0, none⟩)) rfl rfl rfl ?_
      refine wl_val (v := .pointer (some ⟨b759, 0, none⟩)) rfl rfl (x_field rfl Try.underlying64 rfl Try.sizeOf62 rfl) ?_
      refine wl_val (v := v760) rfl rfl (x_load rfl Try.isAgg62 (hst.bc0 rfl)) ?_
      refine wl_val (v := .int .i64 z749) rfl rfl rfl ?_
      obtain ⟨x762, hx763, hm⟩ := bind_some hm
      obtain ⟨h764, h765, hi766⟩ := geto_some hx763
      refine wl_val (v := .pointer (some (eAddr v760 (z749.toNat * 9 + 0)))) rfl rfl (x_index rfl rfl Try.underlying62 Try.sizeOf66 hst.sv1 h764 h765) ?_
      refine wl_val (v := .agg #[.int .u64 x762.r.ID, .int .i64 x762.r.From, .int .i64 x762.r.To, .float .f64 x762.r.Lo, .float .f64 x762.r.Hi, .int .u64 x762.r.Authority, .int .i64 x762.r.Quota, .int .u64 x762.from_, .int .u64 x762.to_]) rfl rfl (x_loadN (cs := [.int .u64 x762.r.ID, .int .i64 x762.r.From, .int .i64 x762.r.To, .float .f64 x762.r.Lo, .float .f64 x762.r.Hi, .int .u64 x762.r.Authority, .int .i64 x762.r.Quota, .int .u64 x762.from_, .int .u64 x762.to_]) rfl Try.isAgg66 Try.sizeOf66 (hst.olN1 hi766 0 (by rintro _ rfl; rfl))) ?_
      obtain ⟨b767, w768, ew769, eb770, hst⟩ := hst.box [.int .u64 (0:Int), .int .i64 (0:Int), .int .i64 (0:Int), .float .f64 (0:Nat), .float .f64 (0:Nat), .int .u64 (0:Int), .int .i64 (0:Int), .int .u64 (0:Int), .int .u64 (0:Int)] 66
      refine wl_run (v := .pointer (some ⟨b767, 0, none⟩)) (w' := w768) rfl rfl (x_al (by kernel_rfl) ew769 eb770) ?_
      obtain ⟨w772, hr773, hst⟩ := hst.boxStore (P := Try.prog) (t := 66) (cs' := [.int .u64 x762.r.ID, .int .i64 x762.r.From, .int .i64 x762.r.To, .float .f64 x762.r.Lo, .float .f64 x762.r.Hi, .int .u64 x762.r.Authority, .int .i64 x762.r.Quota, .int .u64 x762.from_, .int .u64 x762.to_]) 0 (.agg #[.int .u64 x762.r.ID, .int .i64 x762.r.From, .int .i64 x762.r.To, .float .f64 x762.r.Lo, .float .f64 x762.r.Hi, .int .u64 x762.r.Authority, .int .i64 x762.r.Quota, .int .u64 x762.from_, .int .u64 x762.to_]) Try.sizeOf66 (Nat.le_of_ble_eq_true rfl) (ones_cons rfl (ones_cons rfl (ones_cons rfl (ones_cons rfl (ones_cons rfl (ones_cons rfl (ones_cons rfl (ones_cons rfl (ones_cons rfl ones_nil))))))))) rfl
      refine wl_unit rfl rfl (x_unit hr773) ?_
      refine wl_nil ?_
      refine then_n ?_
      refine wp_region_St hst [(0, false), (1, false), (2, false), (3, false), (5, false), (6, false), (7, false), (8, false), (10, false), (11, false), (12, false), (13, false), (15, false), (16, false), (17, false), (20, false), (21, false), (22, false), (25, false), (26, false), (27, false), (29, false), (30, false), (31, false), (32, false), (34, false), (35, false), (37, false), (38, false), (4, true), (9, true), (14, true), (18, true), (19, true), (23, true), (24, true), (28, true), (33, true), (36, true), (39, true)] Try.mixed (by kernel_rfl) (by decide) ?_
      refine ws_q (v := .pointer (some ⟨b583, 0, none⟩)) rfl rfl (yi_run rfl (fun w hst => rfl)) ?_
      refine ws_q (v := .pointer (some ⟨b767, 0, none⟩)) rfl rfl (yi_run rfl (fun w hst => x_field rfl Try.underlying66 rfl Try.sizeOf30 rfl)) ?_
      refine ws_q (v := .pointer (some ⟨b767, 0, none⟩)) rfl rfl (yi_run rfl (fun w hst => x_field rfl Try.underlying30 rfl Try.sizeOf27 rfl)) ?_
      refine ws_q (v := .int .u64 x762.r.ID) rfl rfl (yi_run rfl (fun w hst => x_load rfl Try.isAgg27 (hst.bc0 rfl))) ?_
      refine ws_q (v := .pointer (some ⟨b767, 0, none⟩)) rfl rfl (yi_run rfl (fun w hst => x_field rfl Try.underlying66 rfl Try.sizeOf30 rfl)) ?_
      refine ws_q (v := .pointer (some ⟨b767, 1, none⟩)) rfl rfl (yi_run rfl (fun w hst => x_field rfl Try.underlying30 rfl Try.sizeOf3 rfl)) ?_
      refine ws_q (v := .int .i64 x762.r.From) rfl rfl (yi_run rfl (fun w hst => x_load rfl Try.isAgg3 (hst.bc0 rfl))) ?_
      refine ws_q (v := .int .u64 (IntKind.u64.wrap x762.r.From)) rfl rfl (yi_run rfl (fun w hst => by kernel_rfl)) ?_
      refine ws_q (v := .pointer (some ⟨b767, 0, none⟩)) rfl rfl (yi_run rfl (fun w hst => x_field rfl Try.underlying66 rfl Try.sizeOf30 rfl)) ?_
      refine ws_q (v := .pointer (some ⟨b767, 2, none⟩)) rfl rfl (yi_run rfl (fun w hst => x_field rfl Try.underlying30 rfl Try.sizeOf3 rfl)) ?_
      refine ws_q (v := .int .i64 x762.r.To) rfl rfl (yi_run rfl (fun w hst => x_load rfl Try.isAgg3 (hst.bc0 rfl))) ?_
      refine ws_q (v := .int .u64 (IntKind.u64.wrap x762.r.To)) rfl rfl (yi_run rfl (fun w hst => by kernel_rfl)) ?_
      refine ws_q (v := .pointer (some ⟨b767, 0, none⟩)) rfl rfl (yi_run rfl (fun w hst => x_field rfl Try.underlying66 rfl Try.sizeOf30 rfl)) ?_
      refine ws_q (v := .pointer (some ⟨b767, 3, none⟩)) rfl rfl (yi_run rfl (fun w hst => x_field rfl Try.underlying30 rfl Try.sizeOf28 rfl)) ?_
      refine ws_q (v := .float .f64 x762.r.Lo) rfl rfl (yi_run rfl (fun w hst => x_load rfl Try.isAgg28 (hst.bc0 rfl))) ?_
      refine ws_q (v := .pointer (some ⟨b767, 0, none⟩)) rfl rfl (yi_run rfl (fun w hst => x_field rfl Try.underlying66 rfl Try.sizeOf30 rfl)) ?_
      refine ws_q (v := .pointer (some ⟨b767, 4, none⟩)) rfl rfl (yi_run rfl (fun w hst => x_field rfl Try.underlying30 rfl Try.sizeOf28 rfl)) ?_
      refine ws_q (v := .float .f64 x762.r.Hi) rfl rfl (yi_run rfl (fun w hst => x_load rfl Try.isAgg28 (hst.bc0 rfl))) ?_
      refine ws_q (v := .pointer (some ⟨b767, 0, none⟩)) rfl rfl (yi_run rfl (fun w hst => x_field rfl Try.underlying66 rfl Try.sizeOf30 rfl)) ?_
      refine ws_q (v := .pointer (some ⟨b767, 5, none⟩)) rfl rfl (yi_run rfl (fun w hst => x_field rfl Try.underlying30 rfl Try.sizeOf27 rfl)) ?_
      refine ws_q (v := .int .u64 x762.r.Authority) rfl rfl (yi_run rfl (fun w hst => x_load rfl Try.isAgg27 (hst.bc0 rfl))) ?_
      refine ws_q (v := .pointer (some ⟨b767, 0, none⟩)) rfl rfl (yi_run rfl (fun w hst => x_field rfl Try.underlying66 rfl Try.sizeOf30 rfl)) ?_
      refine ws_q (v := .pointer (some ⟨b767, 6, none⟩)) rfl rfl (yi_run rfl (fun w hst => x_field rfl Try.underlying30 rfl Try.sizeOf3 rfl)) ?_
      refine ws_q (v := .int .i64 x762.r.Quota) rfl rfl (yi_run rfl (fun w hst => x_load rfl Try.isAgg3 (hst.bc0 rfl))) ?_
      refine ws_q (v := .int .u64 (IntKind.u64.wrap x762.r.Quota)) rfl rfl (yi_run rfl (fun w hst => by kernel_rfl)) ?_
      refine ws_q (v := .pointer (some ⟨b767, 7, none⟩)) rfl rfl (yi_run rfl (fun w hst => x_field rfl Try.underlying66 rfl Try.sizeOf27 rfl)) ?_
      refine ws_q (v := .int .u64 x762.from_) rfl rfl (yi_run rfl (fun w hst => x_load rfl Try.isAgg27 (hst.bc0 rfl))) ?_
      refine ws_q (v := .pointer (some ⟨b767, 8, none⟩)) rfl rfl (yi_run rfl (fun w hst => x_field rfl Try.underlying66 rfl Try.sizeOf27 rfl)) ?_
      refine ws_q (v := .int .u64 x762.to_) rfl rfl (yi_run rfl (fun w hst => x_load rfl Try.isAgg27 (hst.bc0 rfl))) ?_
      refine ws_e rfl rfl ?_
      clear hst
      intro w hst
      replace hst := hst.pull3
      obtain ⟨t774, ht775, hm⟩ := bind_some hm
      refine we_call rfl (x_call Try.call35 rfl (vs := [.pointer (some ⟨b583, 0, none⟩), .int .u64 x762.r.ID, .int .i64 (8:Int)]) rfl) ?_
      refine (octet_Writer_Num_ref hst.to1 ht775).mono ?_
      rintro _ w776 ⟨rfl, hst⟩
      refine ⟨_, rfl, ?_⟩
      replace hst := hst.of1
      refine ws_next (pend' := [(38, .int .u64 x762.to_), (37, .pointer (some ⟨b767, 8, none⟩)), (35, .int .u64 x762.from_), (34, .pointer (some ⟨b767, 7, none⟩)), (32, .int .u64 (IntKind.u64.wrap x762.r.Quota)), (31, .int .i64 x762.r.Quota), (30, .pointer (some ⟨b767, 6, none⟩)), (29, .pointer (some ⟨b767, 0, none⟩)), (27, .int .u64 x762.r.Authority), (26, .pointer (some ⟨b767, 5, none⟩)), (25, .pointer (some ⟨b767, 0, none⟩)), (22, .float .f64 x762.r.Hi), (21, .pointer (some ⟨b767, 4, none⟩)), (20, .pointer (some ⟨b767, 0, none⟩)), (17, .float .f64 x762.r.Lo), (16, .pointer (some ⟨b767, 3, none⟩)), (15, .pointer (some ⟨b767, 0, none⟩)), (13, .int .u64 (IntKind.u64.wrap x762.r.To)), (12, .int .i64 x762.r.To), (11, .pointer (some ⟨b767, 2, none⟩)), (10, .pointer (some ⟨b767, 0, none⟩)), (8, .int .u64 (IntKind.u64.wrap x762.r.From)), (7, .int .i64 x762.r.From), (6, .pointer (some ⟨b767, 1, none⟩)), (5, .pointer (some ⟨b767, 0, none⟩))]) hst (by kernel_rfl) (pk_cons rfl (yi_run rfl (fun w hst => x_load rfl Try.isAgg27 (hst.bc1 rfl))) (pk_cons rfl (yi_run rfl (fun w hst => x_field rfl Try.underlying66 rfl Try.sizeOf27 rfl)) (pk_cons rfl (yi_run rfl (fun w hst => x_load rfl Try.isAgg27 (hst.bc1 rfl))) (pk_cons rfl (yi_run rfl (fun w hst => x_field rfl Try.underlying66 rfl Try.sizeOf27 rfl)) (pk_cons rfl (yi_run rfl (fun w hst => by kernel_rfl)) (pk_cons rfl (yi_run rfl (fun w hst => x_load rfl Try.isAgg3 (hst.bc1 rfl))) (pk_cons rfl (yi_run rfl (fun w hst => x_field rfl Try.underlying30 rfl Try.sizeOf3 rfl)) (pk_cons rfl (yi_run rfl (fun w hst => x_field rfl Try.underlying66 rfl Try.sizeOf30 rfl)) (pk_cons rfl (yi_run rfl (fun w hst => x_load rfl Try.isAgg27 (hst.bc1 rfl))) (pk_cons rfl (yi_run rfl (fun w hst => x_field rfl Try.underlying30 rfl Try.sizeOf27 rfl)) (pk_cons rfl (yi_run rfl (fun w hst => x_field rfl Try.underlying66 rfl Try.sizeOf30 rfl)) (pk_cons rfl (yi_run rfl (fun w hst => x_load rfl Try.isAgg28 (hst.bc1 rfl))) (pk_cons rfl (yi_run rfl (fun w hst => x_field rfl Try.underlying30 rfl Try.sizeOf28 rfl)) (pk_cons rfl (yi_run rfl (fun w hst => x_field rfl Try.underlying66 rfl Try.sizeOf30 rfl)) (pk_cons rfl (yi_run rfl (fun w hst => x_load rfl Try.isAgg28 (hst.bc1 rfl))) (pk_cons rfl (yi_run rfl (fun w hst => x_field rfl Try.underlying30 rfl Try.sizeOf28 rfl)) (pk_cons rfl (yi_run rfl (fun w hst => x_field rfl Try.underlying66 rfl Try.sizeOf30 rfl)) (pk_cons rfl (yi_run rfl (fun w hst => by kernel_rfl)) (pk_cons rfl (yi_run rfl (fun w hst => x_load rfl Try.isAgg3 (hst.bc1 rfl))) (pk_cons rfl (yi_run rfl (fun w hst => x_field rfl Try.underlying30 rfl Try.sizeOf3 rfl)) (pk_cons rfl (yi_run rfl (fun w hst => x_field rfl Try.underlying66 rfl Try.sizeOf30 rfl)) (pk_cons rfl (yi_run rfl (fun w hst => by kernel_rfl)) (pk_cons rfl (yi_run rfl (fun w hst => x_load rfl Try.isAgg3 (hst.bc1 rfl))) (pk_cons rfl (yi_run rfl (fun w hst => x_field rfl Try.underlying30 rfl Try.sizeOf3 rfl)) (pk_cons rfl (yi_run rfl (fun w hst => x_field rfl Try.underlying66 rfl Try.sizeOf30 rfl)) pk_nil))))))))))))))))))))))))) ?_
      refine ws_e rfl rfl ?_
      clear hst
      intro w hst
      obtain ⟨t779, ht780, hm⟩ := bind_some hm
      refine we_call rfl (x_call Try.call35 rfl (vs := [.pointer (some ⟨b583, 0, none⟩), .int .u64 (IntKind.u64.wrap x762.r.From), .int .i64 (1:Int)]) rfl) ?_
      refine (octet_Writer_Num_ref hst.to1 ht780).mono ?_
      rintro _ w781 ⟨rfl, hst⟩
      refine ⟨_, rfl, ?_⟩
      replace hst := hst.of1
      refine ws_next (pend' := [(38, .int .u64 x762.to_), (37, .pointer (some ⟨b767, 8, none⟩)), (35, .int .u64 x762.from_), (34, .pointer (some ⟨b767, 7, none⟩)), (32, .int .u64 (IntKind.u64.wrap x762.r.Quota)), (31, .int .i64 x762.r.Quota), (30, .pointer (some ⟨b767, 6, none⟩)), (29, .pointer (some ⟨b767, 0, none⟩)), (27, .int .u64 x762.r.Authority), (26, .pointer (some ⟨b767, 5, none⟩)), (25, .pointer (some ⟨b767, 0, none⟩)), (22, .float .f64 x762.r.Hi), (21, .pointer (some ⟨b767, 4, none⟩)), (20, .pointer (some ⟨b767, 0, none⟩)), (17, .float .f64 x762.r.Lo), (16, .pointer (some ⟨b767, 3, none⟩)), (15, .pointer (some ⟨b767, 0, none⟩)), (13, .int .u64 (IntKind.u64.wrap x762.r.To)), (12, .int .i64 x762.r.To), (11, .pointer (some ⟨b767, 2, none⟩)), (10, .pointer (some ⟨b767, 0, none⟩))]) hst (by kernel_rfl) (pk_cons rfl (yi_run rfl (fun w hst => x_load rfl Try.isAgg27 (hst.bc1 rfl))) (pk_cons rfl (yi_run rfl (fun w hst => x_field rfl Try.underlying66 rfl Try.sizeOf27 rfl)) (pk_cons rfl (yi_run rfl (fun w hst => x_load rfl Try.isAgg27 (hst.bc1 rfl))) (pk_cons rfl (yi_run rfl (fun w hst => x_field rfl Try.underlying66 rfl Try.sizeOf27 rfl)) (pk_cons rfl (yi_run rfl (fun w hst => by kernel_rfl)) (pk_cons rfl (yi_run rfl (fun w hst => x_load rfl Try.isAgg3 (hst.bc1 rfl))) (pk_cons rfl (yi_run rfl (fun w hst => x_field rfl Try.underlying30 rfl Try.sizeOf3 rfl)) (pk_cons rfl (yi_run rfl (fun w hst => x_field rfl Try.underlying66 rfl Try.sizeOf30 rfl)) (pk_cons rfl (yi_run rfl (fun w hst => x_load rfl Try.isAgg27 (hst.bc1 rfl))) (pk_cons rfl (yi_run rfl (fun w hst => x_field rfl Try.underlying30 rfl Try.sizeOf27 rfl)) (pk_cons rfl (yi_run rfl (fun w hst => x_field rfl Try.underlying66 rfl Try.sizeOf30 rfl)) (pk_cons rfl (yi_run rfl (fun w hst => x_load rfl Try.isAgg28 (hst.bc1 rfl))) (pk_cons rfl (yi_run rfl (fun w hst => x_field rfl Try.underlying30 rfl Try.sizeOf28 rfl)) (pk_cons rfl (yi_run rfl (fun w hst => x_field rfl Try.underlying66 rfl Try.sizeOf30 rfl)) (pk_cons rfl (yi_run rfl (fun w hst => x_load rfl Try.isAgg28 (hst.bc1 rfl))) (pk_cons rfl (yi_run rfl (fun w hst => x_field rfl Try.underlying30 rfl Try.sizeOf28 rfl)) (pk_cons rfl (yi_run rfl (fun w hst => x_field rfl Try.underlying66 rfl Try.sizeOf30 rfl)) (pk_cons rfl (yi_run rfl (fun w hst => by kernel_rfl)) (pk_cons rfl (yi_run rfl (fun w hst => x_load rfl Try.isAgg3 (hst.bc1 rfl))) (pk_cons rfl (yi_run rfl (fun w hst => x_field rfl Try.underlying30 rfl Try.sizeOf3 rfl)) (pk_cons rfl (yi_run rfl (fun w hst => x_field rfl Try.underlying66 rfl Try.sizeOf30 rfl)) pk_nil))))))))))))))))))))) ?_
      refine ws_e rfl rfl ?_
      clear hst
      intro w hst
      obtain ⟨t784, ht785, hm⟩ := bind_some hm
      refine we_call rfl (x_call Try.call35 rfl (vs := [.pointer (some ⟨b583, 0, none⟩), .int .u64 (IntKind.u64.wrap x762.r.To), .int .i64 (1:Int)]) rfl) ?_
      refine (octet_Writer_Num_ref hst.to1 ht785).mono ?_
      rintro _ w786 ⟨rfl, hst⟩
      refine ⟨_, rfl, ?_⟩
      replace hst := hst.of1
      refine ws_next (pend' := [(38, .int .u64 x762.to_), (37, .pointer (some ⟨b767, 8, none⟩)), (35, .int .u64 x762.from_), (34, .pointer (some ⟨b767, 7, none⟩)), (32, .int .u64 (IntKind.u64.wrap x762.r.Quota)), (31, .int .i64 x762.r.Quota), (30, .pointer (some ⟨b767, 6, none⟩)), (29, .pointer (some ⟨b767, 0, none⟩)), (27, .int .u64 x762.r.Authority), (26, .pointer (some ⟨b767, 5, none⟩)), (25, .pointer (some ⟨b767, 0, none⟩)), (22, .float .f64 x762.r.Hi), (21, .pointer (some ⟨b767, 4, none⟩)), (20, .pointer (some ⟨b767, 0, none⟩)), (17, .float .f64 x762.r.Lo), (16, .pointer (some ⟨b767, 3, none⟩)), (15, .pointer (some ⟨b767, 0, none⟩))]) hst (by kernel_rfl) (pk_cons rfl (yi_run rfl (fun w hst => x_load rfl Try.isAgg27 (hst.bc1 rfl))) (pk_cons rfl (yi_run rfl (fun w hst => x_field rfl Try.underlying66 rfl Try.sizeOf27 rfl)) (pk_cons rfl (yi_run rfl (fun w hst => x_load rfl Try.isAgg27 (hst.bc1 rfl))) (pk_cons rfl (yi_run rfl (fun w hst => x_field rfl Try.underlying66 rfl Try.sizeOf27 rfl)) (pk_cons rfl (yi_run rfl (fun w hst => by kernel_rfl)) (pk_cons rfl (yi_run rfl (fun w hst => x_load rfl Try.isAgg3 (hst.bc1 rfl))) (pk_cons rfl (yi_run rfl (fun w hst => x_field rfl Try.underlying30 rfl Try.sizeOf3 rfl)) (pk_cons rfl (yi_run rfl (fun w hst => x_field rfl Try.underlying66 rfl Try.sizeOf30 rfl)) (pk_cons rfl (yi_run rfl (fun w hst => x_load rfl Try.isAgg27 (hst.bc1 rfl))) (pk_cons rfl (yi_run rfl (fun w hst => x_field rfl Try.underlying30 rfl Try.sizeOf27 rfl)) (pk_cons rfl (yi_run rfl (fun w hst => x_field rfl Try.underlying66 rfl Try.sizeOf30 rfl)) (pk_cons rfl (yi_run rfl (fun w hst => x_load rfl Try.isAgg28 (hst.bc1 rfl))) (pk_cons rfl (yi_run rfl (fun w hst => x_field rfl Try.underlying30 rfl Try.sizeOf28 rfl)) (pk_cons rfl (yi_run rfl (fun w hst => x_field rfl Try.underlying66 rfl Try.sizeOf30 rfl)) (pk_cons rfl (yi_run rfl (fun w hst => x_load rfl Try.isAgg28 (hst.bc1 rfl))) (pk_cons rfl (yi_run rfl (fun w hst => x_field rfl Try.underlying30 rfl Try.sizeOf28 rfl)) (pk_cons rfl (yi_run rfl (fun w hst => x_field rfl Try.underlying66 rfl Try.sizeOf30 rfl)) pk_nil))))))))))))))))) ?_
      refine ws_e rfl rfl ?_
      clear hst
      intro w hst
      obtain ⟨t789, ht790, hm⟩ := bind_some hm
      refine we_call rfl (x_call Try.call36 rfl (vs := [.float .f64 x762.r.Lo]) rfl) ?_
      refine (number_Rank_ref hst.to0 ht790).mono ?_
      rintro _ w791 ⟨rfl, hst⟩
      refine ⟨_, rfl, ?_⟩
      replace hst := hst.of0
      refine ws_next (pend' := [(38, .int .u64 x762.to_), (37, .pointer (some ⟨b767, 8, none⟩)), (35, .int .u64 x762.from_), (34, .pointer (some ⟨b767, 7, none⟩)), (32, .int .u64 (IntKind.u64.wrap x762.r.Quota)), (31, .int .i64 x762.r.Quota), (30, .pointer (some ⟨b767, 6, none⟩)), (29, .pointer (some ⟨b767, 0, none⟩)), (27, .int .u64 x762.r.Authority), (26, .pointer (some ⟨b767, 5, none⟩)), (25, .pointer (some ⟨b767, 0, none⟩)), (22, .float .f64 x762.r.Hi), (21, .pointer (some ⟨b767, 4, none⟩)), (20, .pointer (some ⟨b767, 0, none⟩))]) hst (by kernel_rfl) (pk_cons rfl (yi_run rfl (fun w hst => x_load rfl Try.isAgg27 (hst.bc1 rfl))) (pk_cons rfl (yi_run rfl (fun w hst => x_field rfl Try.underlying66 rfl Try.sizeOf27 rfl)) (pk_cons rfl (yi_run rfl (fun w hst => x_load rfl Try.isAgg27 (hst.bc1 rfl))) (pk_cons rfl (yi_run rfl (fun w hst => x_field rfl Try.underlying66 rfl Try.sizeOf27 rfl)) (pk_cons rfl (yi_run rfl (fun w hst => by kernel_rfl)) (pk_cons rfl (yi_run rfl (fun w hst => x_load rfl Try.isAgg3 (hst.bc1 rfl))) (pk_cons rfl (yi_run rfl (fun w hst => x_field rfl Try.underlying30 rfl Try.sizeOf3 rfl)) (pk_cons rfl (yi_run rfl (fun w hst => x_field rfl Try.underlying66 rfl Try.sizeOf30 rfl)) (pk_cons rfl (yi_run rfl (fun w hst => x_load rfl Try.isAgg27 (hst.bc1 rfl))) (pk_cons rfl (yi_run rfl (fun w hst => x_field rfl Try.underlying30 rfl Try.sizeOf27 rfl)) (pk_cons rfl (yi_run rfl (fun w hst => x_field rfl Try.underlying66 rfl Try.sizeOf30 rfl)) (pk_cons rfl (yi_run rfl (fun w hst => x_load rfl Try.isAgg28 (hst.bc1 rfl))) (pk_cons rfl (yi_run rfl (fun w hst => x_field rfl Try.underlying30 rfl Try.sizeOf28 rfl)) (pk_cons rfl (yi_run rfl (fun w hst => x_field rfl Try.underlying66 rfl Try.sizeOf30 rfl)) pk_nil)))))))))))))) ?_
      refine ws_e rfl rfl ?_
      clear hst
      intro w hst
      obtain ⟨t794, ht795, hm⟩ := bind_some hm
      refine we_call rfl (x_call Try.call35 rfl (vs := [.pointer (some ⟨b583, 0, none⟩), .int .u64 t789, .int .i64 (8:Int)]) rfl) ?_
      refine (octet_Writer_Num_ref hst.to1 ht795).mono ?_
      rintro _ w796 ⟨rfl, hst⟩
      refine ⟨_, rfl, ?_⟩
      replace hst := hst.of1
      refine ws_next (pend' := [(38, .int .u64 x762.to_), (37, .pointer (some ⟨b767, 8, none⟩)), (35, .int .u64 x762.from_), (34, .pointer (some ⟨b767, 7, none⟩)), (32, .int .u64 (IntKind.u64.wrap x762.r.Quota)), (31, .int .i64 x762.r.Quota), (30, .pointer (some ⟨b767, 6, none⟩)), (29, .pointer (some ⟨b767, 0, none⟩)), (27, .int .u64 x762.r.Authority), (26, .pointer (some ⟨b767, 5, none⟩)), (25, .pointer (some ⟨b767, 0, none⟩)), (22, .float .f64 x762.r.Hi), (21, .pointer (some ⟨b767, 4, none⟩)), (20, .pointer (some ⟨b767, 0, none⟩))]) hst (by kernel_rfl) (pk_cons rfl (yi_run rfl (fun w hst => x_load rfl Try.isAgg27 (hst.bc1 rfl))) (pk_cons rfl (yi_run rfl (fun w hst => x_field rfl Try.underlying66 rfl Try.sizeOf27 rfl)) (pk_cons rfl (yi_run rfl (fun w hst => x_load rfl Try.isAgg27 (hst.bc1 rfl))) (pk_cons rfl (yi_run rfl (fun w hst => x_field rfl Try.underlying66 rfl Try.sizeOf27 rfl)) (pk_cons rfl (yi_run rfl (fun w hst => by kernel_rfl)) (pk_cons rfl (yi_run rfl (fun w hst => x_load rfl Try.isAgg3 (hst.bc1 rfl))) (pk_cons rfl (yi_run rfl (fun w hst => x_field rfl Try.underlying30 rfl Try.sizeOf3 rfl)) (pk_cons rfl (yi_run rfl (fun w hst => x_field rfl Try.underlying66 rfl Try.sizeOf30 rfl)) (pk_cons rfl (yi_run rfl (fun w hst => x_load rfl Try.isAgg27 (hst.bc1 rfl))) (pk_cons rfl (yi_run rfl (fun w hst => x_field rfl Try.underlying30 rfl Try.sizeOf27 rfl)) (pk_cons rfl (yi_run rfl (fun w hst => x_field rfl Try.underlying66 rfl Try.sizeOf30 rfl)) (pk_cons rfl (yi_run rfl (fun w hst => x_load rfl Try.isAgg28 (hst.bc1 rfl))) (pk_cons rfl (yi_run rfl (fun w hst => x_field rfl Try.underlying30 rfl Try.sizeOf28 rfl)) (pk_cons rfl (yi_run rfl (fun w hst => x_field rfl Try.underlying66 rfl Try.sizeOf30 rfl)) pk_nil)))))))))))))) ?_
      refine ws_e rfl rfl ?_
      clear hst
      intro w hst
      obtain ⟨t799, ht800, hm⟩ := bind_some hm
      refine we_call rfl (x_call Try.call36 rfl (vs := [.float .f64 x762.r.Hi]) rfl) ?_
      refine (number_Rank_ref hst.to0 ht800).mono ?_
      rintro _ w801 ⟨rfl, hst⟩
      refine ⟨_, rfl, ?_⟩
      replace hst := hst.of0
      refine ws_next (pend' := [(38, .int .u64 x762.to_), (37, .pointer (some ⟨b767, 8, none⟩)), (35, .int .u64 x762.from_), (34, .pointer (some ⟨b767, 7, none⟩)), (32, .int .u64 (IntKind.u64.wrap x762.r.Quota)), (31, .int .i64 x762.r.Quota), (30, .pointer (some ⟨b767, 6, none⟩)), (29, .pointer (some ⟨b767, 0, none⟩)), (27, .int .u64 x762.r.Authority), (26, .pointer (some ⟨b767, 5, none⟩)), (25, .pointer (some ⟨b767, 0, none⟩))]) hst (by kernel_rfl) (pk_cons rfl (yi_run rfl (fun w hst => x_load rfl Try.isAgg27 (hst.bc1 rfl))) (pk_cons rfl (yi_run rfl (fun w hst => x_field rfl Try.underlying66 rfl Try.sizeOf27 rfl)) (pk_cons rfl (yi_run rfl (fun w hst => x_load rfl Try.isAgg27 (hst.bc1 rfl))) (pk_cons rfl (yi_run rfl (fun w hst => x_field rfl Try.underlying66 rfl Try.sizeOf27 rfl)) (pk_cons rfl (yi_run rfl (fun w hst => by kernel_rfl)) (pk_cons rfl (yi_run rfl (fun w hst => x_load rfl Try.isAgg3 (hst.bc1 rfl))) (pk_cons rfl (yi_run rfl (fun w hst => x_field rfl Try.underlying30 rfl Try.sizeOf3 rfl)) (pk_cons rfl (yi_run rfl (fun w hst => x_field rfl Try.underlying66 rfl Try.sizeOf30 rfl)) (pk_cons rfl (yi_run rfl (fun w hst => x_load rfl Try.isAgg27 (hst.bc1 rfl))) (pk_cons rfl (yi_run rfl (fun w hst => x_field rfl Try.underlying30 rfl Try.sizeOf27 rfl)) (pk_cons rfl (yi_run rfl (fun w hst => x_field rfl Try.underlying66 rfl Try.sizeOf30 rfl)) pk_nil))))))))))) ?_
      refine ws_e rfl rfl ?_
      clear hst
      intro w hst
      obtain ⟨t804, ht805, hm⟩ := bind_some hm
      refine we_call rfl (x_call Try.call35 rfl (vs := [.pointer (some ⟨b583, 0, none⟩), .int .u64 t799, .int .i64 (8:Int)]) rfl) ?_
      refine (octet_Writer_Num_ref hst.to1 ht805).mono ?_
      rintro _ w806 ⟨rfl, hst⟩
      refine ⟨_, rfl, ?_⟩
      replace hst := hst.of1
      refine ws_next (pend' := [(38, .int .u64 x762.to_), (37, .pointer (some ⟨b767, 8, none⟩)), (35, .int .u64 x762.from_), (34, .pointer (some ⟨b767, 7, none⟩)), (32, .int .u64 (IntKind.u64.wrap x762.r.Quota)), (31, .int .i64 x762.r.Quota), (30, .pointer (some ⟨b767, 6, none⟩)), (29, .pointer (some ⟨b767, 0, none⟩)), (27, .int .u64 x762.r.Authority), (26, .pointer (some ⟨b767, 5, none⟩)), (25, .pointer (some ⟨b767, 0, none⟩))]) hst (by kernel_rfl) (pk_cons rfl (yi_run rfl (fun w hst => x_load rfl Try.isAgg27 (hst.bc1 rfl))) (pk_cons rfl (yi_run rfl (fun w hst => x_field rfl Try.underlying66 rfl Try.sizeOf27 rfl)) (pk_cons rfl (yi_run rfl (fun w hst => x_load rfl Try.isAgg27 (hst.bc1 rfl))) (pk_cons rfl (yi_run rfl (fun w hst => x_field rfl Try.underlying66 rfl Try.sizeOf27 rfl)) (pk_cons rfl (yi_run rfl (fun w hst => by kernel_rfl)) (pk_cons rfl (yi_run rfl (fun w hst => x_load rfl Try.isAgg3 (hst.bc1 rfl))) (pk_cons rfl (yi_run rfl (fun w hst => x_field rfl Try.underlying30 rfl Try.sizeOf3 rfl)) (pk_cons rfl (yi_run rfl (fun w hst => x_field rfl Try.underlying66 rfl Try.sizeOf30 rfl)) (pk_cons rfl (yi_run rfl (fun w hst => x_load rfl Try.isAgg27 (hst.bc1 rfl))) (pk_cons rfl (yi_run rfl (fun w hst => x_field rfl Try.underlying30 rfl Try.sizeOf27 rfl)) (pk_cons rfl (yi_run rfl (fun w hst => x_field rfl Try.underlying66 rfl Try.sizeOf30 rfl)) pk_nil))))))))))) ?_
      refine ws_e rfl rfl ?_
      clear hst
      intro w hst
      obtain ⟨t809, ht810, hm⟩ := bind_some hm
      refine we_call rfl (x_call Try.call35 rfl (vs := [.pointer (some ⟨b583, 0, none⟩), .int .u64 x762.r.Authority, .int .i64 (8:Int)]) rfl) ?_
      refine (octet_Writer_Num_ref hst.to1 ht810).mono ?_
      rintro _ w811 ⟨rfl, hst⟩
      refine ⟨_, rfl, ?_⟩
      replace hst := hst.of1
      refine ws_next (pend' := [(38, .int .u64 x762.to_), (37, .pointer (some ⟨b767, 8, none⟩)), (35, .int .u64 x762.from_), (34, .pointer (some ⟨b767, 7, none⟩)), (32, .int .u64 (IntKind.u64.wrap x762.r.Quota)), (31, .int .i64 x762.r.Quota), (30, .pointer (some ⟨b767, 6, none⟩)), (29, .pointer (some ⟨b767, 0, none⟩))]) hst (by kernel_rfl) (pk_cons rfl (yi_run rfl (fun w hst => x_load rfl Try.isAgg27 (hst.bc1 rfl))) (pk_cons rfl (yi_run rfl (fun w hst => x_field rfl Try.underlying66 rfl Try.sizeOf27 rfl)) (pk_cons rfl (yi_run rfl (fun w hst => x_load rfl Try.isAgg27 (hst.bc1 rfl))) (pk_cons rfl (yi_run rfl (fun w hst => x_field rfl Try.underlying66 rfl Try.sizeOf27 rfl)) (pk_cons rfl (yi_run rfl (fun w hst => by kernel_rfl)) (pk_cons rfl (yi_run rfl (fun w hst => x_load rfl Try.isAgg3 (hst.bc1 rfl))) (pk_cons rfl (yi_run rfl (fun w hst => x_field rfl Try.underlying30 rfl Try.sizeOf3 rfl)) (pk_cons rfl (yi_run rfl (fun w hst => x_field rfl Try.underlying66 rfl Try.sizeOf30 rfl)) pk_nil)))))))) ?_
      refine ws_e rfl rfl ?_
      clear hst
      intro w hst
      obtain ⟨t814, ht815, hm⟩ := bind_some hm
      refine we_call rfl (x_call Try.call35 rfl (vs := [.pointer (some ⟨b583, 0, none⟩), .int .u64 (IntKind.u64.wrap x762.r.Quota), .int .i64 (4:Int)]) rfl) ?_
      refine (octet_Writer_Num_ref hst.to1 ht815).mono ?_
      rintro _ w816 ⟨rfl, hst⟩
      refine ⟨_, rfl, ?_⟩
      replace hst := hst.of1
      refine ws_next (pend' := [(38, .int .u64 x762.to_), (37, .pointer (some ⟨b767, 8, none⟩)), (35, .int .u64 x762.from_), (34, .pointer (some ⟨b767, 7, none⟩))]) hst (by kernel_rfl) (pk_cons rfl (yi_run rfl (fun w hst => x_load rfl Try.isAgg27 (hst.bc1 rfl))) (pk_cons rfl (yi_run rfl (fun w hst => x_field rfl Try.underlying66 rfl Try.sizeOf27 rfl)) (pk_cons rfl (yi_run rfl (fun w hst => x_load rfl Try.isAgg27 (hst.bc1 rfl))) (pk_cons rfl (yi_run rfl (fun w hst => x_field rfl Try.underlying66 rfl Try.sizeOf27 rfl)) pk_nil)))) ?_
      refine ws_e rfl rfl ?_
      clear hst
      intro w hst
      obtain ⟨t819, ht820, hm⟩ := bind_some hm
      refine we_call rfl (x_call Try.call35 rfl (vs := [.pointer (some ⟨b583, 0, none⟩), .int .u64 x762.from_, .int .i64 (8:Int)]) rfl) ?_
      refine (octet_Writer_Num_ref hst.to1 ht820).mono ?_
      rintro _ w821 ⟨rfl, hst⟩
      refine ⟨_, rfl, ?_⟩
      replace hst := hst.of1
      refine ws_next (pend' := [(38, .int .u64 x762.to_), (37, .pointer (some ⟨b767, 8, none⟩))]) hst (by kernel_rfl) (pk_cons rfl (yi_run rfl (fun w hst => x_load rfl Try.isAgg27 (hst.bc1 rfl))) (pk_cons rfl (yi_run rfl (fun w hst => x_field rfl Try.underlying66 rfl Try.sizeOf27 rfl)) pk_nil)) ?_
      refine ws_e rfl rfl ?_
      clear hst
      intro w hst
      obtain ⟨t824, ht825, hm⟩ := bind_some hm
      refine we_call rfl (x_call Try.call35 rfl (vs := [.pointer (some ⟨b583, 0, none⟩), .int .u64 x762.to_, .int .i64 (8:Int)]) rfl) ?_
      refine (octet_Writer_Num_ref hst.to1 ht825).mono ?_
      rintro _ w826 ⟨rfl, hst⟩
      refine ⟨_, rfl, ?_⟩
      replace hst := hst.of1
      refine ws_next (pend' := []) hst (by kernel_rfl) pk_nil ?_
      refine ws_nil ?_
      intro w hst
      refine blk_n ?_
      refine then_n ?_
      refine wp_region_lit ?_
      refine wl_val (v := .int .i64 (IntKind.i64.wrap (z749 + (1:Int)))) rfl rfl rfl ?_
      refine wl_val (v := .int .i64 (IntKind.i64.wrap (z749 + (1:Int)))) rfl rfl rfl ?_
      refine wl_nil ?_
      refine then_n ?_
      replace hst := hst.pull3
      replace hst := hst.pull3
      replace hst := at_policy_Book_close (pv := .pointer (some ⟨b759, 0, none⟩)) (x := o0) hst rfl
      replace hst := hst.pull1
      replace hst := hst.pull1
      replace hst := hst.keep2
      obtain rfl := some_inj hm
      exact ⟨_, Nat.lt_succ_self _, t824, (IntKind.i64.wrap (z749 + (1:Int))), _, hx756, ((fr_upd (t := 0) (v := .pointer (some ⟨b759, 0, none⟩)) rfl).trans ((fr_upd (t := 3) (v := .pointer (some ⟨b583, 0, none⟩)) rfl).trans ((fr_upd (t := 14) (v := .int .i64 t599) rfl).trans ((fr_upd (t := 15) (v := .int .i64 (IntKind.i64.wrap (z749 + (1:Int)))) rfl).trans rfl)))), hst⟩
    · skip
      replace hm := bif_f hc758 hm
      refine wp_iff (congrArg Value.bool hc758) ?_
      refine wp_exit ?_
      refine then_x ?_
      refine then_x ?_
      replace hm := inr_up hm hx756
      refine blk_x ?_
      refine then_n ?_
      refine wp_seq ?_
      refine wp_region_lit ?_
      refine wl_val (v := .pointer (some ⟨b583, 0, none⟩)) rfl rfl rfl ?_
      replace hst := hst.pull1
      obtain ⟨t829, ht830, hm⟩ := bind_some hm
      refine wl_call rfl rfl (x_call Try.call37 rfl (vs := [.pointer (some ⟨b583, 0, none⟩)]) rfl) ?_
      refine (octet_Writer_Done_ref hst.to1 ht830).mono ?_
      rintro _ w831 ⟨v834, rfl, hst⟩
      refine ⟨_, rfl, ?_⟩
      replace hst := hst.of1
      refine wl_val (v := v834) rfl rfl rfl ?_
      refine wl_nil ?_
      refine then_n ?_
      refine wp_ret ?_
      replace hst := hst.pull1
      replace hst := objO_some hst
      obtain rfl := some_inj hm
      refine post_ret (vs := [v834]) Try.results22 (rvs_cons (rv_tmp rfl) rvs_nil) ?_
      replace hst := hst.pull1
      exact ⟨v834, rfl, hst.keep2⟩

theorem octet_Read_ref {w0 w : World} {I : HL} {R : SP} {a0 : (List Int)} {r0_0 : Value} (f0_0 : Ro (tyInt .u8) I r0_0 a0) (hst : St w0 w I [] R) {r : (octet_Reader)} (hm : octet_Read a0 = some r) :
    Calls Try.prog 28 #[r0_0] w fun e w' => ∃ (q0 : Value), e = .returned (q0) ∧ St w0 w' I [at_octet_Reader q0 r] R := by
  unfold octet_Read at hm
  refine calls_start (args := [r0_0]) Try.func28 rfl Try.ntmps28 (Nat.le_of_ble_eq_true rfl) ?_
  refine wp_seq ?_
  refine wp_region_lit ?_
  refine wl_val (v := .pointer none) rfl rfl rfl ?_
  refine wl_nil ?_
  refine then_n ?_
  refine wp_seq ?_
  refine wp_region_lit ?_
  refine wl_val (v := r0_0) rfl rfl rfl ?_
  refine wl_val (v := .agg #[r0_0, .bool false]) rfl rfl (by obtain ⟨_, _, hv_, _⟩ := (ro_sliceV f0_0); rw [hv_]; kernel_rfl) ?_
  obtain ⟨b257, w258, ew259, eb260, hst⟩ := hst.box [r0_0, .bool false] 83
  refine wl_run (v := .pointer (some ⟨b257, 0, none⟩)) (w' := w258) rfl rfl (x_al (by kernel_rfl) ew259 eb260) ?_
  refine wl_val (v := .pointer (some ⟨b257, 0, none⟩)) rfl rfl rfl ?_
  refine wl_nil ?_
  refine then_n ?_
  refine wp_ret ?_
  replace hst := at_octet_Reader_close (pv := .pointer (some ⟨b257, 0, none⟩)) (x := ({ p := a0, bad := false } : octet_Reader)) hst ⟨rfl, f0_0⟩
  obtain rfl := some_inj hm
  refine post_ret (vs := [.pointer (some ⟨b257, 0, none⟩)]) Try.results28 (rvs_cons (rv_tmp rfl) rvs_nil) ?_
  exact ⟨.pointer (some ⟨b257, 0, none⟩), rfl, hst.keep1⟩

theorem octet_Reader_Bad_ref {w0 w : World} {I : HL} {R : SP} {a0 : octet_Reader} {p0 : Value}  (hst : St w0 w I [at_octet_Reader p0 a0] R) {r : (Bool)} (hm : octet_Reader_Bad a0 = some r) :
    Calls Try.prog 41 #[p0] w fun e w' => e = .returned (.bool r) ∧ St w0 w' I [at_octet_Reader p0 a0] R := by
  unfold octet_Reader_Bad at hm
  refine calls_start (args := [p0]) Try.func41 rfl Try.ntmps41 (Nat.le_of_ble_eq_true rfl) ?_
  refine wp_seq ?_
  refine wp_region_lit ?_
  refine wl_val (v := .bool false) rfl rfl rfl ?_
  refine wl_nil ?_
  refine then_n ?_
  refine wp_seq ?_
  refine wp_region_lit ?_
  refine wl_val (v := p0) rfl rfl rfl ?_
  obtain ⟨b269, v270, ⟨rfl, f272⟩, hst'⟩ := at_octet_Reader_open hst
  clear hst
  have hst := hst'
  clear hst'
  refine wl_val (v := .bool false) rfl rfl (by kernel_rfl) ?_
  refine wl_val (v := .bool false) rfl rfl rfl ?_
  refine wl_val (v := .pointer (some ⟨b269, 0, none⟩)) ((wanted_eq rfl rfl rfl rfl).trans rfl) rfl rfl ?_
  refine wl_val (v := .pointer (some ⟨b269, 0, none⟩)) ((wanted_eq rfl rfl rfl rfl).trans rfl) rfl rfl ?_
  refine wl_val (v := .pointer (some ⟨b269, 1, none⟩)) ((wanted_eq rfl rfl rfl rfl).trans rfl) rfl (x_field rfl Try.underlying83 rfl Try.sizeOf4 rfl) ?_
  refine wl_val (v := .bool a0.bad) ((wanted_eq rfl rfl rfl rfl).trans rfl) rfl (x_load rfl Try.isAgg4 (hst.bc0 rfl)) ?_
  refine wl_val (v := .bool a0.bad) rfl rfl (x_pick_f rfl rfl rfl) ?_
  refine wl_val (v := .bool a0.bad) rfl rfl rfl ?_
  refine wl_nil ?_
  refine then_n ?_
  refine wp_ret ?_
  replace hst := at_octet_Reader_close (pv := .pointer (some ⟨b269, 0, none⟩)) (x := a0) hst ⟨rfl, f272⟩
  obtain rfl := some_inj hm
  refine post_ret (vs := [.bool a0.bad]) Try.results41 (rvs_cons (rv_tmp rfl) rvs_nil) ?_
  exact ⟨rfl, hst.keep1⟩

theorem octet_Reader_Left_ref {w0 w : World} {I : HL} {R : SP} {a0 : octet_Reader} {p0 : Value}  (hst : St w0 w I [at_octet_Reader p0 a0] R) {r : (Int)} (hm : octet_Reader_Left a0 = some r) :
    Calls Try.prog 30 #[p0] w fun e w' => e = .returned (.int .i64 r) ∧ St w0 w' I [at_octet_Reader p0 a0] R := by
  unfold octet_Reader_Left at hm
  refine calls_start (args := [p0]) Try.func30 rfl Try.ntmps30 (Nat.le_of_ble_eq_true rfl) ?_
  refine wp_seq ?_
  refine wp_region_lit ?_
  refine wl_val (v := .int .i64 (0:Int)) rfl rfl rfl ?_
  refine wl_nil ?_
  refine then_n ?_
  refine wp_seq ?_
  refine wp_seq ?_
  refine wp_region_lit ?_
  refine wl_val (v := p0) rfl rfl rfl ?_
  obtain ⟨t274, ht275, hm⟩ := bind_some hm
  refine wl_call rfl rfl (x_call Try.call41 rfl (vs := [p0]) rfl) ?_
  refine (octet_Reader_Bad_ref hst.to1 ht275).mono ?_
  rintro _ w276 ⟨rfl, hst⟩
  refine ⟨_, rfl, ?_⟩
  replace hst := hst.of1
  refine wl_nil ?_
  refine then_n ?_
  refine bsplit t274 (fun hc279 => ?_) (fun hc279 => ?_)
  · skip
    replace hm := bif_t hc279 hm
    refine wp_ift (congrArg Value.bool hc279) ?_
    refine wp_seq ?_
    refine wp_region_lit ?_
    refine wl_val (v := .int .i64 (0:Int)) rfl rfl rfl ?_
    refine wl_nil ?_
    refine then_n ?_
    refine wp_ret ?_
    refine then_r ?_
    obtain rfl := some_inj hm
    refine post_ret (vs := [.int .i64 (0:Int)]) Try.results30 (rvs_cons (rv_tmp rfl) rvs_nil) ?_
    exact ⟨rfl, hst.keep1⟩
  · skip
    replace hm := bif_f hc279 hm
    refine wp_iff (congrArg Value.bool hc279) ?_
    refine wp_skip ?_
    refine then_n ?_
    refine wp_seq ?_
    refine wp_region_lit ?_
    refine wl_val (v := p0) rfl rfl rfl ?_
    obtain ⟨b280, v281, ⟨rfl, f283⟩, hst'⟩ := at_octet_Reader_open hst
    clear hst
    have hst := hst'
    clear hst'
    refine wl_val (v := .pointer (some ⟨b280, 0, none⟩)) rfl rfl rfl ?_
    refine wl_val (v := .pointer (some ⟨b280, 0, none⟩)) rfl rfl (x_field rfl Try.underlying83 rfl Try.sizeOf23 rfl) ?_
    refine wl_val (v := v281) rfl rfl (x_load rfl Try.isAgg23 (hst.bc0 rfl)) ?_
    refine wl_val (v := .int .i64 ((a0.p).length : Int)) rfl rfl (x_len rfl Try.underlying23 (ro_sliceV f283)) ?_
    refine wl_val (v := .int .i64 ((a0.p).length : Int)) rfl rfl rfl ?_
    refine wl_nil ?_
    refine then_n ?_
    refine wp_ret ?_
    replace hst := at_octet_Reader_close (pv := .pointer (some ⟨b280, 0, none⟩)) (x := a0) hst ⟨rfl, f283⟩
    obtain rfl := some_inj hm
    refine post_ret (vs := [.int .i64 ((a0.p).length : Int)]) Try.results30 (rvs_cons (rv_tmp rfl) rvs_nil) ?_
    exact ⟨rfl, hst.keep1⟩

theorem octet_Reader_spoil_ref {w0 w : World} {I : HL} {R : SP} {a0 : octet_Reader} {p0 : Value}  (hst : St w0 w I [at_octet_Reader p0 a0] R) {r : (octet_Reader)} (hm : octet_Reader_spoil a0 = some r) :
    Calls Try.prog 40 #[p0] w fun e w' => e = .returned (.tuple #[]) ∧ St w0 w' I [at_octet_Reader p0 r] R := by
  unfold octet_Reader_spoil at hm
  refine calls_start (args := [p0]) Try.func40 rfl Try.ntmps40 (Nat.le_of_ble_eq_true rfl) ?_
  refine wp_seq ?_
  refine wp_region_lit ?_
  refine wl_val (v := p0) rfl rfl rfl ?_
  obtain ⟨b282, v283, ⟨rfl, f285⟩, hst'⟩ := at_octet_Reader_open hst
  clear hst
  have hst := hst'
  clear hst'
  refine wl_val (v := .bool true) rfl rfl (by kernel_rfl) ?_
  refine wl_nil ?_
  refine then_n ?_
  refine wp_ift rfl ?_
  refine wp_region_lit ?_
  refine wl_val (v := .pointer (some ⟨b282, 0, none⟩)) rfl rfl rfl ?_
  refine wl_val (v := .pointer (some ⟨b282, 0, none⟩)) rfl rfl rfl ?_
  refine wl_val (v := .pointer (some ⟨b282, 1, none⟩)) rfl rfl (x_field rfl Try.underlying83 rfl Try.sizeOf4 rfl) ?_
  obtain ⟨w286, hr287, hst⟩ := hst.boxStore (P := Try.prog) (t := 4) (cs' := [v283, .bool true]) 1 (.bool true) Try.sizeOf4 (Nat.le_of_ble_eq_true rfl) (ones_cons rfl ones_nil) rfl
  refine wl_unit rfl rfl (x_unit hr287) ?_
  refine wl_nil ?_
  replace hst := at_octet_Reader_close (pv := .pointer (some ⟨b282, 0, none⟩)) (x := ({ p := a0.p, bad := true } : octet_Reader)) hst ⟨rfl, f285⟩
  obtain rfl := some_inj hm
  refine post_end (vs := []) Try.results40 rvs_nil ?_
  exact ⟨rfl, hst.keep1⟩

theorem octet_Reader_Num_ref {w0 w : World} {I : HL} {R : SP} {a0 : octet_Reader} {p0 : Value} {a1 : Int}  (hst : St w0 w I [at_octet_Reader p0 a0] R) {r : (Int × octet_Reader)} (hm : octet_Reader_Num a0 a1 = some r) :
    Calls Try.prog 31 #[p0, .int .i64 a1] w fun e w' => e = .returned (.int .u64 r.1) ∧ St w0 w' I [at_octet_Reader p0 r.2] R := by
  unfold octet_Reader_Num at hm
  refine calls_start (args := [p0, .int .i64 a1]) Try.func31 rfl Try.ntmps31 (Nat.le_of_ble_eq_true rfl) ?_
  refine wp_seq ?_
  refine wp_region_lit ?_
  refine wl_val (v := .int .u64 (0:Int)) rfl rfl rfl ?_
  refine wl_nil ?_
  refine then_n ?_
  refine wp_seq ?_
  refine wp_seq ?_
  refine wp_region_lit ?_
  refine wl_val (v := p0) rfl rfl rfl ?_
  obtain ⟨b359, v360, ⟨rfl, f362⟩, hst'⟩ := at_octet_Reader_open hst
  clear hst
  have hst := hst'
  clear hst'
  refine wl_val (v := .bool false) rfl rfl (by kernel_rfl) ?_
  refine wl_val (v := .bool false) rfl rfl rfl ?_
  refine wl_val (v := .pointer (some ⟨b359, 0, none⟩)) ((wanted_eq rfl rfl rfl rfl).trans rfl) rfl rfl ?_
  refine wl_val (v := .pointer (some ⟨b359, 0, none⟩)) ((wanted_eq rfl rfl rfl rfl).trans rfl) rfl rfl ?_
  refine wl_val (v := .pointer (some ⟨b359, 1, none⟩)) ((wanted_eq rfl rfl rfl rfl).trans rfl) rfl (x_field rfl Try.underlying83 rfl Try.sizeOf4 rfl) ?_
  refine wl_val (v := .bool a0.bad) ((wanted_eq rfl rfl rfl rfl).trans rfl) rfl (x_load rfl Try.isAgg4 (hst.bc0 rfl)) ?_
  refine wl_val (v := .bool a0.bad) rfl rfl (x_pick_f rfl rfl rfl) ?_
  refine wl_val (v := .bool a0.bad) rfl rfl rfl ?_
  refine bsplit a0.bad (fun hc363 => ?_) (fun hc363 => ?_)
  · skip
    replace hm := bif_t hc363 hm
    refine wl_off ((wanted_eq rfl rfl rfl (congrArg Value.bool hc363)).trans rfl) rfl ?_
    refine wl_off ((wanted_eq rfl rfl rfl (congrArg Value.bool hc363)).trans rfl) rfl ?_
    refine wl_val (v := .bool true) rfl rfl (x_pick_t hc363 rfl rfl) ?_
    refine wl_val (v := .bool true) rfl rfl rfl ?_
    refine wl_off ((wanted_eq rfl rfl rfl rfl).trans rfl) rfl ?_
    refine wl_off ((wanted_eq rfl rfl rfl rfl).trans rfl) rfl ?_
    refine wl_off ((wanted_eq rfl rfl rfl rfl).trans rfl) rfl ?_
    refine wl_off ((wanted_eq rfl rfl rfl rfl).trans rfl) rfl ?_
    refine wl_off ((wanted_eq rfl rfl rfl rfl).trans rfl) rfl ?_
    refine wl_off ((wanted_eq rfl rfl rfl rfl).trans rfl) rfl ?_
    refine wl_off ((wanted_eq rfl rfl rfl rfl).trans rfl) rfl ?_
    refine wl_val (v := .bool true) rfl rfl (x_pick_t rfl rfl rfl) ?_
    refine wl_nil ?_
    refine then_n ?_
    refine wp_ift rfl ?_
    refine wp_seq ?_
    refine wp_region_lit ?_
    refine wl_val (v := .pointer (some ⟨b359, 0, none⟩)) rfl rfl rfl ?_
    replace hst := at_octet_Reader_close (pv := .pointer (some ⟨b359, 0, none⟩)) (x := a0) hst ⟨rfl, f362⟩
    obtain ⟨t364, ht365, hm⟩ := bind_some hm
    refine wl_call rfl rfl (x_call Try.call40 rfl (vs := [.pointer (some ⟨b359, 0, none⟩)]) rfl) ?_
    refine (octet_Reader_spoil_ref hst.to1 ht365).mono ?_
    rintro _ w366 ⟨rfl, hst⟩
    refine ⟨_, rfl, ?_⟩
    replace hst := hst.of1
    refine wl_nil ?_
    refine then_n ?_
    refine wp_seq ?_
    refine wp_region_lit ?_
    refine wl_val (v := .int .u64 (0:Int)) rfl rfl rfl ?_
    refine wl_nil ?_
    refine then_n ?_
    refine wp_ret ?_
    refine then_r ?_
    obtain rfl := some_inj hm
    refine post_ret (vs := [.int .u64 (0:Int)]) Try.results31 (rvs_cons (rv_tmp rfl) rvs_nil) ?_
    exact ⟨rfl, hst.keep1⟩
  · skip
    replace hm := bif_f hc363 hm
    refine wl_val (v := .int .i64 a1) ((wanted_eq rfl rfl rfl (congrArg Value.bool hc363)).trans rfl) rfl rfl ?_
    refine wl_val (v := .bool (decide (a1 < (0:Int)))) ((wanted_eq rfl rfl rfl (congrArg Value.bool hc363)).trans rfl) rfl rfl ?_
    refine wl_val (v := .bool (decide (a1 < (0:Int)))) rfl rfl (x_pick_f hc363 rfl rfl) ?_
    refine wl_val (v := .bool (decide (a1 < (0:Int)))) rfl rfl rfl ?_
    refine bsplit (decide (a1 < (0:Int))) (fun hc369 => ?_) (fun hc369 => ?_)
    · skip
      replace hm := bif_t hc369 hm
      refine wl_off ((wanted_eq rfl rfl rfl (congrArg Value.bool hc369)).trans rfl) rfl ?_
      refine wl_off ((wanted_eq rfl rfl rfl (congrArg Value.bool hc369)).trans rfl) rfl ?_
      refine wl_off ((wanted_eq rfl rfl rfl (congrArg Value.bool hc369)).trans rfl) rfl ?_
      refine wl_off ((wanted_eq rfl rfl rfl (congrArg Value.bool hc369)).trans rfl) rfl ?_
      refine wl_off ((wanted_eq rfl rfl rfl (congrArg Value.bool hc369)).trans rfl) rfl ?_
      refine wl_off ((wanted_eq rfl rfl rfl (congrArg Value.bool hc369)).trans rfl) rfl ?_
      refine wl_off ((wanted_eq rfl rfl rfl (congrArg Value.bool hc369)).trans rfl) rfl ?_
      refine wl_val (v := .bool true) rfl rfl (x_pick_t hc369 rfl rfl) ?_
      refine wl_nil ?_
      refine then_n ?_
      refine wp_ift rfl ?_
      refine wp_seq ?_
      refine wp_region_lit ?_
      refine wl_val (v := .pointer (some ⟨b359, 0, none⟩)) rfl rfl rfl ?_
      replace hst := at_octet_Reader_close (pv := .pointer (some ⟨b359, 0, none⟩)) (x := a0) hst ⟨rfl, f362⟩
      obtain ⟨t370, ht371, hm⟩ := bind_some hm
      refine wl_call rfl rfl (x_call Try.call40 rfl (vs := [.pointer (some ⟨b359, 0, none⟩)]) rfl) ?_
      refine (octet_Reader_spoil_ref hst.to1 ht371).mono ?_
      rintro _ w372 ⟨rfl, hst⟩
      refine ⟨_, rfl, ?_⟩
      replace hst := hst.of1
      refine wl_nil ?_
      refine then_n ?_
      refine wp_seq ?_
      refine wp_region_lit ?_
      refine wl_val (v := .int .u64 (0:Int)) rfl rfl rfl ?_
      refine wl_nil ?_
      refine then_n ?_
      refine wp_ret ?_
      refine then_r ?_
      obtain rfl := some_inj hm
      refine post_ret (vs := [.int .u64 (0:Int)]) Try.results31 (rvs_cons (rv_tmp rfl) rvs_nil) ?_
      exact ⟨rfl, hst.keep1⟩
    · skip
      replace hm := bif_f hc369 hm
      refine wl_val (v := .pointer (some ⟨b359, 0, none⟩)) ((wanted_eq rfl rfl rfl (congrArg Value.bool hc369)).trans rfl) rfl rfl ?_
      refine wl_val (v := .pointer (some ⟨b359, 0, none⟩)) ((wanted_eq rfl rfl rfl (congrArg Value.bool hc369)).trans rfl) rfl rfl ?_
      refine wl_val (v := .pointer (some ⟨b359, 0, none⟩)) ((wanted_eq rfl rfl rfl (congrArg Value.bool hc369)).trans rfl) rfl (x_field rfl Try.underlying83 rfl Try.sizeOf23 rfl) ?_
      refine wl_val (v := v360) ((wanted_eq rfl rfl rfl (congrArg Value.bool hc369)).trans rfl) rfl (x_load rfl Try.isAgg23 (hst.bc0 rfl)) ?_
      refine wl_val (v := .int .i64 ((a0.p).length : Int)) ((wanted_eq rfl rfl rfl (congrArg Value.bool hc369)).trans rfl) rfl (x_len rfl Try.underlying23 (ro_sliceV f362)) ?_
      refine wl_val (v := .int .i64 a1) ((wanted_eq rfl rfl rfl (congrArg Value.bool hc369)).trans rfl) rfl rfl ?_
      refine wl_val (v := .bool (decide (((a0.p).length : Int) < a1))) ((wanted_eq rfl rfl rfl (congrArg Value.bool hc369)).trans rfl) rfl rfl ?_
      refine wl_val (v := .bool (decide (((a0.p).length : Int) < a1))) rfl rfl (x_pick_f hc369 rfl rfl) ?_
      refine wl_nil ?_
      refine then_n ?_
      refine bsplit (decide (((a0.p).length : Int) < a1)) (fun hc375 => ?_) (fun hc375 => ?_)
      · skip
        replace hm := bif_t hc375 hm
        refine wp_ift (congrArg Value.bool hc375) ?_
        refine wp_seq ?_
        refine wp_region_lit ?_
        refine wl_val (v := .pointer (some ⟨b359, 0, none⟩)) rfl rfl rfl ?_
        replace hst := at_octet_Reader_close (pv := .pointer (some ⟨b359, 0, none⟩)) (x := a0) hst ⟨rfl, f362⟩
        obtain ⟨t376, ht377, hm⟩ := bind_some hm
        refine wl_call rfl rfl (x_call Try.call40 rfl (vs := [.pointer (some ⟨b359, 0, none⟩)]) rfl) ?_
        refine (octet_Reader_spoil_ref hst.to1 ht377).mono ?_
        rintro _ w378 ⟨rfl, hst⟩
        refine ⟨_, rfl, ?_⟩
        replace hst := hst.of1
        refine wl_nil ?_
        refine then_n ?_
        refine wp_seq ?_
        refine wp_region_lit ?_
        refine wl_val (v := .int .u64 (0:Int)) rfl rfl rfl ?_
        refine wl_nil ?_
        refine then_n ?_
        refine wp_ret ?_
        refine then_r ?_
        obtain rfl := some_inj hm
        refine post_ret (vs := [.int .u64 (0:Int)]) Try.results31 (rvs_cons (rv_tmp rfl) rvs_nil) ?_
        exact ⟨rfl, hst.keep1⟩
      · skip
        replace hm := bif_f hc375 hm
        refine wp_iff (congrArg Value.bool hc375) ?_
        refine wp_skip ?_
        refine then_n ?_
        refine wp_seq ?_
        refine wp_region_lit ?_
        refine wl_val (v := .int .u64 (0:Int)) rfl rfl rfl ?_
        refine wl_nil ?_
        refine then_n ?_
        obtain ⟨y432, hm, hx433⟩ := bind_some hm
        refine wp_cut (fun a w => ∃ (z429 : Int) (σ430 : Nat → Value), (octet_Reader_Num_j0 a0 a1) z429 = some r ∧ a = Fr 59 (upd (upd (upd σ430 0 (.pointer (some ⟨b359, 0, none⟩))) 1 (.int .i64 a1)) 5 (.int .u64 z429)) ∧ St w0 w I [at_octet_Reader (.pointer (some ⟨b359, 0, none⟩)) a0] R) ?_ ?_
        · skip
          refine wp_seq ?_
          refine wp_region_lit ?_
          refine wl_val (v := .int .i64 a1) rfl rfl rfl ?_
          refine wl_val (v := .int .i64 (if (8:Int) < a1 then (8:Int) else a1)) rfl rfl (by kernel_rfl) ?_
          refine wl_val (v := .int .i64 (0:Int)) rfl rfl rfl ?_
          refine wl_nil ?_
          refine then_n ?_
          refine wp_block ?_
          replace hst := at_octet_Reader_close (pv := .pointer (some ⟨b359, 0, none⟩)) (x := a0) hst ⟨rfl, f362⟩
          obtain ⟨n410, hm⟩ := loopO_some hm
          refine wp_loop_n (fun n a w => ∃ (z407 : Int) (z408 : Int) (σ409 : Nat → Value), loopN (octet_Reader_Num_l1 a1 a0) n (z407, z408) = some y432 ∧ a = Fr 59 (upd (upd (upd (upd (upd σ409 0 (.pointer (some ⟨b359, 0, none⟩))) 1 (.int .i64 a1)) 5 (.int .u64 z408)) 31 (.int .i64 (if (8:Int) < a1 then (8:Int) else a1))) 32 (.int .i64 z407)) ∧ St w0 w I [at_octet_Reader (.pointer (some ⟨b359, 0, none⟩)) a0] R) n410 ⟨(0:Int), (0:Int), _, hm, ((fr_upd (t := 0) (v := .pointer (some ⟨b359, 0, none⟩)) rfl).trans ((fr_upd (t := 1) (v := .int .i64 a1) rfl).trans ((fr_upd (t := 5) (v := .int .u64 (0:Int)) rfl).trans ((fr_upd (t := 31) (v := .int .i64 (if (8:Int) < a1 then (8:Int) else a1)) rfl).trans ((fr_upd (t := 32) (v := .int .i64 (0:Int)) rfl).trans rfl))))), hst⟩ ?_
          rintro n416 _ w411 ⟨z407, z408, σ409, hm, rfl, hst⟩
          obtain ⟨n413, y414, rfl, hm, hx415⟩ := loopN_some hm
          dsimp only [octet_Reader_Num_l1] at hm
          refine wp_seq ?_
          refine wp_region_lit ?_
          refine wl_val (v := .bool (decide (z407 < (if (8:Int) < a1 then (8:Int) else a1)))) rfl rfl rfl ?_
          refine wl_nil ?_
          refine then_n ?_
          refine wp_seq ?_
          refine bsplit (decide (z407 < (if (8:Int) < a1 then (8:Int) else a1))) (fun hc417 => ?_) (fun hc417 => ?_)
          · skip
            replace hm := bif_t hc417 hm
            refine wp_ift (congrArg Value.bool hc417) ?_
            refine wp_skip ?_
            refine then_n ?_
            refine wp_seq ?_
            refine wp_block ?_
            refine wp_seq ?_
            refine wp_region_lit ?_
            refine wl_val (v := .int .i64 z407) rfl rfl rfl ?_
            refine wl_val (v := .int .i64 z407) rfl rfl rfl ?_
            refine wl_nil ?_
            refine then_n ?_
            refine wp_region_lit ?_
            refine wl_val (v := .int .u64 z408) rfl rfl rfl ?_
            refine wl_val (v := .pointer (some ⟨b359, 0, none⟩)) rfl rfl rfl ?_
            obtain ⟨b418, v419, ⟨e422, f421⟩, hst'⟩ := at_octet_Reader_open hst
            clear hst
            have e422 := ptr_inj e422
            subst e422
            have hst := hst'
            clear hst'
            refine wl_val (v := .pointer (some ⟨b359, 0, none⟩)) rfl rfl rfl ?_
            refine wl_val (v := .pointer (some ⟨b359, 0, none⟩)) rfl rfl (x_field rfl Try.underlying83 rfl Try.sizeOf23 rfl) ?_
            refine wl_val (v := v419) rfl rfl (x_load rfl Try.isAgg23 (hst.bc0 rfl)) ?_
            refine wl_val (v := .int .i64 z407) rfl rfl rfl ?_
            obtain ⟨x423, hx424, hm⟩ := bind_some hm
            obtain ⟨h425, h426, hi427⟩ := geto_some hx424
            refine wl_val (v := .pointer (some (eAddr v419 (z407.toNat * 1 + 0)))) rfl rfl (x_index rfl rfl Try.underlying23 Try.sizeOf5 (ro_sliceV f421) h425 h426) ?_
            refine wl_val (v := .int .u8 x423) rfl rfl (x_load rfl Try.isAgg5 (ro_load f421 hst hi427 (by rintro _ rfl; rfl))) ?_
            refine wl_val (v := .int .u64 (IntKind.u64.wrap x423)) rfl rfl (by kernel_rfl) ?_
            refine wl_val (v := .int .i64 z407) rfl rfl rfl ?_
            refine wl_val (v := .int .i64 (IntKind.i64.wrap ((8:Int) * z407))) rfl rfl rfl ?_
            obtain ⟨hg428, hm⟩ := gd_some hm
            refine wl_val (v := .int .u64 (iShl .u64 (IntKind.u64.wrap x423) (IntKind.i64.wrap ((8:Int) * z407)))) rfl rfl (x_shl (of_decide_eq_true hg428) rfl rfl) ?_
            refine wl_val (v := .int .u64 (bOr .u64 z408 (iShl .u64 (IntKind.u64.wrap x423) (IntKind.i64.wrap ((8:Int) * z407))))) rfl rfl rfl ?_
            refine wl_val (v := .int .u64 (bOr .u64 z408 (iShl .u64 (IntKind.u64.wrap x423) (IntKind.i64.wrap ((8:Int) * z407))))) rfl rfl rfl ?_
            refine wl_nil ?_
            refine blk_n ?_
            refine then_n ?_
            refine wp_region_lit ?_
            refine wl_val (v := .int .i64 (IntKind.i64.wrap (z407 + (1:Int)))) rfl rfl rfl ?_
            refine wl_val (v := .int .i64 (IntKind.i64.wrap (z407 + (1:Int)))) rfl rfl rfl ?_
            refine wl_nil ?_
            refine then_n ?_
            replace hst := at_octet_Reader_close (pv := .pointer (some ⟨b359, 0, none⟩)) (x := a0) hst ⟨rfl, f421⟩
            replace hst := hst.keep1
            obtain rfl := some_inj hm
            exact ⟨_, Nat.lt_succ_self _, (IntKind.i64.wrap (z407 + (1:Int))), (bOr .u64 z408 (iShl .u64 (IntKind.u64.wrap x423) (IntKind.i64.wrap ((8:Int) * z407)))), _, hx415, ((fr_upd (t := 0) (v := .pointer (some ⟨b359, 0, none⟩)) rfl).trans ((fr_upd (t := 1) (v := .int .i64 a1) rfl).trans ((fr_upd (t := 5) (v := .int .u64 (bOr .u64 z408 (iShl .u64 (IntKind.u64.wrap x423) (IntKind.i64.wrap ((8:Int) * z407))))) rfl).trans ((fr_upd (t := 31) (v := .int .i64 (if (8:Int) < a1 then (8:Int) else a1)) rfl).trans ((fr_upd (t := 32) (v := .int .i64 (IntKind.i64.wrap (z407 + (1:Int)))) rfl).trans rfl))))), hst⟩
          · skip
            replace hm := bif_f hc417 hm
            refine wp_iff (congrArg Value.bool hc417) ?_
            refine wp_exit ?_
            refine then_x ?_
            refine then_x ?_
            replace hm := inr_up hm hx415
            refine blk_x ?_
            refine then_n ?_
            replace hst := hst.keep1
            obtain rfl := some_inj hm
            exact ⟨z408, _, hx433, ((fr_upd (t := 0) (v := .pointer (some ⟨b359, 0, none⟩)) rfl).trans ((fr_upd (t := 1) (v := .int .i64 a1) rfl).trans ((fr_upd (t := 5) (v := .int .u64 z408) rfl).trans rfl))), hst⟩
        · skip
          clear hst
          rintro _ w434 ⟨z429, σ430, hm, rfl, hst⟩
          dsimp only [octet_Reader_Num_j0] at hm
          refine wp_seq ?_
          refine wp_region_lit ?_
          refine wl_val (v := .pointer (some ⟨b359, 0, none⟩)) rfl rfl rfl ?_
          refine wl_val (v := .pointer (some ⟨b359, 0, none⟩)) rfl rfl rfl ?_
          obtain ⟨b435, v436, ⟨e439, f438⟩, hst'⟩ := at_octet_Reader_open hst
          clear hst
          have e439 := ptr_inj e439
          subst e439
          have hst := hst'
          clear hst'
          refine wl_val (v := .pointer (some ⟨b359, 0, none⟩)) rfl rfl rfl ?_
          refine wl_val (v := .pointer (some ⟨b359, 0, none⟩)) rfl rfl (x_field rfl Try.underlying83 rfl Try.sizeOf23 rfl) ?_
          refine wl_val (v := v436) rfl rfl (x_load rfl Try.isAgg23 (hst.bc0 rfl)) ?_
          refine wl_val (v := .int .i64 a1) rfl rfl rfl ?_
          obtain ⟨hg440, hm⟩ := gd_some hm
          obtain ⟨h441, h442, h443⟩ := fits_of hg440
          have f445 : Ro (tyInt .u8) I (slcV 1 v436 a1.toNat (((a0.p).length : Nat) : Int).toNat) (subs a0.p a1 (((a0.p).length : Nat) : Int)) := Ro.part f438 h442 h443 h441
          refine wl_val (v := (slcV 1 v436 a1.toNat (((a0.p).length : Nat) : Int).toNat)) rfl rfl (x_slice Try.underlying23 Try.sizeOf5 rfl (ro_sliceV f438) h441 h442 h443 .i64 .i64 (.inl rfl) (.inr ⟨rfl, rfl⟩)) ?_
          refine wl_val (v := .pointer (some ⟨b359, 0, none⟩)) rfl rfl rfl ?_
          refine wl_val (v := .pointer (some ⟨b359, 0, none⟩)) rfl rfl (x_field rfl Try.underlying83 rfl Try.sizeOf23 rfl) ?_
          obtain ⟨w446, hr447, hst⟩ := hst.boxStore1 (P := Try.prog) (t := 23) (cs' := [(slcV 1 v436 a1.toNat (((a0.p).length : Nat) : Int).toNat), .bool a0.bad]) 0 (slcV 1 v436 a1.toNat (((a0.p).length : Nat) : Int).toNat) (one_of_sliceV (ro_sliceV f445)) Try.sizeOf23 rfl rfl
          refine wl_unit rfl rfl (x_unit hr447) ?_
          refine wl_nil ?_
          refine then_n ?_
          refine wp_seq ?_
          refine wp_region_lit ?_
          refine wl_val (v := .int .u64 z429) rfl rfl rfl ?_
          refine wl_val (v := .int .u64 z429) rfl rfl rfl ?_
          refine wl_nil ?_
          refine then_n ?_
          refine wp_ret ?_
          replace hst := at_octet_Reader_close (pv := .pointer (some ⟨b359, 0, none⟩)) (x := ({ p := (subs a0.p a1 (((a0.p).length : Nat) : Int)), bad := a0.bad } : octet_Reader)) hst ⟨rfl, f445⟩
          obtain rfl := some_inj hm
          refine post_ret (vs := [.int .u64 z429]) Try.results31 (rvs_cons (rv_tmp rfl) rvs_nil) ?_
          exact ⟨rfl, hst.keep1⟩

theorem octet_Reader_Count_ref {w0 w : World} {I : HL} {R : SP} {a0 : octet_Reader} {p0 : Value} {a1 : Int}  (hst : St w0 w I [at_octet_Reader p0 a0] R) {r : (Int × octet_Reader)} (hm : octet_Reader_Count a0 a1 = some r) :
    Calls Try.prog 29 #[p0, .int .i64 a1] w fun e w' => e = .returned (.int .i64 r.1) ∧ St w0 w' I [at_octet_Reader p0 r.2] R := by
  unfold octet_Reader_Count at hm
  refine calls_start (args := [p0, .int .i64 a1]) Try.func29 rfl Try.ntmps29 (Nat.le_of_ble_eq_true rfl) ?_
  refine wp_seq ?_
  refine wp_region_lit ?_
  refine wl_val (v := .int .i64 (0:Int)) rfl rfl rfl ?_
  refine wl_nil ?_
  refine then_n ?_
  refine wp_seq ?_
  refine wp_region_lit ?_
  refine wl_val (v := p0) rfl rfl rfl ?_
  obtain ⟨t286, ht287, hm⟩ := bind_some hm
  refine wl_call rfl rfl (x_call Try.call31 rfl (vs := [p0, .int .i64 (4:Int)]) rfl) ?_
  refine (octet_Reader_Num_ref hst.to1 ht287).mono ?_
  rintro _ w288 ⟨rfl, hst⟩
  refine ⟨_, rfl, ?_⟩
  replace hst := hst.of1
  refine wl_val (v := .int .u64 t286.1) rfl rfl rfl ?_
  refine wl_nil ?_
  refine then_n ?_
  refine wp_seq ?_
  refine wp_seq ?_
  refine wp_region_lit ?_
  refine wl_val (v := .int .i64 a1) rfl rfl rfl ?_
  refine wl_val (v := .bool (decide (a1 < (0:Int)))) rfl rfl rfl ?_
  refine wl_val (v := .bool (decide (a1 < (0:Int)))) rfl rfl rfl ?_
  refine bsplit (decide (a1 < (0:Int))) (fun hc291 => ?_) (fun hc291 => ?_)
  · skip
    replace hm := bif_t hc291 hm
    refine wl_off ((wanted_eq rfl rfl rfl (congrArg Value.bool hc291)).trans rfl) rfl ?_
    refine wl_off ((wanted_eq rfl rfl rfl (congrArg Value.bool hc291)).trans rfl) rfl ?_
    refine wl_off ((wanted_eq rfl rfl rfl (congrArg Value.bool hc291)).trans rfl) rfl ?_
    refine wl_off ((wanted_eq rfl rfl rfl (congrArg Value.bool hc291)).trans rfl) rfl ?_
    refine wl_val (v := .bool true) rfl rfl (x_pick_t hc291 rfl rfl) ?_
    refine wl_nil ?_
    refine then_n ?_
    refine wp_ift rfl ?_
    refine wp_seq ?_
    refine wp_region_lit ?_
    refine wl_val (v := p0) rfl rfl rfl ?_
    obtain ⟨t292, ht293, hm⟩ := bind_some hm
    refine wl_call rfl rfl (x_call Try.call40 rfl (vs := [p0]) rfl) ?_
    refine (octet_Reader_spoil_ref hst.to1 ht293).mono ?_
    rintro _ w294 ⟨rfl, hst⟩
    refine ⟨_, rfl, ?_⟩
    replace hst := hst.of1
    refine wl_nil ?_
    refine then_n ?_
    refine wp_seq ?_
    refine wp_region_lit ?_
    refine wl_val (v := .int .i64 (0:Int)) rfl rfl rfl ?_
    refine wl_nil ?_
    refine then_n ?_
    refine wp_ret ?_
    refine then_r ?_
    obtain rfl := some_inj hm
    refine post_ret (vs := [.int .i64 (0:Int)]) Try.results29 (rvs_cons (rv_tmp rfl) rvs_nil) ?_
    exact ⟨rfl, hst.keep1⟩
  · skip
    replace hm := bif_f hc291 hm
    refine wl_val (v := .int .u64 t286.1) ((wanted_eq rfl rfl rfl (congrArg Value.bool hc291)).trans rfl) rfl rfl ?_
    refine wl_val (v := .int .i64 a1) ((wanted_eq rfl rfl rfl (congrArg Value.bool hc291)).trans rfl) rfl rfl ?_
    refine wl_val (v := .int .u64 (IntKind.u64.wrap a1)) ((wanted_eq rfl rfl rfl (congrArg Value.bool hc291)).trans rfl) rfl (by kernel_rfl) ?_
    refine wl_val (v := .bool (decide (t286.1 > (IntKind.u64.wrap a1)))) ((wanted_eq rfl rfl rfl (congrArg Value.bool hc291)).trans rfl) rfl rfl ?_
    refine wl_val (v := .bool (decide (t286.1 > (IntKind.u64.wrap a1)))) rfl rfl (x_pick_f hc291 rfl rfl) ?_
    refine wl_nil ?_
    refine then_n ?_
    refine bsplit (decide (t286.1 > (IntKind.u64.wrap a1))) (fun hc297 => ?_) (fun hc297 => ?_)
    · skip
      replace hm := bif_t hc297 hm
      refine wp_ift (congrArg Value.bool hc297) ?_
      refine wp_seq ?_
      refine wp_region_lit ?_
      refine wl_val (v := p0) rfl rfl rfl ?_
      obtain ⟨t298, ht299, hm⟩ := bind_some hm
      refine wl_call rfl rfl (x_call Try.call40 rfl (vs := [p0]) rfl) ?_
      refine (octet_Reader_spoil_ref hst.to1 ht299).mono ?_
      rintro _ w300 ⟨rfl, hst⟩
      refine ⟨_, rfl, ?_⟩
      replace hst := hst.of1
      refine wl_nil ?_
      refine then_n ?_
      refine wp_seq ?_
      refine wp_region_lit ?_
      refine wl_val (v := .int .i64 (0:Int)) rfl rfl rfl ?_
      refine wl_nil ?_
      refine then_n ?_
      refine wp_ret ?_
      refine then_r ?_
      obtain rfl := some_inj hm
      refine post_ret (vs := [.int .i64 (0:Int)]) Try.results29 (rvs_cons (rv_tmp rfl) rvs_nil) ?_
      exact ⟨rfl, hst.keep1⟩
    · skip
      replace hm := bif_f hc297 hm
      refine wp_iff (congrArg Value.bool hc297) ?_
      refine wp_skip ?_
      refine then_n ?_
      refine wp_seq ?_
      refine wp_region_lit ?_
      refine wl_val (v := .int .u64 t286.1) rfl rfl rfl ?_
      refine wl_val (v := .int .i64 (IntKind.i64.wrap t286.1)) rfl rfl (by kernel_rfl) ?_
      refine wl_val (v := .int .i64 (IntKind.i64.wrap t286.1)) rfl rfl rfl ?_
      refine wl_nil ?_
      refine then_n ?_
      refine wp_ret ?_
      obtain rfl := some_inj hm
      refine post_ret (vs := [.int .i64 (IntKind.i64.wrap t286.1)]) Try.results29 (rvs_cons (rv_tmp rfl) rvs_nil) ?_
      exact ⟨rfl, hst.keep1⟩

theorem number_Back_ref {w0 w : World} {I : HL} {R : SP} {a0 : Int}  (hst : St w0 w I [] R) {r : (Nat)} (hm : number_Back a0 = some r) :
    Calls Try.prog 32 #[.int .u64 a0] w fun e w' => e = .returned (.float .f64 r) ∧ St w0 w' I [] R := by
  unfold number_Back at hm
  refine calls_start (args := [.int .u64 a0]) Try.func32 rfl Try.ntmps32 (Nat.le_of_ble_eq_true rfl) ?_
  refine wp_seq ?_
  refine wp_region_lit ?_
  refine wl_val (v := .float .f64 (0:Nat)) rfl rfl rfl ?_
  refine wl_nil ?_
  refine then_n ?_
  refine wp_seq ?_
  refine wp_seq ?_
  refine wp_region_lit ?_
  refine wl_val (v := .int .u64 a0) rfl rfl rfl ?_
  refine wl_val (v := .int .u64 (iShr .u64 a0 (63:Int))) rfl rfl (x_shr (by decide) rfl rfl) ?_
  refine wl_val (v := .bool ((iShr .u64 a0 (63:Int)) == (1:Int))) rfl rfl rfl ?_
  refine wl_nil ?_
  refine then_n ?_
  refine bsplit ((iShr .u64 a0 (63:Int)) == (1:Int)) (fun hc294 => ?_) (fun hc294 => ?_)
  · skip
    replace hm := bif_t hc294 hm
    refine wp_ift (congrArg Value.bool hc294) ?_
    refine wp_seq ?_
    refine wp_region_lit ?_
    refine wl_val (v := .int .u64 a0) rfl rfl rfl ?_
    refine wl_val (v := .int .u64 (bAndNot .u64 a0 (9223372036854775808:Int))) rfl rfl rfl ?_
    refine wl_val (v := .float .f64 (Int.toNat (bAndNot .u64 a0 (9223372036854775808:Int)))) rfl rfl (by kernel_rfl) ?_
    refine wl_val (v := .float .f64 (Int.toNat (bAndNot .u64 a0 (9223372036854775808:Int)))) rfl rfl rfl ?_
    refine wl_nil ?_
    refine then_n ?_
    refine wp_ret ?_
    refine then_r ?_
    obtain rfl := some_inj hm
    refine post_ret (vs := [.float .f64 (Int.toNat (bAndNot .u64 a0 (9223372036854775808:Int)))]) Try.results32 (rvs_cons (rv_tmp rfl) rvs_nil) ?_
    exact ⟨rfl, hst.keep0⟩
  · skip
    replace hm := bif_f hc294 hm
    refine wp_iff (congrArg Value.bool hc294) ?_
    refine wp_skip ?_
    refine then_n ?_
    refine wp_seq ?_
    refine wp_region_lit ?_
    refine wl_val (v := .int .u64 a0) rfl rfl rfl ?_
    refine wl_val (v := .int .u64 (bXor .u64 ((18446744073709551615):Int) a0)) rfl rfl (by kernel_rfl) ?_
    refine wl_val (v := .float .f64 (Int.toNat (bXor .u64 ((18446744073709551615):Int) a0))) rfl rfl (by kernel_rfl) ?_
    refine wl_val (v := .float .f64 (Int.toNat (bXor .u64 ((18446744073709551615):Int) a0))) rfl rfl rfl ?_
    refine wl_nil ?_
    refine then_n ?_
    refine wp_ret ?_
    obtain rfl := some_inj hm
    refine post_ret (vs := [.float .f64 (Int.toNat (bXor .u64 ((18446744073709551615):Int) a0))]) Try.results32 (rvs_cons (rv_tmp rfl) rvs_nil) ?_
    exact ⟨rfl, hst.keep0⟩

theorem octet_Reader_End_ref {w0 w : World} {I : HL} {R : SP} {a0 : octet_Reader} {p0 : Value}  (hst : St w0 w I [at_octet_Reader p0 a0] R) {r : (Bool)} (hm : octet_Reader_End a0 = some r) :
    Calls Try.prog 33 #[p0] w fun e w' => e = .returned (.bool r) ∧ St w0 w' I [at_octet_Reader p0 a0] R := by
  unfold octet_Reader_End at hm
  refine calls_start (args := [p0]) Try.func33 rfl Try.ntmps33 (Nat.le_of_ble_eq_true rfl) ?_
  refine wp_seq ?_
  refine wp_region_lit ?_
  refine wl_val (v := .bool false) rfl rfl rfl ?_
  refine wl_nil ?_
  refine then_n ?_
  refine wp_seq ?_
  refine wp_region_lit ?_
  refine wl_val (v := p0) rfl rfl rfl ?_
  obtain ⟨t536, ht537, hm⟩ := bind_some hm
  refine wl_call rfl rfl (x_call Try.call41 rfl (vs := [p0]) rfl) ?_
  refine (octet_Reader_Bad_ref hst.to1 ht537).mono ?_
  rintro _ w538 ⟨rfl, hst⟩
  refine ⟨_, rfl, ?_⟩
  replace hst := hst.of1
  refine wl_val (v := .bool (!t536)) rfl rfl rfl ?_
  refine wl_val (v := .bool (!t536)) rfl rfl rfl ?_
  refine bsplit (!t536) (fun hc541 => ?_) (fun hc541 => ?_)
  · skip
    replace hm := bif_t hc541 hm
    refine wl_val (v := p0) ((wanted_eq rfl rfl rfl (congrArg Value.bool hc541)).trans rfl) rfl rfl ?_
    obtain ⟨b542, v543, ⟨rfl, f545⟩, hst'⟩ := at_octet_Reader_open hst
    clear hst
    have hst := hst'
    clear hst'
    refine wl_val (v := .pointer (some ⟨b542, 0, none⟩)) ((wanted_eq rfl rfl rfl (congrArg Value.bool hc541)).trans rfl) rfl rfl ?_
    refine wl_val (v := .pointer (some ⟨b542, 0, none⟩)) ((wanted_eq rfl rfl rfl (congrArg Value.bool hc541)).trans rfl) rfl (x_field rfl Try.underlying83 rfl Try.sizeOf23 rfl) ?_
    refine wl_val (v := v543) ((wanted_eq rfl rfl rfl (congrArg Value.bool hc541)).trans rfl) rfl (x_load rfl Try.isAgg23 (hst.bc0 rfl)) ?_
    refine wl_val (v := .int .i64 ((a0.p).length : Int)) ((wanted_eq rfl rfl rfl (congrArg Value.bool hc541)).trans rfl) rfl (x_len rfl Try.underlying23 (ro_sliceV f545)) ?_
    refine wl_val (v := .bool (((a0.p).length : Int) == (0:Int))) ((wanted_eq rfl rfl rfl (congrArg Value.bool hc541)).trans rfl) rfl rfl ?_
    refine wl_val (v := .bool (((a0.p).length : Int) == (0:Int))) rfl rfl (x_pick_t hc541 rfl rfl) ?_
    refine wl_val (v := .bool (((a0.p).length : Int) == (0:Int))) rfl rfl rfl ?_
    refine wl_nil ?_
    refine then_n ?_
    refine wp_ret ?_
    replace hst := at_octet_Reader_close (pv := .pointer (some ⟨b542, 0, none⟩)) (x := a0) hst ⟨rfl, f545⟩
    obtain rfl := some_inj hm
    refine post_ret (vs := [.bool (((a0.p).length : Int) == (0:Int))]) Try.results33 (rvs_cons (rv_tmp rfl) rvs_nil) ?_
    exact ⟨rfl, hst.keep1⟩
  · skip
    replace hm := bif_f hc541 hm
    refine wl_off ((wanted_eq rfl rfl rfl (congrArg Value.bool hc541)).trans rfl) rfl ?_
    refine wl_off ((wanted_eq rfl rfl rfl (congrArg Value.bool hc541)).trans rfl) rfl ?_
    refine wl_off ((wanted_eq rfl rfl rfl (congrArg Value.bool hc541)).trans rfl) rfl ?_
    refine wl_off ((wanted_eq rfl rfl rfl (congrArg Value.bool hc541)).trans rfl) rfl ?_
    refine wl_off ((wanted_eq rfl rfl rfl (congrArg Value.bool hc541)).trans rfl) rfl ?_
    refine wl_off ((wanted_eq rfl rfl rfl (congrArg Value.bool hc541)).trans rfl) rfl ?_
    refine wl_val (v := .bool false) rfl rfl (x_pick_f hc541 rfl rfl) ?_
    refine wl_val (v := .bool false) rfl rfl rfl ?_
    refine wl_nil ?_
    refine then_n ?_
    refine wp_ret ?_
    obtain rfl := some_inj hm
    refine post_ret (vs := [.bool false]) Try.results33 (rvs_cons (rv_tmp rfl) rvs_nil) ?_
    exact ⟨rfl, hst.keep1⟩

theorem slices_Equal_byte_byte_ref {w0 w : World} {I : HL} {R : SP} {a0 : (List Int)} {r0_0 : Value} {a1 : (List Int)} {r1_0 : Value} (f0_0 : Rd (tyInt .u8) R I r0_0 a0) (f1_0 : Rd (tyInt .u8) R I r1_0 a1) (hst : St w0 w I [] R) {r : (Bool)} (hm : slices_Equal_byte_byte a0 a1 = some r) :
    Calls Try.prog 34 #[r0_0, r1_0] w fun e w' => e = .returned (.bool r) ∧ St w0 w' I [] R := by
  unfold slices_Equal_byte_byte at hm
  refine calls_start (args := [r0_0, r1_0]) Try.func34 rfl Try.ntmps34 (Nat.le_of_ble_eq_true rfl) ?_
  refine wp_seq ?_
  refine wp_region_lit ?_
  refine wl_val (v := .bool false) rfl rfl rfl ?_
  refine wl_nil ?_
  refine then_n ?_
  refine wp_seq ?_
  refine wp_seq ?_
  refine wp_region_lit ?_
  refine wl_val (v := r0_0) rfl rfl rfl ?_
  refine wl_val (v := .int .i64 ((a0).length : Int)) rfl rfl (x_len rfl Try.underlying23 (rd_sliceV f0_0)) ?_
  refine wl_val (v := r1_0) rfl rfl rfl ?_
  refine wl_val (v := .int .i64 ((a1).length : Int)) rfl rfl (x_len rfl Try.underlying23 (rd_sliceV f1_0)) ?_
  refine wl_val (v := .bool (((a0).length : Int) != ((a1).length : Int))) rfl rfl rfl ?_
  refine wl_nil ?_
  refine then_n ?_
  refine bsplit (((a0).length : Int) != ((a1).length : Int)) (fun hc588 => ?_) (fun hc588 => ?_)
  · skip
    replace hm := bif_t hc588 hm
    refine wp_ift (congrArg Value.bool hc588) ?_
    refine wp_seq ?_
    refine wp_region_lit ?_
    refine wl_val (v := .bool false) rfl rfl rfl ?_
    refine wl_nil ?_
    refine then_n ?_
    refine wp_ret ?_
    refine then_r ?_
    obtain rfl := some_inj hm
    refine post_ret (vs := [.bool false]) Try.results34 (rvs_cons (rv_tmp rfl) rvs_nil) ?_
    exact ⟨rfl, hst.keep0⟩
  · skip
    replace hm := bif_f hc588 hm
    refine wp_iff (congrArg Value.bool hc588) ?_
    refine wp_skip ?_
    refine then_n ?_
    refine wp_seq ?_
    refine wp_seq ?_
    refine wp_region_lit ?_
    refine wl_val (v := r0_0) rfl rfl rfl ?_
    refine wl_val (v := .int .i64 ((a0).length : Int)) rfl rfl (x_len rfl Try.underlying23 (rd_sliceV f0_0)) ?_
    refine wl_val (v := .int .i64 (0:Int)) rfl rfl rfl ?_
    refine wl_nil ?_
    refine then_n ?_
    refine wp_block ?_
    obtain ⟨n616, hm⟩ := loopO_some hm
    refine wp_loop_n (fun n a w => ∃ (z614 : Int) (σ615 : Nat → Value), loopN (slices_Equal_byte_byte_l0 a0 a1) n z614 = some r ∧ a = Fr 26 (upd (upd (upd (upd σ615 0 (r0_0)) 1 (r1_0)) 12 (.int .i64 ((a0).length : Int))) 13 (.int .i64 z614)) ∧ St w0 w I [] R) n616 ⟨(0:Int), _, hm, ((fr_upd (t := 0) (v := r0_0) rfl).trans ((fr_upd (t := 1) (v := r1_0) rfl).trans ((fr_upd (t := 12) (v := .int .i64 ((a0).length : Int)) rfl).trans ((fr_upd (t := 13) (v := .int .i64 (0:Int)) rfl).trans rfl)))), hst⟩ ?_
    rintro n622 _ w617 ⟨z614, σ615, hm, rfl, hst⟩
    obtain ⟨n619, y620, rfl, hm, hx621⟩ := loopN_some hm
    dsimp only [slices_Equal_byte_byte_l0] at hm
    refine wp_seq ?_
    refine wp_region_lit ?_
    refine wl_val (v := .bool (decide (z614 < ((a0).length : Int)))) rfl rfl rfl ?_
    refine wl_nil ?_
    refine then_n ?_
    refine wp_seq ?_
    refine bsplit (decide (z614 < ((a0).length : Int))) (fun hc623 => ?_) (fun hc623 => ?_)
    · skip
      replace hm := bif_t hc623 hm
      refine wp_ift (congrArg Value.bool hc623) ?_
      refine wp_skip ?_
      refine then_n ?_
      refine wp_seq ?_
      refine wp_block ?_
      refine wp_seq ?_
      refine wp_region_lit ?_
      refine wl_val (v := .int .i64 z614) rfl rfl rfl ?_
      refine wl_val (v := .int .i64 z614) rfl rfl rfl ?_
      refine wl_nil ?_
      refine then_n ?_
      refine wp_seq ?_
      refine wq_regionS hst Try.mixed (by kernel_rfl) ?_
      refine wq_run (v := r0_0) rfl rfl (fun w hst => rfl) ?_
      refine wq_run (v := .int .i64 z614) rfl rfl (fun w hst => rfl) ?_
      obtain ⟨x624, hx625, hm⟩ := bind_some hm
      obtain ⟨h626, h627, hi628⟩ := geto_some hx625
      refine wq_run (v := .pointer (some (eAddr r0_0 (z614.toNat * 1 + 0)))) rfl rfl (fun w hst => x_index rfl rfl Try.underlying23 Try.sizeOf5 (rd_sliceV f0_0) h626 h627) ?_
      refine wq_run (v := .int .u8 x624) rfl rfl (fun w hst => x_load rfl Try.isAgg5 (rd_load f0_0 (HL.le.refl _) hst hi628 (by rintro _ rfl; rfl))) ?_
      refine wq_run (v := r1_0) rfl rfl (fun w hst => rfl) ?_
      refine wq_run (v := .int .i64 z614) rfl rfl (fun w hst => rfl) ?_
      obtain ⟨x629, hx630, hm⟩ := bind_some hm
      obtain ⟨h631, h632, hi633⟩ := geto_some hx630
      refine wq_run (v := .pointer (some (eAddr r1_0 (z614.toNat * 1 + 0)))) rfl rfl (fun w hst => x_index rfl rfl Try.underlying23 Try.sizeOf5 (rd_sliceV f1_0) h631 h632) ?_
      refine wq_run (v := .int .u8 x629) rfl rfl (fun w hst => x_load rfl Try.isAgg5 (rd_load f1_0 (HL.le.refl _) hst hi633 (by rintro _ rfl; rfl))) ?_
      refine wq_run (v := .bool (x624 != x629)) rfl rfl (fun w hst => rfl) ?_
      refine wq_nil ?_
      intro w hst
      refine then_n ?_
      refine bsplit (x624 != x629) (fun hc634 => ?_) (fun hc634 => ?_)
      · skip
        replace hm := bif_t hc634 hm
        refine wp_ift (congrArg Value.bool hc634) ?_
        refine wp_seq ?_
        refine wp_region_lit ?_
        refine wl_val (v := .bool false) rfl rfl rfl ?_
        refine wl_nil ?_
        refine then_n ?_
        refine wp_ret ?_
        refine blk_r ?_
        refine then_r ?_
        refine then_r ?_
        replace hm := inr_up hm hx621
        refine blk_r ?_
        refine then_r ?_
        obtain rfl := some_inj hm
        refine post_ret (vs := [.bool false]) Try.results34 (rvs_cons (rv_tmp rfl) rvs_nil) ?_
        exact ⟨rfl, hst.keep0⟩
      · skip
        replace hm := bif_f hc634 hm
        refine wp_iff (congrArg Value.bool hc634) ?_
        refine wp_skip ?_
        refine blk_n ?_
        refine then_n ?_
        refine wp_region_lit ?_
        refine wl_val (v := .int .i64 (IntKind.i64.wrap (z614 + (1:Int)))) rfl rfl rfl ?_
        refine wl_val (v := .int .i64 (IntKind.i64.wrap (z614 + (1:Int)))) rfl rfl rfl ?_
        refine wl_nil ?_
        refine then_n ?_
        replace hst := hst.keep0
        obtain rfl := some_inj hm
        exact ⟨_, Nat.lt_succ_self _, (IntKind.i64.wrap (z614 + (1:Int))), _, hx621, ((fr_upd (t := 0) (v := r0_0) rfl).trans ((fr_upd (t := 1) (v := r1_0) rfl).trans ((fr_upd (t := 12) (v := .int .i64 ((a0).length : Int)) rfl).trans ((fr_upd (t := 13) (v := .int .i64 (IntKind.i64.wrap (z614 + (1:Int)))) rfl).trans rfl)))), hst⟩
    · skip
      replace hm := bif_f hc623 hm
      refine wp_iff (congrArg Value.bool hc623) ?_
      refine wp_exit ?_
      refine then_x ?_
      refine then_x ?_
      replace hm := inr_up hm hx621
      refine blk_x ?_
      refine then_n ?_
      refine wp_seq ?_
      refine wp_region_lit ?_
      refine wl_val (v := .bool true) rfl rfl rfl ?_
      refine wl_nil ?_
      refine then_n ?_
      refine wp_ret ?_
      obtain rfl := some_inj hm
      refine post_ret (vs := [.bool true]) Try.results34 (rvs_cons (rv_tmp rfl) rvs_nil) ?_
      exact ⟨rfl, hst.keep0⟩

theorem policy_Decode_ref {w0 w : World} {I : HL} {R : SP} {a0 : (List Int)} {r0_0 : Value} (f0_0 : Ro (tyInt .u8) I r0_0 a0) (hst : St w0 w I [] R) {r : (Option policy_Book × Int)} (hm : policy_Decode a0 = some r) :
    Calls Try.prog 21 #[r0_0] w fun e w' => ∃ (q0 : Value), e = .returned (.tuple #[q0, .int .i64 r.2]) ∧ St w0 w' I [objO at_policy_Book q0 r.1] R := by
  unfold policy_Decode at hm
  refine calls_start (args := [r0_0]) Try.func21 rfl Try.ntmps21 (Nat.le_of_ble_eq_true rfl) ?_
  refine wp_seq ?_
  refine wp_region_lit ?_
  refine wl_val (v := .pointer none) rfl rfl rfl ?_
  refine wl_val (v := .int .i64 (0:Int)) rfl rfl rfl ?_
  refine wl_nil ?_
  refine then_n ?_
  refine wp_seq ?_
  refine wp_region_lit ?_
  refine wl_val (v := r0_0) rfl rfl rfl ?_
  obtain ⟨t546, ht547, hm⟩ := bind_some hm
  refine wl_call rfl rfl (x_call Try.call28 rfl (vs := [r0_0]) rfl) ?_
  refine (octet_Read_ref f0_0 hst.to0 ht547).mono ?_
  rintro _ w548 ⟨v551, rfl, hst⟩
  refine ⟨_, rfl, ?_⟩
  replace hst := hst.of1
  refine wl_val (v := v551) rfl rfl rfl ?_
  refine wl_nil ?_
  refine then_n ?_
  refine wp_seq ?_
  refine wp_region_lit ?_
  obtain ⟨t553, ht554, hm⟩ := bind_some hm
  refine wl_call rfl rfl (x_call Try.call9 rfl (vs := []) rfl) ?_
  refine (policy_New_ref hst.to0 ht554).mono ?_
  rintro _ w555 ⟨v558, rfl, hst⟩
  refine ⟨_, rfl, ?_⟩
  replace hst := hst.of1
  refine wl_val (v := v558) rfl rfl rfl ?_
  refine wl_nil ?_
  refine then_n ?_
  obtain ⟨y819, hm, hx820⟩ := bind_some hm
  refine wp_cut (fun a w => ∃ (z815 : octet_Reader) (z816 : policy_Book) (σ817 : Nat → Value), (policy_Decode_j0 a0) (z815, z816) = some r ∧ a = Fr 63 (upd (upd (upd σ817 0 (r0_0)) 4 (v551)) 5 (v558)) ∧ St w0 w I [at_octet_Reader v551 z815, at_policy_Book v558 z816] R) ?_ ?_
  · skip
    refine wp_seq ?_
    refine wp_region_lit ?_
    refine wl_val (v := v551) rfl rfl rfl ?_
    refine wl_val (v := v551) rfl rfl rfl ?_
    replace hst := hst.pull1
    obtain ⟨t560, ht561, hm⟩ := bind_some hm
    refine wl_call rfl rfl (x_call Try.call30 rfl (vs := [v551]) rfl) ?_
    refine (octet_Reader_Left_ref hst.to1 ht561).mono ?_
    rintro _ w562 ⟨rfl, hst⟩
    refine ⟨_, rfl, ?_⟩
    replace hst := hst.of1
    obtain ⟨t565, ht566, hm⟩ := bind_some hm
    refine wl_call rfl rfl (x_call Try.call29 rfl (vs := [v551, .int .i64 t560]) rfl) ?_
    refine (octet_Reader_Count_ref hst.to1 ht566).mono ?_
    rintro _ w567 ⟨rfl, hst⟩
    refine ⟨_, rfl, ?_⟩
    replace hst := hst.of1
    refine wl_val (v := .int .i64 (0:Int)) rfl rfl rfl ?_
    refine wl_nil ?_
    refine then_n ?_
    refine wp_block ?_
    obtain ⟨n731, hm⟩ := loopO_some hm
    refine wp_loop_n (fun n a w => ∃ (z727 : octet_Reader) (z728 : policy_Book) (z729 : Int) (σ730 : Nat → Value), loopN (policy_Decode_l1 t565) n (z727, z728, z729) = some y819 ∧ a = Fr 63 (upd (upd (upd (upd (upd σ730 0 (r0_0)) 4 (v551)) 5 (v558)) 13 (.int .i64 t565.1)) 14 (.int .i64 z729)) ∧ St w0 w I [at_octet_Reader v551 z727, at_policy_Book v558 z728] R) n731 ⟨t565.2, t553, (0:Int), _, hm, ((fr_upd (t := 0) (v := r0_0) rfl).trans ((fr_upd (t := 4) (v := v551) rfl).trans ((fr_upd (t := 5) (v := v558) rfl).trans ((fr_upd (t := 13) (v := .int .i64 t565.1) rfl).trans ((fr_upd (t := 14) (v := .int .i64 (0:Int)) rfl).trans rfl))))), hst⟩ ?_
    rintro n737 _ w732 ⟨z727, z728, z729, σ730, hm, rfl, hst⟩
    obtain ⟨n734, y735, rfl, hm, hx736⟩ := loopN_some hm
    dsimp only [policy_Decode_l1] at hm
    refine wp_seq ?_
    refine wp_region_lit ?_
    refine wl_val (v := .bool (decide (z729 < t565.1))) rfl rfl rfl ?_
    refine wl_nil ?_
    refine then_n ?_
    refine wp_seq ?_
    refine bsplit (decide (z729 < t565.1)) (fun hc738 => ?_) (fun hc738 => ?_)
    · skip
      replace hm := bif_t hc738 hm
      refine wp_ift (congrArg Value.bool hc738) ?_
      refine wp_skip ?_
      refine then_n ?_
      refine wp_seq ?_
      refine wp_block ?_
      refine wp_seq ?_
      refine wp_region_lit ?_
      refine wl_val (v := v551) rfl rfl rfl ?_
      obtain ⟨t739, ht740, hm⟩ := bind_some hm
      refine wl_call rfl rfl (x_call Try.call31 rfl (vs := [v551, .int .i64 (8:Int)]) rfl) ?_
      refine (octet_Reader_Num_ref hst.to1 ht740).mono ?_
      rintro _ w741 ⟨rfl, hst⟩
      refine ⟨_, rfl, ?_⟩
      replace hst := hst.of1
      refine wl_val (v := v551) rfl rfl rfl ?_
      obtain ⟨t744, ht745, hm⟩ := bind_some hm
      refine wl_call rfl rfl (x_call Try.call31 rfl (vs := [v551, .int .i64 (1:Int)]) rfl) ?_
      refine (octet_Reader_Num_ref hst.to1 ht745).mono ?_
      rintro _ w746 ⟨rfl, hst⟩
      refine ⟨_, rfl, ?_⟩
      replace hst := hst.of1
      refine wl_val (v := .int .i64 (IntKind.i64.wrap t744.1)) rfl rfl (by kernel_rfl) ?_
      refine wl_val (v := v551) rfl rfl rfl ?_
      obtain ⟨t749, ht750, hm⟩ := bind_some hm
      refine wl_call rfl rfl (x_call Try.call31 rfl (vs := [v551, .int .i64 (1:Int)]) rfl) ?_
      refine (octet_Reader_Num_ref hst.to1 ht750).mono ?_
      rintro _ w751 ⟨rfl, hst⟩
      refine ⟨_, rfl, ?_⟩
      replace hst := hst.of1
      refine wl_val (v := .int .i64 (IntKind.i64.wrap t749.1)) rfl rfl (by kernel_rfl) ?_
      refine wl_val (v := v551) rfl rfl rfl ?_
      obtain ⟨t754, ht755, hm⟩ := bind_some hm
      refine wl_call rfl rfl (x_call Try.call31 rfl (vs := [v551, .int .i64 (8:Int)]) rfl) ?_
      refine (octet_Reader_Num_ref hst.to1 ht755).mono ?_
      rintro _ w756 ⟨rfl, hst⟩
      refine ⟨_, rfl, ?_⟩
      replace hst := hst.of1
      obtain ⟨t759, ht760, hm⟩ := bind_some hm
      refine wl_call rfl rfl (x_call Try.call32 rfl (vs := [.int .u64 t754.1]) rfl) ?_
      refine (number_Back_ref hst.to0 ht760).mono ?_
      rintro _ w761 ⟨rfl, hst⟩
      refine ⟨_, rfl, ?_⟩
      replace hst := hst.of0
      refine wl_val (v := v551) rfl rfl rfl ?_
      obtain ⟨t764, ht765, hm⟩ := bind_some hm
      refine wl_call rfl rfl (x_call Try.call31 rfl (vs := [v551, .int .i64 (8:Int)]) rfl) ?_
      refine (octet_Reader_Num_ref hst.to1 ht765).mono ?_
      rintro _ w766 ⟨rfl, hst⟩
      refine ⟨_, rfl, ?_⟩
      replace hst := hst.of1
      obtain ⟨t769, ht770, hm⟩ := bind_some hm
      refine wl_call rfl rfl (x_call Try.call32 rfl (vs := [.int .u64 t764.1]) rfl) ?_
      refine (number_Back_ref hst.to0 ht770).mono ?_
      rintro _ w771 ⟨rfl, hst⟩
      refine ⟨_, rfl, ?_⟩
      replace hst := hst.of0
      refine wl_val (v := v551) rfl rfl rfl ?_
      obtain ⟨t774, ht775, hm⟩ := bind_some hm
      refine wl_call rfl rfl (x_call Try.call31 rfl (vs := [v551, .int .i64 (8:Int)]) rfl) ?_
      refine (octet_Reader_Num_ref hst.to1 ht775).mono ?_
      rintro _ w776 ⟨rfl, hst⟩
      refine ⟨_, rfl, ?_⟩
      replace hst := hst.of1
      refine wl_val (v := v551) rfl rfl rfl ?_
      obtain ⟨t779, ht780, hm⟩ := bind_some hm
      refine wl_call rfl rfl (x_call Try.call31 rfl (vs := [v551, .int .i64 (4:Int)]) rfl) ?_
      refine (octet_Reader_Num_ref hst.to1 ht780).mono ?_
      rintro _ w781 ⟨rfl, hst⟩
      refine ⟨_, rfl, ?_⟩
      replace hst := hst.of1
      refine wl_val (v := .int .i64 (IntKind.i64.wrap t779.1)) rfl rfl (by kernel_rfl) ?_
      refine wl_val (v := .agg #[.int .u64 t739.1, .int .i64 (IntKind.i64.wrap t744.1), .int .i64 (IntKind.i64.wrap t749.1), .float .f64 t759, .float .f64 t769, .int .u64 t774.1, .int .i64 (IntKind.i64.wrap t779.1)]) rfl rfl (by kernel_rfl) ?_
      refine wl_val (v := v551) rfl rfl rfl ?_
      obtain ⟨t784, ht785, hm⟩ := bind_some hm
      refine wl_call rfl rfl (x_call Try.call31 rfl (vs := [v551, .int .i64 (8:Int)]) rfl) ?_
      refine (octet_Reader_Num_ref hst.to1 ht785).mono ?_
      rintro _ w786 ⟨rfl, hst⟩
      refine ⟨_, rfl, ?_⟩
      replace hst := hst.of1
      refine wl_val (v := v551) rfl rfl rfl ?_
      obtain ⟨t789, ht790, hm⟩ := bind_some hm
      refine wl_call rfl rfl (x_call Try.call31 rfl (vs := [v551, .int .i64 (8:Int)]) rfl) ?_
      refine (octet_Reader_Num_ref hst.to1 ht790).mono ?_
      rintro _ w791 ⟨rfl, hst⟩
      refine ⟨_, rfl, ?_⟩
      replace hst := hst.of1
      refine wl_val (v := .agg #[.int .u64 t739.1, .int .i64 (IntKind.i64.wrap t744.1), .int .i64 (IntKind.i64.wrap t749.1), .float .f64 t759, .float .f64 t769, .int .u64 t774.1, .int .i64 (IntKind.i64.wrap t779.1), .int .u64 t784.1, .int .u64 t789.1]) rfl rfl (by kernel_rfl) ?_
      obtain ⟨b794, w795, ew796, eb797, hst⟩ := hst.box [.int .u64 (0:Int), .int .i64 (0:Int), .int .i64 (0:Int), .float .f64 (0:Nat), .float .f64 (0:Nat), .int .u64 (0:Int), .int .i64 (0:Int), .int .u64 (0:Int), .int .u64 (0:Int)] 66
      refine wl_run (v := .pointer (some ⟨b794, 0, none⟩)) (w' := w795) rfl rfl (x_al (by kernel_rfl) ew796 eb797) ?_
      obtain ⟨w799, hr800, hst⟩ := hst.boxStore (P := Try.prog) (t := 66) (cs' := [.int .u64 t739.1, .int .i64 (IntKind.i64.wrap t744.1), .int .i64 (IntKind.i64.wrap t749.1), .float .f64 t759, .float .f64 t769, .int .u64 t774.1, .int .i64 (IntKind.i64.wrap t779.1), .int .u64 t784.1, .int .u64 t789.1]) 0 (.agg #[.int .u64 t739.1, .int .i64 (IntKind.i64.wrap t744.1), .int .i64 (IntKind.i64.wrap t749.1), .float .f64 t759, .float .f64 t769, .int .u64 t774.1, .int .i64 (IntKind.i64.wrap t779.1), .int .u64 t784.1, .int .u64 t789.1]) Try.sizeOf66 (Nat.le_of_ble_eq_true rfl) (ones_cons rfl (ones_cons rfl (ones_cons rfl (ones_cons rfl (ones_cons rfl (ones_cons rfl (ones_cons rfl (ones_cons rfl (ones_cons rfl ones_nil))))))))) rfl
      refine wl_unit rfl rfl (x_unit hr800) ?_
      refine wl_nil ?_
      refine then_n ?_
      replace hst := hst.pull2
      obtain ⟨b801, v802, rfl, hst'⟩ := at_policy_Book_open hst
      clear hst
      have hst := hst'
      clear hst'
      refine wp_region_St hst [(0, false), (1, false), (2, false), (3, false), (4, false), (5, false), (6, true), (7, true), (8, false), (9, false), (10, true)] Try.mixed (by kernel_rfl) (by decide) ?_
      refine ws_q (v := .pointer (some ⟨b801, 0, none⟩)) rfl rfl (yi_run rfl (fun w hst => rfl)) ?_
      refine ws_q (v := .pointer (some ⟨b801, 0, none⟩)) rfl rfl (yi_run rfl (fun w hst => rfl)) ?_
      refine ws_q (v := .pointer (some ⟨b801, 0, none⟩)) rfl rfl (yi_run rfl (fun w hst => rfl)) ?_
      refine ws_q (v := .pointer (some ⟨b801, 0, none⟩)) rfl rfl (yi_run rfl (fun w hst => x_field rfl Try.underlying64 rfl Try.sizeOf62 rfl)) ?_
      refine ws_q (v := v802) rfl rfl (yi_run rfl (fun w hst => x_load rfl Try.isAgg62 (hst.bc0 rfl))) ?_
      refine ws_q (v := .agg #[.int .u64 t739.1, .int .i64 (IntKind.i64.wrap t744.1), .int .i64 (IntKind.i64.wrap t749.1), .float .f64 t759, .float .f64 t769, .int .u64 t774.1, .int .i64 (IntKind.i64.wrap t779.1), .int .u64 t784.1, .int .u64 t789.1]) rfl rfl (yi_run rfl (fun w hst => x_loadN (cs := [.int .u64 t739.1, .int .i64 (IntKind.i64.wrap t744.1), .int .i64 (IntKind.i64.wrap t749.1), .float .f64 t759, .float .f64 t769, .int .u64 t774.1, .int .i64 (IntKind.i64.wrap t779.1), .int .u64 t784.1, .int .u64 t789.1]) rfl Try.isAgg66 Try.sizeOf66 (hst.bcs2 0 rfl))) ?_
      refine ws_e rfl rfl ?_
      clear hst
      intro w hst
      obtain ⟨b804, w805, ew806, eb807, hst⟩ := hst.lits (E := ty_policy_line) (xs := [({ r := ({ ID := t739.1, From := (IntKind.i64.wrap t744.1), To := (IntKind.i64.wrap t749.1), Lo := t759, Hi := t769, Authority := t774.1, Quota := (IntKind.i64.wrap t779.1) } : api_Rule), from_ := t784.1, to_ := t789.1 } : policy_line)]) [[.int .u64 t739.1, .int .i64 (IntKind.i64.wrap t744.1), .int .i64 (IntKind.i64.wrap t749.1), .float .f64 t759, .float .f64 t769, .int .u64 t774.1, .int .i64 (IntKind.i64.wrap t779.1), .int .u64 t784.1, .int .u64 t789.1]] 66 1 rfl (Reps.cons rfl Reps.nil)
      refine we_run (v := (.slice (some ⟨b804, 0, none⟩) 1 1)) (w' := w805) rfl (x_als (by kernel_rfl) ew806 eb807) ?_
      refine ws_next (pend' := [(4, v802), (3, .pointer (some ⟨b801, 0, none⟩)), (2, .pointer (some ⟨b801, 0, none⟩)), (1, .pointer (some ⟨b801, 0, none⟩)), (0, .pointer (some ⟨b801, 0, none⟩))]) hst (by kernel_rfl) (pk_cons rfl (yi_run rfl (fun w hst => x_load rfl Try.isAgg62 (hst.bc1 rfl))) (pk_cons rfl (yi_run rfl (fun w hst => x_field rfl Try.underlying64 rfl Try.sizeOf62 rfl)) (pk_cons rfl (yi_run rfl (fun w hst => rfl)) (pk_cons rfl (yi_run rfl (fun w hst => rfl)) (pk_cons rfl (yi_run rfl (fun w hst => rfl)) pk_nil))))) ?_
      refine ws_e rfl rfl ?_
      clear hst
      intro w hst
      obtain ⟨hg809, hm⟩ := gd_some hm
      replace hst := hst.pull2
      obtain ⟨v810, w811, hr812, hst⟩ := run_append elem_62 Try.underlying62 hst hst.src1 (room_of hg809 rfl) 62
      refine we_run (v := v810) (w' := w811) rfl (x_append rfl rfl hr812) ?_
      refine ws_next (pend' := [(0, .pointer (some ⟨b801, 0, none⟩))]) hst (by kernel_rfl) (pk_cons rfl (yi_run rfl (fun w hst => rfl)) pk_nil) ?_
      refine ws_q (v := .pointer (some ⟨b801, 0, none⟩)) rfl rfl (yi_run rfl (fun w hst => rfl)) ?_
      refine ws_q (v := .pointer (some ⟨b801, 0, none⟩)) rfl rfl (yi_run rfl (fun w hst => x_field rfl Try.underlying64 rfl Try.sizeOf62 rfl)) ?_
      refine ws_e rfl rfl ?_
      clear hst
      intro w hst
      replace hst := hst.pull2
      obtain ⟨w813, hr814, hst⟩ := hst.boxStore1 (P := Try.prog) (t := 62) (cs' := [v810]) 0 v810 (one_of_sliceV hst.sv1) Try.sizeOf62 rfl rfl
      refine we_unit rfl (x_unit hr814) ?_
      refine ws_next (pend' := []) hst (by kernel_rfl) pk_nil ?_
      refine ws_nil ?_
      intro w hst
      refine blk_n ?_
      refine then_n ?_
      refine wp_region_lit ?_
      refine wl_val (v := .int .i64 (IntKind.i64.wrap (z729 + (1:Int)))) rfl rfl rfl ?_
      refine wl_val (v := .int .i64 (IntKind.i64.wrap (z729 + (1:Int)))) rfl rfl rfl ?_
      refine wl_nil ?_
      refine then_n ?_
      replace hst := hst.pull1
      replace hst := hst.pull1
      replace hst := at_policy_Book_close (pv := .pointer (some ⟨b801, 0, none⟩)) (x := ({ l := (z728.l ++ ([({ r := ({ ID := t739.1, From := (IntKind.i64.wrap t744.1), To := (IntKind.i64.wrap t749.1), Lo := t759, Hi := t769, Authority := t774.1, Quota := (IntKind.i64.wrap t779.1) } : api_Rule), from_ := t784.1, to_ := t789.1 } : policy_line)])) } : policy_Book)) hst rfl
      replace hst := hst.pull3
      replace hst := hst.keep2
      obtain rfl := some_inj hm
      exact ⟨_, Nat.lt_succ_self _, t789.2, ({ l := (z728.l ++ ([({ r := ({ ID := t739.1, From := (IntKind.i64.wrap t744.1), To := (IntKind.i64.wrap t749.1), Lo := t759, Hi := t769, Authority := t774.1, Quota := (IntKind.i64.wrap t779.1) } : api_Rule), from_ := t784.1, to_ := t789.1 } : policy_line)])) } : policy_Book), (IntKind.i64.wrap (z729 + (1:Int))), _, hx736, ((fr_upd (t := 0) (v := r0_0) rfl).trans ((fr_upd (t := 4) (v := v551) rfl).trans ((fr_upd (t := 5) (v := .pointer (some ⟨b801, 0, none⟩)) rfl).trans ((fr_upd (t := 13) (v := .int .i64 t565.1) rfl).trans ((fr_upd (t := 14) (v := .int .i64 (IntKind.i64.wrap (z729 + (1:Int)))) rfl).trans rfl))))), hst⟩
    · skip
      replace hm := bif_f hc738 hm
      refine wp_iff (congrArg Value.bool hc738) ?_
      refine wp_exit ?_
      refine then_x ?_
      refine then_x ?_
      replace hm := inr_up hm hx736
      refine blk_x ?_
      refine then_n ?_
      replace hst := hst.pull1
      replace hst := hst.pull1
      replace hst := hst.keep2
      obtain rfl := some_inj hm
      exact ⟨z727, z728, _, hx820, ((fr_upd (t := 0) (v := r0_0) rfl).trans ((fr_upd (t := 4) (v := v551) rfl).trans ((fr_upd (t := 5) (v := v558) rfl).trans rfl))), hst⟩
  · skip
    clear hst
    rintro _ w821 ⟨z815, z816, σ817, hm, rfl, hst⟩
    dsimp only [policy_Decode_j0] at hm
    refine wp_seq ?_
    refine wp_seq ?_
    refine wp_region_lit ?_
    refine wl_val (v := v551) rfl rfl rfl ?_
    obtain ⟨t822, ht823, hm⟩ := bind_some hm
    refine wl_call rfl rfl (x_call Try.call33 rfl (vs := [v551]) rfl) ?_
    refine (octet_Reader_End_ref hst.to1 ht823).mono ?_
    rintro _ w824 ⟨rfl, hst⟩
    refine ⟨_, rfl, ?_⟩
    replace hst := hst.of1
    refine wl_val (v := .bool (!t822)) rfl rfl rfl ?_
    refine wl_val (v := .bool (!t822)) rfl rfl rfl ?_
    refine bsplit (!t822) (fun hc827 => ?_) (fun hc827 => ?_)
    · skip
      replace hm := bif_t hc827 hm
      refine wl_off ((wanted_eq rfl rfl rfl (congrArg Value.bool hc827)).trans rfl) rfl ?_
      refine wl_off ((wanted_eq rfl rfl rfl (congrArg Value.bool hc827)).trans rfl) rfl ?_
      refine wl_off ((wanted_eq rfl rfl rfl (congrArg Value.bool hc827)).trans rfl) rfl ?_
      refine wl_off ((wanted_eq rfl rfl rfl (congrArg Value.bool hc827)).trans rfl) rfl ?_
      refine wl_off ((wanted_eq rfl rfl rfl (congrArg Value.bool hc827)).trans rfl) rfl ?_
      refine wl_val (v := .bool true) rfl rfl (x_pick_t hc827 rfl rfl) ?_
      refine wl_nil ?_
      refine then_n ?_
      refine wp_ift rfl ?_
      refine wp_seq ?_
      refine wp_region_lit ?_
      refine wl_val (v := .pointer none) rfl rfl rfl ?_
      refine wl_val (v := .int .i64 (5:Int)) rfl rfl rfl ?_
      refine wl_nil ?_
      refine then_n ?_
      refine wp_ret ?_
      refine then_r ?_
      replace hst := hst.objO_nil at_policy_Book
      obtain rfl := some_inj hm
      refine post_ret (vs := [.pointer none, .int .i64 (5:Int)]) Try.results21 (rvs_cons (rv_tmp rfl) (rvs_cons (rv_tmp rfl) rvs_nil)) ?_
      exact ⟨.pointer none, rfl, hst.keep1⟩
    · skip
      replace hm := bif_f hc827 hm
      refine wl_val (v := v558) ((wanted_eq rfl rfl rfl (congrArg Value.bool hc827)).trans rfl) rfl rfl ?_
      replace hst := hst.pull1
      replace hst := objO_some hst
      obtain ⟨t829, ht830, hm⟩ := bind_some hm
      refine wl_call ((wanted_eq rfl rfl rfl (congrArg Value.bool hc827)).trans rfl) rfl (x_call Try.call22 rfl (vs := [v558]) rfl) ?_
      refine (policy_Book_Encode_ref hst.to1 ht830).mono ?_
      rintro _ w831 ⟨v834, rfl, hst⟩
      refine ⟨_, rfl, ?_⟩
      replace hst := hst.of2
      replace hst := hst.pull1
      replace hst := objO_get hst
      refine wl_val (v := r0_0) ((wanted_eq rfl rfl rfl (congrArg Value.bool hc827)).trans rfl) rfl rfl ?_
      replace hst := hst.pull1
      obtain ⟨css836, hq837, hst⟩ := hst.own_open
      obtain ⟨t838, ht839, hm⟩ := bind_some hm
      refine wl_call ((wanted_eq rfl rfl rfl (congrArg Value.bool hc827)).trans rfl) rfl (x_call Try.call34 rfl (vs := [v834, r0_0]) rfl) ?_
      refine (slices_Equal_byte_byte_ref (hst.rdrow0 hq837) (f0_0.mono ro_rd) hst.to0 ht839).mono ?_
      rintro _ w840 ⟨rfl, hst⟩
      refine ⟨_, rfl, ?_⟩
      replace hst := hst.of0
      replace hst := hst.own_close hq837
      refine wl_val (v := .bool (!t838)) ((wanted_eq rfl rfl rfl (congrArg Value.bool hc827)).trans rfl) rfl rfl ?_
      refine wl_val (v := .bool (!t838)) rfl rfl (x_pick_f hc827 rfl rfl) ?_
      refine wl_nil ?_
      refine then_n ?_
      refine bsplit (!t838) (fun hc843 => ?_) (fun hc843 => ?_)
      · skip
        replace hm := bif_t hc843 hm
        refine wp_ift (congrArg Value.bool hc843) ?_
        refine wp_seq ?_
        refine wp_region_lit ?_
        refine wl_val (v := .pointer none) rfl rfl rfl ?_
        refine wl_val (v := .int .i64 (5:Int)) rfl rfl rfl ?_
        refine wl_nil ?_
        refine then_n ?_
        refine wp_ret ?_
        refine then_r ?_
        replace hst := hst.objO_nil at_policy_Book
        obtain rfl := some_inj hm
        refine post_ret (vs := [.pointer none, .int .i64 (5:Int)]) Try.results21 (rvs_cons (rv_tmp rfl) (rvs_cons (rv_tmp rfl) rvs_nil)) ?_
        exact ⟨.pointer none, rfl, hst.keep1⟩
      · skip
        replace hm := bif_f hc843 hm
        refine wp_iff (congrArg Value.bool hc843) ?_
        refine wp_skip ?_
        refine then_n ?_
        refine wp_seq ?_
        refine wp_region_lit ?_
        refine wl_val (v := v558) rfl rfl rfl ?_
        refine wl_val (v := v558) rfl rfl rfl ?_
        refine wl_val (v := .int .i64 (0:Int)) rfl rfl rfl ?_
        refine wl_nil ?_
        refine then_n ?_
        refine wp_ret ?_
        replace hst := hst.pull1
        replace hst := objO_some hst
        obtain rfl := some_inj hm
        refine post_ret (vs := [v558, .int .i64 (0:Int)]) Try.results21 (rvs_cons (rv_tmp rfl) (rvs_cons (rv_tmp rfl) rvs_nil)) ?_
        exact ⟨v558, rfl, hst.keep1⟩

theorem ref11_At_ref {w0 w : World} {I : HL} {R : SP} {a0 : (List ref11_Line)} {r0_0 : Value} {a1 : Int} {a2 : Int} (f0_0 : Rd ty_ref11_Line R I r0_0 a0) (hst : St w0 w I [] R) {r : (api_Rule × Bool)} (hm : ref11_At a0 a1 a2 = some r) :
    Calls Try.prog 25 #[r0_0, .int .u64 a1, .int .u64 a2] w fun e w' => e = .returned (.tuple #[.agg #[.int .u64 r.1.ID, .int .i64 r.1.From, .int .i64 r.1.To, .float .f64 r.1.Lo, .float .f64 r.1.Hi, .int .u64 r.1.Authority, .int .i64 r.1.Quota], .bool r.2]) ∧ St w0 w' I [] R := by
  unfold ref11_At at hm
  refine calls_start (args := [r0_0, .int .u64 a1, .int .u64 a2]) Try.func25 rfl Try.ntmps25 (Nat.le_of_ble_eq_true rfl) ?_
  refine wp_seq ?_
  refine wp_region_lit ?_
  obtain ⟨b376, w377, ew378, eb379, hst⟩ := hst.box [.int .u64 (0:Int), .int .i64 (0:Int), .int .i64 (0:Int), .float .f64 (0:Nat), .float .f64 (0:Nat), .int .u64 (0:Int), .int .i64 (0:Int)] 30
  refine wl_run (v := .pointer (some ⟨b376, 0, none⟩)) (w' := w377) rfl rfl (x_al (by kernel_rfl) ew378 eb379) ?_
  refine wl_val (v := .bool false) rfl rfl rfl ?_
  refine wl_nil ?_
  refine then_n ?_
  refine wp_seq ?_
  refine wp_region_lit ?_
  refine wl_val (v := .agg #[.int .u64 (0:Int), .int .i64 (0:Int), .int .i64 (0:Int), .float .f64 (0:Nat), .float .f64 (0:Nat), .int .u64 (0:Int), .int .i64 (0:Int)]) rfl rfl (by kernel_rfl) ?_
  obtain ⟨b381, w382, ew383, eb384, hst⟩ := hst.box [.int .u64 (0:Int), .int .i64 (0:Int), .int .i64 (0:Int), .float .f64 (0:Nat), .float .f64 (0:Nat), .int .u64 (0:Int), .int .i64 (0:Int)] 30
  refine wl_run (v := .pointer (some ⟨b381, 0, none⟩)) (w' := w382) rfl rfl (x_al (by kernel_rfl) ew383 eb384) ?_
  obtain ⟨w386, hr387, hst⟩ := hst.boxStore (P := Try.prog) (t := 30) (cs' := [.int .u64 (0:Int), .int .i64 (0:Int), .int .i64 (0:Int), .float .f64 (0:Nat), .float .f64 (0:Nat), .int .u64 (0:Int), .int .i64 (0:Int)]) 0 (.agg #[.int .u64 (0:Int), .int .i64 (0:Int), .int .i64 (0:Int), .float .f64 (0:Nat), .float .f64 (0:Nat), .int .u64 (0:Int), .int .i64 (0:Int)]) Try.sizeOf30 (Nat.le_of_ble_eq_true rfl) (ones_cons rfl (ones_cons rfl (ones_cons rfl (ones_cons rfl (ones_cons rfl (ones_cons rfl (ones_cons rfl ones_nil))))))) rfl
  refine wl_unit rfl rfl (x_unit hr387) ?_
  refine wl_nil ?_
  refine then_n ?_
  refine wp_seq ?_
  refine wp_region_lit ?_
  refine wl_val (v := .bool false) rfl rfl rfl ?_
  refine wl_nil ?_
  refine then_n ?_
  obtain ⟨y466, hm, hx467⟩ := bind_some hm
  refine wp_cut (fun a w => ∃ (z456 : Int) (z457 : Int) (z458 : Int) (z459 : Nat) (z460 : Nat) (z461 : Int) (z462 : Int) (z463 : Bool) (σ464 : Nat → Value), (ref11_At_j0) (z456, z457, z458, z459, z460, z461, z462, z463) = some r ∧ a = Fr 59 (upd (upd (upd σ464 6 (.pointer (some ⟨b376, 0, none⟩))) 8 (.pointer (some ⟨b381, 0, none⟩))) 9 (.bool z463)) ∧ St w0 w I [cells b376 [.int .u64 (0:Int), .int .i64 (0:Int), .int .i64 (0:Int), .float .f64 (0:Nat), .float .f64 (0:Nat), .int .u64 (0:Int), .int .i64 (0:Int)], cells b381 [.int .u64 z456, .int .i64 z457, .int .i64 z458, .float .f64 z459, .float .f64 z460, .int .u64 z461, .int .i64 z462]] R) ?_ ?_
  · skip
    refine wp_seq ?_
    refine wp_region_lit ?_
    refine wl_val (v := .int .i64 (0:Int)) rfl rfl rfl ?_
    refine wl_nil ?_
    refine then_n ?_
    refine wp_block ?_
    obtain ⟨n435, hm⟩ := loopO_some hm
    refine wp_loop_n (fun n a w => ∃ (z425 : Int) (z426 : Int) (z427 : Int) (z428 : Nat) (z429 : Nat) (z430 : Int) (z431 : Int) (z432 : Int) (z433 : Bool) (σ434 : Nat → Value), loopN (ref11_At_l1 a0 a1 a2) n (z425, z426, z427, z428, z429, z430, z431, z432, z433) = some y466 ∧ a = Fr 59 (upd (upd (upd (upd (upd (upd (upd σ434 0 (r0_0)) 1 (.int .u64 a1)) 2 (.int .u64 a2)) 6 (.pointer (some ⟨b376, 0, none⟩))) 8 (.pointer (some ⟨b381, 0, none⟩))) 9 (.bool z433)) 10 (.int .i64 z432)) ∧ St w0 w I [cells b381 [.int .u64 z425, .int .i64 z426, .int .i64 z427, .float .f64 z428, .float .f64 z429, .int .u64 z430, .int .i64 z431], cells b376 [.int .u64 (0:Int), .int .i64 (0:Int), .int .i64 (0:Int), .float .f64 (0:Nat), .float .f64 (0:Nat), .int .u64 (0:Int), .int .i64 (0:Int)]] R) n435 ⟨(0:Int), (0:Int), (0:Int), (0:Nat), (0:Nat), (0:Int), (0:Int), (0:Int), false, _, hm, ((fr_upd (t := 0) (v := r0_0) rfl).trans ((fr_upd (t := 1) (v := .int .u64 a1) rfl).trans ((fr_upd (t := 2) (v := .int .u64 a2) rfl).trans ((fr_upd (t := 6) (v := .pointer (some ⟨b376, 0, none⟩)) rfl).trans ((fr_upd (t := 8) (v := .pointer (some ⟨b381, 0, none⟩)) rfl).trans ((fr_upd (t := 9) (v := .bool false) rfl).trans ((fr_upd (t := 10) (v := .int .i64 (0:Int)) rfl).trans rfl))))))), hst⟩ ?_
    rintro n441 _ w436 ⟨z425, z426, z427, z428, z429, z430, z431, z432, z433, σ434, hm, rfl, hst⟩
    obtain ⟨n438, y439, rfl, hm, hx440⟩ := loopN_some hm
    dsimp only [ref11_At_l1] at hm
    refine wp_seq ?_
    refine wp_seq ?_
    refine wp_region_lit ?_
    refine wl_val (v := .int .i64 z432) rfl rfl rfl ?_
    refine wl_val (v := r0_0) rfl rfl rfl ?_
    refine wl_val (v := .int .i64 ((a0).length : Int)) rfl rfl (x_len rfl Try.underlying42 (rd_sliceV f0_0)) ?_
    refine wl_val (v := .bool (decide (z432 < ((a0).length : Int)))) rfl rfl rfl ?_
    refine wl_nil ?_
    refine then_n ?_
    refine bsplit (decide (z432 < ((a0).length : Int))) (fun hc442 => ?_) (fun hc442 => ?_)
    · skip
      replace hm := bif_t hc442 hm
      refine wp_ift (congrArg Value.bool hc442) ?_
      refine wp_skip ?_
      refine then_n ?_
      refine wp_seq ?_
      refine wp_block ?_
      refine wp_seq ?_
      refine wp_region_lit ?_
      refine wl_val (v := r0_0) rfl rfl rfl ?_
      refine wl_val (v := .int .i64 z432) rfl rfl rfl ?_
      obtain ⟨x443, hx444, hm⟩ := bind_some hm
      obtain ⟨h445, h446, hi447⟩ := geto_some hx444
      refine wl_val (v := .pointer (some (eAddr r0_0 (z432.toNat * 9 + 0)))) rfl rfl (x_index rfl rfl Try.underlying42 Try.sizeOf48 (rd_sliceV f0_0) h445 h446) ?_
      refine wl_val (v := .pointer (some (eAddr r0_0 (z432.toNat * 9 + 0)))) rfl rfl (x_field_e rfl Try.underlying48 rfl Try.sizeOf30 rfl) ?_
      refine wl_val (v := .pointer (some (eAddr r0_0 (z432.toNat * 9 + 0)))) rfl rfl (x_field_e rfl Try.underlying30 rfl Try.sizeOf27 rfl) ?_
      refine wl_val (v := .int .u64 x443.R.ID) rfl rfl (x_load rfl Try.isAgg27 (rd_load f0_0 (HL.le.refl _) hst hi447 (by rintro _ rfl; rfl))) ?_
      refine wl_val (v := .int .u64 a1) rfl rfl rfl ?_
      refine wl_val (v := .bool (x443.R.ID == a1)) rfl rfl rfl ?_
      refine wl_val (v := .bool (x443.R.ID == a1)) rfl rfl rfl ?_
      refine bsplit (x443.R.ID == a1) (fun hc448 => ?_) (fun hc448 => ?_)
      · skip
        replace hm := bif_t hc448 hm
        refine wl_val (v := r0_0) ((wanted_eq rfl rfl rfl (congrArg Value.bool hc448)).trans rfl) rfl rfl ?_
        refine wl_val (v := .int .i64 z432) ((wanted_eq rfl rfl rfl (congrArg Value.bool hc448)).trans rfl) rfl rfl ?_
        refine wl_val (v := .pointer (some (eAddr r0_0 (z432.toNat * 9 + 0)))) ((wanted_eq rfl rfl rfl (congrArg Value.bool hc448)).trans rfl) rfl (x_index rfl rfl Try.underlying42 Try.sizeOf48 (rd_sliceV f0_0) h445 h446) ?_
        refine wl_val (v := .pointer (some (eAddr r0_0 (z432.toNat * 9 + 7)))) ((wanted_eq rfl rfl rfl (congrArg Value.bool hc448)).trans rfl) rfl (x_field_e rfl Try.underlying48 rfl Try.sizeOf27 rfl) ?_
        refine wl_val (v := .int .u64 x443.From) ((wanted_eq rfl rfl rfl (congrArg Value.bool hc448)).trans rfl) rfl (x_load rfl Try.isAgg27 (rd_load f0_0 (HL.le.refl _) hst hi447 (by rintro _ rfl; rfl))) ?_
        refine wl_val (v := .int .u64 a2) ((wanted_eq rfl rfl rfl (congrArg Value.bool hc448)).trans rfl) rfl rfl ?_
        refine wl_val (v := .bool (decide (x443.From ≤ a2))) ((wanted_eq rfl rfl rfl (congrArg Value.bool hc448)).trans rfl) rfl rfl ?_
        refine wl_val (v := .bool (decide (x443.From ≤ a2))) rfl rfl (x_pick_t hc448 rfl rfl) ?_
        refine wl_val (v := .bool (decide (x443.From ≤ a2))) rfl rfl rfl ?_
        refine bsplit (decide (x443.From ≤ a2)) (fun hc449 => ?_) (fun hc449 => ?_)
        · skip
          replace hm := bif_t hc449 hm
          refine wl_val (v := r0_0) ((wanted_eq rfl rfl rfl (congrArg Value.bool hc449)).trans rfl) rfl rfl ?_
          refine wl_val (v := .int .i64 z432) ((wanted_eq rfl rfl rfl (congrArg Value.bool hc449)).trans rfl) rfl rfl ?_
          refine wl_val (v := .pointer (some (eAddr r0_0 (z432.toNat * 9 + 0)))) ((wanted_eq rfl rfl rfl (congrArg Value.bool hc449)).trans rfl) rfl (x_index rfl rfl Try.underlying42 Try.sizeOf48 (rd_sliceV f0_0) h445 h446) ?_
          refine wl_val (v := .pointer (some (eAddr r0_0 (z432.toNat * 9 + 8)))) ((wanted_eq rfl rfl rfl (congrArg Value.bool hc449)).trans rfl) rfl (x_field_e rfl Try.underlying48 rfl Try.sizeOf27 rfl) ?_
          refine wl_val (v := .int .u64 x443.To) ((wanted_eq rfl rfl rfl (congrArg Value.bool hc449)).trans rfl) rfl (x_load rfl Try.isAgg27 (rd_load f0_0 (HL.le.refl _) hst hi447 (by rintro _ rfl; rfl))) ?_
          refine wl_val (v := .bool (x443.To == (0:Int))) ((wanted_eq rfl rfl rfl (congrArg Value.bool hc449)).trans rfl) rfl rfl ?_
          refine wl_val (v := .bool (x443.To == (0:Int))) ((wanted_eq rfl rfl rfl (congrArg Value.bool hc449)).trans rfl) rfl rfl ?_
          refine bsplit (x443.To == (0:Int)) (fun hc450 => ?_) (fun hc450 => ?_)
          · skip
            replace hm := bif_t hc450 hm
            refine wl_off ((wanted_eq rfl rfl rfl (congrArg Value.bool hc450)).trans rfl) rfl ?_
            refine wl_off ((wanted_eq rfl rfl rfl (congrArg Value.bool hc450)).trans rfl) rfl ?_
            refine wl_off ((wanted_eq rfl rfl rfl (congrArg Value.bool hc450)).trans rfl) rfl ?_
            refine wl_off ((wanted_eq rfl rfl rfl (congrArg Value.bool hc450)).trans rfl) rfl ?_
            refine wl_off ((wanted_eq rfl rfl rfl (congrArg Value.bool hc450)).trans rfl) rfl ?_
            refine wl_off ((wanted_eq rfl rfl rfl (congrArg Value.bool hc450)).trans rfl) rfl ?_
            refine wl_off ((wanted_eq rfl rfl rfl (congrArg Value.bool hc450)).trans rfl) rfl ?_
            refine wl_val (v := .bool true) ((wanted_eq rfl rfl rfl (congrArg Value.bool hc449)).trans rfl) rfl (x_pick_t hc450 rfl rfl) ?_
            refine wl_val (v := .bool true) rfl rfl (x_pick_t hc449 rfl rfl) ?_
            refine wl_nil ?_
            refine then_n ?_
            refine wp_ift rfl ?_
            refine wp_seq ?_
            refine wp_region_lit ?_
            refine wl_val (v := r0_0) rfl rfl rfl ?_
            refine wl_val (v := .int .i64 z432) rfl rfl rfl ?_
            refine wl_val (v := .pointer (some (eAddr r0_0 (z432.toNat * 9 + 0)))) rfl rfl (x_index rfl rfl Try.underlying42 Try.sizeOf48 (rd_sliceV f0_0) h445 h446) ?_
            refine wl_val (v := .pointer (some (eAddr r0_0 (z432.toNat * 9 + 0)))) rfl rfl (x_field_e rfl Try.underlying48 rfl Try.sizeOf30 rfl) ?_
            refine wl_val (v := .agg #[.int .u64 x443.R.ID, .int .i64 x443.R.From, .int .i64 x443.R.To, .float .f64 x443.R.Lo, .float .f64 x443.R.Hi, .int .u64 x443.R.Authority, .int .i64 x443.R.Quota]) rfl rfl (x_loadN (cs := [.int .u64 x443.R.ID, .int .i64 x443.R.From, .int .i64 x443.R.To, .float .f64 x443.R.Lo, .float .f64 x443.R.Hi, .int .u64 x443.R.Authority, .int .i64 x443.R.Quota]) rfl Try.isAgg30 Try.sizeOf30 (rd_loadN f0_0 (HL.le.refl _) hst hi447 0 (by rintro _ rfl; rfl))) ?_
            obtain ⟨w451, hr452, hst⟩ := hst.boxStore (P := Try.prog) (t := 30) (cs' := [.int .u64 x443.R.ID, .int .i64 x443.R.From, .int .i64 x443.R.To, .float .f64 x443.R.Lo, .float .f64 x443.R.Hi, .int .u64 x443.R.Authority, .int .i64 x443.R.Quota]) 0 (.agg #[.int .u64 x443.R.ID, .int .i64 x443.R.From, .int .i64 x443.R.To, .float .f64 x443.R.Lo, .float .f64 x443.R.Hi, .int .u64 x443.R.Authority, .int .i64 x443.R.Quota]) Try.sizeOf30 (Nat.le_of_ble_eq_true rfl) (ones_cons rfl (ones_cons rfl (ones_cons rfl (ones_cons rfl (ones_cons rfl (ones_cons rfl (ones_cons rfl ones_nil))))))) rfl
            refine wl_unit rfl rfl (x_unit hr452) ?_
            refine wl_nil ?_
            refine then_n ?_
            refine wp_region_lit ?_
            refine wl_val (v := .bool true) rfl rfl rfl ?_
            refine wl_nil ?_
            refine blk_n ?_
            refine then_n ?_
            refine wp_region_lit ?_
            refine wl_val (v := .int .i64 z432) rfl rfl rfl ?_
            refine wl_val (v := .int .i64 (IntKind.i64.wrap (z432 + (1:Int)))) rfl rfl rfl ?_
            refine wl_val (v := .int .i64 (IntKind.i64.wrap (z432 + (1:Int)))) rfl rfl rfl ?_
            refine wl_nil ?_
            refine then_n ?_
            replace hst := hst.pull1
            replace hst := hst.pull1
            replace hst := hst.keep2
            obtain rfl := some_inj hm
            exact ⟨_, Nat.lt_succ_self _, x443.R.ID, x443.R.From, x443.R.To, x443.R.Lo, x443.R.Hi, x443.R.Authority, x443.R.Quota, (IntKind.i64.wrap (z432 + (1:Int))), true, _, hx440, ((fr_upd (t := 0) (v := r0_0) rfl).trans ((fr_upd (t := 1) (v := .int .u64 a1) rfl).trans ((fr_upd (t := 2) (v := .int .u64 a2) rfl).trans ((fr_upd (t := 6) (v := .pointer (some ⟨b376, 0, none⟩)) rfl).trans ((fr_upd (t := 8) (v := .pointer (some ⟨b381, 0, none⟩)) rfl).trans ((fr_upd (t := 9) (v := .bool true) rfl).trans ((fr_upd (t := 10) (v := .int .i64 (IntKind.i64.wrap (z432 + (1:Int)))) rfl).trans rfl))))))), hst⟩
          · skip
            replace hm := bif_f hc450 hm
            refine wl_val (v := .int .u64 a2) ((wanted_eq rfl rfl rfl (congrArg Value.bool hc450)).trans rfl) rfl rfl ?_
            refine wl_val (v := r0_0) ((wanted_eq rfl rfl rfl (congrArg Value.bool hc450)).trans rfl) rfl rfl ?_
            refine wl_val (v := .int .i64 z432) ((wanted_eq rfl rfl rfl (congrArg Value.bool hc450)).trans rfl) rfl rfl ?_
            refine wl_val (v := .pointer (some (eAddr r0_0 (z432.toNat * 9 + 0)))) ((wanted_eq rfl rfl rfl (congrArg Value.bool hc450)).trans rfl) rfl (x_index rfl rfl Try.underlying42 Try.sizeOf48 (rd_sliceV f0_0) h445 h446) ?_
            refine wl_val (v := .pointer (some (eAddr r0_0 (z432.toNat * 9 + 8)))) ((wanted_eq rfl rfl rfl (congrArg Value.bool hc450)).trans rfl) rfl (x_field_e rfl Try.underlying48 rfl Try.sizeOf27 rfl) ?_
            refine wl_val (v := .int .u64 x443.To) ((wanted_eq rfl rfl rfl (congrArg Value.bool hc450)).trans rfl) rfl (x_load rfl Try.isAgg27 (rd_load f0_0 (HL.le.refl _) hst hi447 (by rintro _ rfl; rfl))) ?_
            refine wl_val (v := .bool (decide (a2 < x443.To))) ((wanted_eq rfl rfl rfl (congrArg Value.bool hc450)).trans rfl) rfl rfl ?_
            refine wl_val (v := .bool (decide (a2 < x443.To))) ((wanted_eq rfl rfl rfl (congrArg Value.bool hc449)).trans rfl) rfl (x_pick_f hc450 rfl rfl) ?_
            refine wl_val (v := .bool (decide (a2 < x443.To))) rfl rfl (x_pick_t hc449 rfl rfl) ?_
            refine wl_nil ?_
            refine then_n ?_
            refine bsplit (decide (a2 < x443.To)) (fun hc453 => ?_) (fun hc453 => ?_)
            · skip
              replace hm := bif_t hc453 hm
              refine wp_ift (congrArg Value.bool hc453) ?_
              refine wp_seq ?_
              refine wp_region_lit ?_
              refine wl_val (v := r0_0) rfl rfl rfl ?_
              refine wl_val (v := .int .i64 z432) rfl rfl rfl ?_
              refine wl_val (v := .pointer (some (eAddr r0_0 (z432.toNat * 9 + 0)))) rfl rfl (x_index rfl rfl Try.underlying42 Try.sizeOf48 (rd_sliceV f0_0) h445 h446) ?_
              refine wl_val (v := .pointer (some (eAddr r0_0 (z432.toNat * 9 + 0)))) rfl rfl (x_field_e rfl Try.underlying48 rfl Try.sizeOf30 rfl) ?_
              refine wl_val (v := .agg #[.int .u64 x443.R.ID, .int .i64 x443.R.From, .int .i64 x443.R.To, .float .f64 x443.R.Lo, .float .f64 x443.R.Hi, .int .u64 x443.R.Authority, .int .i64 x443.R.Quota]) rfl rfl (x_loadN (cs := [.int .u64 x443.R.ID, .int .i64 x443.R.From, .int .i64 x443.R.To, .float .f64 x443.R.Lo, .float .f64 x443.R.Hi, .int .u64 x443.R.Authority, .int .i64 x443.R.Quota]) rfl Try.isAgg30 Try.sizeOf30 (rd_loadN f0_0 (HL.le.refl _) hst hi447 0 (by rintro _ rfl; rfl))) ?_
              obtain ⟨w454, hr455, hst⟩ := hst.boxStore (P := Try.prog) (t := 30) (cs' := [.int .u64 x443.R.ID, .int .i64 x443.R.From, .int .i64 x443.R.To, .float .f64 x443.R.Lo, .float .f64 x443.R.Hi, .int .u64 x443.R.Authority, .int .i64 x443.R.Quota]) 0 (.agg #[.int .u64 x443.R.ID, .int .i64 x443.R.From, .int .i64 x443.R.To, .float .f64 x443.R.Lo, .float .f64 x443.R.Hi, .int .u64 x443.R.Authority, .int .i64 x443.R.Quota]) Try.sizeOf30 (Nat.le_of_ble_eq_true rfl) (ones_cons rfl (ones_cons rfl (ones_cons rfl (ones_cons rfl (ones_cons rfl (ones_cons rfl (ones_cons rfl ones_nil))))))) rfl
              refine wl_unit rfl rfl (x_unit hr455) ?_
              refine wl_nil ?_
              refine then_n ?_
              refine wp_region_lit ?_
              refine wl_val (v := .bool true) rfl rfl rfl ?_
              refine wl_nil ?_
              refine blk_n ?_
              refine then_n ?_
              refine wp_region_lit ?_
              refine wl_val (v := .int .i64 z432) rfl rfl rfl ?_
              refine wl_val (v := .int .i64 (IntKind.i64.wrap (z432 + (1:Int)))) rfl rfl rfl ?_
              refine wl_val (v := .int .i64 (IntKind.i64.wrap (z432 + (1:Int)))) rfl rfl rfl ?_
              refine wl_nil ?_
              refine then_n ?_
              replace hst := hst.pull1
              replace hst := hst.pull1
              replace hst := hst.keep2
              obtain rfl := some_inj hm
              exact ⟨_, Nat.lt_succ_self _, x443.R.ID, x443.R.From, x443.R.To, x443.R.Lo, x443.R.Hi, x443.R.Authority, x443.R.Quota, (IntKind.i64.wrap (z432 + (1:Int))), true, _, hx440, ((fr_upd (t := 0) (v := r0_0) rfl).trans ((fr_upd (t := 1) (v := .int .u64 a1) rfl).trans ((fr_upd (t := 2) (v := .int .u64 a2) rfl).trans ((fr_upd (t := 6) (v := .pointer (some ⟨b376, 0, none⟩)) rfl).trans ((fr_upd (t := 8) (v := .pointer (some ⟨b381, 0, none⟩)) rfl).trans ((fr_upd (t := 9) (v := .bool true) rfl).trans ((fr_upd (t := 10) (v := .int .i64 (IntKind.i64.wrap (z432 + (1:Int)))) rfl).trans rfl))))))), hst⟩
            · skip
              replace hm := bif_f hc453 hm
              refine wp_iff (congrArg Value.bool hc453) ?_
              refine wp_skip ?_
              refine blk_n ?_
              refine then_n ?_
              refine wp_region_lit ?_
              refine wl_val (v := .int .i64 z432) rfl rfl rfl ?_
              refine wl_val (v := .int .i64 (IntKind.i64.wrap (z432 + (1:Int)))) rfl rfl rfl ?_
              refine wl_val (v := .int .i64 (IntKind.i64.wrap (z432 + (1:Int)))) rfl rfl rfl ?_
              refine wl_nil ?_
              refine then_n ?_
              replace hst := hst.pull1
              replace hst := hst.pull1
              replace hst := hst.keep2
              obtain rfl := some_inj hm
              exact ⟨_, Nat.lt_succ_self _, z425, z426, z427, z428, z429, z430, z431, (IntKind.i64.wrap (z432 + (1:Int))), z433, _, hx440, ((fr_upd (t := 0) (v := r0_0) rfl).trans ((fr_upd (t := 1) (v := .int .u64 a1) rfl).trans ((fr_upd (t := 2) (v := .int .u64 a2) rfl).trans ((fr_upd (t := 6) (v := .pointer (some ⟨b376, 0, none⟩)) rfl).trans ((fr_upd (t := 8) (v := .pointer (some ⟨b381, 0, none⟩)) rfl).trans ((fr_upd (t := 9) (v := .bool z433) rfl).trans ((fr_upd (t := 10) (v := .int .i64 (IntKind.i64.wrap (z432 + (1:Int)))) rfl).trans rfl))))))), hst⟩
        · skip
          replace hm := bif_f hc449 hm
          refine wl_off ((wanted_eq rfl rfl rfl (congrArg Value.bool hc449)).trans rfl) rfl ?_
          refine wl_off ((wanted_eq rfl rfl rfl (congrArg Value.bool hc449)).trans rfl) rfl ?_
          refine wl_off ((wanted_eq rfl rfl rfl (congrArg Value.bool hc449)).trans rfl) rfl ?_
          refine wl_off ((wanted_eq rfl rfl rfl (congrArg Value.bool hc449)).trans rfl) rfl ?_
          refine wl_off ((wanted_eq rfl rfl rfl (congrArg Value.bool hc449)).trans rfl) rfl ?_
          refine wl_off ((wanted_eq rfl rfl rfl (congrArg Value.bool hc449)).trans rfl) rfl ?_
          refine wl_off ((wanted_eq rfl rfl rfl (congrArg Value.bool hc449)).trans rfl) rfl ?_
          refine wl_off (wanted_undef rfl rfl rfl rfl) rfl ?_
          refine wl_off (wanted_undef rfl rfl rfl rfl) rfl ?_
          refine wl_off (wanted_undef rfl rfl rfl rfl) rfl ?_
          refine wl_off (wanted_undef rfl rfl rfl rfl) rfl ?_
          refine wl_off (wanted_undef rfl rfl rfl rfl) rfl ?_
          refine wl_off (wanted_undef rfl rfl rfl rfl) rfl ?_
          refine wl_off (wanted_undef rfl rfl rfl rfl) rfl ?_
          refine wl_off ((wanted_eq rfl rfl rfl (congrArg Value.bool hc449)).trans rfl) rfl ?_
          refine wl_val (v := .bool false) rfl rfl (x_pick_f hc449 rfl rfl) ?_
          refine wl_nil ?_
          refine then_n ?_
          refine wp_iff rfl ?_
          refine wp_skip ?_
          refine blk_n ?_
          refine then_n ?_
          refine wp_region_lit ?_
          refine wl_val (v := .int .i64 z432) rfl rfl rfl ?_
          refine wl_val (v := .int .i64 (IntKind.i64.wrap (z432 + (1:Int)))) rfl rfl rfl ?_
          refine wl_val (v := .int .i64 (IntKind.i64.wrap (z432 + (1:Int)))) rfl rfl rfl ?_
          refine wl_nil ?_
          refine then_n ?_
          replace hst := hst.pull1
          replace hst := hst.pull1
          replace hst := hst.keep2
          obtain rfl := some_inj hm
          exact ⟨_, Nat.lt_succ_self _, z425, z426, z427, z428, z429, z430, z431, (IntKind.i64.wrap (z432 + (1:Int))), z433, _, hx440, ((fr_upd (t := 0) (v := r0_0) rfl).trans ((fr_upd (t := 1) (v := .int .u64 a1) rfl).trans ((fr_upd (t := 2) (v := .int .u64 a2) rfl).trans ((fr_upd (t := 6) (v := .pointer (some ⟨b376, 0, none⟩)) rfl).trans ((fr_upd (t := 8) (v := .pointer (some ⟨b381, 0, none⟩)) rfl).trans ((fr_upd (t := 9) (v := .bool z433) rfl).trans ((fr_upd (t := 10) (v := .int .i64 (IntKind.i64.wrap (z432 + (1:Int)))) rfl).trans rfl))))))), hst⟩
      · skip
        replace hm := bif_f hc448 hm
        refine wl_off ((wanted_eq rfl rfl rfl (congrArg Value.bool hc448)).trans rfl) rfl ?_
        refine wl_off ((wanted_eq rfl rfl rfl (congrArg Value.bool hc448)).trans rfl) rfl ?_
        refine wl_off ((wanted_eq rfl rfl rfl (congrArg Value.bool hc448)).trans rfl) rfl ?_
        refine wl_off ((wanted_eq rfl rfl rfl (congrArg Value.bool hc448)).trans rfl) rfl ?_
        refine wl_off ((wanted_eq rfl rfl rfl (congrArg Value.bool hc448)).trans rfl) rfl ?_
        refine wl_off ((wanted_eq rfl rfl rfl (congrArg Value.bool hc448)).trans rfl) rfl ?_
        refine wl_off ((wanted_eq rfl rfl rfl (congrArg Value.bool hc448)).trans rfl) rfl ?_
        refine wl_val (v := .bool false) rfl rfl (x_pick_f hc448 rfl rfl) ?_
        refine wl_val (v := .bool false) rfl rfl rfl ?_
        refine wl_off ((wanted_eq rfl rfl rfl rfl).trans rfl) rfl ?_
        refine wl_off ((wanted_eq rfl rfl rfl rfl).trans rfl) rfl ?_
        refine wl_off ((wanted_eq rfl rfl rfl rfl).trans rfl) rfl ?_
        refine wl_off ((wanted_eq rfl rfl rfl rfl).trans rfl) rfl ?_
        refine wl_off ((wanted_eq rfl rfl rfl rfl).trans rfl) rfl ?_
        refine wl_off ((wanted_eq rfl rfl rfl rfl).trans rfl) rfl ?_
        refine wl_off ((wanted_eq rfl rfl rfl rfl).trans rfl) rfl ?_
        refine wl_off (wanted_undef rfl rfl rfl rfl) rfl ?_
        refine wl_off (wanted_undef rfl rfl rfl rfl) rfl ?_
        refine wl_off (wanted_undef rfl rfl rfl rfl) rfl ?_
        refine wl_off (wanted_undef rfl rfl rfl rfl) rfl ?_
        refine wl_off (wanted_undef rfl rfl rfl rfl) rfl ?_
        refine wl_off (wanted_undef rfl rfl rfl rfl) rfl ?_
        refine wl_off (wanted_undef rfl rfl rfl rfl) rfl ?_
        refine wl_off ((wanted_eq rfl rfl rfl rfl).trans rfl) rfl ?_
        refine wl_val (v := .bool false) rfl rfl (x_pick_f rfl rfl rfl) ?_
        refine wl_nil ?_
        refine then_n ?_
        refine wp_iff rfl ?_
        refine wp_skip ?_
        refine blk_n ?_
        refine then_n ?_
        refine wp_region_lit ?_
        refine wl_val (v := .int .i64 z432) rfl rfl rfl ?_
        refine wl_val (v := .int .i64 (IntKind.i64.wrap (z432 + (1:Int)))) rfl rfl rfl ?_
        refine wl_val (v := .int .i64 (IntKind.i64.wrap (z432 + (1:Int)))) rfl rfl rfl ?_
        refine wl_nil ?_
        refine then_n ?_
        replace hst := hst.pull1
        replace hst := hst.pull1
        replace hst := hst.keep2
        obtain rfl := some_inj hm
        exact ⟨_, Nat.lt_succ_self _, z425, z426, z427, z428, z429, z430, z431, (IntKind.i64.wrap (z432 + (1:Int))), z433, _, hx440, ((fr_upd (t := 0) (v := r0_0) rfl).trans ((fr_upd (t := 1) (v := .int .u64 a1) rfl).trans ((fr_upd (t := 2) (v := .int .u64 a2) rfl).trans ((fr_upd (t := 6) (v := .pointer (some ⟨b376, 0, none⟩)) rfl).trans ((fr_upd (t := 8) (v := .pointer (some ⟨b381, 0, none⟩)) rfl).trans ((fr_upd (t := 9) (v := .bool z433) rfl).trans ((fr_upd (t := 10) (v := .int .i64 (IntKind.i64.wrap (z432 + (1:Int)))) rfl).trans rfl))))))), hst⟩
    · skip
      replace hm := bif_f hc442 hm
      refine wp_iff (congrArg Value.bool hc442) ?_
      refine wp_exit ?_
      refine then_x ?_
      refine then_x ?_
      replace hm := inr_up hm hx440
      refine blk_x ?_
      refine then_n ?_
      replace hst := hst.pull1
      replace hst := hst.keep2
      obtain rfl := some_inj hm
      exact ⟨z425, z426, z427, z428, z429, z430, z431, z433, _, hx467, ((fr_upd (t := 6) (v := .pointer (some ⟨b376, 0, none⟩)) rfl).trans ((fr_upd (t := 8) (v := .pointer (some ⟨b381, 0, none⟩)) rfl).trans ((fr_upd (t := 9) (v := .bool z433) rfl).trans rfl))), hst⟩
  · skip
    clear hst
    rintro _ w468 ⟨z456, z457, z458, z459, z460, z461, z462, z463, σ464, hm, rfl, hst⟩
    dsimp only [ref11_At_j0] at hm
    refine wp_seq ?_
    refine wp_region_lit ?_
    refine wl_val (v := .agg #[.int .u64 z456, .int .i64 z457, .int .i64 z458, .float .f64 z459, .float .f64 z460, .int .u64 z461, .int .i64 z462]) rfl rfl (x_loadN (cs := [.int .u64 z456, .int .i64 z457, .int .i64 z458, .float .f64 z459, .float .f64 z460, .int .u64 z461, .int .i64 z462]) rfl Try.isAgg30 Try.sizeOf30 (hst.bcs1 0 rfl)) ?_
    refine wl_val (v := .bool z463) rfl rfl rfl ?_
    obtain ⟨w469, hr470, hst⟩ := hst.boxStore (P := Try.prog) (t := 30) (cs' := [.int .u64 z456, .int .i64 z457, .int .i64 z458, .float .f64 z459, .float .f64 z460, .int .u64 z461, .int .i64 z462]) 0 (.agg #[.int .u64 z456, .int .i64 z457, .int .i64 z458, .float .f64 z459, .float .f64 z460, .int .u64 z461, .int .i64 z462]) Try.sizeOf30 (Nat.le_of_ble_eq_true rfl) (ones_cons rfl (ones_cons rfl (ones_cons rfl (ones_cons rfl (ones_cons rfl (ones_cons rfl (ones_cons rfl ones_nil))))))) rfl
    refine wl_unit rfl rfl (x_unit hr470) ?_
    refine wl_val (v := .bool z463) rfl rfl rfl ?_
    refine wl_nil ?_
    refine then_n ?_
    refine wp_ret ?_
    obtain rfl := some_inj hm
    refine post_ret (vs := [.agg #[.int .u64 z456, .int .i64 z457, .int .i64 z458, .float .f64 z459, .float .f64 z460, .int .u64 z461, .int .i64 z462], .bool z463]) Try.results25 (rvs_cons (rv_cell (cs := [.int .u64 z456, .int .i64 z457, .int .i64 z458, .float .f64 z459, .float .f64 z460, .int .u64 z461, .int .i64 z462]) rfl Try.isAgg30 Try.sizeOf30 (hst.bcs0 0 rfl)) (rvs_cons (rv_tmp rfl) rvs_nil)) ?_
    exact ⟨rfl, hst.keep0⟩

theorem math_Signbit_ref {w0 w : World} {I : HL} {R : SP} {a0 : Nat}  (hst : St w0 w I [] R) {r : (Bool)} (hm : math_Signbit a0 = some r) :
    Calls Try.prog 39 #[.float .f64 a0] w fun e w' => e = .returned (.bool r) ∧ St w0 w' I [] R := by
  unfold math_Signbit at hm
  refine calls_start (args := [.float .f64 a0]) Try.func39 rfl Try.ntmps39 (Nat.le_of_ble_eq_true rfl) ?_
  refine wp_seq ?_
  refine wp_region_lit ?_
  refine wl_val (v := .bool false) rfl rfl rfl ?_
  refine wl_nil ?_
  refine then_n ?_
  refine wp_seq ?_
  refine wp_region_lit ?_
  refine wl_val (v := .float .f64 a0) rfl rfl rfl ?_
  refine wl_val (v := .int .u64 (Int.ofNat a0)) rfl rfl (by kernel_rfl) ?_
  refine wl_val (v := .int .i64 (IntKind.i64.wrap (Int.ofNat a0))) rfl rfl (by kernel_rfl) ?_
  refine wl_val (v := .bool (decide ((IntKind.i64.wrap (Int.ofNat a0)) < (0:Int)))) rfl rfl rfl ?_
  refine wl_val (v := .bool (decide ((IntKind.i64.wrap (Int.ofNat a0)) < (0:Int)))) rfl rfl rfl ?_
  refine wl_nil ?_
  refine then_n ?_
  refine wp_ret ?_
  obtain rfl := some_inj hm
  refine post_ret (vs := [.bool (decide ((IntKind.i64.wrap (Int.ofNat a0)) < (0:Int)))]) Try.results39 (rvs_cons (rv_tmp rfl) rvs_nil) ?_
  exact ⟨rfl, hst.keep0⟩

theorem ref01_Ahead_ref {w0 w : World} {I : HL} {R : SP} {a0 : Nat} {a1 : Nat}  (hst : St w0 w I [] R) {r : (Bool)} (hm : ref01_Ahead a0 a1 = some r) :
    Calls Try.prog 26 #[.float .f64 a0, .float .f64 a1] w fun e w' => e = .returned (.bool r) ∧ St w0 w' I [] R := by
  unfold ref01_Ahead at hm
  refine calls_start (args := [.float .f64 a0, .float .f64 a1]) Try.func26 rfl Try.ntmps26 (Nat.le_of_ble_eq_true rfl) ?_
  refine wp_seq ?_
  refine wp_region_lit ?_
  refine wl_val (v := .bool false) rfl rfl rfl ?_
  refine wl_nil ?_
  refine then_n ?_
  refine wp_seq ?_
  refine wp_seq ?_
  refine wp_region_lit ?_
  refine wl_val (v := .float .f64 a0) rfl rfl rfl ?_
  refine wl_val (v := .float .f64 a0) rfl rfl rfl ?_
  refine wl_val (v := .bool (fNe a0 a0)) rfl rfl rfl ?_
  refine wl_nil ?_
  refine then_n ?_
  refine bsplit (fNe a0 a0) (fun hc325 => ?_) (fun hc325 => ?_)
  · skip
    replace hm := bif_t hc325 hm
    refine wp_ift (congrArg Value.bool hc325) ?_
    refine wp_seq ?_
    refine wp_region_lit ?_
    refine wl_val (v := .bool false) rfl rfl rfl ?_
    refine wl_nil ?_
    refine then_n ?_
    refine wp_ret ?_
    refine then_r ?_
    obtain rfl := some_inj hm
    refine post_ret (vs := [.bool false]) Try.results26 (rvs_cons (rv_tmp rfl) rvs_nil) ?_
    exact ⟨rfl, hst.keep0⟩
  · skip
    replace hm := bif_f hc325 hm
    refine wp_iff (congrArg Value.bool hc325) ?_
    refine wp_skip ?_
    refine then_n ?_
    refine wp_seq ?_
    refine wp_seq ?_
    refine wp_region_lit ?_
    refine wl_val (v := .float .f64 a1) rfl rfl rfl ?_
    refine wl_val (v := .float .f64 a1) rfl rfl rfl ?_
    refine wl_val (v := .bool (fNe a1 a1)) rfl rfl rfl ?_
    refine wl_nil ?_
    refine then_n ?_
    refine bsplit (fNe a1 a1) (fun hc326 => ?_) (fun hc326 => ?_)
    · skip
      replace hm := bif_t hc326 hm
      refine wp_ift (congrArg Value.bool hc326) ?_
      refine wp_seq ?_
      refine wp_region_lit ?_
      refine wl_val (v := .bool true) rfl rfl rfl ?_
      refine wl_nil ?_
      refine then_n ?_
      refine wp_ret ?_
      refine then_r ?_
      obtain rfl := some_inj hm
      refine post_ret (vs := [.bool true]) Try.results26 (rvs_cons (rv_tmp rfl) rvs_nil) ?_
      exact ⟨rfl, hst.keep0⟩
    · skip
      replace hm := bif_f hc326 hm
      refine wp_iff (congrArg Value.bool hc326) ?_
      refine wp_skip ?_
      refine then_n ?_
      obtain ⟨y342, hm, hx343⟩ := joinO_some hm
      refine wp_cut (fun a w => ∃ (σ340 : Nat → Value), (ref01_Ahead_j0 a0 a1) () = some r ∧ a = Fr 27 (upd (upd σ340 0 (.float .f64 a0)) 1 (.float .f64 a1)) ∧ St w0 w I [] R) ?_ ?_
      · skip
        refine wp_seq ?_
        refine wp_region_lit ?_
        refine wl_val (v := .float .f64 a0) rfl rfl rfl ?_
        refine wl_val (v := .bool (fEq a0 (0:Nat))) rfl rfl rfl ?_
        refine wl_val (v := .bool (fEq a0 (0:Nat))) rfl rfl rfl ?_
        refine bsplit (fEq a0 (0:Nat)) (fun hc327 => ?_) (fun hc327 => ?_)
        · skip
          replace hm := bif_t hc327 hm
          refine wl_val (v := .float .f64 a1) ((wanted_eq rfl rfl rfl (congrArg Value.bool hc327)).trans rfl) rfl rfl ?_
          refine wl_val (v := .bool (fEq a1 (0:Nat))) ((wanted_eq rfl rfl rfl (congrArg Value.bool hc327)).trans rfl) rfl rfl ?_
          refine wl_val (v := .bool (fEq a1 (0:Nat))) rfl rfl (x_pick_t hc327 rfl rfl) ?_
          refine wl_nil ?_
          refine then_n ?_
          refine bsplit (fEq a1 (0:Nat)) (fun hc328 => ?_) (fun hc328 => ?_)
          · skip
            replace hm := bif_t hc328 hm
            refine wp_ift (congrArg Value.bool hc328) ?_
            refine wp_seq ?_
            refine wp_region_lit ?_
            refine wl_val (v := .float .f64 a0) rfl rfl rfl ?_
            obtain ⟨t329, ht330, hm⟩ := bind_some hm
            refine wl_call rfl rfl (x_call Try.call39 rfl (vs := [.float .f64 a0]) rfl) ?_
            refine (math_Signbit_ref hst.to0 ht330).mono ?_
            rintro _ w331 ⟨rfl, hst⟩
            refine ⟨_, rfl, ?_⟩
            replace hst := hst.of0
            refine wl_val (v := .bool t329) rfl rfl rfl ?_
            refine bsplit t329 (fun hc334 => ?_) (fun hc334 => ?_)
            · skip
              replace hm := bif_t hc334 hm
              refine wl_val (v := .float .f64 a1) ((wanted_eq rfl rfl rfl (congrArg Value.bool hc334)).trans rfl) rfl rfl ?_
              obtain ⟨t335, ht336, hm⟩ := bind_some hm
              refine wl_call ((wanted_eq rfl rfl rfl (congrArg Value.bool hc334)).trans rfl) rfl (x_call Try.call39 rfl (vs := [.float .f64 a1]) rfl) ?_
              refine (math_Signbit_ref hst.to0 ht336).mono ?_
              rintro _ w337 ⟨rfl, hst⟩
              refine ⟨_, rfl, ?_⟩
              replace hst := hst.of0
              refine wl_val (v := .bool (!t335)) ((wanted_eq rfl rfl rfl (congrArg Value.bool hc334)).trans rfl) rfl rfl ?_
              refine wl_val (v := .bool (!t335)) rfl rfl (x_pick_t hc334 rfl rfl) ?_
              refine wl_val (v := .bool (!t335)) rfl rfl rfl ?_
              refine wl_nil ?_
              refine then_n ?_
              refine wp_ret ?_
              refine then_r ?_
              replace hm := inr_up hm hx343
              obtain rfl := some_inj hm
              refine post_ret (vs := [.bool (!t335)]) Try.results26 (rvs_cons (rv_tmp rfl) rvs_nil) ?_
              exact ⟨rfl, hst.keep0⟩
            · skip
              replace hm := bif_f hc334 hm
              refine wl_off ((wanted_eq rfl rfl rfl (congrArg Value.bool hc334)).trans rfl) rfl ?_
              refine wl_off ((wanted_eq rfl rfl rfl (congrArg Value.bool hc334)).trans rfl) rfl ?_
              refine wl_off ((wanted_eq rfl rfl rfl (congrArg Value.bool hc334)).trans rfl) rfl ?_
              refine wl_val (v := .bool false) rfl rfl (x_pick_f hc334 rfl rfl) ?_
              refine wl_val (v := .bool false) rfl rfl rfl ?_
              refine wl_nil ?_
              refine then_n ?_
              refine wp_ret ?_
              refine then_r ?_
              replace hm := inr_up hm hx343
              obtain rfl := some_inj hm
              refine post_ret (vs := [.bool false]) Try.results26 (rvs_cons (rv_tmp rfl) rvs_nil) ?_
              exact ⟨rfl, hst.keep0⟩
          · skip
            replace hm := bif_f hc328 hm
            refine wp_iff (congrArg Value.bool hc328) ?_
            refine wp_skip ?_
            refine then_n ?_
            replace hst := hst.keep0
            obtain rfl := some_inj hm
            exact ⟨_, hx343, ((fr_upd (t := 0) (v := .float .f64 a0) rfl).trans ((fr_upd (t := 1) (v := .float .f64 a1) rfl).trans rfl)), hst⟩
        · skip
          replace hm := bif_f hc327 hm
          refine wl_off ((wanted_eq rfl rfl rfl (congrArg Value.bool hc327)).trans rfl) rfl ?_
          refine wl_off ((wanted_eq rfl rfl rfl (congrArg Value.bool hc327)).trans rfl) rfl ?_
          refine wl_val (v := .bool false) rfl rfl (x_pick_f hc327 rfl rfl) ?_
          refine wl_nil ?_
          refine then_n ?_
          refine wp_iff rfl ?_
          refine wp_skip ?_
          refine then_n ?_
          replace hst := hst.keep0
          obtain rfl := some_inj hm
          exact ⟨_, hx343, ((fr_upd (t := 0) (v := .float .f64 a0) rfl).trans ((fr_upd (t := 1) (v := .float .f64 a1) rfl).trans rfl)), hst⟩
      · skip
        clear hst
        rintro _ w344 ⟨σ340, hm, rfl, hst⟩
        dsimp only [ref01_Ahead_j0] at hm
        refine wp_seq ?_
        refine wp_region_lit ?_
        refine wl_val (v := .float .f64 a0) rfl rfl rfl ?_
        refine wl_val (v := .float .f64 a1) rfl rfl rfl ?_
        refine wl_val (v := .bool (fLt a0 a1)) rfl rfl rfl ?_
        refine wl_val (v := .bool (fLt a0 a1)) rfl rfl rfl ?_
        refine wl_nil ?_
        refine then_n ?_
        refine wp_ret ?_
        obtain rfl := some_inj hm
        refine post_ret (vs := [.bool (fLt a0 a1)]) Try.results26 (rvs_cons (rv_tmp rfl) rvs_nil) ?_
        exact ⟨rfl, hst.keep0⟩

end Go.Proofs.Ytcnldkkdommmdaa
