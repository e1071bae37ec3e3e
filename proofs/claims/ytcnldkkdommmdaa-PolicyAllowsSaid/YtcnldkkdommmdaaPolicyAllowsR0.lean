/- The Go functions refine their models, part 0. -/
import Derived.Test.YtcnldkkdommmdaaPolicyAllowsT
set_option linter.unusedVariables false
set_option linter.unusedSimpArgs false
set_option maxRecDepth 100000
set_option maxHeartbeats 4000000
namespace Go.Proofs.Ytcnldkkdommmdaa
open Go Go.V
attribute [local irreducible] wpList Code.wp wpQuiet Calls bodyPost Oper.wp wpS Nx PendOK YieldsIn
theorem math_Signbit_ref {w0 w : World} {I : HL} {R : SP} {a0 : Nat}  (hst : St w0 w I [] R) {r : (Bool)} (hm : math_Signbit a0 = some r) :
    Calls Try.prog 39 #[.float .f64 a0] w fun e w' => e = .returned (.bool r) ∧ St w0 w' I [] R := by
  unfold math_Signbit at hm
  refine calls_start (args := [.float .f64 a0]) Try.func39 rfl Try.ntmps39 (Nat.le_of_ble_eq_true rfl) ?_
  refine wp_seq ?_
  refine wp_region_lit ?_
  refine wl_val (v := .bool false) rfl rfl rfl ?_
  refine wl_nil ?_
  refine then_n ?_
  refine wp_seq ?_
  refine wp_region_lit ?_
  refine wl_val (v := .float .f64 a0) rfl rfl rfl ?_
  refine wl_val (v := .int .u64 (Int.ofNat a0)) rfl rfl (by kernel_rfl) ?_
  refine wl_val (v := .int .i64 (IntKind.i64.wrap (Int.ofNat a0))) rfl rfl (by kernel_rfl) ?_
  refine wl_val (v := .bool (decide ((IntKind.i64.wrap (Int.ofNat a0)) < (0:Int)))) rfl rfl rfl ?_
  refine wl_val (v := .bool (decide ((IntKind.i64.wrap (Int.ofNat a0)) < (0:Int)))) rfl rfl rfl ?_
  refine wl_nil ?_
  refine then_n ?_
  refine wp_ret ?_
  obtain rfl := some_inj hm
  refine post_ret (vs := [.bool (decide ((IntKind.i64.wrap (Int.ofNat a0)) < (0:Int)))]) Try.results39 (rvs_cons (rv_tmp rfl) rvs_nil) ?_
  exact ⟨rfl, hst.keep0⟩

theorem ref01_Ahead_ref {w0 w : World} {I : HL} {R : SP} {a0 : Nat} {a1 : Nat}  (hst : St w0 w I [] R) {r : (Bool)} (hm : ref01_Ahead a0 a1 = some r) :
    Calls Try.prog 26 #[.float .f64 a0, .float .f64 a1] w fun e w' => e = .returned (.bool r) ∧ St w0 w' I [] R := by
  unfold ref01_Ahead at hm
  refine calls_start (args := [.float .f64 a0, .float .f64 a1]) Try.func26 rfl Try.ntmps26 (Nat.le_of_ble_eq_true rfl) ?_
  refine wp_seq ?_
  refine wp_region_lit ?_
  refine wl_val (v := .bool false) rfl rfl rfl ?_
  refine wl_nil ?_
  refine then_n ?_
  refine wp_seq ?_
  refine wp_seq ?_
  refine wp_region_lit ?_
  refine wl_val (v := .float .f64 a0) rfl rfl rfl ?_
  refine wl_val (v := .float .f64 a0) rfl rfl rfl ?_
  refine wl_val (v := .bool (fNe a0 a0)) rfl rfl rfl ?_
  refine wl_nil ?_
  refine then_n ?_
  refine bsplit (fNe a0 a0) (fun hc62 => ?_) (fun hc62 => ?_)
  · skip
    replace hm := bif_t hc62 hm
    refine wp_ift (congrArg Value.bool hc62) ?_
    refine wp_seq ?_
    refine wp_region_lit ?_
    refine wl_val (v := .bool false) rfl rfl rfl ?_
    refine wl_nil ?_
    refine then_n ?_
    refine wp_ret ?_
    refine then_r ?_
    obtain rfl := some_inj hm
    refine post_ret (vs := [.bool false]) Try.results26 (rvs_cons (rv_tmp rfl) rvs_nil) ?_
    exact ⟨rfl, hst.keep0⟩
  · skip
    replace hm := bif_f hc62 hm
    refine wp_iff (congrArg Value.bool hc62) ?_
    refine wp_skip ?_
    refine then_n ?_
    refine wp_seq ?_
    refine wp_seq ?_
    refine wp_region_lit ?_
    refine wl_val (v := .float .f64 a1) rfl rfl rfl ?_
    refine wl_val (v := .float .f64 a1) rfl rfl rfl ?_
    refine wl_val (v := .bool (fNe a1 a1)) rfl rfl rfl ?_
    refine wl_nil ?_
    refine then_n ?_
    refine bsplit (fNe a1 a1) (fun hc63 => ?_) (fun hc63 => ?_)
    · skip
      replace hm := bif_t hc63 hm
      refine wp_ift (congrArg Value.bool hc63) ?_
      refine wp_seq ?_
      refine wp_region_lit ?_
      refine wl_val (v := .bool true) rfl rfl rfl ?_
      refine wl_nil ?_
      refine then_n ?_
      refine wp_ret ?_
      refine then_r ?_
      obtain rfl := some_inj hm
      refine post_ret (vs := [.bool true]) Try.results26 (rvs_cons (rv_tmp rfl) rvs_nil) ?_
      exact ⟨rfl, hst.keep0⟩
    · skip
      replace hm := bif_f hc63 hm
      refine wp_iff (congrArg Value.bool hc63) ?_
      refine wp_skip ?_
      refine then_n ?_
      obtain ⟨y79, hm, hx80⟩ := joinO_some hm
      refine wp_cut (fun a w => ∃ (σ77 : Nat → Value), (ref01_Ahead_j0 a0 a1) () = some r ∧ a = Fr 27 (upd (upd σ77 0 (.float .f64 a0)) 1 (.float .f64 a1)) ∧ St w0 w I [] R) ?_ ?_
      · skip
        refine wp_seq ?_
        refine wp_region_lit ?_
        refine wl_val (v := .float .f64 a0) rfl rfl rfl ?_
        refine wl_val (v := .bool (fEq a0 (0:Nat))) rfl rfl rfl ?_
        refine wl_val (v := .bool (fEq a0 (0:Nat))) rfl rfl rfl ?_
        refine bsplit (fEq a0 (0:Nat)) (fun hc64 => ?_) (fun hc64 => ?_)
        · skip
          replace hm := bif_t hc64 hm
          refine wl_val (v := .float .f64 a1) ((wanted_eq rfl rfl rfl (congrArg Value.bool hc64)).trans rfl) rfl rfl ?_
          refine wl_val (v := .bool (fEq a1 (0:Nat))) ((wanted_eq rfl rfl rfl (congrArg Value.bool hc64)).trans rfl) rfl rfl ?_
          refine wl_val (v := .bool (fEq a1 (0:Nat))) rfl rfl (x_pick_t hc64 rfl rfl) ?_
          refine wl_nil ?_
          refine then_n ?_
          refine bsplit (fEq a1 (0:Nat)) (fun hc65 => ?_) (fun hc65 => ?_)
          · skip
            replace hm := bif_t hc65 hm
            refine wp_ift (congrArg Value.bool hc65) ?_
            refine wp_seq ?_
            refine wp_region_lit ?_
            refine wl_val (v := .float .f64 a0) rfl rfl rfl ?_
            obtain ⟨t66, ht67, hm⟩ := bind_some hm
            refine wl_call rfl rfl (x_call Try.call39 rfl (vs := [.float .f64 a0]) rfl) ?_
            refine (math_Signbit_ref hst.to0 ht67).mono ?_
            rintro _ w68 ⟨rfl, hst⟩
            refine ⟨_, rfl, ?_⟩
            replace hst := hst.of0
            refine wl_val (v := .bool t66) rfl rfl rfl ?_
            refine bsplit t66 (fun hc71 => ?_) (fun hc71 => ?_)
            · skip
              replace hm := bif_t hc71 hm
              refine wl_val (v := .float .f64 a1) ((wanted_eq rfl rfl rfl (congrArg Value.bool hc71)).trans rfl) rfl rfl ?_
              obtain ⟨t72, ht73, hm⟩ := bind_some hm
              refine wl_call ((wanted_eq rfl rfl rfl (congrArg Value.bool hc71)).trans rfl) rfl (x_call Try.call39 rfl (vs := [.float .f64 a1]) rfl) ?_
              refine (math_Signbit_ref hst.to0 ht73).mono ?_
              rintro _ w74 ⟨rfl, hst⟩
              refine ⟨_, rfl, ?_⟩
              replace hst := hst.of0
              refine wl_val (v := .bool (!t72)) ((wanted_eq rfl rfl rfl (congrArg Value.bool hc71)).trans rfl) rfl rfl ?_
              refine wl_val (v := .bool (!t72)) rfl rfl (x_pick_t hc71 rfl rfl) ?_
              refine wl_val (v := .bool (!t72)) rfl rfl rfl ?_
              refine wl_nil ?_
              refine then_n ?_
              refine wp_ret ?_
              refine then_r ?_
              replace hm := inr_up hm hx80
              obtain rfl := some_inj hm
              refine post_ret (vs := [.bool (!t72)]) Try.results26 (rvs_cons (rv_tmp rfl) rvs_nil) ?_
              exact ⟨rfl, hst.keep0⟩
            · skip
              replace hm := bif_f hc71 hm
              refine wl_off ((wanted_eq rfl rfl rfl (congrArg Value.bool hc71)).trans rfl) rfl ?_
              refine wl_off ((wanted_eq rfl rfl rfl (congrArg Value.bool hc71)).trans rfl) rfl ?_
              refine wl_off ((wanted_eq rfl rfl rfl (congrArg Value.bool hc71)).trans rfl) rfl ?_
              refine wl_val (v := .bool false) rfl rfl (x_pick_f hc71 rfl rfl) ?_
              refine wl_val (v := .bool false) rfl rfl rfl ?_
              refine wl_nil ?_
              refine then_n ?_
              refine wp_ret ?_
              refine then_r ?_
              replace hm := inr_up hm hx80
              obtain rfl := some_inj hm
              refine post_ret (vs := [.bool false]) Try.results26 (rvs_cons (rv_tmp rfl) rvs_nil) ?_
              exact ⟨rfl, hst.keep0⟩
          · skip
            replace hm := bif_f hc65 hm
            refine wp_iff (congrArg Value.bool hc65) ?_
            refine wp_skip ?_
            refine then_n ?_
            replace hst := hst.keep0
            obtain rfl := some_inj hm
            exact ⟨_, hx80, ((fr_upd (t := 0) (v := .float .f64 a0) rfl).trans ((fr_upd (t := 1) (v := .float .f64 a1) rfl).trans rfl)), hst⟩
        · skip
          replace hm := bif_f hc64 hm
          refine wl_off ((wanted_eq rfl rfl rfl (congrArg Value.bool hc64)).trans rfl) rfl ?_
          refine wl_off ((wanted_eq rfl rfl rfl (congrArg Value.bool hc64)).trans rfl) rfl ?_
          refine wl_val (v := .bool false) rfl rfl (x_pick_f hc64 rfl rfl) ?_
          refine wl_nil ?_
          refine then_n ?_
          refine wp_iff rfl ?_
          refine wp_skip ?_
          refine then_n ?_
          replace hst := hst.keep0
          obtain rfl := some_inj hm
          exact ⟨_, hx80, ((fr_upd (t := 0) (v := .float .f64 a0) rfl).trans ((fr_upd (t := 1) (v := .float .f64 a1) rfl).trans rfl)), hst⟩
      · skip
        clear hst
        rintro _ w81 ⟨σ77, hm, rfl, hst⟩
        dsimp only [ref01_Ahead_j0] at hm
        refine wp_seq ?_
        refine wp_region_lit ?_
        refine wl_val (v := .float .f64 a0) rfl rfl rfl ?_
        refine wl_val (v := .float .f64 a1) rfl rfl rfl ?_
        refine wl_val (v := .bool (fLt a0 a1)) rfl rfl rfl ?_
        refine wl_val (v := .bool (fLt a0 a1)) rfl rfl rfl ?_
        refine wl_nil ?_
        refine then_n ?_
        refine wp_ret ?_
        obtain rfl := some_inj hm
        refine post_ret (vs := [.bool (fLt a0 a1)]) Try.results26 (rvs_cons (rv_tmp rfl) rvs_nil) ?_
        exact ⟨rfl, hst.keep0⟩

theorem ref01_Within_ref {w0 w : World} {I : HL} {R : SP} {a0 : Nat} {a1 : Nat} {a2 : Nat}  (hst : St w0 w I [] R) {r : (Bool)} (hm : ref01_Within a0 a1 a2 = some r) :
    Calls Try.prog 19 #[.float .f64 a0, .float .f64 a1, .float .f64 a2] w fun e w' => e = .returned (.bool r) ∧ St w0 w' I [] R := by
  unfold ref01_Within at hm
  refine calls_start (args := [.float .f64 a0, .float .f64 a1, .float .f64 a2]) Try.func19 rfl Try.ntmps19 (Nat.le_of_ble_eq_true rfl) ?_
  refine wp_seq ?_
  refine wp_region_lit ?_
  refine wl_val (v := .bool false) rfl rfl rfl ?_
  refine wl_nil ?_
  refine then_n ?_
  refine wp_seq ?_
  refine wp_region_lit ?_
  refine wl_val (v := .float .f64 a0) rfl rfl rfl ?_
  refine wl_val (v := .float .f64 a1) rfl rfl rfl ?_
  obtain ⟨t53, ht54, hm⟩ := bind_some hm
  refine wl_call rfl rfl (x_call Try.call26 rfl (vs := [.float .f64 a0, .float .f64 a1]) rfl) ?_
  refine (ref01_Ahead_ref hst.to0 ht54).mono ?_
  rintro _ w55 ⟨rfl, hst⟩
  refine ⟨_, rfl, ?_⟩
  replace hst := hst.of0
  refine wl_val (v := .bool (!t53)) rfl rfl rfl ?_
  refine wl_val (v := .bool (!t53)) rfl rfl rfl ?_
  refine bsplit (!t53) (fun hc58 => ?_) (fun hc58 => ?_)
  · skip
    replace hm := bif_t hc58 hm
    refine wl_val (v := .float .f64 a2) ((wanted_eq rfl rfl rfl (congrArg Value.bool hc58)).trans rfl) rfl rfl ?_
    refine wl_val (v := .float .f64 a0) ((wanted_eq rfl rfl rfl (congrArg Value.bool hc58)).trans rfl) rfl rfl ?_
    obtain ⟨t59, ht60, hm⟩ := bind_some hm
    refine wl_call ((wanted_eq rfl rfl rfl (congrArg Value.bool hc58)).trans rfl) rfl (x_call Try.call26 rfl (vs := [.float .f64 a2, .float .f64 a0]) rfl) ?_
    refine (ref01_Ahead_ref hst.to0 ht60).mono ?_
    rintro _ w61 ⟨rfl, hst⟩
    refine ⟨_, rfl, ?_⟩
    replace hst := hst.of0
    refine wl_val (v := .bool (!t59)) ((wanted_eq rfl rfl rfl (congrArg Value.bool hc58)).trans rfl) rfl rfl ?_
    refine wl_val (v := .bool (!t59)) rfl rfl (x_pick_t hc58 rfl rfl) ?_
    refine wl_val (v := .bool (!t59)) rfl rfl rfl ?_
    refine wl_nil ?_
    refine then_n ?_
    refine wp_ret ?_
    obtain rfl := some_inj hm
    refine post_ret (vs := [.bool (!t59)]) Try.results19 (rvs_cons (rv_tmp rfl) rvs_nil) ?_
    exact ⟨rfl, hst.keep0⟩
  · skip
    replace hm := bif_f hc58 hm
    refine wl_off ((wanted_eq rfl rfl rfl (congrArg Value.bool hc58)).trans rfl) rfl ?_
    refine wl_off ((wanted_eq rfl rfl rfl (congrArg Value.bool hc58)).trans rfl) rfl ?_
    refine wl_off ((wanted_eq rfl rfl rfl (congrArg Value.bool hc58)).trans rfl) rfl ?_
    refine wl_off ((wanted_eq rfl rfl rfl (congrArg Value.bool hc58)).trans rfl) rfl ?_
    refine wl_val (v := .bool false) rfl rfl (x_pick_f hc58 rfl rfl) ?_
    refine wl_val (v := .bool false) rfl rfl rfl ?_
    refine wl_nil ?_
    refine then_n ?_
    refine wp_ret ?_
    obtain rfl := some_inj hm
    refine post_ret (vs := [.bool false]) Try.results19 (rvs_cons (rv_tmp rfl) rvs_nil) ?_
    exact ⟨rfl, hst.keep0⟩

theorem policy_New_ref {w0 w : World} {I : HL} {R : SP}   (hst : St w0 w I [] R) {r : (policy_Book)} (hm : policy_New = some r) :
    Calls Try.prog 9 #[] w fun e w' => ∃ (q0 : Value), e = .returned (q0) ∧ St w0 w' I [at_policy_Book q0 r] R := by
  unfold policy_New at hm
  refine calls_start (args := []) Try.func9 rfl Try.ntmps9 (Nat.le_of_ble_eq_true rfl) ?_
  refine wp_seq ?_
  refine wp_region_lit ?_
  refine wl_val (v := .pointer none) rfl rfl rfl ?_
  refine wl_nil ?_
  refine then_n ?_
  refine wp_seq ?_
  refine wp_region_lit ?_
  refine wl_val (v := .agg #[(.slice none 0 0)]) rfl rfl (by kernel_rfl) ?_
  obtain ⟨b61, w62, ew63, eb64, hst⟩ := hst.box [(.slice none 0 0)] 64
  refine wl_run (v := .pointer (some ⟨b61, 0, none⟩)) (w' := w62) rfl rfl (x_al (by kernel_rfl) ew63 eb64) ?_
  refine wl_val (v := .pointer (some ⟨b61, 0, none⟩)) rfl rfl rfl ?_
  refine wl_nil ?_
  refine then_n ?_
  refine wp_ret ?_
  replace hst := hst.own_nil ty_policy_line
  replace hst := hst.pull1
  replace hst := at_policy_Book_close (pv := .pointer (some ⟨b61, 0, none⟩)) (x := ({ l := [] } : policy_Book)) hst rfl
  obtain rfl := some_inj hm
  refine post_ret (vs := [.pointer (some ⟨b61, 0, none⟩)]) Try.results9 (rvs_cons (rv_tmp rfl) rvs_nil) ?_
  exact ⟨.pointer (some ⟨b61, 0, none⟩), rfl, hst.keep1⟩

theorem policy_Book_Revoke_ref {w0 w : World} {I : HL} {R : SP} {a0 : (Option policy_Book)} {p0 : Value} {a1 : Int} {a2 : Int}  (hst : St w0 w I [objO at_policy_Book p0 a0] R) {r : (Bool × (Option policy_Book))} (hm : policy_Book_Revoke a0 a1 a2 = some r) :
    Calls Try.prog 13 #[p0, .int .u64 a1, .int .u64 a2] w fun e w' => e = .returned (.bool r.1) ∧ St w0 w' I [objO at_policy_Book p0 r.2] R := by
  rcases a0 with _ | o0
  · skip
    obtain ⟨rfl, hst'⟩ := objO_none hst
    clear hst
    have hst := hst'
    clear hst'
    dsimp only [policy_Book_Revoke] at hm
    refine calls_start (args := [.pointer none, .int .u64 a1, .int .u64 a2]) Try.func13 rfl Try.ntmps13 (Nat.le_of_ble_eq_true rfl) ?_
    refine wp_seq ?_
    refine wp_region_lit ?_
    refine wl_val (v := .bool false) rfl rfl rfl ?_
    refine wl_nil ?_
    refine then_n ?_
    refine wp_seq ?_
    refine wp_seq ?_
    refine wp_region_lit ?_
    refine wl_val (v := .pointer none) rfl rfl rfl ?_
    refine wl_val (v := .bool true) rfl rfl (by kernel_rfl) ?_
    refine wl_nil ?_
    refine then_n ?_
    refine wp_ift rfl ?_
    refine wp_seq ?_
    refine wp_region_lit ?_
    refine wl_val (v := .bool false) rfl rfl rfl ?_
    refine wl_nil ?_
    refine then_n ?_
    refine wp_ret ?_
    refine then_r ?_
    replace hst := hst.objO_nil at_policy_Book
    obtain rfl := some_inj hm
    refine post_ret (vs := [.bool false]) Try.results13 (rvs_cons (rv_tmp rfl) rvs_nil) ?_
    exact ⟨rfl, hst.keep1⟩
  · skip
    replace hst := objO_get hst
    dsimp only [policy_Book_Revoke] at hm
    refine calls_start (args := [p0, .int .u64 a1, .int .u64 a2]) Try.func13 rfl Try.ntmps13 (Nat.le_of_ble_eq_true rfl) ?_
    refine wp_seq ?_
    refine wp_region_lit ?_
    refine wl_val (v := .bool false) rfl rfl rfl ?_
    refine wl_nil ?_
    refine then_n ?_
    refine wp_seq ?_
    refine wp_seq ?_
    refine wp_region_lit ?_
    refine wl_val (v := p0) rfl rfl rfl ?_
    obtain ⟨b141, v142, rfl, hst'⟩ := at_policy_Book_open hst
    clear hst
    have hst := hst'
    clear hst'
    refine wl_val (v := .bool false) rfl rfl (by kernel_rfl) ?_
    refine wl_nil ?_
    refine then_n ?_
    refine wp_iff rfl ?_
    refine wp_skip ?_
    refine then_n ?_
    refine wp_seq ?_
    refine wp_region_lit ?_
    refine wl_val (v := .bool false) rfl rfl rfl ?_
    refine wl_nil ?_
    refine then_n ?_
    refine wp_seq ?_
    refine wp_seq ?_
    refine wp_region_lit ?_
    refine wl_val (v := .pointer (some ⟨b141, 0, none⟩)) rfl rfl rfl ?_
    refine wl_val (v := .pointer (some ⟨b141, 0, none⟩)) rfl rfl rfl ?_
    refine wl_val (v := .pointer (some ⟨b141, 0, none⟩)) rfl rfl (x_field rfl Try.underlying64 rfl Try.sizeOf62 rfl) ?_
    refine wl_val (v := v142) rfl rfl (x_load rfl Try.isAgg62 (hst.bc0 rfl)) ?_
    refine wl_val (v := .int .i64 ((o0.l).length : Int)) rfl rfl (x_len rfl Try.underlying62 hst.sv1) ?_
    refine wl_val (v := .int .i64 (0:Int)) rfl rfl rfl ?_
    refine wl_nil ?_
    refine then_n ?_
    refine wp_block ?_
    replace hst := hst.pull1
    replace hst := hst.pull1
    replace hst := at_policy_Book_close (pv := .pointer (some ⟨b141, 0, none⟩)) (x := o0) hst rfl
    obtain ⟨n183, hm⟩ := loopO_some hm
    refine wp_loop_n (fun n a w => ∃ (z179 : policy_Book) (z180 : Int) (z181 : Bool) (σ182 : Nat → Value), loopN (policy_Book_Revoke_l0 o0 a1 a2) n (z179, z180, z181) = some r ∧ a = Fr 52 (upd (upd (upd (upd (upd (upd σ182 0 (.pointer (some ⟨b141, 0, none⟩))) 1 (.int .u64 a1)) 2 (.int .u64 a2)) 7 (.bool z181)) 15 (.int .i64 ((o0.l).length : Int))) 16 (.int .i64 z180)) ∧ St w0 w I [at_policy_Book (.pointer (some ⟨b141, 0, none⟩)) z179] R) n183 ⟨o0, (0:Int), false, _, hm, ((fr_upd (t := 0) (v := .pointer (some ⟨b141, 0, none⟩)) rfl).trans ((fr_upd (t := 1) (v := .int .u64 a1) rfl).trans ((fr_upd (t := 2) (v := .int .u64 a2) rfl).trans ((fr_upd (t := 7) (v := .bool false) rfl).trans ((fr_upd (t := 15) (v := .int .i64 ((o0.l).length : Int)) rfl).trans ((fr_upd (t := 16) (v := .int .i64 (0:Int)) rfl).trans rfl)))))), hst⟩ ?_
    rintro n189 _ w184 ⟨z179, z180, z181, σ182, hm, rfl, hst⟩
    obtain ⟨n186, y187, rfl, hm, hx188⟩ := loopN_some hm
    dsimp only [policy_Book_Revoke_l0] at hm
    refine wp_seq ?_
    refine wp_region_lit ?_
    refine wl_val (v := .bool (decide (z180 < ((o0.l).length : Int)))) rfl rfl rfl ?_
    refine wl_nil ?_
    refine then_n ?_
    refine wp_seq ?_
    refine bsplit (decide (z180 < ((o0.l).length : Int))) (fun hc190 => ?_) (fun hc190 => ?_)
    · skip
      replace hm := bif_t hc190 hm
      refine wp_ift (congrArg Value.bool hc190) ?_
      refine wp_skip ?_
      refine then_n ?_
      refine wp_seq ?_
      refine wp_block ?_
      refine wp_seq ?_
      refine wp_region_lit ?_
      refine wl_val (v := .int .i64 z180) rfl rfl rfl ?_
      refine wl_val (v := .int .i64 z180) rfl rfl rfl ?_
      refine wl_nil ?_
      refine then_n ?_
      refine wp_seq ?_
      refine wp_region_lit ?_
      refine wl_val (v := .pointer (some ⟨b141, 0, none⟩)) rfl rfl rfl ?_
      obtain ⟨b191, v192, e194, hst'⟩ := at_policy_Book_open hst
      clear hst
      have e194 := ptr_inj e194
      subst e194
      have hst := hst'
      clear hst'
      refine wl_val (v := .pointer (some ⟨b141, 0, none⟩)) rfl rfl rfl ?_
      refine wl_val (v := .pointer (some ⟨b141, 0, none⟩)) rfl rfl (x_field rfl Try.underlying64 rfl Try.sizeOf62 rfl) ?_
      refine wl_val (v := v192) rfl rfl (x_load rfl Try.isAgg62 (hst.bc0 rfl)) ?_
      refine wl_val (v := .int .i64 z180) rfl rfl rfl ?_
      obtain ⟨x195, hx196, hm⟩ := bind_some hm
      obtain ⟨h197, h198, hi199⟩ := geto_some hx196
      refine wl_val (v := .pointer (some (eAddr v192 (z180.toNat * 9 + 0)))) rfl rfl (x_index rfl rfl Try.underlying62 Try.sizeOf66 hst.sv1 h197 h198) ?_
      refine wl_val (v := .pointer (some (eAddr v192 (z180.toNat * 9 + 0)))) rfl rfl (x_field_e rfl Try.underlying66 rfl Try.sizeOf30 rfl) ?_
      refine wl_val (v := .pointer (some (eAddr v192 (z180.toNat * 9 + 0)))) rfl rfl (x_field_e rfl Try.underlying30 rfl Try.sizeOf27 rfl) ?_
      refine wl_val (v := .int .u64 x195.r.ID) rfl rfl (x_load rfl Try.isAgg27 (hst.ol1 hi199 (by rintro _ rfl; rfl))) ?_
      refine wl_val (v := .int .u64 a1) rfl rfl rfl ?_
      refine wl_val (v := .bool (x195.r.ID == a1)) rfl rfl rfl ?_
      refine wl_val (v := .bool (x195.r.ID == a1)) rfl rfl rfl ?_
      refine bsplit (x195.r.ID == a1) (fun hc200 => ?_) (fun hc200 => ?_)
      · skip
        replace hm := bif_t hc200 hm
        refine wl_val (v := .pointer (some ⟨b141, 0, none⟩)) ((wanted_eq rfl rfl rfl (congrArg Value.bool hc200)).trans rfl) rfl rfl ?_
        refine wl_val (v := .pointer (some ⟨b141, 0, none⟩)) ((wanted_eq rfl rfl rfl (congrArg Value.bool hc200)).trans rfl) rfl rfl ?_
        refine wl_val (v := .pointer (some ⟨b141, 0, none⟩)) ((wanted_eq rfl rfl rfl (congrArg Value.bool hc200)).trans rfl) rfl (x_field rfl Try.underlying64 rfl Try.sizeOf62 rfl) ?_
        refine wl_val (v := v192) ((wanted_eq rfl rfl rfl (congrArg Value.bool hc200)).trans rfl) rfl (x_load rfl Try.isAgg62 (hst.bc0 rfl)) ?_
        refine wl_val (v := .int .i64 z180) ((wanted_eq rfl rfl rfl (congrArg Value.bool hc200)).trans rfl) rfl rfl ?_
        refine wl_val (v := .pointer (some (eAddr v192 (z180.toNat * 9 + 0)))) ((wanted_eq rfl rfl rfl (congrArg Value.bool hc200)).trans rfl) rfl (x_index rfl rfl Try.underlying62 Try.sizeOf66 hst.sv1 h197 h198) ?_
        refine wl_val (v := .pointer (some (eAddr v192 (z180.toNat * 9 + 8)))) ((wanted_eq rfl rfl rfl (congrArg Value.bool hc200)).trans rfl) rfl (x_field_e rfl Try.underlying66 rfl Try.sizeOf27 rfl) ?_
        refine wl_val (v := .int .u64 x195.to_) ((wanted_eq rfl rfl rfl (congrArg Value.bool hc200)).trans rfl) rfl (x_load rfl Try.isAgg27 (hst.ol1 hi199 (by rintro _ rfl; rfl))) ?_
        refine wl_val (v := .bool (x195.to_ == (0:Int))) ((wanted_eq rfl rfl rfl (congrArg Value.bool hc200)).trans rfl) rfl rfl ?_
        refine wl_val (v := .bool (x195.to_ == (0:Int))) rfl rfl (x_pick_t hc200 rfl rfl) ?_
        refine wl_nil ?_
        refine then_n ?_
        refine bsplit (x195.to_ == (0:Int)) (fun hc201 => ?_) (fun hc201 => ?_)
        · skip
          replace hm := bif_t hc201 hm
          refine wp_ift (congrArg Value.bool hc201) ?_
          refine wp_region_lit ?_
          refine wl_val (v := .pointer (some ⟨b141, 0, none⟩)) rfl rfl rfl ?_
          refine wl_val (v := .pointer (some ⟨b141, 0, none⟩)) rfl rfl rfl ?_
          refine wl_val (v := .pointer (some ⟨b141, 0, none⟩)) rfl rfl (x_field rfl Try.underlying64 rfl Try.sizeOf62 rfl) ?_
          refine wl_val (v := v192) rfl rfl (x_load rfl Try.isAgg62 (hst.bc0 rfl)) ?_
          refine wl_val (v := .int .i64 z180) rfl rfl rfl ?_
          refine wl_val (v := .int .u64 a2) rfl rfl rfl ?_
          refine wl_val (v := .int .u64 (if (1:Int) > a2 then (1:Int) else a2)) rfl rfl (by kernel_rfl) ?_
          refine wl_val (v := .pointer (some (eAddr v192 (z180.toNat * 9 + 0)))) rfl rfl (x_index rfl rfl Try.underlying62 Try.sizeOf66 hst.sv1 h197 h198) ?_
          refine wl_val (v := .pointer (some (eAddr v192 (z180.toNat * 9 + 8)))) rfl rfl (x_field_e rfl Try.underlying66 rfl Try.sizeOf27 rfl) ?_
          replace hst := hst.pull1
          obtain ⟨w202, hr203, hst⟩ := hst.own_store (P := Try.prog) (t := 27) (y := ({ r := x195.r, from_ := x195.from_, to_ := (if (1:Int) > a2 then (1:Int) else a2) } : policy_line)) hi199 8 (.int .u64 (if (1:Int) > a2 then (1:Int) else a2)) Try.sizeOf27 (Nat.le_of_ble_eq_true rfl) (ones_cons rfl ones_nil) (by rintro _ rfl; rfl)
          have hi204 := set_get hi199 ({ r := x195.r, from_ := x195.from_, to_ := (if (1:Int) > a2 then (1:Int) else a2) } : policy_line)
          have h205 := set_lt h198 z180.toNat ({ r := x195.r, from_ := x195.from_, to_ := (if (1:Int) > a2 then (1:Int) else a2) } : policy_line)
          refine wl_unit rfl rfl (x_unit hr203) ?_
          refine wl_val (v := .bool true) rfl rfl rfl ?_
          refine wl_nil ?_
          refine blk_n ?_
          refine then_n ?_
          refine wp_region_lit ?_
          refine wl_val (v := .int .i64 (IntKind.i64.wrap (z180 + (1:Int)))) rfl rfl rfl ?_
          refine wl_val (v := .int .i64 (IntKind.i64.wrap (z180 + (1:Int)))) rfl rfl rfl ?_
          refine wl_nil ?_
          refine then_n ?_
          replace hst := hst.pull1
          replace hst := at_policy_Book_close (pv := .pointer (some ⟨b141, 0, none⟩)) (x := ({ l := (z179.l.set z180.toNat ({ r := x195.r, from_ := x195.from_, to_ := (if (1:Int) > a2 then (1:Int) else a2) } : policy_line)) } : policy_Book)) hst rfl
          replace hst := hst.keep1
          obtain rfl := some_inj hm
          exact ⟨_, Nat.lt_succ_self _, ({ l := (z179.l.set z180.toNat ({ r := x195.r, from_ := x195.from_, to_ := (if (1:Int) > a2 then (1:Int) else a2) } : policy_line)) } : policy_Book), (IntKind.i64.wrap (z180 + (1:Int))), true, _, hx188, ((fr_upd (t := 0) (v := .pointer (some ⟨b141, 0, none⟩)) rfl).trans ((fr_upd (t := 1) (v := .int .u64 a1) rfl).trans ((fr_upd (t := 2) (v := .int .u64 a2) rfl).trans ((fr_upd (t := 7) (v := .bool true) rfl).trans ((fr_upd (t := 15) (v := .int .i64 ((o0.l).length : Int)) rfl).trans ((fr_upd (t := 16) (v := .int .i64 (IntKind.i64.wrap (z180 + (1:Int)))) rfl).trans rfl)))))), hst⟩
        · skip
          replace hm := bif_f hc201 hm
          refine wp_iff (congrArg Value.bool hc201) ?_
          refine wp_skip ?_
          refine blk_n ?_
          refine then_n ?_
          refine wp_region_lit ?_
          refine wl_val (v := .int .i64 (IntKind.i64.wrap (z180 + (1:Int)))) rfl rfl rfl ?_
          refine wl_val (v := .int .i64 (IntKind.i64.wrap (z180 + (1:Int)))) rfl rfl rfl ?_
          refine wl_nil ?_
          refine then_n ?_
          replace hst := hst.pull1
          replace hst := hst.pull1
          replace hst := at_policy_Book_close (pv := .pointer (some ⟨b141, 0, none⟩)) (x := z179) hst rfl
          replace hst := hst.keep1
          obtain rfl := some_inj hm
          exact ⟨_, Nat.lt_succ_self _, z179, (IntKind.i64.wrap (z180 + (1:Int))), z181, _, hx188, ((fr_upd (t := 0) (v := .pointer (some ⟨b141, 0, none⟩)) rfl).trans ((fr_upd (t := 1) (v := .int .u64 a1) rfl).trans ((fr_upd (t := 2) (v := .int .u64 a2) rfl).trans ((fr_upd (t := 7) (v := .bool z181) rfl).trans ((fr_upd (t := 15) (v := .int .i64 ((o0.l).length : Int)) rfl).trans ((fr_upd (t := 16) (v := .int .i64 (IntKind.i64.wrap (z180 + (1:Int)))) rfl).trans rfl)))))), hst⟩
      · skip
        replace hm := bif_f hc200 hm
        refine wl_off ((wanted_eq rfl rfl rfl (congrArg Value.bool hc200)).trans rfl) rfl ?_
        refine wl_off ((wanted_eq rfl rfl rfl (congrArg Value.bool hc200)).trans rfl) rfl ?_
        refine wl_off ((wanted_eq rfl rfl rfl (congrArg Value.bool hc200)).trans rfl) rfl ?_
        refine wl_off ((wanted_eq rfl rfl rfl (congrArg Value.bool hc200)).trans rfl) rfl ?_
        refine wl_off ((wanted_eq rfl rfl rfl (congrArg Value.bool hc200)).trans rfl) rfl ?_
        refine wl_off ((wanted_eq rfl rfl rfl (congrArg Value.bool hc200)).trans rfl) rfl ?_
        refine wl_off ((wanted_eq rfl rfl rfl (congrArg Value.bool hc200)).trans rfl) rfl ?_
        refine wl_off ((wanted_eq rfl rfl rfl (congrArg Value.bool hc200)).trans rfl) rfl ?_
        refine wl_off ((wanted_eq rfl rfl rfl (congrArg Value.bool hc200)).trans rfl) rfl ?_
        refine wl_val (v := .bool false) rfl rfl (x_pick_f hc200 rfl rfl) ?_
        refine wl_nil ?_
        refine then_n ?_
        refine wp_iff rfl ?_
        refine wp_skip ?_
        refine blk_n ?_
        refine then_n ?_
        refine wp_region_lit ?_
        refine wl_val (v := .int .i64 (IntKind.i64.wrap (z180 + (1:Int)))) rfl rfl rfl ?_
        refine wl_val (v := .int .i64 (IntKind.i64.wrap (z180 + (1:Int)))) rfl rfl rfl ?_
        refine wl_nil ?_
        refine then_n ?_
        replace hst := hst.pull1
        replace hst := hst.pull1
        replace hst := at_policy_Book_close (pv := .pointer (some ⟨b141, 0, none⟩)) (x := z179) hst rfl
        replace hst := hst.keep1
        obtain rfl := some_inj hm
        exact ⟨_, Nat.lt_succ_self _, z179, (IntKind.i64.wrap (z180 + (1:Int))), z181, _, hx188, ((fr_upd (t := 0) (v := .pointer (some ⟨b141, 0, none⟩)) rfl).trans ((fr_upd (t := 1) (v := .int .u64 a1) rfl).trans ((fr_upd (t := 2) (v := .int .u64 a2) rfl).trans ((fr_upd (t := 7) (v := .bool z181) rfl).trans ((fr_upd (t := 15) (v := .int .i64 ((o0.l).length : Int)) rfl).trans ((fr_upd (t := 16) (v := .int .i64 (IntKind.i64.wrap (z180 + (1:Int)))) rfl).trans rfl)))))), hst⟩
    · skip
      replace hm := bif_f hc190 hm
      refine wp_iff (congrArg Value.bool hc190) ?_
      refine wp_exit ?_
      refine then_x ?_
      refine then_x ?_
      replace hm := inr_up hm hx188
      refine blk_x ?_
      refine then_n ?_
      refine wp_seq ?_
      refine wp_region_lit ?_
      refine wl_val (v := .bool z181) rfl rfl rfl ?_
      refine wl_val (v := .bool z181) rfl rfl rfl ?_
      refine wl_nil ?_
      refine then_n ?_
      refine wp_ret ?_
      replace hst := objO_some hst
      obtain rfl := some_inj hm
      refine post_ret (vs := [.bool z181]) Try.results13 (rvs_cons (rv_tmp rfl) rvs_nil) ?_
      exact ⟨rfl, hst.keep1⟩

theorem policy_Book_Grant_ref {w0 w : World} {I : HL} {R : SP} {a0 : (Option policy_Book)} {p0 : Value} {a1 : api_Rule} {a2 : Int}  (hst : St w0 w I [objO at_policy_Book p0 a0] R) {r : ((Option policy_Book))} (hm : policy_Book_Grant a0 a1 a2 = some r) :
    Calls Try.prog 10 #[p0, .agg #[.int .u64 a1.ID, .int .i64 a1.From, .int .i64 a1.To, .float .f64 a1.Lo, .float .f64 a1.Hi, .int .u64 a1.Authority, .int .i64 a1.Quota], .int .u64 a2] w fun e w' => e = .returned (.tuple #[]) ∧ St w0 w' I [objO at_policy_Book p0 r] R := by
  rcases a0 with _ | o0
  · skip
    obtain ⟨rfl, hst'⟩ := objO_none hst
    clear hst
    have hst := hst'
    clear hst'
    dsimp only [policy_Book_Grant] at hm
    refine calls_start (args := [.pointer none, .agg #[.int .u64 a1.ID, .int .i64 a1.From, .int .i64 a1.To, .float .f64 a1.Lo, .float .f64 a1.Hi, .int .u64 a1.Authority, .int .i64 a1.Quota], .int .u64 a2]) Try.func10 rfl Try.ntmps10 (Nat.le_of_ble_eq_true rfl) ?_
    refine wp_seq ?_
    refine wp_region_lit ?_
    obtain ⟨b97, w98, ew99, eb100, hst⟩ := hst.box [.int .u64 a1.ID, .int .i64 a1.From, .int .i64 a1.To, .float .f64 a1.Lo, .float .f64 a1.Hi, .int .u64 a1.Authority, .int .i64 a1.Quota] 30
    refine wl_run (v := .pointer (some ⟨b97, 0, none⟩)) (w' := w98) rfl rfl (x_al (by kernel_rfl) ew99 eb100) ?_
    refine wl_nil ?_
    refine then_n ?_
    refine wp_seq ?_
    refine wp_seq ?_
    refine wp_region_lit ?_
    refine wl_val (v := .pointer none) rfl rfl rfl ?_
    refine wl_val (v := .bool true) rfl rfl (by kernel_rfl) ?_
    refine wl_nil ?_
    refine then_n ?_
    refine wp_ift rfl ?_
    refine wp_ret ?_
    refine then_r ?_
    replace hst := hst.objO_nil at_policy_Book
    obtain rfl := some_inj hm
    refine post_ret (vs := []) Try.results10 rvs_nil ?_
    exact ⟨rfl, hst.keep1⟩
  · skip
    replace hst := objO_get hst
    dsimp only [policy_Book_Grant] at hm
    refine calls_start (args := [p0, .agg #[.int .u64 a1.ID, .int .i64 a1.From, .int .i64 a1.To, .float .f64 a1.Lo, .float .f64 a1.Hi, .int .u64 a1.Authority, .int .i64 a1.Quota], .int .u64 a2]) Try.func10 rfl Try.ntmps10 (Nat.le_of_ble_eq_true rfl) ?_
    refine wp_seq ?_
    refine wp_region_lit ?_
    obtain ⟨b102, w103, ew104, eb105, hst⟩ := hst.box [.int .u64 a1.ID, .int .i64 a1.From, .int .i64 a1.To, .float .f64 a1.Lo, .float .f64 a1.Hi, .int .u64 a1.Authority, .int .i64 a1.Quota] 30
    refine wl_run (v := .pointer (some ⟨b102, 0, none⟩)) (w' := w103) rfl rfl (x_al (by kernel_rfl) ew104 eb105) ?_
    refine wl_nil ?_
    refine then_n ?_
    refine wp_seq ?_
    refine wp_seq ?_
    refine wp_region_lit ?_
    refine wl_val (v := p0) rfl rfl rfl ?_
    replace hst := hst.pull1
    obtain ⟨b107, v108, rfl, hst'⟩ := at_policy_Book_open hst
    clear hst
    have hst := hst'
    clear hst'
    refine wl_val (v := .bool false) rfl rfl (by kernel_rfl) ?_
    refine wl_nil ?_
    refine then_n ?_
    refine wp_iff rfl ?_
    refine wp_skip ?_
    refine then_n ?_
    refine wp_seq ?_
    refine wp_region_lit ?_
    refine wl_val (v := .pointer (some ⟨b107, 0, none⟩)) rfl rfl rfl ?_
    refine wl_val (v := .pointer (some ⟨b102, 0, none⟩)) rfl rfl (x_field rfl Try.underlying30 rfl Try.sizeOf27 rfl) ?_
    refine wl_val (v := .int .u64 a1.ID) rfl rfl (x_load rfl Try.isAgg27 (hst.bc2 rfl)) ?_
    refine wl_val (v := .int .u64 a2) rfl rfl rfl ?_
    replace hst := hst.pull1
    replace hst := hst.pull1
    replace hst := at_policy_Book_close (pv := .pointer (some ⟨b107, 0, none⟩)) (x := o0) hst rfl
    replace hst := objO_some hst
    obtain ⟨t110, ht111, hm⟩ := bind_some hm
    refine wl_call rfl rfl (x_call Try.call13 rfl (vs := [.pointer (some ⟨b107, 0, none⟩), .int .u64 a1.ID, .int .u64 a2]) rfl) ?_
    refine (policy_Book_Revoke_ref hst.to1 ht111).mono ?_
    rintro _ w112 ⟨rfl, hst⟩
    refine ⟨_, rfl, ?_⟩
    replace hst := hst.of1
    rcases he116 : t110.2 with _ | y115
    · rw [he116] at hm; cases hm
    rw [he116] at hm hst; dsimp only at hm; replace hst := objO_get hst
    refine wl_nil ?_
    refine then_n ?_
    obtain ⟨b117, v118, e120, hst'⟩ := at_policy_Book_open hst
    clear hst
    have e120 := ptr_inj e120
    subst e120
    have hst := hst'
    clear hst'
    refine wp_region_St hst [(0, false), (1, false), (2, false), (3, false), (4, false), (5, false), (6, false), (7, false), (8, true), (9, true), (10, false), (11, false), (12, true)] Try.mixed (by kernel_rfl) (by decide) ?_
    refine ws_q (v := .pointer (some ⟨b107, 0, none⟩)) rfl rfl (yi_run rfl (fun w hst => rfl)) ?_
    refine ws_q (v := .pointer (some ⟨b107, 0, none⟩)) rfl rfl (yi_run rfl (fun w hst => rfl)) ?_
    refine ws_q (v := .pointer (some ⟨b107, 0, none⟩)) rfl rfl (yi_run rfl (fun w hst => rfl)) ?_
    refine ws_q (v := .pointer (some ⟨b107, 0, none⟩)) rfl rfl (yi_run rfl (fun w hst => x_field rfl Try.underlying64 rfl Try.sizeOf62 rfl)) ?_
    refine ws_q (v := v118) rfl rfl (yi_run rfl (fun w hst => x_load rfl Try.isAgg62 (hst.bc0 rfl))) ?_
    refine ws_q (v := .agg #[.int .u64 a1.ID, .int .i64 a1.From, .int .i64 a1.To, .float .f64 a1.Lo, .float .f64 a1.Hi, .int .u64 a1.Authority, .int .i64 a1.Quota]) rfl rfl (yi_run rfl (fun w hst => x_loadN (cs := [.int .u64 a1.ID, .int .i64 a1.From, .int .i64 a1.To, .float .f64 a1.Lo, .float .f64 a1.Hi, .int .u64 a1.Authority, .int .i64 a1.Quota]) rfl Try.isAgg30 Try.sizeOf30 (hst.bcs2 0 rfl))) ?_
    refine ws_q (v := .int .u64 a2) rfl rfl (yi_run rfl (fun w hst => rfl)) ?_
    refine ws_q (v := .agg #[.int .u64 a1.ID, .int .i64 a1.From, .int .i64 a1.To, .float .f64 a1.Lo, .float .f64 a1.Hi, .int .u64 a1.Authority, .int .i64 a1.Quota, .int .u64 a2, .int .u64 (0:Int)]) rfl rfl (yi_run rfl (fun w hst => by kernel_rfl)) ?_
    refine ws_e rfl rfl ?_
    clear hst
    intro w hst
    obtain ⟨b121, w122, ew123, eb124, hst⟩ := hst.lits (E := ty_policy_line) (xs := [({ r := a1, from_ := a2, to_ := (0:Int) } : policy_line)]) [[.int .u64 a1.ID, .int .i64 a1.From, .int .i64 a1.To, .float .f64 a1.Lo, .float .f64 a1.Hi, .int .u64 a1.Authority, .int .i64 a1.Quota, .int .u64 a2, .int .u64 (0:Int)]] 66 1 rfl (Reps.cons rfl Reps.nil)
    refine we_run (v := (.slice (some ⟨b121, 0, none⟩) 1 1)) (w' := w122) rfl (x_als (by kernel_rfl) ew123 eb124) ?_
    refine ws_next (pend' := [(4, v118), (3, .pointer (some ⟨b107, 0, none⟩)), (2, .pointer (some ⟨b107, 0, none⟩)), (1, .pointer (some ⟨b107, 0, none⟩)), (0, .pointer (some ⟨b107, 0, none⟩))]) hst (by kernel_rfl) (pk_cons rfl (yi_run rfl (fun w hst => x_load rfl Try.isAgg62 (hst.bc1 rfl))) (pk_cons rfl (yi_run rfl (fun w hst => x_field rfl Try.underlying64 rfl Try.sizeOf62 rfl)) (pk_cons rfl (yi_run rfl (fun w hst => rfl)) (pk_cons rfl (yi_run rfl (fun w hst => rfl)) (pk_cons rfl (yi_run rfl (fun w hst => rfl)) pk_nil))))) ?_
    refine ws_e rfl rfl ?_
    clear hst
    intro w hst
    obtain ⟨hg126, hm⟩ := gd_some hm
    replace hst := hst.pull2
    obtain ⟨v127, w128, hr129, hst⟩ := run_append elem_62 Try.underlying62 hst hst.src1 (room_of hg126 rfl) 62
    refine we_run (v := v127) (w' := w128) rfl (x_append rfl rfl hr129) ?_
    refine ws_next (pend' := [(0, .pointer (some ⟨b107, 0, none⟩))]) hst (by kernel_rfl) (pk_cons rfl (yi_run rfl (fun w hst => rfl)) pk_nil) ?_
    refine ws_q (v := .pointer (some ⟨b107, 0, none⟩)) rfl rfl (yi_run rfl (fun w hst => rfl)) ?_
    refine ws_q (v := .pointer (some ⟨b107, 0, none⟩)) rfl rfl (yi_run rfl (fun w hst => x_field rfl Try.underlying64 rfl Try.sizeOf62 rfl)) ?_
    refine ws_e rfl rfl ?_
    clear hst
    intro w hst
    replace hst := hst.pull2
    obtain ⟨w130, hr131, hst⟩ := hst.boxStore1 (P := Try.prog) (t := 62) (cs' := [v127]) 0 v127 (one_of_sliceV hst.sv1) Try.sizeOf62 rfl rfl
    refine we_unit rfl (x_unit hr131) ?_
    refine ws_next (pend' := []) hst (by kernel_rfl) pk_nil ?_
    refine ws_nil ?_
    intro w hst
    replace hst := hst.pull1
    replace hst := hst.pull1
    replace hst := at_policy_Book_close (pv := .pointer (some ⟨b107, 0, none⟩)) (x := ({ l := (y115.l ++ ([({ r := a1, from_ := a2, to_ := (0:Int) } : policy_line)])) } : policy_Book)) hst rfl
    replace hst := objO_some hst
    obtain rfl := some_inj hm
    refine post_end (vs := []) Try.results10 rvs_nil ?_
    exact ⟨rfl, hst.keep1⟩

theorem policy_Book_At_ref {w0 w : World} {I : HL} {R : SP} {a0 : (Option policy_Book)} {p0 : Value} {a1 : Int} {a2 : Int}  (hst : St w0 w I [objO at_policy_Book p0 a0] R) {r : (api_Rule × Bool)} (hm : policy_Book_At a0 a1 a2 = some r) :
    Calls Try.prog 11 #[p0, .int .u64 a1, .int .u64 a2] w fun e w' => e = .returned (.tuple #[.agg #[.int .u64 r.1.ID, .int .i64 r.1.From, .int .i64 r.1.To, .float .f64 r.1.Lo, .float .f64 r.1.Hi, .int .u64 r.1.Authority, .int .i64 r.1.Quota], .bool r.2]) ∧ St w0 w' I [objO at_policy_Book p0 a0] R := by
  rcases a0 with _ | o0
  · skip
    obtain ⟨rfl, hst'⟩ := objO_none hst
    clear hst
    have hst := hst'
    clear hst'
    dsimp only [policy_Book_At] at hm
    refine calls_start (args := [.pointer none, .int .u64 a1, .int .u64 a2]) Try.func11 rfl Try.ntmps11 (Nat.le_of_ble_eq_true rfl) ?_
    refine wp_seq ?_
    refine wp_region_lit ?_
    obtain ⟨b178, w179, ew180, eb181, hst⟩ := hst.box [.int .u64 (0:Int), .int .i64 (0:Int), .int .i64 (0:Int), .float .f64 (0:Nat), .float .f64 (0:Nat), .int .u64 (0:Int), .int .i64 (0:Int)] 30
    refine wl_run (v := .pointer (some ⟨b178, 0, none⟩)) (w' := w179) rfl rfl (x_al (by kernel_rfl) ew180 eb181) ?_
    refine wl_val (v := .bool false) rfl rfl rfl ?_
    refine wl_nil ?_
    refine then_n ?_
    refine wp_seq ?_
    refine wp_seq ?_
    refine wp_region_lit ?_
    refine wl_val (v := .pointer none) rfl rfl rfl ?_
    refine wl_val (v := .bool true) rfl rfl (by kernel_rfl) ?_
    refine wl_nil ?_
    refine then_n ?_
    refine wp_ift rfl ?_
    refine wp_seq ?_
    refine wp_region_lit ?_
    refine wl_val (v := .agg #[.int .u64 (0:Int), .int .i64 (0:Int), .int .i64 (0:Int), .float .f64 (0:Nat), .float .f64 (0:Nat), .int .u64 (0:Int), .int .i64 (0:Int)]) rfl rfl (by kernel_rfl) ?_
    obtain ⟨w183, hr184, hst⟩ := hst.boxStore (P := Try.prog) (t := 30) (cs' := [.int .u64 (0:Int), .int .i64 (0:Int), .int .i64 (0:Int), .float .f64 (0:Nat), .float .f64 (0:Nat), .int .u64 (0:Int), .int .i64 (0:Int)]) 0 (.agg #[.int .u64 (0:Int), .int .i64 (0:Int), .int .i64 (0:Int), .float .f64 (0:Nat), .float .f64 (0:Nat), .int .u64 (0:Int), .int .i64 (0:Int)]) Try.sizeOf30 (Nat.le_of_ble_eq_true rfl) (ones_cons rfl (ones_cons rfl (ones_cons rfl (ones_cons rfl (ones_cons rfl (ones_cons rfl (ones_cons rfl ones_nil))))))) rfl
    refine wl_unit rfl rfl (x_unit hr184) ?_
    refine wl_val (v := .bool false) rfl rfl rfl ?_
    refine wl_nil ?_
    refine then_n ?_
    refine wp_ret ?_
    refine then_r ?_
    replace hst := hst.objO_nil at_policy_Book
    obtain rfl := some_inj hm
    refine post_ret (vs := [.agg #[.int .u64 (0:Int), .int .i64 (0:Int), .int .i64 (0:Int), .float .f64 (0:Nat), .float .f64 (0:Nat), .int .u64 (0:Int), .int .i64 (0:Int)], .bool false]) Try.results11 (rvs_cons (rv_cell (cs := [.int .u64 (0:Int), .int .i64 (0:Int), .int .i64 (0:Int), .float .f64 (0:Nat), .float .f64 (0:Nat), .int .u64 (0:Int), .int .i64 (0:Int)]) rfl Try.isAgg30 Try.sizeOf30 (hst.bcs1 0 rfl)) (rvs_cons (rv_tmp rfl) rvs_nil)) ?_
    exact ⟨rfl, hst.keep1⟩
  · skip
    replace hst := objO_get hst
    dsimp only [policy_Book_At] at hm
    refine calls_start (args := [p0, .int .u64 a1, .int .u64 a2]) Try.func11 rfl Try.ntmps11 (Nat.le_of_ble_eq_true rfl) ?_
    refine wp_seq ?_
    refine wp_region_lit ?_
    obtain ⟨b185, w186, ew187, eb188, hst⟩ := hst.box [.int .u64 (0:Int), .int .i64 (0:Int), .int .i64 (0:Int), .float .f64 (0:Nat), .float .f64 (0:Nat), .int .u64 (0:Int), .int .i64 (0:Int)] 30
    refine wl_run (v := .pointer (some ⟨b185, 0, none⟩)) (w' := w186) rfl rfl (x_al (by kernel_rfl) ew187 eb188) ?_
    refine wl_val (v := .bool false) rfl rfl rfl ?_
    refine wl_nil ?_
    refine then_n ?_
    refine wp_seq ?_
    refine wp_seq ?_
    refine wp_region_lit ?_
    refine wl_val (v := p0) rfl rfl rfl ?_
    replace hst := hst.pull1
    obtain ⟨b190, v191, rfl, hst'⟩ := at_policy_Book_open hst
    clear hst
    have hst := hst'
    clear hst'
    refine wl_val (v := .bool false) rfl rfl (by kernel_rfl) ?_
    refine wl_nil ?_
    refine then_n ?_
    refine wp_iff rfl ?_
    refine wp_skip ?_
    refine then_n ?_
    refine wp_seq ?_
    refine wp_seq ?_
    refine wp_region_lit ?_
    refine wl_val (v := .pointer (some ⟨b190, 0, none⟩)) rfl rfl rfl ?_
    refine wl_val (v := .pointer (some ⟨b190, 0, none⟩)) rfl rfl rfl ?_
    refine wl_val (v := .pointer (some ⟨b190, 0, none⟩)) rfl rfl (x_field rfl Try.underlying64 rfl Try.sizeOf62 rfl) ?_
    refine wl_val (v := v191) rfl rfl (x_load rfl Try.isAgg62 (hst.bc0 rfl)) ?_
    refine wl_val (v := .int .i64 ((o0.l).length : Int)) rfl rfl (x_len rfl Try.underlying62 hst.sv1) ?_
    refine wl_val (v := .int .i64 (IntKind.i64.wrap (((o0.l).length : Int) - (1:Int)))) rfl rfl rfl ?_
    refine wl_val (v := .int .i64 (IntKind.i64.wrap (((o0.l).length : Int) - (1:Int)))) rfl rfl rfl ?_
    refine wl_nil ?_
    refine then_n ?_
    refine wp_block ?_
    replace hst := hst.pull1
    replace hst := hst.pull1
    replace hst := at_policy_Book_close (pv := .pointer (some ⟨b190, 0, none⟩)) (x := o0) hst rfl
    obtain ⟨n246, hm⟩ := loopO_some hm
    refine wp_loop_n (fun n a w => ∃ (z244 : Int) (σ245 : Nat → Value), loopN (policy_Book_At_l0 o0 a1 a2) n z244 = some r ∧ a = Fr 55 (upd (upd (upd (upd (upd σ245 0 (.pointer (some ⟨b190, 0, none⟩))) 1 (.int .u64 a1)) 2 (.int .u64 a2)) 6 (.pointer (some ⟨b185, 0, none⟩))) 8 (.int .i64 z244)) ∧ St w0 w I [at_policy_Book (.pointer (some ⟨b190, 0, none⟩)) o0, cells b185 [.int .u64 (0:Int), .int .i64 (0:Int), .int .i64 (0:Int), .float .f64 (0:Nat), .float .f64 (0:Nat), .int .u64 (0:Int), .int .i64 (0:Int)]] R) n246 ⟨(IntKind.i64.wrap (((o0.l).length : Int) - (1:Int))), _, hm, ((fr_upd (t := 0) (v := .pointer (some ⟨b190, 0, none⟩)) rfl).trans ((fr_upd (t := 1) (v := .int .u64 a1) rfl).trans ((fr_upd (t := 2) (v := .int .u64 a2) rfl).trans ((fr_upd (t := 6) (v := .pointer (some ⟨b185, 0, none⟩)) rfl).trans ((fr_upd (t := 8) (v := .int .i64 (IntKind.i64.wrap (((o0.l).length : Int) - (1:Int)))) rfl).trans rfl))))), hst⟩ ?_
    rintro n252 _ w247 ⟨z244, σ245, hm, rfl, hst⟩
    obtain ⟨n249, y250, rfl, hm, hx251⟩ := loopN_some hm
    dsimp only [policy_Book_At_l0] at hm
    refine wp_seq ?_
    refine wp_seq ?_
    refine wp_region_lit ?_
    refine wl_val (v := .int .i64 z244) rfl rfl rfl ?_
    refine wl_val (v := .bool (decide (z244 ≥ (0:Int)))) rfl rfl rfl ?_
    refine wl_nil ?_
    refine then_n ?_
    refine bsplit (decide (z244 ≥ (0:Int))) (fun hc253 => ?_) (fun hc253 => ?_)
    · skip
      replace hm := bif_t hc253 hm
      refine wp_ift (congrArg Value.bool hc253) ?_
      refine wp_skip ?_
      refine then_n ?_
      refine wp_seq ?_
      refine wp_block ?_
      refine wp_seq ?_
      refine wp_region_lit ?_
      refine wl_val (v := .pointer (some ⟨b190, 0, none⟩)) rfl rfl rfl ?_
      obtain ⟨b254, v255, e257, hst'⟩ := at_policy_Book_open hst
      clear hst
      have e257 := ptr_inj e257
      subst e257
      have hst := hst'
      clear hst'
      refine wl_val (v := .pointer (some ⟨b190, 0, none⟩)) rfl rfl rfl ?_
      refine wl_val (v := .pointer (some ⟨b190, 0, none⟩)) rfl rfl (x_field rfl Try.underlying64 rfl Try.sizeOf62 rfl) ?_
      refine wl_val (v := v255) rfl rfl (x_load rfl Try.isAgg62 (hst.bc0 rfl)) ?_
      refine wl_val (v := .int .i64 z244) rfl rfl rfl ?_
      obtain ⟨x258, hx259, hm⟩ := bind_some hm
      obtain ⟨h260, h261, hi262⟩ := geto_some hx259
      refine wl_val (v := .pointer (some (eAddr v255 (z244.toNat * 9 + 0)))) rfl rfl (x_index rfl rfl Try.underlying62 Try.sizeOf66 hst.sv1 h260 h261) ?_
      refine wl_val (v := .agg #[.int .u64 x258.r.ID, .int .i64 x258.r.From, .int .i64 x258.r.To, .float .f64 x258.r.Lo, .float .f64 x258.r.Hi, .int .u64 x258.r.Authority, .int .i64 x258.r.Quota, .int .u64 x258.from_, .int .u64 x258.to_]) rfl rfl (x_loadN (cs := [.int .u64 x258.r.ID, .int .i64 x258.r.From, .int .i64 x258.r.To, .float .f64 x258.r.Lo, .float .f64 x258.r.Hi, .int .u64 x258.r.Authority, .int .i64 x258.r.Quota, .int .u64 x258.from_, .int .u64 x258.to_]) rfl Try.isAgg66 Try.sizeOf66 (hst.olN1 hi262 0 (by rintro _ rfl; rfl))) ?_
      obtain ⟨b263, w264, ew265, eb266, hst⟩ := hst.box [.int .u64 (0:Int), .int .i64 (0:Int), .int .i64 (0:Int), .float .f64 (0:Nat), .float .f64 (0:Nat), .int .u64 (0:Int), .int .i64 (0:Int), .int .u64 (0:Int), .int .u64 (0:Int)] 66
      refine wl_run (v := .pointer (some ⟨b263, 0, none⟩)) (w' := w264) rfl rfl (x_al (by kernel_rfl) ew265 eb266) ?_
      obtain ⟨w268, hr269, hst⟩ := hst.boxStore (P := Try.prog) (t := 66) (cs' := [.int .u64 x258.r.ID, .int .i64 x258.r.From, .int .i64 x258.r.To, .float .f64 x258.r.Lo, .float .f64 x258.r.Hi, .int .u64 x258.r.Authority, .int .i64 x258.r.Quota, .int .u64 x258.from_, .int .u64 x258.to_]) 0 (.agg #[.int .u64 x258.r.ID, .int .i64 x258.r.From, .int .i64 x258.r.To, .float .f64 x258.r.Lo, .float .f64 x258.r.Hi, .int .u64 x258.r.Authority, .int .i64 x258.r.Quota, .int .u64 x258.from_, .int .u64 x258.to_]) Try.sizeOf66 (Nat.le_of_ble_eq_true rfl) (ones_cons rfl (ones_cons rfl (ones_cons rfl (ones_cons rfl (ones_cons rfl (ones_cons rfl (ones_cons rfl (ones_cons rfl (ones_cons rfl ones_nil))))))))) rfl
      refine wl_unit rfl rfl (x_unit hr269) ?_
      refine wl_nil ?_
      refine then_n ?_
      refine wp_seq ?_
      refine wp_region_lit ?_
      refine wl_val (v := .pointer (some ⟨b263, 0, none⟩)) rfl rfl (x_field rfl Try.underlying66 rfl Try.sizeOf30 rfl) ?_
      refine wl_val (v := .pointer (some ⟨b263, 0, none⟩)) rfl rfl (x_field rfl Try.underlying30 rfl Try.sizeOf27 rfl) ?_
      refine wl_val (v := .int .u64 x258.r.ID) rfl rfl (x_load rfl Try.isAgg27 (hst.bc0 rfl)) ?_
      refine wl_val (v := .int .u64 a1) rfl rfl rfl ?_
      refine wl_val (v := .bool (x258.r.ID == a1)) rfl rfl rfl ?_
      refine wl_val (v := .bool (x258.r.ID == a1)) rfl rfl rfl ?_
      refine bsplit (x258.r.ID == a1) (fun hc270 => ?_) (fun hc270 => ?_)
      · skip
        replace hm := bif_t hc270 hm
        refine wl_val (v := .pointer (some ⟨b263, 7, none⟩)) ((wanted_eq rfl rfl rfl (congrArg Value.bool hc270)).trans rfl) rfl (x_field rfl Try.underlying66 rfl Try.sizeOf27 rfl) ?_
        refine wl_val (v := .int .u64 x258.from_) ((wanted_eq rfl rfl rfl (congrArg Value.bool hc270)).trans rfl) rfl (x_load rfl Try.isAgg27 (hst.bc0 rfl)) ?_
        refine wl_val (v := .int .u64 a2) ((wanted_eq rfl rfl rfl (congrArg Value.bool hc270)).trans rfl) rfl rfl ?_
        refine wl_val (v := .bool (decide (x258.from_ ≤ a2))) ((wanted_eq rfl rfl rfl (congrArg Value.bool hc270)).trans rfl) rfl rfl ?_
        refine wl_val (v := .bool (decide (x258.from_ ≤ a2))) rfl rfl (x_pick_t hc270 rfl rfl) ?_
        refine wl_val (v := .bool (decide (x258.from_ ≤ a2))) rfl rfl rfl ?_
        refine bsplit (decide (x258.from_ ≤ a2)) (fun hc271 => ?_) (fun hc271 => ?_)
        · skip
          replace hm := bif_t hc271 hm
          refine wl_val (v := .pointer (some ⟨b263, 8, none⟩)) ((wanted_eq rfl rfl rfl (congrArg Value.bool hc271)).trans rfl) rfl (x_field rfl Try.underlying66 rfl Try.sizeOf27 rfl) ?_
          refine wl_val (v := .int .u64 x258.to_) ((wanted_eq rfl rfl rfl (congrArg Value.bool hc271)).trans rfl) rfl (x_load rfl Try.isAgg27 (hst.bc0 rfl)) ?_
          refine wl_val (v := .bool (x258.to_ == (0:Int))) ((wanted_eq rfl rfl rfl (congrArg Value.bool hc271)).trans rfl) rfl rfl ?_
          refine wl_val (v := .bool (x258.to_ == (0:Int))) ((wanted_eq rfl rfl rfl (congrArg Value.bool hc271)).trans rfl) rfl rfl ?_
          refine bsplit (x258.to_ == (0:Int)) (fun hc272 => ?_) (fun hc272 => ?_)
          · skip
            replace hm := bif_t hc272 hm
            refine wl_off ((wanted_eq rfl rfl rfl (congrArg Value.bool hc272)).trans rfl) rfl ?_
            refine wl_off ((wanted_eq rfl rfl rfl (congrArg Value.bool hc272)).trans rfl) rfl ?_
            refine wl_off ((wanted_eq rfl rfl rfl (congrArg Value.bool hc272)).trans rfl) rfl ?_
            refine wl_off ((wanted_eq rfl rfl rfl (congrArg Value.bool hc272)).trans rfl) rfl ?_
            refine wl_val (v := .bool true) ((wanted_eq rfl rfl rfl (congrArg Value.bool hc271)).trans rfl) rfl (x_pick_t hc272 rfl rfl) ?_
            refine wl_val (v := .bool true) rfl rfl (x_pick_t hc271 rfl rfl) ?_
            refine wl_nil ?_
            refine then_n ?_
            refine wp_ift rfl ?_
            refine wp_seq ?_
            refine wp_region_lit ?_
            refine wl_val (v := .pointer (some ⟨b263, 0, none⟩)) rfl rfl (x_field rfl Try.underlying66 rfl Try.sizeOf30 rfl) ?_
            refine wl_val (v := .agg #[.int .u64 x258.r.ID, .int .i64 x258.r.From, .int .i64 x258.r.To, .float .f64 x258.r.Lo, .float .f64 x258.r.Hi, .int .u64 x258.r.Authority, .int .i64 x258.r.Quota]) rfl rfl (x_loadN (cs := [.int .u64 x258.r.ID, .int .i64 x258.r.From, .int .i64 x258.r.To, .float .f64 x258.r.Lo, .float .f64 x258.r.Hi, .int .u64 x258.r.Authority, .int .i64 x258.r.Quota]) rfl Try.isAgg30 Try.sizeOf30 (hst.bcs0 0 rfl)) ?_
            replace hst := hst.pull3
            obtain ⟨w273, hr274, hst⟩ := hst.boxStore (P := Try.prog) (t := 30) (cs' := [.int .u64 x258.r.ID, .int .i64 x258.r.From, .int .i64 x258.r.To, .float .f64 x258.r.Lo, .float .f64 x258.r.Hi, .int .u64 x258.r.Authority, .int .i64 x258.r.Quota]) 0 (.agg #[.int .u64 x258.r.ID, .int .i64 x258.r.From, .int .i64 x258.r.To, .float .f64 x258.r.Lo, .float .f64 x258.r.Hi, .int .u64 x258.r.Authority, .int .i64 x258.r.Quota]) Try.sizeOf30 (Nat.le_of_ble_eq_true rfl) (ones_cons rfl (ones_cons rfl (ones_cons rfl (ones_cons rfl (ones_cons rfl (ones_cons rfl (ones_cons rfl ones_nil))))))) rfl
            refine wl_unit rfl rfl (x_unit hr274) ?_
            refine wl_val (v := .bool true) rfl rfl rfl ?_
            refine wl_nil ?_
            refine then_n ?_
            refine wp_ret ?_
            refine blk_r ?_
            refine then_r ?_
            refine then_r ?_
            replace hm := inr_up hm hx251
            refine blk_r ?_
            refine then_r ?_
            replace hst := hst.pull3
            replace hst := hst.pull3
            replace hst := at_policy_Book_close (pv := .pointer (some ⟨b190, 0, none⟩)) (x := o0) hst rfl
            replace hst := objO_some hst
            obtain rfl := some_inj hm
            refine post_ret (vs := [.agg #[.int .u64 x258.r.ID, .int .i64 x258.r.From, .int .i64 x258.r.To, .float .f64 x258.r.Lo, .float .f64 x258.r.Hi, .int .u64 x258.r.Authority, .int .i64 x258.r.Quota], .bool true]) Try.results11 (rvs_cons (rv_cell (cs := [.int .u64 x258.r.ID, .int .i64 x258.r.From, .int .i64 x258.r.To, .float .f64 x258.r.Lo, .float .f64 x258.r.Hi, .int .u64 x258.r.Authority, .int .i64 x258.r.Quota]) rfl Try.isAgg30 Try.sizeOf30 (hst.bcs1 0 rfl)) (rvs_cons (rv_tmp rfl) rvs_nil)) ?_
            exact ⟨rfl, hst.keep1⟩
          · skip
            replace hm := bif_f hc272 hm
            refine wl_val (v := .pointer (some ⟨b263, 8, none⟩)) ((wanted_eq rfl rfl rfl (congrArg Value.bool hc272)).trans rfl) rfl (x_field rfl Try.underlying66 rfl Try.sizeOf27 rfl) ?_
            refine wl_val (v := .int .u64 x258.to_) ((wanted_eq rfl rfl rfl (congrArg Value.bool hc272)).trans rfl) rfl (x_load rfl Try.isAgg27 (hst.bc0 rfl)) ?_
            refine wl_val (v := .int .u64 a2) ((wanted_eq rfl rfl rfl (congrArg Value.bool hc272)).trans rfl) rfl rfl ?_
            refine wl_val (v := .bool (decide (x258.to_ > a2))) ((wanted_eq rfl rfl rfl (congrArg Value.bool hc272)).trans rfl) rfl rfl ?_
            refine wl_val (v := .bool (decide (x258.to_ > a2))) ((wanted_eq rfl rfl rfl (congrArg Value.bool hc271)).trans rfl) rfl (x_pick_f hc272 rfl rfl) ?_
            refine wl_val (v := .bool (decide (x258.to_ > a2))) rfl rfl (x_pick_t hc271 rfl rfl) ?_
            refine wl_nil ?_
            refine then_n ?_
            refine bsplit (decide (x258.to_ > a2)) (fun hc275 => ?_) (fun hc275 => ?_)
            · skip
              replace hm := bif_t hc275 hm
              refine wp_ift (congrArg Value.bool hc275) ?_
              refine wp_seq ?_
              refine wp_region_lit ?_
              refine wl_val (v := .pointer (some ⟨b263, 0, none⟩)) rfl rfl (x_field rfl Try.underlying66 rfl Try.sizeOf30 rfl) ?_
              refine wl_val (v := .agg #[.int .u64 x258.r.ID, .int .i64 x258.r.From, .int .i64 x258.r.To, .float .f64 x258.r.Lo, .float .f64 x258.r.Hi, .int .u64 x258.r.Authority, .int .i64 x258.r.Quota]) rfl rfl (x_loadN (cs := [.int .u64 x258.r.ID, .int .i64 x258.r.From, .int .i64 x258.r.To, .float .f64 x258.r.Lo, .float .f64 x258.r.Hi, .int .u64 x258.r.Authority, .int .i64 x258.r.Quota]) rfl Try.isAgg30 Try.sizeOf30 (hst.bcs0 0 rfl)) ?_
              replace hst := hst.pull3
              obtain ⟨w276, hr277, hst⟩ := hst.boxStore (P := Try.prog) (t := 30) (cs' := [.int .u64 x258.r.ID, .int .i64 x258.r.From, .int .i64 x258.r.To, .float .f64 x258.r.Lo, .float .f64 x258.r.Hi, .int .u64 x258.r.Authority, .int .i64 x258.r.Quota]) 0 (.agg #[.int .u64 x258.r.ID, .int .i64 x258.r.From, .int .i64 x258.r.To, .float .f64 x258.r.Lo, .float .f64 x258.r.Hi, .int .u64 x258.r.Authority, .int .i64 x258.r.Quota]) Try.sizeOf30 (Nat.le_of_ble_eq_true rfl) (ones_cons rfl (ones_cons rfl (ones_cons rfl (ones_cons rfl (ones_cons rfl (ones_cons rfl (ones_cons rfl ones_nil))))))) rfl
              refine wl_unit rfl rfl (x_unit hr277) ?_
              refine wl_val (v := .bool true) rfl rfl rfl ?_
              refine wl_nil ?_
              refine then_n ?_
              refine wp_ret ?_
              refine blk_r ?_
              refine then_r ?_
              refine then_r ?_
              replace hm := inr_up hm hx251
              refine blk_r ?_
              refine then_r ?_
              replace hst := hst.pull3
              replace hst := hst.pull3
              replace hst := at_policy_Book_close (pv := .pointer (some ⟨b190, 0, none⟩)) (x := o0) hst rfl
              replace hst := objO_some hst
              obtain rfl := some_inj hm
              refine post_ret (vs := [.agg #[.int .u64 x258.r.ID, .int .i64 x258.r.From, .int .i64 x258.r.To, .float .f64 x258.r.Lo, .float .f64 x258.r.Hi, .int .u64 x258.r.Authority, .int .i64 x258.r.Quota], .bool true]) Try.results11 (rvs_cons (rv_cell (cs := [.int .u64 x258.r.ID, .int .i64 x258.r.From, .int .i64 x258.r.To, .float .f64 x258.r.Lo, .float .f64 x258.r.Hi, .int .u64 x258.r.Authority, .int .i64 x258.r.Quota]) rfl Try.isAgg30 Try.sizeOf30 (hst.bcs1 0 rfl)) (rvs_cons (rv_tmp rfl) rvs_nil)) ?_
              exact ⟨rfl, hst.keep1⟩
            · skip
              replace hm := bif_f hc275 hm
              refine wp_iff (congrArg Value.bool hc275) ?_
              refine wp_skip ?_
              refine blk_n ?_
              refine then_n ?_
              refine wp_region_lit ?_
              refine wl_val (v := .int .i64 z244) rfl rfl rfl ?_
              refine wl_val (v := .int .i64 (IntKind.i64.wrap (z244 - (1:Int)))) rfl rfl rfl ?_
              refine wl_val (v := .int .i64 (IntKind.i64.wrap (z244 - (1:Int)))) rfl rfl rfl ?_
              refine wl_nil ?_
              refine then_n ?_
              replace hst := hst.pull2
              replace hst := hst.pull2
              replace hst := at_policy_Book_close (pv := .pointer (some ⟨b190, 0, none⟩)) (x := o0) hst rfl
              replace hst := hst.pull2
              replace hst := hst.pull1
              replace hst := hst.keep2
              obtain rfl := some_inj hm
              exact ⟨_, Nat.lt_succ_self _, (IntKind.i64.wrap (z244 - (1:Int))), _, hx251, ((fr_upd (t := 0) (v := .pointer (some ⟨b190, 0, none⟩)) rfl).trans ((fr_upd (t := 1) (v := .int .u64 a1) rfl).trans ((fr_upd (t := 2) (v := .int .u64 a2) rfl).trans ((fr_upd (t := 6) (v := .pointer (some ⟨b185, 0, none⟩)) rfl).trans ((fr_upd (t := 8) (v := .int .i64 (IntKind.i64.wrap (z244 - (1:Int)))) rfl).trans rfl))))), hst⟩
        · skip
          replace hm := bif_f hc271 hm
          refine wl_off ((wanted_eq rfl rfl rfl (congrArg Value.bool hc271)).trans rfl) rfl ?_
          refine wl_off ((wanted_eq rfl rfl rfl (congrArg Value.bool hc271)).trans rfl) rfl ?_
          refine wl_off ((wanted_eq rfl rfl rfl (congrArg Value.bool hc271)).trans rfl) rfl ?_
          refine wl_off ((wanted_eq rfl rfl rfl (congrArg Value.bool hc271)).trans rfl) rfl ?_
          refine wl_off (wanted_undef rfl rfl rfl rfl) rfl ?_
          refine wl_off (wanted_undef rfl rfl rfl rfl) rfl ?_
          refine wl_off (wanted_undef rfl rfl rfl rfl) rfl ?_
          refine wl_off (wanted_undef rfl rfl rfl rfl) rfl ?_
          refine wl_off ((wanted_eq rfl rfl rfl (congrArg Value.bool hc271)).trans rfl) rfl ?_
          refine wl_val (v := .bool false) rfl rfl (x_pick_f hc271 rfl rfl) ?_
          refine wl_nil ?_
          refine then_n ?_
          refine wp_iff rfl ?_
          refine wp_skip ?_
          refine blk_n ?_
          refine then_n ?_
          refine wp_region_lit ?_
          refine wl_val (v := .int .i64 z244) rfl rfl rfl ?_
          refine wl_val (v := .int .i64 (IntKind.i64.wrap (z244 - (1:Int)))) rfl rfl rfl ?_
          refine wl_val (v := .int .i64 (IntKind.i64.wrap (z244 - (1:Int)))) rfl rfl rfl ?_
          refine wl_nil ?_
          refine then_n ?_
          replace hst := hst.pull2
          replace hst := hst.pull2
          replace hst := at_policy_Book_close (pv := .pointer (some ⟨b190, 0, none⟩)) (x := o0) hst rfl
          replace hst := hst.pull2
          replace hst := hst.pull1
          replace hst := hst.keep2
          obtain rfl := some_inj hm
          exact ⟨_, Nat.lt_succ_self _, (IntKind.i64.wrap (z244 - (1:Int))), _, hx251, ((fr_upd (t := 0) (v := .pointer (some ⟨b190, 0, none⟩)) rfl).trans ((fr_upd (t := 1) (v := .int .u64 a1) rfl).trans ((fr_upd (t := 2) (v := .int .u64 a2) rfl).trans ((fr_upd (t := 6) (v := .pointer (some ⟨b185, 0, none⟩)) rfl).trans ((fr_upd (t := 8) (v := .int .i64 (IntKind.i64.wrap (z244 - (1:Int)))) rfl).trans rfl))))), hst⟩
      · skip
        replace hm := bif_f hc270 hm
        refine wl_off ((wanted_eq rfl rfl rfl (congrArg Value.bool hc270)).trans rfl) rfl ?_
        refine wl_off ((wanted_eq rfl rfl rfl (congrArg Value.bool hc270)).trans rfl) rfl ?_
        refine wl_off ((wanted_eq rfl rfl rfl (congrArg Value.bool hc270)).trans rfl) rfl ?_
        refine wl_off ((wanted_eq rfl rfl rfl (congrArg Value.bool hc270)).trans rfl) rfl ?_
        refine wl_val (v := .bool false) rfl rfl (x_pick_f hc270 rfl rfl) ?_
        refine wl_val (v := .bool false) rfl rfl rfl ?_
        refine wl_off ((wanted_eq rfl rfl rfl rfl).trans rfl) rfl ?_
        refine wl_off ((wanted_eq rfl rfl rfl rfl).trans rfl) rfl ?_
        refine wl_off ((wanted_eq rfl rfl rfl rfl).trans rfl) rfl ?_
        refine wl_off ((wanted_eq rfl rfl rfl rfl).trans rfl) rfl ?_
        refine wl_off (wanted_undef rfl rfl rfl rfl) rfl ?_
        refine wl_off (wanted_undef rfl rfl rfl rfl) rfl ?_
        refine wl_off (wanted_undef rfl rfl rfl rfl) rfl ?_
        refine wl_off (wanted_undef rfl rfl rfl rfl) rfl ?_
        refine wl_off ((wanted_eq rfl rfl rfl rfl).trans rfl) rfl ?_
        refine wl_val (v := .bool false) rfl rfl (x_pick_f rfl rfl rfl) ?_
        refine wl_nil ?_
        refine then_n ?_
        refine wp_iff rfl ?_
        refine wp_skip ?_
        refine blk_n ?_
        refine then_n ?_
        refine wp_region_lit ?_
        refine wl_val (v := .int .i64 z244) rfl rfl rfl ?_
        refine wl_val (v := .int .i64 (IntKind.i64.wrap (z244 - (1:Int)))) rfl rfl rfl ?_
        refine wl_val (v := .int .i64 (IntKind.i64.wrap (z244 - (1:Int)))) rfl rfl rfl ?_
        refine wl_nil ?_
        refine then_n ?_
        replace hst := hst.pull2
        replace hst := hst.pull2
        replace hst := at_policy_Book_close (pv := .pointer (some ⟨b190, 0, none⟩)) (x := o0) hst rfl
        replace hst := hst.pull2
        replace hst := hst.pull1
        replace hst := hst.keep2
        obtain rfl := some_inj hm
        exact ⟨_, Nat.lt_succ_self _, (IntKind.i64.wrap (z244 - (1:Int))), _, hx251, ((fr_upd (t := 0) (v := .pointer (some ⟨b190, 0, none⟩)) rfl).trans ((fr_upd (t := 1) (v := .int .u64 a1) rfl).trans ((fr_upd (t := 2) (v := .int .u64 a2) rfl).trans ((fr_upd (t := 6) (v := .pointer (some ⟨b185, 0, none⟩)) rfl).trans ((fr_upd (t := 8) (v := .int .i64 (IntKind.i64.wrap (z244 - (1:Int)))) rfl).trans rfl))))), hst⟩
    · skip
      replace hm := bif_f hc253 hm
      refine wp_iff (congrArg Value.bool hc253) ?_
      refine wp_exit ?_
      refine then_x ?_
      refine then_x ?_
      replace hm := inr_up hm hx251
      refine blk_x ?_
      refine then_n ?_
      refine wp_seq ?_
      refine wp_region_lit ?_
      refine wl_val (v := .agg #[.int .u64 (0:Int), .int .i64 (0:Int), .int .i64 (0:Int), .float .f64 (0:Nat), .float .f64 (0:Nat), .int .u64 (0:Int), .int .i64 (0:Int)]) rfl rfl (by kernel_rfl) ?_
      replace hst := hst.pull1
      obtain ⟨w278, hr279, hst⟩ := hst.boxStore (P := Try.prog) (t := 30) (cs' := [.int .u64 (0:Int), .int .i64 (0:Int), .int .i64 (0:Int), .float .f64 (0:Nat), .float .f64 (0:Nat), .int .u64 (0:Int), .int .i64 (0:Int)]) 0 (.agg #[.int .u64 (0:Int), .int .i64 (0:Int), .int .i64 (0:Int), .float .f64 (0:Nat), .float .f64 (0:Nat), .int .u64 (0:Int), .int .i64 (0:Int)]) Try.sizeOf30 (Nat.le_of_ble_eq_true rfl) (ones_cons rfl (ones_cons rfl (ones_cons rfl (ones_cons rfl (ones_cons rfl (ones_cons rfl (ones_cons rfl ones_nil))))))) rfl
      refine wl_unit rfl rfl (x_unit hr279) ?_
      refine wl_val (v := .bool false) rfl rfl rfl ?_
      refine wl_nil ?_
      refine then_n ?_
      refine wp_ret ?_
      replace hst := hst.pull1
      replace hst := objO_some hst
      obtain rfl := some_inj hm
      refine post_ret (vs := [.agg #[.int .u64 (0:Int), .int .i64 (0:Int), .int .i64 (0:Int), .float .f64 (0:Nat), .float .f64 (0:Nat), .int .u64 (0:Int), .int .i64 (0:Int)], .bool false]) Try.results11 (rvs_cons (rv_cell (cs := [.int .u64 (0:Int), .int .i64 (0:Int), .int .i64 (0:Int), .float .f64 (0:Nat), .float .f64 (0:Nat), .int .u64 (0:Int), .int .i64 (0:Int)]) rfl Try.isAgg30 Try.sizeOf30 (hst.bcs1 0 rfl)) (rvs_cons (rv_tmp rfl) rvs_nil)) ?_
      exact ⟨rfl, hst.keep1⟩

theorem law15_awake_ref {w0 w : World} {I : HL} {R : SP}   (hst : St w0 w I [] R) {r : (Bool)} (hm : law15_awake = some r) :
    Calls Try.prog 8 #[] w fun e w' => e = .returned (.bool r) ∧ St w0 w' I [] R := by
  unfold law15_awake at hm
  refine calls_start (args := []) Try.func8 rfl Try.ntmps8 (Nat.le_of_ble_eq_true rfl) ?_
  refine wp_seq ?_
  refine wp_region_lit ?_
  refine wl_val (v := .bool false) rfl rfl rfl ?_
  refine wl_nil ?_
  refine then_n ?_
  refine wp_seq ?_
  refine wp_region_lit ?_
  obtain ⟨t113, ht114, hm⟩ := bind_some hm
  refine wl_call rfl rfl (x_call Try.call9 rfl (vs := []) rfl) ?_
  refine (policy_New_ref hst.to0 ht114).mono ?_
  rintro _ w115 ⟨v118, rfl, hst⟩
  refine ⟨_, rfl, ?_⟩
  replace hst := hst.of1
  refine wl_val (v := v118) rfl rfl rfl ?_
  refine wl_nil ?_
  refine then_n ?_
  refine wp_seq ?_
  refine wp_region_lit ?_
  refine wl_val (v := v118) rfl rfl rfl ?_
  refine wl_val (v := .agg #[.int .u64 (5:Int), .int .i64 (0:Int), .int .i64 (0:Int), .float .f64 (0:Nat), .float .f64 (0:Nat), .int .u64 (0:Int), .int .i64 (1:Int)]) rfl rfl (by kernel_rfl) ?_
  replace hst := objO_some hst
  obtain ⟨t120, ht121, hm⟩ := bind_some hm
  refine wl_call rfl rfl (x_call Try.call10 rfl (vs := [v118, .agg #[.int .u64 (5:Int), .int .i64 (0:Int), .int .i64 (0:Int), .float .f64 (0:Nat), .float .f64 (0:Nat), .int .u64 (0:Int), .int .i64 (1:Int)], .int .u64 (2:Int)]) rfl) ?_
  refine (policy_Book_Grant_ref hst.to1 ht121).mono ?_
  rintro _ w122 ⟨rfl, hst⟩
  refine ⟨_, rfl, ?_⟩
  replace hst := hst.of1
  rcases he126 : t120 with _ | y125
  · rw [he126] at hm; cases hm
  rw [he126] at hm hst; dsimp only at hm; replace hst := objO_get hst
  refine wl_nil ?_
  refine then_n ?_
  refine wp_seq ?_
  refine wp_region_lit ?_
  refine wl_val (v := v118) rfl rfl rfl ?_
  replace hst := objO_some hst
  obtain ⟨t127, ht128, hm⟩ := bind_some hm
  refine wl_call rfl rfl (x_call Try.call13 rfl (vs := [v118, .int .u64 (5:Int), .int .u64 (4:Int)]) rfl) ?_
  refine (policy_Book_Revoke_ref hst.to1 ht128).mono ?_
  rintro _ w129 ⟨rfl, hst⟩
  refine ⟨_, rfl, ?_⟩
  replace hst := hst.of1
  rcases he133 : t127.2 with _ | y132
  · rw [he133] at hm; cases hm
  rw [he133] at hm hst; dsimp only at hm; replace hst := objO_get hst
  refine wl_nil ?_
  refine then_n ?_
  refine wp_seq ?_
  refine wp_region_lit ?_
  refine wl_val (v := v118) rfl rfl rfl ?_
  replace hst := objO_some hst
  obtain ⟨t134, ht135, hm⟩ := bind_some hm
  refine wl_call rfl rfl (x_call Try.call11 rfl (vs := [v118, .int .u64 (5:Int), .int .u64 (1:Int)]) rfl) ?_
  refine (policy_Book_At_ref hst.to1 ht135).mono ?_
  rintro _ w136 ⟨rfl, hst⟩
  refine ⟨_, rfl, ?_⟩
  replace hst := hst.of1
  replace hst := objO_get hst
  refine wl_val (v := .tuple #[.agg #[.int .u64 t134.1.ID, .int .i64 t134.1.From, .int .i64 t134.1.To, .float .f64 t134.1.Lo, .float .f64 t134.1.Hi, .int .u64 t134.1.Authority, .int .i64 t134.1.Quota], .bool t134.2]) rfl rfl rfl ?_
  refine wl_val (v := .agg #[.int .u64 t134.1.ID, .int .i64 t134.1.From, .int .i64 t134.1.To, .float .f64 t134.1.Lo, .float .f64 t134.1.Hi, .int .u64 t134.1.Authority, .int .i64 t134.1.Quota]) rfl rfl rfl ?_
  refine wl_val (v := .bool t134.2) rfl rfl rfl ?_
  obtain ⟨b139, w140, ew141, eb142, hst⟩ := hst.box [.int .u64 (0:Int), .int .i64 (0:Int), .int .i64 (0:Int), .float .f64 (0:Nat), .float .f64 (0:Nat), .int .u64 (0:Int), .int .i64 (0:Int)] 30
  refine wl_run (v := .pointer (some ⟨b139, 0, none⟩)) (w' := w140) rfl rfl (x_al (by kernel_rfl) ew141 eb142) ?_
  obtain ⟨w144, hr145, hst⟩ := hst.boxStore (P := Try.prog) (t := 30) (cs' := [.int .u64 t134.1.ID, .int .i64 t134.1.From, .int .i64 t134.1.To, .float .f64 t134.1.Lo, .float .f64 t134.1.Hi, .int .u64 t134.1.Authority, .int .i64 t134.1.Quota]) 0 (.agg #[.int .u64 t134.1.ID, .int .i64 t134.1.From, .int .i64 t134.1.To, .float .f64 t134.1.Lo, .float .f64 t134.1.Hi, .int .u64 t134.1.Authority, .int .i64 t134.1.Quota]) Try.sizeOf30 (Nat.le_of_ble_eq_true rfl) (ones_cons rfl (ones_cons rfl (ones_cons rfl (ones_cons rfl (ones_cons rfl (ones_cons rfl (ones_cons rfl ones_nil))))))) rfl
  refine wl_unit rfl rfl (x_unit hr145) ?_
  refine wl_val (v := .bool t134.2) rfl rfl rfl ?_
  refine wl_nil ?_
  refine then_n ?_
  refine wp_seq ?_
  refine wp_region_lit ?_
  refine wl_val (v := v118) rfl rfl rfl ?_
  replace hst := hst.pull1
  replace hst := objO_some hst
  obtain ⟨t146, ht147, hm⟩ := bind_some hm
  refine wl_call rfl rfl (x_call Try.call11 rfl (vs := [v118, .int .u64 (5:Int), .int .u64 (3:Int)]) rfl) ?_
  refine (policy_Book_At_ref hst.to1 ht147).mono ?_
  rintro _ w148 ⟨rfl, hst⟩
  refine ⟨_, rfl, ?_⟩
  replace hst := hst.of1
  replace hst := objO_get hst
  refine wl_val (v := .tuple #[.agg #[.int .u64 t146.1.ID, .int .i64 t146.1.From, .int .i64 t146.1.To, .float .f64 t146.1.Lo, .float .f64 t146.1.Hi, .int .u64 t146.1.Authority, .int .i64 t146.1.Quota], .bool t146.2]) rfl rfl rfl ?_
  refine wl_val (v := .agg #[.int .u64 t146.1.ID, .int .i64 t146.1.From, .int .i64 t146.1.To, .float .f64 t146.1.Lo, .float .f64 t146.1.Hi, .int .u64 t146.1.Authority, .int .i64 t146.1.Quota]) rfl rfl rfl ?_
  refine wl_val (v := .bool t146.2) rfl rfl rfl ?_
  obtain ⟨b151, w152, ew153, eb154, hst⟩ := hst.box [.int .u64 (0:Int), .int .i64 (0:Int), .int .i64 (0:Int), .float .f64 (0:Nat), .float .f64 (0:Nat), .int .u64 (0:Int), .int .i64 (0:Int)] 30
  refine wl_run (v := .pointer (some ⟨b151, 0, none⟩)) (w' := w152) rfl rfl (x_al (by kernel_rfl) ew153 eb154) ?_
  obtain ⟨w156, hr157, hst⟩ := hst.boxStore (P := Try.prog) (t := 30) (cs' := [.int .u64 t146.1.ID, .int .i64 t146.1.From, .int .i64 t146.1.To, .float .f64 t146.1.Lo, .float .f64 t146.1.Hi, .int .u64 t146.1.Authority, .int .i64 t146.1.Quota]) 0 (.agg #[.int .u64 t146.1.ID, .int .i64 t146.1.From, .int .i64 t146.1.To, .float .f64 t146.1.Lo, .float .f64 t146.1.Hi, .int .u64 t146.1.Authority, .int .i64 t146.1.Quota]) Try.sizeOf30 (Nat.le_of_ble_eq_true rfl) (ones_cons rfl (ones_cons rfl (ones_cons rfl (ones_cons rfl (ones_cons rfl (ones_cons rfl (ones_cons rfl ones_nil))))))) rfl
  refine wl_unit rfl rfl (x_unit hr157) ?_
  refine wl_val (v := .bool t146.2) rfl rfl rfl ?_
  refine wl_nil ?_
  refine then_n ?_
  refine wp_seq ?_
  refine wp_region_lit ?_
  refine wl_val (v := v118) rfl rfl rfl ?_
  replace hst := hst.pull1
  replace hst := objO_some hst
  obtain ⟨t158, ht159, hm⟩ := bind_some hm
  refine wl_call rfl rfl (x_call Try.call11 rfl (vs := [v118, .int .u64 (5:Int), .int .u64 (4:Int)]) rfl) ?_
  refine (policy_Book_At_ref hst.to1 ht159).mono ?_
  rintro _ w160 ⟨rfl, hst⟩
  refine ⟨_, rfl, ?_⟩
  replace hst := hst.of1
  replace hst := objO_get hst
  refine wl_val (v := .tuple #[.agg #[.int .u64 t158.1.ID, .int .i64 t158.1.From, .int .i64 t158.1.To, .float .f64 t158.1.Lo, .float .f64 t158.1.Hi, .int .u64 t158.1.Authority, .int .i64 t158.1.Quota], .bool t158.2]) rfl rfl rfl ?_
  refine wl_val (v := .agg #[.int .u64 t158.1.ID, .int .i64 t158.1.From, .int .i64 t158.1.To, .float .f64 t158.1.Lo, .float .f64 t158.1.Hi, .int .u64 t158.1.Authority, .int .i64 t158.1.Quota]) rfl rfl rfl ?_
  refine wl_val (v := .bool t158.2) rfl rfl rfl ?_
  obtain ⟨b163, w164, ew165, eb166, hst⟩ := hst.box [.int .u64 (0:Int), .int .i64 (0:Int), .int .i64 (0:Int), .float .f64 (0:Nat), .float .f64 (0:Nat), .int .u64 (0:Int), .int .i64 (0:Int)] 30
  refine wl_run (v := .pointer (some ⟨b163, 0, none⟩)) (w' := w164) rfl rfl (x_al (by kernel_rfl) ew165 eb166) ?_
  obtain ⟨w168, hr169, hst⟩ := hst.boxStore (P := Try.prog) (t := 30) (cs' := [.int .u64 t158.1.ID, .int .i64 t158.1.From, .int .i64 t158.1.To, .float .f64 t158.1.Lo, .float .f64 t158.1.Hi, .int .u64 t158.1.Authority, .int .i64 t158.1.Quota]) 0 (.agg #[.int .u64 t158.1.ID, .int .i64 t158.1.From, .int .i64 t158.1.To, .float .f64 t158.1.Lo, .float .f64 t158.1.Hi, .int .u64 t158.1.Authority, .int .i64 t158.1.Quota]) Try.sizeOf30 (Nat.le_of_ble_eq_true rfl) (ones_cons rfl (ones_cons rfl (ones_cons rfl (ones_cons rfl (ones_cons rfl (ones_cons rfl (ones_cons rfl ones_nil))))))) rfl
  refine wl_unit rfl rfl (x_unit hr169) ?_
  refine wl_val (v := .bool t158.2) rfl rfl rfl ?_
  refine wl_nil ?_
  refine then_n ?_
  refine wp_seq ?_
  refine wp_region_lit ?_
  refine wl_val (v := .bool t134.2) rfl rfl rfl ?_
  refine wl_val (v := .bool (!t134.2)) rfl rfl rfl ?_
  refine wl_val (v := .bool (!t134.2)) rfl rfl rfl ?_
  refine bsplit (!t134.2) (fun hc170 => ?_) (fun hc170 => ?_)
  · skip
    replace hm := bif_t hc170 hm
    refine wl_val (v := .bool t146.2) ((wanted_eq rfl rfl rfl (congrArg Value.bool hc170)).trans rfl) rfl rfl ?_
    refine wl_val (v := .bool t146.2) rfl rfl (x_pick_t hc170 rfl rfl) ?_
    refine wl_val (v := .bool t146.2) rfl rfl rfl ?_
    refine bsplit t146.2 (fun hc171 => ?_) (fun hc171 => ?_)
    · skip
      replace hm := bif_t hc171 hm
      refine wl_val (v := .pointer (some ⟨b151, 6, none⟩)) ((wanted_eq rfl rfl rfl (congrArg Value.bool hc171)).trans rfl) rfl (x_field rfl Try.underlying30 rfl Try.sizeOf3 rfl) ?_
      refine wl_val (v := .int .i64 t146.1.Quota) ((wanted_eq rfl rfl rfl (congrArg Value.bool hc171)).trans rfl) rfl (x_load rfl Try.isAgg3 (hst.bc2 rfl)) ?_
      refine wl_val (v := .bool (t146.1.Quota == (1:Int))) ((wanted_eq rfl rfl rfl (congrArg Value.bool hc171)).trans rfl) rfl rfl ?_
      refine wl_val (v := .bool (t146.1.Quota == (1:Int))) rfl rfl (x_pick_t hc171 rfl rfl) ?_
      refine wl_val (v := .bool (t146.1.Quota == (1:Int))) rfl rfl rfl ?_
      refine bsplit (t146.1.Quota == (1:Int)) (fun hc172 => ?_) (fun hc172 => ?_)
      · skip
        replace hm := bif_t hc172 hm
        refine wl_val (v := .bool t158.2) ((wanted_eq rfl rfl rfl (congrArg Value.bool hc172)).trans rfl) rfl rfl ?_
        refine wl_val (v := .bool (!t158.2)) ((wanted_eq rfl rfl rfl (congrArg Value.bool hc172)).trans rfl) rfl rfl ?_
        refine wl_val (v := .bool (!t158.2)) rfl rfl (x_pick_t hc172 rfl rfl) ?_
        refine wl_val (v := .bool (!t158.2)) rfl rfl rfl ?_
        refine wl_nil ?_
        refine then_n ?_
        refine wp_ret ?_
        obtain rfl := some_inj hm
        refine post_ret (vs := [.bool (!t158.2)]) Try.results8 (rvs_cons (rv_tmp rfl) rvs_nil) ?_
        exact ⟨rfl, hst.keep0⟩
      · skip
        replace hm := bif_f hc172 hm
        refine wl_off ((wanted_eq rfl rfl rfl (congrArg Value.bool hc172)).trans rfl) rfl ?_
        refine wl_off ((wanted_eq rfl rfl rfl (congrArg Value.bool hc172)).trans rfl) rfl ?_
        refine wl_val (v := .bool false) rfl rfl (x_pick_f hc172 rfl rfl) ?_
        refine wl_val (v := .bool false) rfl rfl rfl ?_
        refine wl_nil ?_
        refine then_n ?_
        refine wp_ret ?_
        obtain rfl := some_inj hm
        refine post_ret (vs := [.bool false]) Try.results8 (rvs_cons (rv_tmp rfl) rvs_nil) ?_
        exact ⟨rfl, hst.keep0⟩
    · skip
      replace hm := bif_f hc171 hm
      refine wl_off ((wanted_eq rfl rfl rfl (congrArg Value.bool hc171)).trans rfl) rfl ?_
      refine wl_off ((wanted_eq rfl rfl rfl (congrArg Value.bool hc171)).trans rfl) rfl ?_
      refine wl_off ((wanted_eq rfl rfl rfl (congrArg Value.bool hc171)).trans rfl) rfl ?_
      refine wl_val (v := .bool false) rfl rfl (x_pick_f hc171 rfl rfl) ?_
      refine wl_val (v := .bool false) rfl rfl rfl ?_
      refine wl_off ((wanted_eq rfl rfl rfl rfl).trans rfl) rfl ?_
      refine wl_off ((wanted_eq rfl rfl rfl rfl).trans rfl) rfl ?_
      refine wl_val (v := .bool false) rfl rfl (x_pick_f rfl rfl rfl) ?_
      refine wl_val (v := .bool false) rfl rfl rfl ?_
      refine wl_nil ?_
      refine then_n ?_
      refine wp_ret ?_
      obtain rfl := some_inj hm
      refine post_ret (vs := [.bool false]) Try.results8 (rvs_cons (rv_tmp rfl) rvs_nil) ?_
      exact ⟨rfl, hst.keep0⟩
  · skip
    replace hm := bif_f hc170 hm
    refine wl_off ((wanted_eq rfl rfl rfl (congrArg Value.bool hc170)).trans rfl) rfl ?_
    refine wl_val (v := .bool false) rfl rfl (x_pick_f hc170 rfl rfl) ?_
    refine wl_val (v := .bool false) rfl rfl rfl ?_
    refine wl_off ((wanted_eq rfl rfl rfl rfl).trans rfl) rfl ?_
    refine wl_off ((wanted_eq rfl rfl rfl rfl).trans rfl) rfl ?_
    refine wl_off ((wanted_eq rfl rfl rfl rfl).trans rfl) rfl ?_
    refine wl_val (v := .bool false) rfl rfl (x_pick_f rfl rfl rfl) ?_
    refine wl_val (v := .bool false) rfl rfl rfl ?_
    refine wl_off ((wanted_eq rfl rfl rfl rfl).trans rfl) rfl ?_
    refine wl_off ((wanted_eq rfl rfl rfl rfl).trans rfl) rfl ?_
    refine wl_val (v := .bool false) rfl rfl (x_pick_f rfl rfl rfl) ?_
    refine wl_val (v := .bool false) rfl rfl rfl ?_
    refine wl_nil ?_
    refine then_n ?_
    refine wp_ret ?_
    obtain rfl := some_inj hm
    refine post_ret (vs := [.bool false]) Try.results8 (rvs_cons (rv_tmp rfl) rvs_nil) ?_
    exact ⟨rfl, hst.keep0⟩

theorem math_IsNaN_ref {w0 w : World} {I : HL} {R : SP} {a0 : Nat}  (hst : St w0 w I [] R) {r : (Bool)} (hm : math_IsNaN a0 = some r) :
    Calls Try.prog 44 #[.float .f64 a0] w fun e w' => e = .returned (.bool r) ∧ St w0 w' I [] R := by
  unfold math_IsNaN at hm
  refine calls_start (args := [.float .f64 a0]) Try.func44 rfl Try.ntmps44 (Nat.le_of_ble_eq_true rfl) ?_
  refine wp_seq ?_
  refine wp_region_lit ?_
  refine wl_val (v := .bool false) rfl rfl rfl ?_
  refine wl_nil ?_
  refine then_n ?_
  refine wp_seq ?_
  refine wp_region_lit ?_
  refine wl_val (v := .float .f64 a0) rfl rfl rfl ?_
  refine wl_val (v := .float .f64 a0) rfl rfl rfl ?_
  refine wl_val (v := .bool (fNe a0 a0)) rfl rfl rfl ?_
  refine wl_val (v := .bool (fNe a0 a0)) rfl rfl rfl ?_
  refine wl_nil ?_
  refine then_n ?_
  refine wp_ret ?_
  obtain rfl := some_inj hm
  refine post_ret (vs := [.bool (fNe a0 a0)]) Try.results44 (rvs_cons (rv_tmp rfl) rvs_nil) ?_
  exact ⟨rfl, hst.keep0⟩

theorem number_Rank_ref {w0 w : World} {I : HL} {R : SP} {a0 : Nat}  (hst : St w0 w I [] R) {r : (Int)} (hm : number_Rank a0 = some r) :
    Calls Try.prog 36 #[.float .f64 a0] w fun e w' => e = .returned (.int .u64 r) ∧ St w0 w' I [] R := by
  unfold number_Rank at hm
  refine calls_start (args := [.float .f64 a0]) Try.func36 rfl Try.ntmps36 (Nat.le_of_ble_eq_true rfl) ?_
  refine wp_seq ?_
  refine wp_region_lit ?_
  refine wl_val (v := .int .u64 (0:Int)) rfl rfl rfl ?_
  refine wl_nil ?_
  refine then_n ?_
  refine wp_seq ?_
  refine wp_seq ?_
  refine wp_region_lit ?_
  refine wl_val (v := .float .f64 a0) rfl rfl rfl ?_
  obtain ⟨t80, ht81, hm⟩ := bind_some hm
  refine wl_call rfl rfl (x_call Try.call44 rfl (vs := [.float .f64 a0]) rfl) ?_
  refine (math_IsNaN_ref hst.to0 ht81).mono ?_
  rintro _ w82 ⟨rfl, hst⟩
  refine ⟨_, rfl, ?_⟩
  replace hst := hst.of0
  refine wl_nil ?_
  refine then_n ?_
  refine bsplit t80 (fun hc85 => ?_) (fun hc85 => ?_)
  · skip
    replace hm := bif_t hc85 hm
    refine wp_ift (congrArg Value.bool hc85) ?_
    refine wp_seq ?_
    refine wp_region_lit ?_
    refine wl_val (v := .int .u64 (18446744073709551615:Int)) rfl rfl rfl ?_
    refine wl_nil ?_
    refine then_n ?_
    refine wp_ret ?_
    refine then_r ?_
    obtain rfl := some_inj hm
    refine post_ret (vs := [.int .u64 (18446744073709551615:Int)]) Try.results36 (rvs_cons (rv_tmp rfl) rvs_nil) ?_
    exact ⟨rfl, hst.keep0⟩
  · skip
    replace hm := bif_f hc85 hm
    refine wp_iff (congrArg Value.bool hc85) ?_
    refine wp_skip ?_
    refine then_n ?_
    refine wp_seq ?_
    refine wp_region_lit ?_
    refine wl_val (v := .float .f64 a0) rfl rfl rfl ?_
    refine wl_val (v := .int .u64 (Int.ofNat a0)) rfl rfl (by kernel_rfl) ?_
    refine wl_val (v := .int .u64 (Int.ofNat a0)) rfl rfl rfl ?_
    refine wl_nil ?_
    refine then_n ?_
    refine wp_seq ?_
    refine wp_seq ?_
    refine wp_region_lit ?_
    refine wl_val (v := .int .u64 (Int.ofNat a0)) rfl rfl rfl ?_
    refine wl_val (v := .int .u64 (iShr .u64 (Int.ofNat a0) (63:Int))) rfl rfl (x_shr (by decide) rfl rfl) ?_
    refine wl_val (v := .bool ((iShr .u64 (Int.ofNat a0) (63:Int)) == (1:Int))) rfl rfl rfl ?_
    refine wl_nil ?_
    refine then_n ?_
    refine bsplit ((iShr .u64 (Int.ofNat a0) (63:Int)) == (1:Int)) (fun hc86 => ?_) (fun hc86 => ?_)
    · skip
      replace hm := bif_t hc86 hm
      refine wp_ift (congrArg Value.bool hc86) ?_
      refine wp_seq ?_
      refine wp_region_lit ?_
      refine wl_val (v := .int .u64 (Int.ofNat a0)) rfl rfl rfl ?_
      refine wl_val (v := .int .u64 (bXor .u64 ((18446744073709551615):Int) (Int.ofNat a0))) rfl rfl (by kernel_rfl) ?_
      refine wl_val (v := .int .u64 (bXor .u64 ((18446744073709551615):Int) (Int.ofNat a0))) rfl rfl rfl ?_
      refine wl_nil ?_
      refine then_n ?_
      refine wp_ret ?_
      refine then_r ?_
      obtain rfl := some_inj hm
      refine post_ret (vs := [.int .u64 (bXor .u64 ((18446744073709551615):Int) (Int.ofNat a0))]) Try.results36 (rvs_cons (rv_tmp rfl) rvs_nil) ?_
      exact ⟨rfl, hst.keep0⟩
    · skip
      replace hm := bif_f hc86 hm
      refine wp_iff (congrArg Value.bool hc86) ?_
      refine wp_skip ?_
      refine then_n ?_
      refine wp_seq ?_
      refine wp_region_lit ?_
      refine wl_val (v := .int .u64 (Int.ofNat a0)) rfl rfl rfl ?_
      refine wl_val (v := .int .u64 (bOr .u64 (Int.ofNat a0) (9223372036854775808:Int))) rfl rfl rfl ?_
      refine wl_val (v := .int .u64 (bOr .u64 (Int.ofNat a0) (9223372036854775808:Int))) rfl rfl rfl ?_
      refine wl_nil ?_
      refine then_n ?_
      refine wp_ret ?_
      obtain rfl := some_inj hm
      refine post_ret (vs := [.int .u64 (bOr .u64 (Int.ofNat a0) (9223372036854775808:Int))]) Try.results36 (rvs_cons (rv_tmp rfl) rvs_nil) ?_
      exact ⟨rfl, hst.keep0⟩

theorem number_Within_ref {w0 w : World} {I : HL} {R : SP} {a0 : Nat} {a1 : Nat} {a2 : Nat}  (hst : St w0 w I [] R) {r : (Bool)} (hm : number_Within a0 a1 a2 = some r) :
    Calls Try.prog 27 #[.float .f64 a0, .float .f64 a1, .float .f64 a2] w fun e w' => e = .returned (.bool r) ∧ St w0 w' I [] R := by
  unfold number_Within at hm
  refine calls_start (args := [.float .f64 a0, .float .f64 a1, .float .f64 a2]) Try.func27 rfl Try.ntmps27 (Nat.le_of_ble_eq_true rfl) ?_
  refine wp_seq ?_
  refine wp_region_lit ?_
  refine wl_val (v := .bool false) rfl rfl rfl ?_
  refine wl_nil ?_
  refine then_n ?_
  refine wp_seq ?_
  refine wp_region_lit ?_
  refine wl_val (v := .float .f64 a1) rfl rfl rfl ?_
  obtain ⟨t94, ht95, hm⟩ := bind_some hm
  refine wl_call rfl rfl (x_call Try.call36 rfl (vs := [.float .f64 a1]) rfl) ?_
  refine (number_Rank_ref hst.to0 ht95).mono ?_
  rintro _ w96 ⟨rfl, hst⟩
  refine ⟨_, rfl, ?_⟩
  replace hst := hst.of0
  refine wl_val (v := .float .f64 a0) rfl rfl rfl ?_
  obtain ⟨t99, ht100, hm⟩ := bind_some hm
  refine wl_call rfl rfl (x_call Try.call36 rfl (vs := [.float .f64 a0]) rfl) ?_
  refine (number_Rank_ref hst.to0 ht100).mono ?_
  rintro _ w101 ⟨rfl, hst⟩
  refine ⟨_, rfl, ?_⟩
  replace hst := hst.of0
  refine wl_val (v := .bool (decide (t94 ≤ t99))) rfl rfl rfl ?_
  refine wl_val (v := .bool (decide (t94 ≤ t99))) rfl rfl rfl ?_
  refine bsplit (decide (t94 ≤ t99)) (fun hc104 => ?_) (fun hc104 => ?_)
  · skip
    replace hm := bif_t hc104 hm
    refine wl_val (v := .float .f64 a0) ((wanted_eq rfl rfl rfl (congrArg Value.bool hc104)).trans rfl) rfl rfl ?_
    obtain ⟨t105, ht106, hm⟩ := bind_some hm
    refine wl_call ((wanted_eq rfl rfl rfl (congrArg Value.bool hc104)).trans rfl) rfl (x_call Try.call36 rfl (vs := [.float .f64 a0]) rfl) ?_
    refine (number_Rank_ref hst.to0 ht106).mono ?_
    rintro _ w107 ⟨rfl, hst⟩
    refine ⟨_, rfl, ?_⟩
    replace hst := hst.of0
    refine wl_val (v := .float .f64 a2) ((wanted_eq rfl rfl rfl (congrArg Value.bool hc104)).trans rfl) rfl rfl ?_
    obtain ⟨t110, ht111, hm⟩ := bind_some hm
    refine wl_call ((wanted_eq rfl rfl rfl (congrArg Value.bool hc104)).trans rfl) rfl (x_call Try.call36 rfl (vs := [.float .f64 a2]) rfl) ?_
    refine (number_Rank_ref hst.to0 ht111).mono ?_
    rintro _ w112 ⟨rfl, hst⟩
    refine ⟨_, rfl, ?_⟩
    replace hst := hst.of0
    refine wl_val (v := .bool (decide (t105 ≤ t110))) ((wanted_eq rfl rfl rfl (congrArg Value.bool hc104)).trans rfl) rfl rfl ?_
    refine wl_val (v := .bool (decide (t105 ≤ t110))) rfl rfl (x_pick_t hc104 rfl rfl) ?_
    refine wl_val (v := .bool (decide (t105 ≤ t110))) rfl rfl rfl ?_
    refine wl_nil ?_
    refine then_n ?_
    refine wp_ret ?_
    obtain rfl := some_inj hm
    refine post_ret (vs := [.bool (decide (t105 ≤ t110))]) Try.results27 (rvs_cons (rv_tmp rfl) rvs_nil) ?_
    exact ⟨rfl, hst.keep0⟩
  · skip
    replace hm := bif_f hc104 hm
    refine wl_off ((wanted_eq rfl rfl rfl (congrArg Value.bool hc104)).trans rfl) rfl ?_
    refine wl_off ((wanted_eq rfl rfl rfl (congrArg Value.bool hc104)).trans rfl) rfl ?_
    refine wl_off ((wanted_eq rfl rfl rfl (congrArg Value.bool hc104)).trans rfl) rfl ?_
    refine wl_off ((wanted_eq rfl rfl rfl (congrArg Value.bool hc104)).trans rfl) rfl ?_
    refine wl_off ((wanted_eq rfl rfl rfl (congrArg Value.bool hc104)).trans rfl) rfl ?_
    refine wl_val (v := .bool false) rfl rfl (x_pick_f hc104 rfl rfl) ?_
    refine wl_val (v := .bool false) rfl rfl rfl ?_
    refine wl_nil ?_
    refine then_n ?_
    refine wp_ret ?_
    obtain rfl := some_inj hm
    refine post_ret (vs := [.bool false]) Try.results27 (rvs_cons (rv_tmp rfl) rvs_nil) ?_
    exact ⟨rfl, hst.keep0⟩

theorem policy_Allows_ref {w0 w : World} {I : HL} {R : SP} {a0 : api_Rule} {a1 : api_Release}  (hst : St w0 w I [] R) {r : (Bool)} (hm : policy_Allows a0 a1 = some r) :
    Calls Try.prog 20 #[.agg #[.int .u64 a0.ID, .int .i64 a0.From, .int .i64 a0.To, .float .f64 a0.Lo, .float .f64 a0.Hi, .int .u64 a0.Authority, .int .i64 a0.Quota], .agg #[.int .u64 a1.Session, .int .u64 a1.Seq, .int .i64 a1.Label, .float .f64 a1.At, .int .i64 a1.To, .int .u64 a1.Rule, .int .u64 a1.Authority]] w fun e w' => e = .returned (.bool r) ∧ St w0 w' I [] R := by
  unfold policy_Allows at hm
  refine calls_start (args := [.agg #[.int .u64 a0.ID, .int .i64 a0.From, .int .i64 a0.To, .float .f64 a0.Lo, .float .f64 a0.Hi, .int .u64 a0.Authority, .int .i64 a0.Quota], .agg #[.int .u64 a1.Session, .int .u64 a1.Seq, .int .i64 a1.Label, .float .f64 a1.At, .int .i64 a1.To, .int .u64 a1.Rule, .int .u64 a1.Authority]]) Try.func20 rfl Try.ntmps20 (Nat.le_of_ble_eq_true rfl) ?_
  refine wp_seq ?_
  refine wp_region_lit ?_
  obtain ⟨b78, w79, ew80, eb81, hst⟩ := hst.box [.int .u64 a0.ID, .int .i64 a0.From, .int .i64 a0.To, .float .f64 a0.Lo, .float .f64 a0.Hi, .int .u64 a0.Authority, .int .i64 a0.Quota] 30
  refine wl_run (v := .pointer (some ⟨b78, 0, none⟩)) (w' := w79) rfl rfl (x_al (by kernel_rfl) ew80 eb81) ?_
  obtain ⟨b83, w84, ew85, eb86, hst⟩ := hst.box [.int .u64 a1.Session, .int .u64 a1.Seq, .int .i64 a1.Label, .float .f64 a1.At, .int .i64 a1.To, .int .u64 a1.Rule, .int .u64 a1.Authority] 52
  refine wl_run (v := .pointer (some ⟨b83, 0, none⟩)) (w' := w84) rfl rfl (x_al (by kernel_rfl) ew85 eb86) ?_
  refine wl_val (v := .bool false) rfl rfl rfl ?_
  refine wl_nil ?_
  refine then_n ?_
  refine wp_seq ?_
  refine wp_region_lit ?_
  refine wl_val (v := .pointer (some ⟨b78, 0, none⟩)) rfl rfl (x_field rfl Try.underlying30 rfl Try.sizeOf27 rfl) ?_
  refine wl_val (v := .int .u64 a0.ID) rfl rfl (x_load rfl Try.isAgg27 (hst.bc1 rfl)) ?_
  refine wl_val (v := .pointer (some ⟨b83, 5, none⟩)) rfl rfl (x_field rfl Try.underlying52 rfl Try.sizeOf27 rfl) ?_
  refine wl_val (v := .int .u64 a1.Rule) rfl rfl (x_load rfl Try.isAgg27 (hst.bc0 rfl)) ?_
  refine wl_val (v := .bool (a0.ID == a1.Rule)) rfl rfl rfl ?_
  refine wl_val (v := .bool (a0.ID == a1.Rule)) rfl rfl rfl ?_
  refine bsplit (a0.ID == a1.Rule) (fun hc88 => ?_) (fun hc88 => ?_)
  · skip
    replace hm := bif_t hc88 hm
    refine wl_val (v := .pointer (some ⟨b78, 1, none⟩)) ((wanted_eq rfl rfl rfl (congrArg Value.bool hc88)).trans rfl) rfl (x_field rfl Try.underlying30 rfl Try.sizeOf3 rfl) ?_
    refine wl_val (v := .int .i64 a0.From) ((wanted_eq rfl rfl rfl (congrArg Value.bool hc88)).trans rfl) rfl (x_load rfl Try.isAgg3 (hst.bc1 rfl)) ?_
    refine wl_val (v := .pointer (some ⟨b83, 2, none⟩)) ((wanted_eq rfl rfl rfl (congrArg Value.bool hc88)).trans rfl) rfl (x_field rfl Try.underlying52 rfl Try.sizeOf3 rfl) ?_
    refine wl_val (v := .int .i64 a1.Label) ((wanted_eq rfl rfl rfl (congrArg Value.bool hc88)).trans rfl) rfl (x_load rfl Try.isAgg3 (hst.bc0 rfl)) ?_
    refine wl_val (v := .bool (a0.From == a1.Label)) ((wanted_eq rfl rfl rfl (congrArg Value.bool hc88)).trans rfl) rfl rfl ?_
    refine wl_val (v := .bool (a0.From == a1.Label)) rfl rfl (x_pick_t hc88 rfl rfl) ?_
    refine wl_val (v := .bool (a0.From == a1.Label)) rfl rfl rfl ?_
    refine bsplit (a0.From == a1.Label) (fun hc89 => ?_) (fun hc89 => ?_)
    · skip
      replace hm := bif_t hc89 hm
      refine wl_val (v := .pointer (some ⟨b78, 2, none⟩)) ((wanted_eq rfl rfl rfl (congrArg Value.bool hc89)).trans rfl) rfl (x_field rfl Try.underlying30 rfl Try.sizeOf3 rfl) ?_
      refine wl_val (v := .int .i64 a0.To) ((wanted_eq rfl rfl rfl (congrArg Value.bool hc89)).trans rfl) rfl (x_load rfl Try.isAgg3 (hst.bc1 rfl)) ?_
      refine wl_val (v := .pointer (some ⟨b83, 4, none⟩)) ((wanted_eq rfl rfl rfl (congrArg Value.bool hc89)).trans rfl) rfl (x_field rfl Try.underlying52 rfl Try.sizeOf3 rfl) ?_
      refine wl_val (v := .int .i64 a1.To) ((wanted_eq rfl rfl rfl (congrArg Value.bool hc89)).trans rfl) rfl (x_load rfl Try.isAgg3 (hst.bc0 rfl)) ?_
      refine wl_val (v := .bool (a0.To == a1.To)) ((wanted_eq rfl rfl rfl (congrArg Value.bool hc89)).trans rfl) rfl rfl ?_
      refine wl_val (v := .bool (a0.To == a1.To)) rfl rfl (x_pick_t hc89 rfl rfl) ?_
      refine wl_val (v := .bool (a0.To == a1.To)) rfl rfl rfl ?_
      refine bsplit (a0.To == a1.To) (fun hc90 => ?_) (fun hc90 => ?_)
      · skip
        replace hm := bif_t hc90 hm
        refine wl_val (v := .pointer (some ⟨b78, 5, none⟩)) ((wanted_eq rfl rfl rfl (congrArg Value.bool hc90)).trans rfl) rfl (x_field rfl Try.underlying30 rfl Try.sizeOf27 rfl) ?_
        refine wl_val (v := .int .u64 a0.Authority) ((wanted_eq rfl rfl rfl (congrArg Value.bool hc90)).trans rfl) rfl (x_load rfl Try.isAgg27 (hst.bc1 rfl)) ?_
        refine wl_val (v := .pointer (some ⟨b83, 6, none⟩)) ((wanted_eq rfl rfl rfl (congrArg Value.bool hc90)).trans rfl) rfl (x_field rfl Try.underlying52 rfl Try.sizeOf27 rfl) ?_
        refine wl_val (v := .int .u64 a1.Authority) ((wanted_eq rfl rfl rfl (congrArg Value.bool hc90)).trans rfl) rfl (x_load rfl Try.isAgg27 (hst.bc0 rfl)) ?_
        refine wl_val (v := .bool (a0.Authority == a1.Authority)) ((wanted_eq rfl rfl rfl (congrArg Value.bool hc90)).trans rfl) rfl rfl ?_
        refine wl_val (v := .bool (a0.Authority == a1.Authority)) rfl rfl (x_pick_t hc90 rfl rfl) ?_
        refine wl_val (v := .bool (a0.Authority == a1.Authority)) rfl rfl rfl ?_
        refine bsplit (a0.Authority == a1.Authority) (fun hc91 => ?_) (fun hc91 => ?_)
        · skip
          replace hm := bif_t hc91 hm
          refine wl_val (v := .pointer (some ⟨b83, 3, none⟩)) ((wanted_eq rfl rfl rfl (congrArg Value.bool hc91)).trans rfl) rfl (x_field rfl Try.underlying52 rfl Try.sizeOf28 rfl) ?_
          refine wl_val (v := .float .f64 a1.At) ((wanted_eq rfl rfl rfl (congrArg Value.bool hc91)).trans rfl) rfl (x_load rfl Try.isAgg28 (hst.bc0 rfl)) ?_
          refine wl_val (v := .pointer (some ⟨b78, 3, none⟩)) ((wanted_eq rfl rfl rfl (congrArg Value.bool hc91)).trans rfl) rfl (x_field rfl Try.underlying30 rfl Try.sizeOf28 rfl) ?_
          refine wl_val (v := .float .f64 a0.Lo) ((wanted_eq rfl rfl rfl (congrArg Value.bool hc91)).trans rfl) rfl (x_load rfl Try.isAgg28 (hst.bc1 rfl)) ?_
          refine wl_val (v := .pointer (some ⟨b78, 4, none⟩)) ((wanted_eq rfl rfl rfl (congrArg Value.bool hc91)).trans rfl) rfl (x_field rfl Try.underlying30 rfl Try.sizeOf28 rfl) ?_
          refine wl_val (v := .float .f64 a0.Hi) ((wanted_eq rfl rfl rfl (congrArg Value.bool hc91)).trans rfl) rfl (x_load rfl Try.isAgg28 (hst.bc1 rfl)) ?_
          obtain ⟨t92, ht93, hm⟩ := bind_some hm
          refine wl_call ((wanted_eq rfl rfl rfl (congrArg Value.bool hc91)).trans rfl) rfl (x_call Try.call27 rfl (vs := [.float .f64 a1.At, .float .f64 a0.Lo, .float .f64 a0.Hi]) rfl) ?_
          refine (number_Within_ref hst.to0 ht93).mono ?_
          rintro _ w94 ⟨rfl, hst⟩
          refine ⟨_, rfl, ?_⟩
          replace hst := hst.of0
          refine wl_val (v := .bool t92) rfl rfl (x_pick_t hc91 rfl rfl) ?_
          refine wl_val (v := .bool t92) rfl rfl rfl ?_
          refine wl_nil ?_
          refine then_n ?_
          refine wp_ret ?_
          obtain rfl := some_inj hm
          refine post_ret (vs := [.bool t92]) Try.results20 (rvs_cons (rv_tmp rfl) rvs_nil) ?_
          exact ⟨rfl, hst.keep0⟩
        · skip
          replace hm := bif_f hc91 hm
          refine wl_off ((wanted_eq rfl rfl rfl (congrArg Value.bool hc91)).trans rfl) rfl ?_
          refine wl_off ((wanted_eq rfl rfl rfl (congrArg Value.bool hc91)).trans rfl) rfl ?_
          refine wl_off ((wanted_eq rfl rfl rfl (congrArg Value.bool hc91)).trans rfl) rfl ?_
          refine wl_off ((wanted_eq rfl rfl rfl (congrArg Value.bool hc91)).trans rfl) rfl ?_
          refine wl_off ((wanted_eq rfl rfl rfl (congrArg Value.bool hc91)).trans rfl) rfl ?_
          refine wl_off ((wanted_eq rfl rfl rfl (congrArg Value.bool hc91)).trans rfl) rfl ?_
          refine wl_off ((wanted_eq rfl rfl rfl (congrArg Value.bool hc91)).trans rfl) rfl ?_
          refine wl_val (v := .bool false) rfl rfl (x_pick_f hc91 rfl rfl) ?_
          refine wl_val (v := .bool false) rfl rfl rfl ?_
          refine wl_nil ?_
          refine then_n ?_
          refine wp_ret ?_
          obtain rfl := some_inj hm
          refine post_ret (vs := [.bool false]) Try.results20 (rvs_cons (rv_tmp rfl) rvs_nil) ?_
          exact ⟨rfl, hst.keep0⟩
      · skip
        replace hm := bif_f hc90 hm
        refine wl_off ((wanted_eq rfl rfl rfl (congrArg Value.bool hc90)).trans rfl) rfl ?_
        refine wl_off ((wanted_eq rfl rfl rfl (congrArg Value.bool hc90)).trans rfl) rfl ?_
        refine wl_off ((wanted_eq rfl rfl rfl (congrArg Value.bool hc90)).trans rfl) rfl ?_
        refine wl_off ((wanted_eq rfl rfl rfl (congrArg Value.bool hc90)).trans rfl) rfl ?_
        refine wl_off ((wanted_eq rfl rfl rfl (congrArg Value.bool hc90)).trans rfl) rfl ?_
        refine wl_val (v := .bool false) rfl rfl (x_pick_f hc90 rfl rfl) ?_
        refine wl_val (v := .bool false) rfl rfl rfl ?_
        refine wl_off ((wanted_eq rfl rfl rfl rfl).trans rfl) rfl ?_
        refine wl_off ((wanted_eq rfl rfl rfl rfl).trans rfl) rfl ?_
        refine wl_off ((wanted_eq rfl rfl rfl rfl).trans rfl) rfl ?_
        refine wl_off ((wanted_eq rfl rfl rfl rfl).trans rfl) rfl ?_
        refine wl_off ((wanted_eq rfl rfl rfl rfl).trans rfl) rfl ?_
        refine wl_off ((wanted_eq rfl rfl rfl rfl).trans rfl) rfl ?_
        refine wl_off ((wanted_eq rfl rfl rfl rfl).trans rfl) rfl ?_
        refine wl_val (v := .bool false) rfl rfl (x_pick_f rfl rfl rfl) ?_
        refine wl_val (v := .bool false) rfl rfl rfl ?_
        refine wl_nil ?_
        refine then_n ?_
        refine wp_ret ?_
        obtain rfl := some_inj hm
        refine post_ret (vs := [.bool false]) Try.results20 (rvs_cons (rv_tmp rfl) rvs_nil) ?_
        exact ⟨rfl, hst.keep0⟩
    · skip
      replace hm := bif_f hc89 hm
      refine wl_off ((wanted_eq rfl rfl rfl (congrArg Value.bool hc89)).trans rfl) rfl ?_
      refine wl_off ((wanted_eq rfl rfl rfl (congrArg Value.bool hc89)).trans rfl) rfl ?_
      refine wl_off ((wanted_eq rfl rfl rfl (congrArg Value.bool hc89)).trans rfl) rfl ?_
      refine wl_off ((wanted_eq rfl rfl rfl (congrArg Value.bool hc89)).trans rfl) rfl ?_
      refine wl_off ((wanted_eq rfl rfl rfl (congrArg Value.bool hc89)).trans rfl) rfl ?_
      refine wl_val (v := .bool false) rfl rfl (x_pick_f hc89 rfl rfl) ?_
      refine wl_val (v := .bool false) rfl rfl rfl ?_
      refine wl_off ((wanted_eq rfl rfl rfl rfl).trans rfl) rfl ?_
      refine wl_off ((wanted_eq rfl rfl rfl rfl).trans rfl) rfl ?_
      refine wl_off ((wanted_eq rfl rfl rfl rfl).trans rfl) rfl ?_
      refine wl_off ((wanted_eq rfl rfl rfl rfl).trans rfl) rfl ?_
      refine wl_off ((wanted_eq rfl rfl rfl rfl).trans rfl) rfl ?_
      refine wl_val (v := .bool false) rfl rfl (x_pick_f rfl rfl rfl) ?_
      refine wl_val (v := .bool false) rfl rfl rfl ?_
      refine wl_off ((wanted_eq rfl rfl rfl rfl).trans rfl) rfl ?_
      refine wl_off ((wanted_eq rfl rfl rfl rfl).trans rfl) rfl ?_
      refine wl_off ((wanted_eq rfl rfl rfl rfl).trans rfl) rfl ?_
      refine wl_off ((wanted_eq rfl rfl rfl rfl).trans rfl) rfl ?_
      refine wl_off ((wanted_eq rfl rfl rfl rfl).trans rfl) rfl ?_
      refine wl_off ((wanted_eq rfl rfl rfl rfl).trans rfl) rfl ?_
      refine wl_off ((wanted_eq rfl rfl rfl rfl).trans rfl) rfl ?_
      refine wl_val (v := .bool false) rfl rfl (x_pick_f rfl rfl rfl) ?_
      refine wl_val (v := .bool false) rfl rfl rfl ?_
      refine wl_nil ?_
      refine then_n ?_
      refine wp_ret ?_
      obtain rfl := some_inj hm
      refine post_ret (vs := [.bool false]) Try.results20 (rvs_cons (rv_tmp rfl) rvs_nil) ?_
      exact ⟨rfl, hst.keep0⟩
  · skip
    replace hm := bif_f hc88 hm
    refine wl_off ((wanted_eq rfl rfl rfl (congrArg Value.bool hc88)).trans rfl) rfl ?_
    refine wl_off ((wanted_eq rfl rfl rfl (congrArg Value.bool hc88)).trans rfl) rfl ?_
    refine wl_off ((wanted_eq rfl rfl rfl (congrArg Value.bool hc88)).trans rfl) rfl ?_
    refine wl_off ((wanted_eq rfl rfl rfl (congrArg Value.bool hc88)).trans rfl) rfl ?_
    refine wl_off ((wanted_eq rfl rfl rfl (congrArg Value.bool hc88)).trans rfl) rfl ?_
    refine wl_val (v := .bool false) rfl rfl (x_pick_f hc88 rfl rfl) ?_
    refine wl_val (v := .bool false) rfl rfl rfl ?_
    refine wl_off ((wanted_eq rfl rfl rfl rfl).trans rfl) rfl ?_
    refine wl_off ((wanted_eq rfl rfl rfl rfl).trans rfl) rfl ?_
    refine wl_off ((wanted_eq rfl rfl rfl rfl).trans rfl) rfl ?_
    refine wl_off ((wanted_eq rfl rfl rfl rfl).trans rfl) rfl ?_
    refine wl_off ((wanted_eq rfl rfl rfl rfl).trans rfl) rfl ?_
    refine wl_val (v := .bool false) rfl rfl (x_pick_f rfl rfl rfl) ?_
    refine wl_val (v := .bool false) rfl rfl rfl ?_
    refine wl_off ((wanted_eq rfl rfl rfl rfl).trans rfl) rfl ?_
    refine wl_off ((wanted_eq rfl rfl rfl rfl).trans rfl) rfl ?_
    refine wl_off ((wanted_eq rfl rfl rfl rfl).trans rfl) rfl ?_
    refine wl_off ((wanted_eq rfl rfl rfl rfl).trans rfl) rfl ?_
    refine wl_off ((wanted_eq rfl rfl rfl rfl).trans rfl) rfl ?_
    refine wl_val (v := .bool false) rfl rfl (x_pick_f rfl rfl rfl) ?_
    refine wl_val (v := .bool false) rfl rfl rfl ?_
    refine wl_off ((wanted_eq rfl rfl rfl rfl).trans rfl) rfl ?_
    refine wl_off ((wanted_eq rfl rfl rfl rfl).trans rfl) rfl ?_
    refine wl_off ((wanted_eq rfl rfl rfl rfl).trans rfl) rfl ?_
    refine wl_off ((wanted_eq rfl rfl rfl rfl).trans rfl) rfl ?_
    refine wl_off ((wanted_eq rfl rfl rfl rfl).trans rfl) rfl ?_
    refine wl_off ((wanted_eq rfl rfl rfl rfl).trans rfl) rfl ?_
    refine wl_off ((wanted_eq rfl rfl rfl rfl).trans rfl) rfl ?_
    refine wl_val (v := .bool false) rfl rfl (x_pick_f rfl rfl rfl) ?_
    refine wl_val (v := .bool false) rfl rfl rfl ?_
    refine wl_nil ?_
    refine then_n ?_
    refine wp_ret ?_
    obtain rfl := some_inj hm
    refine post_ret (vs := [.bool false]) Try.results20 (rvs_cons (rv_tmp rfl) rvs_nil) ?_
    exact ⟨rfl, hst.keep0⟩

theorem law15_PolicyAllows_ref {w0 w : World} {I : HL} {R : SP} {a0 : api_Rule} {a1 : api_Release} {a2 : Int}  (hst : St w0 w I [] R) {r : (Bool)} (hm : law15_PolicyAllows a0 a1 a2 = some r) :
    Calls Try.prog 6 #[.agg #[.int .u64 a0.ID, .int .i64 a0.From, .int .i64 a0.To, .float .f64 a0.Lo, .float .f64 a0.Hi, .int .u64 a0.Authority, .int .i64 a0.Quota], .agg #[.int .u64 a1.Session, .int .u64 a1.Seq, .int .i64 a1.Label, .float .f64 a1.At, .int .i64 a1.To, .int .u64 a1.Rule, .int .u64 a1.Authority], .int .u8 a2] w fun e w' => e = .returned (.bool r) ∧ St w0 w' I [] R := by
  unfold law15_PolicyAllows at hm
  refine calls_start (args := [.agg #[.int .u64 a0.ID, .int .i64 a0.From, .int .i64 a0.To, .float .f64 a0.Lo, .float .f64 a0.Hi, .int .u64 a0.Authority, .int .i64 a0.Quota], .agg #[.int .u64 a1.Session, .int .u64 a1.Seq, .int .i64 a1.Label, .float .f64 a1.At, .int .i64 a1.To, .int .u64 a1.Rule, .int .u64 a1.Authority], .int .u8 a2]) Try.func6 rfl Try.ntmps6 (Nat.le_of_ble_eq_true rfl) ?_
  refine wp_seq ?_
  refine wp_region_lit ?_
  obtain ⟨b64, w65, ew66, eb67, hst⟩ := hst.box [.int .u64 a0.ID, .int .i64 a0.From, .int .i64 a0.To, .float .f64 a0.Lo, .float .f64 a0.Hi, .int .u64 a0.Authority, .int .i64 a0.Quota] 30
  refine wl_run (v := .pointer (some ⟨b64, 0, none⟩)) (w' := w65) rfl rfl (x_al (by kernel_rfl) ew66 eb67) ?_
  obtain ⟨b69, w70, ew71, eb72, hst⟩ := hst.box [.int .u64 a1.Session, .int .u64 a1.Seq, .int .i64 a1.Label, .float .f64 a1.At, .int .i64 a1.To, .int .u64 a1.Rule, .int .u64 a1.Authority] 52
  refine wl_run (v := .pointer (some ⟨b69, 0, none⟩)) (w' := w70) rfl rfl (x_al (by kernel_rfl) ew71 eb72) ?_
  refine wl_val (v := .bool false) rfl rfl rfl ?_
  refine wl_nil ?_
  refine then_n ?_
  obtain ⟨y89, hm, hx90⟩ := bind_some hm
  refine wp_cut (fun a w => ∃ (z83 : Int) (z84 : Int) (z85 : Int) (z86 : Int) (σ87 : Nat → Value), (law15_PolicyAllows_j0 a2 a0 a1) (z83, z84, z85, z86) = some r ∧ a = Fr 72 (upd (upd (upd σ87 2 (.int .u8 a2)) 3 (.pointer (some ⟨b64, 0, none⟩))) 4 (.pointer (some ⟨b69, 0, none⟩))) ∧ St w0 w I [cells b64 [.int .u64 a0.ID, .int .i64 a0.From, .int .i64 a0.To, .float .f64 a0.Lo, .float .f64 a0.Hi, .int .u64 a0.Authority, .int .i64 a0.Quota], cells b69 [.int .u64 a1.Session, .int .u64 a1.Seq, .int .i64 z83, .float .f64 a1.At, .int .i64 z84, .int .u64 z85, .int .u64 z86]] R) ?_ ?_
  · skip
    refine wp_seq ?_
    refine wp_region_lit ?_
    refine wl_val (v := .int .u8 a2) rfl rfl rfl ?_
    refine wl_val (v := .int .u8 (Int.tmod a2 (2:Int))) rfl rfl (x_rem (by decide) rfl rfl) ?_
    refine wl_val (v := .bool ((Int.tmod a2 (2:Int)) == (0:Int))) rfl rfl rfl ?_
    refine wl_nil ?_
    refine then_n ?_
    refine bsplit ((Int.tmod a2 (2:Int)) == (0:Int)) (fun hc74 => ?_) (fun hc74 => ?_)
    · skip
      replace hm := bif_t hc74 hm
      refine wp_ift (congrArg Value.bool hc74) ?_
      refine wp_seq ?_
      refine wp_region_lit ?_
      refine wl_val (v := .pointer (some ⟨b64, 0, none⟩)) rfl rfl (x_field rfl Try.underlying30 rfl Try.sizeOf27 rfl) ?_
      refine wl_val (v := .int .u64 a0.ID) rfl rfl (x_load rfl Try.isAgg27 (hst.bc1 rfl)) ?_
      refine wl_val (v := .pointer (some ⟨b69, 5, none⟩)) rfl rfl (x_field rfl Try.underlying52 rfl Try.sizeOf27 rfl) ?_
      obtain ⟨w75, hr76, hst⟩ := hst.boxStore (P := Try.prog) (t := 27) (cs' := [.int .u64 a1.Session, .int .u64 a1.Seq, .int .i64 a1.Label, .float .f64 a1.At, .int .i64 a1.To, .int .u64 a0.ID, .int .u64 a1.Authority]) 5 (.int .u64 a0.ID) Try.sizeOf27 (Nat.le_of_ble_eq_true rfl) (ones_cons rfl ones_nil) rfl
      refine wl_unit rfl rfl (x_unit hr76) ?_
      refine wl_nil ?_
      refine then_n ?_
      refine wp_seq ?_
      refine wp_region_lit ?_
      refine wl_val (v := .pointer (some ⟨b64, 1, none⟩)) rfl rfl (x_field rfl Try.underlying30 rfl Try.sizeOf3 rfl) ?_
      refine wl_val (v := .int .i64 a0.From) rfl rfl (x_load rfl Try.isAgg3 (hst.bc1 rfl)) ?_
      refine wl_val (v := .pointer (some ⟨b69, 2, none⟩)) rfl rfl (x_field rfl Try.underlying52 rfl Try.sizeOf3 rfl) ?_
      obtain ⟨w77, hr78, hst⟩ := hst.boxStore (P := Try.prog) (t := 3) (cs' := [.int .u64 a1.Session, .int .u64 a1.Seq, .int .i64 a0.From, .float .f64 a1.At, .int .i64 a1.To, .int .u64 a0.ID, .int .u64 a1.Authority]) 2 (.int .i64 a0.From) Try.sizeOf3 (Nat.le_of_ble_eq_true rfl) (ones_cons rfl ones_nil) rfl
      refine wl_unit rfl rfl (x_unit hr78) ?_
      refine wl_nil ?_
      refine then_n ?_
      refine wp_seq ?_
      refine wp_region_lit ?_
      refine wl_val (v := .pointer (some ⟨b64, 2, none⟩)) rfl rfl (x_field rfl Try.underlying30 rfl Try.sizeOf3 rfl) ?_
      refine wl_val (v := .int .i64 a0.To) rfl rfl (x_load rfl Try.isAgg3 (hst.bc1 rfl)) ?_
      refine wl_val (v := .pointer (some ⟨b69, 4, none⟩)) rfl rfl (x_field rfl Try.underlying52 rfl Try.sizeOf3 rfl) ?_
      obtain ⟨w79, hr80, hst⟩ := hst.boxStore (P := Try.prog) (t := 3) (cs' := [.int .u64 a1.Session, .int .u64 a1.Seq, .int .i64 a0.From, .float .f64 a1.At, .int .i64 a0.To, .int .u64 a0.ID, .int .u64 a1.Authority]) 4 (.int .i64 a0.To) Try.sizeOf3 (Nat.le_of_ble_eq_true rfl) (ones_cons rfl ones_nil) rfl
      refine wl_unit rfl rfl (x_unit hr80) ?_
      refine wl_nil ?_
      refine then_n ?_
      refine wp_region_lit ?_
      refine wl_val (v := .pointer (some ⟨b64, 5, none⟩)) rfl rfl (x_field rfl Try.underlying30 rfl Try.sizeOf27 rfl) ?_
      refine wl_val (v := .int .u64 a0.Authority) rfl rfl (x_load rfl Try.isAgg27 (hst.bc1 rfl)) ?_
      refine wl_val (v := .pointer (some ⟨b69, 6, none⟩)) rfl rfl (x_field rfl Try.underlying52 rfl Try.sizeOf27 rfl) ?_
      obtain ⟨w81, hr82, hst⟩ := hst.boxStore (P := Try.prog) (t := 27) (cs' := [.int .u64 a1.Session, .int .u64 a1.Seq, .int .i64 a0.From, .float .f64 a1.At, .int .i64 a0.To, .int .u64 a0.ID, .int .u64 a0.Authority]) 6 (.int .u64 a0.Authority) Try.sizeOf27 (Nat.le_of_ble_eq_true rfl) (ones_cons rfl ones_nil) rfl
      refine wl_unit rfl rfl (x_unit hr82) ?_
      refine wl_nil ?_
      refine then_n ?_
      replace hst := hst.pull1
      replace hst := hst.keep2
      obtain rfl := some_inj hm
      exact ⟨a0.From, a0.To, a0.ID, a0.Authority, _, hx90, ((fr_upd (t := 2) (v := .int .u8 a2) rfl).trans ((fr_upd (t := 3) (v := .pointer (some ⟨b64, 0, none⟩)) rfl).trans ((fr_upd (t := 4) (v := .pointer (some ⟨b69, 0, none⟩)) rfl).trans rfl))), hst⟩
    · skip
      replace hm := bif_f hc74 hm
      refine wp_iff (congrArg Value.bool hc74) ?_
      refine wp_skip ?_
      refine then_n ?_
      replace hst := hst.pull1
      replace hst := hst.keep2
      obtain rfl := some_inj hm
      exact ⟨a1.Label, a1.To, a1.Rule, a1.Authority, _, hx90, ((fr_upd (t := 2) (v := .int .u8 a2) rfl).trans ((fr_upd (t := 3) (v := .pointer (some ⟨b64, 0, none⟩)) rfl).trans ((fr_upd (t := 4) (v := .pointer (some ⟨b69, 0, none⟩)) rfl).trans rfl))), hst⟩
  · skip
    clear hst
    rintro _ w91 ⟨z83, z84, z85, z86, σ87, hm, rfl, hst⟩
    dsimp only [law15_PolicyAllows_j0] at hm
    obtain ⟨y98, hm, hx99⟩ := bind_some hm
    refine wp_cut (fun a w => ∃ (z95 : Nat) (σ96 : Nat → Value), (law15_PolicyAllows_j1 a0 z85 z83 z84 z86 a1) z95 = some r ∧ a = Fr 72 (upd (upd σ96 3 (.pointer (some ⟨b64, 0, none⟩))) 4 (.pointer (some ⟨b69, 0, none⟩))) ∧ St w0 w I [cells b64 [.int .u64 a0.ID, .int .i64 a0.From, .int .i64 a0.To, .float .f64 a0.Lo, .float .f64 a0.Hi, .int .u64 a0.Authority, .int .i64 a0.Quota], cells b69 [.int .u64 a1.Session, .int .u64 a1.Seq, .int .i64 z83, .float .f64 z95, .int .i64 z84, .int .u64 z85, .int .u64 z86]] R) ?_ ?_
    · skip
      refine wp_seq ?_
      refine wp_region_lit ?_
      refine wl_val (v := .int .u8 a2) rfl rfl rfl ?_
      refine wl_val (v := .int .u8 (Int.tmod a2 (3:Int))) rfl rfl (x_rem (by decide) rfl rfl) ?_
      refine wl_val (v := .bool ((Int.tmod a2 (3:Int)) == (0:Int))) rfl rfl rfl ?_
      refine wl_nil ?_
      refine then_n ?_
      refine bsplit ((Int.tmod a2 (3:Int)) == (0:Int)) (fun hc92 => ?_) (fun hc92 => ?_)
      · skip
        replace hm := bif_t hc92 hm
        refine wp_ift (congrArg Value.bool hc92) ?_
        refine wp_region_lit ?_
        refine wl_val (v := .pointer (some ⟨b64, 3, none⟩)) rfl rfl (x_field rfl Try.underlying30 rfl Try.sizeOf28 rfl) ?_
        refine wl_val (v := .float .f64 a0.Lo) rfl rfl (x_load rfl Try.isAgg28 (hst.bc0 rfl)) ?_
        refine wl_val (v := .pointer (some ⟨b69, 3, none⟩)) rfl rfl (x_field rfl Try.underlying52 rfl Try.sizeOf28 rfl) ?_
        replace hst := hst.pull1
        obtain ⟨w93, hr94, hst⟩ := hst.boxStore (P := Try.prog) (t := 28) (cs' := [.int .u64 a1.Session, .int .u64 a1.Seq, .int .i64 z83, .float .f64 a0.Lo, .int .i64 z84, .int .u64 z85, .int .u64 z86]) 3 (.float .f64 a0.Lo) Try.sizeOf28 (Nat.le_of_ble_eq_true rfl) (ones_cons rfl ones_nil) rfl
        refine wl_unit rfl rfl (x_unit hr94) ?_
        refine wl_nil ?_
        refine then_n ?_
        replace hst := hst.pull1
        replace hst := hst.keep2
        obtain rfl := some_inj hm
        exact ⟨a0.Lo, _, hx99, ((fr_upd (t := 3) (v := .pointer (some ⟨b64, 0, none⟩)) rfl).trans ((fr_upd (t := 4) (v := .pointer (some ⟨b69, 0, none⟩)) rfl).trans rfl)), hst⟩
      · skip
        replace hm := bif_f hc92 hm
        refine wp_iff (congrArg Value.bool hc92) ?_
        refine wp_skip ?_
        refine then_n ?_
        replace hst := hst.pull1
        replace hst := hst.pull1
        replace hst := hst.keep2
        obtain rfl := some_inj hm
        exact ⟨a1.At, _, hx99, ((fr_upd (t := 3) (v := .pointer (some ⟨b64, 0, none⟩)) rfl).trans ((fr_upd (t := 4) (v := .pointer (some ⟨b69, 0, none⟩)) rfl).trans rfl)), hst⟩
    · skip
      clear hst
      rintro _ w100 ⟨z95, σ96, hm, rfl, hst⟩
      dsimp only [law15_PolicyAllows_j1] at hm
      obtain ⟨y113, hm, hx114⟩ := bind_some hm
      refine wp_cut (fun a w => ∃ (z110 : Bool) (σ111 : Nat → Value), (law15_PolicyAllows_j2 a0 a1 z83 z95 z84 z85 z86) z110 = some r ∧ a = Fr 72 (upd (upd (upd σ111 3 (.pointer (some ⟨b64, 0, none⟩))) 4 (.pointer (some ⟨b69, 0, none⟩))) 7 (.bool z110)) ∧ St w0 w I [cells b64 [.int .u64 a0.ID, .int .i64 a0.From, .int .i64 a0.To, .float .f64 a0.Lo, .float .f64 a0.Hi, .int .u64 a0.Authority, .int .i64 a0.Quota], cells b69 [.int .u64 a1.Session, .int .u64 a1.Seq, .int .i64 z83, .float .f64 z95, .int .i64 z84, .int .u64 z85, .int .u64 z86]] R) ?_ ?_
      · skip
        refine wp_region_lit ?_
        refine wl_val (v := .pointer (some ⟨b64, 0, none⟩)) rfl rfl (x_field rfl Try.underlying30 rfl Try.sizeOf27 rfl) ?_
        refine wl_val (v := .int .u64 a0.ID) rfl rfl (x_load rfl Try.isAgg27 (hst.bc0 rfl)) ?_
        refine wl_val (v := .pointer (some ⟨b69, 5, none⟩)) rfl rfl (x_field rfl Try.underlying52 rfl Try.sizeOf27 rfl) ?_
        refine wl_val (v := .int .u64 z85) rfl rfl (x_load rfl Try.isAgg27 (hst.bc1 rfl)) ?_
        refine wl_val (v := .bool (a0.ID == z85)) rfl rfl rfl ?_
        refine wl_val (v := .bool (a0.ID == z85)) rfl rfl rfl ?_
        refine bsplit (a0.ID == z85) (fun hc101 => ?_) (fun hc101 => ?_)
        · skip
          replace hm := bif_t hc101 hm
          refine wl_val (v := .pointer (some ⟨b64, 1, none⟩)) ((wanted_eq rfl rfl rfl (congrArg Value.bool hc101)).trans rfl) rfl (x_field rfl Try.underlying30 rfl Try.sizeOf3 rfl) ?_
          refine wl_val (v := .int .i64 a0.From) ((wanted_eq rfl rfl rfl (congrArg Value.bool hc101)).trans rfl) rfl (x_load rfl Try.isAgg3 (hst.bc0 rfl)) ?_
          refine wl_val (v := .pointer (some ⟨b69, 2, none⟩)) ((wanted_eq rfl rfl rfl (congrArg Value.bool hc101)).trans rfl) rfl (x_field rfl Try.underlying52 rfl Try.sizeOf3 rfl) ?_
          refine wl_val (v := .int .i64 z83) ((wanted_eq rfl rfl rfl (congrArg Value.bool hc101)).trans rfl) rfl (x_load rfl Try.isAgg3 (hst.bc1 rfl)) ?_
          refine wl_val (v := .bool (a0.From == z83)) ((wanted_eq rfl rfl rfl (congrArg Value.bool hc101)).trans rfl) rfl rfl ?_
          refine wl_val (v := .bool (a0.From == z83)) rfl rfl (x_pick_t hc101 rfl rfl) ?_
          refine wl_val (v := .bool (a0.From == z83)) rfl rfl rfl ?_
          refine bsplit (a0.From == z83) (fun hc102 => ?_) (fun hc102 => ?_)
          · skip
            replace hm := bif_t hc102 hm
            refine wl_val (v := .pointer (some ⟨b64, 2, none⟩)) ((wanted_eq rfl rfl rfl (congrArg Value.bool hc102)).trans rfl) rfl (x_field rfl Try.underlying30 rfl Try.sizeOf3 rfl) ?_
            refine wl_val (v := .int .i64 a0.To) ((wanted_eq rfl rfl rfl (congrArg Value.bool hc102)).trans rfl) rfl (x_load rfl Try.isAgg3 (hst.bc0 rfl)) ?_
            refine wl_val (v := .pointer (some ⟨b69, 4, none⟩)) ((wanted_eq rfl rfl rfl (congrArg Value.bool hc102)).trans rfl) rfl (x_field rfl Try.underlying52 rfl Try.sizeOf3 rfl) ?_
            refine wl_val (v := .int .i64 z84) ((wanted_eq rfl rfl rfl (congrArg Value.bool hc102)).trans rfl) rfl (x_load rfl Try.isAgg3 (hst.bc1 rfl)) ?_
            refine wl_val (v := .bool (a0.To == z84)) ((wanted_eq rfl rfl rfl (congrArg Value.bool hc102)).trans rfl) rfl rfl ?_
            refine wl_val (v := .bool (a0.To == z84)) rfl rfl (x_pick_t hc102 rfl rfl) ?_
            refine wl_val (v := .bool (a0.To == z84)) rfl rfl rfl ?_
            refine bsplit (a0.To == z84) (fun hc103 => ?_) (fun hc103 => ?_)
            · skip
              replace hm := bif_t hc103 hm
              refine wl_val (v := .pointer (some ⟨b64, 5, none⟩)) ((wanted_eq rfl rfl rfl (congrArg Value.bool hc103)).trans rfl) rfl (x_field rfl Try.underlying30 rfl Try.sizeOf27 rfl) ?_
              refine wl_val (v := .int .u64 a0.Authority) ((wanted_eq rfl rfl rfl (congrArg Value.bool hc103)).trans rfl) rfl (x_load rfl Try.isAgg27 (hst.bc0 rfl)) ?_
              refine wl_val (v := .pointer (some ⟨b69, 6, none⟩)) ((wanted_eq rfl rfl rfl (congrArg Value.bool hc103)).trans rfl) rfl (x_field rfl Try.underlying52 rfl Try.sizeOf27 rfl) ?_
              refine wl_val (v := .int .u64 z86) ((wanted_eq rfl rfl rfl (congrArg Value.bool hc103)).trans rfl) rfl (x_load rfl Try.isAgg27 (hst.bc1 rfl)) ?_
              refine wl_val (v := .bool (a0.Authority == z86)) ((wanted_eq rfl rfl rfl (congrArg Value.bool hc103)).trans rfl) rfl rfl ?_
              refine wl_val (v := .bool (a0.Authority == z86)) rfl rfl (x_pick_t hc103 rfl rfl) ?_
              refine wl_val (v := .bool (a0.Authority == z86)) rfl rfl rfl ?_
              refine bsplit (a0.Authority == z86) (fun hc104 => ?_) (fun hc104 => ?_)
              · skip
                replace hm := bif_t hc104 hm
                refine wl_val (v := .pointer (some ⟨b69, 3, none⟩)) ((wanted_eq rfl rfl rfl (congrArg Value.bool hc104)).trans rfl) rfl (x_field rfl Try.underlying52 rfl Try.sizeOf28 rfl) ?_
                refine wl_val (v := .float .f64 z95) ((wanted_eq rfl rfl rfl (congrArg Value.bool hc104)).trans rfl) rfl (x_load rfl Try.isAgg28 (hst.bc1 rfl)) ?_
                refine wl_val (v := .pointer (some ⟨b64, 3, none⟩)) ((wanted_eq rfl rfl rfl (congrArg Value.bool hc104)).trans rfl) rfl (x_field rfl Try.underlying30 rfl Try.sizeOf28 rfl) ?_
                refine wl_val (v := .float .f64 a0.Lo) ((wanted_eq rfl rfl rfl (congrArg Value.bool hc104)).trans rfl) rfl (x_load rfl Try.isAgg28 (hst.bc0 rfl)) ?_
                refine wl_val (v := .pointer (some ⟨b64, 4, none⟩)) ((wanted_eq rfl rfl rfl (congrArg Value.bool hc104)).trans rfl) rfl (x_field rfl Try.underlying30 rfl Try.sizeOf28 rfl) ?_
                refine wl_val (v := .float .f64 a0.Hi) ((wanted_eq rfl rfl rfl (congrArg Value.bool hc104)).trans rfl) rfl (x_load rfl Try.isAgg28 (hst.bc0 rfl)) ?_
                obtain ⟨t105, ht106, hm⟩ := bind_some hm
                refine wl_call ((wanted_eq rfl rfl rfl (congrArg Value.bool hc104)).trans rfl) rfl (x_call Try.call19 rfl (vs := [.float .f64 z95, .float .f64 a0.Lo, .float .f64 a0.Hi]) rfl) ?_
                refine (ref01_Within_ref hst.to0 ht106).mono ?_
                rintro _ w107 ⟨rfl, hst⟩
                refine ⟨_, rfl, ?_⟩
                replace hst := hst.of0
                refine wl_val (v := .bool t105) rfl rfl (x_pick_t hc104 rfl rfl) ?_
                refine wl_val (v := .bool t105) rfl rfl rfl ?_
                refine wl_nil ?_
                refine then_n ?_
                replace hst := hst.pull1
                replace hst := hst.pull1
                replace hst := hst.keep2
                obtain rfl := some_inj hm
                exact ⟨t105, _, hx114, ((fr_upd (t := 3) (v := .pointer (some ⟨b64, 0, none⟩)) rfl).trans ((fr_upd (t := 4) (v := .pointer (some ⟨b69, 0, none⟩)) rfl).trans ((fr_upd (t := 7) (v := .bool t105) rfl).trans rfl))), hst⟩
              · skip
                replace hm := bif_f hc104 hm
                refine wl_off ((wanted_eq rfl rfl rfl (congrArg Value.bool hc104)).trans rfl) rfl ?_
                refine wl_off ((wanted_eq rfl rfl rfl (congrArg Value.bool hc104)).trans rfl) rfl ?_
                refine wl_off ((wanted_eq rfl rfl rfl (congrArg Value.bool hc104)).trans rfl) rfl ?_
                refine wl_off ((wanted_eq rfl rfl rfl (congrArg Value.bool hc104)).trans rfl) rfl ?_
                refine wl_off ((wanted_eq rfl rfl rfl (congrArg Value.bool hc104)).trans rfl) rfl ?_
                refine wl_off ((wanted_eq rfl rfl rfl (congrArg Value.bool hc104)).trans rfl) rfl ?_
                refine wl_off ((wanted_eq rfl rfl rfl (congrArg Value.bool hc104)).trans rfl) rfl ?_
                refine wl_val (v := .bool false) rfl rfl (x_pick_f hc104 rfl rfl) ?_
                refine wl_val (v := .bool false) rfl rfl rfl ?_
                refine wl_nil ?_
                refine then_n ?_
                replace hst := hst.pull1
                replace hst := hst.pull1
                replace hst := hst.keep2
                obtain rfl := some_inj hm
                exact ⟨false, _, hx114, ((fr_upd (t := 3) (v := .pointer (some ⟨b64, 0, none⟩)) rfl).trans ((fr_upd (t := 4) (v := .pointer (some ⟨b69, 0, none⟩)) rfl).trans ((fr_upd (t := 7) (v := .bool false) rfl).trans rfl))), hst⟩
            · skip
              replace hm := bif_f hc103 hm
              refine wl_off ((wanted_eq rfl rfl rfl (congrArg Value.bool hc103)).trans rfl) rfl ?_
              refine wl_off ((wanted_eq rfl rfl rfl (congrArg Value.bool hc103)).trans rfl) rfl ?_
              refine wl_off ((wanted_eq rfl rfl rfl (congrArg Value.bool hc103)).trans rfl) rfl ?_
              refine wl_off ((wanted_eq rfl rfl rfl (congrArg Value.bool hc103)).trans rfl) rfl ?_
              refine wl_off ((wanted_eq rfl rfl rfl (congrArg Value.bool hc103)).trans rfl) rfl ?_
              refine wl_val (v := .bool false) rfl rfl (x_pick_f hc103 rfl rfl) ?_
              refine wl_val (v := .bool false) rfl rfl rfl ?_
              refine wl_off ((wanted_eq rfl rfl rfl rfl).trans rfl) rfl ?_
              refine wl_off ((wanted_eq rfl rfl rfl rfl).trans rfl) rfl ?_
              refine wl_off ((wanted_eq rfl rfl rfl rfl).trans rfl) rfl ?_
              refine wl_off ((wanted_eq rfl rfl rfl rfl).trans rfl) rfl ?_
              refine wl_off ((wanted_eq rfl rfl rfl rfl).trans rfl) rfl ?_
              refine wl_off ((wanted_eq rfl rfl rfl rfl).trans rfl) rfl ?_
              refine wl_off ((wanted_eq rfl rfl rfl rfl).trans rfl) rfl ?_
              refine wl_val (v := .bool false) rfl rfl (x_pick_f rfl rfl rfl) ?_
              refine wl_val (v := .bool false) rfl rfl rfl ?_
              refine wl_nil ?_
              refine then_n ?_
              replace hst := hst.pull1
              replace hst := hst.pull1
              replace hst := hst.keep2
              obtain rfl := some_inj hm
              exact ⟨false, _, hx114, ((fr_upd (t := 3) (v := .pointer (some ⟨b64, 0, none⟩)) rfl).trans ((fr_upd (t := 4) (v := .pointer (some ⟨b69, 0, none⟩)) rfl).trans ((fr_upd (t := 7) (v := .bool false) rfl).trans rfl))), hst⟩
          · skip
            replace hm := bif_f hc102 hm
            refine wl_off ((wanted_eq rfl rfl rfl (congrArg Value.bool hc102)).trans rfl) rfl ?_
            refine wl_off ((wanted_eq rfl rfl rfl (congrArg Value.bool hc102)).trans rfl) rfl ?_
            refine wl_off ((wanted_eq rfl rfl rfl (congrArg Value.bool hc102)).trans rfl) rfl ?_
            refine wl_off ((wanted_eq rfl rfl rfl (congrArg Value.bool hc102)).trans rfl) rfl ?_
            refine wl_off ((wanted_eq rfl rfl rfl (congrArg Value.bool hc102)).trans rfl) rfl ?_
            refine wl_val (v := .bool false) rfl rfl (x_pick_f hc102 rfl rfl) ?_
            refine wl_val (v := .bool false) rfl rfl rfl ?_
            refine wl_off ((wanted_eq rfl rfl rfl rfl).trans rfl) rfl ?_
            refine wl_off ((wanted_eq rfl rfl rfl rfl).trans rfl) rfl ?_
            refine wl_off ((wanted_eq rfl rfl rfl rfl).trans rfl) rfl ?_
            refine wl_off ((wanted_eq rfl rfl rfl rfl).trans rfl) rfl ?_
            refine wl_off ((wanted_eq rfl rfl rfl rfl).trans rfl) rfl ?_
            refine wl_val (v := .bool false) rfl rfl (x_pick_f rfl rfl rfl) ?_
            refine wl_val (v := .bool false) rfl rfl rfl ?_
            refine wl_off ((wanted_eq rfl rfl rfl rfl).trans rfl) rfl ?_
            refine wl_off ((wanted_eq rfl rfl rfl rfl).trans rfl) rfl ?_
            refine wl_off ((wanted_eq rfl rfl rfl rfl).trans rfl) rfl ?_
            refine wl_off ((wanted_eq rfl rfl rfl rfl).trans rfl) rfl ?_
            refine wl_off ((wanted_eq rfl rfl rfl rfl).trans rfl) rfl ?_
            refine wl_off ((wanted_eq rfl rfl rfl rfl).trans rfl) rfl ?_
            refine wl_off ((wanted_eq rfl rfl rfl rfl).trans rfl) rfl ?_
            refine wl_val (v := .bool false) rfl rfl (x_pick_f rfl rfl rfl) ?_
            refine wl_val (v := .bool false) rfl rfl rfl ?_
            refine wl_nil ?_
            refine then_n ?_
            replace hst := hst.pull1
            replace hst := hst.pull1
            replace hst := hst.keep2
            obtain rfl := some_inj hm
            exact ⟨false, _, hx114, ((fr_upd (t := 3) (v := .pointer (some ⟨b64, 0, none⟩)) rfl).trans ((fr_upd (t := 4) (v := .pointer (some ⟨b69, 0, none⟩)) rfl).trans ((fr_upd (t := 7) (v := .bool false) rfl).trans rfl))), hst⟩
        · skip
          replace hm := bif_f hc101 hm
          refine wl_off ((wanted_eq rfl rfl rfl (congrArg Value.bool hc101)).trans rfl) rfl ?_
          refine wl_off ((wanted_eq rfl rfl rfl (congrArg Value.bool hc101)).trans rfl) rfl ?_
          refine wl_off ((wanted_eq rfl rfl rfl (congrArg Value.bool hc101)).trans rfl) rfl ?_
          refine wl_off ((wanted_eq rfl rfl rfl (congrArg Value.bool hc101)).trans rfl) rfl ?_
          refine wl_off ((wanted_eq rfl rfl rfl (congrArg Value.bool hc101)).trans rfl) rfl ?_
          refine wl_val (v := .bool false) rfl rfl (x_pick_f hc101 rfl rfl) ?_
          refine wl_val (v := .bool false) rfl rfl rfl ?_
          refine wl_off ((wanted_eq rfl rfl rfl rfl).trans rfl) rfl ?_
          refine wl_off ((wanted_eq rfl rfl rfl rfl).trans rfl) rfl ?_
          refine wl_off ((wanted_eq rfl rfl rfl rfl).trans rfl) rfl ?_
          refine wl_off ((wanted_eq rfl rfl rfl rfl).trans rfl) rfl ?_
          refine wl_off ((wanted_eq rfl rfl rfl rfl).trans rfl) rfl ?_
          refine wl_val (v := .bool false) rfl rfl (x_pick_f rfl rfl rfl) ?_
          refine wl_val (v := .bool false) rfl rfl rfl ?_
          refine wl_off ((wanted_eq rfl rfl rfl rfl).trans rfl) rfl ?_
          refine wl_off ((wanted_eq rfl rfl rfl rfl).trans rfl) rfl ?_
          refine wl_off ((wanted_eq rfl rfl rfl rfl).trans rfl) rfl ?_
          refine wl_off ((wanted_eq rfl rfl rfl rfl).trans rfl) rfl ?_
          refine wl_off ((wanted_eq rfl rfl rfl rfl).trans rfl) rfl ?_
          refine wl_val (v := .bool false) rfl rfl (x_pick_f rfl rfl rfl) ?_
          refine wl_val (v := .bool false) rfl rfl rfl ?_
          refine wl_off ((wanted_eq rfl rfl rfl rfl).trans rfl) rfl ?_
          refine wl_off ((wanted_eq rfl rfl rfl rfl).trans rfl) rfl ?_
          refine wl_off ((wanted_eq rfl rfl rfl rfl).trans rfl) rfl ?_
          refine wl_off ((wanted_eq rfl rfl rfl rfl).trans rfl) rfl ?_
          refine wl_off ((wanted_eq rfl rfl rfl rfl).trans rfl) rfl ?_
          refine wl_off ((wanted_eq rfl rfl rfl rfl).trans rfl) rfl ?_
          refine wl_off ((wanted_eq rfl rfl rfl rfl).trans rfl) rfl ?_
          refine wl_val (v := .bool false) rfl rfl (x_pick_f rfl rfl rfl) ?_
          refine wl_val (v := .bool false) rfl rfl rfl ?_
          refine wl_nil ?_
          refine then_n ?_
          replace hst := hst.pull1
          replace hst := hst.pull1
          replace hst := hst.keep2
          obtain rfl := some_inj hm
          exact ⟨false, _, hx114, ((fr_upd (t := 3) (v := .pointer (some ⟨b64, 0, none⟩)) rfl).trans ((fr_upd (t := 4) (v := .pointer (some ⟨b69, 0, none⟩)) rfl).trans ((fr_upd (t := 7) (v := .bool false) rfl).trans rfl))), hst⟩
      · skip
        clear hst
        rintro _ w115 ⟨z110, σ111, hm, rfl, hst⟩
        dsimp only [law15_PolicyAllows_j2] at hm
        refine wp_seq ?_
        refine wp_region_lit ?_
        obtain ⟨t116, ht117, hm⟩ := bind_some hm
        refine wl_call rfl rfl (x_call Try.call8 rfl (vs := []) rfl) ?_
        refine (law15_awake_ref hst.to0 ht117).mono ?_
        rintro _ w118 ⟨rfl, hst⟩
        refine ⟨_, rfl, ?_⟩
        replace hst := hst.of0
        refine wl_val (v := .bool t116) rfl rfl rfl ?_
        refine bsplit t116 (fun hc121 => ?_) (fun hc121 => ?_)
        · skip
          replace hm := bif_t hc121 hm
          refine wl_val (v := .agg #[.int .u64 a0.ID, .int .i64 a0.From, .int .i64 a0.To, .float .f64 a0.Lo, .float .f64 a0.Hi, .int .u64 a0.Authority, .int .i64 a0.Quota]) ((wanted_eq rfl rfl rfl (congrArg Value.bool hc121)).trans rfl) rfl (x_loadN (cs := [.int .u64 a0.ID, .int .i64 a0.From, .int .i64 a0.To, .float .f64 a0.Lo, .float .f64 a0.Hi, .int .u64 a0.Authority, .int .i64 a0.Quota]) rfl Try.isAgg30 Try.sizeOf30 (hst.bcs0 0 rfl)) ?_
          refine wl_val (v := .agg #[.int .u64 a1.Session, .int .u64 a1.Seq, .int .i64 z83, .float .f64 z95, .int .i64 z84, .int .u64 z85, .int .u64 z86]) ((wanted_eq rfl rfl rfl (congrArg Value.bool hc121)).trans rfl) rfl (x_loadN (cs := [.int .u64 a1.Session, .int .u64 a1.Seq, .int .i64 z83, .float .f64 z95, .int .i64 z84, .int .u64 z85, .int .u64 z86]) rfl Try.isAgg52 Try.sizeOf52 (hst.bcs1 0 rfl)) ?_
          obtain ⟨t122, ht123, hm⟩ := bind_some hm
          refine wl_call ((wanted_eq rfl rfl rfl (congrArg Value.bool hc121)).trans rfl) rfl (x_call Try.call20 rfl (vs := [.agg #[.int .u64 a0.ID, .int .i64 a0.From, .int .i64 a0.To, .float .f64 a0.Lo, .float .f64 a0.Hi, .int .u64 a0.Authority, .int .i64 a0.Quota], .agg #[.int .u64 a1.Session, .int .u64 a1.Seq, .int .i64 z83, .float .f64 z95, .int .i64 z84, .int .u64 z85, .int .u64 z86]]) rfl) ?_
          refine (policy_Allows_ref hst.to0 ht123).mono ?_
          rintro _ w124 ⟨rfl, hst⟩
          refine ⟨_, rfl, ?_⟩
          replace hst := hst.of0
          refine wl_val (v := .bool z110) ((wanted_eq rfl rfl rfl (congrArg Value.bool hc121)).trans rfl) rfl rfl ?_
          refine wl_val (v := .bool (t122 == z110)) ((wanted_eq rfl rfl rfl (congrArg Value.bool hc121)).trans rfl) rfl (by kernel_rfl) ?_
          refine wl_val (v := .bool (t122 == z110)) rfl rfl (x_pick_t hc121 rfl rfl) ?_
          refine wl_val (v := .bool (t122 == z110)) rfl rfl rfl ?_
          refine wl_nil ?_
          refine then_n ?_
          refine wp_ret ?_
          obtain rfl := some_inj hm
          refine post_ret (vs := [.bool (t122 == z110)]) Try.results6 (rvs_cons (rv_tmp rfl) rvs_nil) ?_
          exact ⟨rfl, hst.keep0⟩
        · skip
          replace hm := bif_f hc121 hm
          refine wl_off ((wanted_eq rfl rfl rfl (congrArg Value.bool hc121)).trans rfl) rfl ?_
          refine wl_off ((wanted_eq rfl rfl rfl (congrArg Value.bool hc121)).trans rfl) rfl ?_
          refine wl_off ((wanted_eq rfl rfl rfl (congrArg Value.bool hc121)).trans rfl) rfl ?_
          refine wl_off ((wanted_eq rfl rfl rfl (congrArg Value.bool hc121)).trans rfl) rfl ?_
          refine wl_off ((wanted_eq rfl rfl rfl (congrArg Value.bool hc121)).trans rfl) rfl ?_
          refine wl_val (v := .bool false) rfl rfl (x_pick_f hc121 rfl rfl) ?_
          refine wl_val (v := .bool false) rfl rfl rfl ?_
          refine wl_nil ?_
          refine then_n ?_
          refine wp_ret ?_
          obtain rfl := some_inj hm
          refine post_ret (vs := [.bool false]) Try.results6 (rvs_cons (rv_tmp rfl) rvs_nil) ?_
          exact ⟨rfl, hst.keep0⟩

end Go.Proofs.Ytcnldkkdommmdaa
