/- The Go functions refine their models, part 1. -/
import Derived.Test.YtcnldkkdommmdaaPolicyBytesR0
set_option linter.unusedVariables false
set_option linter.unusedSimpArgs false
set_option maxRecDepth 100000
set_option maxHeartbeats 4000000
namespace Go.Proofs.Ytcnldkkdommmdaa
open Go Go.V
attribute [local irreducible] wpList Code.wp wpQuiet Calls bodyPost Oper.wp wpS Nx PendOK YieldsIn
theorem ref01_Same_ref {w0 w : World} {I : HL} {R : SP} {a0 : Nat} {a1 : Nat}  (hst : St w0 w I [] R) {r : (Bool)} (hm : ref01_Same a0 a1 = some r) :
    Calls Try.prog 23 #[.float .f64 a0, .float .f64 a1] w fun e w' => e = .returned (.bool r) ∧ St w0 w' I [] R := by
  unfold ref01_Same at hm
  refine calls_start (args := [.float .f64 a0, .float .f64 a1]) Try.func23 rfl Try.ntmps23 (Nat.le_of_ble_eq_true rfl) ?_
  refine wp_seq ?_
  refine wp_region_lit ?_
  refine wl_val (v := .bool false) rfl rfl rfl ?_
  refine wl_nil ?_
  refine then_n ?_
  refine wp_seq ?_
  refine wp_region_lit ?_
  refine wl_val (v := .float .f64 a0) rfl rfl rfl ?_
  refine wl_val (v := .float .f64 a1) rfl rfl rfl ?_
  obtain ⟨t316, ht317, hm⟩ := bind_some hm
  refine wl_call rfl rfl (x_call Try.call26 rfl (vs := [.float .f64 a0, .float .f64 a1]) rfl) ?_
  refine (ref01_Ahead_ref hst.to0 ht317).mono ?_
  rintro _ w318 ⟨rfl, hst⟩
  refine ⟨_, rfl, ?_⟩
  replace hst := hst.of0
  refine wl_val (v := .bool (!t316)) rfl rfl rfl ?_
  refine wl_val (v := .bool (!t316)) rfl rfl rfl ?_
  refine bsplit (!t316) (fun hc321 => ?_) (fun hc321 => ?_)
  · skip
    replace hm := bif_t hc321 hm
    refine wl_val (v := .float .f64 a1) ((wanted_eq rfl rfl rfl (congrArg Value.bool hc321)).trans rfl) rfl rfl ?_
    refine wl_val (v := .float .f64 a0) ((wanted_eq rfl rfl rfl (congrArg Value.bool hc321)).trans rfl) rfl rfl ?_
    obtain ⟨t322, ht323, hm⟩ := bind_some hm
    refine wl_call ((wanted_eq rfl rfl rfl (congrArg Value.bool hc321)).trans rfl) rfl (x_call Try.call26 rfl (vs := [.float .f64 a1, .float .f64 a0]) rfl) ?_
    refine (ref01_Ahead_ref hst.to0 ht323).mono ?_
    rintro _ w324 ⟨rfl, hst⟩
    refine ⟨_, rfl, ?_⟩
    replace hst := hst.of0
    refine wl_val (v := .bool (!t322)) ((wanted_eq rfl rfl rfl (congrArg Value.bool hc321)).trans rfl) rfl rfl ?_
    refine wl_val (v := .bool (!t322)) rfl rfl (x_pick_t hc321 rfl rfl) ?_
    refine wl_val (v := .bool (!t322)) rfl rfl rfl ?_
    refine wl_nil ?_
    refine then_n ?_
    refine wp_ret ?_
    obtain rfl := some_inj hm
    refine post_ret (vs := [.bool (!t322)]) Try.results23 (rvs_cons (rv_tmp rfl) rvs_nil) ?_
    exact ⟨rfl, hst.keep0⟩
  · skip
    replace hm := bif_f hc321 hm
    refine wl_off ((wanted_eq rfl rfl rfl (congrArg Value.bool hc321)).trans rfl) rfl ?_
    refine wl_off ((wanted_eq rfl rfl rfl (congrArg Value.bool hc321)).trans rfl) rfl ?_
    refine wl_off ((wanted_eq rfl rfl rfl (congrArg Value.bool hc321)).trans rfl) rfl ?_
    refine wl_off ((wanted_eq rfl rfl rfl (congrArg Value.bool hc321)).trans rfl) rfl ?_
    refine wl_val (v := .bool false) rfl rfl (x_pick_f hc321 rfl rfl) ?_
    refine wl_val (v := .bool false) rfl rfl rfl ?_
    refine wl_nil ?_
    refine then_n ?_
    refine wp_ret ?_
    obtain rfl := some_inj hm
    refine post_ret (vs := [.bool false]) Try.results23 (rvs_cons (rv_tmp rfl) rvs_nil) ?_
    exact ⟨rfl, hst.keep0⟩

theorem ref11_SameRule_ref {w0 w : World} {I : HL} {R : SP} {a0 : api_Rule} {a1 : api_Rule}  (hst : St w0 w I [] R) {r : (Bool)} (hm : ref11_SameRule a0 a1 = some r) :
    Calls Try.prog 12 #[.agg #[.int .u64 a0.ID, .int .i64 a0.From, .int .i64 a0.To, .float .f64 a0.Lo, .float .f64 a0.Hi, .int .u64 a0.Authority, .int .i64 a0.Quota], .agg #[.int .u64 a1.ID, .int .i64 a1.From, .int .i64 a1.To, .float .f64 a1.Lo, .float .f64 a1.Hi, .int .u64 a1.Authority, .int .i64 a1.Quota]] w fun e w' => e = .returned (.bool r) ∧ St w0 w' I [] R := by
  unfold ref11_SameRule at hm
  refine calls_start (args := [.agg #[.int .u64 a0.ID, .int .i64 a0.From, .int .i64 a0.To, .float .f64 a0.Lo, .float .f64 a0.Hi, .int .u64 a0.Authority, .int .i64 a0.Quota], .agg #[.int .u64 a1.ID, .int .i64 a1.From, .int .i64 a1.To, .float .f64 a1.Lo, .float .f64 a1.Hi, .int .u64 a1.Authority, .int .i64 a1.Quota]]) Try.func12 rfl Try.ntmps12 (Nat.le_of_ble_eq_true rfl) ?_
  refine wp_seq ?_
  refine wp_region_lit ?_
  obtain ⟨b318, w319, ew320, eb321, hst⟩ := hst.box [.int .u64 a0.ID, .int .i64 a0.From, .int .i64 a0.To, .float .f64 a0.Lo, .float .f64 a0.Hi, .int .u64 a0.Authority, .int .i64 a0.Quota] 30
  refine wl_run (v := .pointer (some ⟨b318, 0, none⟩)) (w' := w319) rfl rfl (x_al (by kernel_rfl) ew320 eb321) ?_
  obtain ⟨b323, w324, ew325, eb326, hst⟩ := hst.box [.int .u64 a1.ID, .int .i64 a1.From, .int .i64 a1.To, .float .f64 a1.Lo, .float .f64 a1.Hi, .int .u64 a1.Authority, .int .i64 a1.Quota] 30
  refine wl_run (v := .pointer (some ⟨b323, 0, none⟩)) (w' := w324) rfl rfl (x_al (by kernel_rfl) ew325 eb326) ?_
  refine wl_val (v := .bool false) rfl rfl rfl ?_
  refine wl_nil ?_
  refine then_n ?_
  refine wp_seq ?_
  refine wp_region_lit ?_
  refine wl_val (v := .pointer (some ⟨b318, 0, none⟩)) rfl rfl (x_field rfl Try.underlying30 rfl Try.sizeOf27 rfl) ?_
  refine wl_val (v := .int .u64 a0.ID) rfl rfl (x_load rfl Try.isAgg27 (hst.bc1 rfl)) ?_
  refine wl_val (v := .pointer (some ⟨b323, 0, none⟩)) rfl rfl (x_field rfl Try.underlying30 rfl Try.sizeOf27 rfl) ?_
  refine wl_val (v := .int .u64 a1.ID) rfl rfl (x_load rfl Try.isAgg27 (hst.bc0 rfl)) ?_
  refine wl_val (v := .bool (a0.ID == a1.ID)) rfl rfl rfl ?_
  refine wl_val (v := .bool (a0.ID == a1.ID)) rfl rfl rfl ?_
  refine bsplit (a0.ID == a1.ID) (fun hc328 => ?_) (fun hc328 => ?_)
  · skip
    replace hm := bif_t hc328 hm
    refine wl_val (v := .pointer (some ⟨b318, 1, none⟩)) ((wanted_eq rfl rfl rfl (congrArg Value.bool hc328)).trans rfl) rfl (x_field rfl Try.underlying30 rfl Try.sizeOf3 rfl) ?_
    refine wl_val (v := .int .i64 a0.From) ((wanted_eq rfl rfl rfl (congrArg Value.bool hc328)).trans rfl) rfl (x_load rfl Try.isAgg3 (hst.bc1 rfl)) ?_
    refine wl_val (v := .pointer (some ⟨b323, 1, none⟩)) ((wanted_eq rfl rfl rfl (congrArg Value.bool hc328)).trans rfl) rfl (x_field rfl Try.underlying30 rfl Try.sizeOf3 rfl) ?_
    refine wl_val (v := .int .i64 a1.From) ((wanted_eq rfl rfl rfl (congrArg Value.bool hc328)).trans rfl) rfl (x_load rfl Try.isAgg3 (hst.bc0 rfl)) ?_
    refine wl_val (v := .bool (a0.From == a1.From)) ((wanted_eq rfl rfl rfl (congrArg Value.bool hc328)).trans rfl) rfl rfl ?_
    refine wl_val (v := .bool (a0.From == a1.From)) rfl rfl (x_pick_t hc328 rfl rfl) ?_
    refine wl_val (v := .bool (a0.From == a1.From)) rfl rfl rfl ?_
    refine bsplit (a0.From == a1.From) (fun hc329 => ?_) (fun hc329 => ?_)
    · skip
      replace hm := bif_t hc329 hm
      refine wl_val (v := .pointer (some ⟨b318, 2, none⟩)) ((wanted_eq rfl rfl rfl (congrArg Value.bool hc329)).trans rfl) rfl (x_field rfl Try.underlying30 rfl Try.sizeOf3 rfl) ?_
      refine wl_val (v := .int .i64 a0.To) ((wanted_eq rfl rfl rfl (congrArg Value.bool hc329)).trans rfl) rfl (x_load rfl Try.isAgg3 (hst.bc1 rfl)) ?_
      refine wl_val (v := .pointer (some ⟨b323, 2, none⟩)) ((wanted_eq rfl rfl rfl (congrArg Value.bool hc329)).trans rfl) rfl (x_field rfl Try.underlying30 rfl Try.sizeOf3 rfl) ?_
      refine wl_val (v := .int .i64 a1.To) ((wanted_eq rfl rfl rfl (congrArg Value.bool hc329)).trans rfl) rfl (x_load rfl Try.isAgg3 (hst.bc0 rfl)) ?_
      refine wl_val (v := .bool (a0.To == a1.To)) ((wanted_eq rfl rfl rfl (congrArg Value.bool hc329)).trans rfl) rfl rfl ?_
      refine wl_val (v := .bool (a0.To == a1.To)) rfl rfl (x_pick_t hc329 rfl rfl) ?_
      refine wl_val (v := .bool (a0.To == a1.To)) rfl rfl rfl ?_
      refine bsplit (a0.To == a1.To) (fun hc330 => ?_) (fun hc330 => ?_)
      · skip
        replace hm := bif_t hc330 hm
        refine wl_val (v := .pointer (some ⟨b318, 3, none⟩)) ((wanted_eq rfl rfl rfl (congrArg Value.bool hc330)).trans rfl) rfl (x_field rfl Try.underlying30 rfl Try.sizeOf28 rfl) ?_
        refine wl_val (v := .float .f64 a0.Lo) ((wanted_eq rfl rfl rfl (congrArg Value.bool hc330)).trans rfl) rfl (x_load rfl Try.isAgg28 (hst.bc1 rfl)) ?_
        refine wl_val (v := .pointer (some ⟨b323, 3, none⟩)) ((wanted_eq rfl rfl rfl (congrArg Value.bool hc330)).trans rfl) rfl (x_field rfl Try.underlying30 rfl Try.sizeOf28 rfl) ?_
        refine wl_val (v := .float .f64 a1.Lo) ((wanted_eq rfl rfl rfl (congrArg Value.bool hc330)).trans rfl) rfl (x_load rfl Try.isAgg28 (hst.bc0 rfl)) ?_
        obtain ⟨t331, ht332, hm⟩ := bind_some hm
        refine wl_call ((wanted_eq rfl rfl rfl (congrArg Value.bool hc330)).trans rfl) rfl (x_call Try.call23 rfl (vs := [.float .f64 a0.Lo, .float .f64 a1.Lo]) rfl) ?_
        refine (ref01_Same_ref hst.to0 ht332).mono ?_
        rintro _ w333 ⟨rfl, hst⟩
        refine ⟨_, rfl, ?_⟩
        replace hst := hst.of0
        refine wl_val (v := .bool t331) rfl rfl (x_pick_t hc330 rfl rfl) ?_
        refine wl_val (v := .bool t331) rfl rfl rfl ?_
        refine bsplit t331 (fun hc336 => ?_) (fun hc336 => ?_)
        · skip
          replace hm := bif_t hc336 hm
          refine wl_val (v := .pointer (some ⟨b318, 4, none⟩)) ((wanted_eq rfl rfl rfl (congrArg Value.bool hc336)).trans rfl) rfl (x_field rfl Try.underlying30 rfl Try.sizeOf28 rfl) ?_
          refine wl_val (v := .float .f64 a0.Hi) ((wanted_eq rfl rfl rfl (congrArg Value.bool hc336)).trans rfl) rfl (x_load rfl Try.isAgg28 (hst.bc1 rfl)) ?_
          refine wl_val (v := .pointer (some ⟨b323, 4, none⟩)) ((wanted_eq rfl rfl rfl (congrArg Value.bool hc336)).trans rfl) rfl (x_field rfl Try.underlying30 rfl Try.sizeOf28 rfl) ?_
          refine wl_val (v := .float .f64 a1.Hi) ((wanted_eq rfl rfl rfl (congrArg Value.bool hc336)).trans rfl) rfl (x_load rfl Try.isAgg28 (hst.bc0 rfl)) ?_
          obtain ⟨t337, ht338, hm⟩ := bind_some hm
          refine wl_call ((wanted_eq rfl rfl rfl (congrArg Value.bool hc336)).trans rfl) rfl (x_call Try.call23 rfl (vs := [.float .f64 a0.Hi, .float .f64 a1.Hi]) rfl) ?_
          refine (ref01_Same_ref hst.to0 ht338).mono ?_
          rintro _ w339 ⟨rfl, hst⟩
          refine ⟨_, rfl, ?_⟩
          replace hst := hst.of0
          refine wl_val (v := .bool t337) rfl rfl (x_pick_t hc336 rfl rfl) ?_
          refine wl_val (v := .bool t337) rfl rfl rfl ?_
          refine bsplit t337 (fun hc342 => ?_) (fun hc342 => ?_)
          · skip
            replace hm := bif_t hc342 hm
            refine wl_val (v := .pointer (some ⟨b318, 5, none⟩)) ((wanted_eq rfl rfl rfl (congrArg Value.bool hc342)).trans rfl) rfl (x_field rfl Try.underlying30 rfl Try.sizeOf27 rfl) ?_
            refine wl_val (v := .int .u64 a0.Authority) ((wanted_eq rfl rfl rfl (congrArg Value.bool hc342)).trans rfl) rfl (x_load rfl Try.isAgg27 (hst.bc1 rfl)) ?_
            refine wl_val (v := .pointer (some ⟨b323, 5, none⟩)) ((wanted_eq rfl rfl rfl (congrArg Value.bool hc342)).trans rfl) rfl (x_field rfl Try.underlying30 rfl Try.sizeOf27 rfl) ?_
            refine wl_val (v := .int .u64 a1.Authority) ((wanted_eq rfl rfl rfl (congrArg Value.bool hc342)).trans rfl) rfl (x_load rfl Try.isAgg27 (hst.bc0 rfl)) ?_
            refine wl_val (v := .bool (a0.Authority == a1.Authority)) ((wanted_eq rfl rfl rfl (congrArg Value.bool hc342)).trans rfl) rfl rfl ?_
            refine wl_val (v := .bool (a0.Authority == a1.Authority)) rfl rfl (x_pick_t hc342 rfl rfl) ?_
            refine wl_val (v := .bool (a0.Authority == a1.Authority)) rfl rfl rfl ?_
            refine bsplit (a0.Authority == a1.Authority) (fun hc343 => ?_) (fun hc343 => ?_)
            · skip
              replace hm := bif_t hc343 hm
              refine wl_val (v := .pointer (some ⟨b318, 6, none⟩)) ((wanted_eq rfl rfl rfl (congrArg Value.bool hc343)).trans rfl) rfl (x_field rfl Try.underlying30 rfl Try.sizeOf3 rfl) ?_
              refine wl_val (v := .int .i64 a0.Quota) ((wanted_eq rfl rfl rfl (congrArg Value.bool hc343)).trans rfl) rfl (x_load rfl Try.isAgg3 (hst.bc1 rfl)) ?_
              refine wl_val (v := .pointer (some ⟨b323, 6, none⟩)) ((wanted_eq rfl rfl rfl (congrArg Value.bool hc343)).trans rfl) rfl (x_field rfl Try.underlying30 rfl Try.sizeOf3 rfl) ?_
              refine wl_val (v := .int .i64 a1.Quota) ((wanted_eq rfl rfl rfl (congrArg Value.bool hc343)).trans rfl) rfl (x_load rfl Try.isAgg3 (hst.bc0 rfl)) ?_
              refine wl_val (v := .bool (a0.Quota == a1.Quota)) ((wanted_eq rfl rfl rfl (congrArg Value.bool hc343)).trans rfl) rfl rfl ?_
              refine wl_val (v := .bool (a0.Quota == a1.Quota)) rfl rfl (x_pick_t hc343 rfl rfl) ?_
              refine wl_val (v := .bool (a0.Quota == a1.Quota)) rfl rfl rfl ?_
              refine wl_nil ?_
              refine then_n ?_
              refine wp_ret ?_
              obtain rfl := some_inj hm
              refine post_ret (vs := [.bool (a0.Quota == a1.Quota)]) Try.results12 (rvs_cons (rv_tmp rfl) rvs_nil) ?_
              exact ⟨rfl, hst.keep0⟩
            · skip
              replace hm := bif_f hc343 hm
              refine wl_off ((wanted_eq rfl rfl rfl (congrArg Value.bool hc343)).trans rfl) rfl ?_
              refine wl_off ((wanted_eq rfl rfl rfl (congrArg Value.bool hc343)).trans rfl) rfl ?_
              refine wl_off ((wanted_eq rfl rfl rfl (congrArg Value.bool hc343)).trans rfl) rfl ?_
              refine wl_off ((wanted_eq rfl rfl rfl (congrArg Value.bool hc343)).trans rfl) rfl ?_
              refine wl_off ((wanted_eq rfl rfl rfl (congrArg Value.bool hc343)).trans rfl) rfl ?_
              refine wl_val (v := .bool false) rfl rfl (x_pick_f hc343 rfl rfl) ?_
              refine wl_val (v := .bool false) rfl rfl rfl ?_
              refine wl_nil ?_
              refine then_n ?_
              refine wp_ret ?_
              obtain rfl := some_inj hm
              refine post_ret (vs := [.bool false]) Try.results12 (rvs_cons (rv_tmp rfl) rvs_nil) ?_
              exact ⟨rfl, hst.keep0⟩
          · skip
            replace hm := bif_f hc342 hm
            refine wl_off ((wanted_eq rfl rfl rfl (congrArg Value.bool hc342)).trans rfl) rfl ?_
            refine wl_off ((wanted_eq rfl rfl rfl (congrArg Value.bool hc342)).trans rfl) rfl ?_
            refine wl_off ((wanted_eq rfl rfl rfl (congrArg Value.bool hc342)).trans rfl) rfl ?_
            refine wl_off ((wanted_eq rfl rfl rfl (congrArg Value.bool hc342)).trans rfl) rfl ?_
            refine wl_off ((wanted_eq rfl rfl rfl (congrArg Value.bool hc342)).trans rfl) rfl ?_
            refine wl_val (v := .bool false) rfl rfl (x_pick_f hc342 rfl rfl) ?_
            refine wl_val (v := .bool false) rfl rfl rfl ?_
            refine wl_off ((wanted_eq rfl rfl rfl rfl).trans rfl) rfl ?_
            refine wl_off ((wanted_eq rfl rfl rfl rfl).trans rfl) rfl ?_
            refine wl_off ((wanted_eq rfl rfl rfl rfl).trans rfl) rfl ?_
            refine wl_off ((wanted_eq rfl rfl rfl rfl).trans rfl) rfl ?_
            refine wl_off ((wanted_eq rfl rfl rfl rfl).trans rfl) rfl ?_
            refine wl_val (v := .bool false) rfl rfl (x_pick_f rfl rfl rfl) ?_
            refine wl_val (v := .bool false) rfl rfl rfl ?_
            refine wl_nil ?_
            refine then_n ?_
            refine wp_ret ?_
            obtain rfl := some_inj hm
            refine post_ret (vs := [.bool false]) Try.results12 (rvs_cons (rv_tmp rfl) rvs_nil) ?_
            exact ⟨rfl, hst.keep0⟩
        · skip
          replace hm := bif_f hc336 hm
          refine wl_off ((wanted_eq rfl rfl rfl (congrArg Value.bool hc336)).trans rfl) rfl ?_
          refine wl_off ((wanted_eq rfl rfl rfl (congrArg Value.bool hc336)).trans rfl) rfl ?_
          refine wl_off ((wanted_eq rfl rfl rfl (congrArg Value.bool hc336)).trans rfl) rfl ?_
          refine wl_off ((wanted_eq rfl rfl rfl (congrArg Value.bool hc336)).trans rfl) rfl ?_
          refine wl_off ((wanted_eq rfl rfl rfl (congrArg Value.bool hc336)).trans rfl) rfl ?_
          refine wl_val (v := .bool false) rfl rfl (x_pick_f hc336 rfl rfl) ?_
          refine wl_val (v := .bool false) rfl rfl rfl ?_
          refine wl_off ((wanted_eq rfl rfl rfl rfl).trans rfl) rfl ?_
          refine wl_off ((wanted_eq rfl rfl rfl rfl).trans rfl) rfl ?_
          refine wl_off ((wanted_eq rfl rfl rfl rfl).trans rfl) rfl ?_
          refine wl_off ((wanted_eq rfl rfl rfl rfl).trans rfl) rfl ?_
          refine wl_off ((wanted_eq rfl rfl rfl rfl).trans rfl) rfl ?_
          refine wl_val (v := .bool false) rfl rfl (x_pick_f rfl rfl rfl) ?_
          refine wl_val (v := .bool false) rfl rfl rfl ?_
          refine wl_off ((wanted_eq rfl rfl rfl rfl).trans rfl) rfl ?_
          refine wl_off ((wanted_eq rfl rfl rfl rfl).trans rfl) rfl ?_
          refine wl_off ((wanted_eq rfl rfl rfl rfl).trans rfl) rfl ?_
          refine wl_off ((wanted_eq rfl rfl rfl rfl).trans rfl) rfl ?_
          refine wl_off ((wanted_eq rfl rfl rfl rfl).trans rfl) rfl ?_
          refine wl_val (v := .bool false) rfl rfl (x_pick_f rfl rfl rfl) ?_
          refine wl_val (v := .bool false) rfl rfl rfl ?_
          refine wl_nil ?_
          refine then_n ?_
          refine wp_ret ?_
          obtain rfl := some_inj hm
          refine post_ret (vs := [.bool false]) Try.results12 (rvs_cons (rv_tmp rfl) rvs_nil) ?_
          exact ⟨rfl, hst.keep0⟩
      · skip
        replace hm := bif_f hc330 hm
        refine wl_off ((wanted_eq rfl rfl rfl (congrArg Value.bool hc330)).trans rfl) rfl ?_
        refine wl_off ((wanted_eq rfl rfl rfl (congrArg Value.bool hc330)).trans rfl) rfl ?_
        refine wl_off ((wanted_eq rfl rfl rfl (congrArg Value.bool hc330)).trans rfl) rfl ?_
        refine wl_off ((wanted_eq rfl rfl rfl (congrArg Value.bool hc330)).trans rfl) rfl ?_
        refine wl_off ((wanted_eq rfl rfl rfl (congrArg Value.bool hc330)).trans rfl) rfl ?_
        refine wl_val (v := .bool false) rfl rfl (x_pick_f hc330 rfl rfl) ?_
        refine wl_val (v := .bool false) rfl rfl rfl ?_
        refine wl_off ((wanted_eq rfl rfl rfl rfl).trans rfl) rfl ?_
        refine wl_off ((wanted_eq rfl rfl rfl rfl).trans rfl) rfl ?_
        refine wl_off ((wanted_eq rfl rfl rfl rfl).trans rfl) rfl ?_
        refine wl_off ((wanted_eq rfl rfl rfl rfl).trans rfl) rfl ?_
        refine wl_off ((wanted_eq rfl rfl rfl rfl).trans rfl) rfl ?_
        refine wl_val (v := .bool false) rfl rfl (x_pick_f rfl rfl rfl) ?_
        refine wl_val (v := .bool false) rfl rfl rfl ?_
        refine wl_off ((wanted_eq rfl rfl rfl rfl).trans rfl) rfl ?_
        refine wl_off ((wanted_eq rfl rfl rfl rfl).trans rfl) rfl ?_
        refine wl_off ((wanted_eq rfl rfl rfl rfl).trans rfl) rfl ?_
        refine wl_off ((wanted_eq rfl rfl rfl rfl).trans rfl) rfl ?_
        refine wl_off ((wanted_eq rfl rfl rfl rfl).trans rfl) rfl ?_
        refine wl_val (v := .bool false) rfl rfl (x_pick_f rfl rfl rfl) ?_
        refine wl_val (v := .bool false) rfl rfl rfl ?_
        refine wl_off ((wanted_eq rfl rfl rfl rfl).trans rfl) rfl ?_
        refine wl_off ((wanted_eq rfl rfl rfl rfl).trans rfl) rfl ?_
        refine wl_off ((wanted_eq rfl rfl rfl rfl).trans rfl) rfl ?_
        refine wl_off ((wanted_eq rfl rfl rfl rfl).trans rfl) rfl ?_
        refine wl_off ((wanted_eq rfl rfl rfl rfl).trans rfl) rfl ?_
        refine wl_val (v := .bool false) rfl rfl (x_pick_f rfl rfl rfl) ?_
        refine wl_val (v := .bool false) rfl rfl rfl ?_
        refine wl_nil ?_
        refine then_n ?_
        refine wp_ret ?_
        obtain rfl := some_inj hm
        refine post_ret (vs := [.bool false]) Try.results12 (rvs_cons (rv_tmp rfl) rvs_nil) ?_
        exact ⟨rfl, hst.keep0⟩
    · skip
      replace hm := bif_f hc329 hm
      refine wl_off ((wanted_eq rfl rfl rfl (congrArg Value.bool hc329)).trans rfl) rfl ?_
      refine wl_off ((wanted_eq rfl rfl rfl (congrArg Value.bool hc329)).trans rfl) rfl ?_
      refine wl_off ((wanted_eq rfl rfl rfl (congrArg Value.bool hc329)).trans rfl) rfl ?_
      refine wl_off ((wanted_eq rfl rfl rfl (congrArg Value.bool hc329)).trans rfl) rfl ?_
      refine wl_off ((wanted_eq rfl rfl rfl (congrArg Value.bool hc329)).trans rfl) rfl ?_
      refine wl_val (v := .bool false) rfl rfl (x_pick_f hc329 rfl rfl) ?_
      refine wl_val (v := .bool false) rfl rfl rfl ?_
      refine wl_off ((wanted_eq rfl rfl rfl rfl).trans rfl) rfl ?_
      refine wl_off ((wanted_eq rfl rfl rfl rfl).trans rfl) rfl ?_
      refine wl_off ((wanted_eq rfl rfl rfl rfl).trans rfl) rfl ?_
      refine wl_off ((wanted_eq rfl rfl rfl rfl).trans rfl) rfl ?_
      refine wl_off ((wanted_eq rfl rfl rfl rfl).trans rfl) rfl ?_
      refine wl_val (v := .bool false) rfl rfl (x_pick_f rfl rfl rfl) ?_
      refine wl_val (v := .bool false) rfl rfl rfl ?_
      refine wl_off ((wanted_eq rfl rfl rfl rfl).trans rfl) rfl ?_
      refine wl_off ((wanted_eq rfl rfl rfl rfl).trans rfl) rfl ?_
      refine wl_off ((wanted_eq rfl rfl rfl rfl).trans rfl) rfl ?_
      refine wl_off ((wanted_eq rfl rfl rfl rfl).trans rfl) rfl ?_
      refine wl_off ((wanted_eq rfl rfl rfl rfl).trans rfl) rfl ?_
      refine wl_val (v := .bool false) rfl rfl (x_pick_f rfl rfl rfl) ?_
      refine wl_val (v := .bool false) rfl rfl rfl ?_
      refine wl_off ((wanted_eq rfl rfl rfl rfl).trans rfl) rfl ?_
      refine wl_off ((wanted_eq rfl rfl rfl rfl).trans rfl) rfl ?_
      refine wl_off ((wanted_eq rfl rfl rfl rfl).trans rfl) rfl ?_
      refine wl_off ((wanted_eq rfl rfl rfl rfl).trans rfl) rfl ?_
      refine wl_off ((wanted_eq rfl rfl rfl rfl).trans rfl) rfl ?_
      refine wl_val (v := .bool false) rfl rfl (x_pick_f rfl rfl rfl) ?_
      refine wl_val (v := .bool false) rfl rfl rfl ?_
      refine wl_off ((wanted_eq rfl rfl rfl rfl).trans rfl) rfl ?_
      refine wl_off ((wanted_eq rfl rfl rfl rfl).trans rfl) rfl ?_
      refine wl_off ((wanted_eq rfl rfl rfl rfl).trans rfl) rfl ?_
      refine wl_off ((wanted_eq rfl rfl rfl rfl).trans rfl) rfl ?_
      refine wl_off ((wanted_eq rfl rfl rfl rfl).trans rfl) rfl ?_
      refine wl_val (v := .bool false) rfl rfl (x_pick_f rfl rfl rfl) ?_
      refine wl_val (v := .bool false) rfl rfl rfl ?_
      refine wl_nil ?_
      refine then_n ?_
      refine wp_ret ?_
      obtain rfl := some_inj hm
      refine post_ret (vs := [.bool false]) Try.results12 (rvs_cons (rv_tmp rfl) rvs_nil) ?_
      exact ⟨rfl, hst.keep0⟩
  · skip
    replace hm := bif_f hc328 hm
    refine wl_off ((wanted_eq rfl rfl rfl (congrArg Value.bool hc328)).trans rfl) rfl ?_
    refine wl_off ((wanted_eq rfl rfl rfl (congrArg Value.bool hc328)).trans rfl) rfl ?_
    refine wl_off ((wanted_eq rfl rfl rfl (congrArg Value.bool hc328)).trans rfl) rfl ?_
    refine wl_off ((wanted_eq rfl rfl rfl (congrArg Value.bool hc328)).trans rfl) rfl ?_
    refine wl_off ((wanted_eq rfl rfl rfl (congrArg Value.bool hc328)).trans rfl) rfl ?_
    refine wl_val (v := .bool false) rfl rfl (x_pick_f hc328 rfl rfl) ?_
    refine wl_val (v := .bool false) rfl rfl rfl ?_
    refine wl_off ((wanted_eq rfl rfl rfl rfl).trans rfl) rfl ?_
    refine wl_off ((wanted_eq rfl rfl rfl rfl).trans rfl) rfl ?_
    refine wl_off ((wanted_eq rfl rfl rfl rfl).trans rfl) rfl ?_
    refine wl_off ((wanted_eq rfl rfl rfl rfl).trans rfl) rfl ?_
    refine wl_off ((wanted_eq rfl rfl rfl rfl).trans rfl) rfl ?_
    refine wl_val (v := .bool false) rfl rfl (x_pick_f rfl rfl rfl) ?_
    refine wl_val (v := .bool false) rfl rfl rfl ?_
    refine wl_off ((wanted_eq rfl rfl rfl rfl).trans rfl) rfl ?_
    refine wl_off ((wanted_eq rfl rfl rfl rfl).trans rfl) rfl ?_
    refine wl_off ((wanted_eq rfl rfl rfl rfl).trans rfl) rfl ?_
    refine wl_off ((wanted_eq rfl rfl rfl rfl).trans rfl) rfl ?_
    refine wl_off ((wanted_eq rfl rfl rfl rfl).trans rfl) rfl ?_
    refine wl_val (v := .bool false) rfl rfl (x_pick_f rfl rfl rfl) ?_
    refine wl_val (v := .bool false) rfl rfl rfl ?_
    refine wl_off ((wanted_eq rfl rfl rfl rfl).trans rfl) rfl ?_
    refine wl_off ((wanted_eq rfl rfl rfl rfl).trans rfl) rfl ?_
    refine wl_off ((wanted_eq rfl rfl rfl rfl).trans rfl) rfl ?_
    refine wl_off ((wanted_eq rfl rfl rfl rfl).trans rfl) rfl ?_
    refine wl_off ((wanted_eq rfl rfl rfl rfl).trans rfl) rfl ?_
    refine wl_val (v := .bool false) rfl rfl (x_pick_f rfl rfl rfl) ?_
    refine wl_val (v := .bool false) rfl rfl rfl ?_
    refine wl_off ((wanted_eq rfl rfl rfl rfl).trans rfl) rfl ?_
    refine wl_off ((wanted_eq rfl rfl rfl rfl).trans rfl) rfl ?_
    refine wl_off ((wanted_eq rfl rfl rfl rfl).trans rfl) rfl ?_
    refine wl_off ((wanted_eq rfl rfl rfl rfl).trans rfl) rfl ?_
    refine wl_off ((wanted_eq rfl rfl rfl rfl).trans rfl) rfl ?_
    refine wl_val (v := .bool false) rfl rfl (x_pick_f rfl rfl rfl) ?_
    refine wl_val (v := .bool false) rfl rfl rfl ?_
    refine wl_off ((wanted_eq rfl rfl rfl rfl).trans rfl) rfl ?_
    refine wl_off ((wanted_eq rfl rfl rfl rfl).trans rfl) rfl ?_
    refine wl_off ((wanted_eq rfl rfl rfl rfl).trans rfl) rfl ?_
    refine wl_off ((wanted_eq rfl rfl rfl rfl).trans rfl) rfl ?_
    refine wl_off ((wanted_eq rfl rfl rfl rfl).trans rfl) rfl ?_
    refine wl_val (v := .bool false) rfl rfl (x_pick_f rfl rfl rfl) ?_
    refine wl_val (v := .bool false) rfl rfl rfl ?_
    refine wl_nil ?_
    refine then_n ?_
    refine wp_ret ?_
    obtain rfl := some_inj hm
    refine post_ret (vs := [.bool false]) Try.results12 (rvs_cons (rv_tmp rfl) rvs_nil) ?_
    exact ⟨rfl, hst.keep0⟩

theorem law15_told_ref {w0 w : World} {I : HL} {R : SP} {a0 : (Option policy_Book)} {p0 : Value} {a1 : (List ref11_Line)} {r1_0 : Value} (f1_0 : Rd ty_ref11_Line R I r1_0 a1) (hst : St w0 w I [objO at_policy_Book p0 a0] R) {r : (Bool)} (hm : law15_told a0 a1 = some r) :
    Calls Try.prog 18 #[p0, r1_0] w fun e w' => e = .returned (.bool r) ∧ St w0 w' I [objO at_policy_Book p0 a0] R := by
  unfold law15_told at hm
  refine calls_start (args := [p0, r1_0]) Try.func18 rfl Try.ntmps18 (Nat.le_of_ble_eq_true rfl) ?_
  refine wp_seq ?_
  refine wp_region_lit ?_
  refine wl_val (v := .bool false) rfl rfl rfl ?_
  refine wl_nil ?_
  refine then_n ?_
  refine wp_seq ?_
  refine wp_seq ?_
  refine wp_region_lit ?_
  refine wl_val (v := p0) rfl rfl rfl ?_
  obtain ⟨t598, ht599, hm⟩ := bind_some hm
  refine wl_call rfl rfl (x_call Try.call14 rfl (vs := [p0]) rfl) ?_
  refine (policy_Book_Len_ref hst.to1 ht599).mono ?_
  rintro _ w600 ⟨rfl, hst⟩
  refine ⟨_, rfl, ?_⟩
  replace hst := hst.of1
  refine wl_val (v := r1_0) rfl rfl rfl ?_
  refine wl_val (v := .int .i64 ((a1).length : Int)) rfl rfl (x_len rfl Try.underlying42 (rd_sliceV f1_0)) ?_
  refine wl_val (v := .bool (t598 != ((a1).length : Int))) rfl rfl rfl ?_
  refine wl_nil ?_
  refine then_n ?_
  refine bsplit (t598 != ((a1).length : Int)) (fun hc603 => ?_) (fun hc603 => ?_)
  · skip
    replace hm := bif_t hc603 hm
    refine wp_ift (congrArg Value.bool hc603) ?_
    refine wp_seq ?_
    refine wp_region_lit ?_
    refine wl_val (v := .bool false) rfl rfl rfl ?_
    refine wl_nil ?_
    refine then_n ?_
    refine wp_ret ?_
    refine then_r ?_
    obtain rfl := some_inj hm
    refine post_ret (vs := [.bool false]) Try.results18 (rvs_cons (rv_tmp rfl) rvs_nil) ?_
    exact ⟨rfl, hst.keep1⟩
  · skip
    replace hm := bif_f hc603 hm
    refine wp_iff (congrArg Value.bool hc603) ?_
    refine wp_skip ?_
    refine then_n ?_
    refine wp_seq ?_
    refine wp_seq ?_
    refine wp_region_lit ?_
    refine wl_val (v := .int .u64 (0:Int)) rfl rfl rfl ?_
    refine wl_nil ?_
    refine then_n ?_
    refine wp_block ?_
    obtain ⟨n821, hm⟩ := loopO_some hm
    refine wp_loop_n (fun n a w => ∃ (z819 : Int) (σ820 : Nat → Value), loopN (law15_told_l0 a0 a1) n z819 = some r ∧ a = Fr 47 (upd (upd (upd σ820 0 (p0)) 1 (r1_0)) 5 (.int .u64 z819)) ∧ St w0 w I [objO at_policy_Book p0 a0] R) n821 ⟨(0:Int), _, hm, ((fr_upd (t := 0) (v := p0) rfl).trans ((fr_upd (t := 1) (v := r1_0) rfl).trans ((fr_upd (t := 5) (v := .int .u64 (0:Int)) rfl).trans rfl))), hst⟩ ?_
    rintro n827 _ w822 ⟨z819, σ820, hm, rfl, hst⟩
    obtain ⟨n824, y825, rfl, hm, hx826⟩ := loopN_some hm
    dsimp only [law15_told_l0] at hm
    refine wp_seq ?_
    refine wp_seq ?_
    refine wp_region_lit ?_
    refine wl_val (v := .int .u64 z819) rfl rfl rfl ?_
    refine wl_val (v := .bool (decide (z819 < (4:Int)))) rfl rfl rfl ?_
    refine wl_nil ?_
    refine then_n ?_
    refine bsplit (decide (z819 < (4:Int))) (fun hc828 => ?_) (fun hc828 => ?_)
    · skip
      replace hm := bif_t hc828 hm
      refine wp_ift (congrArg Value.bool hc828) ?_
      refine wp_skip ?_
      refine then_n ?_
      refine wp_seq ?_
      refine wp_block ?_
      refine wp_seq ?_
      refine wp_region_lit ?_
      refine wl_val (v := .int .u64 (0:Int)) rfl rfl rfl ?_
      refine wl_nil ?_
      refine then_n ?_
      refine wp_block ?_
      obtain ⟨n896, hm⟩ := loopO_some hm
      refine wp_loop_n (fun n a w => ∃ (z894 : Int) (σ895 : Nat → Value), loopN (law15_told_l1 a0 z819 a1) n z894 = some y825 ∧ a = Fr 47 (upd (upd (upd (upd σ895 0 (p0)) 1 (r1_0)) 5 (.int .u64 z819)) 6 (.int .u64 z894)) ∧ St w0 w I [objO at_policy_Book p0 a0] R) n896 ⟨(0:Int), _, hm, ((fr_upd (t := 0) (v := p0) rfl).trans ((fr_upd (t := 1) (v := r1_0) rfl).trans ((fr_upd (t := 5) (v := .int .u64 z819) rfl).trans ((fr_upd (t := 6) (v := .int .u64 (0:Int)) rfl).trans rfl)))), hst⟩ ?_
      rintro n902 _ w897 ⟨z894, σ895, hm, rfl, hst⟩
      obtain ⟨n899, y900, rfl, hm, hx901⟩ := loopN_some hm
      dsimp only [law15_told_l1] at hm
      refine wp_seq ?_
      refine wp_seq ?_
      refine wp_region_lit ?_
      refine wl_val (v := .int .u64 z894) rfl rfl rfl ?_
      refine wl_val (v := .bool (decide (z894 < (9:Int)))) rfl rfl rfl ?_
      refine wl_nil ?_
      refine then_n ?_
      refine bsplit (decide (z894 < (9:Int))) (fun hc903 => ?_) (fun hc903 => ?_)
      · skip
        replace hm := bif_t hc903 hm
        refine wp_ift (congrArg Value.bool hc903) ?_
        refine wp_skip ?_
        refine then_n ?_
        refine wp_seq ?_
        refine wp_block ?_
        refine wp_seq ?_
        refine wp_region_lit ?_
        refine wl_val (v := p0) rfl rfl rfl ?_
        refine wl_val (v := .int .u64 z819) rfl rfl rfl ?_
        refine wl_val (v := .int .u64 z894) rfl rfl rfl ?_
        obtain ⟨t904, ht905, hm⟩ := bind_some hm
        refine wl_call rfl rfl (x_call Try.call11 rfl (vs := [p0, .int .u64 z819, .int .u64 z894]) rfl) ?_
        refine (policy_Book_At_ref hst.to1 ht905).mono ?_
        rintro _ w906 ⟨rfl, hst⟩
        refine ⟨_, rfl, ?_⟩
        replace hst := hst.of1
        refine wl_val (v := .tuple #[.agg #[.int .u64 t904.1.ID, .int .i64 t904.1.From, .int .i64 t904.1.To, .float .f64 t904.1.Lo, .float .f64 t904.1.Hi, .int .u64 t904.1.Authority, .int .i64 t904.1.Quota], .bool t904.2]) rfl rfl rfl ?_
        refine wl_val (v := .agg #[.int .u64 t904.1.ID, .int .i64 t904.1.From, .int .i64 t904.1.To, .float .f64 t904.1.Lo, .float .f64 t904.1.Hi, .int .u64 t904.1.Authority, .int .i64 t904.1.Quota]) rfl rfl rfl ?_
        refine wl_val (v := .bool t904.2) rfl rfl rfl ?_
        obtain ⟨b909, w910, ew911, eb912, hst⟩ := hst.box [.int .u64 (0:Int), .int .i64 (0:Int), .int .i64 (0:Int), .float .f64 (0:Nat), .float .f64 (0:Nat), .int .u64 (0:Int), .int .i64 (0:Int)] 30
        refine wl_run (v := .pointer (some ⟨b909, 0, none⟩)) (w' := w910) rfl rfl (x_al (by kernel_rfl) ew911 eb912) ?_
        obtain ⟨w914, hr915, hst⟩ := hst.boxStore (P := Try.prog) (t := 30) (cs' := [.int .u64 t904.1.ID, .int .i64 t904.1.From, .int .i64 t904.1.To, .float .f64 t904.1.Lo, .float .f64 t904.1.Hi, .int .u64 t904.1.Authority, .int .i64 t904.1.Quota]) 0 (.agg #[.int .u64 t904.1.ID, .int .i64 t904.1.From, .int .i64 t904.1.To, .float .f64 t904.1.Lo, .float .f64 t904.1.Hi, .int .u64 t904.1.Authority, .int .i64 t904.1.Quota]) Try.sizeOf30 (Nat.le_of_ble_eq_true rfl) (ones_cons rfl (ones_cons rfl (ones_cons rfl (ones_cons rfl (ones_cons rfl (ones_cons rfl (ones_cons rfl ones_nil))))))) rfl
        refine wl_unit rfl rfl (x_unit hr915) ?_
        refine wl_val (v := .bool t904.2) rfl rfl rfl ?_
        refine wl_nil ?_
        refine then_n ?_
        refine wp_seq ?_
        refine wp_region_lit ?_
        refine wl_val (v := r1_0) rfl rfl rfl ?_
        refine wl_val (v := .int .u64 z819) rfl rfl rfl ?_
        refine wl_val (v := .int .u64 z894) rfl rfl rfl ?_
        obtain ⟨t916, ht917, hm⟩ := bind_some hm
        refine wl_call rfl rfl (x_call Try.call25 rfl (vs := [r1_0, .int .u64 z819, .int .u64 z894]) rfl) ?_
        refine (ref11_At_ref (f1_0.mono (rd_weak _)) hst.to0 ht917).mono ?_
        rintro _ w918 ⟨rfl, hst⟩
        refine ⟨_, rfl, ?_⟩
        replace hst := hst.of0
        refine wl_val (v := .tuple #[.agg #[.int .u64 t916.1.ID, .int .i64 t916.1.From, .int .i64 t916.1.To, .float .f64 t916.1.Lo, .float .f64 t916.1.Hi, .int .u64 t916.1.Authority, .int .i64 t916.1.Quota], .bool t916.2]) rfl rfl rfl ?_
        refine wl_val (v := .agg #[.int .u64 t916.1.ID, .int .i64 t916.1.From, .int .i64 t916.1.To, .float .f64 t916.1.Lo, .float .f64 t916.1.Hi, .int .u64 t916.1.Authority, .int .i64 t916.1.Quota]) rfl rfl rfl ?_
        refine wl_val (v := .bool t916.2) rfl rfl rfl ?_
        obtain ⟨b921, w922, ew923, eb924, hst⟩ := hst.box [.int .u64 (0:Int), .int .i64 (0:Int), .int .i64 (0:Int), .float .f64 (0:Nat), .float .f64 (0:Nat), .int .u64 (0:Int), .int .i64 (0:Int)] 30
        refine wl_run (v := .pointer (some ⟨b921, 0, none⟩)) (w' := w922) rfl rfl (x_al (by kernel_rfl) ew923 eb924) ?_
        obtain ⟨w926, hr927, hst⟩ := hst.boxStore (P := Try.prog) (t := 30) (cs' := [.int .u64 t916.1.ID, .int .i64 t916.1.From, .int .i64 t916.1.To, .float .f64 t916.1.Lo, .float .f64 t916.1.Hi, .int .u64 t916.1.Authority, .int .i64 t916.1.Quota]) 0 (.agg #[.int .u64 t916.1.ID, .int .i64 t916.1.From, .int .i64 t916.1.To, .float .f64 t916.1.Lo, .float .f64 t916.1.Hi, .int .u64 t916.1.Authority, .int .i64 t916.1.Quota]) Try.sizeOf30 (Nat.le_of_ble_eq_true rfl) (ones_cons rfl (ones_cons rfl (ones_cons rfl (ones_cons rfl (ones_cons rfl (ones_cons rfl (ones_cons rfl ones_nil))))))) rfl
        refine wl_unit rfl rfl (x_unit hr927) ?_
        refine wl_val (v := .bool t916.2) rfl rfl rfl ?_
        refine wl_nil ?_
        refine then_n ?_
        refine wp_seq ?_
        refine wp_region_lit ?_
        refine wl_val (v := .bool t904.2) rfl rfl rfl ?_
        refine wl_val (v := .bool t916.2) rfl rfl rfl ?_
        refine wl_val (v := .bool (!(t904.2 == t916.2))) rfl rfl (by kernel_rfl) ?_
        refine wl_val (v := .bool (!(t904.2 == t916.2))) rfl rfl rfl ?_
        refine bsplit (!(t904.2 == t916.2)) (fun hc928 => ?_) (fun hc928 => ?_)
        · skip
          replace hm := bif_t hc928 hm
          refine wl_off ((wanted_eq rfl rfl rfl (congrArg Value.bool hc928)).trans rfl) rfl ?_
          refine wl_off ((wanted_eq rfl rfl rfl (congrArg Value.bool hc928)).trans rfl) rfl ?_
          refine wl_off ((wanted_eq rfl rfl rfl (congrArg Value.bool hc928)).trans rfl) rfl ?_
          refine wl_off ((wanted_eq rfl rfl rfl (congrArg Value.bool hc928)).trans rfl) rfl ?_
          refine wl_val (v := .bool true) rfl rfl (x_pick_t hc928 rfl rfl) ?_
          refine wl_nil ?_
          refine then_n ?_
          refine wp_ift rfl ?_
          refine wp_seq ?_
          refine wp_region_lit ?_
          refine wl_val (v := .bool false) rfl rfl rfl ?_
          refine wl_nil ?_
          refine then_n ?_
          refine wp_ret ?_
          refine blk_r ?_
          refine then_r ?_
          refine then_r ?_
          replace hm := inr_up hm hx901
          refine blk_r ?_
          refine blk_r ?_
          refine then_r ?_
          refine then_r ?_
          replace hm := inr_up hm hx826
          refine blk_r ?_
          refine then_r ?_
          obtain rfl := some_inj hm
          refine post_ret (vs := [.bool false]) Try.results18 (rvs_cons (rv_tmp rfl) rvs_nil) ?_
          replace hst := hst.pull2
          exact ⟨rfl, hst.keep1⟩
        · skip
          replace hm := bif_f hc928 hm
          refine wl_val (v := .agg #[.int .u64 t904.1.ID, .int .i64 t904.1.From, .int .i64 t904.1.To, .float .f64 t904.1.Lo, .float .f64 t904.1.Hi, .int .u64 t904.1.Authority, .int .i64 t904.1.Quota]) ((wanted_eq rfl rfl rfl (congrArg Value.bool hc928)).trans rfl) rfl (x_loadN (cs := [.int .u64 t904.1.ID, .int .i64 t904.1.From, .int .i64 t904.1.To, .float .f64 t904.1.Lo, .float .f64 t904.1.Hi, .int .u64 t904.1.Authority, .int .i64 t904.1.Quota]) rfl Try.isAgg30 Try.sizeOf30 (hst.bcs1 0 rfl)) ?_
          refine wl_val (v := .agg #[.int .u64 t916.1.ID, .int .i64 t916.1.From, .int .i64 t916.1.To, .float .f64 t916.1.Lo, .float .f64 t916.1.Hi, .int .u64 t916.1.Authority, .int .i64 t916.1.Quota]) ((wanted_eq rfl rfl rfl (congrArg Value.bool hc928)).trans rfl) rfl (x_loadN (cs := [.int .u64 t916.1.ID, .int .i64 t916.1.From, .int .i64 t916.1.To, .float .f64 t916.1.Lo, .float .f64 t916.1.Hi, .int .u64 t916.1.Authority, .int .i64 t916.1.Quota]) rfl Try.isAgg30 Try.sizeOf30 (hst.bcs0 0 rfl)) ?_
          obtain ⟨t929, ht930, hm⟩ := bind_some hm
          refine wl_call ((wanted_eq rfl rfl rfl (congrArg Value.bool hc928)).trans rfl) rfl (x_call Try.call12 rfl (vs := [.agg #[.int .u64 t904.1.ID, .int .i64 t904.1.From, .int .i64 t904.1.To, .float .f64 t904.1.Lo, .float .f64 t904.1.Hi, .int .u64 t904.1.Authority, .int .i64 t904.1.Quota], .agg #[.int .u64 t916.1.ID, .int .i64 t916.1.From, .int .i64 t916.1.To, .float .f64 t916.1.Lo, .float .f64 t916.1.Hi, .int .u64 t916.1.Authority, .int .i64 t916.1.Quota]]) rfl) ?_
          refine (ref11_SameRule_ref hst.to0 ht930).mono ?_
          rintro _ w931 ⟨rfl, hst⟩
          refine ⟨_, rfl, ?_⟩
          replace hst := hst.of0
          refine wl_val (v := .bool (!t929)) ((wanted_eq rfl rfl rfl (congrArg Value.bool hc928)).trans rfl) rfl rfl ?_
          refine wl_val (v := .bool (!t929)) rfl rfl (x_pick_f hc928 rfl rfl) ?_
          refine wl_nil ?_
          refine then_n ?_
          refine bsplit (!t929) (fun hc934 => ?_) (fun hc934 => ?_)
          · skip
            replace hm := bif_t hc934 hm
            refine wp_ift (congrArg Value.bool hc934) ?_
            refine wp_seq ?_
            refine wp_region_lit ?_
            refine wl_val (v := .bool false) rfl rfl rfl ?_
            refine wl_nil ?_
            refine then_n ?_
            refine wp_ret ?_
            refine blk_r ?_
            refine then_r ?_
            refine then_r ?_
            replace hm := inr_up hm hx901
            refine blk_r ?_
            refine blk_r ?_
            refine then_r ?_
            refine then_r ?_
            replace hm := inr_up hm hx826
            refine blk_r ?_
            refine then_r ?_
            obtain rfl := some_inj hm
            refine post_ret (vs := [.bool false]) Try.results18 (rvs_cons (rv_tmp rfl) rvs_nil) ?_
            replace hst := hst.pull2
            exact ⟨rfl, hst.keep1⟩
          · skip
            replace hm := bif_f hc934 hm
            refine wp_iff (congrArg Value.bool hc934) ?_
            refine wp_skip ?_
            refine blk_n ?_
            refine then_n ?_
            refine wp_region_lit ?_
            refine wl_val (v := .int .u64 z894) rfl rfl rfl ?_
            refine wl_val (v := .int .u64 (IntKind.u64.wrap (z894 + (1:Int)))) rfl rfl rfl ?_
            refine wl_val (v := .int .u64 (IntKind.u64.wrap (z894 + (1:Int)))) rfl rfl rfl ?_
            refine wl_nil ?_
            refine then_n ?_
            replace hst := hst.pull2
            replace hst := hst.keep1
            obtain rfl := some_inj hm
            exact ⟨_, Nat.lt_succ_self _, (IntKind.u64.wrap (z894 + (1:Int))), _, hx901, ((fr_upd (t := 0) (v := p0) rfl).trans ((fr_upd (t := 1) (v := r1_0) rfl).trans ((fr_upd (t := 5) (v := .int .u64 z819) rfl).trans ((fr_upd (t := 6) (v := .int .u64 (IntKind.u64.wrap (z894 + (1:Int)))) rfl).trans rfl)))), hst⟩
      · skip
        replace hm := bif_f hc903 hm
        refine wp_iff (congrArg Value.bool hc903) ?_
        refine wp_exit ?_
        refine then_x ?_
        refine then_x ?_
        replace hm := inr_up hm hx901
        refine blk_x ?_
        refine blk_n ?_
        refine then_n ?_
        refine wp_region_lit ?_
        refine wl_val (v := .int .u64 z819) rfl rfl rfl ?_
        refine wl_val (v := .int .u64 (IntKind.u64.wrap (z819 + (1:Int)))) rfl rfl rfl ?_
        refine wl_val (v := .int .u64 (IntKind.u64.wrap (z819 + (1:Int)))) rfl rfl rfl ?_
        refine wl_nil ?_
        refine then_n ?_
        replace hst := hst.keep1
        obtain rfl := some_inj hm
        exact ⟨_, Nat.lt_succ_self _, (IntKind.u64.wrap (z819 + (1:Int))), _, hx826, ((fr_upd (t := 0) (v := p0) rfl).trans ((fr_upd (t := 1) (v := r1_0) rfl).trans ((fr_upd (t := 5) (v := .int .u64 (IntKind.u64.wrap (z819 + (1:Int)))) rfl).trans rfl))), hst⟩
    · skip
      replace hm := bif_f hc828 hm
      refine wp_iff (congrArg Value.bool hc828) ?_
      refine wp_exit ?_
      refine then_x ?_
      refine then_x ?_
      replace hm := inr_up hm hx826
      refine blk_x ?_
      refine then_n ?_
      refine wp_seq ?_
      refine wp_region_lit ?_
      refine wl_val (v := .bool true) rfl rfl rfl ?_
      refine wl_nil ?_
      refine then_n ?_
      refine wp_ret ?_
      obtain rfl := some_inj hm
      refine post_ret (vs := [.bool true]) Try.results18 (rvs_cons (rv_tmp rfl) rvs_nil) ?_
      exact ⟨rfl, hst.keep1⟩

theorem law15_PolicyBytes_ref {w0 w : World} {I : HL} {R : SP} {a0 : (List Int)} {r0_0 : Value} {a1 : (List Int)} {r1_0 : Value} {a2 : Int} {a3 : Int} (f0_0 : Ro (tyInt .u8) I r0_0 a0) (f1_0 : Ro (tyInt .u8) I r1_0 a1) (hst : St w0 w I [] R) {r : (Bool)} (hm : law15_PolicyBytes a0 a1 a2 a3 = some r) :
    Calls Try.prog 7 #[r0_0, r1_0, .int .u16 a2, .int .u8 a3] w fun e w' => ∃ (I' : HL), e = .returned (.bool r) ∧ I.le I' ∧ St w0 w' I' [] R := by
  unfold law15_PolicyBytes at hm
  refine calls_start (args := [r0_0, r1_0, .int .u16 a2, .int .u8 a3]) Try.func7 rfl Try.ntmps7 (Nat.le_of_ble_eq_true rfl) ?_
  have hI0 := HL.le.refl I
  refine wp_seq ?_
  refine wp_region_lit ?_
  refine wl_val (v := .bool false) rfl rfl rfl ?_
  refine wl_nil ?_
  refine then_n ?_
  refine wp_seq ?_
  refine wp_seq ?_
  refine wp_region_lit ?_
  obtain ⟨t348, ht349, hm⟩ := bind_some hm
  refine wl_call rfl rfl (x_call Try.call8 rfl (vs := []) rfl) ?_
  refine (law15_awake_ref hst.to0 ht349).mono ?_
  rintro _ w350 ⟨rfl, hst⟩
  refine ⟨_, rfl, ?_⟩
  replace hst := hst.of0
  refine wl_val (v := .bool (!t348)) rfl rfl rfl ?_
  refine wl_val (v := .bool (!t348)) rfl rfl rfl ?_
  refine bsplit (!t348) (fun hc353 => ?_) (fun hc353 => ?_)
  · skip
    replace hm := bif_t hc353 hm
    refine wl_off ((wanted_eq rfl rfl rfl (congrArg Value.bool hc353)).trans rfl) rfl ?_
    refine wl_off ((wanted_eq rfl rfl rfl (congrArg Value.bool hc353)).trans rfl) rfl ?_
    refine wl_off ((wanted_eq rfl rfl rfl (congrArg Value.bool hc353)).trans rfl) rfl ?_
    refine wl_val (v := .bool true) rfl rfl (x_pick_t hc353 rfl rfl) ?_
    refine wl_val (v := .bool true) rfl rfl rfl ?_
    refine wl_off ((wanted_eq rfl rfl rfl rfl).trans rfl) rfl ?_
    refine wl_off ((wanted_eq rfl rfl rfl rfl).trans rfl) rfl ?_
    refine wl_off ((wanted_eq rfl rfl rfl rfl).trans rfl) rfl ?_
    refine wl_val (v := .bool true) rfl rfl (x_pick_t rfl rfl rfl) ?_
    refine wl_nil ?_
    refine then_n ?_
    refine wp_ift rfl ?_
    refine wp_seq ?_
    refine wp_region_lit ?_
    obtain ⟨t354, ht355, hm⟩ := bind_some hm
    refine wl_call rfl rfl (x_call Try.call8 rfl (vs := []) rfl) ?_
    refine (law15_awake_ref hst.to0 ht355).mono ?_
    rintro _ w356 ⟨rfl, hst⟩
    refine ⟨_, rfl, ?_⟩
    replace hst := hst.of0
    refine wl_val (v := .bool t354) rfl rfl rfl ?_
    refine wl_nil ?_
    refine then_n ?_
    refine wp_ret ?_
    refine then_r ?_
    obtain rfl := some_inj hm
    refine post_ret (vs := [.bool t354]) Try.results7 (rvs_cons (rv_tmp rfl) rvs_nil) ?_
    exact ⟨_, rfl, hI0, hst.keep0⟩
  · skip
    replace hm := bif_f hc353 hm
    refine wl_val (v := r0_0) ((wanted_eq rfl rfl rfl (congrArg Value.bool hc353)).trans rfl) rfl rfl ?_
    refine wl_val (v := .int .i64 ((a0).length : Int)) ((wanted_eq rfl rfl rfl (congrArg Value.bool hc353)).trans rfl) rfl (x_len rfl Try.underlying23 (ro_sliceV f0_0)) ?_
    refine wl_val (v := .bool (decide (((a0).length : Int) > (300:Int)))) ((wanted_eq rfl rfl rfl (congrArg Value.bool hc353)).trans rfl) rfl rfl ?_
    refine wl_val (v := .bool (decide (((a0).length : Int) > (300:Int)))) rfl rfl (x_pick_f hc353 rfl rfl) ?_
    refine wl_val (v := .bool (decide (((a0).length : Int) > (300:Int)))) rfl rfl rfl ?_
    refine bsplit (decide (((a0).length : Int) > (300:Int))) (fun hc359 => ?_) (fun hc359 => ?_)
    · skip
      replace hm := bif_t hc359 hm
      refine wl_off ((wanted_eq rfl rfl rfl (congrArg Value.bool hc359)).trans rfl) rfl ?_
      refine wl_off ((wanted_eq rfl rfl rfl (congrArg Value.bool hc359)).trans rfl) rfl ?_
      refine wl_off ((wanted_eq rfl rfl rfl (congrArg Value.bool hc359)).trans rfl) rfl ?_
      refine wl_val (v := .bool true) rfl rfl (x_pick_t hc359 rfl rfl) ?_
      refine wl_nil ?_
      refine then_n ?_
      refine wp_ift rfl ?_
      refine wp_seq ?_
      refine wp_region_lit ?_
      obtain ⟨t360, ht361, hm⟩ := bind_some hm
      refine wl_call rfl rfl (x_call Try.call8 rfl (vs := []) rfl) ?_
      refine (law15_awake_ref hst.to0 ht361).mono ?_
      rintro _ w362 ⟨rfl, hst⟩
      refine ⟨_, rfl, ?_⟩
      replace hst := hst.of0
      refine wl_val (v := .bool t360) rfl rfl rfl ?_
      refine wl_nil ?_
      refine then_n ?_
      refine wp_ret ?_
      refine then_r ?_
      obtain rfl := some_inj hm
      refine post_ret (vs := [.bool t360]) Try.results7 (rvs_cons (rv_tmp rfl) rvs_nil) ?_
      exact ⟨_, rfl, hI0, hst.keep0⟩
    · skip
      replace hm := bif_f hc359 hm
      refine wl_val (v := r1_0) ((wanted_eq rfl rfl rfl (congrArg Value.bool hc359)).trans rfl) rfl rfl ?_
      refine wl_val (v := .int .i64 ((a1).length : Int)) ((wanted_eq rfl rfl rfl (congrArg Value.bool hc359)).trans rfl) rfl (x_len rfl Try.underlying23 (ro_sliceV f1_0)) ?_
      refine wl_val (v := .bool (decide (((a1).length : Int) > (1000:Int)))) ((wanted_eq rfl rfl rfl (congrArg Value.bool hc359)).trans rfl) rfl rfl ?_
      refine wl_val (v := .bool (decide (((a1).length : Int) > (1000:Int)))) rfl rfl (x_pick_f hc359 rfl rfl) ?_
      refine wl_nil ?_
      refine then_n ?_
      refine bsplit (decide (((a1).length : Int) > (1000:Int))) (fun hc365 => ?_) (fun hc365 => ?_)
      · skip
        replace hm := bif_t hc365 hm
        refine wp_ift (congrArg Value.bool hc365) ?_
        refine wp_seq ?_
        refine wp_region_lit ?_
        obtain ⟨t366, ht367, hm⟩ := bind_some hm
        refine wl_call rfl rfl (x_call Try.call8 rfl (vs := []) rfl) ?_
        refine (law15_awake_ref hst.to0 ht367).mono ?_
        rintro _ w368 ⟨rfl, hst⟩
        refine ⟨_, rfl, ?_⟩
        replace hst := hst.of0
        refine wl_val (v := .bool t366) rfl rfl rfl ?_
        refine wl_nil ?_
        refine then_n ?_
        refine wp_ret ?_
        refine then_r ?_
        obtain rfl := some_inj hm
        refine post_ret (vs := [.bool t366]) Try.results7 (rvs_cons (rv_tmp rfl) rvs_nil) ?_
        exact ⟨_, rfl, hI0, hst.keep0⟩
      · skip
        replace hm := bif_f hc365 hm
        refine wp_iff (congrArg Value.bool hc365) ?_
        refine wp_skip ?_
        refine then_n ?_
        refine wp_seq ?_
        refine wp_region_lit ?_
        refine wl_val (v := r0_0) rfl rfl rfl ?_
        refine wl_val (v := .agg #[r0_0, .int .i64 (0:Int)]) rfl rfl (by obtain ⟨_, _, hv_, _⟩ := (ro_sliceV f0_0); rw [hv_]; kernel_rfl) ?_
        obtain ⟨b372, w373, ew374, eb375, hst⟩ := hst.box [r0_0, .int .i64 (0:Int)] 41
        refine wl_run (v := .pointer (some ⟨b372, 0, none⟩)) (w' := w373) rfl rfl (x_al (by kernel_rfl) ew374 eb375) ?_
        refine wl_val (v := .pointer (some ⟨b372, 0, none⟩)) rfl rfl rfl ?_
        refine wl_nil ?_
        refine then_n ?_
        refine wp_seq ?_
        refine wp_region_lit ?_
        obtain ⟨t377, ht378, hm⟩ := bind_some hm
        refine wl_call rfl rfl (x_call Try.call9 rfl (vs := []) rfl) ?_
        refine (policy_New_ref hst.to0 ht378).mono ?_
        rintro _ w379 ⟨v382, rfl, hst⟩
        refine ⟨_, rfl, ?_⟩
        replace hst := hst.of1
        refine wl_val (v := v382) rfl rfl rfl ?_
        refine wl_nil ?_
        refine then_n ?_
        refine wp_seq ?_
        refine wp_region_lit ?_
        refine wl_val (v := (.slice none 0 0)) rfl rfl rfl ?_
        refine wl_nil ?_
        refine then_n ?_
        obtain ⟨y582, hm, hx583⟩ := bind_some hm
        refine wp_cut (fun a w => ∃ (z576 : policy_Book) (z579 : (List ref11_Line)) (v578 : Value) (σ580 : Nat → Value), (law15_PolicyBytes_j0 a1 a2 a3) (z576, z579) = some r ∧ a = Fr 156 (upd (upd (upd (upd (upd σ580 1 (r1_0)) 2 (.int .u16 a2)) 3 (.int .u8 a3)) 10 (v382)) 11 (v578)) ∧ St w0 w I [at_policy_Book v382 z576, ownS ty_ref11_Line v578 z579] R) ?_ ?_
        · skip
          refine wp_seq ?_
          refine wp_region_lit ?_
          refine wl_val (v := .int .i64 (0:Int)) rfl rfl rfl ?_
          refine wl_nil ?_
          refine then_n ?_
          refine wp_block ?_
          replace hst := hst.pull1
          replace hst := at_ref12_Tape_close (pv := .pointer (some ⟨b372, 0, none⟩)) (x := ({ L := a0, I := (0:Int) } : ref12_Tape)) hst ⟨rfl, f0_0⟩
          replace hst := hst.own_nil ty_ref11_Line
          obtain ⟨n526, hm⟩ := loopO_some hm
          refine wp_loop_n (fun n a w => ∃ (z519 : ref12_Tape) (z520 : policy_Book) (z521 : (List ref11_Line)) (z524 : Int) (v522 : Value) (σ525 : Nat → Value), loopN (law15_PolicyBytes_l1) n (z519, z520, z521, z524) = some y582 ∧ a = Fr 156 (upd (upd (upd (upd (upd (upd (upd σ525 1 (r1_0)) 2 (.int .u16 a2)) 3 (.int .u8 a3)) 9 (.pointer (some ⟨b372, 0, none⟩))) 10 (v382)) 11 (v522)) 12 (.int .i64 z524)) ∧ St w0 w I [ownS ty_ref11_Line v522 z521, at_ref12_Tape (.pointer (some ⟨b372, 0, none⟩)) z519, at_policy_Book v382 z520] R) n526 ⟨({ L := a0, I := (0:Int) } : ref12_Tape), t377, [], (0:Int), (.slice none 0 0), _, hm, ((fr_upd (t := 1) (v := r1_0) rfl).trans ((fr_upd (t := 2) (v := .int .u16 a2) rfl).trans ((fr_upd (t := 3) (v := .int .u8 a3) rfl).trans ((fr_upd (t := 9) (v := .pointer (some ⟨b372, 0, none⟩)) rfl).trans ((fr_upd (t := 10) (v := v382) rfl).trans ((fr_upd (t := 11) (v := (.slice none 0 0)) rfl).trans ((fr_upd (t := 12) (v := .int .i64 (0:Int)) rfl).trans rfl))))))), hst⟩ ?_
          rintro n532 _ w527 ⟨z519, z520, z521, z524, v522, σ525, hm, rfl, hst⟩
          obtain ⟨n529, y530, rfl, hm, hx531⟩ := loopN_some hm
          dsimp only [law15_PolicyBytes_l1] at hm
          refine wp_seq ?_
          refine wp_seq ?_
          refine wp_region_lit ?_
          refine wl_val (v := .int .i64 z524) rfl rfl rfl ?_
          refine wl_val (v := .bool (decide (z524 < (8:Int)))) rfl rfl rfl ?_
          refine wl_nil ?_
          refine then_n ?_
          refine bsplit (decide (z524 < (8:Int))) (fun hc533 => ?_) (fun hc533 => ?_)
          · skip
            replace hm := bif_t hc533 hm
            refine wp_ift (congrArg Value.bool hc533) ?_
            refine wp_skip ?_
            refine then_n ?_
            refine wp_seq ?_
            refine wp_block ?_
            refine wp_seq ?_
            refine wp_region_lit ?_
            refine wl_val (v := .pointer (some ⟨b372, 0, none⟩)) rfl rfl rfl ?_
            replace hst := hst.pull1
            obtain ⟨t534, ht535, hm⟩ := bind_some hm
            refine wl_call rfl rfl (x_call Try.call16 rfl (vs := [.pointer (some ⟨b372, 0, none⟩)]) rfl) ?_
            refine (ref13_OfRule_ref hst.to1 ht535).mono ?_
            rintro _ w536 ⟨rfl, hst⟩
            refine ⟨_, rfl, ?_⟩
            replace hst := hst.of1
            obtain ⟨b539, w540, ew541, eb542, hst⟩ := hst.box [.int .u64 (0:Int), .int .i64 (0:Int), .int .i64 (0:Int), .float .f64 (0:Nat), .float .f64 (0:Nat), .int .u64 (0:Int), .int .i64 (0:Int)] 30
            refine wl_run (v := .pointer (some ⟨b539, 0, none⟩)) (w' := w540) rfl rfl (x_al (by kernel_rfl) ew541 eb542) ?_
            obtain ⟨w544, hr545, hst⟩ := hst.boxStore (P := Try.prog) (t := 30) (cs' := [.int .u64 t534.1.ID, .int .i64 t534.1.From, .int .i64 t534.1.To, .float .f64 t534.1.Lo, .float .f64 t534.1.Hi, .int .u64 t534.1.Authority, .int .i64 t534.1.Quota]) 0 (.agg #[.int .u64 t534.1.ID, .int .i64 t534.1.From, .int .i64 t534.1.To, .float .f64 t534.1.Lo, .float .f64 t534.1.Hi, .int .u64 t534.1.Authority, .int .i64 t534.1.Quota]) Try.sizeOf30 (Nat.le_of_ble_eq_true rfl) (ones_cons rfl (ones_cons rfl (ones_cons rfl (ones_cons rfl (ones_cons rfl (ones_cons rfl (ones_cons rfl ones_nil))))))) rfl
            refine wl_unit rfl rfl (x_unit hr545) ?_
            refine wl_nil ?_
            refine then_n ?_
            refine wp_seq ?_
            refine wp_region_lit ?_
            refine wl_val (v := .pointer (some ⟨b372, 0, none⟩)) rfl rfl rfl ?_
            replace hst := hst.pull1
            obtain ⟨t546, ht547, hm⟩ := bind_some hm
            refine wl_call rfl rfl (x_call Try.call15 rfl (vs := [.pointer (some ⟨b372, 0, none⟩), .int .i64 (6:Int)]) rfl) ?_
            refine (ref12_Tape_Next_ref hst.to1 ht547).mono ?_
            rintro _ w548 ⟨rfl, hst⟩
            refine ⟨_, rfl, ?_⟩
            replace hst := hst.of1
            refine wl_val (v := .int .u64 (IntKind.u64.wrap t546.1)) rfl rfl (by kernel_rfl) ?_
            refine wl_val (v := .int .u64 (IntKind.u64.wrap t546.1)) rfl rfl rfl ?_
            refine wl_nil ?_
            refine then_n ?_
            refine wp_seq ?_
            refine wp_region_lit ?_
            refine wl_val (v := v522) rfl rfl rfl ?_
            refine wl_val (v := .pointer (some ⟨b539, 0, none⟩)) rfl rfl (x_field rfl Try.underlying30 rfl Try.sizeOf27 rfl) ?_
            refine wl_val (v := .int .u64 t534.1.ID) rfl rfl (x_load rfl Try.isAgg27 (hst.bc1 rfl)) ?_
            refine wl_val (v := .int .u64 (IntKind.u64.wrap t546.1)) rfl rfl rfl ?_
            replace hst := hst.pull2
            obtain ⟨css551, hq552, hst⟩ := hst.own_open
            obtain ⟨t553, ht554, hm⟩ := bind_some hm
            refine wl_call rfl rfl (x_call Try.call17 rfl (vs := [v522, .int .u64 t534.1.ID, .int .u64 (IntKind.u64.wrap t546.1)]) rfl) ?_
            refine (ref11_Revoke_ref (hst.rdrow0 hq552) hst.to0 ht554).mono ?_
            rintro _ w555 ⟨v558, rfl, hst⟩
            refine ⟨_, rfl, ?_⟩
            replace hst := hst.of1
            replace hst := hst.pull1
            replace hst := hst.own_close hq552
            refine wl_val (v := .tuple #[v558, .bool t553.2]) rfl rfl rfl ?_
            refine wl_val (v := v558) rfl rfl rfl ?_
            refine wl_val (v := .bool t553.2) rfl rfl rfl ?_
            refine wl_val (v := v558) rfl rfl rfl ?_
            refine wl_nil ?_
            refine then_n ?_
            refine wp_seq ?_
            refine wp_region_lit ?_
            refine wl_val (v := v558) rfl rfl rfl ?_
            refine wl_val (v := .agg #[.int .u64 t534.1.ID, .int .i64 t534.1.From, .int .i64 t534.1.To, .float .f64 t534.1.Lo, .float .f64 t534.1.Hi, .int .u64 t534.1.Authority, .int .i64 t534.1.Quota]) rfl rfl (x_loadN (cs := [.int .u64 t534.1.ID, .int .i64 t534.1.From, .int .i64 t534.1.To, .float .f64 t534.1.Lo, .float .f64 t534.1.Hi, .int .u64 t534.1.Authority, .int .i64 t534.1.Quota]) rfl Try.isAgg30 Try.sizeOf30 (hst.bcs3 0 rfl)) ?_
            refine wl_val (v := .int .u64 (IntKind.u64.wrap t546.1)) rfl rfl rfl ?_
            refine wl_val (v := .agg #[.int .u64 t534.1.ID, .int .i64 t534.1.From, .int .i64 t534.1.To, .float .f64 t534.1.Lo, .float .f64 t534.1.Hi, .int .u64 t534.1.Authority, .int .i64 t534.1.Quota, .int .u64 (IntKind.u64.wrap t546.1), .int .u64 (0:Int)]) rfl rfl (by kernel_rfl) ?_
            obtain ⟨b560, w561, ew562, eb563, hst⟩ := hst.lits (E := ty_ref11_Line) (xs := [({ R := t534.1, From := (IntKind.u64.wrap t546.1), To := (0:Int) } : ref11_Line)]) [[.int .u64 t534.1.ID, .int .i64 t534.1.From, .int .i64 t534.1.To, .float .f64 t534.1.Lo, .float .f64 t534.1.Hi, .int .u64 t534.1.Authority, .int .i64 t534.1.Quota, .int .u64 (IntKind.u64.wrap t546.1), .int .u64 (0:Int)]] 48 1 rfl (Reps.cons rfl Reps.nil)
            refine wl_run (v := (.slice (some ⟨b560, 0, none⟩) 1 1)) (w' := w561) rfl rfl (x_als (by kernel_rfl) ew562 eb563) ?_
            obtain ⟨hg565, hm⟩ := gd_some hm
            replace hst := hst.pull2
            obtain ⟨v566, w567, hr568, hst⟩ := run_append elem_42 Try.underlying42 hst hst.src1 (room_of hg565 rfl) 42
            refine wl_run (v := v566) (w' := w567) rfl rfl (x_append rfl rfl hr568) ?_
            refine wl_val (v := v566) rfl rfl rfl ?_
            refine wl_nil ?_
            refine then_n ?_
            refine wp_region_lit ?_
            refine wl_val (v := v382) rfl rfl rfl ?_
            refine wl_val (v := .agg #[.int .u64 t534.1.ID, .int .i64 t534.1.From, .int .i64 t534.1.To, .float .f64 t534.1.Lo, .float .f64 t534.1.Hi, .int .u64 t534.1.Authority, .int .i64 t534.1.Quota]) rfl rfl (x_loadN (cs := [.int .u64 t534.1.ID, .int .i64 t534.1.From, .int .i64 t534.1.To, .float .f64 t534.1.Lo, .float .f64 t534.1.Hi, .int .u64 t534.1.Authority, .int .i64 t534.1.Quota]) rfl Try.isAgg30 Try.sizeOf30 (hst.bcs4 0 rfl)) ?_
            refine wl_val (v := .int .u64 (IntKind.u64.wrap t546.1)) rfl rfl rfl ?_
            replace hst := hst.pull5
            replace hst := objO_some hst
            obtain ⟨t569, ht570, hm⟩ := bind_some hm
            refine wl_call rfl rfl (x_call Try.call10 rfl (vs := [v382, .agg #[.int .u64 t534.1.ID, .int .i64 t534.1.From, .int .i64 t534.1.To, .float .f64 t534.1.Lo, .float .f64 t534.1.Hi, .int .u64 t534.1.Authority, .int .i64 t534.1.Quota], .int .u64 (IntKind.u64.wrap t546.1)]) rfl) ?_
            refine (policy_Book_Grant_ref hst.to1 ht570).mono ?_
            rintro _ w571 ⟨rfl, hst⟩
            refine ⟨_, rfl, ?_⟩
            replace hst := hst.of1
            rcases he575 : t569 with _ | y574
            · rw [he575] at hm; cases hm
            rw [he575] at hm hst; dsimp only at hm; replace hst := objO_get hst
            refine wl_nil ?_
            refine blk_n ?_
            refine then_n ?_
            refine wp_region_lit ?_
            refine wl_val (v := .int .i64 z524) rfl rfl rfl ?_
            refine wl_val (v := .int .i64 (IntKind.i64.wrap (z524 + (1:Int)))) rfl rfl rfl ?_
            refine wl_val (v := .int .i64 (IntKind.i64.wrap (z524 + (1:Int)))) rfl rfl rfl ?_
            refine wl_nil ?_
            refine then_n ?_
            replace hst := hst.pull4
            replace hst := hst.pull2
            replace hst := hst.keep3
            obtain rfl := some_inj hm
            exact ⟨_, Nat.lt_succ_self _, t546.2, y574, (t553.1 ++ ([({ R := t534.1, From := (IntKind.u64.wrap t546.1), To := (0:Int) } : ref11_Line)])), (IntKind.i64.wrap (z524 + (1:Int))), v566, _, hx531, ((fr_upd (t := 1) (v := r1_0) rfl).trans ((fr_upd (t := 2) (v := .int .u16 a2) rfl).trans ((fr_upd (t := 3) (v := .int .u8 a3) rfl).trans ((fr_upd (t := 9) (v := .pointer (some ⟨b372, 0, none⟩)) rfl).trans ((fr_upd (t := 10) (v := v382) rfl).trans ((fr_upd (t := 11) (v := v566) rfl).trans ((fr_upd (t := 12) (v := .int .i64 (IntKind.i64.wrap (z524 + (1:Int)))) rfl).trans rfl))))))), hst⟩
          · skip
            replace hm := bif_f hc533 hm
            refine wp_iff (congrArg Value.bool hc533) ?_
            refine wp_exit ?_
            refine then_x ?_
            refine then_x ?_
            replace hm := inr_up hm hx531
            refine blk_x ?_
            refine then_n ?_
            replace hst := hst.pull2
            replace hst := hst.keep2
            obtain rfl := some_inj hm
            exact ⟨z520, z521, v522, _, hx583, ((fr_upd (t := 1) (v := r1_0) rfl).trans ((fr_upd (t := 2) (v := .int .u16 a2) rfl).trans ((fr_upd (t := 3) (v := .int .u8 a3) rfl).trans ((fr_upd (t := 10) (v := v382) rfl).trans ((fr_upd (t := 11) (v := v522) rfl).trans rfl))))), hst⟩
        · skip
          clear hst
          rintro _ w584 ⟨z576, z579, v578, σ580, hm, rfl, hst⟩
          dsimp only [law15_PolicyBytes_j0] at hm
          refine wp_seq ?_
          refine wp_region_lit ?_
          refine wl_val (v := v382) rfl rfl rfl ?_
          replace hst := objO_some hst
          obtain ⟨t585, ht586, hm⟩ := bind_some hm
          refine wl_call rfl rfl (x_call Try.call22 rfl (vs := [v382]) rfl) ?_
          refine (policy_Book_Encode_ref hst.to1 ht586).mono ?_
          rintro _ w587 ⟨v590, rfl, hst⟩
          refine ⟨_, rfl, ?_⟩
          replace hst := hst.of2
          replace hst := hst.pull1
          replace hst := objO_get hst
          replace hst := hst.pull1
          obtain ⟨I592, hI593, f594, hst⟩ := hst.own_fix
          replace f0_0 := f0_0.mono (ro_le hI593)
          replace f1_0 := f1_0.mono (ro_le hI593)
          replace hI0 := hI0.trans hI593
          obtain ⟨t595, ht596, hm⟩ := bind_some hm
          refine wl_call rfl rfl (x_call Try.call21 rfl (vs := [v590]) rfl) ?_
          refine (policy_Decode_ref f594 hst.to0 ht596).mono ?_
          rintro _ w597 ⟨v600, rfl, hst⟩
          refine ⟨_, rfl, ?_⟩
          replace hst := hst.of1
          refine wl_val (v := .tuple #[v600, .int .i64 t595.2]) rfl rfl rfl ?_
          refine wl_val (v := v600) rfl rfl rfl ?_
          refine wl_val (v := .int .i64 t595.2) rfl rfl rfl ?_
          refine wl_val (v := v600) rfl rfl rfl ?_
          refine wl_val (v := .int .i64 t595.2) rfl rfl rfl ?_
          refine wl_nil ?_
          refine then_n ?_
          refine wp_seq ?_
          refine wp_seq ?_
          refine wp_region_St hst [(0, false), (1, false), (2, false), (3, false), (4, false), (5, true), (6, false), (7, false), (8, false), (9, false), (12, false), (10, true), (11, false), (13, true), (14, false), (15, false), (16, false)] Try.mixed (by kernel_rfl) (by decide) ?_
          refine ws_q (v := .int .i64 t595.2) rfl rfl (yi_run rfl (fun w hst => rfl)) ?_
          refine ws_q (v := .bool (t595.2 != (0:Int))) rfl rfl (yi_run rfl (fun w hst => rfl)) ?_
          refine ws_q (v := .bool (t595.2 != (0:Int))) rfl rfl (yi_run rfl (fun w hst => rfl)) ?_
          refine bsplit (t595.2 != (0:Int)) (fun hc602 => ?_) (fun hc602 => ?_)
          · skip
            replace hm := bif_t hc602 hm
            refine ws_q (v := undef) rfl rfl (yi_off ((wanted_eq rfl rfl rfl (congrArg Value.bool hc602)).trans rfl)) ?_
            refine ws_q (v := undef) rfl rfl (yi_off ((wanted_eq rfl rfl rfl (congrArg Value.bool hc602)).trans rfl)) ?_
            refine ws_q (v := undef) rfl rfl (yi_off ((wanted_eq rfl rfl rfl (congrArg Value.bool hc602)).trans rfl)) ?_
            refine ws_q (v := undef) rfl rfl (yi_off ((wanted_eq rfl rfl rfl (congrArg Value.bool hc602)).trans rfl)) ?_
            refine ws_q (v := .bool true) rfl rfl (yi_run rfl (fun w hst => x_pick_t hc602 rfl rfl)) ?_
            refine ws_q (v := .bool true) rfl rfl (yi_run rfl (fun w hst => rfl)) ?_
            refine ws_q (v := undef) rfl rfl (yi_off ((wanted_eq rfl rfl rfl rfl).trans rfl)) ?_
            refine ws_q (v := undef) rfl rfl (yi_off ((wanted_eq rfl rfl rfl rfl).trans rfl)) ?_
            refine ws_q (v := undef) rfl rfl (yi_off ((wanted_eq rfl rfl rfl rfl).trans rfl)) ?_
            refine ws_q (v := undef) rfl rfl (yi_off ((wanted_eq rfl rfl rfl rfl).trans rfl)) ?_
            refine ws_q (v := undef) rfl rfl (yi_off ((wanted_eq rfl rfl rfl rfl).trans rfl)) ?_
            refine ws_q (v := undef) rfl rfl (yi_off ((wanted_eq rfl rfl rfl rfl).trans rfl)) ?_
            refine ws_q (v := undef) rfl rfl (yi_off ((wanted_eq rfl rfl rfl rfl).trans rfl)) ?_
            refine ws_q (v := .bool true) rfl rfl (yi_run rfl (fun w hst => x_pick_t rfl rfl rfl)) ?_
            refine ws_nil ?_
            intro w hst
            refine then_n ?_
            refine wp_ift rfl ?_
            refine wp_seq ?_
            refine wp_region_lit ?_
            refine wl_val (v := .bool false) rfl rfl rfl ?_
            refine wl_nil ?_
            refine then_n ?_
            refine wp_ret ?_
            refine then_r ?_
            obtain rfl := some_inj hm
            refine post_ret (vs := [.bool false]) Try.results7 (rvs_cons (rv_tmp rfl) rvs_nil) ?_
            exact ⟨_, rfl, hI0, hst.keep0⟩
          · skip
            replace hm := bif_f hc602 hm
            refine ws_q (v := v600) rfl rfl (yi_run ((wanted_eq rfl rfl rfl (congrArg Value.bool hc602)).trans rfl) (fun w hst => rfl)) ?_
            refine ws_q (v := v578) rfl rfl (yi_run ((wanted_eq rfl rfl rfl (congrArg Value.bool hc602)).trans rfl) (fun w hst => rfl)) ?_
            refine ws_e rfl ((wanted_eq rfl rfl rfl (congrArg Value.bool hc602)).trans rfl) ?_
            clear hst
            intro w hst
            replace hst := hst.pull2
            obtain ⟨css603, hq604, hst⟩ := hst.own_open
            replace hst := hst.pull1
            obtain ⟨t605, ht606, hm⟩ := bind_some hm
            refine we_call rfl (x_call Try.call18 rfl (vs := [v600, v578]) rfl) ?_
            refine (law15_told_ref (hst.sub.rdrow0 hq604) hst.to1 ht606).mono ?_
            rintro _ w607 ⟨rfl, hst⟩
            refine ⟨_, rfl, ?_⟩
            replace hst := hst.of1
            replace hst := hst.pull1
            replace hst := hst.own_close hq604
            refine ws_next (pend' := []) hst (by kernel_rfl) pk_nil ?_
            refine ws_q (v := .bool (!t605)) rfl rfl (yi_run ((wanted_eq rfl rfl rfl (congrArg Value.bool hc602)).trans rfl) (fun w hst => rfl)) ?_
            refine ws_q (v := .bool (!t605)) rfl rfl (yi_run rfl (fun w hst => x_pick_f hc602 rfl rfl)) ?_
            refine ws_q (v := .bool (!t605)) rfl rfl (yi_run rfl (fun w hst => rfl)) ?_
            refine bsplit (!t605) (fun hc610 => ?_) (fun hc610 => ?_)
            · skip
              replace hm := bif_t hc610 hm
              refine ws_q (v := undef) rfl rfl (yi_off ((wanted_eq rfl rfl rfl (congrArg Value.bool hc610)).trans rfl)) ?_
              refine ws_q (v := undef) rfl rfl (yi_off ((wanted_eq rfl rfl rfl (congrArg Value.bool hc610)).trans rfl)) ?_
              refine ws_q (v := undef) rfl rfl (yi_off ((wanted_eq rfl rfl rfl (congrArg Value.bool hc610)).trans rfl)) ?_
              refine ws_q (v := undef) rfl rfl (yi_off ((wanted_eq rfl rfl rfl (congrArg Value.bool hc610)).trans rfl)) ?_
              refine ws_q (v := undef) rfl rfl (yi_off ((wanted_eq rfl rfl rfl (congrArg Value.bool hc610)).trans rfl)) ?_
              refine ws_q (v := undef) rfl rfl (yi_off ((wanted_eq rfl rfl rfl (congrArg Value.bool hc610)).trans rfl)) ?_
              refine ws_q (v := undef) rfl rfl (yi_off ((wanted_eq rfl rfl rfl (congrArg Value.bool hc610)).trans rfl)) ?_
              refine ws_q (v := .bool true) rfl rfl (yi_run rfl (fun w hst => x_pick_t hc610 rfl rfl)) ?_
              refine ws_nil ?_
              intro w hst
              refine then_n ?_
              refine wp_ift rfl ?_
              refine wp_seq ?_
              refine wp_region_lit ?_
              refine wl_val (v := .bool false) rfl rfl rfl ?_
              refine wl_nil ?_
              refine then_n ?_
              refine wp_ret ?_
              refine then_r ?_
              obtain rfl := some_inj hm
              refine post_ret (vs := [.bool false]) Try.results7 (rvs_cons (rv_tmp rfl) rvs_nil) ?_
              exact ⟨_, rfl, hI0, hst.keep0⟩
            · skip
              replace hm := bif_f hc610 hm
              refine ws_q (v := v600) rfl rfl (yi_run ((wanted_eq rfl rfl rfl (congrArg Value.bool hc610)).trans rfl) (fun w hst => rfl)) ?_
              refine ws_q (v := v382) rfl rfl (yi_run ((wanted_eq rfl rfl rfl (congrArg Value.bool hc610)).trans rfl) (fun w hst => rfl)) ?_
              refine ws_e rfl ((wanted_eq rfl rfl rfl (congrArg Value.bool hc610)).trans rfl) ?_
              clear hst
              intro w hst
              replace hst := hst.pull1
              obtain ⟨t611, ht612, hm⟩ := bind_some hm
              refine we_call rfl (x_call Try.call22 rfl (vs := [v600]) rfl) ?_
              refine (policy_Book_Encode_ref hst.to1 ht612).mono ?_
              rintro _ w613 ⟨v616, rfl, hst⟩
              refine ⟨_, rfl, ?_⟩
              replace hst := hst.of2
              refine ws_next (pend' := [(12, v382)]) hst (by kernel_rfl) (pk_cons rfl (yi_run ((wanted_eq rfl rfl rfl (congrArg Value.bool hc610)).trans rfl) (fun w hst => rfl)) pk_nil) ?_
              refine ws_q (v := .string (toStr t611)) rfl rfl (yi_run ((wanted_eq rfl rfl rfl (congrArg Value.bool hc610)).trans rfl) (fun w hst => x_tostr Try.underlying23 Try.underlying9 Try.underlying5 rfl hst.src0)) ?_
              refine ws_e rfl ((wanted_eq rfl rfl rfl (congrArg Value.bool hc610)).trans rfl) ?_
              clear hst
              intro w hst
              replace hst := hst.pull3
              replace hst := objO_some hst
              obtain ⟨t618, ht619, hm⟩ := bind_some hm
              refine we_call rfl (x_call Try.call22 rfl (vs := [v382]) rfl) ?_
              refine (policy_Book_Encode_ref hst.to1 ht619).mono ?_
              rintro _ w620 ⟨v623, rfl, hst⟩
              refine ⟨_, rfl, ?_⟩
              replace hst := hst.of2
              replace hst := hst.pull1
              replace hst := objO_get hst
              refine ws_next (pend' := [(11, .string (toStr t611))]) hst (by kernel_rfl) (pk_cons rfl (yi_run ((wanted_eq rfl rfl rfl (congrArg Value.bool hc610)).trans rfl) (fun w hst => x_tostr Try.underlying23 Try.underlying9 Try.underlying5 rfl hst.src2)) pk_nil) ?_
              refine ws_q (v := .string (toStr t618)) rfl rfl (yi_run ((wanted_eq rfl rfl rfl (congrArg Value.bool hc610)).trans rfl) (fun w hst => x_tostr Try.underlying23 Try.underlying9 Try.underlying5 rfl hst.src1)) ?_
              refine ws_q (v := .bool (!(sEq (toStr t611) (toStr t618)))) rfl rfl (yi_run ((wanted_eq rfl rfl rfl (congrArg Value.bool hc610)).trans rfl) (fun w hst => by kernel_rfl)) ?_
              refine ws_q (v := .bool (!(sEq (toStr t611) (toStr t618)))) rfl rfl (yi_run rfl (fun w hst => x_pick_f hc610 rfl rfl)) ?_
              refine ws_nil ?_
              intro w hst
              refine then_n ?_
              refine bsplit (!(sEq (toStr t611) (toStr t618))) (fun hc625 => ?_) (fun hc625 => ?_)
              · skip
                replace hm := bif_t hc625 hm
                refine wp_ift (congrArg Value.bool hc625) ?_
                refine wp_seq ?_
                refine wp_region_lit ?_
                refine wl_val (v := .bool false) rfl rfl rfl ?_
                refine wl_nil ?_
                refine then_n ?_
                refine wp_ret ?_
                refine then_r ?_
                obtain rfl := some_inj hm
                refine post_ret (vs := [.bool false]) Try.results7 (rvs_cons (rv_tmp rfl) rvs_nil) ?_
                exact ⟨_, rfl, hI0, hst.keep0⟩
              · skip
                replace hm := bif_f hc625 hm
                refine wp_iff (congrArg Value.bool hc625) ?_
                refine wp_skip ?_
                refine then_n ?_
                refine wp_seq ?_
                refine wp_region_lit ?_
                refine wl_val (v := r1_0) rfl rfl rfl ?_
                obtain ⟨t626, ht627, hm⟩ := bind_some hm
                refine wl_call rfl rfl (x_call Try.call21 rfl (vs := [r1_0]) rfl) ?_
                refine (policy_Decode_ref f1_0 hst.to0 ht627).mono ?_
                rintro _ w628 ⟨v631, rfl, hst⟩
                refine ⟨_, rfl, ?_⟩
                replace hst := hst.of1
                refine wl_val (v := .tuple #[v631, .int .i64 t626.2]) rfl rfl rfl ?_
                refine wl_val (v := v631) rfl rfl rfl ?_
                refine wl_val (v := .int .i64 t626.2) rfl rfl rfl ?_
                refine wl_val (v := v631) rfl rfl rfl ?_
                refine wl_val (v := .int .i64 t626.2) rfl rfl rfl ?_
                refine wl_nil ?_
                refine then_n ?_
                obtain ⟨y650, hm, hx651⟩ := joinO_some hm
                refine wp_cut (fun a w => ∃ (σ648 : Nat → Value), (law15_PolicyBytes_j2 z576 a2 a3) () = some r ∧ a = Fr 156 (upd (upd (upd σ648 2 (.int .u16 a2)) 3 (.int .u8 a3)) 10 (v382)) ∧ St w0 w I592 [at_policy_Book v382 z576] R) ?_ ?_
                · skip
                  refine wp_seq ?_
                  refine wp_region_St hst [(0, false), (1, false), (2, false), (3, false), (6, false), (7, false), (4, true), (5, false), (8, false), (9, false), (10, false), (11, false), (12, false), (13, false), (14, false), (15, false), (16, false), (17, false), (18, false), (19, false), (20, false), (21, false)] Try.mixed (by kernel_rfl) (by decide) ?_
                  refine ws_q (v := .int .i64 t626.2) rfl rfl (yi_run rfl (fun w hst => rfl)) ?_
                  refine ws_q (v := .bool (t626.2 == (0:Int))) rfl rfl (yi_run rfl (fun w hst => rfl)) ?_
                  refine ws_q (v := .bool (t626.2 == (0:Int))) rfl rfl (yi_run rfl (fun w hst => rfl)) ?_
                  refine bsplit (t626.2 == (0:Int)) (fun hc633 => ?_) (fun hc633 => ?_)
                  · skip
                    replace hm := bif_t hc633 hm
                    refine ws_q (v := v631) rfl rfl (yi_run ((wanted_eq rfl rfl rfl (congrArg Value.bool hc633)).trans rfl) (fun w hst => rfl)) ?_
                    refine ws_q (v := r1_0) rfl rfl (yi_run ((wanted_eq rfl rfl rfl (congrArg Value.bool hc633)).trans rfl) (fun w hst => rfl)) ?_
                    refine ws_q (v := .string (toStr a1)) rfl rfl (yi_run ((wanted_eq rfl rfl rfl (congrArg Value.bool hc633)).trans rfl) (fun w hst => x_tostr Try.underlying23 Try.underlying9 Try.underlying5 rfl (Src.of_ro hst f1_0))) ?_
                    refine ws_e rfl ((wanted_eq rfl rfl rfl (congrArg Value.bool hc633)).trans rfl) ?_
                    clear hst
                    intro w hst
                    obtain ⟨t634, ht635, hm⟩ := bind_some hm
                    refine we_call rfl (x_call Try.call22 rfl (vs := [v631]) rfl) ?_
                    refine (policy_Book_Encode_ref hst.to1 ht635).mono ?_
                    rintro _ w636 ⟨v639, rfl, hst⟩
                    refine ⟨_, rfl, ?_⟩
                    replace hst := hst.of2
                    refine ws_next (pend' := [(7, .string (toStr a1)), (6, r1_0)]) hst (by kernel_rfl) (pk_cons rfl (yi_run ((wanted_eq rfl rfl rfl (congrArg Value.bool hc633)).trans rfl) (fun w hst => x_tostr Try.underlying23 Try.underlying9 Try.underlying5 rfl (Src.of_ro hst f1_0))) (pk_cons rfl (yi_run ((wanted_eq rfl rfl rfl (congrArg Value.bool hc633)).trans rfl) (fun w hst => rfl)) pk_nil)) ?_
                    refine ws_q (v := .string (toStr t634)) rfl rfl (yi_run ((wanted_eq rfl rfl rfl (congrArg Value.bool hc633)).trans rfl) (fun w hst => x_tostr Try.underlying23 Try.underlying9 Try.underlying5 rfl hst.src0)) ?_
                    refine ws_q (v := .bool (!(sEq (toStr t634) (toStr a1)))) rfl rfl (yi_run ((wanted_eq rfl rfl rfl (congrArg Value.bool hc633)).trans rfl) (fun w hst => by kernel_rfl)) ?_
                    refine ws_q (v := .bool (!(sEq (toStr t634) (toStr a1)))) rfl rfl (yi_run rfl (fun w hst => x_pick_t hc633 rfl rfl)) ?_
                    refine ws_q (v := .bool (!(sEq (toStr t634) (toStr a1)))) rfl rfl (yi_run rfl (fun w hst => rfl)) ?_
                    refine bsplit (!(sEq (toStr t634) (toStr a1))) (fun hc641 => ?_) (fun hc641 => ?_)
                    · skip
                      replace hm := bif_t hc641 hm
                      refine ws_q (v := undef) rfl rfl (yi_off ((wanted_eq rfl rfl rfl (congrArg Value.bool hc641)).trans rfl)) ?_
                      refine ws_q (v := undef) rfl rfl (yi_off ((wanted_eq rfl rfl rfl (congrArg Value.bool hc641)).trans rfl)) ?_
                      refine ws_q (v := undef) rfl rfl (yi_off ((wanted_eq rfl rfl rfl (congrArg Value.bool hc641)).trans rfl)) ?_
                      refine ws_q (v := undef) rfl rfl (yi_off (wanted_undef rfl rfl rfl rfl)) ?_
                      refine ws_q (v := undef) rfl rfl (yi_off (wanted_undef rfl rfl rfl rfl)) ?_
                      refine ws_q (v := undef) rfl rfl (yi_off (wanted_undef rfl rfl rfl rfl)) ?_
                      refine ws_q (v := undef) rfl rfl (yi_off (wanted_undef rfl rfl rfl rfl)) ?_
                      refine ws_q (v := undef) rfl rfl (yi_off (wanted_undef rfl rfl rfl rfl)) ?_
                      refine ws_q (v := undef) rfl rfl (yi_off (wanted_undef rfl rfl rfl rfl)) ?_
                      refine ws_q (v := undef) rfl rfl (yi_off ((wanted_eq rfl rfl rfl (congrArg Value.bool hc641)).trans rfl)) ?_
                      refine ws_q (v := .bool true) rfl rfl (yi_run rfl (fun w hst => x_pick_t hc641 rfl rfl)) ?_
                      refine ws_nil ?_
                      intro w hst
                      refine then_n ?_
                      refine wp_ift rfl ?_
                      refine wp_seq ?_
                      refine wp_region_lit ?_
                      refine wl_val (v := .bool false) rfl rfl rfl ?_
                      refine wl_nil ?_
                      refine then_n ?_
                      refine wp_ret ?_
                      refine then_r ?_
                      replace hm := inr_up hm hx651
                      obtain rfl := some_inj hm
                      refine post_ret (vs := [.bool false]) Try.results7 (rvs_cons (rv_tmp rfl) rvs_nil) ?_
                      exact ⟨_, rfl, hI0, hst.keep0⟩
                    · skip
                      replace hm := bif_f hc641 hm
                      refine ws_q (v := .int .i64 t626.2) rfl rfl (yi_run ((wanted_eq rfl rfl rfl (congrArg Value.bool hc641)).trans rfl) (fun w hst => rfl)) ?_
                      refine ws_q (v := .bool (t626.2 != (0:Int))) rfl rfl (yi_run ((wanted_eq rfl rfl rfl (congrArg Value.bool hc641)).trans rfl) (fun w hst => rfl)) ?_
                      refine ws_q (v := .bool (t626.2 != (0:Int))) rfl rfl (yi_run ((wanted_eq rfl rfl rfl (congrArg Value.bool hc641)).trans rfl) (fun w hst => rfl)) ?_
                      refine bsplit (t626.2 != (0:Int)) (fun hc642 => ?_) (fun hc642 => ?_)
                      · skip
                        replace hm := bif_t hc642 hm
                        refine ws_q (v := .int .i64 t626.2) rfl rfl (yi_run ((wanted_eq rfl rfl rfl (congrArg Value.bool hc642)).trans rfl) (fun w hst => rfl)) ?_
                        refine ws_q (v := .bool (t626.2 != (5:Int))) rfl rfl (yi_run ((wanted_eq rfl rfl rfl (congrArg Value.bool hc642)).trans rfl) (fun w hst => rfl)) ?_
                        refine ws_q (v := .bool (t626.2 != (5:Int))) rfl rfl (yi_run ((wanted_eq rfl rfl rfl (congrArg Value.bool hc642)).trans rfl) (fun w hst => rfl)) ?_
                        refine bsplit (t626.2 != (5:Int)) (fun hc643 => ?_) (fun hc643 => ?_)
                        · skip
                          replace hm := bif_t hc643 hm
                          refine ws_q (v := undef) rfl rfl (yi_off ((wanted_eq rfl rfl rfl (congrArg Value.bool hc643)).trans rfl)) ?_
                          refine ws_q (v := undef) rfl rfl (yi_off ((wanted_eq rfl rfl rfl (congrArg Value.bool hc643)).trans rfl)) ?_
                          refine ws_q (v := .bool true) rfl rfl (yi_run ((wanted_eq rfl rfl rfl (congrArg Value.bool hc642)).trans rfl) (fun w hst => x_pick_t hc643 rfl rfl)) ?_
                          refine ws_q (v := .bool true) rfl rfl (yi_run ((wanted_eq rfl rfl rfl (congrArg Value.bool hc641)).trans rfl) (fun w hst => x_pick_t hc642 rfl rfl)) ?_
                          refine ws_q (v := .bool true) rfl rfl (yi_run rfl (fun w hst => x_pick_f hc641 rfl rfl)) ?_
                          refine ws_nil ?_
                          intro w hst
                          refine then_n ?_
                          refine wp_ift rfl ?_
                          refine wp_seq ?_
                          refine wp_region_lit ?_
                          refine wl_val (v := .bool false) rfl rfl rfl ?_
                          refine wl_nil ?_
                          refine then_n ?_
                          refine wp_ret ?_
                          refine then_r ?_
                          replace hm := inr_up hm hx651
                          obtain rfl := some_inj hm
                          refine post_ret (vs := [.bool false]) Try.results7 (rvs_cons (rv_tmp rfl) rvs_nil) ?_
                          exact ⟨_, rfl, hI0, hst.keep0⟩
                        · skip
                          replace hm := bif_f hc643 hm
                          refine ws_q (v := v631) rfl rfl (yi_run ((wanted_eq rfl rfl rfl (congrArg Value.bool hc643)).trans rfl) (fun w hst => rfl)) ?_
                          refine ws_q (v := .bool (!(t626.1.isNone))) rfl rfl (yi_run ((wanted_eq rfl rfl rfl (congrArg Value.bool hc643)).trans rfl) (fun w hst => by obtain ⟨a_, ha_, hb_⟩ := at_policy_Book_isnil hst.pull1; subst ha_; rw [← hb_]; cases a_ <;> kernel_rfl)) ?_
                          refine ws_q (v := .bool (!(t626.1.isNone))) rfl rfl (yi_run ((wanted_eq rfl rfl rfl (congrArg Value.bool hc642)).trans rfl) (fun w hst => x_pick_f hc643 rfl rfl)) ?_
                          refine ws_q (v := .bool (!(t626.1.isNone))) rfl rfl (yi_run ((wanted_eq rfl rfl rfl (congrArg Value.bool hc641)).trans rfl) (fun w hst => x_pick_t hc642 rfl rfl)) ?_
                          refine ws_q (v := .bool (!(t626.1.isNone))) rfl rfl (yi_run rfl (fun w hst => x_pick_f hc641 rfl rfl)) ?_
                          refine ws_nil ?_
                          intro w hst
                          refine then_n ?_
                          refine bsplit (!(t626.1.isNone)) (fun hc644 => ?_) (fun hc644 => ?_)
                          · skip
                            replace hm := bif_t hc644 hm
                            refine wp_ift (congrArg Value.bool hc644) ?_
                            refine wp_seq ?_
                            refine wp_region_lit ?_
                            refine wl_val (v := .bool false) rfl rfl rfl ?_
                            refine wl_nil ?_
                            refine then_n ?_
                            refine wp_ret ?_
                            refine then_r ?_
                            replace hm := inr_up hm hx651
                            obtain rfl := some_inj hm
                            refine post_ret (vs := [.bool false]) Try.results7 (rvs_cons (rv_tmp rfl) rvs_nil) ?_
                            exact ⟨_, rfl, hI0, hst.keep0⟩
                          · skip
                            replace hm := bif_f hc644 hm
                            refine wp_iff (congrArg Value.bool hc644) ?_
                            refine wp_skip ?_
                            refine then_n ?_
                            replace hst := hst.pull2
                            replace hst := hst.keep1
                            obtain rfl := some_inj hm
                            exact ⟨_, hx651, ((fr_upd (t := 2) (v := .int .u16 a2) rfl).trans ((fr_upd (t := 3) (v := .int .u8 a3) rfl).trans ((fr_upd (t := 10) (v := v382) rfl).trans rfl))), hst⟩
                      · skip
                        replace hm := bif_f hc642 hm
                        refine ws_q (v := undef) rfl rfl (yi_off ((wanted_eq rfl rfl rfl (congrArg Value.bool hc642)).trans rfl)) ?_
                        refine ws_q (v := undef) rfl rfl (yi_off ((wanted_eq rfl rfl rfl (congrArg Value.bool hc642)).trans rfl)) ?_
                        refine ws_q (v := undef) rfl rfl (yi_off ((wanted_eq rfl rfl rfl (congrArg Value.bool hc642)).trans rfl)) ?_
                        refine ws_q (v := undef) rfl rfl (yi_off (wanted_undef rfl rfl rfl rfl)) ?_
                        refine ws_q (v := undef) rfl rfl (yi_off (wanted_undef rfl rfl rfl rfl)) ?_
                        refine ws_q (v := undef) rfl rfl (yi_off ((wanted_eq rfl rfl rfl (congrArg Value.bool hc642)).trans rfl)) ?_
                        refine ws_q (v := .bool false) rfl rfl (yi_run ((wanted_eq rfl rfl rfl (congrArg Value.bool hc641)).trans rfl) (fun w hst => x_pick_f hc642 rfl rfl)) ?_
                        refine ws_q (v := .bool false) rfl rfl (yi_run rfl (fun w hst => x_pick_f hc641 rfl rfl)) ?_
                        refine ws_nil ?_
                        intro w hst
                        refine then_n ?_
                        refine wp_iff rfl ?_
                        refine wp_skip ?_
                        refine then_n ?_
                        replace hst := hst.pull2
                        replace hst := hst.keep1
                        obtain rfl := some_inj hm
                        exact ⟨_, hx651, ((fr_upd (t := 2) (v := .int .u16 a2) rfl).trans ((fr_upd (t := 3) (v := .int .u8 a3) rfl).trans ((fr_upd (t := 10) (v := v382) rfl).trans rfl))), hst⟩
                  · skip
                    replace hm := bif_f hc633 hm
                    refine ws_q (v := undef) rfl rfl (yi_off ((wanted_eq rfl rfl rfl (congrArg Value.bool hc633)).trans rfl)) ?_
                    refine ws_q (v := undef) rfl rfl (yi_off ((wanted_eq rfl rfl rfl (congrArg Value.bool hc633)).trans rfl)) ?_
                    refine ws_q (v := undef) rfl rfl (yi_off ((wanted_eq rfl rfl rfl (congrArg Value.bool hc633)).trans rfl)) ?_
                    refine ws_q (v := undef) rfl rfl (yi_off ((wanted_eq rfl rfl rfl (congrArg Value.bool hc633)).trans rfl)) ?_
                    refine ws_q (v := undef) rfl rfl (yi_off ((wanted_eq rfl rfl rfl (congrArg Value.bool hc633)).trans rfl)) ?_
                    refine ws_q (v := undef) rfl rfl (yi_off ((wanted_eq rfl rfl rfl (congrArg Value.bool hc633)).trans rfl)) ?_
                    refine ws_q (v := .bool false) rfl rfl (yi_run rfl (fun w hst => x_pick_f hc633 rfl rfl)) ?_
                    refine ws_q (v := .bool false) rfl rfl (yi_run rfl (fun w hst => rfl)) ?_
                    refine ws_q (v := .int .i64 t626.2) rfl rfl (yi_run ((wanted_eq rfl rfl rfl rfl).trans rfl) (fun w hst => rfl)) ?_
                    refine ws_q (v := .bool (t626.2 != (0:Int))) rfl rfl (yi_run ((wanted_eq rfl rfl rfl rfl).trans rfl) (fun w hst => rfl)) ?_
                    refine ws_q (v := .bool (t626.2 != (0:Int))) rfl rfl (yi_run ((wanted_eq rfl rfl rfl rfl).trans rfl) (fun w hst => rfl)) ?_
                    refine bsplit (t626.2 != (0:Int)) (fun hc645 => ?_) (fun hc645 => ?_)
                    · skip
                      replace hm := bif_t hc645 hm
                      refine ws_q (v := .int .i64 t626.2) rfl rfl (yi_run ((wanted_eq rfl rfl rfl (congrArg Value.bool hc645)).trans rfl) (fun w hst => rfl)) ?_
                      refine ws_q (v := .bool (t626.2 != (5:Int))) rfl rfl (yi_run ((wanted_eq rfl rfl rfl (congrArg Value.bool hc645)).trans rfl) (fun w hst => rfl)) ?_
                      refine ws_q (v := .bool (t626.2 != (5:Int))) rfl rfl (yi_run ((wanted_eq rfl rfl rfl (congrArg Value.bool hc645)).trans rfl) (fun w hst => rfl)) ?_
                      refine bsplit (t626.2 != (5:Int)) (fun hc646 => ?_) (fun hc646 => ?_)
                      · skip
                        replace hm := bif_t hc646 hm
                        refine ws_q (v := undef) rfl rfl (yi_off ((wanted_eq rfl rfl rfl (congrArg Value.bool hc646)).trans rfl)) ?_
                        refine ws_q (v := undef) rfl rfl (yi_off ((wanted_eq rfl rfl rfl (congrArg Value.bool hc646)).trans rfl)) ?_
                        refine ws_q (v := .bool true) rfl rfl (yi_run ((wanted_eq rfl rfl rfl (congrArg Value.bool hc645)).trans rfl) (fun w hst => x_pick_t hc646 rfl rfl)) ?_
                        refine ws_q (v := .bool true) rfl rfl (yi_run ((wanted_eq rfl rfl rfl rfl).trans rfl) (fun w hst => x_pick_t hc645 rfl rfl)) ?_
                        refine ws_q (v := .bool true) rfl rfl (yi_run rfl (fun w hst => x_pick_f rfl rfl rfl)) ?_
                        refine ws_nil ?_
                        intro w hst
                        refine then_n ?_
                        refine wp_ift rfl ?_
                        refine wp_seq ?_
                        refine wp_region_lit ?_
                        refine wl_val (v := .bool false) rfl rfl rfl ?_
                        refine wl_nil ?_
                        refine then_n ?_
                        refine wp_ret ?_
                        refine then_r ?_
                        replace hm := inr_up hm hx651
                        obtain rfl := some_inj hm
                        refine post_ret (vs := [.bool false]) Try.results7 (rvs_cons (rv_tmp rfl) rvs_nil) ?_
                        exact ⟨_, rfl, hI0, hst.keep0⟩
                      · skip
                        replace hm := bif_f hc646 hm
                        refine ws_q (v := v631) rfl rfl (yi_run ((wanted_eq rfl rfl rfl (congrArg Value.bool hc646)).trans rfl) (fun w hst => rfl)) ?_
                        refine ws_q (v := .bool (!(t626.1.isNone))) rfl rfl (yi_run ((wanted_eq rfl rfl rfl (congrArg Value.bool hc646)).trans rfl) (fun w hst => by obtain ⟨a_, ha_, hb_⟩ := at_policy_Book_isnil hst; subst ha_; rw [← hb_]; cases a_ <;> kernel_rfl)) ?_
                        refine ws_q (v := .bool (!(t626.1.isNone))) rfl rfl (yi_run ((wanted_eq rfl rfl rfl (congrArg Value.bool hc645)).trans rfl) (fun w hst => x_pick_f hc646 rfl rfl)) ?_
                        refine ws_q (v := .bool (!(t626.1.isNone))) rfl rfl (yi_run ((wanted_eq rfl rfl rfl rfl).trans rfl) (fun w hst => x_pick_t hc645 rfl rfl)) ?_
                        refine ws_q (v := .bool (!(t626.1.isNone))) rfl rfl (yi_run rfl (fun w hst => x_pick_f rfl rfl rfl)) ?_
                        refine ws_nil ?_
                        intro w hst
                        refine then_n ?_
                        refine bsplit (!(t626.1.isNone)) (fun hc647 => ?_) (fun hc647 => ?_)
                        · skip
                          replace hm := bif_t hc647 hm
                          refine wp_ift (congrArg Value.bool hc647) ?_
                          refine wp_seq ?_
                          refine wp_region_lit ?_
                          refine wl_val (v := .bool false) rfl rfl rfl ?_
                          refine wl_nil ?_
                          refine then_n ?_
                          refine wp_ret ?_
                          refine then_r ?_
                          replace hm := inr_up hm hx651
                          obtain rfl := some_inj hm
                          refine post_ret (vs := [.bool false]) Try.results7 (rvs_cons (rv_tmp rfl) rvs_nil) ?_
                          exact ⟨_, rfl, hI0, hst.keep0⟩
                        · skip
                          replace hm := bif_f hc647 hm
                          refine wp_iff (congrArg Value.bool hc647) ?_
                          refine wp_skip ?_
                          refine then_n ?_
                          replace hst := hst.pull1
                          replace hst := hst.keep1
                          obtain rfl := some_inj hm
                          exact ⟨_, hx651, ((fr_upd (t := 2) (v := .int .u16 a2) rfl).trans ((fr_upd (t := 3) (v := .int .u8 a3) rfl).trans ((fr_upd (t := 10) (v := v382) rfl).trans rfl))), hst⟩
                    · skip
                      replace hm := bif_f hc645 hm
                      refine ws_q (v := undef) rfl rfl (yi_off ((wanted_eq rfl rfl rfl (congrArg Value.bool hc645)).trans rfl)) ?_
                      refine ws_q (v := undef) rfl rfl (yi_off ((wanted_eq rfl rfl rfl (congrArg Value.bool hc645)).trans rfl)) ?_
                      refine ws_q (v := undef) rfl rfl (yi_off ((wanted_eq rfl rfl rfl (congrArg Value.bool hc645)).trans rfl)) ?_
                      refine ws_q (v := undef) rfl rfl (yi_off (wanted_undef rfl rfl rfl rfl)) ?_
                      refine ws_q (v := undef) rfl rfl (yi_off (wanted_undef rfl rfl rfl rfl)) ?_
                      refine ws_q (v := undef) rfl rfl (yi_off ((wanted_eq rfl rfl rfl (congrArg Value.bool hc645)).trans rfl)) ?_
                      refine ws_q (v := .bool false) rfl rfl (yi_run ((wanted_eq rfl rfl rfl rfl).trans rfl) (fun w hst => x_pick_f hc645 rfl rfl)) ?_
                      refine ws_q (v := .bool false) rfl rfl (yi_run rfl (fun w hst => x_pick_f rfl rfl rfl)) ?_
                      refine ws_nil ?_
                      intro w hst
                      refine then_n ?_
                      refine wp_iff rfl ?_
                      refine wp_skip ?_
                      refine then_n ?_
                      replace hst := hst.pull1
                      replace hst := hst.keep1
                      obtain rfl := some_inj hm
                      exact ⟨_, hx651, ((fr_upd (t := 2) (v := .int .u16 a2) rfl).trans ((fr_upd (t := 3) (v := .int .u8 a3) rfl).trans ((fr_upd (t := 10) (v := v382) rfl).trans rfl))), hst⟩
                · skip
                  clear hst
                  rintro _ w652 ⟨σ648, hm, rfl, hst⟩
                  dsimp only [law15_PolicyBytes_j2] at hm
                  refine wp_seq ?_
                  refine wp_region_lit ?_
                  refine wl_val (v := v382) rfl rfl rfl ?_
                  replace hst := objO_some hst
                  obtain ⟨t653, ht654, hm⟩ := bind_some hm
                  refine wl_call rfl rfl (x_call Try.call22 rfl (vs := [v382]) rfl) ?_
                  refine (policy_Book_Encode_ref hst.to1 ht654).mono ?_
                  rintro _ w655 ⟨v658, rfl, hst⟩
                  refine ⟨_, rfl, ?_⟩
                  replace hst := hst.of2
                  replace hst := hst.pull1
                  replace hst := objO_get hst
                  refine wl_val (v := v658) rfl rfl rfl ?_
                  refine wl_nil ?_
                  refine then_n ?_
                  refine wp_seq ?_
                  refine wp_region_lit ?_
                  refine wl_val (v := .int .u16 a2) rfl rfl rfl ?_
                  refine wl_val (v := .int .i64 (IntKind.i64.wrap a2)) rfl rfl (by kernel_rfl) ?_
                  refine wl_val (v := v658) rfl rfl rfl ?_
                  refine wl_val (v := .int .i64 ((t653).length : Int)) rfl rfl (x_len rfl Try.underlying23 hst.sv1) ?_
                  obtain ⟨hg660, hm⟩ := gd_some hm
                  refine wl_val (v := .int .i64 (Int.tmod (IntKind.i64.wrap a2) ((t653).length : Int))) rfl rfl (x_rem (not_t hg660) rfl rfl) ?_
                  refine wl_val (v := .int .i64 (Int.tmod (IntKind.i64.wrap a2) ((t653).length : Int))) rfl rfl rfl ?_
                  refine wl_nil ?_
                  refine then_n ?_
                  refine wp_seq ?_
                  refine wp_region_lit ?_
                  refine wl_val (v := v658) rfl rfl rfl ?_
                  refine wl_val (v := .int .i64 (Int.tmod (IntKind.i64.wrap a2) ((t653).length : Int))) rfl rfl rfl ?_
                  refine wl_val (v := v658) rfl rfl rfl ?_
                  refine wl_val (v := .int .i64 (Int.tmod (IntKind.i64.wrap a2) ((t653).length : Int))) rfl rfl rfl ?_
                  obtain ⟨x661, hx662, hm⟩ := bind_some hm
                  obtain ⟨h663, h664, hi665⟩ := geto_some hx662
                  refine wl_val (v := .pointer (some (eAddr v658 ((Int.tmod (IntKind.i64.wrap a2) ((t653).length : Int)).toNat * 1 + 0)))) rfl rfl (x_index rfl rfl Try.underlying23 Try.sizeOf5 hst.sv1 h663 h664) ?_
                  refine wl_val (v := .int .u8 x661) rfl rfl (x_load rfl Try.isAgg5 (hst.ol1 hi665 (by rintro _ rfl; rfl))) ?_
                  refine wl_val (v := .int .u8 a3) rfl rfl rfl ?_
                  refine wl_val (v := .int .u8 (bXor .u8 x661 a3)) rfl rfl rfl ?_
                  refine wl_val (v := .pointer (some (eAddr v658 ((Int.tmod (IntKind.i64.wrap a2) ((t653).length : Int)).toNat * 1 + 0)))) rfl rfl (x_index rfl rfl Try.underlying23 Try.sizeOf5 hst.sv1 h663 h664) ?_
                  replace hst := hst.pull1
                  obtain ⟨w666, hr667, hst⟩ := hst.own_store (P := Try.prog) (t := 5) (y := (bXor .u8 x661 a3)) hi665 0 (.int .u8 (bXor .u8 x661 a3)) Try.sizeOf5 (Nat.le_of_ble_eq_true rfl) (ones_cons rfl ones_nil) (by rintro _ rfl; rfl)
                  have hi668 := set_get hi665 (bXor .u8 x661 a3)
                  have h669 := set_lt h664 (Int.tmod (IntKind.i64.wrap a2) ((t653).length : Int)).toNat (bXor .u8 x661 a3)
                  refine wl_unit rfl rfl (x_unit hr667) ?_
                  refine wl_nil ?_
                  refine then_n ?_
                  refine wp_seq ?_
                  refine wp_region_lit ?_
                  refine wl_val (v := v658) rfl rfl rfl ?_
                  obtain ⟨I670, hI671, f672, hst⟩ := hst.own_fix
                  replace f0_0 := f0_0.mono (ro_le hI671)
                  replace f1_0 := f1_0.mono (ro_le hI671)
                  replace f594 := f594.mono (ro_le hI671)
                  replace hI0 := hI0.trans hI671
                  obtain ⟨t673, ht674, hm⟩ := bind_some hm
                  refine wl_call rfl rfl (x_call Try.call21 rfl (vs := [v658]) rfl) ?_
                  refine (policy_Decode_ref f672 hst.to0 ht674).mono ?_
                  rintro _ w675 ⟨v678, rfl, hst⟩
                  refine ⟨_, rfl, ?_⟩
                  replace hst := hst.of1
                  refine wl_val (v := .tuple #[v678, .int .i64 t673.2]) rfl rfl rfl ?_
                  refine wl_val (v := v678) rfl rfl rfl ?_
                  refine wl_val (v := .int .i64 t673.2) rfl rfl rfl ?_
                  refine wl_val (v := v678) rfl rfl rfl ?_
                  refine wl_val (v := .int .i64 t673.2) rfl rfl rfl ?_
                  refine wl_nil ?_
                  refine then_n ?_
                  refine wp_seq ?_
                  refine wp_region_St hst [(0, false), (1, false), (2, false), (3, false), (6, false), (7, false), (4, true), (5, false), (8, false), (9, false), (10, false), (11, false), (12, false), (13, false), (14, false), (15, false), (16, false), (17, false), (18, false)] Try.mixed (by kernel_rfl) (by decide) ?_
                  refine ws_q (v := .int .i64 t673.2) rfl rfl (yi_run rfl (fun w hst => rfl)) ?_
                  refine ws_q (v := .bool (t673.2 == (0:Int))) rfl rfl (yi_run rfl (fun w hst => rfl)) ?_
                  refine ws_q (v := .bool (t673.2 == (0:Int))) rfl rfl (yi_run rfl (fun w hst => rfl)) ?_
                  refine bsplit (t673.2 == (0:Int)) (fun hc680 => ?_) (fun hc680 => ?_)
                  · skip
                    replace hm := bif_t hc680 hm
                    refine ws_q (v := v678) rfl rfl (yi_run ((wanted_eq rfl rfl rfl (congrArg Value.bool hc680)).trans rfl) (fun w hst => rfl)) ?_
                    refine ws_q (v := v658) rfl rfl (yi_run ((wanted_eq rfl rfl rfl (congrArg Value.bool hc680)).trans rfl) (fun w hst => rfl)) ?_
                    refine ws_q (v := .string (toStr (t653.set (Int.tmod (IntKind.i64.wrap a2) ((t653).length : Int)).toNat (bXor .u8 x661 a3)))) rfl rfl (yi_run ((wanted_eq rfl rfl rfl (congrArg Value.bool hc680)).trans rfl) (fun w hst => x_tostr Try.underlying23 Try.underlying9 Try.underlying5 rfl (Src.of_ro hst f672))) ?_
                    refine ws_e rfl ((wanted_eq rfl rfl rfl (congrArg Value.bool hc680)).trans rfl) ?_
                    clear hst
                    intro w hst
                    obtain ⟨t681, ht682, hm⟩ := bind_some hm
                    refine we_call rfl (x_call Try.call22 rfl (vs := [v678]) rfl) ?_
                    refine (policy_Book_Encode_ref hst.to1 ht682).mono ?_
                    rintro _ w683 ⟨v686, rfl, hst⟩
                    refine ⟨_, rfl, ?_⟩
                    replace hst := hst.of2
                    refine ws_next (pend' := [(7, .string (toStr (t653.set (Int.tmod (IntKind.i64.wrap a2) ((t653).length : Int)).toNat (bXor .u8 x661 a3)))), (6, v658)]) hst (by kernel_rfl) (pk_cons rfl (yi_run ((wanted_eq rfl rfl rfl (congrArg Value.bool hc680)).trans rfl) (fun w hst => x_tostr Try.underlying23 Try.underlying9 Try.underlying5 rfl (Src.of_ro hst f672))) (pk_cons rfl (yi_run ((wanted_eq rfl rfl rfl (congrArg Value.bool hc680)).trans rfl) (fun w hst => rfl)) pk_nil)) ?_
                    refine ws_q (v := .string (toStr t681)) rfl rfl (yi_run ((wanted_eq rfl rfl rfl (congrArg Value.bool hc680)).trans rfl) (fun w hst => x_tostr Try.underlying23 Try.underlying9 Try.underlying5 rfl hst.src0)) ?_
                    refine ws_q (v := .bool (sEq (toStr t681) (toStr (t653.set (Int.tmod (IntKind.i64.wrap a2) ((t653).length : Int)).toNat (bXor .u8 x661 a3))))) rfl rfl (yi_run ((wanted_eq rfl rfl rfl (congrArg Value.bool hc680)).trans rfl) (fun w hst => by kernel_rfl)) ?_
                    refine ws_q (v := .bool (sEq (toStr t681) (toStr (t653.set (Int.tmod (IntKind.i64.wrap a2) ((t653).length : Int)).toNat (bXor .u8 x661 a3))))) rfl rfl (yi_run rfl (fun w hst => x_pick_t hc680 rfl rfl)) ?_
                    refine ws_q (v := .bool (sEq (toStr t681) (toStr (t653.set (Int.tmod (IntKind.i64.wrap a2) ((t653).length : Int)).toNat (bXor .u8 x661 a3))))) rfl rfl (yi_run rfl (fun w hst => rfl)) ?_
                    refine bsplit (sEq (toStr t681) (toStr (t653.set (Int.tmod (IntKind.i64.wrap a2) ((t653).length : Int)).toNat (bXor .u8 x661 a3)))) (fun hc688 => ?_) (fun hc688 => ?_)
                    · skip
                      replace hm := bif_t hc688 hm
                      refine ws_q (v := undef) rfl rfl (yi_off ((wanted_eq rfl rfl rfl (congrArg Value.bool hc688)).trans rfl)) ?_
                      refine ws_q (v := undef) rfl rfl (yi_off ((wanted_eq rfl rfl rfl (congrArg Value.bool hc688)).trans rfl)) ?_
                      refine ws_q (v := undef) rfl rfl (yi_off ((wanted_eq rfl rfl rfl (congrArg Value.bool hc688)).trans rfl)) ?_
                      refine ws_q (v := undef) rfl rfl (yi_off (wanted_undef rfl rfl rfl rfl)) ?_
                      refine ws_q (v := undef) rfl rfl (yi_off (wanted_undef rfl rfl rfl rfl)) ?_
                      refine ws_q (v := undef) rfl rfl (yi_off ((wanted_eq rfl rfl rfl (congrArg Value.bool hc688)).trans rfl)) ?_
                      refine ws_q (v := .bool true) rfl rfl (yi_run rfl (fun w hst => x_pick_t hc688 rfl rfl)) ?_
                      refine ws_q (v := .bool true) rfl rfl (yi_run rfl (fun w hst => rfl)) ?_
                      refine ws_nil ?_
                      intro w hst
                      refine then_n ?_
                      refine wp_ret ?_
                      obtain rfl := some_inj hm
                      refine post_ret (vs := [.bool true]) Try.results7 (rvs_cons (rv_tmp rfl) rvs_nil) ?_
                      exact ⟨_, rfl, hI0, hst.keep0⟩
                    · skip
                      replace hm := bif_f hc688 hm
                      refine ws_q (v := .int .i64 t673.2) rfl rfl (yi_run ((wanted_eq rfl rfl rfl (congrArg Value.bool hc688)).trans rfl) (fun w hst => rfl)) ?_
                      refine ws_q (v := .bool (t673.2 == (5:Int))) rfl rfl (yi_run ((wanted_eq rfl rfl rfl (congrArg Value.bool hc688)).trans rfl) (fun w hst => rfl)) ?_
                      refine ws_q (v := .bool (t673.2 == (5:Int))) rfl rfl (yi_run ((wanted_eq rfl rfl rfl (congrArg Value.bool hc688)).trans rfl) (fun w hst => rfl)) ?_
                      refine bsplit (t673.2 == (5:Int)) (fun hc689 => ?_) (fun hc689 => ?_)
                      · skip
                        replace hm := bif_t hc689 hm
                        refine ws_q (v := v678) rfl rfl (yi_run ((wanted_eq rfl rfl rfl (congrArg Value.bool hc689)).trans rfl) (fun w hst => rfl)) ?_
                        refine ws_q (v := .bool (t673.1.isNone)) rfl rfl (yi_run ((wanted_eq rfl rfl rfl (congrArg Value.bool hc689)).trans rfl) (fun w hst => by obtain ⟨a_, ha_, hb_⟩ := at_policy_Book_isnil hst.pull1; subst ha_; rw [← hb_]; cases a_ <;> kernel_rfl)) ?_
                        refine ws_q (v := .bool (t673.1.isNone)) rfl rfl (yi_run ((wanted_eq rfl rfl rfl (congrArg Value.bool hc688)).trans rfl) (fun w hst => x_pick_t hc689 rfl rfl)) ?_
                        refine ws_q (v := .bool (t673.1.isNone)) rfl rfl (yi_run rfl (fun w hst => x_pick_f hc688 rfl rfl)) ?_
                        refine ws_q (v := .bool (t673.1.isNone)) rfl rfl (yi_run rfl (fun w hst => rfl)) ?_
                        refine ws_nil ?_
                        intro w hst
                        refine then_n ?_
                        refine wp_ret ?_
                        obtain rfl := some_inj hm
                        refine post_ret (vs := [.bool (t673.1.isNone)]) Try.results7 (rvs_cons (rv_tmp rfl) rvs_nil) ?_
                        exact ⟨_, rfl, hI0, hst.keep0⟩
                      · skip
                        replace hm := bif_f hc689 hm
                        refine ws_q (v := undef) rfl rfl (yi_off ((wanted_eq rfl rfl rfl (congrArg Value.bool hc689)).trans rfl)) ?_
                        refine ws_q (v := undef) rfl rfl (yi_off ((wanted_eq rfl rfl rfl (congrArg Value.bool hc689)).trans rfl)) ?_
                        refine ws_q (v := .bool false) rfl rfl (yi_run ((wanted_eq rfl rfl rfl (congrArg Value.bool hc688)).trans rfl) (fun w hst => x_pick_f hc689 rfl rfl)) ?_
                        refine ws_q (v := .bool false) rfl rfl (yi_run rfl (fun w hst => x_pick_f hc688 rfl rfl)) ?_
                        refine ws_q (v := .bool false) rfl rfl (yi_run rfl (fun w hst => rfl)) ?_
                        refine ws_nil ?_
                        intro w hst
                        refine then_n ?_
                        refine wp_ret ?_
                        obtain rfl := some_inj hm
                        refine post_ret (vs := [.bool false]) Try.results7 (rvs_cons (rv_tmp rfl) rvs_nil) ?_
                        exact ⟨_, rfl, hI0, hst.keep0⟩
                  · skip
                    replace hm := bif_f hc680 hm
                    refine ws_q (v := undef) rfl rfl (yi_off ((wanted_eq rfl rfl rfl (congrArg Value.bool hc680)).trans rfl)) ?_
                    refine ws_q (v := undef) rfl rfl (yi_off ((wanted_eq rfl rfl rfl (congrArg Value.bool hc680)).trans rfl)) ?_
                    refine ws_q (v := undef) rfl rfl (yi_off ((wanted_eq rfl rfl rfl (congrArg Value.bool hc680)).trans rfl)) ?_
                    refine ws_q (v := undef) rfl rfl (yi_off ((wanted_eq rfl rfl rfl (congrArg Value.bool hc680)).trans rfl)) ?_
                    refine ws_q (v := undef) rfl rfl (yi_off ((wanted_eq rfl rfl rfl (congrArg Value.bool hc680)).trans rfl)) ?_
                    refine ws_q (v := undef) rfl rfl (yi_off ((wanted_eq rfl rfl rfl (congrArg Value.bool hc680)).trans rfl)) ?_
                    refine ws_q (v := .bool false) rfl rfl (yi_run rfl (fun w hst => x_pick_f hc680 rfl rfl)) ?_
                    refine ws_q (v := .bool false) rfl rfl (yi_run rfl (fun w hst => rfl)) ?_
                    refine ws_q (v := .int .i64 t673.2) rfl rfl (yi_run ((wanted_eq rfl rfl rfl rfl).trans rfl) (fun w hst => rfl)) ?_
                    refine ws_q (v := .bool (t673.2 == (5:Int))) rfl rfl (yi_run ((wanted_eq rfl rfl rfl rfl).trans rfl) (fun w hst => rfl)) ?_
                    refine ws_q (v := .bool (t673.2 == (5:Int))) rfl rfl (yi_run ((wanted_eq rfl rfl rfl rfl).trans rfl) (fun w hst => rfl)) ?_
                    refine bsplit (t673.2 == (5:Int)) (fun hc690 => ?_) (fun hc690 => ?_)
                    · skip
                      replace hm := bif_t hc690 hm
                      refine ws_q (v := v678) rfl rfl (yi_run ((wanted_eq rfl rfl rfl (congrArg Value.bool hc690)).trans rfl) (fun w hst => rfl)) ?_
                      refine ws_q (v := .bool (t673.1.isNone)) rfl rfl (yi_run ((wanted_eq rfl rfl rfl (congrArg Value.bool hc690)).trans rfl) (fun w hst => by obtain ⟨a_, ha_, hb_⟩ := at_policy_Book_isnil hst; subst ha_; rw [← hb_]; cases a_ <;> kernel_rfl)) ?_
                      refine ws_q (v := .bool (t673.1.isNone)) rfl rfl (yi_run ((wanted_eq rfl rfl rfl rfl).trans rfl) (fun w hst => x_pick_t hc690 rfl rfl)) ?_
                      refine ws_q (v := .bool (t673.1.isNone)) rfl rfl (yi_run rfl (fun w hst => x_pick_f rfl rfl rfl)) ?_
                      refine ws_q (v := .bool (t673.1.isNone)) rfl rfl (yi_run rfl (fun w hst => rfl)) ?_
                      refine ws_nil ?_
                      intro w hst
                      refine then_n ?_
                      refine wp_ret ?_
                      obtain rfl := some_inj hm
                      refine post_ret (vs := [.bool (t673.1.isNone)]) Try.results7 (rvs_cons (rv_tmp rfl) rvs_nil) ?_
                      exact ⟨_, rfl, hI0, hst.keep0⟩
                    · skip
                      replace hm := bif_f hc690 hm
                      refine ws_q (v := undef) rfl rfl (yi_off ((wanted_eq rfl rfl rfl (congrArg Value.bool hc690)).trans rfl)) ?_
                      refine ws_q (v := undef) rfl rfl (yi_off ((wanted_eq rfl rfl rfl (congrArg Value.bool hc690)).trans rfl)) ?_
                      refine ws_q (v := .bool false) rfl rfl (yi_run ((wanted_eq rfl rfl rfl rfl).trans rfl) (fun w hst => x_pick_f hc690 rfl rfl)) ?_
                      refine ws_q (v := .bool false) rfl rfl (yi_run rfl (fun w hst => x_pick_f rfl rfl rfl)) ?_
                      refine ws_q (v := .bool false) rfl rfl (yi_run rfl (fun w hst => rfl)) ?_
                      refine ws_nil ?_
                      intro w hst
                      refine then_n ?_
                      refine wp_ret ?_
                      obtain rfl := some_inj hm
                      refine post_ret (vs := [.bool false]) Try.results7 (rvs_cons (rv_tmp rfl) rvs_nil) ?_
                      exact ⟨_, rfl, hI0, hst.keep0⟩

end Go.Proofs.Ytcnldkkdommmdaa
