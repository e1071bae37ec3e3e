/- The Go functions refine their models, part 4. -/
import Derived.Test.YtijcfglomdfglaaCommandBytesR3
set_option linter.unusedVariables false
set_option linter.unusedSimpArgs false
set_option maxRecDepth 100000
set_option maxHeartbeats 4000000
namespace Go.Proofs.Ytijcfglomdfglaa
open Go Go.V
attribute [local irreducible] wpList Code.wp wpQuiet Calls bodyPost Oper.wp wpS Nx PendOK YieldsIn
theorem ref11_SameRule_ref {w0 w : World} {I : HL} {R : SP} {a0 : api_Rule} {a1 : api_Rule}  (hst : St w0 w I [] R) {r : (Bool)} (hm : ref11_SameRule a0 a1 = some r) :
  Calls Try.prog 35 #[.agg #[.int .u64 a0.ID, .int .i64 a0.From, .int .i64 a0.To, .float .f64 a0.Lo, .float .f64 a0.Hi, .int .u64 a0.Authority, .int .i64 a0.Quota], .agg #[.int .u64 a1.ID, .int .i64 a1.From, .int .i64 a1.To, .float .f64 a1.Lo, .float .f64 a1.Hi, .int .u64 a1.Authority, .int .i64 a1.Quota]] w fun e w' => e = .returned (.bool r) ∧ St w0 w' I [] R := by
 unfold ref11_SameRule at hm
 refine calls_start (args := [.agg #[.int .u64 a0.ID, .int .i64 a0.From, .int .i64 a0.To, .float .f64 a0.Lo, .float .f64 a0.Hi, .int .u64 a0.Authority, .int .i64 a0.Quota], .agg #[.int .u64 a1.ID, .int .i64 a1.From, .int .i64 a1.To, .float .f64 a1.Lo, .float .f64 a1.Hi, .int .u64 a1.Authority, .int .i64 a1.Quota]]) Try.func35 rfl Try.ntmps35 (Nat.le_of_ble_eq_true rfl) ?_
 refine wp_seq (wp_region_lit ?_)
 obtain ⟨b201, w202, ew203, eb204, hst⟩ := hst.box [.int .u64 a0.ID, .int .i64 a0.From, .int .i64 a0.To, .float .f64 a0.Lo, .float .f64 a0.Hi, .int .u64 a0.Authority, .int .i64 a0.Quota] 43
 refine wl_run (v := .pointer (some ⟨b201, 0, none⟩)) (w' := w202) rfl rfl (x_al (by kernel_rfl) ew203 eb204) ?_
 obtain ⟨b206, w207, ew208, eb209, hst⟩ := hst.box [.int .u64 a1.ID, .int .i64 a1.From, .int .i64 a1.To, .float .f64 a1.Lo, .float .f64 a1.Hi, .int .u64 a1.Authority, .int .i64 a1.Quota] 43
 refine wl_run (v := .pointer (some ⟨b206, 0, none⟩)) (w' := w207) rfl rfl (x_al (by kernel_rfl) ew208 eb209) ?_
 refine wv (.bool false) rfl rfl rfl ?_
 refine wl_nil (then_n (wp_seq (wp_region_lit ?_)))
 refine wv (.pointer (some ⟨b201, 0, none⟩)) rfl rfl (x_field rfl Try.underlying43 rfl Try.sizeOf27 rfl) ?_
 refine wv (.int .u64 a0.ID) rfl rfl (x_load rfl Try.isAgg27 (hst.bc1 rfl)) ?_
 refine wv (.pointer (some ⟨b206, 0, none⟩)) rfl rfl (x_field rfl Try.underlying43 rfl Try.sizeOf27 rfl) ?_
 refine wv (.int .u64 a1.ID) rfl rfl (x_load rfl Try.isAgg27 (hst.bc0 rfl)) ?_
 refine wv (.bool (a0.ID == a1.ID)) rfl rfl rfl ?_
 refine wv (.bool (a0.ID == a1.ID)) rfl rfl rfl ?_
 refine bsplit (a0.ID == a1.ID) (fun hc211 => ?_) (fun hc211 => ?_)
 ·skip
  replace hm := bif_t hc211 hm
  refine wv (.pointer (some ⟨b201, 1, none⟩)) ((wanted_eq rfl rfl rfl (congrArg Value.bool hc211)).trans rfl) rfl (x_field rfl Try.underlying43 rfl Try.sizeOf3 rfl) ?_
  refine wv (.int .i64 a0.From) ((wanted_eq rfl rfl rfl (congrArg Value.bool hc211)).trans rfl) rfl (x_load rfl Try.isAgg3 (hst.bc1 rfl)) ?_
  refine wv (.pointer (some ⟨b206, 1, none⟩)) ((wanted_eq rfl rfl rfl (congrArg Value.bool hc211)).trans rfl) rfl (x_field rfl Try.underlying43 rfl Try.sizeOf3 rfl) ?_
  refine wv (.int .i64 a1.From) ((wanted_eq rfl rfl rfl (congrArg Value.bool hc211)).trans rfl) rfl (x_load rfl Try.isAgg3 (hst.bc0 rfl)) ?_
  refine wv (.bool (a0.From == a1.From)) ((wanted_eq rfl rfl rfl (congrArg Value.bool hc211)).trans rfl) rfl rfl ?_
  refine wv (.bool (a0.From == a1.From)) rfl rfl (x_pick_t hc211 rfl rfl) ?_
  refine wv (.bool (a0.From == a1.From)) rfl rfl rfl ?_
  refine bsplit (a0.From == a1.From) (fun hc212 => ?_) (fun hc212 => ?_)
  ·skip
   replace hm := bif_t hc212 hm
   refine wv (.pointer (some ⟨b201, 2, none⟩)) ((wanted_eq rfl rfl rfl (congrArg Value.bool hc212)).trans rfl) rfl (x_field rfl Try.underlying43 rfl Try.sizeOf3 rfl) ?_
   refine wv (.int .i64 a0.To) ((wanted_eq rfl rfl rfl (congrArg Value.bool hc212)).trans rfl) rfl (x_load rfl Try.isAgg3 (hst.bc1 rfl)) ?_
   refine wv (.pointer (some ⟨b206, 2, none⟩)) ((wanted_eq rfl rfl rfl (congrArg Value.bool hc212)).trans rfl) rfl (x_field rfl Try.underlying43 rfl Try.sizeOf3 rfl) ?_
   refine wv (.int .i64 a1.To) ((wanted_eq rfl rfl rfl (congrArg Value.bool hc212)).trans rfl) rfl (x_load rfl Try.isAgg3 (hst.bc0 rfl)) ?_
   refine wv (.bool (a0.To == a1.To)) ((wanted_eq rfl rfl rfl (congrArg Value.bool hc212)).trans rfl) rfl rfl ?_
   refine wv (.bool (a0.To == a1.To)) rfl rfl (x_pick_t hc212 rfl rfl) ?_
   refine wv (.bool (a0.To == a1.To)) rfl rfl rfl ?_
   refine bsplit (a0.To == a1.To) (fun hc213 => ?_) (fun hc213 => ?_)
   ·skip
    replace hm := bif_t hc213 hm
    refine wv (.pointer (some ⟨b201, 3, none⟩)) ((wanted_eq rfl rfl rfl (congrArg Value.bool hc213)).trans rfl) rfl (x_field rfl Try.underlying43 rfl Try.sizeOf41 rfl) ?_
    refine wv (.float .f64 a0.Lo) ((wanted_eq rfl rfl rfl (congrArg Value.bool hc213)).trans rfl) rfl (x_load rfl Try.isAgg41 (hst.bc1 rfl)) ?_
    refine wv (.pointer (some ⟨b206, 3, none⟩)) ((wanted_eq rfl rfl rfl (congrArg Value.bool hc213)).trans rfl) rfl (x_field rfl Try.underlying43 rfl Try.sizeOf41 rfl) ?_
    refine wv (.float .f64 a1.Lo) ((wanted_eq rfl rfl rfl (congrArg Value.bool hc213)).trans rfl) rfl (x_load rfl Try.isAgg41 (hst.bc0 rfl)) ?_
    obtain ⟨t214, ht215, hm⟩ := bind_some hm
    refine wl_call ((wanted_eq rfl rfl rfl (congrArg Value.bool hc213)).trans rfl) rfl (x_call Try.call62 rfl (vs := [.float .f64 a0.Lo, .float .f64 a1.Lo]) rfl) ?_
    refine (ref01_Same_ref hst.to0 ht215).mono ?_
    rintro _ w216 ⟨rfl, hst⟩
    refine ⟨_, rfl, ?_⟩
    replace hst := hst.of0
    refine wv (.bool t214) rfl rfl (x_pick_t hc213 rfl rfl) ?_
    refine wv (.bool t214) rfl rfl rfl ?_
    refine bsplit t214 (fun hc219 => ?_) (fun hc219 => ?_)
    ·skip
     replace hm := bif_t hc219 hm
     refine wv (.pointer (some ⟨b201, 4, none⟩)) ((wanted_eq rfl rfl rfl (congrArg Value.bool hc219)).trans rfl) rfl (x_field rfl Try.underlying43 rfl Try.sizeOf41 rfl) ?_
     refine wv (.float .f64 a0.Hi) ((wanted_eq rfl rfl rfl (congrArg Value.bool hc219)).trans rfl) rfl (x_load rfl Try.isAgg41 (hst.bc1 rfl)) ?_
     refine wv (.pointer (some ⟨b206, 4, none⟩)) ((wanted_eq rfl rfl rfl (congrArg Value.bool hc219)).trans rfl) rfl (x_field rfl Try.underlying43 rfl Try.sizeOf41 rfl) ?_
     refine wv (.float .f64 a1.Hi) ((wanted_eq rfl rfl rfl (congrArg Value.bool hc219)).trans rfl) rfl (x_load rfl Try.isAgg41 (hst.bc0 rfl)) ?_
     obtain ⟨t220, ht221, hm⟩ := bind_some hm
     refine wl_call ((wanted_eq rfl rfl rfl (congrArg Value.bool hc219)).trans rfl) rfl (x_call Try.call62 rfl (vs := [.float .f64 a0.Hi, .float .f64 a1.Hi]) rfl) ?_
     refine (ref01_Same_ref hst.to0 ht221).mono ?_
     rintro _ w222 ⟨rfl, hst⟩
     refine ⟨_, rfl, ?_⟩
     replace hst := hst.of0
     refine wv (.bool t220) rfl rfl (x_pick_t hc219 rfl rfl) ?_
     refine wv (.bool t220) rfl rfl rfl ?_
     refine bsplit t220 (fun hc225 => ?_) (fun hc225 => ?_)
     ·skip
      replace hm := bif_t hc225 hm
      refine wv (.pointer (some ⟨b201, 5, none⟩)) ((wanted_eq rfl rfl rfl (congrArg Value.bool hc225)).trans rfl) rfl (x_field rfl Try.underlying43 rfl Try.sizeOf27 rfl) ?_
      refine wv (.int .u64 a0.Authority) ((wanted_eq rfl rfl rfl (congrArg Value.bool hc225)).trans rfl) rfl (x_load rfl Try.isAgg27 (hst.bc1 rfl)) ?_
      refine wv (.pointer (some ⟨b206, 5, none⟩)) ((wanted_eq rfl rfl rfl (congrArg Value.bool hc225)).trans rfl) rfl (x_field rfl Try.underlying43 rfl Try.sizeOf27 rfl) ?_
      refine wv (.int .u64 a1.Authority) ((wanted_eq rfl rfl rfl (congrArg Value.bool hc225)).trans rfl) rfl (x_load rfl Try.isAgg27 (hst.bc0 rfl)) ?_
      refine wv (.bool (a0.Authority == a1.Authority)) ((wanted_eq rfl rfl rfl (congrArg Value.bool hc225)).trans rfl) rfl rfl ?_
      refine wv (.bool (a0.Authority == a1.Authority)) rfl rfl (x_pick_t hc225 rfl rfl) ?_
      refine wv (.bool (a0.Authority == a1.Authority)) rfl rfl rfl ?_
      refine bsplit (a0.Authority == a1.Authority) (fun hc226 => ?_) (fun hc226 => ?_)
      ·skip
       replace hm := bif_t hc226 hm
       refine wv (.pointer (some ⟨b201, 6, none⟩)) ((wanted_eq rfl rfl rfl (congrArg Value.bool hc226)).trans rfl) rfl (x_field rfl Try.underlying43 rfl Try.sizeOf3 rfl) ?_
       refine wv (.int .i64 a0.Quota) ((wanted_eq rfl rfl rfl (congrArg Value.bool hc226)).trans rfl) rfl (x_load rfl Try.isAgg3 (hst.bc1 rfl)) ?_
       refine wv (.pointer (some ⟨b206, 6, none⟩)) ((wanted_eq rfl rfl rfl (congrArg Value.bool hc226)).trans rfl) rfl (x_field rfl Try.underlying43 rfl Try.sizeOf3 rfl) ?_
       refine wv (.int .i64 a1.Quota) ((wanted_eq rfl rfl rfl (congrArg Value.bool hc226)).trans rfl) rfl (x_load rfl Try.isAgg3 (hst.bc0 rfl)) ?_
       refine wv (.bool (a0.Quota == a1.Quota)) ((wanted_eq rfl rfl rfl (congrArg Value.bool hc226)).trans rfl) rfl rfl ?_
       refine wv (.bool (a0.Quota == a1.Quota)) rfl rfl (x_pick_t hc226 rfl rfl) ?_
       refine wv (.bool (a0.Quota == a1.Quota)) rfl rfl rfl ?_
       refine wl_nil (then_n (wp_ret ?_))
       obtain rfl := some_inj hm
       refine post_ret (vs := [.bool (a0.Quota == a1.Quota)]) Try.results35 (rvs_cons (rv_tmp rfl) rvs_nil) ?_
       exact ⟨rfl, hst.keep0⟩
      ·skip
       replace hm := bif_f hc226 hm
       refine wo hc226 rfl rfl rfl rfl rfl rfl ?_
       refine wo hc226 rfl rfl rfl rfl rfl rfl ?_
       refine wo hc226 rfl rfl rfl rfl rfl rfl ?_
       refine wo hc226 rfl rfl rfl rfl rfl rfl ?_
       refine wo hc226 rfl rfl rfl rfl rfl rfl ?_
       refine wv (.bool false) rfl rfl (x_pick_f hc226 rfl rfl) ?_
       refine wv (.bool false) rfl rfl rfl ?_
       refine wl_nil (then_n (wp_ret ?_))
       obtain rfl := some_inj hm
       refine post_ret (vs := [.bool false]) Try.results35 (rvs_cons (rv_tmp rfl) rvs_nil) ?_
       exact ⟨rfl, hst.keep0⟩
     ·skip
      replace hm := bif_f hc225 hm
      refine wo hc225 rfl rfl rfl rfl rfl rfl ?_
      refine wo hc225 rfl rfl rfl rfl rfl rfl ?_
      refine wo hc225 rfl rfl rfl rfl rfl rfl ?_
      refine wo hc225 rfl rfl rfl rfl rfl rfl ?_
      refine wo hc225 rfl rfl rfl rfl rfl rfl ?_
      refine wv (.bool false) rfl rfl (x_pick_f hc225 rfl rfl) ?_
      refine wv (.bool false) rfl rfl rfl ?_
      refine wl_off ((wanted_eq rfl rfl rfl rfl).trans rfl) rfl ?_
      refine wl_off ((wanted_eq rfl rfl rfl rfl).trans rfl) rfl ?_
      refine wl_off ((wanted_eq rfl rfl rfl rfl).trans rfl) rfl ?_
      refine wl_off ((wanted_eq rfl rfl rfl rfl).trans rfl) rfl ?_
      refine wl_off ((wanted_eq rfl rfl rfl rfl).trans rfl) rfl ?_
      refine wv (.bool false) rfl rfl (x_pick_f rfl rfl rfl) ?_
      refine wv (.bool false) rfl rfl rfl ?_
      refine wl_nil (then_n (wp_ret ?_))
      obtain rfl := some_inj hm
      refine post_ret (vs := [.bool false]) Try.results35 (rvs_cons (rv_tmp rfl) rvs_nil) ?_
      exact ⟨rfl, hst.keep0⟩
    ·skip
     replace hm := bif_f hc219 hm
     refine wo hc219 rfl rfl rfl rfl rfl rfl ?_
     refine wo hc219 rfl rfl rfl rfl rfl rfl ?_
     refine wo hc219 rfl rfl rfl rfl rfl rfl ?_
     refine wo hc219 rfl rfl rfl rfl rfl rfl ?_
     refine wo hc219 rfl rfl rfl rfl rfl rfl ?_
     refine wv (.bool false) rfl rfl (x_pick_f hc219 rfl rfl) ?_
     refine wv (.bool false) rfl rfl rfl ?_
     refine wl_off ((wanted_eq rfl rfl rfl rfl).trans rfl) rfl ?_
     refine wl_off ((wanted_eq rfl rfl rfl rfl).trans rfl) rfl ?_
     refine wl_off ((wanted_eq rfl rfl rfl rfl).trans rfl) rfl ?_
     refine wl_off ((wanted_eq rfl rfl rfl rfl).trans rfl) rfl ?_
     refine wl_off ((wanted_eq rfl rfl rfl rfl).trans rfl) rfl ?_
     refine wv (.bool false) rfl rfl (x_pick_f rfl rfl rfl) ?_
     refine wv (.bool false) rfl rfl rfl ?_
     refine wl_off ((wanted_eq rfl rfl rfl rfl).trans rfl) rfl ?_
     refine wl_off ((wanted_eq rfl rfl rfl rfl).trans rfl) rfl ?_
     refine wl_off ((wanted_eq rfl rfl rfl rfl).trans rfl) rfl ?_
     refine wl_off ((wanted_eq rfl rfl rfl rfl).trans rfl) rfl ?_
     refine wl_off ((wanted_eq rfl rfl rfl rfl).trans rfl) rfl ?_
     refine wv (.bool false) rfl rfl (x_pick_f rfl rfl rfl) ?_
     refine wv (.bool false) rfl rfl rfl ?_
     refine wl_nil (then_n (wp_ret ?_))
     obtain rfl := some_inj hm
     refine post_ret (vs := [.bool false]) Try.results35 (rvs_cons (rv_tmp rfl) rvs_nil) ?_
     exact ⟨rfl, hst.keep0⟩
   ·skip
    replace hm := bif_f hc213 hm
    refine wo hc213 rfl rfl rfl rfl rfl rfl ?_
    refine wo hc213 rfl rfl rfl rfl rfl rfl ?_
    refine wo hc213 rfl rfl rfl rfl rfl rfl ?_
    refine wo hc213 rfl rfl rfl rfl rfl rfl ?_
    refine wo hc213 rfl rfl rfl rfl rfl rfl ?_
    refine wv (.bool false) rfl rfl (x_pick_f hc213 rfl rfl) ?_
    refine wv (.bool false) rfl rfl rfl ?_
    refine wl_off ((wanted_eq rfl rfl rfl rfl).trans rfl) rfl ?_
    refine wl_off ((wanted_eq rfl rfl rfl rfl).trans rfl) rfl ?_
    refine wl_off ((wanted_eq rfl rfl rfl rfl).trans rfl) rfl ?_
    refine wl_off ((wanted_eq rfl rfl rfl rfl).trans rfl) rfl ?_
    refine wl_off ((wanted_eq rfl rfl rfl rfl).trans rfl) rfl ?_
    refine wv (.bool false) rfl rfl (x_pick_f rfl rfl rfl) ?_
    refine wv (.bool false) rfl rfl rfl ?_
    refine wl_off ((wanted_eq rfl rfl rfl rfl).trans rfl) rfl ?_
    refine wl_off ((wanted_eq rfl rfl rfl rfl).trans rfl) rfl ?_
    refine wl_off ((wanted_eq rfl rfl rfl rfl).trans rfl) rfl ?_
    refine wl_off ((wanted_eq rfl rfl rfl rfl).trans rfl) rfl ?_
    refine wl_off ((wanted_eq rfl rfl rfl rfl).trans rfl) rfl ?_
    refine wv (.bool false) rfl rfl (x_pick_f rfl rfl rfl) ?_
    refine wv (.bool false) rfl rfl rfl ?_
    refine wl_off ((wanted_eq rfl rfl rfl rfl).trans rfl) rfl ?_
    refine wl_off ((wanted_eq rfl rfl rfl rfl).trans rfl) rfl ?_
    refine wl_off ((wanted_eq rfl rfl rfl rfl).trans rfl) rfl ?_
    refine wl_off ((wanted_eq rfl rfl rfl rfl).trans rfl) rfl ?_
    refine wl_off ((wanted_eq rfl rfl rfl rfl).trans rfl) rfl ?_
    refine wv (.bool false) rfl rfl (x_pick_f rfl rfl rfl) ?_
    refine wv (.bool false) rfl rfl rfl ?_
    refine wl_nil (then_n (wp_ret ?_))
    obtain rfl := some_inj hm
    refine post_ret (vs := [.bool false]) Try.results35 (rvs_cons (rv_tmp rfl) rvs_nil) ?_
    exact ⟨rfl, hst.keep0⟩
  ·skip
   replace hm := bif_f hc212 hm
   refine wo hc212 rfl rfl rfl rfl rfl rfl ?_
   refine wo hc212 rfl rfl rfl rfl rfl rfl ?_
   refine wo hc212 rfl rfl rfl rfl rfl rfl ?_
   refine wo hc212 rfl rfl rfl rfl rfl rfl ?_
   refine wo hc212 rfl rfl rfl rfl rfl rfl ?_
   refine wv (.bool false) rfl rfl (x_pick_f hc212 rfl rfl) ?_
   refine wv (.bool false) rfl rfl rfl ?_
   refine wl_off ((wanted_eq rfl rfl rfl rfl).trans rfl) rfl ?_
   refine wl_off ((wanted_eq rfl rfl rfl rfl).trans rfl) rfl ?_
   refine wl_off ((wanted_eq rfl rfl rfl rfl).trans rfl) rfl ?_
   refine wl_off ((wanted_eq rfl rfl rfl rfl).trans rfl) rfl ?_
   refine wl_off ((wanted_eq rfl rfl rfl rfl).trans rfl) rfl ?_
   refine wv (.bool false) rfl rfl (x_pick_f rfl rfl rfl) ?_
   refine wv (.bool false) rfl rfl rfl ?_
   refine wl_off ((wanted_eq rfl rfl rfl rfl).trans rfl) rfl ?_
   refine wl_off ((wanted_eq rfl rfl rfl rfl).trans rfl) rfl ?_
   refine wl_off ((wanted_eq rfl rfl rfl rfl).trans rfl) rfl ?_
   refine wl_off ((wanted_eq rfl rfl rfl rfl).trans rfl) rfl ?_
   refine wl_off ((wanted_eq rfl rfl rfl rfl).trans rfl) rfl ?_
   refine wv (.bool false) rfl rfl (x_pick_f rfl rfl rfl) ?_
   refine wv (.bool false) rfl rfl rfl ?_
   refine wl_off ((wanted_eq rfl rfl rfl rfl).trans rfl) rfl ?_
   refine wl_off ((wanted_eq rfl rfl rfl rfl).trans rfl) rfl ?_
   refine wl_off ((wanted_eq rfl rfl rfl rfl).trans rfl) rfl ?_
   refine wl_off ((wanted_eq rfl rfl rfl rfl).trans rfl) rfl ?_
   refine wl_off ((wanted_eq rfl rfl rfl rfl).trans rfl) rfl ?_
   refine wv (.bool false) rfl rfl (x_pick_f rfl rfl rfl) ?_
   refine wv (.bool false) rfl rfl rfl ?_
   refine wl_off ((wanted_eq rfl rfl rfl rfl).trans rfl) rfl ?_
   refine wl_off ((wanted_eq rfl rfl rfl rfl).trans rfl) rfl ?_
   refine wl_off ((wanted_eq rfl rfl rfl rfl).trans rfl) rfl ?_
   refine wl_off ((wanted_eq rfl rfl rfl rfl).trans rfl) rfl ?_
   refine wl_off ((wanted_eq rfl rfl rfl rfl).trans rfl) rfl ?_
   refine wv (.bool false) rfl rfl (x_pick_f rfl rfl rfl) ?_
   refine wv (.bool false) rfl rfl rfl ?_
   refine wl_nil (then_n (wp_ret ?_))
   obtain rfl := some_inj hm
   refine post_ret (vs := [.bool false]) Try.results35 (rvs_cons (rv_tmp rfl) rvs_nil) ?_
   exact ⟨rfl, hst.keep0⟩
 ·skip
  replace hm := bif_f hc211 hm
  refine wo hc211 rfl rfl rfl rfl rfl rfl ?_
  refine wo hc211 rfl rfl rfl rfl rfl rfl ?_
  refine wo hc211 rfl rfl rfl rfl rfl rfl ?_
  refine wo hc211 rfl rfl rfl rfl rfl rfl ?_
  refine wo hc211 rfl rfl rfl rfl rfl rfl ?_
  refine wv (.bool false) rfl rfl (x_pick_f hc211 rfl rfl) ?_
  refine wv (.bool false) rfl rfl rfl ?_
  refine wl_off ((wanted_eq rfl rfl rfl rfl).trans rfl) rfl ?_
  refine wl_off ((wanted_eq rfl rfl rfl rfl).trans rfl) rfl ?_
  refine wl_off ((wanted_eq rfl rfl rfl rfl).trans rfl) rfl ?_
  refine wl_off ((wanted_eq rfl rfl rfl rfl).trans rfl) rfl ?_
  refine wl_off ((wanted_eq rfl rfl rfl rfl).trans rfl) rfl ?_
  refine wv (.bool false) rfl rfl (x_pick_f rfl rfl rfl) ?_
  refine wv (.bool false) rfl rfl rfl ?_
  refine wl_off ((wanted_eq rfl rfl rfl rfl).trans rfl) rfl ?_
  refine wl_off ((wanted_eq rfl rfl rfl rfl).trans rfl) rfl ?_
  refine wl_off ((wanted_eq rfl rfl rfl rfl).trans rfl) rfl ?_
  refine wl_off ((wanted_eq rfl rfl rfl rfl).trans rfl) rfl ?_
  refine wl_off ((wanted_eq rfl rfl rfl rfl).trans rfl) rfl ?_
  refine wv (.bool false) rfl rfl (x_pick_f rfl rfl rfl) ?_
  refine wv (.bool false) rfl rfl rfl ?_
  refine wl_off ((wanted_eq rfl rfl rfl rfl).trans rfl) rfl ?_
  refine wl_off ((wanted_eq rfl rfl rfl rfl).trans rfl) rfl ?_
  refine wl_off ((wanted_eq rfl rfl rfl rfl).trans rfl) rfl ?_
  refine wl_off ((wanted_eq rfl rfl rfl rfl).trans rfl) rfl ?_
  refine wl_off ((wanted_eq rfl rfl rfl rfl).trans rfl) rfl ?_
  refine wv (.bool false) rfl rfl (x_pick_f rfl rfl rfl) ?_
  refine wv (.bool false) rfl rfl rfl ?_
  refine wl_off ((wanted_eq rfl rfl rfl rfl).trans rfl) rfl ?_
  refine wl_off ((wanted_eq rfl rfl rfl rfl).trans rfl) rfl ?_
  refine wl_off ((wanted_eq rfl rfl rfl rfl).trans rfl) rfl ?_
  refine wl_off ((wanted_eq rfl rfl rfl rfl).trans rfl) rfl ?_
  refine wl_off ((wanted_eq rfl rfl rfl rfl).trans rfl) rfl ?_
  refine wv (.bool false) rfl rfl (x_pick_f rfl rfl rfl) ?_
  refine wv (.bool false) rfl rfl rfl ?_
  refine wl_off ((wanted_eq rfl rfl rfl rfl).trans rfl) rfl ?_
  refine wl_off ((wanted_eq rfl rfl rfl rfl).trans rfl) rfl ?_
  refine wl_off ((wanted_eq rfl rfl rfl rfl).trans rfl) rfl ?_
  refine wl_off ((wanted_eq rfl rfl rfl rfl).trans rfl) rfl ?_
  refine wl_off ((wanted_eq rfl rfl rfl rfl).trans rfl) rfl ?_
  refine wv (.bool false) rfl rfl (x_pick_f rfl rfl rfl) ?_
  refine wv (.bool false) rfl rfl rfl ?_
  refine wl_nil (then_n (wp_ret ?_))
  obtain rfl := some_inj hm
  refine post_ret (vs := [.bool false]) Try.results35 (rvs_cons (rv_tmp rfl) rvs_nil) ?_
  exact ⟨rfl, hst.keep0⟩

theorem law13_same_ref {w0 w : World} {I : HL} {R : SP} {a0 : api_Command} {r0_0 : Value} {r0_1 : Value} {r0_2 : Value} {r0_3 : Value} {r0_4 : Value} {r0_5 : Value} {r0_6 : Value} {r0_7 : Value} {a1 : api_Command} {r1_0 : Value} {r1_1 : Value} {r1_2 : Value} {r1_3 : Value} {r1_4 : Value} {r1_5 : Value} {r1_6 : Value} {r1_7 : Value} (f0_0 : Rd tyF64 R I r0_0 a0.Hold.Gets) (f0_1 : Rd tyF2 R I r0_1 a0.Hold.Scans) (f0_2 : Rd tyF64 R I r0_2 a0.Hold.Puts) (f0_3 : Rd (tyInt .u8) R I r0_3 a0.Hold.Data) (f0_4 : Rd ty_api_Write R I r0_4 a0.Writes) (f0_5 : Rd ty_api_Got R I r0_5 a0.R.Gots) (f0_6 : Rd (tySl ty_api_Pair) R I r0_6 a0.R.Scans) (f0_7 : Rd ty_api_Part R I r0_7 a0.Parts) (f1_0 : Rd tyF64 R I r1_0 a1.Hold.Gets) (f1_1 : Rd tyF2 R I r1_1 a1.Hold.Scans) (f1_2 : Rd tyF64 R I r1_2 a1.Hold.Puts) (f1_3 : Rd (tyInt .u8) R I r1_3 a1.Hold.Data) (f1_4 : Rd ty_api_Write R I r1_4 a1.Writes) (f1_5 : Rd ty_api_Got R I r1_5 a1.R.Gots) (f1_6 : Rd (tySl ty_api_Pair) R I r1_6 a1.R.Scans) (f1_7 : Rd ty_api_Part R I r1_7 a1.Parts) (hst : St w0 w I [] R) {r : (Bool)} (hm : law13_same a0 a1 = some r) :
  Calls Try.prog 11 #[.agg #[.int .u8 a0.Kind, .int .u64 a0.ID.Session, .int .u64 a0.ID.Seq, .int .u64 a0.Epoch, .int .u64 a0.Index, .int .i64 a0.E, .int .u64 a0.Hold.ID.Session, .int .u64 a0.Hold.ID.Seq, .int .u64 a0.Hold.Epoch, r0_0, r0_1, r0_2, r0_3, r0_4, .int .i64 a0.R.E, .int .u64 a0.R.Epoch, .int .u64 a0.R.Index, r0_5, r0_6, .int .u64 a0.Shards, r0_7, .int .u64 a0.Rule.ID, .int .i64 a0.Rule.From, .int .i64 a0.Rule.To, .float .f64 a0.Rule.Lo, .float .f64 a0.Rule.Hi, .int .u64 a0.Rule.Authority, .int .i64 a0.Rule.Quota, .bool a0.On], .agg #[.int .u8 a1.Kind, .int .u64 a1.ID.Session, .int .u64 a1.ID.Seq, .int .u64 a1.Epoch, .int .u64 a1.Index, .int .i64 a1.E, .int .u64 a1.Hold.ID.Session, .int .u64 a1.Hold.ID.Seq, .int .u64 a1.Hold.Epoch, r1_0, r1_1, r1_2, r1_3, r1_4, .int .i64 a1.R.E, .int .u64 a1.R.Epoch, .int .u64 a1.R.Index, r1_5, r1_6, .int .u64 a1.Shards, r1_7, .int .u64 a1.Rule.ID, .int .i64 a1.Rule.From, .int .i64 a1.Rule.To, .float .f64 a1.Rule.Lo, .float .f64 a1.Rule.Hi, .int .u64 a1.Rule.Authority, .int .i64 a1.Rule.Quota, .bool a1.On]] w fun e w' => e = .returned (.bool r) ∧ St w0 w' I [] R := by
 unfold law13_same at hm
 refine calls_start (args := [.agg #[.int .u8 a0.Kind, .int .u64 a0.ID.Session, .int .u64 a0.ID.Seq, .int .u64 a0.Epoch, .int .u64 a0.Index, .int .i64 a0.E, .int .u64 a0.Hold.ID.Session, .int .u64 a0.Hold.ID.Seq, .int .u64 a0.Hold.Epoch, r0_0, r0_1, r0_2, r0_3, r0_4, .int .i64 a0.R.E, .int .u64 a0.R.Epoch, .int .u64 a0.R.Index, r0_5, r0_6, .int .u64 a0.Shards, r0_7, .int .u64 a0.Rule.ID, .int .i64 a0.Rule.From, .int .i64 a0.Rule.To, .float .f64 a0.Rule.Lo, .float .f64 a0.Rule.Hi, .int .u64 a0.Rule.Authority, .int .i64 a0.Rule.Quota, .bool a0.On], .agg #[.int .u8 a1.Kind, .int .u64 a1.ID.Session, .int .u64 a1.ID.Seq, .int .u64 a1.Epoch, .int .u64 a1.Index, .int .i64 a1.E, .int .u64 a1.Hold.ID.Session, .int .u64 a1.Hold.ID.Seq, .int .u64 a1.Hold.Epoch, r1_0, r1_1, r1_2, r1_3, r1_4, .int .i64 a1.R.E, .int .u64 a1.R.Epoch, .int .u64 a1.R.Index, r1_5, r1_6, .int .u64 a1.Shards, r1_7, .int .u64 a1.Rule.ID, .int .i64 a1.Rule.From, .int .i64 a1.Rule.To, .float .f64 a1.Rule.Lo, .float .f64 a1.Rule.Hi, .int .u64 a1.Rule.Authority, .int .i64 a1.Rule.Quota, .bool a1.On]]) Try.func11 rfl Try.ntmps11 (Nat.le_of_ble_eq_true rfl) ?_
 refine wp_seq (wp_region_lit ?_)
 obtain ⟨b298, w299, ew300, eb301, hst⟩ := hst.box [.int .u8 a0.Kind, .int .u64 a0.ID.Session, .int .u64 a0.ID.Seq, .int .u64 a0.Epoch, .int .u64 a0.Index, .int .i64 a0.E, .int .u64 a0.Hold.ID.Session, .int .u64 a0.Hold.ID.Seq, .int .u64 a0.Hold.Epoch, r0_0, r0_1, r0_2, r0_3, r0_4, .int .i64 a0.R.E, .int .u64 a0.R.Epoch, .int .u64 a0.R.Index, r0_5, r0_6, .int .u64 a0.Shards, r0_7, .int .u64 a0.Rule.ID, .int .i64 a0.Rule.From, .int .i64 a0.Rule.To, .float .f64 a0.Rule.Lo, .float .f64 a0.Rule.Hi, .int .u64 a0.Rule.Authority, .int .i64 a0.Rule.Quota, .bool a0.On] 45
 refine wl_run (v := .pointer (some ⟨b298, 0, none⟩)) (w' := w299) rfl rfl (x_al (by kernel_rfl) ew300 eb301) ?_
 obtain ⟨b303, w304, ew305, eb306, hst⟩ := hst.box [.int .u8 a1.Kind, .int .u64 a1.ID.Session, .int .u64 a1.ID.Seq, .int .u64 a1.Epoch, .int .u64 a1.Index, .int .i64 a1.E, .int .u64 a1.Hold.ID.Session, .int .u64 a1.Hold.ID.Seq, .int .u64 a1.Hold.Epoch, r1_0, r1_1, r1_2, r1_3, r1_4, .int .i64 a1.R.E, .int .u64 a1.R.Epoch, .int .u64 a1.R.Index, r1_5, r1_6, .int .u64 a1.Shards, r1_7, .int .u64 a1.Rule.ID, .int .i64 a1.Rule.From, .int .i64 a1.Rule.To, .float .f64 a1.Rule.Lo, .float .f64 a1.Rule.Hi, .int .u64 a1.Rule.Authority, .int .i64 a1.Rule.Quota, .bool a1.On] 45
 refine wl_run (v := .pointer (some ⟨b303, 0, none⟩)) (w' := w304) rfl rfl (x_al (by kernel_rfl) ew305 eb306) ?_
 refine wv (.bool false) rfl rfl rfl ?_
 refine wl_nil (then_n (wp_seq (wp_seq (wp_region_lit ?_))))
 refine wv (.pointer (some ⟨b298, 0, none⟩)) rfl rfl (x_field rfl Try.underlying45 rfl Try.sizeOf5 rfl) ?_
 refine wv (.int .u8 a0.Kind) rfl rfl (x_load rfl Try.isAgg5 (hst.bc1 rfl)) ?_
 refine wv (.pointer (some ⟨b303, 0, none⟩)) rfl rfl (x_field rfl Try.underlying45 rfl Try.sizeOf5 rfl) ?_
 refine wv (.int .u8 a1.Kind) rfl rfl (x_load rfl Try.isAgg5 (hst.bc0 rfl)) ?_
 refine wv (.bool (a0.Kind != a1.Kind)) rfl rfl rfl ?_
 refine wv (.bool (a0.Kind != a1.Kind)) rfl rfl rfl ?_
 refine bsplit (a0.Kind != a1.Kind) (fun hc308 => ?_) (fun hc308 => ?_)
 ·skip
  replace hm := bif_t hc308 hm
  refine wo hc308 rfl rfl rfl rfl rfl rfl ?_
  refine wo hc308 rfl rfl rfl rfl rfl rfl ?_
  refine wo hc308 rfl rfl rfl rfl rfl rfl ?_
  refine wo hc308 rfl rfl rfl rfl rfl rfl ?_
  refine wo hc308 rfl rfl rfl rfl rfl rfl ?_
  refine wv (.bool true) rfl rfl (x_pick_t hc308 rfl rfl) ?_
  refine wv (.bool true) rfl rfl rfl ?_
  refine wl_off ((wanted_eq rfl rfl rfl rfl).trans rfl) rfl ?_
  refine wl_off ((wanted_eq rfl rfl rfl rfl).trans rfl) rfl ?_
  refine wl_off ((wanted_eq rfl rfl rfl rfl).trans rfl) rfl ?_
  refine wl_off ((wanted_eq rfl rfl rfl rfl).trans rfl) rfl ?_
  refine wl_off ((wanted_eq rfl rfl rfl rfl).trans rfl) rfl ?_
  refine wv (.bool true) rfl rfl (x_pick_t rfl rfl rfl) ?_
  refine wv (.bool true) rfl rfl rfl ?_
  refine wl_off ((wanted_eq rfl rfl rfl rfl).trans rfl) rfl ?_
  refine wl_off ((wanted_eq rfl rfl rfl rfl).trans rfl) rfl ?_
  refine wl_off ((wanted_eq rfl rfl rfl rfl).trans rfl) rfl ?_
  refine wl_off ((wanted_eq rfl rfl rfl rfl).trans rfl) rfl ?_
  refine wl_off ((wanted_eq rfl rfl rfl rfl).trans rfl) rfl ?_
  refine wv (.bool true) rfl rfl (x_pick_t rfl rfl rfl) ?_
  refine wv (.bool true) rfl rfl rfl ?_
  refine wl_off ((wanted_eq rfl rfl rfl rfl).trans rfl) rfl ?_
  refine wl_off ((wanted_eq rfl rfl rfl rfl).trans rfl) rfl ?_
  refine wl_off ((wanted_eq rfl rfl rfl rfl).trans rfl) rfl ?_
  refine wl_off ((wanted_eq rfl rfl rfl rfl).trans rfl) rfl ?_
  refine wl_off ((wanted_eq rfl rfl rfl rfl).trans rfl) rfl ?_
  refine wv (.bool true) rfl rfl (x_pick_t rfl rfl rfl) ?_
  refine wv (.bool true) rfl rfl rfl ?_
  refine wl_off ((wanted_eq rfl rfl rfl rfl).trans rfl) rfl ?_
  refine wl_off ((wanted_eq rfl rfl rfl rfl).trans rfl) rfl ?_
  refine wl_off ((wanted_eq rfl rfl rfl rfl).trans rfl) rfl ?_
  refine wl_off ((wanted_eq rfl rfl rfl rfl).trans rfl) rfl ?_
  refine wl_off ((wanted_eq rfl rfl rfl rfl).trans rfl) rfl ?_
  refine wl_off ((wanted_eq rfl rfl rfl rfl).trans rfl) rfl ?_
  refine wv (.bool true) rfl rfl (x_pick_t rfl rfl rfl) ?_
  refine wv (.bool true) rfl rfl rfl ?_
  refine wl_off ((wanted_eq rfl rfl rfl rfl).trans rfl) rfl ?_
  refine wl_off ((wanted_eq rfl rfl rfl rfl).trans rfl) rfl ?_
  refine wl_off ((wanted_eq rfl rfl rfl rfl).trans rfl) rfl ?_
  refine wl_off ((wanted_eq rfl rfl rfl rfl).trans rfl) rfl ?_
  refine wl_off ((wanted_eq rfl rfl rfl rfl).trans rfl) rfl ?_
  refine wl_off ((wanted_eq rfl rfl rfl rfl).trans rfl) rfl ?_
  refine wv (.bool true) rfl rfl (x_pick_t rfl rfl rfl) ?_
  refine wv (.bool true) rfl rfl rfl ?_
  refine wl_off ((wanted_eq rfl rfl rfl rfl).trans rfl) rfl ?_
  refine wl_off ((wanted_eq rfl rfl rfl rfl).trans rfl) rfl ?_
  refine wl_off ((wanted_eq rfl rfl rfl rfl).trans rfl) rfl ?_
  refine wl_off ((wanted_eq rfl rfl rfl rfl).trans rfl) rfl ?_
  refine wl_off ((wanted_eq rfl rfl rfl rfl).trans rfl) rfl ?_
  refine wl_off ((wanted_eq rfl rfl rfl rfl).trans rfl) rfl ?_
  refine wv (.bool true) rfl rfl (x_pick_t rfl rfl rfl) ?_
  refine wv (.bool true) rfl rfl rfl ?_
  refine wl_off ((wanted_eq rfl rfl rfl rfl).trans rfl) rfl ?_
  refine wl_off ((wanted_eq rfl rfl rfl rfl).trans rfl) rfl ?_
  refine wl_off ((wanted_eq rfl rfl rfl rfl).trans rfl) rfl ?_
  refine wl_off ((wanted_eq rfl rfl rfl rfl).trans rfl) rfl ?_
  refine wl_off ((wanted_eq rfl rfl rfl rfl).trans rfl) rfl ?_
  refine wv (.bool true) rfl rfl (x_pick_t rfl rfl rfl) ?_
  refine wv (.bool true) rfl rfl rfl ?_
  refine wl_off ((wanted_eq rfl rfl rfl rfl).trans rfl) rfl ?_
  refine wl_off ((wanted_eq rfl rfl rfl rfl).trans rfl) rfl ?_
  refine wl_off ((wanted_eq rfl rfl rfl rfl).trans rfl) rfl ?_
  refine wl_off ((wanted_eq rfl rfl rfl rfl).trans rfl) rfl ?_
  refine wl_off ((wanted_eq rfl rfl rfl rfl).trans rfl) rfl ?_
  refine wl_off ((wanted_eq rfl rfl rfl rfl).trans rfl) rfl ?_
  refine wl_off ((wanted_eq rfl rfl rfl rfl).trans rfl) rfl ?_
  refine wv (.bool true) rfl rfl (x_pick_t rfl rfl rfl) ?_
  refine wv (.bool true) rfl rfl rfl ?_
  refine wl_off ((wanted_eq rfl rfl rfl rfl).trans rfl) rfl ?_
  refine wl_off ((wanted_eq rfl rfl rfl rfl).trans rfl) rfl ?_
  refine wl_off ((wanted_eq rfl rfl rfl rfl).trans rfl) rfl ?_
  refine wl_off ((wanted_eq rfl rfl rfl rfl).trans rfl) rfl ?_
  refine wl_off ((wanted_eq rfl rfl rfl rfl).trans rfl) rfl ?_
  refine wl_off ((wanted_eq rfl rfl rfl rfl).trans rfl) rfl ?_
  refine wv (.bool true) rfl rfl (x_pick_t rfl rfl rfl) ?_
  refine wv (.bool true) rfl rfl rfl ?_
  refine wl_off ((wanted_eq rfl rfl rfl rfl).trans rfl) rfl ?_
  refine wl_off ((wanted_eq rfl rfl rfl rfl).trans rfl) rfl ?_
  refine wl_off ((wanted_eq rfl rfl rfl rfl).trans rfl) rfl ?_
  refine wl_off ((wanted_eq rfl rfl rfl rfl).trans rfl) rfl ?_
  refine wl_off ((wanted_eq rfl rfl rfl rfl).trans rfl) rfl ?_
  refine wv (.bool true) rfl rfl (x_pick_t rfl rfl rfl) ?_
  refine wl_nil (then_n ?_)
  refine wp_ift rfl ?_
  refine wp_seq (wp_region_lit ?_)
  refine wv (.bool false) rfl rfl rfl ?_
  refine wl_nil (then_n (wp_ret (then_r ?_)))
  obtain rfl := some_inj hm
  refine post_ret (vs := [.bool false]) Try.results11 (rvs_cons (rv_tmp rfl) rvs_nil) ?_
  exact ⟨rfl, hst.keep0⟩
 ·skip
  replace hm := bif_f hc308 hm
  refine wv (.pointer (some ⟨b298, 1, none⟩)) ((wanted_eq rfl rfl rfl (congrArg Value.bool hc308)).trans rfl) rfl (x_field rfl Try.underlying45 rfl Try.sizeOf29 rfl) ?_
  refine wv (.agg #[.int .u64 a0.ID.Session, .int .u64 a0.ID.Seq]) ((wanted_eq rfl rfl rfl (congrArg Value.bool hc308)).trans rfl) rfl (x_loadN (cs := [.int .u64 a0.ID.Session, .int .u64 a0.ID.Seq]) rfl Try.isAgg29 Try.sizeOf29 (hst.bcs1 1 rfl)) ?_
  refine wv (.pointer (some ⟨b303, 1, none⟩)) ((wanted_eq rfl rfl rfl (congrArg Value.bool hc308)).trans rfl) rfl (x_field rfl Try.underlying45 rfl Try.sizeOf29 rfl) ?_
  refine wv (.agg #[.int .u64 a1.ID.Session, .int .u64 a1.ID.Seq]) ((wanted_eq rfl rfl rfl (congrArg Value.bool hc308)).trans rfl) rfl (x_loadN (cs := [.int .u64 a1.ID.Session, .int .u64 a1.ID.Seq]) rfl Try.isAgg29 Try.sizeOf29 (hst.bcs0 1 rfl)) ?_
  refine wv (.bool (!((a0.ID.Session == a1.ID.Session) && (a0.ID.Seq == a1.ID.Seq)))) ((wanted_eq rfl rfl rfl (congrArg Value.bool hc308)).trans rfl) rfl (x_aggne2 rfl rfl (by kernel_rfl) Try.underlying29 (by kernel_rfl) (by kernel_rfl) (by kernel_rfl) Try.underlying27 Try.underlying27 (fun _ _ _ => by kernel_rfl) (fun _ _ _ => by kernel_rfl)) ?_
  refine wv (.bool (!((a0.ID.Session == a1.ID.Session) && (a0.ID.Seq == a1.ID.Seq)))) rfl rfl (x_pick_f hc308 rfl rfl) ?_
  refine wv (.bool (!((a0.ID.Session == a1.ID.Session) && (a0.ID.Seq == a1.ID.Seq)))) rfl rfl rfl ?_
  refine bsplit (!((a0.ID.Session == a1.ID.Session) && (a0.ID.Seq == a1.ID.Seq))) (fun hc309 => ?_) (fun hc309 => ?_)
  ·skip
   replace hm := bif_t hc309 hm
   refine wo hc309 rfl rfl rfl rfl rfl rfl ?_
   refine wo hc309 rfl rfl rfl rfl rfl rfl ?_
   refine wo hc309 rfl rfl rfl rfl rfl rfl ?_
   refine wo hc309 rfl rfl rfl rfl rfl rfl ?_
   refine wo hc309 rfl rfl rfl rfl rfl rfl ?_
   refine wv (.bool true) rfl rfl (x_pick_t hc309 rfl rfl) ?_
   refine wv (.bool true) rfl rfl rfl ?_
   refine wl_off ((wanted_eq rfl rfl rfl rfl).trans rfl) rfl ?_
   refine wl_off ((wanted_eq rfl rfl rfl rfl).trans rfl) rfl ?_
   refine wl_off ((wanted_eq rfl rfl rfl rfl).trans rfl) rfl ?_
   refine wl_off ((wanted_eq rfl rfl rfl rfl).trans rfl) rfl ?_
   refine wl_off ((wanted_eq rfl rfl rfl rfl).trans rfl) rfl ?_
   refine wv (.bool true) rfl rfl (x_pick_t rfl rfl rfl) ?_
   refine wv (.bool true) rfl rfl rfl ?_
   refine wl_off ((wanted_eq rfl rfl rfl rfl).trans rfl) rfl ?_
   refine wl_off ((wanted_eq rfl rfl rfl rfl).trans rfl) rfl ?_
   refine wl_off ((wanted_eq rfl rfl rfl rfl).trans rfl) rfl ?_
   refine wl_off ((wanted_eq rfl rfl rfl rfl).trans rfl) rfl ?_
   refine wl_off ((wanted_eq rfl rfl rfl rfl).trans rfl) rfl ?_
   refine wv (.bool true) rfl rfl (x_pick_t rfl rfl rfl) ?_
   refine wv (.bool true) rfl rfl rfl ?_
   refine wl_off ((wanted_eq rfl rfl rfl rfl).trans rfl) rfl ?_
   refine wl_off ((wanted_eq rfl rfl rfl rfl).trans rfl) rfl ?_
   refine wl_off ((wanted_eq rfl rfl rfl rfl).trans rfl) rfl ?_
   refine wl_off ((wanted_eq rfl rfl rfl rfl).trans rfl) rfl ?_
   refine wl_off ((wanted_eq rfl rfl rfl rfl).trans rfl) rfl ?_
   refine wl_off ((wanted_eq rfl rfl rfl rfl).trans rfl) rfl ?_
   refine wv (.bool true) rfl rfl (x_pick_t rfl rfl rfl) ?_
   refine wv (.bool true) rfl rfl rfl ?_
   refine wl_off ((wanted_eq rfl rfl rfl rfl).trans rfl) rfl ?_
   refine wl_off ((wanted_eq rfl rfl rfl rfl).trans rfl) rfl ?_
   refine wl_off ((wanted_eq rfl rfl rfl rfl).trans rfl) rfl ?_
   refine wl_off ((wanted_eq rfl rfl rfl rfl).trans rfl) rfl ?_
   refine wl_off ((wanted_eq rfl rfl rfl rfl).trans rfl) rfl ?_
   refine wl_off ((wanted_eq rfl rfl rfl rfl).trans rfl) rfl ?_
   refine wv (.bool true) rfl rfl (x_pick_t rfl rfl rfl) ?_
   refine wv (.bool true) rfl rfl rfl ?_
   refine wl_off ((wanted_eq rfl rfl rfl rfl).trans rfl) rfl ?_
   refine wl_off ((wanted_eq rfl rfl rfl rfl).trans rfl) rfl ?_
   refine wl_off ((wanted_eq rfl rfl rfl rfl).trans rfl) rfl ?_
   refine wl_off ((wanted_eq rfl rfl rfl rfl).trans rfl) rfl ?_
   refine wl_off ((wanted_eq rfl rfl rfl rfl).trans rfl) rfl ?_
   refine wl_off ((wanted_eq rfl rfl rfl rfl).trans rfl) rfl ?_
   refine wv (.bool true) rfl rfl (x_pick_t rfl rfl rfl) ?_
   refine wv (.bool true) rfl rfl rfl ?_
   refine wl_off ((wanted_eq rfl rfl rfl rfl).trans rfl) rfl ?_
   refine wl_off ((wanted_eq rfl rfl rfl rfl).trans rfl) rfl ?_
   refine wl_off ((wanted_eq rfl rfl rfl rfl).trans rfl) rfl ?_
   refine wl_off ((wanted_eq rfl rfl rfl rfl).trans rfl) rfl ?_
   refine wl_off ((wanted_eq rfl rfl rfl rfl).trans rfl) rfl ?_
   refine wv (.bool true) rfl rfl (x_pick_t rfl rfl rfl) ?_
   refine wv (.bool true) rfl rfl rfl ?_
   refine wl_off ((wanted_eq rfl rfl rfl rfl).trans rfl) rfl ?_
   refine wl_off ((wanted_eq rfl rfl rfl rfl).trans rfl) rfl ?_
   refine wl_off ((wanted_eq rfl rfl rfl rfl).trans rfl) rfl ?_
   refine wl_off ((wanted_eq rfl rfl rfl rfl).trans rfl) rfl ?_
   refine wl_off ((wanted_eq rfl rfl rfl rfl).trans rfl) rfl ?_
   refine wl_off ((wanted_eq rfl rfl rfl rfl).trans rfl) rfl ?_
   refine wl_off ((wanted_eq rfl rfl rfl rfl).trans rfl) rfl ?_
   refine wv (.bool true) rfl rfl (x_pick_t rfl rfl rfl) ?_
   refine wv (.bool true) rfl rfl rfl ?_
   refine wl_off ((wanted_eq rfl rfl rfl rfl).trans rfl) rfl ?_
   refine wl_off ((wanted_eq rfl rfl rfl rfl).trans rfl) rfl ?_
   refine wl_off ((wanted_eq rfl rfl rfl rfl).trans rfl) rfl ?_
   refine wl_off ((wanted_eq rfl rfl rfl rfl).trans rfl) rfl ?_
   refine wl_off ((wanted_eq rfl rfl rfl rfl).trans rfl) rfl ?_
   refine wl_off ((wanted_eq rfl rfl rfl rfl).trans rfl) rfl ?_
   refine wv (.bool true) rfl rfl (x_pick_t rfl rfl rfl) ?_
   refine wv (.bool true) rfl rfl rfl ?_
   refine wl_off ((wanted_eq rfl rfl rfl rfl).trans rfl) rfl ?_
   refine wl_off ((wanted_eq rfl rfl rfl rfl).trans rfl) rfl ?_
   refine wl_off ((wanted_eq rfl rfl rfl rfl).trans rfl) rfl ?_
   refine wl_off ((wanted_eq rfl rfl rfl rfl).trans rfl) rfl ?_
   refine wl_off ((wanted_eq rfl rfl rfl rfl).trans rfl) rfl ?_
   refine wv (.bool true) rfl rfl (x_pick_t rfl rfl rfl) ?_
   refine wl_nil (then_n ?_)
   refine wp_ift rfl ?_
   refine wp_seq (wp_region_lit ?_)
   refine wv (.bool false) rfl rfl rfl ?_
   refine wl_nil (then_n (wp_ret (then_r ?_)))
   obtain rfl := some_inj hm
   refine post_ret (vs := [.bool false]) Try.results11 (rvs_cons (rv_tmp rfl) rvs_nil) ?_
   exact ⟨rfl, hst.keep0⟩
  ·skip
   replace hm := bif_f hc309 hm
   refine wv (.pointer (some ⟨b298, 3, none⟩)) ((wanted_eq rfl rfl rfl (congrArg Value.bool hc309)).trans rfl) rfl (x_field rfl Try.underlying45 rfl Try.sizeOf27 rfl) ?_
   refine wv (.int .u64 a0.Epoch) ((wanted_eq rfl rfl rfl (congrArg Value.bool hc309)).trans rfl) rfl (x_load rfl Try.isAgg27 (hst.bc1 rfl)) ?_
   refine wv (.pointer (some ⟨b303, 3, none⟩)) ((wanted_eq rfl rfl rfl (congrArg Value.bool hc309)).trans rfl) rfl (x_field rfl Try.underlying45 rfl Try.sizeOf27 rfl) ?_
   refine wv (.int .u64 a1.Epoch) ((wanted_eq rfl rfl rfl (congrArg Value.bool hc309)).trans rfl) rfl (x_load rfl Try.isAgg27 (hst.bc0 rfl)) ?_
   refine wv (.bool (a0.Epoch != a1.Epoch)) ((wanted_eq rfl rfl rfl (congrArg Value.bool hc309)).trans rfl) rfl rfl ?_
   refine wv (.bool (a0.Epoch != a1.Epoch)) rfl rfl (x_pick_f hc309 rfl rfl) ?_
   refine wv (.bool (a0.Epoch != a1.Epoch)) rfl rfl rfl ?_
   refine bsplit (a0.Epoch != a1.Epoch) (fun hc310 => ?_) (fun hc310 => ?_)
   ·skip
    replace hm := bif_t hc310 hm
    refine wo hc310 rfl rfl rfl rfl rfl rfl ?_
    refine wo hc310 rfl rfl rfl rfl rfl rfl ?_
    refine wo hc310 rfl rfl rfl rfl rfl rfl ?_
    refine wo hc310 rfl rfl rfl rfl rfl rfl ?_
    refine wo hc310 rfl rfl rfl rfl rfl rfl ?_
    refine wv (.bool true) rfl rfl (x_pick_t hc310 rfl rfl) ?_
    refine wv (.bool true) rfl rfl rfl ?_
    refine wl_off ((wanted_eq rfl rfl rfl rfl).trans rfl) rfl ?_
    refine wl_off ((wanted_eq rfl rfl rfl rfl).trans rfl) rfl ?_
    refine wl_off ((wanted_eq rfl rfl rfl rfl).trans rfl) rfl ?_
    refine wl_off ((wanted_eq rfl rfl rfl rfl).trans rfl) rfl ?_
    refine wl_off ((wanted_eq rfl rfl rfl rfl).trans rfl) rfl ?_
    refine wv (.bool true) rfl rfl (x_pick_t rfl rfl rfl) ?_
    refine wv (.bool true) rfl rfl rfl ?_
    refine wl_off ((wanted_eq rfl rfl rfl rfl).trans rfl) rfl ?_
    refine wl_off ((wanted_eq rfl rfl rfl rfl).trans rfl) rfl ?_
    refine wl_off ((wanted_eq rfl rfl rfl rfl).trans rfl) rfl ?_
    refine wl_off ((wanted_eq rfl rfl rfl rfl).trans rfl) rfl ?_
    refine wl_off ((wanted_eq rfl rfl rfl rfl).trans rfl) rfl ?_
    refine wl_off ((wanted_eq rfl rfl rfl rfl).trans rfl) rfl ?_
    refine wv (.bool true) rfl rfl (x_pick_t rfl rfl rfl) ?_
    refine wv (.bool true) rfl rfl rfl ?_
    refine wl_off ((wanted_eq rfl rfl rfl rfl).trans rfl) rfl ?_
    refine wl_off ((wanted_eq rfl rfl rfl rfl).trans rfl) rfl ?_
    refine wl_off ((wanted_eq rfl rfl rfl rfl).trans rfl) rfl ?_
    refine wl_off ((wanted_eq rfl rfl rfl rfl).trans rfl) rfl ?_
    refine wl_off ((wanted_eq rfl rfl rfl rfl).trans rfl) rfl ?_
    refine wl_off ((wanted_eq rfl rfl rfl rfl).trans rfl) rfl ?_
    refine wv (.bool true) rfl rfl (x_pick_t rfl rfl rfl) ?_
    refine wv (.bool true) rfl rfl rfl ?_
    refine wl_off ((wanted_eq rfl rfl rfl rfl).trans rfl) rfl ?_
    refine wl_off ((wanted_eq rfl rfl rfl rfl).trans rfl) rfl ?_
    refine wl_off ((wanted_eq rfl rfl rfl rfl).trans rfl) rfl ?_
    refine wl_off ((wanted_eq rfl rfl rfl rfl).trans rfl) rfl ?_
    refine wl_off ((wanted_eq rfl rfl rfl rfl).trans rfl) rfl ?_
    refine wl_off ((wanted_eq rfl rfl rfl rfl).trans rfl) rfl ?_
    refine wv (.bool true) rfl rfl (x_pick_t rfl rfl rfl) ?_
    refine wv (.bool true) rfl rfl rfl ?_
    refine wl_off ((wanted_eq rfl rfl rfl rfl).trans rfl) rfl ?_
    refine wl_off ((wanted_eq rfl rfl rfl rfl).trans rfl) rfl ?_
    refine wl_off ((wanted_eq rfl rfl rfl rfl).trans rfl) rfl ?_
    refine wl_off ((wanted_eq rfl rfl rfl rfl).trans rfl) rfl ?_
    refine wl_off ((wanted_eq rfl rfl rfl rfl).trans rfl) rfl ?_
    refine wv (.bool true) rfl rfl (x_pick_t rfl rfl rfl) ?_
    refine wv (.bool true) rfl rfl rfl ?_
    refine wl_off ((wanted_eq rfl rfl rfl rfl).trans rfl) rfl ?_
    refine wl_off ((wanted_eq rfl rfl rfl rfl).trans rfl) rfl ?_
    refine wl_off ((wanted_eq rfl rfl rfl rfl).trans rfl) rfl ?_
    refine wl_off ((wanted_eq rfl rfl rfl rfl).trans rfl) rfl ?_
    refine wl_off ((wanted_eq rfl rfl rfl rfl).trans rfl) rfl ?_
    refine wl_off ((wanted_eq rfl rfl rfl rfl).trans rfl) rfl ?_
    refine wl_off ((wanted_eq rfl rfl rfl rfl).trans rfl) rfl ?_
    refine wv (.bool true) rfl rfl (x_pick_t rfl rfl rfl) ?_
    refine wv (.bool true) rfl rfl rfl ?_
    refine wl_off ((wanted_eq rfl rfl rfl rfl).trans rfl) rfl ?_
    refine wl_off ((wanted_eq rfl rfl rfl rfl).trans rfl) rfl ?_
    refine wl_off ((wanted_eq rfl rfl rfl rfl).trans rfl) rfl ?_
    refine wl_off ((wanted_eq rfl rfl rfl rfl).trans rfl) rfl ?_
    refine wl_off ((wanted_eq rfl rfl rfl rfl).trans rfl) rfl ?_
    refine wl_off ((wanted_eq rfl rfl rfl rfl).trans rfl) rfl ?_
    refine wv (.bool true) rfl rfl (x_pick_t rfl rfl rfl) ?_
    refine wv (.bool true) rfl rfl rfl ?_
    refine wl_off ((wanted_eq rfl rfl rfl rfl).trans rfl) rfl ?_
    refine wl_off ((wanted_eq rfl rfl rfl rfl).trans rfl) rfl ?_
    refine wl_off ((wanted_eq rfl rfl rfl rfl).trans rfl) rfl ?_
    refine wl_off ((wanted_eq rfl rfl rfl rfl).trans rfl) rfl ?_
    refine wl_off ((wanted_eq rfl rfl rfl rfl).trans rfl) rfl ?_
    refine wv (.bool true) rfl rfl (x_pick_t rfl rfl rfl) ?_
    refine wl_nil (then_n ?_)
    refine wp_ift rfl ?_
    refine wp_seq (wp_region_lit ?_)
    refine wv (.bool false) rfl rfl rfl ?_
    refine wl_nil (then_n (wp_ret (then_r ?_)))
    obtain rfl := some_inj hm
    refine post_ret (vs := [.bool false]) Try.results11 (rvs_cons (rv_tmp rfl) rvs_nil) ?_
    exact ⟨rfl, hst.keep0⟩
   ·skip
    replace hm := bif_f hc310 hm
    refine wv (.pointer (some ⟨b298, 4, none⟩)) ((wanted_eq rfl rfl rfl (congrArg Value.bool hc310)).trans rfl) rfl (x_field rfl Try.underlying45 rfl Try.sizeOf27 rfl) ?_
    refine wv (.int .u64 a0.Index) ((wanted_eq rfl rfl rfl (congrArg Value.bool hc310)).trans rfl) rfl (x_load rfl Try.isAgg27 (hst.bc1 rfl)) ?_
    refine wv (.pointer (some ⟨b303, 4, none⟩)) ((wanted_eq rfl rfl rfl (congrArg Value.bool hc310)).trans rfl) rfl (x_field rfl Try.underlying45 rfl Try.sizeOf27 rfl) ?_
    refine wv (.int .u64 a1.Index) ((wanted_eq rfl rfl rfl (congrArg Value.bool hc310)).trans rfl) rfl (x_load rfl Try.isAgg27 (hst.bc0 rfl)) ?_
    refine wv (.bool (a0.Index != a1.Index)) ((wanted_eq rfl rfl rfl (congrArg Value.bool hc310)).trans rfl) rfl rfl ?_
    refine wv (.bool (a0.Index != a1.Index)) rfl rfl (x_pick_f hc310 rfl rfl) ?_
    refine wv (.bool (a0.Index != a1.Index)) rfl rfl rfl ?_
    refine bsplit (a0.Index != a1.Index) (fun hc311 => ?_) (fun hc311 => ?_)
    ·skip
     replace hm := bif_t hc311 hm
     refine wo hc311 rfl rfl rfl rfl rfl rfl ?_
     refine wo hc311 rfl rfl rfl rfl rfl rfl ?_
     refine wo hc311 rfl rfl rfl rfl rfl rfl ?_
     refine wo hc311 rfl rfl rfl rfl rfl rfl ?_
     refine wo hc311 rfl rfl rfl rfl rfl rfl ?_
     refine wv (.bool true) rfl rfl (x_pick_t hc311 rfl rfl) ?_
     refine wv (.bool true) rfl rfl rfl ?_
     refine wl_off ((wanted_eq rfl rfl rfl rfl).trans rfl) rfl ?_
     refine wl_off ((wanted_eq rfl rfl rfl rfl).trans rfl) rfl ?_
     refine wl_off ((wanted_eq rfl rfl rfl rfl).trans rfl) rfl ?_
     refine wl_off ((wanted_eq rfl rfl rfl rfl).trans rfl) rfl ?_
     refine wl_off ((wanted_eq rfl rfl rfl rfl).trans rfl) rfl ?_
     refine wl_off ((wanted_eq rfl rfl rfl rfl).trans rfl) rfl ?_
     refine wv (.bool true) rfl rfl (x_pick_t rfl rfl rfl) ?_
     refine wv (.bool true) rfl rfl rfl ?_
     refine wl_off ((wanted_eq rfl rfl rfl rfl).trans rfl) rfl ?_
     refine wl_off ((wanted_eq rfl rfl rfl rfl).trans rfl) rfl ?_
     refine wl_off ((wanted_eq rfl rfl rfl rfl).trans rfl) rfl ?_
     refine wl_off ((wanted_eq rfl rfl rfl rfl).trans rfl) rfl ?_
     refine wl_off ((wanted_eq rfl rfl rfl rfl).trans rfl) rfl ?_
     refine wl_off ((wanted_eq rfl rfl rfl rfl).trans rfl) rfl ?_
     refine wv (.bool true) rfl rfl (x_pick_t rfl rfl rfl) ?_
     refine wv (.bool true) rfl rfl rfl ?_
     refine wl_off ((wanted_eq rfl rfl rfl rfl).trans rfl) rfl ?_
     refine wl_off ((wanted_eq rfl rfl rfl rfl).trans rfl) rfl ?_
     refine wl_off ((wanted_eq rfl rfl rfl rfl).trans rfl) rfl ?_
     refine wl_off ((wanted_eq rfl rfl rfl rfl).trans rfl) rfl ?_
     refine wl_off ((wanted_eq rfl rfl rfl rfl).trans rfl) rfl ?_
     refine wl_off ((wanted_eq rfl rfl rfl rfl).trans rfl) rfl ?_
     refine wv (.bool true) rfl rfl (x_pick_t rfl rfl rfl) ?_
     refine wv (.bool true) rfl rfl rfl ?_
     refine wl_off ((wanted_eq rfl rfl rfl rfl).trans rfl) rfl ?_
     refine wl_off ((wanted_eq rfl rfl rfl rfl).trans rfl) rfl ?_
     refine wl_off ((wanted_eq rfl rfl rfl rfl).trans rfl) rfl ?_
     refine wl_off ((wanted_eq rfl rfl rfl rfl).trans rfl) rfl ?_
     refine wl_off ((wanted_eq rfl rfl rfl rfl).trans rfl) rfl ?_
     refine wv (.bool true) rfl rfl (x_pick_t rfl rfl rfl) ?_
     refine wv (.bool true) rfl rfl rfl ?_
     refine wl_off ((wanted_eq rfl rfl rfl rfl).trans rfl) rfl ?_
     refine wl_off ((wanted_eq rfl rfl rfl rfl).trans rfl) rfl ?_
     refine wl_off ((wanted_eq rfl rfl rfl rfl).trans rfl) rfl ?_
     refine wl_off ((wanted_eq rfl rfl rfl rfl).trans rfl) rfl ?_
     refine wl_off ((wanted_eq rfl rfl rfl rfl).trans rfl) rfl ?_
     refine wl_off ((wanted_eq rfl rfl rfl rfl).trans rfl) rfl ?_
     refine wl_off ((wanted_eq rfl rfl rfl rfl).trans rfl) rfl ?_
     refine wv (.bool true) rfl rfl (x_pick_t rfl rfl rfl) ?_
     refine wv (.bool true) rfl rfl rfl ?_
     refine wl_off ((wanted_eq rfl rfl rfl rfl).trans rfl) rfl ?_
     refine wl_off ((wanted_eq rfl rfl rfl rfl).trans rfl) rfl ?_
     refine wl_off ((wanted_eq rfl rfl rfl rfl).trans rfl) rfl ?_
     refine wl_off ((wanted_eq rfl rfl rfl rfl).trans rfl) rfl ?_
     refine wl_off ((wanted_eq rfl rfl rfl rfl).trans rfl) rfl ?_
     refine wl_off ((wanted_eq rfl rfl rfl rfl).trans rfl) rfl ?_
     refine wv (.bool true) rfl rfl (x_pick_t rfl rfl rfl) ?_
     refine wv (.bool true) rfl rfl rfl ?_
     refine wl_off ((wanted_eq rfl rfl rfl rfl).trans rfl) rfl ?_
     refine wl_off ((wanted_eq rfl rfl rfl rfl).trans rfl) rfl ?_
     refine wl_off ((wanted_eq rfl rfl rfl rfl).trans rfl) rfl ?_
     refine wl_off ((wanted_eq rfl rfl rfl rfl).trans rfl) rfl ?_
     refine wl_off ((wanted_eq rfl rfl rfl rfl).trans rfl) rfl ?_
     refine wv (.bool true) rfl rfl (x_pick_t rfl rfl rfl) ?_
     refine wl_nil (then_n ?_)
     refine wp_ift rfl ?_
     refine wp_seq (wp_region_lit ?_)
     refine wv (.bool false) rfl rfl rfl ?_
     refine wl_nil (then_n (wp_ret (then_r ?_)))
     obtain rfl := some_inj hm
     refine post_ret (vs := [.bool false]) Try.results11 (rvs_cons (rv_tmp rfl) rvs_nil) ?_
     exact ⟨rfl, hst.keep0⟩
    ·skip
     replace hm := bif_f hc311 hm
     refine wv (.pointer (some ⟨b298, 5, none⟩)) ((wanted_eq rfl rfl rfl (congrArg Value.bool hc311)).trans rfl) rfl (x_field rfl Try.underlying45 rfl Try.sizeOf30 rfl) ?_
     refine wv (.int .i64 a0.E) ((wanted_eq rfl rfl rfl (congrArg Value.bool hc311)).trans rfl) rfl (x_load rfl Try.isAgg30 (hst.bc1 rfl)) ?_
     refine wv (.pointer (some ⟨b303, 5, none⟩)) ((wanted_eq rfl rfl rfl (congrArg Value.bool hc311)).trans rfl) rfl (x_field rfl Try.underlying45 rfl Try.sizeOf30 rfl) ?_
     refine wv (.int .i64 a1.E) ((wanted_eq rfl rfl rfl (congrArg Value.bool hc311)).trans rfl) rfl (x_load rfl Try.isAgg30 (hst.bc0 rfl)) ?_
     refine wv (.bool (a0.E != a1.E)) ((wanted_eq rfl rfl rfl (congrArg Value.bool hc311)).trans rfl) rfl rfl ?_
     refine wv (.bool (a0.E != a1.E)) rfl rfl (x_pick_f hc311 rfl rfl) ?_
     refine wv (.bool (a0.E != a1.E)) rfl rfl rfl ?_
     refine bsplit (a0.E != a1.E) (fun hc312 => ?_) (fun hc312 => ?_)
     ·skip
      replace hm := bif_t hc312 hm
      refine wo hc312 rfl rfl rfl rfl rfl rfl ?_
      refine wo hc312 rfl rfl rfl rfl rfl rfl ?_
      refine wo hc312 rfl rfl rfl rfl rfl rfl ?_
      refine wo hc312 rfl rfl rfl rfl rfl rfl ?_
      refine wo hc312 rfl rfl rfl rfl rfl rfl ?_
      refine wo hc312 rfl rfl rfl rfl rfl rfl ?_
      refine wv (.bool true) rfl rfl (x_pick_t hc312 rfl rfl) ?_
      refine wv (.bool true) rfl rfl rfl ?_
      refine wl_off ((wanted_eq rfl rfl rfl rfl).trans rfl) rfl ?_
      refine wl_off ((wanted_eq rfl rfl rfl rfl).trans rfl) rfl ?_
      refine wl_off ((wanted_eq rfl rfl rfl rfl).trans rfl) rfl ?_
      refine wl_off ((wanted_eq rfl rfl rfl rfl).trans rfl) rfl ?_
      refine wl_off ((wanted_eq rfl rfl rfl rfl).trans rfl) rfl ?_
      refine wl_off ((wanted_eq rfl rfl rfl rfl).trans rfl) rfl ?_
      refine wv (.bool true) rfl rfl (x_pick_t rfl rfl rfl) ?_
      refine wv (.bool true) rfl rfl rfl ?_
      refine wl_off ((wanted_eq rfl rfl rfl rfl).trans rfl) rfl ?_
      refine wl_off ((wanted_eq rfl rfl rfl rfl).trans rfl) rfl ?_
      refine wl_off ((wanted_eq rfl rfl rfl rfl).trans rfl) rfl ?_
      refine wl_off ((wanted_eq rfl rfl rfl rfl).trans rfl) rfl ?_
      refine wl_off ((wanted_eq rfl rfl rfl rfl).trans rfl) rfl ?_
      refine wl_off ((wanted_eq rfl rfl rfl rfl).trans rfl) rfl ?_
      refine wv (.bool true) rfl rfl (x_pick_t rfl rfl rfl) ?_
      refine wv (.bool true) rfl rfl rfl ?_
      refine wl_off ((wanted_eq rfl rfl rfl rfl).trans rfl) rfl ?_
      refine wl_off ((wanted_eq rfl rfl rfl rfl).trans rfl) rfl ?_
      refine wl_off ((wanted_eq rfl rfl rfl rfl).trans rfl) rfl ?_
      refine wl_off ((wanted_eq rfl rfl rfl rfl).trans rfl) rfl ?_
      refine wl_off ((wanted_eq rfl rfl rfl rfl).trans rfl) rfl ?_
      refine wv (.bool true) rfl rfl (x_pick_t rfl rfl rfl) ?_
      refine wv (.bool true) rfl rfl rfl ?_
      refine wl_off ((wanted_eq rfl rfl rfl rfl).trans rfl) rfl ?_
      refine wl_off ((wanted_eq rfl rfl rfl rfl).trans rfl) rfl ?_
      refine wl_off ((wanted_eq rfl rfl rfl rfl).trans rfl) rfl ?_
      refine wl_off ((wanted_eq rfl rfl rfl rfl).trans rfl) rfl ?_
      refine wl_off ((wanted_eq rfl rfl rfl rfl).trans rfl) rfl ?_
      refine wl_off ((wanted_eq rfl rfl rfl rfl).trans rfl) rfl ?_
      refine wl_off ((wanted_eq rfl rfl rfl rfl).trans rfl) rfl ?_
      refine wv (.bool true) rfl rfl (x_pick_t rfl rfl rfl) ?_
      refine wv (.bool true) rfl rfl rfl ?_
      refine wl_off ((wanted_eq rfl rfl rfl rfl).trans rfl) rfl ?_
      refine wl_off ((wanted_eq rfl rfl rfl rfl).trans rfl) rfl ?_
      refine wl_off ((wanted_eq rfl rfl rfl rfl).trans rfl) rfl ?_
      refine wl_off ((wanted_eq rfl rfl rfl rfl).trans rfl) rfl ?_
      refine wl_off ((wanted_eq rfl rfl rfl rfl).trans rfl) rfl ?_
      refine wl_off ((wanted_eq rfl rfl rfl rfl).trans rfl) rfl ?_
      refine wv (.bool true) rfl rfl (x_pick_t rfl rfl rfl) ?_
      refine wv (.bool true) rfl rfl rfl ?_
      refine wl_off ((wanted_eq rfl rfl rfl rfl).trans rfl) rfl ?_
      refine wl_off ((wanted_eq rfl rfl rfl rfl).trans rfl) rfl ?_
      refine wl_off ((wanted_eq rfl rfl rfl rfl).trans rfl) rfl ?_
      refine wl_off ((wanted_eq rfl rfl rfl rfl).trans rfl) rfl ?_
      refine wl_off ((wanted_eq rfl rfl rfl rfl).trans rfl) rfl ?_
      refine wv (.bool true) rfl rfl (x_pick_t rfl rfl rfl) ?_
      refine wl_nil (then_n ?_)
      refine wp_ift rfl ?_
      refine wp_seq (wp_region_lit ?_)
      refine wv (.bool false) rfl rfl rfl ?_
      refine wl_nil (then_n (wp_ret (then_r ?_)))
      obtain rfl := some_inj hm
      refine post_ret (vs := [.bool false]) Try.results11 (rvs_cons (rv_tmp rfl) rvs_nil) ?_
      exact ⟨rfl, hst.keep0⟩
     ·skip
      replace hm := bif_f hc312 hm
      refine wv (.pointer (some ⟨b298, 6, none⟩)) ((wanted_eq rfl rfl rfl (congrArg Value.bool hc312)).trans rfl) rfl (x_field rfl Try.underlying45 rfl Try.sizeOf34 rfl) ?_
      refine wv (.agg #[.int .u64 a0.Hold.ID.Session, .int .u64 a0.Hold.ID.Seq, .int .u64 a0.Hold.Epoch, r0_0, r0_1, r0_2, r0_3]) ((wanted_eq rfl rfl rfl (congrArg Value.bool hc312)).trans rfl) rfl (x_loadN (cs := [.int .u64 a0.Hold.ID.Session, .int .u64 a0.Hold.ID.Seq, .int .u64 a0.Hold.Epoch, r0_0, r0_1, r0_2, r0_3]) rfl Try.isAgg34 Try.sizeOf34 (hst.bcs1 6 rfl)) ?_
      refine wv (.pointer (some ⟨b303, 6, none⟩)) ((wanted_eq rfl rfl rfl (congrArg Value.bool hc312)).trans rfl) rfl (x_field rfl Try.underlying45 rfl Try.sizeOf34 rfl) ?_
      refine wv (.agg #[.int .u64 a1.Hold.ID.Session, .int .u64 a1.Hold.ID.Seq, .int .u64 a1.Hold.Epoch, r1_0, r1_1, r1_2, r1_3]) ((wanted_eq rfl rfl rfl (congrArg Value.bool hc312)).trans rfl) rfl (x_loadN (cs := [.int .u64 a1.Hold.ID.Session, .int .u64 a1.Hold.ID.Seq, .int .u64 a1.Hold.Epoch, r1_0, r1_1, r1_2, r1_3]) rfl Try.isAgg34 Try.sizeOf34 (hst.bcs0 6 rfl)) ?_
      obtain ⟨t313, ht314, hm⟩ := bind_some hm
      refine wl_call ((wanted_eq rfl rfl rfl (congrArg Value.bool hc312)).trans rfl) rfl (x_call Try.call33 rfl (vs := [.agg #[.int .u64 a0.Hold.ID.Session, .int .u64 a0.Hold.ID.Seq, .int .u64 a0.Hold.Epoch, r0_0, r0_1, r0_2, r0_3], .agg #[.int .u64 a1.Hold.ID.Session, .int .u64 a1.Hold.ID.Seq, .int .u64 a1.Hold.Epoch, r1_0, r1_1, r1_2, r1_3]]) rfl) ?_
      refine (ref11_SameHold_ref (f0_0.mono (rd_weak _)) (f0_1.mono (rd_weak _)) (f0_2.mono (rd_weak _)) (f0_3.mono (rd_weak _)) (f1_0.mono (rd_weak _)) (f1_1.mono (rd_weak _)) (f1_2.mono (rd_weak _)) (f1_3.mono (rd_weak _)) hst.to0 ht314).mono ?_
      rintro _ w315 ⟨rfl, hst⟩
      refine ⟨_, rfl, ?_⟩
      replace hst := hst.of0
      refine wv (.bool (!t313)) ((wanted_eq rfl rfl rfl (congrArg Value.bool hc312)).trans rfl) rfl rfl ?_
      refine wv (.bool (!t313)) rfl rfl (x_pick_f hc312 rfl rfl) ?_
      refine wv (.bool (!t313)) rfl rfl rfl ?_
      refine bsplit (!t313) (fun hc318 => ?_) (fun hc318 => ?_)
      ·skip
       replace hm := bif_t hc318 hm
       refine wo hc318 rfl rfl rfl rfl rfl rfl ?_
       refine wo hc318 rfl rfl rfl rfl rfl rfl ?_
       refine wo hc318 rfl rfl rfl rfl rfl rfl ?_
       refine wo hc318 rfl rfl rfl rfl rfl rfl ?_
       refine wo hc318 rfl rfl rfl rfl rfl rfl ?_
       refine wo hc318 rfl rfl rfl rfl rfl rfl ?_
       refine wv (.bool true) rfl rfl (x_pick_t hc318 rfl rfl) ?_
       refine wv (.bool true) rfl rfl rfl ?_
       refine wl_off ((wanted_eq rfl rfl rfl rfl).trans rfl) rfl ?_
       refine wl_off ((wanted_eq rfl rfl rfl rfl).trans rfl) rfl ?_
       refine wl_off ((wanted_eq rfl rfl rfl rfl).trans rfl) rfl ?_
       refine wl_off ((wanted_eq rfl rfl rfl rfl).trans rfl) rfl ?_
       refine wl_off ((wanted_eq rfl rfl rfl rfl).trans rfl) rfl ?_
       refine wl_off ((wanted_eq rfl rfl rfl rfl).trans rfl) rfl ?_
       refine wv (.bool true) rfl rfl (x_pick_t rfl rfl rfl) ?_
       refine wv (.bool true) rfl rfl rfl ?_
       refine wl_off ((wanted_eq rfl rfl rfl rfl).trans rfl) rfl ?_
       refine wl_off ((wanted_eq rfl rfl rfl rfl).trans rfl) rfl ?_
       refine wl_off ((wanted_eq rfl rfl rfl rfl).trans rfl) rfl ?_
       refine wl_off ((wanted_eq rfl rfl rfl rfl).trans rfl) rfl ?_
       refine wl_off ((wanted_eq rfl rfl rfl rfl).trans rfl) rfl ?_
       refine wv (.bool true) rfl rfl (x_pick_t rfl rfl rfl) ?_
       refine wv (.bool true) rfl rfl rfl ?_
       refine wl_off ((wanted_eq rfl rfl rfl rfl).trans rfl) rfl ?_
       refine wl_off ((wanted_eq rfl rfl rfl rfl).trans rfl) rfl ?_
       refine wl_off ((wanted_eq rfl rfl rfl rfl).trans rfl) rfl ?_
       refine wl_off ((wanted_eq rfl rfl rfl rfl).trans rfl) rfl ?_
       refine wl_off ((wanted_eq rfl rfl rfl rfl).trans rfl) rfl ?_
       refine wl_off ((wanted_eq rfl rfl rfl rfl).trans rfl) rfl ?_
       refine wl_off ((wanted_eq rfl rfl rfl rfl).trans rfl) rfl ?_
       refine wv (.bool true) rfl rfl (x_pick_t rfl rfl rfl) ?_
       refine wv (.bool true) rfl rfl rfl ?_
       refine wl_off ((wanted_eq rfl rfl rfl rfl).trans rfl) rfl ?_
       refine wl_off ((wanted_eq rfl rfl rfl rfl).trans rfl) rfl ?_
       refine wl_off ((wanted_eq rfl rfl rfl rfl).trans rfl) rfl ?_
       refine wl_off ((wanted_eq rfl rfl rfl rfl).trans rfl) rfl ?_
       refine wl_off ((wanted_eq rfl rfl rfl rfl).trans rfl) rfl ?_
       refine wl_off ((wanted_eq rfl rfl rfl rfl).trans rfl) rfl ?_
       refine wv (.bool true) rfl rfl (x_pick_t rfl rfl rfl) ?_
       refine wv (.bool true) rfl rfl rfl ?_
       refine wl_off ((wanted_eq rfl rfl rfl rfl).trans rfl) rfl ?_
       refine wl_off ((wanted_eq rfl rfl rfl rfl).trans rfl) rfl ?_
       refine wl_off ((wanted_eq rfl rfl rfl rfl).trans rfl) rfl ?_
       refine wl_off ((wanted_eq rfl rfl rfl rfl).trans rfl) rfl ?_
       refine wl_off ((wanted_eq rfl rfl rfl rfl).trans rfl) rfl ?_
       refine wv (.bool true) rfl rfl (x_pick_t rfl rfl rfl) ?_
       refine wl_nil (then_n ?_)
       refine wp_ift rfl ?_
       refine wp_seq (wp_region_lit ?_)
       refine wv (.bool false) rfl rfl rfl ?_
       refine wl_nil (then_n (wp_ret (then_r ?_)))
       obtain rfl := some_inj hm
       refine post_ret (vs := [.bool false]) Try.results11 (rvs_cons (rv_tmp rfl) rvs_nil) ?_
       exact ⟨rfl, hst.keep0⟩
      ·skip
       replace hm := bif_f hc318 hm
       refine wv (.pointer (some ⟨b298, 13, none⟩)) ((wanted_eq rfl rfl rfl (congrArg Value.bool hc318)).trans rfl) rfl (x_field rfl Try.underlying45 rfl Try.sizeOf35 rfl) ?_
       refine wv (r0_4) ((wanted_eq rfl rfl rfl (congrArg Value.bool hc318)).trans rfl) rfl (x_load rfl Try.isAgg35 (hst.bc1 rfl)) ?_
       refine wv (.pointer (some ⟨b303, 13, none⟩)) ((wanted_eq rfl rfl rfl (congrArg Value.bool hc318)).trans rfl) rfl (x_field rfl Try.underlying45 rfl Try.sizeOf35 rfl) ?_
       refine wv (r1_4) ((wanted_eq rfl rfl rfl (congrArg Value.bool hc318)).trans rfl) rfl (x_load rfl Try.isAgg35 (hst.bc0 rfl)) ?_
       obtain ⟨t319, ht320, hm⟩ := bind_some hm
       refine wl_call ((wanted_eq rfl rfl rfl (congrArg Value.bool hc318)).trans rfl) rfl (x_call Try.call34 rfl (vs := [r0_4, r1_4]) rfl) ?_
       refine (ref13_SameWrites_ref (f0_4.mono (rd_weak _)) (f1_4.mono (rd_weak _)) hst.to0 ht320).mono ?_
       rintro _ w321 ⟨rfl, hst⟩
       refine ⟨_, rfl, ?_⟩
       replace hst := hst.of0
       refine wv (.bool (!t319)) ((wanted_eq rfl rfl rfl (congrArg Value.bool hc318)).trans rfl) rfl rfl ?_
       refine wv (.bool (!t319)) rfl rfl (x_pick_f hc318 rfl rfl) ?_
       refine wv (.bool (!t319)) rfl rfl rfl ?_
       refine bsplit (!t319) (fun hc324 => ?_) (fun hc324 => ?_)
       ·skip
        replace hm := bif_t hc324 hm
        refine wo hc324 rfl rfl rfl rfl rfl rfl ?_
        refine wo hc324 rfl rfl rfl rfl rfl rfl ?_
        refine wo hc324 rfl rfl rfl rfl rfl rfl ?_
        refine wo hc324 rfl rfl rfl rfl rfl rfl ?_
        refine wo hc324 rfl rfl rfl rfl rfl rfl ?_
        refine wo hc324 rfl rfl rfl rfl rfl rfl ?_
        refine wv (.bool true) rfl rfl (x_pick_t hc324 rfl rfl) ?_
        refine wv (.bool true) rfl rfl rfl ?_
        refine wl_off ((wanted_eq rfl rfl rfl rfl).trans rfl) rfl ?_
        refine wl_off ((wanted_eq rfl rfl rfl rfl).trans rfl) rfl ?_
        refine wl_off ((wanted_eq rfl rfl rfl rfl).trans rfl) rfl ?_
        refine wl_off ((wanted_eq rfl rfl rfl rfl).trans rfl) rfl ?_
        refine wl_off ((wanted_eq rfl rfl rfl rfl).trans rfl) rfl ?_
        refine wv (.bool true) rfl rfl (x_pick_t rfl rfl rfl) ?_
        refine wv (.bool true) rfl rfl rfl ?_
        refine wl_off ((wanted_eq rfl rfl rfl rfl).trans rfl) rfl ?_
        refine wl_off ((wanted_eq rfl rfl rfl rfl).trans rfl) rfl ?_
        refine wl_off ((wanted_eq rfl rfl rfl rfl).trans rfl) rfl ?_
        refine wl_off ((wanted_eq rfl rfl rfl rfl).trans rfl) rfl ?_
        refine wl_off ((wanted_eq rfl rfl rfl rfl).trans rfl) rfl ?_
        refine wl_off ((wanted_eq rfl rfl rfl rfl).trans rfl) rfl ?_
        refine wl_off ((wanted_eq rfl rfl rfl rfl).trans rfl) rfl ?_
        refine wv (.bool true) rfl rfl (x_pick_t rfl rfl rfl) ?_
        refine wv (.bool true) rfl rfl rfl ?_
        refine wl_off ((wanted_eq rfl rfl rfl rfl).trans rfl) rfl ?_
        refine wl_off ((wanted_eq rfl rfl rfl rfl).trans rfl) rfl ?_
        refine wl_off ((wanted_eq rfl rfl rfl rfl).trans rfl) rfl ?_
        refine wl_off ((wanted_eq rfl rfl rfl rfl).trans rfl) rfl ?_
        refine wl_off ((wanted_eq rfl rfl rfl rfl).trans rfl) rfl ?_
        refine wl_off ((wanted_eq rfl rfl rfl rfl).trans rfl) rfl ?_
        refine wv (.bool true) rfl rfl (x_pick_t rfl rfl rfl) ?_
        refine wv (.bool true) rfl rfl rfl ?_
        refine wl_off ((wanted_eq rfl rfl rfl rfl).trans rfl) rfl ?_
        refine wl_off ((wanted_eq rfl rfl rfl rfl).trans rfl) rfl ?_
        refine wl_off ((wanted_eq rfl rfl rfl rfl).trans rfl) rfl ?_
        refine wl_off ((wanted_eq rfl rfl rfl rfl).trans rfl) rfl ?_
        refine wl_off ((wanted_eq rfl rfl rfl rfl).trans rfl) rfl ?_
        refine wv (.bool true) rfl rfl (x_pick_t rfl rfl rfl) ?_
        refine wl_nil (then_n ?_)
        refine wp_ift rfl ?_
        refine wp_seq (wp_region_lit ?_)
        refine wv (.bool false) rfl rfl rfl ?_
        refine wl_nil (then_n (wp_ret (then_r ?_)))
        obtain rfl := some_inj hm
        refine post_ret (vs := [.bool false]) Try.results11 (rvs_cons (rv_tmp rfl) rvs_nil) ?_
        exact ⟨rfl, hst.keep0⟩
       ·skip
        replace hm := bif_f hc324 hm
        refine wv (.pointer (some ⟨b298, 14, none⟩)) ((wanted_eq rfl rfl rfl (congrArg Value.bool hc324)).trans rfl) rfl (x_field rfl Try.underlying45 rfl Try.sizeOf39 rfl) ?_
        refine wv (.agg #[.int .i64 a0.R.E, .int .u64 a0.R.Epoch, .int .u64 a0.R.Index, r0_5, r0_6]) ((wanted_eq rfl rfl rfl (congrArg Value.bool hc324)).trans rfl) rfl (x_loadN (cs := [.int .i64 a0.R.E, .int .u64 a0.R.Epoch, .int .u64 a0.R.Index, r0_5, r0_6]) rfl Try.isAgg39 Try.sizeOf39 (hst.bcs1 14 rfl)) ?_
        refine wv (.pointer (some ⟨b303, 14, none⟩)) ((wanted_eq rfl rfl rfl (congrArg Value.bool hc324)).trans rfl) rfl (x_field rfl Try.underlying45 rfl Try.sizeOf39 rfl) ?_
        refine wv (.agg #[.int .i64 a1.R.E, .int .u64 a1.R.Epoch, .int .u64 a1.R.Index, r1_5, r1_6]) ((wanted_eq rfl rfl rfl (congrArg Value.bool hc324)).trans rfl) rfl (x_loadN (cs := [.int .i64 a1.R.E, .int .u64 a1.R.Epoch, .int .u64 a1.R.Index, r1_5, r1_6]) rfl Try.isAgg39 Try.sizeOf39 (hst.bcs0 14 rfl)) ?_
        obtain ⟨t325, ht326, hm⟩ := bind_some hm
        refine wl_call ((wanted_eq rfl rfl rfl (congrArg Value.bool hc324)).trans rfl) rfl (x_call Try.call19 rfl (vs := [.agg #[.int .i64 a0.R.E, .int .u64 a0.R.Epoch, .int .u64 a0.R.Index, r0_5, r0_6], .agg #[.int .i64 a1.R.E, .int .u64 a1.R.Epoch, .int .u64 a1.R.Index, r1_5, r1_6]]) rfl) ?_
        refine (ref11_SameReply_ref (f0_5.mono (rd_weak _)) (f0_6.mono (rd_weak _)) (f1_5.mono (rd_weak _)) (f1_6.mono (rd_weak _)) hst.to0 ht326).mono ?_
        rintro _ w327 ⟨rfl, hst⟩
        refine ⟨_, rfl, ?_⟩
        replace hst := hst.of0
        refine wv (.bool (!t325)) ((wanted_eq rfl rfl rfl (congrArg Value.bool hc324)).trans rfl) rfl rfl ?_
        refine wv (.bool (!t325)) rfl rfl (x_pick_f hc324 rfl rfl) ?_
        refine wv (.bool (!t325)) rfl rfl rfl ?_
        refine bsplit (!t325) (fun hc330 => ?_) (fun hc330 => ?_)
        ·skip
         replace hm := bif_t hc330 hm
         refine wo hc330 rfl rfl rfl rfl rfl rfl ?_
         refine wo hc330 rfl rfl rfl rfl rfl rfl ?_
         refine wo hc330 rfl rfl rfl rfl rfl rfl ?_
         refine wo hc330 rfl rfl rfl rfl rfl rfl ?_
         refine wo hc330 rfl rfl rfl rfl rfl rfl ?_
         refine wv (.bool true) rfl rfl (x_pick_t hc330 rfl rfl) ?_
         refine wv (.bool true) rfl rfl rfl ?_
         refine wl_off ((wanted_eq rfl rfl rfl rfl).trans rfl) rfl ?_
         refine wl_off ((wanted_eq rfl rfl rfl rfl).trans rfl) rfl ?_
         refine wl_off ((wanted_eq rfl rfl rfl rfl).trans rfl) rfl ?_
         refine wl_off ((wanted_eq rfl rfl rfl rfl).trans rfl) rfl ?_
         refine wl_off ((wanted_eq rfl rfl rfl rfl).trans rfl) rfl ?_
         refine wl_off ((wanted_eq rfl rfl rfl rfl).trans rfl) rfl ?_
         refine wl_off ((wanted_eq rfl rfl rfl rfl).trans rfl) rfl ?_
         refine wv (.bool true) rfl rfl (x_pick_t rfl rfl rfl) ?_
         refine wv (.bool true) rfl rfl rfl ?_
         refine wl_off ((wanted_eq rfl rfl rfl rfl).trans rfl) rfl ?_
         refine wl_off ((wanted_eq rfl rfl rfl rfl).trans rfl) rfl ?_
         refine wl_off ((wanted_eq rfl rfl rfl rfl).trans rfl) rfl ?_
         refine wl_off ((wanted_eq rfl rfl rfl rfl).trans rfl) rfl ?_
         refine wl_off ((wanted_eq rfl rfl rfl rfl).trans rfl) rfl ?_
         refine wl_off ((wanted_eq rfl rfl rfl rfl).trans rfl) rfl ?_
         refine wv (.bool true) rfl rfl (x_pick_t rfl rfl rfl) ?_
         refine wv (.bool true) rfl rfl rfl ?_
         refine wl_off ((wanted_eq rfl rfl rfl rfl).trans rfl) rfl ?_
         refine wl_off ((wanted_eq rfl rfl rfl rfl).trans rfl) rfl ?_
         refine wl_off ((wanted_eq rfl rfl rfl rfl).trans rfl) rfl ?_
         refine wl_off ((wanted_eq rfl rfl rfl rfl).trans rfl) rfl ?_
         refine wl_off ((wanted_eq rfl rfl rfl rfl).trans rfl) rfl ?_
         refine wv (.bool true) rfl rfl (x_pick_t rfl rfl rfl) ?_
         refine wl_nil (then_n ?_)
         refine wp_ift rfl ?_
         refine wp_seq (wp_region_lit ?_)
         refine wv (.bool false) rfl rfl rfl ?_
         refine wl_nil (then_n (wp_ret (then_r ?_)))
         obtain rfl := some_inj hm
         refine post_ret (vs := [.bool false]) Try.results11 (rvs_cons (rv_tmp rfl) rvs_nil) ?_
         exact ⟨rfl, hst.keep0⟩
        ·skip
         replace hm := bif_f hc330 hm
         refine wv (.pointer (some ⟨b298, 19, none⟩)) ((wanted_eq rfl rfl rfl (congrArg Value.bool hc330)).trans rfl) rfl (x_field rfl Try.underlying45 rfl Try.sizeOf27 rfl) ?_
         refine wv (.int .u64 a0.Shards) ((wanted_eq rfl rfl rfl (congrArg Value.bool hc330)).trans rfl) rfl (x_load rfl Try.isAgg27 (hst.bc1 rfl)) ?_
         refine wv (.pointer (some ⟨b303, 19, none⟩)) ((wanted_eq rfl rfl rfl (congrArg Value.bool hc330)).trans rfl) rfl (x_field rfl Try.underlying45 rfl Try.sizeOf27 rfl) ?_
         refine wv (.int .u64 a1.Shards) ((wanted_eq rfl rfl rfl (congrArg Value.bool hc330)).trans rfl) rfl (x_load rfl Try.isAgg27 (hst.bc0 rfl)) ?_
         refine wv (.bool (a0.Shards != a1.Shards)) ((wanted_eq rfl rfl rfl (congrArg Value.bool hc330)).trans rfl) rfl rfl ?_
         refine wv (.bool (a0.Shards != a1.Shards)) rfl rfl (x_pick_f hc330 rfl rfl) ?_
         refine wv (.bool (a0.Shards != a1.Shards)) rfl rfl rfl ?_
         refine bsplit (a0.Shards != a1.Shards) (fun hc331 => ?_) (fun hc331 => ?_)
         ·skip
          replace hm := bif_t hc331 hm
          refine wo hc331 rfl rfl rfl rfl rfl rfl ?_
          refine wo hc331 rfl rfl rfl rfl rfl rfl ?_
          refine wo hc331 rfl rfl rfl rfl rfl rfl ?_
          refine wo hc331 rfl rfl rfl rfl rfl rfl ?_
          refine wo hc331 rfl rfl rfl rfl rfl rfl ?_
          refine wo hc331 rfl rfl rfl rfl rfl rfl ?_
          refine wo hc331 rfl rfl rfl rfl rfl rfl ?_
          refine wv (.bool true) rfl rfl (x_pick_t hc331 rfl rfl) ?_
          refine wv (.bool true) rfl rfl rfl ?_
          refine wl_off ((wanted_eq rfl rfl rfl rfl).trans rfl) rfl ?_
          refine wl_off ((wanted_eq rfl rfl rfl rfl).trans rfl) rfl ?_
          refine wl_off ((wanted_eq rfl rfl rfl rfl).trans rfl) rfl ?_
          refine wl_off ((wanted_eq rfl rfl rfl rfl).trans rfl) rfl ?_
          refine wl_off ((wanted_eq rfl rfl rfl rfl).trans rfl) rfl ?_
          refine wl_off ((wanted_eq rfl rfl rfl rfl).trans rfl) rfl ?_
          refine wv (.bool true) rfl rfl (x_pick_t rfl rfl rfl) ?_
          refine wv (.bool true) rfl rfl rfl ?_
          refine wl_off ((wanted_eq rfl rfl rfl rfl).trans rfl) rfl ?_
          refine wl_off ((wanted_eq rfl rfl rfl rfl).trans rfl) rfl ?_
          refine wl_off ((wanted_eq rfl rfl rfl rfl).trans rfl) rfl ?_
          refine wl_off ((wanted_eq rfl rfl rfl rfl).trans rfl) rfl ?_
          refine wl_off ((wanted_eq rfl rfl rfl rfl).trans rfl) rfl ?_
          refine wv (.bool true) rfl rfl (x_pick_t rfl rfl rfl) ?_
          refine wl_nil (then_n ?_)
          refine wp_ift rfl ?_
          refine wp_seq (wp_region_lit ?_)
          refine wv (.bool false) rfl rfl rfl ?_
          refine wl_nil (then_n (wp_ret (then_r ?_)))
          obtain rfl := some_inj hm
          refine post_ret (vs := [.bool false]) Try.results11 (rvs_cons (rv_tmp rfl) rvs_nil) ?_
          exact ⟨rfl, hst.keep0⟩
         ·skip
          replace hm := bif_f hc331 hm
          refine wv (.pointer (some ⟨b298, 20, none⟩)) ((wanted_eq rfl rfl rfl (congrArg Value.bool hc331)).trans rfl) rfl (x_field rfl Try.underlying45 rfl Try.sizeOf40 rfl) ?_
          refine wv (r0_7) ((wanted_eq rfl rfl rfl (congrArg Value.bool hc331)).trans rfl) rfl (x_load rfl Try.isAgg40 (hst.bc1 rfl)) ?_
          refine wv (.int .i64 ((a0.Parts).length : Int)) ((wanted_eq rfl rfl rfl (congrArg Value.bool hc331)).trans rfl) rfl (x_len rfl Try.underlying40 (rd_sliceV f0_7)) ?_
          refine wv (.pointer (some ⟨b303, 20, none⟩)) ((wanted_eq rfl rfl rfl (congrArg Value.bool hc331)).trans rfl) rfl (x_field rfl Try.underlying45 rfl Try.sizeOf40 rfl) ?_
          refine wv (r1_7) ((wanted_eq rfl rfl rfl (congrArg Value.bool hc331)).trans rfl) rfl (x_load rfl Try.isAgg40 (hst.bc0 rfl)) ?_
          refine wv (.int .i64 ((a1.Parts).length : Int)) ((wanted_eq rfl rfl rfl (congrArg Value.bool hc331)).trans rfl) rfl (x_len rfl Try.underlying40 (rd_sliceV f1_7)) ?_
          refine wv (.bool (((a0.Parts).length : Int) != ((a1.Parts).length : Int))) ((wanted_eq rfl rfl rfl (congrArg Value.bool hc331)).trans rfl) rfl rfl ?_
          refine wv (.bool (((a0.Parts).length : Int) != ((a1.Parts).length : Int))) rfl rfl (x_pick_f hc331 rfl rfl) ?_
          refine wv (.bool (((a0.Parts).length : Int) != ((a1.Parts).length : Int))) rfl rfl rfl ?_
          refine bsplit (((a0.Parts).length : Int) != ((a1.Parts).length : Int)) (fun hc332 => ?_) (fun hc332 => ?_)
          ·skip
           replace hm := bif_t hc332 hm
           refine wo hc332 rfl rfl rfl rfl rfl rfl ?_
           refine wo hc332 rfl rfl rfl rfl rfl rfl ?_
           refine wo hc332 rfl rfl rfl rfl rfl rfl ?_
           refine wo hc332 rfl rfl rfl rfl rfl rfl ?_
           refine wo hc332 rfl rfl rfl rfl rfl rfl ?_
           refine wo hc332 rfl rfl rfl rfl rfl rfl ?_
           refine wv (.bool true) rfl rfl (x_pick_t hc332 rfl rfl) ?_
           refine wv (.bool true) rfl rfl rfl ?_
           refine wl_off ((wanted_eq rfl rfl rfl rfl).trans rfl) rfl ?_
           refine wl_off ((wanted_eq rfl rfl rfl rfl).trans rfl) rfl ?_
           refine wl_off ((wanted_eq rfl rfl rfl rfl).trans rfl) rfl ?_
           refine wl_off ((wanted_eq rfl rfl rfl rfl).trans rfl) rfl ?_
           refine wl_off ((wanted_eq rfl rfl rfl rfl).trans rfl) rfl ?_
           refine wv (.bool true) rfl rfl (x_pick_t rfl rfl rfl) ?_
           refine wl_nil (then_n ?_)
           refine wp_ift rfl ?_
           refine wp_seq (wp_region_lit ?_)
           refine wv (.bool false) rfl rfl rfl ?_
           refine wl_nil (then_n (wp_ret (then_r ?_)))
           obtain rfl := some_inj hm
           refine post_ret (vs := [.bool false]) Try.results11 (rvs_cons (rv_tmp rfl) rvs_nil) ?_
           exact ⟨rfl, hst.keep0⟩
          ·skip
           replace hm := bif_f hc332 hm
           refine wv (.pointer (some ⟨b298, 21, none⟩)) ((wanted_eq rfl rfl rfl (congrArg Value.bool hc332)).trans rfl) rfl (x_field rfl Try.underlying45 rfl Try.sizeOf43 rfl) ?_
           refine wv (.agg #[.int .u64 a0.Rule.ID, .int .i64 a0.Rule.From, .int .i64 a0.Rule.To, .float .f64 a0.Rule.Lo, .float .f64 a0.Rule.Hi, .int .u64 a0.Rule.Authority, .int .i64 a0.Rule.Quota]) ((wanted_eq rfl rfl rfl (congrArg Value.bool hc332)).trans rfl) rfl (x_loadN (cs := [.int .u64 a0.Rule.ID, .int .i64 a0.Rule.From, .int .i64 a0.Rule.To, .float .f64 a0.Rule.Lo, .float .f64 a0.Rule.Hi, .int .u64 a0.Rule.Authority, .int .i64 a0.Rule.Quota]) rfl Try.isAgg43 Try.sizeOf43 (hst.bcs1 21 rfl)) ?_
           refine wv (.pointer (some ⟨b303, 21, none⟩)) ((wanted_eq rfl rfl rfl (congrArg Value.bool hc332)).trans rfl) rfl (x_field rfl Try.underlying45 rfl Try.sizeOf43 rfl) ?_
           refine wv (.agg #[.int .u64 a1.Rule.ID, .int .i64 a1.Rule.From, .int .i64 a1.Rule.To, .float .f64 a1.Rule.Lo, .float .f64 a1.Rule.Hi, .int .u64 a1.Rule.Authority, .int .i64 a1.Rule.Quota]) ((wanted_eq rfl rfl rfl (congrArg Value.bool hc332)).trans rfl) rfl (x_loadN (cs := [.int .u64 a1.Rule.ID, .int .i64 a1.Rule.From, .int .i64 a1.Rule.To, .float .f64 a1.Rule.Lo, .float .f64 a1.Rule.Hi, .int .u64 a1.Rule.Authority, .int .i64 a1.Rule.Quota]) rfl Try.isAgg43 Try.sizeOf43 (hst.bcs0 21 rfl)) ?_
           obtain ⟨t333, ht334, hm⟩ := bind_some hm
           refine wl_call ((wanted_eq rfl rfl rfl (congrArg Value.bool hc332)).trans rfl) rfl (x_call Try.call35 rfl (vs := [.agg #[.int .u64 a0.Rule.ID, .int .i64 a0.Rule.From, .int .i64 a0.Rule.To, .float .f64 a0.Rule.Lo, .float .f64 a0.Rule.Hi, .int .u64 a0.Rule.Authority, .int .i64 a0.Rule.Quota], .agg #[.int .u64 a1.Rule.ID, .int .i64 a1.Rule.From, .int .i64 a1.Rule.To, .float .f64 a1.Rule.Lo, .float .f64 a1.Rule.Hi, .int .u64 a1.Rule.Authority, .int .i64 a1.Rule.Quota]]) rfl) ?_
           refine (ref11_SameRule_ref hst.to0 ht334).mono ?_
           rintro _ w335 ⟨rfl, hst⟩
           refine ⟨_, rfl, ?_⟩
           replace hst := hst.of0
           refine wv (.bool (!t333)) ((wanted_eq rfl rfl rfl (congrArg Value.bool hc332)).trans rfl) rfl rfl ?_
           refine wv (.bool (!t333)) rfl rfl (x_pick_f hc332 rfl rfl) ?_
           refine wv (.bool (!t333)) rfl rfl rfl ?_
           refine bsplit (!t333) (fun hc338 => ?_) (fun hc338 => ?_)
           ·skip
            replace hm := bif_t hc338 hm
            refine wo hc338 rfl rfl rfl rfl rfl rfl ?_
            refine wo hc338 rfl rfl rfl rfl rfl rfl ?_
            refine wo hc338 rfl rfl rfl rfl rfl rfl ?_
            refine wo hc338 rfl rfl rfl rfl rfl rfl ?_
            refine wo hc338 rfl rfl rfl rfl rfl rfl ?_
            refine wv (.bool true) rfl rfl (x_pick_t hc338 rfl rfl) ?_
            refine wl_nil (then_n ?_)
            refine wp_ift rfl ?_
            refine wp_seq (wp_region_lit ?_)
            refine wv (.bool false) rfl rfl rfl ?_
            refine wl_nil (then_n (wp_ret (then_r ?_)))
            obtain rfl := some_inj hm
            refine post_ret (vs := [.bool false]) Try.results11 (rvs_cons (rv_tmp rfl) rvs_nil) ?_
            exact ⟨rfl, hst.keep0⟩
           ·skip
            replace hm := bif_f hc338 hm
            refine wv (.pointer (some ⟨b298, 28, none⟩)) ((wanted_eq rfl rfl rfl (congrArg Value.bool hc338)).trans rfl) rfl (x_field rfl Try.underlying45 rfl Try.sizeOf4 rfl) ?_
            refine wv (.bool a0.On) ((wanted_eq rfl rfl rfl (congrArg Value.bool hc338)).trans rfl) rfl (x_load rfl Try.isAgg4 (hst.bc1 rfl)) ?_
            refine wv (.pointer (some ⟨b303, 28, none⟩)) ((wanted_eq rfl rfl rfl (congrArg Value.bool hc338)).trans rfl) rfl (x_field rfl Try.underlying45 rfl Try.sizeOf4 rfl) ?_
            refine wv (.bool a1.On) ((wanted_eq rfl rfl rfl (congrArg Value.bool hc338)).trans rfl) rfl (x_load rfl Try.isAgg4 (hst.bc0 rfl)) ?_
            refine wv (.bool (!(a0.On == a1.On))) ((wanted_eq rfl rfl rfl (congrArg Value.bool hc338)).trans rfl) rfl (by kernel_rfl) ?_
            refine wv (.bool (!(a0.On == a1.On))) rfl rfl (x_pick_f hc338 rfl rfl) ?_
            refine wl_nil (then_n ?_)
            refine bsplit (!(a0.On == a1.On)) (fun hc339 => ?_) (fun hc339 => ?_)
            ·skip
             replace hm := bif_t hc339 hm
             refine wp_ift (congrArg Value.bool hc339) ?_
             refine wp_seq (wp_region_lit ?_)
             refine wv (.bool false) rfl rfl rfl ?_
             refine wl_nil (then_n (wp_ret (then_r ?_)))
             obtain rfl := some_inj hm
             refine post_ret (vs := [.bool false]) Try.results11 (rvs_cons (rv_tmp rfl) rvs_nil) ?_
             exact ⟨rfl, hst.keep0⟩
            ·skip
             replace hm := bif_f hc339 hm
             refine wp_iff (congrArg Value.bool hc339) ?_
             refine wp_skip (then_n (wp_seq (wp_seq (wp_region_lit ?_))))
             refine wv (.int .i64 (0:Int)) rfl rfl rfl ?_
             refine wl_nil (then_n (wp_block ?_))
             obtain ⟨n403, hm⟩ := loopO_some hm
             refine wp_loop_n (fun n a w => ∃ (z401 : Int) (σ402 : Nat → Value), loopN (law13_same_l0 a0 a1) n z401 = some r ∧ a = Fr 130 (upd (upd (upd σ402 2 (.pointer (some ⟨b298, 0, none⟩))) 3 (.pointer (some ⟨b303, 0, none⟩))) 5 (.int .i64 z401)) ∧ St w0 w I [cells b303 [.int .u8 a1.Kind, .int .u64 a1.ID.Session, .int .u64 a1.ID.Seq, .int .u64 a1.Epoch, .int .u64 a1.Index, .int .i64 a1.E, .int .u64 a1.Hold.ID.Session, .int .u64 a1.Hold.ID.Seq, .int .u64 a1.Hold.Epoch, r1_0, r1_1, r1_2, r1_3, r1_4, .int .i64 a1.R.E, .int .u64 a1.R.Epoch, .int .u64 a1.R.Index, r1_5, r1_6, .int .u64 a1.Shards, r1_7, .int .u64 a1.Rule.ID, .int .i64 a1.Rule.From, .int .i64 a1.Rule.To, .float .f64 a1.Rule.Lo, .float .f64 a1.Rule.Hi, .int .u64 a1.Rule.Authority, .int .i64 a1.Rule.Quota, .bool a1.On], cells b298 [.int .u8 a0.Kind, .int .u64 a0.ID.Session, .int .u64 a0.ID.Seq, .int .u64 a0.Epoch, .int .u64 a0.Index, .int .i64 a0.E, .int .u64 a0.Hold.ID.Session, .int .u64 a0.Hold.ID.Seq, .int .u64 a0.Hold.Epoch, r0_0, r0_1, r0_2, r0_3, r0_4, .int .i64 a0.R.E, .int .u64 a0.R.Epoch, .int .u64 a0.R.Index, r0_5, r0_6, .int .u64 a0.Shards, r0_7, .int .u64 a0.Rule.ID, .int .i64 a0.Rule.From, .int .i64 a0.Rule.To, .float .f64 a0.Rule.Lo, .float .f64 a0.Rule.Hi, .int .u64 a0.Rule.Authority, .int .i64 a0.Rule.Quota, .bool a0.On]] R) n403 ⟨(0:Int), _, hm, ((fr_upd (t := 2) (v := .pointer (some ⟨b298, 0, none⟩)) rfl).trans ((fr_upd (t := 3) (v := .pointer (some ⟨b303, 0, none⟩)) rfl).trans ((fr_upd (t := 5) (v := .int .i64 (0:Int)) rfl).trans rfl))), hst⟩ ?_
             rintro n409 _ w404 ⟨z401, σ402, hm, rfl, hst⟩
             obtain ⟨n406, y407, rfl, hm, hx408⟩ := loopN_some hm
             dsimp only [law13_same_l0] at hm
             refine wp_seq (wp_seq (wp_region_lit ?_))
             refine wv (.int .i64 z401) rfl rfl rfl ?_
             refine wv (.pointer (some ⟨b298, 20, none⟩)) rfl rfl (x_field rfl Try.underlying45 rfl Try.sizeOf40 rfl) ?_
             refine wv (r0_7) rfl rfl (x_load rfl Try.isAgg40 (hst.bc1 rfl)) ?_
             refine wv (.int .i64 ((a0.Parts).length : Int)) rfl rfl (x_len rfl Try.underlying40 (rd_sliceV f0_7)) ?_
             refine wv (.bool (decide (z401 < ((a0.Parts).length : Int)))) rfl rfl rfl ?_
             refine wl_nil (then_n ?_)
             refine bsplit (decide (z401 < ((a0.Parts).length : Int))) (fun hc410 => ?_) (fun hc410 => ?_)
             ·skip
              replace hm := bif_t hc410 hm
              refine wp_ift (congrArg Value.bool hc410) ?_
              refine wp_skip (then_n (wp_seq (wp_block (wp_seq ?_))))
              refine wp_region_St hst 29 [0, 1, 2, 3, 4, 5, 6, 7, 8, 9, 10, 11, 12, 13, 14, 15, 16, 17, 18, 19, 20, 21, 22, 23, 24, 25, 26, 27, 28] [0, 1, 0, 7, 15, 31, 0, 64, 0, 448, 960, 1984, 4095, 8191, 16383, 32767, 16383, 131071, 262143, 524287, 16383, 1064959, 16383, 7356415, 15745023, 32522239, 67108863, 134217727, 268435455] [] rfl (by kernel_rfl) (by kernel_rfl) Try.mixed (by kernel_rfl) ?_
              refine wsr (.pointer (some ⟨b298, 20, none⟩)) 0 rfl rfl rfl (by kernel_rfl) (fun w hst => x_field rfl Try.underlying45 rfl Try.sizeOf40 rfl) ?_
              refine wsr (r0_7) 1 rfl rfl rfl (by kernel_rfl) (fun w hst => x_load rfl Try.isAgg40 (hst.bc1 rfl)) ?_
              refine wsr (.int .i64 z401) 2 rfl rfl rfl (by kernel_rfl) (fun w hst => rfl) ?_
              obtain ⟨x411, hx412, hm⟩ := bind_some hm
              obtain ⟨h413, h414, hi415⟩ := geto_some hx412
              refine wsr (.pointer (some (eAddr r0_7 (z401.toNat * 2 + 0)))) 3 rfl rfl rfl (by kernel_rfl) (fun w hst => x_index rfl rfl Try.underlying40 Try.sizeOf81 (rd_sliceV f0_7) h413 h414) ?_
              refine wsr (.pointer (some (eAddr r0_7 (z401.toNat * 2 + 0)))) 4 rfl rfl rfl (by kernel_rfl) (fun w hst => x_field_e rfl Try.underlying81 rfl Try.sizeOf3 rfl) ?_
              obtain ⟨cs416, hr417, hc418⟩ := Rd.getF f0_7 hi415
              obtain ⟨v419, rfl, f420, -⟩ := hr417
              refine wsr (.int .i64 x411.Shard) 5 rfl rfl rfl (by kernel_rfl) (fun w hst => x_load rfl Try.isAgg3 ((hc418 (HL.le.refl _) hst) 0 _ rfl)) ?_
              refine wsr (.pointer (some ⟨b303, 20, none⟩)) 6 rfl rfl rfl (by kernel_rfl) (fun w hst => x_field rfl Try.underlying45 rfl Try.sizeOf40 rfl) ?_
              refine wsr (r1_7) 7 rfl rfl rfl (by kernel_rfl) (fun w hst => x_load rfl Try.isAgg40 (hst.bc0 rfl)) ?_
              refine wsr (.int .i64 z401) 8 rfl rfl rfl (by kernel_rfl) (fun w hst => rfl) ?_
              obtain ⟨x422, hx423, hm⟩ := bind_some hm
              obtain ⟨h424, h425, hi426⟩ := geto_some hx423
              refine wsr (.pointer (some (eAddr r1_7 (z401.toNat * 2 + 0)))) 9 rfl rfl rfl (by kernel_rfl) (fun w hst => x_index rfl rfl Try.underlying40 Try.sizeOf81 (rd_sliceV f1_7) h424 h425) ?_
              refine wsr (.pointer (some (eAddr r1_7 (z401.toNat * 2 + 0)))) 10 rfl rfl rfl (by kernel_rfl) (fun w hst => x_field_e rfl Try.underlying81 rfl Try.sizeOf3 rfl) ?_
              obtain ⟨cs427, hr428, hc429⟩ := Rd.getF f1_7 hi426
              obtain ⟨v430, rfl, f431, -⟩ := hr428
              refine wsr (.int .i64 x422.Shard) 11 rfl rfl rfl (by kernel_rfl) (fun w hst => x_load rfl Try.isAgg3 ((hc429 (HL.le.refl _) hst) 0 _ rfl)) ?_
              refine wsr (.bool (x411.Shard != x422.Shard)) 12 rfl rfl rfl (by kernel_rfl) (fun w hst => rfl) ?_
              refine wsr (.bool (x411.Shard != x422.Shard)) 13 rfl rfl rfl (by kernel_rfl) (fun w hst => rfl) ?_
              refine bsplit (x411.Shard != x422.Shard) (fun hc433 => ?_) (fun hc433 => ?_)
              ·skip
               replace hm := bif_t hc433 hm
               refine ws_q (v := undef) 14 [15, 16, 17, 18, 19, 20, 21, 22, 23, 24, 25, 26, 27, 28] (by kernel_rfl) rfl rfl (yi_off ((wanted_eq rfl rfl rfl (congrArg Value.bool hc433)).trans rfl)) ?_
               refine ws_q (v := undef) 15 [16, 17, 18, 19, 20, 21, 22, 23, 24, 25, 26, 27, 28] (by kernel_rfl) rfl rfl (yi_off ((wanted_eq rfl rfl rfl (congrArg Value.bool hc433)).trans rfl)) ?_
               refine ws_q (v := undef) 16 [17, 18, 19, 20, 21, 22, 23, 24, 25, 26, 27, 28] (by kernel_rfl) rfl rfl (yi_off ((wanted_eq rfl rfl rfl (congrArg Value.bool hc433)).trans rfl)) ?_
               refine ws_q (v := undef) 17 [18, 19, 20, 21, 22, 23, 24, 25, 26, 27, 28] (by kernel_rfl) rfl rfl (yi_off ((wanted_eq rfl rfl rfl (congrArg Value.bool hc433)).trans rfl)) ?_
               refine ws_q (v := undef) 18 [19, 20, 21, 22, 23, 24, 25, 26, 27, 28] (by kernel_rfl) rfl rfl (yi_off ((wanted_eq rfl rfl rfl (congrArg Value.bool hc433)).trans rfl)) ?_
               refine ws_q (v := undef) 19 [20, 21, 22, 23, 24, 25, 26, 27, 28] (by kernel_rfl) rfl rfl (yi_off ((wanted_eq rfl rfl rfl (congrArg Value.bool hc433)).trans rfl)) ?_
               refine ws_q (v := undef) 20 [21, 22, 23, 24, 25, 26, 27, 28] (by kernel_rfl) rfl rfl (yi_off ((wanted_eq rfl rfl rfl (congrArg Value.bool hc433)).trans rfl)) ?_
               refine ws_q (v := undef) 21 [22, 23, 24, 25, 26, 27, 28] (by kernel_rfl) rfl rfl (yi_off ((wanted_eq rfl rfl rfl (congrArg Value.bool hc433)).trans rfl)) ?_
               refine ws_q (v := undef) 22 [23, 24, 25, 26, 27, 28] (by kernel_rfl) rfl rfl (yi_off ((wanted_eq rfl rfl rfl (congrArg Value.bool hc433)).trans rfl)) ?_
               refine ws_q (v := undef) 23 [24, 25, 26, 27, 28] (by kernel_rfl) rfl rfl (yi_off ((wanted_eq rfl rfl rfl (congrArg Value.bool hc433)).trans rfl)) ?_
               refine ws_q (v := undef) 24 [25, 26, 27, 28] (by kernel_rfl) rfl rfl (yi_off ((wanted_eq rfl rfl rfl (congrArg Value.bool hc433)).trans rfl)) ?_
               refine ws_q (v := undef) 25 [26, 27, 28] (by kernel_rfl) rfl rfl (yi_off ((wanted_eq rfl rfl rfl (congrArg Value.bool hc433)).trans rfl)) ?_
               refine ws_q (v := undef) 26 [27, 28] (by kernel_rfl) rfl rfl (yi_off ((wanted_eq rfl rfl rfl (congrArg Value.bool hc433)).trans rfl)) ?_
               refine ws_q (v := undef) 27 [28] (by kernel_rfl) rfl rfl (yi_off ((wanted_eq rfl rfl rfl (congrArg Value.bool hc433)).trans rfl)) ?_
               refine wsr (.bool true) 28 rfl rfl rfl (by kernel_rfl) (fun w hst => x_pick_t hc433 rfl rfl) ?_
               refine ws_nil ?_
               intro w hst
               refine then_n ?_
               refine wp_ift rfl ?_
               refine wp_seq (wp_region_lit ?_)
               refine wv (.bool false) rfl rfl rfl ?_
               refine wl_nil (then_n (wp_ret (blk_r (then_r (then_r ?_)))))
               replace hm := inr_up hm hx408
               refine blk_r (then_r ?_)
               obtain rfl := some_inj hm
               refine post_ret (vs := [.bool false]) Try.results11 (rvs_cons (rv_tmp rfl) rvs_nil) ?_
               exact ⟨rfl, hst.keep0⟩
              ·skip
               replace hm := bif_f hc433 hm
               refine ws_q (v := .pointer (some ⟨b298, 20, none⟩)) 14 [15, 16, 17, 18, 19, 20, 21, 22, 23, 24, 25, 26, 27, 28] (by kernel_rfl) rfl rfl (yi_run ((wanted_eq rfl rfl rfl (congrArg Value.bool hc433)).trans rfl) (fun w hst => x_field rfl Try.underlying45 rfl Try.sizeOf40 rfl)) ?_
               refine ws_q (v := r0_7) 15 [16, 17, 18, 19, 20, 21, 22, 23, 24, 25, 26, 27, 28] (by kernel_rfl) rfl rfl (yi_run ((wanted_eq rfl rfl rfl (congrArg Value.bool hc433)).trans rfl) (fun w hst => x_load rfl Try.isAgg40 (hst.bc1 rfl))) ?_
               refine ws_q (v := .int .i64 z401) 16 [17, 18, 19, 20, 21, 22, 23, 24, 25, 26, 27, 28] (by kernel_rfl) rfl rfl (yi_run ((wanted_eq rfl rfl rfl (congrArg Value.bool hc433)).trans rfl) (fun w hst => rfl)) ?_
               refine ws_q (v := .pointer (some (eAddr r0_7 (z401.toNat * 2 + 0)))) 17 [18, 19, 20, 21, 22, 23, 24, 25, 26, 27, 28] (by kernel_rfl) rfl rfl (yi_run ((wanted_eq rfl rfl rfl (congrArg Value.bool hc433)).trans rfl) (fun w hst => x_index rfl rfl Try.underlying40 Try.sizeOf81 (rd_sliceV f0_7) h413 h414)) ?_
               refine ws_q (v := .pointer (some (eAddr r0_7 (z401.toNat * 2 + 1)))) 18 [19, 20, 21, 22, 23, 24, 25, 26, 27, 28] (by kernel_rfl) rfl rfl (yi_run ((wanted_eq rfl rfl rfl (congrArg Value.bool hc433)).trans rfl) (fun w hst => x_field_e rfl Try.underlying81 rfl Try.sizeOf35 rfl)) ?_
               refine ws_q (v := v419) 19 [20, 21, 22, 23, 24, 25, 26, 27, 28] (by kernel_rfl) rfl rfl (yi_run ((wanted_eq rfl rfl rfl (congrArg Value.bool hc433)).trans rfl) (fun w hst => x_load rfl Try.isAgg35 ((hc418 (HL.le.refl _) hst) 1 _ rfl))) ?_
               refine ws_q (v := .pointer (some ⟨b303, 20, none⟩)) 20 [21, 22, 23, 24, 25, 26, 27, 28] (by kernel_rfl) rfl rfl (yi_run ((wanted_eq rfl rfl rfl (congrArg Value.bool hc433)).trans rfl) (fun w hst => x_field rfl Try.underlying45 rfl Try.sizeOf40 rfl)) ?_
               refine ws_q (v := r1_7) 21 [22, 23, 24, 25, 26, 27, 28] (by kernel_rfl) rfl rfl (yi_run ((wanted_eq rfl rfl rfl (congrArg Value.bool hc433)).trans rfl) (fun w hst => x_load rfl Try.isAgg40 (hst.bc0 rfl))) ?_
               refine ws_q (v := .int .i64 z401) 22 [23, 24, 25, 26, 27, 28] (by kernel_rfl) rfl rfl (yi_run ((wanted_eq rfl rfl rfl (congrArg Value.bool hc433)).trans rfl) (fun w hst => rfl)) ?_
               refine ws_q (v := .pointer (some (eAddr r1_7 (z401.toNat * 2 + 0)))) 23 [24, 25, 26, 27, 28] (by kernel_rfl) rfl rfl (yi_run ((wanted_eq rfl rfl rfl (congrArg Value.bool hc433)).trans rfl) (fun w hst => x_index rfl rfl Try.underlying40 Try.sizeOf81 (rd_sliceV f1_7) h424 h425)) ?_
               refine ws_q (v := .pointer (some (eAddr r1_7 (z401.toNat * 2 + 1)))) 24 [25, 26, 27, 28] (by kernel_rfl) rfl rfl (yi_run ((wanted_eq rfl rfl rfl (congrArg Value.bool hc433)).trans rfl) (fun w hst => x_field_e rfl Try.underlying81 rfl Try.sizeOf35 rfl)) ?_
               refine ws_q (v := v430) 25 [26, 27, 28] (by kernel_rfl) rfl rfl (yi_run ((wanted_eq rfl rfl rfl (congrArg Value.bool hc433)).trans rfl) (fun w hst => x_load rfl Try.isAgg35 ((hc429 (HL.le.refl _) hst) 1 _ rfl))) ?_
               refine ws_e1 26 (by kernel_rfl) ?_
               refine nxe [27, 28] (by kernel_rfl) rfl ((wanted_eq rfl rfl rfl (congrArg Value.bool hc433)).trans rfl) ?_
               clear hst
               intro w hst
               obtain ⟨t434, ht435, hm⟩ := bind_some hm
               refine we_call rfl (x_call Try.call34 rfl (vs := [v419, v430]) rfl) ?_
               refine (ref13_SameWrites_ref (f420.mono (rd_weak _)) (f431.mono (rd_weak _)) hst.to0 ht435).mono ?_
               rintro _ w436 ⟨rfl, hst⟩
               refine ⟨_, rfl, ?_⟩
               replace hst := hst.of0
               refine ws_next (pend' := []) hst (by kernel_rfl) pk_nil ?_
               refine ws_q (v := .bool (!t434)) 27 [28] (by kernel_rfl) rfl rfl (yi_run ((wanted_eq rfl rfl rfl (congrArg Value.bool hc433)).trans rfl) (fun w hst => rfl)) ?_
               refine wsr (.bool (!t434)) 28 rfl rfl rfl (by kernel_rfl) (fun w hst => x_pick_f hc433 rfl rfl) ?_
               refine ws_nil ?_
               intro w hst
               refine then_n ?_
               refine bsplit (!t434) (fun hc439 => ?_) (fun hc439 => ?_)
               ·skip
                replace hm := bif_t hc439 hm
                refine wp_ift (congrArg Value.bool hc439) ?_
                refine wp_seq (wp_region_lit ?_)
                refine wv (.bool false) rfl rfl rfl ?_
                refine wl_nil (then_n (wp_ret (blk_r (then_r (then_r ?_)))))
                replace hm := inr_up hm hx408
                refine blk_r (then_r ?_)
                obtain rfl := some_inj hm
                refine post_ret (vs := [.bool false]) Try.results11 (rvs_cons (rv_tmp rfl) rvs_nil) ?_
                exact ⟨rfl, hst.keep0⟩
               ·skip
                replace hm := bif_f hc439 hm
                refine wp_iff (congrArg Value.bool hc439) ?_
                refine wp_skip (blk_n (then_n (wp_region_lit ?_)))
                refine wv (.int .i64 z401) rfl rfl rfl ?_
                refine wv (.int .i64 (IntKind.i64.wrap (z401 + (1:Int)))) rfl rfl rfl ?_
                refine wv (.int .i64 (IntKind.i64.wrap (z401 + (1:Int)))) rfl rfl rfl ?_
                refine wl_nil (then_n ?_)
                replace hst := hst.pull1
                replace hst := hst.pull1
                replace hst := hst.keep2
                obtain rfl := some_inj hm
                exact ⟨_, Nat.lt_succ_self _, (IntKind.i64.wrap (z401 + (1:Int))), _, hx408, ((fr_upd (t := 2) (v := .pointer (some ⟨b298, 0, none⟩)) rfl).trans ((fr_upd (t := 3) (v := .pointer (some ⟨b303, 0, none⟩)) rfl).trans ((fr_upd (t := 5) (v := .int .i64 (IntKind.i64.wrap (z401 + (1:Int)))) rfl).trans rfl))), hst⟩
             ·skip
              replace hm := bif_f hc410 hm
              refine wp_iff (congrArg Value.bool hc410) ?_
              refine wp_exit (then_x (then_x ?_))
              replace hm := inr_up hm hx408
              refine blk_x (then_n (wp_seq (wp_region_lit ?_)))
              refine wv (.bool true) rfl rfl rfl ?_
              refine wl_nil (then_n (wp_ret ?_))
              obtain rfl := some_inj hm
              refine post_ret (vs := [.bool true]) Try.results11 (rvs_cons (rv_tmp rfl) rvs_nil) ?_
              exact ⟨rfl, hst.keep0⟩

theorem law13_CommandBytes_ref {w0 w : World} {I : HL} {R : SP} {a0 : (List Int)} {r0_0 : Value} (f0_0 : Ro (tyInt .u8) I r0_0 a0) (hst : St w0 w I [] R) {r : (Bool)} (hm : law13_CommandBytes a0 = some r) :
  Calls Try.prog 6 #[r0_0] w fun e w' => ∃ (I' : HL), e = .returned (.bool r) ∧ I.le I' ∧ St w0 w' I' [] R := by
 unfold law13_CommandBytes at hm
 refine calls_start (args := [r0_0]) Try.func6 rfl Try.ntmps6 (Nat.le_of_ble_eq_true rfl) ?_
 have hI0 := HL.le.refl I
 refine wp_seq (wp_region_lit ?_)
 refine wv (.bool false) rfl rfl rfl ?_
 refine wl_nil (then_n (wp_seq (wp_seq (wp_region_lit ?_))))
 obtain ⟨t525, ht526, hm⟩ := bind_some hm
 refine wl_call rfl rfl (x_call Try.call8 rfl (vs := []) rfl) ?_
 refine (law13_awake_ref hst.to0 ht526).mono ?_
 rintro _ w527 ⟨rfl, hst⟩
 refine ⟨_, rfl, ?_⟩
 replace hst := hst.of0
 refine wv (.bool (!t525)) rfl rfl rfl ?_
 refine wv (.bool (!t525)) rfl rfl rfl ?_
 refine bsplit (!t525) (fun hc530 => ?_) (fun hc530 => ?_)
 ·skip
  replace hm := bif_t hc530 hm
  refine wo hc530 rfl rfl rfl rfl rfl rfl ?_
  refine wo hc530 rfl rfl rfl rfl rfl rfl ?_
  refine wo hc530 rfl rfl rfl rfl rfl rfl ?_
  refine wv (.bool true) rfl rfl (x_pick_t hc530 rfl rfl) ?_
  refine wl_nil (then_n ?_)
  refine wp_ift rfl ?_
  refine wp_seq (wp_region_lit ?_)
  obtain ⟨t531, ht532, hm⟩ := bind_some hm
  refine wl_call rfl rfl (x_call Try.call8 rfl (vs := []) rfl) ?_
  refine (law13_awake_ref hst.to0 ht532).mono ?_
  rintro _ w533 ⟨rfl, hst⟩
  refine ⟨_, rfl, ?_⟩
  replace hst := hst.of0
  refine wv (.bool t531) rfl rfl rfl ?_
  refine wl_nil (then_n (wp_ret (then_r ?_)))
  obtain rfl := some_inj hm
  refine post_ret (vs := [.bool t531]) Try.results6 (rvs_cons (rv_tmp rfl) rvs_nil) ?_
  exact ⟨_, rfl, hI0, hst.keep0⟩
 ·skip
  replace hm := bif_f hc530 hm
  refine wv (r0_0) ((wanted_eq rfl rfl rfl (congrArg Value.bool hc530)).trans rfl) rfl rfl ?_
  refine wv (.int .i64 ((a0).length : Int)) ((wanted_eq rfl rfl rfl (congrArg Value.bool hc530)).trans rfl) rfl (x_len rfl Try.underlying22 (ro_sliceV f0_0)) ?_
  refine wv (.bool (decide (((a0).length : Int) > (300:Int)))) ((wanted_eq rfl rfl rfl (congrArg Value.bool hc530)).trans rfl) rfl rfl ?_
  refine wv (.bool (decide (((a0).length : Int) > (300:Int)))) rfl rfl (x_pick_f hc530 rfl rfl) ?_
  refine wl_nil (then_n ?_)
  refine bsplit (decide (((a0).length : Int) > (300:Int))) (fun hc536 => ?_) (fun hc536 => ?_)
  ·skip
   replace hm := bif_t hc536 hm
   refine wp_ift (congrArg Value.bool hc536) ?_
   refine wp_seq (wp_region_lit ?_)
   obtain ⟨t537, ht538, hm⟩ := bind_some hm
   refine wl_call rfl rfl (x_call Try.call8 rfl (vs := []) rfl) ?_
   refine (law13_awake_ref hst.to0 ht538).mono ?_
   rintro _ w539 ⟨rfl, hst⟩
   refine ⟨_, rfl, ?_⟩
   replace hst := hst.of0
   refine wv (.bool t537) rfl rfl rfl ?_
   refine wl_nil (then_n (wp_ret (then_r ?_)))
   obtain rfl := some_inj hm
   refine post_ret (vs := [.bool t537]) Try.results6 (rvs_cons (rv_tmp rfl) rvs_nil) ?_
   exact ⟨_, rfl, hI0, hst.keep0⟩
  ·skip
   replace hm := bif_f hc536 hm
   refine wp_iff (congrArg Value.bool hc536) ?_
   refine wp_skip (then_n (wp_seq (wp_region_lit ?_)))
   refine wv (r0_0) rfl rfl rfl ?_
   refine wv (.agg #[r0_0, .int .i64 (0:Int)]) rfl rfl (by obtain ⟨_, _, hv_, _⟩ := (ro_sliceV f0_0); rw [hv_]; kernel_rfl) ?_
   obtain ⟨b543, w544, ew545, eb546, hst⟩ := hst.box [r0_0, .int .i64 (0:Int)] 26
   refine wl_run (v := .pointer (some ⟨b543, 0, none⟩)) (w' := w544) rfl rfl (x_al (by kernel_rfl) ew545 eb546) ?_
   refine wv (.pointer (some ⟨b543, 0, none⟩)) rfl rfl rfl ?_
   refine wl_nil (then_n (wp_seq (wp_seq (wp_region_lit ?_))))
   refine wv (.int .i64 (0:Int)) rfl rfl rfl ?_
   refine wl_nil (then_n (wp_block ?_))
   replace hst := at_ref12_Tape_close (pv := .pointer (some ⟨b543, 0, none⟩)) (x := ({ L := a0, I := (0:Int) } : ref12_Tape)) hst ⟨rfl, f0_0⟩
   obtain ⟨n878, hm⟩ := loopO_some hm
   refine wp_loop_n (fun n a w => ∃ (I876 : HL) (z874 : ref12_Tape) (z875 : Int) (σ877 : Nat → Value), loopN (law13_CommandBytes_l0) n (z874, z875) = some r ∧ a = Fr 49 (upd (upd σ877 3 (.pointer (some ⟨b543, 0, none⟩))) 4 (.int .i64 z875)) ∧ I.le I876 ∧ St w0 w I876 [at_ref12_Tape (.pointer (some ⟨b543, 0, none⟩)) z874] R) n878 ⟨_, ({ L := a0, I := (0:Int) } : ref12_Tape), (0:Int), _, hm, ((fr_upd (t := 3) (v := .pointer (some ⟨b543, 0, none⟩)) rfl).trans ((fr_upd (t := 4) (v := .int .i64 (0:Int)) rfl).trans rfl)), (HL.le.refl _), hst⟩ ?_
   rintro n884 _ w879 ⟨I876, z874, z875, σ877, hm, rfl, hL880, hst⟩
   obtain ⟨n881, y882, rfl, hm, hx883⟩ := loopN_some hm
   dsimp only [law13_CommandBytes_l0] at hm
   replace f0_0 := f0_0.mono (ro_le hL880)
   replace hI0 := hI0.trans hL880
   refine wp_seq (wp_seq (wp_region_lit ?_))
   refine wv (.int .i64 z875) rfl rfl rfl ?_
   refine wv (.bool (decide (z875 < (6:Int)))) rfl rfl rfl ?_
   refine wl_nil (then_n ?_)
   refine bsplit (decide (z875 < (6:Int))) (fun hc885 => ?_) (fun hc885 => ?_)
   ·skip
    replace hm := bif_t hc885 hm
    refine wp_ift (congrArg Value.bool hc885) ?_
    refine wp_skip (then_n (wp_seq (wp_block (wp_seq (wp_region_lit ?_)))))
    refine wv (.pointer (some ⟨b543, 0, none⟩)) rfl rfl rfl ?_
    obtain ⟨t886, ht887, hm⟩ := bind_some hm
    refine wl_call rfl rfl (x_call Try.call9 rfl (vs := [.pointer (some ⟨b543, 0, none⟩)]) rfl) ?_
    refine (ref13_OfCommand_ref hst.to1 ht887).mono ?_
    rintro _ w888 ⟨I889, v891, v893, v895, v897, v899, v901, v903, v905, rfl, hI890, hst⟩
    refine ⟨_, rfl, ?_⟩
    replace hst := hst.of9
    replace f0_0 := f0_0.mono (ro_le hI890)
    replace hI0 := hI0.trans hI890
    replace hL880 := hL880.trans hI890
    obtain ⟨b915, w916, ew917, eb918, hst⟩ := hst.box [.int .u8 (0:Int), .int .u64 (0:Int), .int .u64 (0:Int), .int .u64 (0:Int), .int .u64 (0:Int), .int .i64 (0:Int), .int .u64 (0:Int), .int .u64 (0:Int), .int .u64 (0:Int), (.slice none 0 0), (.slice none 0 0), (.slice none 0 0), (.slice none 0 0), (.slice none 0 0), .int .i64 (0:Int), .int .u64 (0:Int), .int .u64 (0:Int), (.slice none 0 0), (.slice none 0 0), .int .u64 (0:Int), (.slice none 0 0), .int .u64 (0:Int), .int .i64 (0:Int), .int .i64 (0:Int), .float .f64 (0:Nat), .float .f64 (0:Nat), .int .u64 (0:Int), .int .i64 (0:Int), .bool false] 45
    refine wl_run (v := .pointer (some ⟨b915, 0, none⟩)) (w' := w916) rfl rfl (x_al (by kernel_rfl) ew917 eb918) ?_
    obtain ⟨w920, hr921, hst⟩ := hst.boxStore (P := Try.prog) (t := 45) (cs' := [.int .u8 t886.1.Kind, .int .u64 t886.1.ID.Session, .int .u64 t886.1.ID.Seq, .int .u64 t886.1.Epoch, .int .u64 t886.1.Index, .int .i64 t886.1.E, .int .u64 t886.1.Hold.ID.Session, .int .u64 t886.1.Hold.ID.Seq, .int .u64 t886.1.Hold.Epoch, v891, v893, v895, v897, v899, .int .i64 t886.1.R.E, .int .u64 t886.1.R.Epoch, .int .u64 t886.1.R.Index, v901, v903, .int .u64 t886.1.Shards, v905, .int .u64 t886.1.Rule.ID, .int .i64 t886.1.Rule.From, .int .i64 t886.1.Rule.To, .float .f64 t886.1.Rule.Lo, .float .f64 t886.1.Rule.Hi, .int .u64 t886.1.Rule.Authority, .int .i64 t886.1.Rule.Quota, .bool t886.1.On]) 0 (.agg #[.int .u8 t886.1.Kind, .int .u64 t886.1.ID.Session, .int .u64 t886.1.ID.Seq, .int .u64 t886.1.Epoch, .int .u64 t886.1.Index, .int .i64 t886.1.E, .int .u64 t886.1.Hold.ID.Session, .int .u64 t886.1.Hold.ID.Seq, .int .u64 t886.1.Hold.Epoch, v891, v893, v895, v897, v899, .int .i64 t886.1.R.E, .int .u64 t886.1.R.Epoch, .int .u64 t886.1.R.Index, v901, v903, .int .u64 t886.1.Shards, v905, .int .u64 t886.1.Rule.ID, .int .i64 t886.1.Rule.From, .int .i64 t886.1.Rule.To, .float .f64 t886.1.Rule.Lo, .float .f64 t886.1.Rule.Hi, .int .u64 t886.1.Rule.Authority, .int .i64 t886.1.Rule.Quota, .bool t886.1.On]) Try.sizeOf45 (Nat.le_of_ble_eq_true rfl) (ones_cons rfl (ones_cons rfl (ones_cons rfl (ones_cons rfl (ones_cons rfl (ones_cons rfl (ones_cons rfl (ones_cons rfl (ones_cons rfl (ones_cons (one_of_sliceV hst.sv1) (ones_cons (one_of_sliceV hst.sv2) (ones_cons (one_of_sliceV hst.sv3) (ones_cons (one_of_sliceV hst.sv4) (ones_cons (one_of_sliceV hst.sv5) (ones_cons rfl (ones_cons rfl (ones_cons rfl (ones_cons (one_of_sliceV hst.sv6) (ones_cons (one_of_sliceV hst.sv7) (ones_cons rfl (ones_cons (one_of_sliceV hst.sv8) (ones_cons rfl (ones_cons rfl (ones_cons rfl (ones_cons rfl (ones_cons rfl (ones_cons rfl (ones_cons rfl (ones_cons rfl ones_nil))))))))))))))))))))))))))))) (by kernel_rfl)
    refine wl_unit rfl rfl (x_unit hr921) ?_
    refine wl_nil (then_n (wp_seq (wp_region_lit ?_)))
    refine wv (.agg #[.int .u8 t886.1.Kind, .int .u64 t886.1.ID.Session, .int .u64 t886.1.ID.Seq, .int .u64 t886.1.Epoch, .int .u64 t886.1.Index, .int .i64 t886.1.E, .int .u64 t886.1.Hold.ID.Session, .int .u64 t886.1.Hold.ID.Seq, .int .u64 t886.1.Hold.Epoch, v891, v893, v895, v897, v899, .int .i64 t886.1.R.E, .int .u64 t886.1.R.Epoch, .int .u64 t886.1.R.Index, v901, v903, .int .u64 t886.1.Shards, v905, .int .u64 t886.1.Rule.ID, .int .i64 t886.1.Rule.From, .int .i64 t886.1.Rule.To, .float .f64 t886.1.Rule.Lo, .float .f64 t886.1.Rule.Hi, .int .u64 t886.1.Rule.Authority, .int .i64 t886.1.Rule.Quota, .bool t886.1.On]) rfl rfl (x_loadN (cs := [.int .u8 t886.1.Kind, .int .u64 t886.1.ID.Session, .int .u64 t886.1.ID.Seq, .int .u64 t886.1.Epoch, .int .u64 t886.1.Index, .int .i64 t886.1.E, .int .u64 t886.1.Hold.ID.Session, .int .u64 t886.1.Hold.ID.Seq, .int .u64 t886.1.Hold.Epoch, v891, v893, v895, v897, v899, .int .i64 t886.1.R.E, .int .u64 t886.1.R.Epoch, .int .u64 t886.1.R.Index, v901, v903, .int .u64 t886.1.Shards, v905, .int .u64 t886.1.Rule.ID, .int .i64 t886.1.Rule.From, .int .i64 t886.1.Rule.To, .float .f64 t886.1.Rule.Lo, .float .f64 t886.1.Rule.Hi, .int .u64 t886.1.Rule.Authority, .int .i64 t886.1.Rule.Quota, .bool t886.1.On]) rfl Try.isAgg45 Try.sizeOf45 (hst.bcs0 0 rfl)) ?_
    replace hst := hst.pull1
    obtain ⟨css922, hq923, hst⟩ := hst.own_open
    replace hst := hst.pull2
    obtain ⟨css924, hq925, hst⟩ := hst.own_open
    replace hst := hst.pull3
    obtain ⟨css926, hq927, hst⟩ := hst.own_open
    replace hst := hst.pull4
    obtain ⟨css928, hq929, hst⟩ := hst.own_open
    replace hst := hst.pull5
    obtain ⟨css930, hq931, hst⟩ := hst.own_open
    replace hst := hst.pull6
    obtain ⟨css932, hq933, hst⟩ := hst.own_open
    replace hst := hst.pull7
    obtain ⟨css934, hq935, hst⟩ := hst.own_open
    replace hst := hst.pull8
    obtain ⟨css936, hq937, hst⟩ := hst.own_open
    obtain ⟨t938, ht939, hm⟩ := bind_some hm
    refine wl_call rfl rfl (x_call Try.call10 rfl (vs := [.agg #[.int .u8 t886.1.Kind, .int .u64 t886.1.ID.Session, .int .u64 t886.1.ID.Seq, .int .u64 t886.1.Epoch, .int .u64 t886.1.Index, .int .i64 t886.1.E, .int .u64 t886.1.Hold.ID.Session, .int .u64 t886.1.Hold.ID.Seq, .int .u64 t886.1.Hold.Epoch, v891, v893, v895, v897, v899, .int .i64 t886.1.R.E, .int .u64 t886.1.R.Epoch, .int .u64 t886.1.R.Index, v901, v903, .int .u64 t886.1.Shards, v905, .int .u64 t886.1.Rule.ID, .int .i64 t886.1.Rule.From, .int .i64 t886.1.Rule.To, .float .f64 t886.1.Rule.Lo, .float .f64 t886.1.Rule.Hi, .int .u64 t886.1.Rule.Authority, .int .i64 t886.1.Rule.Quota, .bool t886.1.On]]) rfl) ?_
    refine (command_Encode_ref (hst.rdrow7 hq923) (hst.rdrow6 hq925) (hst.rdrow5 hq927) (hst.rdrow4 hq929) (hst.rdrow3 hq931) (hst.rdrow2 hq933) (hst.rdrow1 hq935) (hst.rdrow0 hq937) hst.to0 ht939).mono ?_
    rintro _ w940 ⟨v943, rfl, hst⟩
    refine ⟨_, rfl, ?_⟩
    replace hst := hst.of1
    replace hst := hst.pull8
    replace hst := hst.own_close hq923
    replace hst := hst.pull8
    replace hst := hst.own_close hq925
    replace hst := hst.pull8
    replace hst := hst.own_close hq927
    replace hst := hst.pull8
    replace hst := hst.own_close hq929
    replace hst := hst.pull8
    replace hst := hst.own_close hq931
    replace hst := hst.pull8
    replace hst := hst.own_close hq933
    replace hst := hst.pull8
    replace hst := hst.own_close hq935
    replace hst := hst.pull8
    replace hst := hst.own_close hq937
    refine wv (v943) rfl rfl rfl ?_
    refine wl_nil (then_n (wp_seq (wp_region_lit ?_)))
    refine wv (v943) rfl rfl rfl ?_
    replace hst := hst.pull8
    obtain ⟨I945, hI946, f947, hst⟩ := hst.own_fix
    replace f0_0 := f0_0.mono (ro_le hI946)
    replace hI0 := hI0.trans hI946
    replace hL880 := hL880.trans hI946
    obtain ⟨t948, ht949, hm⟩ := bind_some hm
    refine wl_call rfl rfl (x_call Try.call20 rfl (vs := [v943]) rfl) ?_
    refine (command_Decode_ref f947 hst.to0 ht949).mono ?_
    rintro _ w950 ⟨I951, v953, v955, v957, v959, v961, v963, v965, v967, rfl, hI952, hst⟩
    refine ⟨_, rfl, ?_⟩
    replace hst := hst.of8
    replace f0_0 := f0_0.mono (ro_le hI952)
    replace f947 := f947.mono (ro_le hI952)
    replace hI0 := hI0.trans hI952
    replace hL880 := hL880.trans hI952
    refine wv (.tuple #[.agg #[.int .u8 t948.1.Kind, .int .u64 t948.1.ID.Session, .int .u64 t948.1.ID.Seq, .int .u64 t948.1.Epoch, .int .u64 t948.1.Index, .int .i64 t948.1.E, .int .u64 t948.1.Hold.ID.Session, .int .u64 t948.1.Hold.ID.Seq, .int .u64 t948.1.Hold.Epoch, v953, v955, v957, v959, v961, .int .i64 t948.1.R.E, .int .u64 t948.1.R.Epoch, .int .u64 t948.1.R.Index, v963, v965, .int .u64 t948.1.Shards, v967, .int .u64 t948.1.Rule.ID, .int .i64 t948.1.Rule.From, .int .i64 t948.1.Rule.To, .float .f64 t948.1.Rule.Lo, .float .f64 t948.1.Rule.Hi, .int .u64 t948.1.Rule.Authority, .int .i64 t948.1.Rule.Quota, .bool t948.1.On], .int .i64 t948.2]) rfl rfl rfl ?_
    refine wv (.agg #[.int .u8 t948.1.Kind, .int .u64 t948.1.ID.Session, .int .u64 t948.1.ID.Seq, .int .u64 t948.1.Epoch, .int .u64 t948.1.Index, .int .i64 t948.1.E, .int .u64 t948.1.Hold.ID.Session, .int .u64 t948.1.Hold.ID.Seq, .int .u64 t948.1.Hold.Epoch, v953, v955, v957, v959, v961, .int .i64 t948.1.R.E, .int .u64 t948.1.R.Epoch, .int .u64 t948.1.R.Index, v963, v965, .int .u64 t948.1.Shards, v967, .int .u64 t948.1.Rule.ID, .int .i64 t948.1.Rule.From, .int .i64 t948.1.Rule.To, .float .f64 t948.1.Rule.Lo, .float .f64 t948.1.Rule.Hi, .int .u64 t948.1.Rule.Authority, .int .i64 t948.1.Rule.Quota, .bool t948.1.On]) rfl rfl rfl ?_
    refine wv (.int .i64 t948.2) rfl rfl rfl ?_
    obtain ⟨b977, w978, ew979, eb980, hst⟩ := hst.box [.int .u8 (0:Int), .int .u64 (0:Int), .int .u64 (0:Int), .int .u64 (0:Int), .int .u64 (0:Int), .int .i64 (0:Int), .int .u64 (0:Int), .int .u64 (0:Int), .int .u64 (0:Int), (.slice none 0 0), (.slice none 0 0), (.slice none 0 0), (.slice none 0 0), (.slice none 0 0), .int .i64 (0:Int), .int .u64 (0:Int), .int .u64 (0:Int), (.slice none 0 0), (.slice none 0 0), .int .u64 (0:Int), (.slice none 0 0), .int .u64 (0:Int), .int .i64 (0:Int), .int .i64 (0:Int), .float .f64 (0:Nat), .float .f64 (0:Nat), .int .u64 (0:Int), .int .i64 (0:Int), .bool false] 45
    refine wl_run (v := .pointer (some ⟨b977, 0, none⟩)) (w' := w978) rfl rfl (x_al (by kernel_rfl) ew979 eb980) ?_
    obtain ⟨w982, hr983, hst⟩ := hst.boxStore (P := Try.prog) (t := 45) (cs' := [.int .u8 t948.1.Kind, .int .u64 t948.1.ID.Session, .int .u64 t948.1.ID.Seq, .int .u64 t948.1.Epoch, .int .u64 t948.1.Index, .int .i64 t948.1.E, .int .u64 t948.1.Hold.ID.Session, .int .u64 t948.1.Hold.ID.Seq, .int .u64 t948.1.Hold.Epoch, v953, v955, v957, v959, v961, .int .i64 t948.1.R.E, .int .u64 t948.1.R.Epoch, .int .u64 t948.1.R.Index, v963, v965, .int .u64 t948.1.Shards, v967, .int .u64 t948.1.Rule.ID, .int .i64 t948.1.Rule.From, .int .i64 t948.1.Rule.To, .float .f64 t948.1.Rule.Lo, .float .f64 t948.1.Rule.Hi, .int .u64 t948.1.Rule.Authority, .int .i64 t948.1.Rule.Quota, .bool t948.1.On]) 0 (.agg #[.int .u8 t948.1.Kind, .int .u64 t948.1.ID.Session, .int .u64 t948.1.ID.Seq, .int .u64 t948.1.Epoch, .int .u64 t948.1.Index, .int .i64 t948.1.E, .int .u64 t948.1.Hold.ID.Session, .int .u64 t948.1.Hold.ID.Seq, .int .u64 t948.1.Hold.Epoch, v953, v955, v957, v959, v961, .int .i64 t948.1.R.E, .int .u64 t948.1.R.Epoch, .int .u64 t948.1.R.Index, v963, v965, .int .u64 t948.1.Shards, v967, .int .u64 t948.1.Rule.ID, .int .i64 t948.1.Rule.From, .int .i64 t948.1.Rule.To, .float .f64 t948.1.Rule.Lo, .float .f64 t948.1.Rule.Hi, .int .u64 t948.1.Rule.Authority, .int .i64 t948.1.Rule.Quota, .bool t948.1.On]) Try.sizeOf45 (Nat.le_of_ble_eq_true rfl) (ones_cons rfl (ones_cons rfl (ones_cons rfl (ones_cons rfl (ones_cons rfl (ones_cons rfl (ones_cons rfl (ones_cons rfl (ones_cons rfl (ones_cons (one_of_sliceV hst.sv1) (ones_cons (one_of_sliceV hst.sv2) (ones_cons (one_of_sliceV hst.sv3) (ones_cons (one_of_sliceV hst.sv4) (ones_cons (one_of_sliceV hst.sv5) (ones_cons rfl (ones_cons rfl (ones_cons rfl (ones_cons (one_of_sliceV hst.sv6) (ones_cons (one_of_sliceV hst.sv7) (ones_cons rfl (ones_cons (one_of_sliceV hst.sv8) (ones_cons rfl (ones_cons rfl (ones_cons rfl (ones_cons rfl (ones_cons rfl (ones_cons rfl (ones_cons rfl (ones_cons rfl ones_nil))))))))))))))))))))))))))))) (by kernel_rfl)
    refine wl_unit rfl rfl (x_unit hr983) ?_
    refine wv (.int .i64 t948.2) rfl rfl rfl ?_
    refine wl_nil (then_n (wp_seq ?_))
    refine wp_region_St hst 16 [0, 1, 2, 3, 4, 5, 6, 7, 8, 9, 10, 11, 12, 13, 14, 15] [0, 1, 0, 4, 12, 31, 63, 127, 255, 511, 1023, 2047, 2047, 8191, 16383, 32767] [] rfl (by kernel_rfl) (by kernel_rfl) Try.mixed (by kernel_rfl) ?_
    refine wsr (v943) 0 rfl rfl rfl (by kernel_rfl) (fun w hst => rfl) ?_
    refine wsr (.string (toStr t938)) 1 rfl rfl rfl (by kernel_rfl) (fun w hst => x_tostr Try.underlying22 Try.underlying9 Try.underlying5 rfl (Src.of_ro hst f947)) ?_
    refine wsr (.agg #[.int .u8 t886.1.Kind, .int .u64 t886.1.ID.Session, .int .u64 t886.1.ID.Seq, .int .u64 t886.1.Epoch, .int .u64 t886.1.Index, .int .i64 t886.1.E, .int .u64 t886.1.Hold.ID.Session, .int .u64 t886.1.Hold.ID.Seq, .int .u64 t886.1.Hold.Epoch, v891, v893, v895, v897, v899, .int .i64 t886.1.R.E, .int .u64 t886.1.R.Epoch, .int .u64 t886.1.R.Index, v901, v903, .int .u64 t886.1.Shards, v905, .int .u64 t886.1.Rule.ID, .int .i64 t886.1.Rule.From, .int .i64 t886.1.Rule.To, .float .f64 t886.1.Rule.Lo, .float .f64 t886.1.Rule.Hi, .int .u64 t886.1.Rule.Authority, .int .i64 t886.1.Rule.Quota, .bool t886.1.On]) 2 rfl rfl rfl (by kernel_rfl) (fun w hst => x_loadN (cs := [.int .u8 t886.1.Kind, .int .u64 t886.1.ID.Session, .int .u64 t886.1.ID.Seq, .int .u64 t886.1.Epoch, .int .u64 t886.1.Index, .int .i64 t886.1.E, .int .u64 t886.1.Hold.ID.Session, .int .u64 t886.1.Hold.ID.Seq, .int .u64 t886.1.Hold.Epoch, v891, v893, v895, v897, v899, .int .i64 t886.1.R.E, .int .u64 t886.1.R.Epoch, .int .u64 t886.1.R.Index, v901, v903, .int .u64 t886.1.Shards, v905, .int .u64 t886.1.Rule.ID, .int .i64 t886.1.Rule.From, .int .i64 t886.1.Rule.To, .float .f64 t886.1.Rule.Lo, .float .f64 t886.1.Rule.Hi, .int .u64 t886.1.Rule.Authority, .int .i64 t886.1.Rule.Quota, .bool t886.1.On]) rfl Try.isAgg45 Try.sizeOf45 (hst.bcs17 0 rfl)) ?_
    refine ws_e1 3 (by kernel_rfl) ?_
    refine nxe [4, 5, 6, 7, 8, 9, 10, 11, 12, 13, 14, 15] (by kernel_rfl) rfl rfl ?_
    clear hst
    intro w hst
    replace hst := hst.pull16
    obtain ⟨css984, hq985, hst⟩ := hst.own_open
    replace hst := hst.pull16
    obtain ⟨css986, hq987, hst⟩ := hst.own_open
    replace hst := hst.pull16
    obtain ⟨css988, hq989, hst⟩ := hst.own_open
    replace hst := hst.pull16
    obtain ⟨css990, hq991, hst⟩ := hst.own_open
    replace hst := hst.pull16
    obtain ⟨css992, hq993, hst⟩ := hst.own_open
    replace hst := hst.pull16
    obtain ⟨css994, hq995, hst⟩ := hst.own_open
    replace hst := hst.pull16
    obtain ⟨css996, hq997, hst⟩ := hst.own_open
    replace hst := hst.pull16
    obtain ⟨css998, hq999, hst⟩ := hst.own_open
    obtain ⟨t1000, ht1001, hm⟩ := bind_some hm
    refine we_call rfl (x_call Try.call21 rfl (vs := [.agg #[.int .u8 t886.1.Kind, .int .u64 t886.1.ID.Session, .int .u64 t886.1.ID.Seq, .int .u64 t886.1.Epoch, .int .u64 t886.1.Index, .int .i64 t886.1.E, .int .u64 t886.1.Hold.ID.Session, .int .u64 t886.1.Hold.ID.Seq, .int .u64 t886.1.Hold.Epoch, v891, v893, v895, v897, v899, .int .i64 t886.1.R.E, .int .u64 t886.1.R.Epoch, .int .u64 t886.1.R.Index, v901, v903, .int .u64 t886.1.Shards, v905, .int .u64 t886.1.Rule.ID, .int .i64 t886.1.Rule.From, .int .i64 t886.1.Rule.To, .float .f64 t886.1.Rule.Lo, .float .f64 t886.1.Rule.Hi, .int .u64 t886.1.Rule.Authority, .int .i64 t886.1.Rule.Quota, .bool t886.1.On]]) rfl) ?_
    refine (ref13_Command_ref (hst.rdrow7 hq985) (hst.rdrow6 hq987) (hst.rdrow5 hq989) (hst.rdrow4 hq991) (hst.rdrow3 hq993) (hst.rdrow2 hq995) (hst.rdrow1 hq997) (hst.rdrow0 hq999) hst.to0 ht1001).mono ?_
    rintro _ w1002 ⟨v1005, rfl, hst⟩
    refine ⟨_, rfl, ?_⟩
    replace hst := hst.of1
    replace hst := hst.pull8
    replace hst := hst.own_close hq985
    replace hst := hst.pull8
    replace hst := hst.own_close hq987
    replace hst := hst.pull8
    replace hst := hst.own_close hq989
    replace hst := hst.pull8
    replace hst := hst.own_close hq991
    replace hst := hst.pull8
    replace hst := hst.own_close hq993
    replace hst := hst.pull8
    replace hst := hst.own_close hq995
    replace hst := hst.pull8
    replace hst := hst.own_close hq997
    replace hst := hst.pull8
    replace hst := hst.own_close hq999
    refine ws_next (pend' := [(1, .string (toStr t938)), (0, v943)]) hst (by kernel_rfl) (pkr rfl rfl (fun w hst => x_tostr Try.underlying22 Try.underlying9 Try.underlying5 rfl (Src.of_ro hst f947)) (pkr rfl rfl (fun w hst => rfl) pk_nil)) ?_
    refine wsr (.string (toStr t1000)) 4 rfl rfl rfl (by kernel_rfl) (fun w hst => x_tostr Try.underlying22 Try.underlying9 Try.underlying5 rfl hst.src8) ?_
    refine wsr (.bool (!(sEq (toStr t938) (toStr t1000)))) 5 rfl rfl rfl (by kernel_rfl) (fun w hst => by kernel_rfl) ?_
    refine wsr (.bool (!(sEq (toStr t938) (toStr t1000)))) 6 rfl rfl rfl (by kernel_rfl) (fun w hst => rfl) ?_
    refine bsplit (!(sEq (toStr t938) (toStr t1000))) (fun hc1007 => ?_) (fun hc1007 => ?_)
    ·skip
     replace hm := bif_t hc1007 hm
     refine ws_q (v := undef) 7 [8, 9, 10, 11, 12, 13, 14, 15] (by kernel_rfl) rfl rfl (yi_off ((wanted_eq rfl rfl rfl (congrArg Value.bool hc1007)).trans rfl)) ?_
     refine ws_q (v := undef) 8 [9, 10, 11, 12, 13, 14, 15] (by kernel_rfl) rfl rfl (yi_off ((wanted_eq rfl rfl rfl (congrArg Value.bool hc1007)).trans rfl)) ?_
     refine wsr (.bool true) 9 rfl rfl rfl (by kernel_rfl) (fun w hst => x_pick_t hc1007 rfl rfl) ?_
     refine wsr (.bool true) 10 rfl rfl rfl (by kernel_rfl) (fun w hst => rfl) ?_
     refine ws_q (v := undef) 11 [12, 13, 14, 15] (by kernel_rfl) rfl rfl (yi_off ((wanted_eq rfl rfl rfl rfl).trans rfl)) ?_
     refine ws_q (v := undef) 12 [13, 14, 15] (by kernel_rfl) rfl rfl (yi_off ((wanted_eq rfl rfl rfl rfl).trans rfl)) ?_
     refine ws_q (v := undef) 13 [14, 15] (by kernel_rfl) rfl rfl (yi_off ((wanted_eq rfl rfl rfl rfl).trans rfl)) ?_
     refine ws_q (v := undef) 14 [15] (by kernel_rfl) rfl rfl (yi_off ((wanted_eq rfl rfl rfl rfl).trans rfl)) ?_
     refine wsr (.bool true) 15 rfl rfl rfl (by kernel_rfl) (fun w hst => x_pick_t rfl rfl rfl) ?_
     refine ws_nil ?_
     intro w hst
     refine then_n ?_
     refine wp_ift rfl ?_
     refine wp_seq (wp_region_lit ?_)
     refine wv (.bool false) rfl rfl rfl ?_
     refine wl_nil (then_n (wp_ret (blk_r (then_r (then_r ?_)))))
     replace hm := inr_up hm hx883
     refine blk_r (then_r ?_)
     obtain rfl := some_inj hm
     refine post_ret (vs := [.bool false]) Try.results6 (rvs_cons (rv_tmp rfl) rvs_nil) ?_
     exact ⟨_, rfl, hI0, hst.keep0⟩
    ·skip
     replace hm := bif_f hc1007 hm
     refine ws_q (v := .int .i64 t948.2) 7 [8, 9, 10, 11, 12, 13, 14, 15] (by kernel_rfl) rfl rfl (yi_run ((wanted_eq rfl rfl rfl (congrArg Value.bool hc1007)).trans rfl) (fun w hst => rfl)) ?_
     refine ws_q (v := .bool (t948.2 != (0:Int))) 8 [9, 10, 11, 12, 13, 14, 15] (by kernel_rfl) rfl rfl (yi_run ((wanted_eq rfl rfl rfl (congrArg Value.bool hc1007)).trans rfl) (fun w hst => rfl)) ?_
     refine wsr (.bool (t948.2 != (0:Int))) 9 rfl rfl rfl (by kernel_rfl) (fun w hst => x_pick_f hc1007 rfl rfl) ?_
     refine wsr (.bool (t948.2 != (0:Int))) 10 rfl rfl rfl (by kernel_rfl) (fun w hst => rfl) ?_
     refine bsplit (t948.2 != (0:Int)) (fun hc1008 => ?_) (fun hc1008 => ?_)
     ·skip
      replace hm := bif_t hc1008 hm
      refine ws_q (v := undef) 11 [12, 13, 14, 15] (by kernel_rfl) rfl rfl (yi_off ((wanted_eq rfl rfl rfl (congrArg Value.bool hc1008)).trans rfl)) ?_
      refine ws_q (v := undef) 12 [13, 14, 15] (by kernel_rfl) rfl rfl (yi_off ((wanted_eq rfl rfl rfl (congrArg Value.bool hc1008)).trans rfl)) ?_
      refine ws_q (v := undef) 13 [14, 15] (by kernel_rfl) rfl rfl (yi_off ((wanted_eq rfl rfl rfl (congrArg Value.bool hc1008)).trans rfl)) ?_
      refine ws_q (v := undef) 14 [15] (by kernel_rfl) rfl rfl (yi_off ((wanted_eq rfl rfl rfl (congrArg Value.bool hc1008)).trans rfl)) ?_
      refine wsr (.bool true) 15 rfl rfl rfl (by kernel_rfl) (fun w hst => x_pick_t hc1008 rfl rfl) ?_
      refine ws_nil ?_
      intro w hst
      refine then_n ?_
      refine wp_ift rfl ?_
      refine wp_seq (wp_region_lit ?_)
      refine wv (.bool false) rfl rfl rfl ?_
      refine wl_nil (then_n (wp_ret (blk_r (then_r (then_r ?_)))))
      replace hm := inr_up hm hx883
      refine blk_r (then_r ?_)
      obtain rfl := some_inj hm
      refine post_ret (vs := [.bool false]) Try.results6 (rvs_cons (rv_tmp rfl) rvs_nil) ?_
      exact ⟨_, rfl, hI0, hst.keep0⟩
     ·skip
      replace hm := bif_f hc1008 hm
      refine ws_q (v := .agg #[.int .u8 t886.1.Kind, .int .u64 t886.1.ID.Session, .int .u64 t886.1.ID.Seq, .int .u64 t886.1.Epoch, .int .u64 t886.1.Index, .int .i64 t886.1.E, .int .u64 t886.1.Hold.ID.Session, .int .u64 t886.1.Hold.ID.Seq, .int .u64 t886.1.Hold.Epoch, v891, v893, v895, v897, v899, .int .i64 t886.1.R.E, .int .u64 t886.1.R.Epoch, .int .u64 t886.1.R.Index, v901, v903, .int .u64 t886.1.Shards, v905, .int .u64 t886.1.Rule.ID, .int .i64 t886.1.Rule.From, .int .i64 t886.1.Rule.To, .float .f64 t886.1.Rule.Lo, .float .f64 t886.1.Rule.Hi, .int .u64 t886.1.Rule.Authority, .int .i64 t886.1.Rule.Quota, .bool t886.1.On]) 11 [12, 13, 14, 15] (by kernel_rfl) rfl rfl (yi_run ((wanted_eq rfl rfl rfl (congrArg Value.bool hc1008)).trans rfl) (fun w hst => x_loadN (cs := [.int .u8 t886.1.Kind, .int .u64 t886.1.ID.Session, .int .u64 t886.1.ID.Seq, .int .u64 t886.1.Epoch, .int .u64 t886.1.Index, .int .i64 t886.1.E, .int .u64 t886.1.Hold.ID.Session, .int .u64 t886.1.Hold.ID.Seq, .int .u64 t886.1.Hold.Epoch, v891, v893, v895, v897, v899, .int .i64 t886.1.R.E, .int .u64 t886.1.R.Epoch, .int .u64 t886.1.R.Index, v901, v903, .int .u64 t886.1.Shards, v905, .int .u64 t886.1.Rule.ID, .int .i64 t886.1.Rule.From, .int .i64 t886.1.Rule.To, .float .f64 t886.1.Rule.Lo, .float .f64 t886.1.Rule.Hi, .int .u64 t886.1.Rule.Authority, .int .i64 t886.1.Rule.Quota, .bool t886.1.On]) rfl Try.isAgg45 Try.sizeOf45 (hst.bcs18 0 rfl))) ?_
      refine ws_q (v := .agg #[.int .u8 t948.1.Kind, .int .u64 t948.1.ID.Session, .int .u64 t948.1.ID.Seq, .int .u64 t948.1.Epoch, .int .u64 t948.1.Index, .int .i64 t948.1.E, .int .u64 t948.1.Hold.ID.Session, .int .u64 t948.1.Hold.ID.Seq, .int .u64 t948.1.Hold.Epoch, v953, v955, v957, v959, v961, .int .i64 t948.1.R.E, .int .u64 t948.1.R.Epoch, .int .u64 t948.1.R.Index, v963, v965, .int .u64 t948.1.Shards, v967, .int .u64 t948.1.Rule.ID, .int .i64 t948.1.Rule.From, .int .i64 t948.1.Rule.To, .float .f64 t948.1.Rule.Lo, .float .f64 t948.1.Rule.Hi, .int .u64 t948.1.Rule.Authority, .int .i64 t948.1.Rule.Quota, .bool t948.1.On]) 12 [13, 14, 15] (by kernel_rfl) rfl rfl (yi_run ((wanted_eq rfl rfl rfl (congrArg Value.bool hc1008)).trans rfl) (fun w hst => x_loadN (cs := [.int .u8 t948.1.Kind, .int .u64 t948.1.ID.Session, .int .u64 t948.1.ID.Seq, .int .u64 t948.1.Epoch, .int .u64 t948.1.Index, .int .i64 t948.1.E, .int .u64 t948.1.Hold.ID.Session, .int .u64 t948.1.Hold.ID.Seq, .int .u64 t948.1.Hold.Epoch, v953, v955, v957, v959, v961, .int .i64 t948.1.R.E, .int .u64 t948.1.R.Epoch, .int .u64 t948.1.R.Index, v963, v965, .int .u64 t948.1.Shards, v967, .int .u64 t948.1.Rule.ID, .int .i64 t948.1.Rule.From, .int .i64 t948.1.Rule.To, .float .f64 t948.1.Rule.Lo, .float .f64 t948.1.Rule.Hi, .int .u64 t948.1.Rule.Authority, .int .i64 t948.1.Rule.Quota, .bool t948.1.On]) rfl Try.isAgg45 Try.sizeOf45 (hst.bcs9 0 rfl))) ?_
      refine ws_e1 13 (by kernel_rfl) ?_
      refine nxe [14, 15] (by kernel_rfl) rfl ((wanted_eq rfl rfl rfl (congrArg Value.bool hc1008)).trans rfl) ?_
      clear hst
      intro w hst
      replace hst := hst.pull7
      obtain ⟨css1009, hq1010, hst⟩ := hst.own_open
      replace hst := hst.pull7
      obtain ⟨css1011, hq1012, hst⟩ := hst.own_open
      replace hst := hst.pull7
      obtain ⟨css1013, hq1014, hst⟩ := hst.own_open
      replace hst := hst.pull7
      obtain ⟨css1015, hq1016, hst⟩ := hst.own_open
      replace hst := hst.pull7
      obtain ⟨css1017, hq1018, hst⟩ := hst.own_open
      replace hst := hst.pull7
      obtain ⟨css1019, hq1020, hst⟩ := hst.own_open
      replace hst := hst.pull7
      obtain ⟨css1021, hq1022, hst⟩ := hst.own_open
      replace hst := hst.pull7
      obtain ⟨css1023, hq1024, hst⟩ := hst.own_open
      replace hst := hst.pull10
      obtain ⟨css1025, hq1026, hst⟩ := hst.own_open
      replace hst := hst.pull11
      obtain ⟨css1027, hq1028, hst⟩ := hst.own_open
      replace hst := hst.pull12
      obtain ⟨css1029, hq1030, hst⟩ := hst.own_open
      replace hst := hst.pull13
      obtain ⟨css1031, hq1032, hst⟩ := hst.own_open
      replace hst := hst.pull14
      obtain ⟨css1033, hq1034, hst⟩ := hst.own_open
      replace hst := hst.pull15
      obtain ⟨css1035, hq1036, hst⟩ := hst.own_open
      replace hst := hst.pull16
      obtain ⟨css1037, hq1038, hst⟩ := hst.own_open
      replace hst := hst.pull17
      obtain ⟨css1039, hq1040, hst⟩ := hst.own_open
      obtain ⟨t1041, ht1042, hm⟩ := bind_some hm
      refine we_call rfl (x_call Try.call11 rfl (vs := [.agg #[.int .u8 t886.1.Kind, .int .u64 t886.1.ID.Session, .int .u64 t886.1.ID.Seq, .int .u64 t886.1.Epoch, .int .u64 t886.1.Index, .int .i64 t886.1.E, .int .u64 t886.1.Hold.ID.Session, .int .u64 t886.1.Hold.ID.Seq, .int .u64 t886.1.Hold.Epoch, v891, v893, v895, v897, v899, .int .i64 t886.1.R.E, .int .u64 t886.1.R.Epoch, .int .u64 t886.1.R.Index, v901, v903, .int .u64 t886.1.Shards, v905, .int .u64 t886.1.Rule.ID, .int .i64 t886.1.Rule.From, .int .i64 t886.1.Rule.To, .float .f64 t886.1.Rule.Lo, .float .f64 t886.1.Rule.Hi, .int .u64 t886.1.Rule.Authority, .int .i64 t886.1.Rule.Quota, .bool t886.1.On], .agg #[.int .u8 t948.1.Kind, .int .u64 t948.1.ID.Session, .int .u64 t948.1.ID.Seq, .int .u64 t948.1.Epoch, .int .u64 t948.1.Index, .int .i64 t948.1.E, .int .u64 t948.1.Hold.ID.Session, .int .u64 t948.1.Hold.ID.Seq, .int .u64 t948.1.Hold.Epoch, v953, v955, v957, v959, v961, .int .i64 t948.1.R.E, .int .u64 t948.1.R.Epoch, .int .u64 t948.1.R.Index, v963, v965, .int .u64 t948.1.Shards, v967, .int .u64 t948.1.Rule.ID, .int .i64 t948.1.Rule.From, .int .i64 t948.1.Rule.To, .float .f64 t948.1.Rule.Lo, .float .f64 t948.1.Rule.Hi, .int .u64 t948.1.Rule.Authority, .int .i64 t948.1.Rule.Quota, .bool t948.1.On]]) rfl) ?_
      refine (law13_same_ref (hst.rdrow15 hq1010) (hst.rdrow14 hq1012) (hst.rdrow13 hq1014) (hst.rdrow12 hq1016) (hst.rdrow11 hq1018) (hst.rdrow10 hq1020) (hst.rdrow9 hq1022) (hst.rdrow8 hq1024) (hst.rdrow7 hq1026) (hst.rdrow6 hq1028) (hst.rdrow5 hq1030) (hst.rdrow4 hq1032) (hst.rdrow3 hq1034) (hst.rdrow2 hq1036) (hst.rdrow1 hq1038) (hst.rdrow0 hq1040) hst.to0 ht1042).mono ?_
      rintro _ w1043 ⟨rfl, hst⟩
      refine ⟨_, rfl, ?_⟩
      replace hst := hst.of0
      replace hst := hst.pull15
      replace hst := hst.own_close hq1010
      replace hst := hst.pull15
      replace hst := hst.own_close hq1012
      replace hst := hst.pull15
      replace hst := hst.own_close hq1014
      replace hst := hst.pull15
      replace hst := hst.own_close hq1016
      replace hst := hst.pull15
      replace hst := hst.own_close hq1018
      replace hst := hst.pull15
      replace hst := hst.own_close hq1020
      replace hst := hst.pull15
      replace hst := hst.own_close hq1022
      replace hst := hst.pull15
      replace hst := hst.own_close hq1024
      replace hst := hst.pull15
      replace hst := hst.own_close hq1026
      replace hst := hst.pull15
      replace hst := hst.own_close hq1028
      replace hst := hst.pull15
      replace hst := hst.own_close hq1030
      replace hst := hst.pull15
      replace hst := hst.own_close hq1032
      replace hst := hst.pull15
      replace hst := hst.own_close hq1034
      replace hst := hst.pull15
      replace hst := hst.own_close hq1036
      replace hst := hst.pull15
      replace hst := hst.own_close hq1038
      replace hst := hst.pull15
      replace hst := hst.own_close hq1040
      refine ws_next (pend' := []) hst (by kernel_rfl) pk_nil ?_
      refine ws_q (v := .bool (!t1041)) 14 [15] (by kernel_rfl) rfl rfl (yi_run ((wanted_eq rfl rfl rfl (congrArg Value.bool hc1008)).trans rfl) (fun w hst => rfl)) ?_
      refine wsr (.bool (!t1041)) 15 rfl rfl rfl (by kernel_rfl) (fun w hst => x_pick_f hc1008 rfl rfl) ?_
      refine ws_nil ?_
      intro w hst
      refine then_n ?_
      refine bsplit (!t1041) (fun hc1046 => ?_) (fun hc1046 => ?_)
      ·skip
       replace hm := bif_t hc1046 hm
       refine wp_ift (congrArg Value.bool hc1046) ?_
       refine wp_seq (wp_region_lit ?_)
       refine wv (.bool false) rfl rfl rfl ?_
       refine wl_nil (then_n (wp_ret (blk_r (then_r (then_r ?_)))))
       replace hm := inr_up hm hx883
       refine blk_r (then_r ?_)
       obtain rfl := some_inj hm
       refine post_ret (vs := [.bool false]) Try.results6 (rvs_cons (rv_tmp rfl) rvs_nil) ?_
       exact ⟨_, rfl, hI0, hst.keep0⟩
      ·skip
       replace hm := bif_f hc1046 hm
       refine wp_iff (congrArg Value.bool hc1046) ?_
       refine wp_skip (blk_n (then_n (wp_region_lit ?_)))
       refine wv (.int .i64 z875) rfl rfl rfl ?_
       refine wv (.int .i64 (IntKind.i64.wrap (z875 + (1:Int)))) rfl rfl rfl ?_
       refine wv (.int .i64 (IntKind.i64.wrap (z875 + (1:Int)))) rfl rfl rfl ?_
       refine wl_nil (then_n ?_)
       replace hst := hst.pull19
       replace hst := hst.keep1
       obtain rfl := some_inj hm
       exact ⟨_, Nat.lt_succ_self _, _, t886.2, (IntKind.i64.wrap (z875 + (1:Int))), _, hx883, ((fr_upd (t := 3) (v := .pointer (some ⟨b543, 0, none⟩)) rfl).trans ((fr_upd (t := 4) (v := .int .i64 (IntKind.i64.wrap (z875 + (1:Int)))) rfl).trans rfl)), hL880, hst⟩
   ·skip
    replace hm := bif_f hc885 hm
    refine wp_iff (congrArg Value.bool hc885) ?_
    refine wp_exit (then_x (then_x ?_))
    replace hm := inr_up hm hx883
    refine blk_x (then_n (wp_seq (wp_region_lit ?_)))
    refine wv (.bool true) rfl rfl rfl ?_
    refine wl_nil (then_n (wp_ret ?_))
    obtain rfl := some_inj hm
    refine post_ret (vs := [.bool true]) Try.results6 (rvs_cons (rv_tmp rfl) rvs_nil) ?_
    exact ⟨_, rfl, hI0, hst.keep0⟩

end Go.Proofs.Ytijcfglomdfglaa
