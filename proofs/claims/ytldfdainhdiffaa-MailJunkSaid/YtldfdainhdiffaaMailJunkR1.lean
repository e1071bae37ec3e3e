/- The Go functions refine their models, part 1. -/
import Derived.Test.YtldfdainhdiffaaMailJunkR0
set_option linter.unusedVariables false
set_option linter.unusedSimpArgs false
set_option maxRecDepth 100000
set_option maxHeartbeats 4000000
namespace Go.Proofs.Ytldfdainhdiffaa
open Go Go.V
attribute [local irreducible] wpList Code.wp wpQuiet Calls bodyPost Oper.wp wpS Nx PendOK YieldsIn
theorem octet_Reader_Num_ref {w0 w : World} {I : HL} {R : SP} {a0 : octet_Reader} {p0 : Value} {a1 : Int}  (hst : St w0 w I [at_octet_Reader p0 a0] R) {r : (Int × octet_Reader)} (hm : octet_Reader_Num a0 a1 = some r) :
  Calls Try.prog 13 #[p0, .int .i64 a1] w fun e w' => e = .returned (.int .u64 r.1) ∧ St w0 w' I [at_octet_Reader p0 r.2] R := by
 unfold octet_Reader_Num at hm
 refine calls_start (args := [p0, .int .i64 a1]) Try.func13 rfl Try.ntmps13 (Nat.le_of_ble_eq_true rfl) ?_
 refine wp_seq (wp_region_lit ?_)
 refine wv (.int .u64 (0:Int)) rfl rfl rfl ?_
 refine wl_nil (then_n (wp_seq (wp_seq (wp_region_lit ?_))))
 refine wv (p0) rfl rfl rfl ?_
 obtain ⟨b146, v147, ⟨rfl, f149⟩, hst'⟩ := at_octet_Reader_open hst
 clear hst
 have hst := hst'
 clear hst'
 refine wv (.bool false) rfl rfl (by kernel_rfl) ?_
 refine wv (.bool false) rfl rfl rfl ?_
 refine wv (.pointer (some ⟨b146, 0, none⟩)) ((wanted_eq rfl rfl rfl rfl).trans rfl) rfl rfl ?_
 refine wv (.pointer (some ⟨b146, 0, none⟩)) ((wanted_eq rfl rfl rfl rfl).trans rfl) rfl rfl ?_
 refine wv (.pointer (some ⟨b146, 1, none⟩)) ((wanted_eq rfl rfl rfl rfl).trans rfl) rfl (x_field rfl Try.underlying99 rfl Try.sizeOf4 rfl) ?_
 refine wv (.bool a0.bad) ((wanted_eq rfl rfl rfl rfl).trans rfl) rfl (x_load rfl Try.isAgg4 (hst.bc0 rfl)) ?_
 refine wv (.bool a0.bad) rfl rfl (x_pick_f rfl rfl rfl) ?_
 refine wv (.bool a0.bad) rfl rfl rfl ?_
 refine bsplit a0.bad (fun hc150 => ?_) (fun hc150 => ?_)
 ·skip
  replace hm := bif_t hc150 hm
  refine wo hc150 rfl rfl rfl rfl rfl rfl ?_
  refine wo hc150 rfl rfl rfl rfl rfl rfl ?_
  refine wv (.bool true) rfl rfl (x_pick_t hc150 rfl rfl) ?_
  refine wv (.bool true) rfl rfl rfl ?_
  refine wl_off ((wanted_eq rfl rfl rfl rfl).trans rfl) rfl ?_
  refine wl_off ((wanted_eq rfl rfl rfl rfl).trans rfl) rfl ?_
  refine wl_off ((wanted_eq rfl rfl rfl rfl).trans rfl) rfl ?_
  refine wl_off ((wanted_eq rfl rfl rfl rfl).trans rfl) rfl ?_
  refine wl_off ((wanted_eq rfl rfl rfl rfl).trans rfl) rfl ?_
  refine wl_off ((wanted_eq rfl rfl rfl rfl).trans rfl) rfl ?_
  refine wl_off ((wanted_eq rfl rfl rfl rfl).trans rfl) rfl ?_
  refine wv (.bool true) rfl rfl (x_pick_t rfl rfl rfl) ?_
  refine wl_nil (then_n ?_)
  refine wp_ift rfl ?_
  refine wp_seq (wp_region_lit ?_)
  refine wv (.pointer (some ⟨b146, 0, none⟩)) rfl rfl rfl ?_
  replace hst := at_octet_Reader_close (pv := .pointer (some ⟨b146, 0, none⟩)) (x := a0) hst ⟨rfl, f149⟩
  obtain ⟨t151, ht152, hm⟩ := bind_some hm
  refine wl_call rfl rfl (x_call Try.call44 rfl (vs := [.pointer (some ⟨b146, 0, none⟩)]) rfl) ?_
  refine (octet_Reader_spoil_ref hst.to1 ht152).mono ?_
  rintro _ w153 ⟨rfl, hst⟩
  refine ⟨_, rfl, ?_⟩
  replace hst := hst.of1
  refine wl_nil (then_n (wp_seq (wp_region_lit ?_)))
  refine wv (.int .u64 (0:Int)) rfl rfl rfl ?_
  refine wl_nil (then_n (wp_ret (then_r ?_)))
  obtain rfl := some_inj hm
  refine post_ret (vs := [.int .u64 (0:Int)]) Try.results13 (rvs_cons (rv_tmp rfl) rvs_nil) ?_
  exact ⟨rfl, hst.keep1⟩
 ·skip
  replace hm := bif_f hc150 hm
  refine wv (.int .i64 a1) ((wanted_eq rfl rfl rfl (congrArg Value.bool hc150)).trans rfl) rfl rfl ?_
  refine wv (.bool (decide (a1 < (0:Int)))) ((wanted_eq rfl rfl rfl (congrArg Value.bool hc150)).trans rfl) rfl rfl ?_
  refine wv (.bool (decide (a1 < (0:Int)))) rfl rfl (x_pick_f hc150 rfl rfl) ?_
  refine wv (.bool (decide (a1 < (0:Int)))) rfl rfl rfl ?_
  refine bsplit (decide (a1 < (0:Int))) (fun hc156 => ?_) (fun hc156 => ?_)
  ·skip
   replace hm := bif_t hc156 hm
   refine wo hc156 rfl rfl rfl rfl rfl rfl ?_
   refine wo hc156 rfl rfl rfl rfl rfl rfl ?_
   refine wo hc156 rfl rfl rfl rfl rfl rfl ?_
   refine wo hc156 rfl rfl rfl rfl rfl rfl ?_
   refine wo hc156 rfl rfl rfl rfl rfl rfl ?_
   refine wo hc156 rfl rfl rfl rfl rfl rfl ?_
   refine wo hc156 rfl rfl rfl rfl rfl rfl ?_
   refine wv (.bool true) rfl rfl (x_pick_t hc156 rfl rfl) ?_
   refine wl_nil (then_n ?_)
   refine wp_ift rfl ?_
   refine wp_seq (wp_region_lit ?_)
   refine wv (.pointer (some ⟨b146, 0, none⟩)) rfl rfl rfl ?_
   replace hst := at_octet_Reader_close (pv := .pointer (some ⟨b146, 0, none⟩)) (x := a0) hst ⟨rfl, f149⟩
   obtain ⟨t157, ht158, hm⟩ := bind_some hm
   refine wl_call rfl rfl (x_call Try.call44 rfl (vs := [.pointer (some ⟨b146, 0, none⟩)]) rfl) ?_
   refine (octet_Reader_spoil_ref hst.to1 ht158).mono ?_
   rintro _ w159 ⟨rfl, hst⟩
   refine ⟨_, rfl, ?_⟩
   replace hst := hst.of1
   refine wl_nil (then_n (wp_seq (wp_region_lit ?_)))
   refine wv (.int .u64 (0:Int)) rfl rfl rfl ?_
   refine wl_nil (then_n (wp_ret (then_r ?_)))
   obtain rfl := some_inj hm
   refine post_ret (vs := [.int .u64 (0:Int)]) Try.results13 (rvs_cons (rv_tmp rfl) rvs_nil) ?_
   exact ⟨rfl, hst.keep1⟩
  ·skip
   replace hm := bif_f hc156 hm
   refine wv (.pointer (some ⟨b146, 0, none⟩)) ((wanted_eq rfl rfl rfl (congrArg Value.bool hc156)).trans rfl) rfl rfl ?_
   refine wv (.pointer (some ⟨b146, 0, none⟩)) ((wanted_eq rfl rfl rfl (congrArg Value.bool hc156)).trans rfl) rfl rfl ?_
   refine wv (.pointer (some ⟨b146, 0, none⟩)) ((wanted_eq rfl rfl rfl (congrArg Value.bool hc156)).trans rfl) rfl (x_field rfl Try.underlying99 rfl Try.sizeOf22 rfl) ?_
   refine wv (v147) ((wanted_eq rfl rfl rfl (congrArg Value.bool hc156)).trans rfl) rfl (x_load rfl Try.isAgg22 (hst.bc0 rfl)) ?_
   refine wv (.int .i64 ((a0.p).length : Int)) ((wanted_eq rfl rfl rfl (congrArg Value.bool hc156)).trans rfl) rfl (x_len rfl Try.underlying22 (ro_sliceV f149)) ?_
   refine wv (.int .i64 a1) ((wanted_eq rfl rfl rfl (congrArg Value.bool hc156)).trans rfl) rfl rfl ?_
   refine wv (.bool (decide (((a0.p).length : Int) < a1))) ((wanted_eq rfl rfl rfl (congrArg Value.bool hc156)).trans rfl) rfl rfl ?_
   refine wv (.bool (decide (((a0.p).length : Int) < a1))) rfl rfl (x_pick_f hc156 rfl rfl) ?_
   refine wl_nil (then_n ?_)
   refine bsplit (decide (((a0.p).length : Int) < a1)) (fun hc162 => ?_) (fun hc162 => ?_)
   ·skip
    replace hm := bif_t hc162 hm
    refine wp_ift (congrArg Value.bool hc162) ?_
    refine wp_seq (wp_region_lit ?_)
    refine wv (.pointer (some ⟨b146, 0, none⟩)) rfl rfl rfl ?_
    replace hst := at_octet_Reader_close (pv := .pointer (some ⟨b146, 0, none⟩)) (x := a0) hst ⟨rfl, f149⟩
    obtain ⟨t163, ht164, hm⟩ := bind_some hm
    refine wl_call rfl rfl (x_call Try.call44 rfl (vs := [.pointer (some ⟨b146, 0, none⟩)]) rfl) ?_
    refine (octet_Reader_spoil_ref hst.to1 ht164).mono ?_
    rintro _ w165 ⟨rfl, hst⟩
    refine ⟨_, rfl, ?_⟩
    replace hst := hst.of1
    refine wl_nil (then_n (wp_seq (wp_region_lit ?_)))
    refine wv (.int .u64 (0:Int)) rfl rfl rfl ?_
    refine wl_nil (then_n (wp_ret (then_r ?_)))
    obtain rfl := some_inj hm
    refine post_ret (vs := [.int .u64 (0:Int)]) Try.results13 (rvs_cons (rv_tmp rfl) rvs_nil) ?_
    exact ⟨rfl, hst.keep1⟩
   ·skip
    replace hm := bif_f hc162 hm
    refine wp_iff (congrArg Value.bool hc162) ?_
    refine wp_skip (then_n (wp_seq (wp_region_lit ?_)))
    refine wv (.int .u64 (0:Int)) rfl rfl rfl ?_
    refine wl_nil (then_n ?_)
    obtain ⟨y219, hm, hx220⟩ := bind_some hm
    refine wp_cut (fun a w => ∃ (z216 : Int) (σ217 : Nat → Value), (octet_Reader_Num_j0 a0 a1) z216 = some r ∧ a = Fr 59 (upd (upd (upd σ217 0 (.pointer (some ⟨b146, 0, none⟩))) 1 (.int .i64 a1)) 5 (.int .u64 z216)) ∧ St w0 w I [at_octet_Reader (.pointer (some ⟨b146, 0, none⟩)) a0] R) ?_ ?_
    ·skip
     refine wp_seq (wp_region_lit ?_)
     refine wv (.int .i64 a1) rfl rfl rfl ?_
     refine wv (.int .i64 (if (8:Int) < a1 then (8:Int) else a1)) rfl rfl (by kernel_rfl) ?_
     refine wv (.int .i64 (0:Int)) rfl rfl rfl ?_
     refine wl_nil (then_n (wp_block ?_))
     replace hst := at_octet_Reader_close (pv := .pointer (some ⟨b146, 0, none⟩)) (x := a0) hst ⟨rfl, f149⟩
     obtain ⟨n197, hm⟩ := loopO_some hm
     refine wp_loop_n (fun n a w => ∃ (z194 : Int) (z195 : Int) (σ196 : Nat → Value), loopN (octet_Reader_Num_l1 a1 a0) n (z194, z195) = some y219 ∧ a = Fr 59 (upd (upd (upd (upd (upd σ196 0 (.pointer (some ⟨b146, 0, none⟩))) 1 (.int .i64 a1)) 5 (.int .u64 z195)) 31 (.int .i64 (if (8:Int) < a1 then (8:Int) else a1))) 32 (.int .i64 z194)) ∧ St w0 w I [at_octet_Reader (.pointer (some ⟨b146, 0, none⟩)) a0] R) n197 ⟨(0:Int), (0:Int), _, hm, ((fr_upd (t := 0) (v := .pointer (some ⟨b146, 0, none⟩)) rfl).trans ((fr_upd (t := 1) (v := .int .i64 a1) rfl).trans ((fr_upd (t := 5) (v := .int .u64 (0:Int)) rfl).trans ((fr_upd (t := 31) (v := .int .i64 (if (8:Int) < a1 then (8:Int) else a1)) rfl).trans ((fr_upd (t := 32) (v := .int .i64 (0:Int)) rfl).trans rfl))))), hst⟩ ?_
     rintro n203 _ w198 ⟨z194, z195, σ196, hm, rfl, hst⟩
     obtain ⟨n200, y201, rfl, hm, hx202⟩ := loopN_some hm
     dsimp only [octet_Reader_Num_l1] at hm
     refine wp_seq (wp_region_lit ?_)
     refine wv (.bool (decide (z194 < (if (8:Int) < a1 then (8:Int) else a1)))) rfl rfl rfl ?_
     refine wl_nil (then_n (wp_seq ?_))
     refine bsplit (decide (z194 < (if (8:Int) < a1 then (8:Int) else a1))) (fun hc204 => ?_) (fun hc204 => ?_)
     ·skip
      replace hm := bif_t hc204 hm
      refine wp_ift (congrArg Value.bool hc204) ?_
      refine wp_skip (then_n (wp_seq (wp_block (wp_seq (wp_region_lit ?_)))))
      refine wv (.int .i64 z194) rfl rfl rfl ?_
      refine wv (.int .i64 z194) rfl rfl rfl ?_
      refine wl_nil (then_n (wp_region_lit ?_))
      refine wv (.int .u64 z195) rfl rfl rfl ?_
      refine wv (.pointer (some ⟨b146, 0, none⟩)) rfl rfl rfl ?_
      obtain ⟨b205, v206, ⟨e209, f208⟩, hst'⟩ := at_octet_Reader_open hst
      clear hst
      have e209 := ptr_inj e209
      subst e209
      have hst := hst'
      clear hst'
      refine wv (.pointer (some ⟨b146, 0, none⟩)) rfl rfl rfl ?_
      refine wv (.pointer (some ⟨b146, 0, none⟩)) rfl rfl (x_field rfl Try.underlying99 rfl Try.sizeOf22 rfl) ?_
      refine wv (v206) rfl rfl (x_load rfl Try.isAgg22 (hst.bc0 rfl)) ?_
      refine wv (.int .i64 z194) rfl rfl rfl ?_
      obtain ⟨x210, hx211, hm⟩ := bind_some hm
      obtain ⟨h212, h213, hi214⟩ := geto_some hx211
      refine wv (.pointer (some (eAddr v206 (z194.toNat * 1 + 0)))) rfl rfl (x_index rfl rfl Try.underlying22 Try.sizeOf5 (ro_sliceV f208) h212 h213) ?_
      refine wv (.int .u8 x210) rfl rfl (x_load rfl Try.isAgg5 (ro_load f208 hst hi214 (by rintro _ rfl; rfl))) ?_
      refine wv (.int .u64 (IntKind.u64.wrap x210)) rfl rfl (by kernel_rfl) ?_
      refine wv (.int .i64 z194) rfl rfl rfl ?_
      refine wv (.int .i64 (IntKind.i64.wrap ((8:Int) * z194))) rfl rfl rfl ?_
      obtain ⟨hg215, hm⟩ := gd_some hm
      refine wv (.int .u64 (iShl .u64 (IntKind.u64.wrap x210) (IntKind.i64.wrap ((8:Int) * z194)))) rfl rfl (x_shl (of_decide_eq_true hg215) rfl rfl) ?_
      refine wv (.int .u64 (bOr .u64 z195 (iShl .u64 (IntKind.u64.wrap x210) (IntKind.i64.wrap ((8:Int) * z194))))) rfl rfl rfl ?_
      refine wv (.int .u64 (bOr .u64 z195 (iShl .u64 (IntKind.u64.wrap x210) (IntKind.i64.wrap ((8:Int) * z194))))) rfl rfl rfl ?_
      refine wl_nil (blk_n (then_n (wp_region_lit ?_)))
      refine wv (.int .i64 (IntKind.i64.wrap (z194 + (1:Int)))) rfl rfl rfl ?_
      refine wv (.int .i64 (IntKind.i64.wrap (z194 + (1:Int)))) rfl rfl rfl ?_
      refine wl_nil (then_n ?_)
      replace hst := at_octet_Reader_close (pv := .pointer (some ⟨b146, 0, none⟩)) (x := a0) hst ⟨rfl, f208⟩
      replace hst := hst.keep1
      obtain rfl := some_inj hm
      exact ⟨_, Nat.lt_succ_self _, (IntKind.i64.wrap (z194 + (1:Int))), (bOr .u64 z195 (iShl .u64 (IntKind.u64.wrap x210) (IntKind.i64.wrap ((8:Int) * z194)))), _, hx202, ((fr_upd (t := 0) (v := .pointer (some ⟨b146, 0, none⟩)) rfl).trans ((fr_upd (t := 1) (v := .int .i64 a1) rfl).trans ((fr_upd (t := 5) (v := .int .u64 (bOr .u64 z195 (iShl .u64 (IntKind.u64.wrap x210) (IntKind.i64.wrap ((8:Int) * z194))))) rfl).trans ((fr_upd (t := 31) (v := .int .i64 (if (8:Int) < a1 then (8:Int) else a1)) rfl).trans ((fr_upd (t := 32) (v := .int .i64 (IntKind.i64.wrap (z194 + (1:Int)))) rfl).trans rfl))))), hst⟩
     ·skip
      replace hm := bif_f hc204 hm
      refine wp_iff (congrArg Value.bool hc204) ?_
      refine wp_exit (then_x (then_x ?_))
      replace hm := inr_up hm hx202
      refine blk_x (then_n ?_)
      replace hst := hst.keep1
      obtain rfl := some_inj hm
      exact ⟨z195, _, hx220, ((fr_upd (t := 0) (v := .pointer (some ⟨b146, 0, none⟩)) rfl).trans ((fr_upd (t := 1) (v := .int .i64 a1) rfl).trans ((fr_upd (t := 5) (v := .int .u64 z195) rfl).trans rfl))), hst⟩
    ·skip
     clear hst
     rintro _ w221 ⟨z216, σ217, hm, rfl, hst⟩
     dsimp only [octet_Reader_Num_j0] at hm
     refine wp_seq (wp_region_lit ?_)
     refine wv (.pointer (some ⟨b146, 0, none⟩)) rfl rfl rfl ?_
     refine wv (.pointer (some ⟨b146, 0, none⟩)) rfl rfl rfl ?_
     obtain ⟨b222, v223, ⟨e226, f225⟩, hst'⟩ := at_octet_Reader_open hst
     clear hst
     have e226 := ptr_inj e226
     subst e226
     have hst := hst'
     clear hst'
     refine wv (.pointer (some ⟨b146, 0, none⟩)) rfl rfl rfl ?_
     refine wv (.pointer (some ⟨b146, 0, none⟩)) rfl rfl (x_field rfl Try.underlying99 rfl Try.sizeOf22 rfl) ?_
     refine wv (v223) rfl rfl (x_load rfl Try.isAgg22 (hst.bc0 rfl)) ?_
     refine wv (.int .i64 a1) rfl rfl rfl ?_
     obtain ⟨hg227, hm⟩ := gd_some hm
     obtain ⟨h228, h229, h230⟩ := fits_of hg227
     have f232 : Ro (tyInt .u8) I (slcV 1 v223 a1.toNat (((a0.p).length : Nat) : Int).toNat) (subs a0.p a1 (((a0.p).length : Nat) : Int)) := Ro.part f225 h229 h230 h228
     refine wv ((slcV 1 v223 a1.toNat (((a0.p).length : Nat) : Int).toNat)) rfl rfl (x_slice Try.underlying22 Try.sizeOf5 rfl (ro_sliceV f225) h228 h229 h230 .i64 .i64 (.inl rfl) (.inr ⟨rfl, rfl⟩)) ?_
     refine wv (.pointer (some ⟨b146, 0, none⟩)) rfl rfl rfl ?_
     refine wv (.pointer (some ⟨b146, 0, none⟩)) rfl rfl (x_field rfl Try.underlying99 rfl Try.sizeOf22 rfl) ?_
     obtain ⟨w233, hr234, hst⟩ := hst.boxStore1 (P := Try.prog) (t := 22) (cs' := [(slcV 1 v223 a1.toNat (((a0.p).length : Nat) : Int).toNat), .bool a0.bad]) 0 (slcV 1 v223 a1.toNat (((a0.p).length : Nat) : Int).toNat) (one_of_sliceV (ro_sliceV f232)) Try.sizeOf22 rfl rfl
     refine wl_unit rfl rfl (x_unit hr234) ?_
     refine wl_nil (then_n (wp_seq (wp_region_lit ?_)))
     refine wv (.int .u64 z216) rfl rfl rfl ?_
     refine wv (.int .u64 z216) rfl rfl rfl ?_
     refine wl_nil (then_n (wp_ret ?_))
     replace hst := at_octet_Reader_close (pv := .pointer (some ⟨b146, 0, none⟩)) (x := ({ p := (subs a0.p a1 (((a0.p).length : Nat) : Int)), bad := a0.bad } : octet_Reader)) hst ⟨rfl, f232⟩
     obtain rfl := some_inj hm
     refine post_ret (vs := [.int .u64 z216]) Try.results13 (rvs_cons (rv_tmp rfl) rvs_nil) ?_
     exact ⟨rfl, hst.keep1⟩

theorem octet_Reader_Flag_ref {w0 w : World} {I : HL} {R : SP} {a0 : octet_Reader} {p0 : Value}  (hst : St w0 w I [at_octet_Reader p0 a0] R) {r : (Bool × octet_Reader)} (hm : octet_Reader_Flag a0 = some r) :
  Calls Try.prog 45 #[p0] w fun e w' => e = .returned (.bool r.1) ∧ St w0 w' I [at_octet_Reader p0 r.2] R := by
 unfold octet_Reader_Flag at hm
 refine calls_start (args := [p0]) Try.func45 rfl Try.ntmps45 (Nat.le_of_ble_eq_true rfl) ?_
 refine wp_seq (wp_region_lit ?_)
 refine wv (.bool false) rfl rfl rfl ?_
 refine wl_nil (then_n (wp_seq (wp_region_lit ?_)))
 refine wv (p0) rfl rfl rfl ?_
 obtain ⟨t156, ht157, hm⟩ := bind_some hm
 refine wl_call rfl rfl (x_call Try.call13 rfl (vs := [p0, .int .i64 (1:Int)]) rfl) ?_
 refine (octet_Reader_Num_ref hst.to1 ht157).mono ?_
 rintro _ w158 ⟨rfl, hst⟩
 refine ⟨_, rfl, ?_⟩
 replace hst := hst.of1
 refine wv (.int .u64 t156.1) rfl rfl rfl ?_
 refine wl_nil (then_n (wp_seq (wp_seq (wp_region_lit ?_))))
 refine wv (.int .u64 t156.1) rfl rfl rfl ?_
 refine wv (.bool (decide (t156.1 > (1:Int)))) rfl rfl rfl ?_
 refine wl_nil (then_n ?_)
 refine bsplit (decide (t156.1 > (1:Int))) (fun hc161 => ?_) (fun hc161 => ?_)
 ·skip
  replace hm := bif_t hc161 hm
  refine wp_ift (congrArg Value.bool hc161) ?_
  refine wp_seq (wp_region_lit ?_)
  refine wv (p0) rfl rfl rfl ?_
  obtain ⟨t162, ht163, hm⟩ := bind_some hm
  refine wl_call rfl rfl (x_call Try.call44 rfl (vs := [p0]) rfl) ?_
  refine (octet_Reader_spoil_ref hst.to1 ht163).mono ?_
  rintro _ w164 ⟨rfl, hst⟩
  refine ⟨_, rfl, ?_⟩
  replace hst := hst.of1
  refine wl_nil (then_n (wp_seq (wp_region_lit ?_)))
  refine wv (.bool false) rfl rfl rfl ?_
  refine wl_nil (then_n (wp_ret (then_r ?_)))
  obtain rfl := some_inj hm
  refine post_ret (vs := [.bool false]) Try.results45 (rvs_cons (rv_tmp rfl) rvs_nil) ?_
  exact ⟨rfl, hst.keep1⟩
 ·skip
  replace hm := bif_f hc161 hm
  refine wp_iff (congrArg Value.bool hc161) ?_
  refine wp_skip (then_n (wp_seq (wp_region_lit ?_)))
  refine wv (.int .u64 t156.1) rfl rfl rfl ?_
  refine wv (.bool (t156.1 == (1:Int))) rfl rfl rfl ?_
  refine wv (.bool (t156.1 == (1:Int))) rfl rfl rfl ?_
  refine wl_nil (then_n (wp_ret ?_))
  obtain rfl := some_inj hm
  refine post_ret (vs := [.bool (t156.1 == (1:Int))]) Try.results45 (rvs_cons (rv_tmp rfl) rvs_nil) ?_
  exact ⟨rfl, hst.keep1⟩

theorem octet_Reader_Bad_ref {w0 w : World} {I : HL} {R : SP} {a0 : octet_Reader} {p0 : Value}  (hst : St w0 w I [at_octet_Reader p0 a0] R) {r : (Bool)} (hm : octet_Reader_Bad a0 = some r) :
  Calls Try.prog 52 #[p0] w fun e w' => e = .returned (.bool r) ∧ St w0 w' I [at_octet_Reader p0 a0] R := by
 unfold octet_Reader_Bad at hm
 refine calls_start (args := [p0]) Try.func52 rfl Try.ntmps52 (Nat.le_of_ble_eq_true rfl) ?_
 refine wp_seq (wp_region_lit ?_)
 refine wv (.bool false) rfl rfl rfl ?_
 refine wl_nil (then_n (wp_seq (wp_region_lit ?_)))
 refine wv (p0) rfl rfl rfl ?_
 obtain ⟨b166, v167, ⟨rfl, f169⟩, hst'⟩ := at_octet_Reader_open hst
 clear hst
 have hst := hst'
 clear hst'
 refine wv (.bool false) rfl rfl (by kernel_rfl) ?_
 refine wv (.bool false) rfl rfl rfl ?_
 refine wv (.pointer (some ⟨b166, 0, none⟩)) ((wanted_eq rfl rfl rfl rfl).trans rfl) rfl rfl ?_
 refine wv (.pointer (some ⟨b166, 0, none⟩)) ((wanted_eq rfl rfl rfl rfl).trans rfl) rfl rfl ?_
 refine wv (.pointer (some ⟨b166, 1, none⟩)) ((wanted_eq rfl rfl rfl rfl).trans rfl) rfl (x_field rfl Try.underlying99 rfl Try.sizeOf4 rfl) ?_
 refine wv (.bool a0.bad) ((wanted_eq rfl rfl rfl rfl).trans rfl) rfl (x_load rfl Try.isAgg4 (hst.bc0 rfl)) ?_
 refine wv (.bool a0.bad) rfl rfl (x_pick_f rfl rfl rfl) ?_
 refine wv (.bool a0.bad) rfl rfl rfl ?_
 refine wl_nil (then_n (wp_ret ?_))
 replace hst := at_octet_Reader_close (pv := .pointer (some ⟨b166, 0, none⟩)) (x := a0) hst ⟨rfl, f169⟩
 obtain rfl := some_inj hm
 refine post_ret (vs := [.bool a0.bad]) Try.results52 (rvs_cons (rv_tmp rfl) rvs_nil) ?_
 exact ⟨rfl, hst.keep1⟩

theorem octet_Reader_Left_ref {w0 w : World} {I : HL} {R : SP} {a0 : octet_Reader} {p0 : Value}  (hst : St w0 w I [at_octet_Reader p0 a0] R) {r : (Int)} (hm : octet_Reader_Left a0 = some r) :
  Calls Try.prog 47 #[p0] w fun e w' => e = .returned (.int .i64 r) ∧ St w0 w' I [at_octet_Reader p0 a0] R := by
 unfold octet_Reader_Left at hm
 refine calls_start (args := [p0]) Try.func47 rfl Try.ntmps47 (Nat.le_of_ble_eq_true rfl) ?_
 refine wp_seq (wp_region_lit ?_)
 refine wv (.int .i64 (0:Int)) rfl rfl rfl ?_
 refine wl_nil (then_n (wp_seq (wp_seq (wp_region_lit ?_))))
 refine wv (p0) rfl rfl rfl ?_
 obtain ⟨t171, ht172, hm⟩ := bind_some hm
 refine wl_call rfl rfl (x_call Try.call52 rfl (vs := [p0]) rfl) ?_
 refine (octet_Reader_Bad_ref hst.to1 ht172).mono ?_
 rintro _ w173 ⟨rfl, hst⟩
 refine ⟨_, rfl, ?_⟩
 replace hst := hst.of1
 refine wl_nil (then_n ?_)
 refine bsplit t171 (fun hc176 => ?_) (fun hc176 => ?_)
 ·skip
  replace hm := bif_t hc176 hm
  refine wp_ift (congrArg Value.bool hc176) ?_
  refine wp_seq (wp_region_lit ?_)
  refine wv (.int .i64 (0:Int)) rfl rfl rfl ?_
  refine wl_nil (then_n (wp_ret (then_r ?_)))
  obtain rfl := some_inj hm
  refine post_ret (vs := [.int .i64 (0:Int)]) Try.results47 (rvs_cons (rv_tmp rfl) rvs_nil) ?_
  exact ⟨rfl, hst.keep1⟩
 ·skip
  replace hm := bif_f hc176 hm
  refine wp_iff (congrArg Value.bool hc176) ?_
  refine wp_skip (then_n (wp_seq (wp_region_lit ?_)))
  refine wv (p0) rfl rfl rfl ?_
  obtain ⟨b177, v178, ⟨rfl, f180⟩, hst'⟩ := at_octet_Reader_open hst
  clear hst
  have hst := hst'
  clear hst'
  refine wv (.pointer (some ⟨b177, 0, none⟩)) rfl rfl rfl ?_
  refine wv (.pointer (some ⟨b177, 0, none⟩)) rfl rfl (x_field rfl Try.underlying99 rfl Try.sizeOf22 rfl) ?_
  refine wv (v178) rfl rfl (x_load rfl Try.isAgg22 (hst.bc0 rfl)) ?_
  refine wv (.int .i64 ((a0.p).length : Int)) rfl rfl (x_len rfl Try.underlying22 (ro_sliceV f180)) ?_
  refine wv (.int .i64 ((a0.p).length : Int)) rfl rfl rfl ?_
  refine wl_nil (then_n (wp_ret ?_))
  replace hst := at_octet_Reader_close (pv := .pointer (some ⟨b177, 0, none⟩)) (x := a0) hst ⟨rfl, f180⟩
  obtain rfl := some_inj hm
  refine post_ret (vs := [.int .i64 ((a0.p).length : Int)]) Try.results47 (rvs_cons (rv_tmp rfl) rvs_nil) ?_
  exact ⟨rfl, hst.keep1⟩

theorem octet_Reader_Count_ref {w0 w : World} {I : HL} {R : SP} {a0 : octet_Reader} {p0 : Value} {a1 : Int}  (hst : St w0 w I [at_octet_Reader p0 a0] R) {r : (Int × octet_Reader)} (hm : octet_Reader_Count a0 a1 = some r) :
  Calls Try.prog 46 #[p0, .int .i64 a1] w fun e w' => e = .returned (.int .i64 r.1) ∧ St w0 w' I [at_octet_Reader p0 r.2] R := by
 unfold octet_Reader_Count at hm
 refine calls_start (args := [p0, .int .i64 a1]) Try.func46 rfl Try.ntmps46 (Nat.le_of_ble_eq_true rfl) ?_
 refine wp_seq (wp_region_lit ?_)
 refine wv (.int .i64 (0:Int)) rfl rfl rfl ?_
 refine wl_nil (then_n (wp_seq (wp_region_lit ?_)))
 refine wv (p0) rfl rfl rfl ?_
 obtain ⟨t183, ht184, hm⟩ := bind_some hm
 refine wl_call rfl rfl (x_call Try.call13 rfl (vs := [p0, .int .i64 (4:Int)]) rfl) ?_
 refine (octet_Reader_Num_ref hst.to1 ht184).mono ?_
 rintro _ w185 ⟨rfl, hst⟩
 refine ⟨_, rfl, ?_⟩
 replace hst := hst.of1
 refine wv (.int .u64 t183.1) rfl rfl rfl ?_
 refine wl_nil (then_n (wp_seq (wp_seq (wp_region_lit ?_))))
 refine wv (.int .i64 a1) rfl rfl rfl ?_
 refine wv (.bool (decide (a1 < (0:Int)))) rfl rfl rfl ?_
 refine wv (.bool (decide (a1 < (0:Int)))) rfl rfl rfl ?_
 refine bsplit (decide (a1 < (0:Int))) (fun hc188 => ?_) (fun hc188 => ?_)
 ·skip
  replace hm := bif_t hc188 hm
  refine wo hc188 rfl rfl rfl rfl rfl rfl ?_
  refine wo hc188 rfl rfl rfl rfl rfl rfl ?_
  refine wo hc188 rfl rfl rfl rfl rfl rfl ?_
  refine wo hc188 rfl rfl rfl rfl rfl rfl ?_
  refine wv (.bool true) rfl rfl (x_pick_t hc188 rfl rfl) ?_
  refine wl_nil (then_n ?_)
  refine wp_ift rfl ?_
  refine wp_seq (wp_region_lit ?_)
  refine wv (p0) rfl rfl rfl ?_
  obtain ⟨t189, ht190, hm⟩ := bind_some hm
  refine wl_call rfl rfl (x_call Try.call44 rfl (vs := [p0]) rfl) ?_
  refine (octet_Reader_spoil_ref hst.to1 ht190).mono ?_
  rintro _ w191 ⟨rfl, hst⟩
  refine ⟨_, rfl, ?_⟩
  replace hst := hst.of1
  refine wl_nil (then_n (wp_seq (wp_region_lit ?_)))
  refine wv (.int .i64 (0:Int)) rfl rfl rfl ?_
  refine wl_nil (then_n (wp_ret (then_r ?_)))
  obtain rfl := some_inj hm
  refine post_ret (vs := [.int .i64 (0:Int)]) Try.results46 (rvs_cons (rv_tmp rfl) rvs_nil) ?_
  exact ⟨rfl, hst.keep1⟩
 ·skip
  replace hm := bif_f hc188 hm
  refine wv (.int .u64 t183.1) ((wanted_eq rfl rfl rfl (congrArg Value.bool hc188)).trans rfl) rfl rfl ?_
  refine wv (.int .i64 a1) ((wanted_eq rfl rfl rfl (congrArg Value.bool hc188)).trans rfl) rfl rfl ?_
  refine wv (.int .u64 (IntKind.u64.wrap a1)) ((wanted_eq rfl rfl rfl (congrArg Value.bool hc188)).trans rfl) rfl (by kernel_rfl) ?_
  refine wv (.bool (decide (t183.1 > (IntKind.u64.wrap a1)))) ((wanted_eq rfl rfl rfl (congrArg Value.bool hc188)).trans rfl) rfl rfl ?_
  refine wv (.bool (decide (t183.1 > (IntKind.u64.wrap a1)))) rfl rfl (x_pick_f hc188 rfl rfl) ?_
  refine wl_nil (then_n ?_)
  refine bsplit (decide (t183.1 > (IntKind.u64.wrap a1))) (fun hc194 => ?_) (fun hc194 => ?_)
  ·skip
   replace hm := bif_t hc194 hm
   refine wp_ift (congrArg Value.bool hc194) ?_
   refine wp_seq (wp_region_lit ?_)
   refine wv (p0) rfl rfl rfl ?_
   obtain ⟨t195, ht196, hm⟩ := bind_some hm
   refine wl_call rfl rfl (x_call Try.call44 rfl (vs := [p0]) rfl) ?_
   refine (octet_Reader_spoil_ref hst.to1 ht196).mono ?_
   rintro _ w197 ⟨rfl, hst⟩
   refine ⟨_, rfl, ?_⟩
   replace hst := hst.of1
   refine wl_nil (then_n (wp_seq (wp_region_lit ?_)))
   refine wv (.int .i64 (0:Int)) rfl rfl rfl ?_
   refine wl_nil (then_n (wp_ret (then_r ?_)))
   obtain rfl := some_inj hm
   refine post_ret (vs := [.int .i64 (0:Int)]) Try.results46 (rvs_cons (rv_tmp rfl) rvs_nil) ?_
   exact ⟨rfl, hst.keep1⟩
  ·skip
   replace hm := bif_f hc194 hm
   refine wp_iff (congrArg Value.bool hc194) ?_
   refine wp_skip (then_n (wp_seq (wp_region_lit ?_)))
   refine wv (.int .u64 t183.1) rfl rfl rfl ?_
   refine wv (.int .i64 (IntKind.i64.wrap t183.1)) rfl rfl (by kernel_rfl) ?_
   refine wv (.int .i64 (IntKind.i64.wrap t183.1)) rfl rfl rfl ?_
   refine wl_nil (then_n (wp_ret ?_))
   obtain rfl := some_inj hm
   refine post_ret (vs := [.int .i64 (IntKind.i64.wrap t183.1)]) Try.results46 (rvs_cons (rv_tmp rfl) rvs_nil) ?_
   exact ⟨rfl, hst.keep1⟩

theorem octet_Reader_Bytes_ref {w0 w : World} {I : HL} {R : SP} {a0 : octet_Reader} {p0 : Value} {a1 : Int}  (hst : St w0 w I [at_octet_Reader p0 a0] R) {r : ((List Int) × octet_Reader)} (hm : octet_Reader_Bytes a0 a1 = some r) :
  Calls Try.prog 18 #[p0, .int .i64 a1] w fun e w' => ∃ (q0_0 : Value), e = .returned (q0_0) ∧ St w0 w' I [ownS (tyInt .u8) q0_0 r.1, at_octet_Reader p0 r.2] R := by
 unfold octet_Reader_Bytes at hm
 refine calls_start (args := [p0, .int .i64 a1]) Try.func18 rfl Try.ntmps18 (Nat.le_of_ble_eq_true rfl) ?_
 refine wp_seq (wp_region_lit ?_)
 refine wv ((.slice none 0 0)) rfl rfl rfl ?_
 refine wl_nil (then_n (wp_seq (wp_region_lit ?_)))
 refine wv (p0) rfl rfl rfl ?_
 obtain ⟨t230, ht231, hm⟩ := bind_some hm
 refine wl_call rfl rfl (x_call Try.call13 rfl (vs := [p0, .int .i64 (4:Int)]) rfl) ?_
 refine (octet_Reader_Num_ref hst.to1 ht231).mono ?_
 rintro _ w232 ⟨rfl, hst⟩
 refine ⟨_, rfl, ?_⟩
 replace hst := hst.of1
 refine wv (.int .u64 t230.1) rfl rfl rfl ?_
 refine wl_nil (then_n (wp_seq (wp_seq (wp_region_lit ?_))))
 refine wv (p0) rfl rfl rfl ?_
 obtain ⟨b235, v236, ⟨rfl, f238⟩, hst'⟩ := at_octet_Reader_open hst
 clear hst
 have hst := hst'
 clear hst'
 refine wv (.bool false) rfl rfl (by kernel_rfl) ?_
 refine wv (.bool false) rfl rfl rfl ?_
 refine wv (.pointer (some ⟨b235, 0, none⟩)) ((wanted_eq rfl rfl rfl rfl).trans rfl) rfl rfl ?_
 refine wv (.pointer (some ⟨b235, 0, none⟩)) ((wanted_eq rfl rfl rfl rfl).trans rfl) rfl rfl ?_
 refine wv (.pointer (some ⟨b235, 1, none⟩)) ((wanted_eq rfl rfl rfl rfl).trans rfl) rfl (x_field rfl Try.underlying99 rfl Try.sizeOf4 rfl) ?_
 refine wv (.bool t230.2.bad) ((wanted_eq rfl rfl rfl rfl).trans rfl) rfl (x_load rfl Try.isAgg4 (hst.bc0 rfl)) ?_
 refine wv (.bool t230.2.bad) rfl rfl (x_pick_f rfl rfl rfl) ?_
 refine wv (.bool t230.2.bad) rfl rfl rfl ?_
 refine bsplit t230.2.bad (fun hc239 => ?_) (fun hc239 => ?_)
 ·skip
  replace hm := bif_t hc239 hm
  refine wo hc239 rfl rfl rfl rfl rfl rfl ?_
  refine wo hc239 rfl rfl rfl rfl rfl rfl ?_
  refine wv (.bool true) rfl rfl (x_pick_t hc239 rfl rfl) ?_
  refine wv (.bool true) rfl rfl rfl ?_
  refine wl_off ((wanted_eq rfl rfl rfl rfl).trans rfl) rfl ?_
  refine wl_off ((wanted_eq rfl rfl rfl rfl).trans rfl) rfl ?_
  refine wl_off ((wanted_eq rfl rfl rfl rfl).trans rfl) rfl ?_
  refine wl_off ((wanted_eq rfl rfl rfl rfl).trans rfl) rfl ?_
  refine wv (.bool true) rfl rfl (x_pick_t rfl rfl rfl) ?_
  refine wv (.bool true) rfl rfl rfl ?_
  refine wl_off ((wanted_eq rfl rfl rfl rfl).trans rfl) rfl ?_
  refine wl_off ((wanted_eq rfl rfl rfl rfl).trans rfl) rfl ?_
  refine wl_off ((wanted_eq rfl rfl rfl rfl).trans rfl) rfl ?_
  refine wl_off ((wanted_eq rfl rfl rfl rfl).trans rfl) rfl ?_
  refine wl_off ((wanted_eq rfl rfl rfl rfl).trans rfl) rfl ?_
  refine wl_off ((wanted_eq rfl rfl rfl rfl).trans rfl) rfl ?_
  refine wl_off ((wanted_eq rfl rfl rfl rfl).trans rfl) rfl ?_
  refine wl_off ((wanted_eq rfl rfl rfl rfl).trans rfl) rfl ?_
  refine wv (.bool true) rfl rfl (x_pick_t rfl rfl rfl) ?_
  refine wl_nil (then_n ?_)
  refine wp_ift rfl ?_
  refine wp_seq (wp_region_lit ?_)
  refine wv (.pointer (some ⟨b235, 0, none⟩)) rfl rfl rfl ?_
  replace hst := at_octet_Reader_close (pv := .pointer (some ⟨b235, 0, none⟩)) (x := t230.2) hst ⟨rfl, f238⟩
  obtain ⟨t240, ht241, hm⟩ := bind_some hm
  refine wl_call rfl rfl (x_call Try.call44 rfl (vs := [.pointer (some ⟨b235, 0, none⟩)]) rfl) ?_
  refine (octet_Reader_spoil_ref hst.to1 ht241).mono ?_
  rintro _ w242 ⟨rfl, hst⟩
  refine ⟨_, rfl, ?_⟩
  replace hst := hst.of1
  refine wl_nil (then_n (wp_seq (wp_region_lit ?_)))
  refine wv ((.slice none 0 0)) rfl rfl rfl ?_
  refine wl_nil (then_n (wp_ret (then_r ?_)))
  replace hst := hst.own_nil (tyInt .u8)
  obtain rfl := some_inj hm
  refine post_ret (vs := [(.slice none 0 0)]) Try.results18 (rvs_cons (rv_tmp rfl) rvs_nil) ?_
  replace hst := hst.pull1
  replace hst := hst.pull1
  exact ⟨(.slice none 0 0), rfl, hst.keep2⟩
 ·skip
  replace hm := bif_f hc239 hm
  refine wv (.int .i64 a1) ((wanted_eq rfl rfl rfl (congrArg Value.bool hc239)).trans rfl) rfl rfl ?_
  refine wv (.bool (decide (a1 < (0:Int)))) ((wanted_eq rfl rfl rfl (congrArg Value.bool hc239)).trans rfl) rfl rfl ?_
  refine wv (.bool (decide (a1 < (0:Int)))) rfl rfl (x_pick_f hc239 rfl rfl) ?_
  refine wv (.bool (decide (a1 < (0:Int)))) rfl rfl rfl ?_
  refine bsplit (decide (a1 < (0:Int))) (fun hc246 => ?_) (fun hc246 => ?_)
  ·skip
   replace hm := bif_t hc246 hm
   refine wo hc246 rfl rfl rfl rfl rfl rfl ?_
   refine wo hc246 rfl rfl rfl rfl rfl rfl ?_
   refine wo hc246 rfl rfl rfl rfl rfl rfl ?_
   refine wo hc246 rfl rfl rfl rfl rfl rfl ?_
   refine wv (.bool true) rfl rfl (x_pick_t hc246 rfl rfl) ?_
   refine wv (.bool true) rfl rfl rfl ?_
   refine wl_off ((wanted_eq rfl rfl rfl rfl).trans rfl) rfl ?_
   refine wl_off ((wanted_eq rfl rfl rfl rfl).trans rfl) rfl ?_
   refine wl_off ((wanted_eq rfl rfl rfl rfl).trans rfl) rfl ?_
   refine wl_off ((wanted_eq rfl rfl rfl rfl).trans rfl) rfl ?_
   refine wl_off ((wanted_eq rfl rfl rfl rfl).trans rfl) rfl ?_
   refine wl_off ((wanted_eq rfl rfl rfl rfl).trans rfl) rfl ?_
   refine wl_off ((wanted_eq rfl rfl rfl rfl).trans rfl) rfl ?_
   refine wl_off ((wanted_eq rfl rfl rfl rfl).trans rfl) rfl ?_
   refine wv (.bool true) rfl rfl (x_pick_t rfl rfl rfl) ?_
   refine wl_nil (then_n ?_)
   refine wp_ift rfl ?_
   refine wp_seq (wp_region_lit ?_)
   refine wv (.pointer (some ⟨b235, 0, none⟩)) rfl rfl rfl ?_
   replace hst := at_octet_Reader_close (pv := .pointer (some ⟨b235, 0, none⟩)) (x := t230.2) hst ⟨rfl, f238⟩
   obtain ⟨t247, ht248, hm⟩ := bind_some hm
   refine wl_call rfl rfl (x_call Try.call44 rfl (vs := [.pointer (some ⟨b235, 0, none⟩)]) rfl) ?_
   refine (octet_Reader_spoil_ref hst.to1 ht248).mono ?_
   rintro _ w249 ⟨rfl, hst⟩
   refine ⟨_, rfl, ?_⟩
   replace hst := hst.of1
   refine wl_nil (then_n (wp_seq (wp_region_lit ?_)))
   refine wv ((.slice none 0 0)) rfl rfl rfl ?_
   refine wl_nil (then_n (wp_ret (then_r ?_)))
   replace hst := hst.own_nil (tyInt .u8)
   obtain rfl := some_inj hm
   refine post_ret (vs := [(.slice none 0 0)]) Try.results18 (rvs_cons (rv_tmp rfl) rvs_nil) ?_
   replace hst := hst.pull1
   replace hst := hst.pull1
   exact ⟨(.slice none 0 0), rfl, hst.keep2⟩
  ·skip
   replace hm := bif_f hc246 hm
   refine wv (.int .u64 t230.1) ((wanted_eq rfl rfl rfl (congrArg Value.bool hc246)).trans rfl) rfl rfl ?_
   refine wv (.int .i64 a1) ((wanted_eq rfl rfl rfl (congrArg Value.bool hc246)).trans rfl) rfl rfl ?_
   refine wv (.int .u64 (IntKind.u64.wrap a1)) ((wanted_eq rfl rfl rfl (congrArg Value.bool hc246)).trans rfl) rfl (by kernel_rfl) ?_
   refine wv (.bool (decide (t230.1 > (IntKind.u64.wrap a1)))) ((wanted_eq rfl rfl rfl (congrArg Value.bool hc246)).trans rfl) rfl rfl ?_
   refine wv (.bool (decide (t230.1 > (IntKind.u64.wrap a1)))) rfl rfl (x_pick_f hc246 rfl rfl) ?_
   refine wv (.bool (decide (t230.1 > (IntKind.u64.wrap a1)))) rfl rfl rfl ?_
   refine bsplit (decide (t230.1 > (IntKind.u64.wrap a1))) (fun hc253 => ?_) (fun hc253 => ?_)
   ·skip
    replace hm := bif_t hc253 hm
    refine wo hc253 rfl rfl rfl rfl rfl rfl ?_
    refine wo hc253 rfl rfl rfl rfl rfl rfl ?_
    refine wo hc253 rfl rfl rfl rfl rfl rfl ?_
    refine wo hc253 rfl rfl rfl rfl rfl rfl ?_
    refine wo hc253 rfl rfl rfl rfl rfl rfl ?_
    refine wo hc253 rfl rfl rfl rfl rfl rfl ?_
    refine wo hc253 rfl rfl rfl rfl rfl rfl ?_
    refine wo hc253 rfl rfl rfl rfl rfl rfl ?_
    refine wv (.bool true) rfl rfl (x_pick_t hc253 rfl rfl) ?_
    refine wl_nil (then_n ?_)
    refine wp_ift rfl ?_
    refine wp_seq (wp_region_lit ?_)
    refine wv (.pointer (some ⟨b235, 0, none⟩)) rfl rfl rfl ?_
    replace hst := at_octet_Reader_close (pv := .pointer (some ⟨b235, 0, none⟩)) (x := t230.2) hst ⟨rfl, f238⟩
    obtain ⟨t254, ht255, hm⟩ := bind_some hm
    refine wl_call rfl rfl (x_call Try.call44 rfl (vs := [.pointer (some ⟨b235, 0, none⟩)]) rfl) ?_
    refine (octet_Reader_spoil_ref hst.to1 ht255).mono ?_
    rintro _ w256 ⟨rfl, hst⟩
    refine ⟨_, rfl, ?_⟩
    replace hst := hst.of1
    refine wl_nil (then_n (wp_seq (wp_region_lit ?_)))
    refine wv ((.slice none 0 0)) rfl rfl rfl ?_
    refine wl_nil (then_n (wp_ret (then_r ?_)))
    replace hst := hst.own_nil (tyInt .u8)
    obtain rfl := some_inj hm
    refine post_ret (vs := [(.slice none 0 0)]) Try.results18 (rvs_cons (rv_tmp rfl) rvs_nil) ?_
    replace hst := hst.pull1
    replace hst := hst.pull1
    exact ⟨(.slice none 0 0), rfl, hst.keep2⟩
   ·skip
    replace hm := bif_f hc253 hm
    refine wv (.int .u64 t230.1) ((wanted_eq rfl rfl rfl (congrArg Value.bool hc253)).trans rfl) rfl rfl ?_
    refine wv (.pointer (some ⟨b235, 0, none⟩)) ((wanted_eq rfl rfl rfl (congrArg Value.bool hc253)).trans rfl) rfl rfl ?_
    refine wv (.pointer (some ⟨b235, 0, none⟩)) ((wanted_eq rfl rfl rfl (congrArg Value.bool hc253)).trans rfl) rfl rfl ?_
    refine wv (.pointer (some ⟨b235, 0, none⟩)) ((wanted_eq rfl rfl rfl (congrArg Value.bool hc253)).trans rfl) rfl (x_field rfl Try.underlying99 rfl Try.sizeOf22 rfl) ?_
    refine wv (v236) ((wanted_eq rfl rfl rfl (congrArg Value.bool hc253)).trans rfl) rfl (x_load rfl Try.isAgg22 (hst.bc0 rfl)) ?_
    refine wv (.int .i64 ((t230.2.p).length : Int)) ((wanted_eq rfl rfl rfl (congrArg Value.bool hc253)).trans rfl) rfl (x_len rfl Try.underlying22 (ro_sliceV f238)) ?_
    refine wv (.int .u64 (IntKind.u64.wrap ((t230.2.p).length : Int))) ((wanted_eq rfl rfl rfl (congrArg Value.bool hc253)).trans rfl) rfl (by kernel_rfl) ?_
    refine wv (.bool (decide (t230.1 > (IntKind.u64.wrap ((t230.2.p).length : Int))))) ((wanted_eq rfl rfl rfl (congrArg Value.bool hc253)).trans rfl) rfl rfl ?_
    refine wv (.bool (decide (t230.1 > (IntKind.u64.wrap ((t230.2.p).length : Int))))) rfl rfl (x_pick_f hc253 rfl rfl) ?_
    refine wl_nil (then_n ?_)
    refine bsplit (decide (t230.1 > (IntKind.u64.wrap ((t230.2.p).length : Int)))) (fun hc260 => ?_) (fun hc260 => ?_)
    ·skip
     replace hm := bif_t hc260 hm
     refine wp_ift (congrArg Value.bool hc260) ?_
     refine wp_seq (wp_region_lit ?_)
     refine wv (.pointer (some ⟨b235, 0, none⟩)) rfl rfl rfl ?_
     replace hst := at_octet_Reader_close (pv := .pointer (some ⟨b235, 0, none⟩)) (x := t230.2) hst ⟨rfl, f238⟩
     obtain ⟨t261, ht262, hm⟩ := bind_some hm
     refine wl_call rfl rfl (x_call Try.call44 rfl (vs := [.pointer (some ⟨b235, 0, none⟩)]) rfl) ?_
     refine (octet_Reader_spoil_ref hst.to1 ht262).mono ?_
     rintro _ w263 ⟨rfl, hst⟩
     refine ⟨_, rfl, ?_⟩
     replace hst := hst.of1
     refine wl_nil (then_n (wp_seq (wp_region_lit ?_)))
     refine wv ((.slice none 0 0)) rfl rfl rfl ?_
     refine wl_nil (then_n (wp_ret (then_r ?_)))
     replace hst := hst.own_nil (tyInt .u8)
     obtain rfl := some_inj hm
     refine post_ret (vs := [(.slice none 0 0)]) Try.results18 (rvs_cons (rv_tmp rfl) rvs_nil) ?_
     replace hst := hst.pull1
     replace hst := hst.pull1
     exact ⟨(.slice none 0 0), rfl, hst.keep2⟩
    ·skip
     replace hm := bif_f hc260 hm
     refine wp_iff (congrArg Value.bool hc260) ?_
     refine wp_skip (then_n (wp_seq (wp_region_lit ?_)))
     refine wv (.pointer (some ⟨b235, 0, none⟩)) rfl rfl rfl ?_
     refine wv (.pointer (some ⟨b235, 0, none⟩)) rfl rfl rfl ?_
     refine wv (.pointer (some ⟨b235, 0, none⟩)) rfl rfl (x_field rfl Try.underlying99 rfl Try.sizeOf22 rfl) ?_
     refine wv (v236) rfl rfl (x_load rfl Try.isAgg22 (hst.bc0 rfl)) ?_
     refine wv (.int .u64 t230.1) rfl rfl rfl ?_
     obtain ⟨hg267, hm⟩ := gd_some hm
     obtain ⟨h268, h269, h270⟩ := fits_of hg267
     have f272 : Ro (tyInt .u8) I (slcV 1 v236 (0:Int).toNat t230.1.toNat) (subs t230.2.p (0:Int) t230.1) := Ro.part f238 h269 h270 h268
     refine wv ((slcV 1 v236 (0:Int).toNat t230.1.toNat)) rfl rfl (x_slice Try.underlying22 Try.sizeOf5 rfl (ro_sliceV f238) h268 h269 h270 .i64 .u64 (.inr ⟨rfl, rfl⟩) (.inl rfl)) ?_
     replace hst := hst.own_nil (tyInt .u8)
     obtain ⟨hg274, hm⟩ := gd_some hm
     obtain ⟨v275, w276, hr277, hst⟩ := run_append elem_22 Try.underlying22 hst (Src.of_ro hst f272) (room_of hg274 rfl) 22
     replace hst := St.nil_app hst
     refine wl_run (v := v275) (w' := w276) rfl rfl (x_append rfl rfl hr277) ?_
     refine wv (v275) rfl rfl rfl ?_
     refine wl_nil (then_n (wp_seq (wp_region_lit ?_)))
     refine wv (.pointer (some ⟨b235, 0, none⟩)) rfl rfl rfl ?_
     refine wv (.pointer (some ⟨b235, 0, none⟩)) rfl rfl rfl ?_
     refine wv (.pointer (some ⟨b235, 0, none⟩)) rfl rfl rfl ?_
     refine wv (.pointer (some ⟨b235, 0, none⟩)) rfl rfl (x_field rfl Try.underlying99 rfl Try.sizeOf22 rfl) ?_
     refine wv (v236) rfl rfl (x_load rfl Try.isAgg22 (hst.bc1 rfl)) ?_
     refine wv (.int .u64 t230.1) rfl rfl rfl ?_
     obtain ⟨hg278, hm⟩ := gd_some hm
     obtain ⟨h279, h280, h281⟩ := fits_of hg278
     have f283 : Ro (tyInt .u8) I (slcV 1 v236 t230.1.toNat (((t230.2.p).length : Nat) : Int).toNat) (subs t230.2.p t230.1 (((t230.2.p).length : Nat) : Int)) := Ro.part f238 h280 h281 h279
     refine wv ((slcV 1 v236 t230.1.toNat (((t230.2.p).length : Nat) : Int).toNat)) rfl rfl (x_slice Try.underlying22 Try.sizeOf5 rfl (ro_sliceV f238) h279 h280 h281 .u64 .i64 (.inl rfl) (.inr ⟨rfl, rfl⟩)) ?_
     refine wv (.pointer (some ⟨b235, 0, none⟩)) rfl rfl rfl ?_
     refine wv (.pointer (some ⟨b235, 0, none⟩)) rfl rfl (x_field rfl Try.underlying99 rfl Try.sizeOf22 rfl) ?_
     replace hst := hst.pull1
     obtain ⟨w284, hr285, hst⟩ := hst.boxStore1 (P := Try.prog) (t := 22) (cs' := [(slcV 1 v236 t230.1.toNat (((t230.2.p).length : Nat) : Int).toNat), .bool t230.2.bad]) 0 (slcV 1 v236 t230.1.toNat (((t230.2.p).length : Nat) : Int).toNat) (one_of_sliceV (ro_sliceV f283)) Try.sizeOf22 rfl rfl
     refine wl_unit rfl rfl (x_unit hr285) ?_
     refine wl_nil (then_n (wp_seq (wp_region_lit ?_)))
     refine wv (v275) rfl rfl rfl ?_
     refine wv (v275) rfl rfl rfl ?_
     refine wl_nil (then_n (wp_ret ?_))
     replace hst := at_octet_Reader_close (pv := .pointer (some ⟨b235, 0, none⟩)) (x := ({ p := (subs t230.2.p t230.1 (((t230.2.p).length : Nat) : Int)), bad := t230.2.bad } : octet_Reader)) hst ⟨rfl, f283⟩
     obtain rfl := some_inj hm
     refine post_ret (vs := [v275]) Try.results18 (rvs_cons (rv_tmp rfl) rvs_nil) ?_
     replace hst := hst.pull1
     exact ⟨v275, rfl, hst.keep2⟩

theorem mail_readMessage_ref {w0 w : World} {I : HL} {R : SP} {a0 : octet_Reader} {p0 : Value}  (hst : St w0 w I [at_octet_Reader p0 a0] R) {r : (api_Message × octet_Reader)} (hm : mail_readMessage a0 = some r) :
  Calls Try.prog 14 #[p0] w fun e w' => ∃ (I' : HL) (q0_0 : Value) (q0_1 : Value), e = .returned (.agg #[.int .u8 r.1.Kind, .int .i64 r.1.From, .int .i64 r.1.To, .int .u64 r.1.Term, .int .u64 r.1.Index, .int .u64 r.1.LogTerm, .int .u64 r.1.Commit, .bool r.1.OK, q0_0, .int .u64 r.1.S.Index, .int .u64 r.1.S.Term, .int .u64 r.1.S.Voters, q0_1]) ∧ I.le I' ∧ St w0 w' I' [ownS ty_api_Entry q0_0 r.1.Entries, ownS (tyInt .u8) q0_1 r.1.S.Data, at_octet_Reader p0 r.2] R := by
 unfold mail_readMessage at hm
 refine calls_start (args := [p0]) Try.func14 rfl Try.ntmps14 (Nat.le_of_ble_eq_true rfl) ?_
 have hI0 := HL.le.refl I
 refine wp_seq (wp_region_lit ?_)
 obtain ⟨b385, w386, ew387, eb388, hst⟩ := hst.box [.int .u8 (0:Int), .int .i64 (0:Int), .int .i64 (0:Int), .int .u64 (0:Int), .int .u64 (0:Int), .int .u64 (0:Int), .int .u64 (0:Int), .bool false, (.slice none 0 0), .int .u64 (0:Int), .int .u64 (0:Int), .int .u64 (0:Int), (.slice none 0 0)] 30
 refine wl_run (v := .pointer (some ⟨b385, 0, none⟩)) (w' := w386) rfl rfl (x_al (by kernel_rfl) ew387 eb388) ?_
 refine wl_nil (then_n (wp_seq (wp_region_lit ?_)))
 refine wv (p0) rfl rfl rfl ?_
 replace hst := hst.pull1
 obtain ⟨t390, ht391, hm⟩ := bind_some hm
 refine wl_call rfl rfl (x_call Try.call13 rfl (vs := [p0, .int .i64 (1:Int)]) rfl) ?_
 refine (octet_Reader_Num_ref hst.to1 ht391).mono ?_
 rintro _ w392 ⟨rfl, hst⟩
 refine ⟨_, rfl, ?_⟩
 replace hst := hst.of1
 refine wv (.int .u8 (IntKind.u8.wrap t390.1)) rfl rfl (by kernel_rfl) ?_
 refine wv (p0) rfl rfl rfl ?_
 obtain ⟨t395, ht396, hm⟩ := bind_some hm
 refine wl_call rfl rfl (x_call Try.call13 rfl (vs := [p0, .int .i64 (1:Int)]) rfl) ?_
 refine (octet_Reader_Num_ref hst.to1 ht396).mono ?_
 rintro _ w397 ⟨rfl, hst⟩
 refine ⟨_, rfl, ?_⟩
 replace hst := hst.of1
 refine wv (.int .i64 (IntKind.i64.wrap t395.1)) rfl rfl (by kernel_rfl) ?_
 refine wv (p0) rfl rfl rfl ?_
 obtain ⟨t400, ht401, hm⟩ := bind_some hm
 refine wl_call rfl rfl (x_call Try.call13 rfl (vs := [p0, .int .i64 (1:Int)]) rfl) ?_
 refine (octet_Reader_Num_ref hst.to1 ht401).mono ?_
 rintro _ w402 ⟨rfl, hst⟩
 refine ⟨_, rfl, ?_⟩
 replace hst := hst.of1
 refine wv (.int .i64 (IntKind.i64.wrap t400.1)) rfl rfl (by kernel_rfl) ?_
 refine wv (p0) rfl rfl rfl ?_
 obtain ⟨t405, ht406, hm⟩ := bind_some hm
 refine wl_call rfl rfl (x_call Try.call13 rfl (vs := [p0, .int .i64 (8:Int)]) rfl) ?_
 refine (octet_Reader_Num_ref hst.to1 ht406).mono ?_
 rintro _ w407 ⟨rfl, hst⟩
 refine ⟨_, rfl, ?_⟩
 replace hst := hst.of1
 refine wv (p0) rfl rfl rfl ?_
 obtain ⟨t410, ht411, hm⟩ := bind_some hm
 refine wl_call rfl rfl (x_call Try.call13 rfl (vs := [p0, .int .i64 (8:Int)]) rfl) ?_
 refine (octet_Reader_Num_ref hst.to1 ht411).mono ?_
 rintro _ w412 ⟨rfl, hst⟩
 refine ⟨_, rfl, ?_⟩
 replace hst := hst.of1
 refine wv (p0) rfl rfl rfl ?_
 obtain ⟨t415, ht416, hm⟩ := bind_some hm
 refine wl_call rfl rfl (x_call Try.call13 rfl (vs := [p0, .int .i64 (8:Int)]) rfl) ?_
 refine (octet_Reader_Num_ref hst.to1 ht416).mono ?_
 rintro _ w417 ⟨rfl, hst⟩
 refine ⟨_, rfl, ?_⟩
 replace hst := hst.of1
 refine wv (p0) rfl rfl rfl ?_
 obtain ⟨t420, ht421, hm⟩ := bind_some hm
 refine wl_call rfl rfl (x_call Try.call13 rfl (vs := [p0, .int .i64 (8:Int)]) rfl) ?_
 refine (octet_Reader_Num_ref hst.to1 ht421).mono ?_
 rintro _ w422 ⟨rfl, hst⟩
 refine ⟨_, rfl, ?_⟩
 replace hst := hst.of1
 refine wv (p0) rfl rfl rfl ?_
 obtain ⟨t425, ht426, hm⟩ := bind_some hm
 refine wl_call rfl rfl (x_call Try.call45 rfl (vs := [p0]) rfl) ?_
 refine (octet_Reader_Flag_ref hst.to1 ht426).mono ?_
 rintro _ w427 ⟨rfl, hst⟩
 refine ⟨_, rfl, ?_⟩
 replace hst := hst.of1
 refine wv (.agg #[.int .u8 (IntKind.u8.wrap t390.1), .int .i64 (IntKind.i64.wrap t395.1), .int .i64 (IntKind.i64.wrap t400.1), .int .u64 t405.1, .int .u64 t410.1, .int .u64 t415.1, .int .u64 t420.1, .bool t425.1, (.slice none 0 0), .int .u64 (0:Int), .int .u64 (0:Int), .int .u64 (0:Int), (.slice none 0 0)]) rfl rfl (by kernel_rfl) ?_
 obtain ⟨b434, w435, ew436, eb437, hst⟩ := hst.box [.int .u8 (0:Int), .int .i64 (0:Int), .int .i64 (0:Int), .int .u64 (0:Int), .int .u64 (0:Int), .int .u64 (0:Int), .int .u64 (0:Int), .bool false, (.slice none 0 0), .int .u64 (0:Int), .int .u64 (0:Int), .int .u64 (0:Int), (.slice none 0 0)] 30
 refine wl_run (v := .pointer (some ⟨b434, 0, none⟩)) (w' := w435) rfl rfl (x_al (by kernel_rfl) ew436 eb437) ?_
 obtain ⟨w439, hr440, hst⟩ := hst.boxStore (P := Try.prog) (t := 30) (cs' := [.int .u8 (IntKind.u8.wrap t390.1), .int .i64 (IntKind.i64.wrap t395.1), .int .i64 (IntKind.i64.wrap t400.1), .int .u64 t405.1, .int .u64 t410.1, .int .u64 t415.1, .int .u64 t420.1, .bool t425.1, (.slice none 0 0), .int .u64 (0:Int), .int .u64 (0:Int), .int .u64 (0:Int), (.slice none 0 0)]) 0 (.agg #[.int .u8 (IntKind.u8.wrap t390.1), .int .i64 (IntKind.i64.wrap t395.1), .int .i64 (IntKind.i64.wrap t400.1), .int .u64 t405.1, .int .u64 t410.1, .int .u64 t415.1, .int .u64 t420.1, .bool t425.1, (.slice none 0 0), .int .u64 (0:Int), .int .u64 (0:Int), .int .u64 (0:Int), (.slice none 0 0)]) Try.sizeOf30 (Nat.le_of_ble_eq_true rfl) (ones_cons rfl (ones_cons rfl (ones_cons rfl (ones_cons rfl (ones_cons rfl (ones_cons rfl (ones_cons rfl (ones_cons rfl (ones_cons rfl (ones_cons rfl (ones_cons rfl (ones_cons rfl (ones_cons rfl ones_nil))))))))))))) (by kernel_rfl)
 refine wl_unit rfl rfl (x_unit hr440) ?_
 refine wl_nil (then_n ?_)
 obtain ⟨y633, hm, hx634⟩ := bind_some hm
 refine wp_cut (fun a w => ∃ (I630 : HL) (z626 : octet_Reader) (z629 : (List api_Entry)) (v628 : Value) (σ631 : Nat → Value), (mail_readMessage_j0 t390 t395 t400 t405 t410 t415 t420 t425) (z626, z629) = some r ∧ a = Fr 57 (upd (upd (upd σ631 0 (p0)) 2 (.pointer (some ⟨b385, 0, none⟩))) 3 (.pointer (some ⟨b434, 0, none⟩))) ∧ I.le I630 ∧ St w0 w I630 [at_octet_Reader p0 z626, cells b385 [.int .u8 (0:Int), .int .i64 (0:Int), .int .i64 (0:Int), .int .u64 (0:Int), .int .u64 (0:Int), .int .u64 (0:Int), .int .u64 (0:Int), .bool false, (.slice none 0 0), .int .u64 (0:Int), .int .u64 (0:Int), .int .u64 (0:Int), (.slice none 0 0)], cells b434 [.int .u8 (IntKind.u8.wrap t390.1), .int .i64 (IntKind.i64.wrap t395.1), .int .i64 (IntKind.i64.wrap t400.1), .int .u64 t405.1, .int .u64 t410.1, .int .u64 t415.1, .int .u64 t420.1, .bool t425.1, v628, .int .u64 (0:Int), .int .u64 (0:Int), .int .u64 (0:Int), (.slice none 0 0)], ownS ty_api_Entry v628 z629] R) ?_ ?_
 ·skip
  have hL635 := HL.le.refl I
  refine wp_seq (wp_region_lit ?_)
  refine wv (p0) rfl rfl rfl ?_
  refine wv (p0) rfl rfl rfl ?_
  replace hst := hst.pull1
  obtain ⟨t441, ht442, hm⟩ := bind_some hm
  refine wl_call rfl rfl (x_call Try.call47 rfl (vs := [p0]) rfl) ?_
  refine (octet_Reader_Left_ref hst.to1 ht442).mono ?_
  rintro _ w443 ⟨rfl, hst⟩
  refine ⟨_, rfl, ?_⟩
  replace hst := hst.of1
  obtain ⟨t446, ht447, hm⟩ := bind_some hm
  refine wl_call rfl rfl (x_call Try.call46 rfl (vs := [p0, .int .i64 t441]) rfl) ?_
  refine (octet_Reader_Count_ref hst.to1 ht447).mono ?_
  rintro _ w448 ⟨rfl, hst⟩
  refine ⟨_, rfl, ?_⟩
  replace hst := hst.of1
  refine wv (.int .i64 (0:Int)) rfl rfl rfl ?_
  refine wl_nil (then_n (wp_block ?_))
  replace hst := hst.own_nil ty_api_Entry
  obtain ⟨n580, hm⟩ := loopO_some hm
  refine wp_loop_n (fun n a w => ∃ (I578 : HL) (z573 : (List api_Entry)) (z576 : octet_Reader) (z577 : Int) (v574 : Value) (σ579 : Nat → Value), loopN (mail_readMessage_l1 t446) n (z573, z576, z577) = some y633 ∧ a = Fr 57 (upd (upd (upd (upd (upd σ579 0 (p0)) 2 (.pointer (some ⟨b385, 0, none⟩))) 3 (.pointer (some ⟨b434, 0, none⟩))) 27 (.int .i64 t446.1)) 28 (.int .i64 z577)) ∧ I.le I578 ∧ St w0 w I578 [ownS ty_api_Entry v574 z573, at_octet_Reader p0 z576, cells b434 [.int .u8 (IntKind.u8.wrap t390.1), .int .i64 (IntKind.i64.wrap t395.1), .int .i64 (IntKind.i64.wrap t400.1), .int .u64 t405.1, .int .u64 t410.1, .int .u64 t415.1, .int .u64 t420.1, .bool t425.1, v574, .int .u64 (0:Int), .int .u64 (0:Int), .int .u64 (0:Int), (.slice none 0 0)], cells b385 [.int .u8 (0:Int), .int .i64 (0:Int), .int .i64 (0:Int), .int .u64 (0:Int), .int .u64 (0:Int), .int .u64 (0:Int), .int .u64 (0:Int), .bool false, (.slice none 0 0), .int .u64 (0:Int), .int .u64 (0:Int), .int .u64 (0:Int), (.slice none 0 0)]] R) n580 ⟨_, [], t446.2, (0:Int), (.slice none 0 0), _, hm, ((fr_upd (t := 0) (v := p0) rfl).trans ((fr_upd (t := 2) (v := .pointer (some ⟨b385, 0, none⟩)) rfl).trans ((fr_upd (t := 3) (v := .pointer (some ⟨b434, 0, none⟩)) rfl).trans ((fr_upd (t := 27) (v := .int .i64 t446.1) rfl).trans ((fr_upd (t := 28) (v := .int .i64 (0:Int)) rfl).trans rfl))))), (HL.le.refl _), hst⟩ ?_
  rintro n586 _ w581 ⟨I578, z573, z576, z577, v574, σ579, hm, rfl, hL582, hst⟩
  obtain ⟨n583, y584, rfl, hm, hx585⟩ := loopN_some hm
  dsimp only [mail_readMessage_l1] at hm
  replace hI0 := hI0.trans hL582
  replace hL635 := hL635.trans hL582
  refine wp_seq (wp_region_lit ?_)
  refine wv (.bool (decide (z577 < t446.1))) rfl rfl rfl ?_
  refine wl_nil (then_n (wp_seq ?_))
  refine bsplit (decide (z577 < t446.1)) (fun hc587 => ?_) (fun hc587 => ?_)
  ·skip
   replace hm := bif_t hc587 hm
   refine wp_ift (congrArg Value.bool hc587) ?_
   refine wp_skip (then_n (wp_seq (wp_block ?_)))
   refine wp_region_St hst 16 [0, 1, 2, 3, 4, 5, 6, 7, 8, 9, 10, 11, 12, 13, 14, 15] [0, 1, 0, 4, 0, 28, 0, 124, 252, 0, 764, 2044, 4092, 8191, 16383, 32767] [] rfl (by kernel_rfl) (by kernel_rfl) Try.mixed (by kernel_rfl) ?_
   refine wsr (.pointer (some ⟨b434, 8, none⟩)) 0 rfl rfl rfl (by kernel_rfl) (fun w hst => x_field rfl Try.underlying30 rfl Try.sizeOf26 rfl) ?_
   refine wsr (v574) 1 rfl rfl rfl (by kernel_rfl) (fun w hst => x_load rfl Try.isAgg26 (hst.bc2 rfl)) ?_
   refine wsr (p0) 2 rfl rfl rfl (by kernel_rfl) (fun w hst => rfl) ?_
   refine wsr (p0) 4 rfl rfl rfl (by kernel_rfl) (fun w hst => rfl) ?_
   refine wsr (p0) 6 rfl rfl rfl (by kernel_rfl) (fun w hst => rfl) ?_
   refine wsr (p0) 9 rfl rfl rfl (by kernel_rfl) (fun w hst => rfl) ?_
   refine ws_e1 3 (by kernel_rfl) ?_
   refine nxe [5, 7, 8, 10, 11, 12, 13, 14, 15] (by kernel_rfl) rfl rfl ?_
   clear hst
   intro w hst
   replace hst := hst.pull1
   obtain ⟨t588, ht589, hm⟩ := bind_some hm
   refine we_call rfl (x_call Try.call13 rfl (vs := [p0, .int .i64 (8:Int)]) rfl) ?_
   refine (octet_Reader_Num_ref hst.to1 ht589).mono ?_
   rintro _ w590 ⟨rfl, hst⟩
   refine ⟨_, rfl, ?_⟩
   replace hst := hst.of1
   refine ws_next (pend' := [(9, p0), (6, p0), (4, p0), (1, v574), (0, .pointer (some ⟨b434, 8, none⟩))]) hst (by kernel_rfl) (pkr rfl rfl (fun w hst => rfl) (pkr rfl rfl (fun w hst => rfl) (pkr rfl rfl (fun w hst => rfl) (pkr rfl rfl (fun w hst => x_load rfl Try.isAgg26 (hst.bc2 rfl)) (pkr rfl rfl (fun w hst => x_field rfl Try.underlying30 rfl Try.sizeOf26 rfl) pk_nil))))) ?_
   refine ws_e1 5 (by kernel_rfl) ?_
   refine nxe [7, 8, 10, 11, 12, 13, 14, 15] (by kernel_rfl) rfl rfl ?_
   clear hst
   intro w hst
   obtain ⟨t593, ht594, hm⟩ := bind_some hm
   refine we_call rfl (x_call Try.call13 rfl (vs := [p0, .int .i64 (8:Int)]) rfl) ?_
   refine (octet_Reader_Num_ref hst.to1 ht594).mono ?_
   rintro _ w595 ⟨rfl, hst⟩
   refine ⟨_, rfl, ?_⟩
   replace hst := hst.of1
   refine ws_next (pend' := [(9, p0), (6, p0), (1, v574), (0, .pointer (some ⟨b434, 8, none⟩))]) hst (by kernel_rfl) (pkr rfl rfl (fun w hst => rfl) (pkr rfl rfl (fun w hst => rfl) (pkr rfl rfl (fun w hst => x_load rfl Try.isAgg26 (hst.bc2 rfl)) (pkr rfl rfl (fun w hst => x_field rfl Try.underlying30 rfl Try.sizeOf26 rfl) pk_nil)))) ?_
   refine ws_e1 7 (by kernel_rfl) ?_
   refine nxe [8, 10, 11, 12, 13, 14, 15] (by kernel_rfl) rfl rfl ?_
   clear hst
   intro w hst
   obtain ⟨t598, ht599, hm⟩ := bind_some hm
   refine we_call rfl (x_call Try.call13 rfl (vs := [p0, .int .i64 (1:Int)]) rfl) ?_
   refine (octet_Reader_Num_ref hst.to1 ht599).mono ?_
   rintro _ w600 ⟨rfl, hst⟩
   refine ⟨_, rfl, ?_⟩
   replace hst := hst.of1
   refine ws_next (pend' := [(9, p0), (1, v574), (0, .pointer (some ⟨b434, 8, none⟩))]) hst (by kernel_rfl) (pkr rfl rfl (fun w hst => rfl) (pkr rfl rfl (fun w hst => x_load rfl Try.isAgg26 (hst.bc2 rfl)) (pkr rfl rfl (fun w hst => x_field rfl Try.underlying30 rfl Try.sizeOf26 rfl) pk_nil))) ?_
   refine wsr (.int .u8 (IntKind.u8.wrap t598.1)) 8 rfl rfl rfl (by kernel_rfl) (fun w hst => by kernel_rfl) ?_
   refine ws_e1 10 (by kernel_rfl) ?_
   refine nxe [11, 12, 13, 14, 15] (by kernel_rfl) rfl rfl ?_
   clear hst
   intro w hst
   obtain ⟨t603, ht604, hm⟩ := bind_some hm
   refine we_call rfl (x_call Try.call18 rfl (vs := [p0, .int .i64 (1048576:Int)]) rfl) ?_
   refine (octet_Reader_Bytes_ref hst.to1 ht604).mono ?_
   rintro _ w605 ⟨v608, rfl, hst⟩
   refine ⟨_, rfl, ?_⟩
   replace hst := hst.of2
   refine ws_next (pend' := [(8, .int .u8 (IntKind.u8.wrap t598.1)), (1, v574), (0, .pointer (some ⟨b434, 8, none⟩))]) hst (by kernel_rfl) (pkr rfl rfl (fun w hst => by kernel_rfl) (pkr rfl rfl (fun w hst => x_load rfl Try.isAgg26 (hst.bc3 rfl)) (pkr rfl rfl (fun w hst => x_field rfl Try.underlying30 rfl Try.sizeOf26 rfl) pk_nil))) ?_
   refine wsr (.agg #[.int .u64 t588.1, .int .u64 t593.1, .int .u8 (IntKind.u8.wrap t598.1), v608]) 11 rfl rfl rfl (by kernel_rfl) (fun w hst => by obtain ⟨_, _, hv_, _⟩ := hst.sv0; rw [hv_]; kernel_rfl) ?_
   refine ws_e1 12 (by kernel_rfl) ?_
   refine nxe [13, 14, 15] (by kernel_rfl) rfl rfl ?_
   clear hst
   intro w hst
   obtain ⟨I612, hI613, f614, hst⟩ := hst.own_fix
   replace hI0 := hI0.trans hI613
   replace hL635 := hL635.trans hI613
   replace hL582 := hL582.trans hI613
   obtain ⟨b615, w616, ew617, eb618, hst⟩ := hst.lits (E := ty_api_Entry) (xs := [({ Index := t588.1, Term := t593.1, Kind := (IntKind.u8.wrap t598.1), Data := t603.1 } : api_Entry)]) [[.int .u64 t588.1, .int .u64 t593.1, .int .u8 (IntKind.u8.wrap t598.1), v608]] 84 1 rfl (Reps.cons ⟨_, rfl, f614, one_of_sliceV (ro_sliceV f614)⟩ Reps.nil)
   refine we_run (v := (.slice (some ⟨b615, 0, none⟩) 1 1)) (w' := w616) rfl (x_als (by kernel_rfl) ew617 eb618) ?_
   refine ws_next (pend' := [(1, v574), (0, .pointer (some ⟨b434, 8, none⟩))]) hst (by kernel_rfl) (pkr rfl rfl (fun w hst => x_load rfl Try.isAgg26 (hst.bc3 rfl)) (pkr rfl rfl (fun w hst => x_field rfl Try.underlying30 rfl Try.sizeOf26 rfl) pk_nil)) ?_
   refine ws_e1 13 (by kernel_rfl) ?_
   refine nxe [14, 15] (by kernel_rfl) rfl rfl ?_
   clear hst
   intro w hst
   obtain ⟨hg620, hm⟩ := gd_some hm
   replace hst := hst.pull2
   obtain ⟨v621, w622, hr623, hst⟩ := run_append elem_26 Try.underlying26 hst hst.src1 (room_of hg620 rfl) 26
   refine we_run (v := v621) (w' := w622) rfl (x_append rfl rfl hr623) ?_
   refine ws_next (pend' := []) hst (by kernel_rfl) pk_nil ?_
   refine wsr (.pointer (some ⟨b434, 8, none⟩)) 14 rfl rfl rfl (by kernel_rfl) (fun w hst => x_field rfl Try.underlying30 rfl Try.sizeOf26 rfl) ?_
   refine ws_e1 15 (by kernel_rfl) ?_
   refine nxe [] (by kernel_rfl) rfl rfl ?_
   clear hst
   intro w hst
   replace hst := hst.pull3
   obtain ⟨w624, hr625, hst⟩ := hst.boxStore1 (P := Try.prog) (t := 26) (cs' := [.int .u8 (IntKind.u8.wrap t390.1), .int .i64 (IntKind.i64.wrap t395.1), .int .i64 (IntKind.i64.wrap t400.1), .int .u64 t405.1, .int .u64 t410.1, .int .u64 t415.1, .int .u64 t420.1, .bool t425.1, v621, .int .u64 (0:Int), .int .u64 (0:Int), .int .u64 (0:Int), (.slice none 0 0)]) 8 v621 (one_of_sliceV hst.sv1) Try.sizeOf26 rfl rfl
   refine we_unit rfl (x_unit hr625) ?_
   refine ws_next (pend' := []) hst (by kernel_rfl) pk_nil ?_
   refine ws_nil ?_
   intro w hst
   refine blk_n (then_n (wp_region_lit ?_))
   refine wv (.int .i64 (IntKind.i64.wrap (z577 + (1:Int)))) rfl rfl rfl ?_
   refine wv (.int .i64 (IntKind.i64.wrap (z577 + (1:Int)))) rfl rfl rfl ?_
   refine wl_nil (then_n ?_)
   replace hst := hst.pull4
   replace hst := hst.pull1
   replace hst := hst.pull4
   replace hst := hst.pull3
   replace hst := hst.keep4
   obtain rfl := some_inj hm
   exact ⟨_, Nat.lt_succ_self _, _, (z573 ++ ([({ Index := t588.1, Term := t593.1, Kind := (IntKind.u8.wrap t598.1), Data := t603.1 } : api_Entry)])), t603.2, (IntKind.i64.wrap (z577 + (1:Int))), v621, _, hx585, ((fr_upd (t := 0) (v := p0) rfl).trans ((fr_upd (t := 2) (v := .pointer (some ⟨b385, 0, none⟩)) rfl).trans ((fr_upd (t := 3) (v := .pointer (some ⟨b434, 0, none⟩)) rfl).trans ((fr_upd (t := 27) (v := .int .i64 t446.1) rfl).trans ((fr_upd (t := 28) (v := .int .i64 (IntKind.i64.wrap (z577 + (1:Int)))) rfl).trans rfl))))), hL582, hst⟩
  ·skip
   replace hm := bif_f hc587 hm
   refine wp_iff (congrArg Value.bool hc587) ?_
   refine wp_exit (then_x (then_x ?_))
   replace hm := inr_up hm hx585
   refine blk_x (then_n ?_)
   replace hst := hst.pull2
   replace hst := hst.pull3
   replace hst := hst.pull3
   replace hst := hst.keep4
   obtain rfl := some_inj hm
   exact ⟨_, z576, z573, v574, _, hx634, ((fr_upd (t := 0) (v := p0) rfl).trans ((fr_upd (t := 2) (v := .pointer (some ⟨b385, 0, none⟩)) rfl).trans ((fr_upd (t := 3) (v := .pointer (some ⟨b434, 0, none⟩)) rfl).trans rfl))), hL635, hst⟩
 ·skip
  clear hst
  rintro _ w636 ⟨I630, z626, z629, v628, σ631, hm, rfl, hL632, hst⟩
  dsimp only [mail_readMessage_j0] at hm
  replace hI0 := hI0.trans hL632
  refine wp_seq (wp_region_lit ?_)
  refine wv (p0) rfl rfl rfl ?_
  obtain ⟨t637, ht638, hm⟩ := bind_some hm
  refine wl_call rfl rfl (x_call Try.call13 rfl (vs := [p0, .int .i64 (8:Int)]) rfl) ?_
  refine (octet_Reader_Num_ref hst.to1 ht638).mono ?_
  rintro _ w639 ⟨rfl, hst⟩
  refine ⟨_, rfl, ?_⟩
  replace hst := hst.of1
  refine wv (p0) rfl rfl rfl ?_
  obtain ⟨t642, ht643, hm⟩ := bind_some hm
  refine wl_call rfl rfl (x_call Try.call13 rfl (vs := [p0, .int .i64 (8:Int)]) rfl) ?_
  refine (octet_Reader_Num_ref hst.to1 ht643).mono ?_
  rintro _ w644 ⟨rfl, hst⟩
  refine ⟨_, rfl, ?_⟩
  replace hst := hst.of1
  refine wv (p0) rfl rfl rfl ?_
  obtain ⟨t647, ht648, hm⟩ := bind_some hm
  refine wl_call rfl rfl (x_call Try.call13 rfl (vs := [p0, .int .i64 (8:Int)]) rfl) ?_
  refine (octet_Reader_Num_ref hst.to1 ht648).mono ?_
  rintro _ w649 ⟨rfl, hst⟩
  refine ⟨_, rfl, ?_⟩
  replace hst := hst.of1
  refine wv (p0) rfl rfl rfl ?_
  obtain ⟨t652, ht653, hm⟩ := bind_some hm
  refine wl_call rfl rfl (x_call Try.call18 rfl (vs := [p0, .int .i64 (1048576:Int)]) rfl) ?_
  refine (octet_Reader_Bytes_ref hst.to1 ht653).mono ?_
  rintro _ w654 ⟨v657, rfl, hst⟩
  refine ⟨_, rfl, ?_⟩
  replace hst := hst.of2
  refine wv (.agg #[.int .u64 t637.1, .int .u64 t642.1, .int .u64 t647.1, v657]) rfl rfl (by obtain ⟨_, _, hv_, _⟩ := hst.sv0; rw [hv_]; kernel_rfl) ?_
  refine wv (.pointer (some ⟨b434, 9, none⟩)) rfl rfl (x_field rfl Try.underlying30 rfl Try.sizeOf28 rfl) ?_
  replace hst := hst.pull3
  obtain ⟨w660, hr661, hst⟩ := hst.boxStore (P := Try.prog) (t := 28) (cs' := [.int .u8 (IntKind.u8.wrap t390.1), .int .i64 (IntKind.i64.wrap t395.1), .int .i64 (IntKind.i64.wrap t400.1), .int .u64 t405.1, .int .u64 t410.1, .int .u64 t415.1, .int .u64 t420.1, .bool t425.1, v628, .int .u64 t637.1, .int .u64 t642.1, .int .u64 t647.1, v657]) 9 (.agg #[.int .u64 t637.1, .int .u64 t642.1, .int .u64 t647.1, v657]) Try.sizeOf28 (Nat.le_of_ble_eq_true rfl) (ones_cons rfl (ones_cons rfl (ones_cons rfl (ones_cons (one_of_sliceV hst.sv1) ones_nil)))) (by kernel_rfl)
  refine wl_unit rfl rfl (x_unit hr661) ?_
  refine wl_nil (then_n (wp_seq (wp_region_lit ?_)))
  refine wv (.agg #[.int .u8 (IntKind.u8.wrap t390.1), .int .i64 (IntKind.i64.wrap t395.1), .int .i64 (IntKind.i64.wrap t400.1), .int .u64 t405.1, .int .u64 t410.1, .int .u64 t415.1, .int .u64 t420.1, .bool t425.1, v628, .int .u64 t637.1, .int .u64 t642.1, .int .u64 t647.1, v657]) rfl rfl (x_loadN (cs := [.int .u8 (IntKind.u8.wrap t390.1), .int .i64 (IntKind.i64.wrap t395.1), .int .i64 (IntKind.i64.wrap t400.1), .int .u64 t405.1, .int .u64 t410.1, .int .u64 t415.1, .int .u64 t420.1, .bool t425.1, v628, .int .u64 t637.1, .int .u64 t642.1, .int .u64 t647.1, v657]) rfl Try.isAgg30 Try.sizeOf30 (hst.bcs0 0 rfl)) ?_
  replace hst := hst.pull3
  obtain ⟨w662, hr663, hst⟩ := hst.boxStore (P := Try.prog) (t := 30) (cs' := [.int .u8 (IntKind.u8.wrap t390.1), .int .i64 (IntKind.i64.wrap t395.1), .int .i64 (IntKind.i64.wrap t400.1), .int .u64 t405.1, .int .u64 t410.1, .int .u64 t415.1, .int .u64 t420.1, .bool t425.1, v628, .int .u64 t637.1, .int .u64 t642.1, .int .u64 t647.1, v657]) 0 (.agg #[.int .u8 (IntKind.u8.wrap t390.1), .int .i64 (IntKind.i64.wrap t395.1), .int .i64 (IntKind.i64.wrap t400.1), .int .u64 t405.1, .int .u64 t410.1, .int .u64 t415.1, .int .u64 t420.1, .bool t425.1, v628, .int .u64 t637.1, .int .u64 t642.1, .int .u64 t647.1, v657]) Try.sizeOf30 (Nat.le_of_ble_eq_true rfl) (ones_cons rfl (ones_cons rfl (ones_cons rfl (ones_cons rfl (ones_cons rfl (ones_cons rfl (ones_cons rfl (ones_cons rfl (ones_cons (one_of_sliceV hst.sv4) (ones_cons rfl (ones_cons rfl (ones_cons rfl (ones_cons (one_of_sliceV hst.sv2) ones_nil))))))))))))) (by kernel_rfl)
  refine wl_unit rfl rfl (x_unit hr663) ?_
  refine wl_nil (then_n (wp_ret ?_))
  obtain rfl := some_inj hm
  refine post_ret (vs := [.agg #[.int .u8 (IntKind.u8.wrap t390.1), .int .i64 (IntKind.i64.wrap t395.1), .int .i64 (IntKind.i64.wrap t400.1), .int .u64 t405.1, .int .u64 t410.1, .int .u64 t415.1, .int .u64 t420.1, .bool t425.1, v628, .int .u64 t637.1, .int .u64 t642.1, .int .u64 t647.1, v657]]) Try.results14 (rvs_cons (rv_cell (cs := [.int .u8 (IntKind.u8.wrap t390.1), .int .i64 (IntKind.i64.wrap t395.1), .int .i64 (IntKind.i64.wrap t400.1), .int .u64 t405.1, .int .u64 t410.1, .int .u64 t415.1, .int .u64 t420.1, .bool t425.1, v628, .int .u64 t637.1, .int .u64 t642.1, .int .u64 t647.1, v657]) rfl Try.isAgg30 Try.sizeOf30 (hst.bcs0 0 rfl)) rvs_nil) ?_
  replace hst := hst.pull3
  replace hst := hst.pull3
  replace hst := hst.pull4
  exact ⟨_, v628, v657, rfl, hI0, hst.keep3⟩

theorem number_Back_ref {w0 w : World} {I : HL} {R : SP} {a0 : Int}  (hst : St w0 w I [] R) {r : (Nat)} (hm : number_Back a0 = some r) :
  Calls Try.prog 48 #[.int .u64 a0] w fun e w' => e = .returned (.float .f64 r) ∧ St w0 w' I [] R := by
 unfold number_Back at hm
 refine calls_start (args := [.int .u64 a0]) Try.func48 rfl Try.ntmps48 (Nat.le_of_ble_eq_true rfl) ?_
 refine wp_seq (wp_region_lit ?_)
 refine wv (.float .f64 (0:Nat)) rfl rfl rfl ?_
 refine wl_nil (then_n (wp_seq (wp_seq (wp_region_lit ?_))))
 refine wv (.int .u64 a0) rfl rfl rfl ?_
 refine wv (.int .u64 (iShr .u64 a0 (63:Int))) rfl rfl (x_shr (by decide) rfl rfl) ?_
 refine wv (.bool ((iShr .u64 a0 (63:Int)) == (1:Int))) rfl rfl rfl ?_
 refine wl_nil (then_n ?_)
 refine bsplit ((iShr .u64 a0 (63:Int)) == (1:Int)) (fun hc166 => ?_) (fun hc166 => ?_)
 ·skip
  replace hm := bif_t hc166 hm
  refine wp_ift (congrArg Value.bool hc166) ?_
  refine wp_seq (wp_region_lit ?_)
  refine wv (.int .u64 a0) rfl rfl rfl ?_
  refine wv (.int .u64 (bAndNot .u64 a0 (9223372036854775808:Int))) rfl rfl rfl ?_
  refine wv (.float .f64 (Int.toNat (bAndNot .u64 a0 (9223372036854775808:Int)))) rfl rfl (by kernel_rfl) ?_
  refine wv (.float .f64 (Int.toNat (bAndNot .u64 a0 (9223372036854775808:Int)))) rfl rfl rfl ?_
  refine wl_nil (then_n (wp_ret (then_r ?_)))
  obtain rfl := some_inj hm
  refine post_ret (vs := [.float .f64 (Int.toNat (bAndNot .u64 a0 (9223372036854775808:Int)))]) Try.results48 (rvs_cons (rv_tmp rfl) rvs_nil) ?_
  exact ⟨rfl, hst.keep0⟩
 ·skip
  replace hm := bif_f hc166 hm
  refine wp_iff (congrArg Value.bool hc166) ?_
  refine wp_skip (then_n (wp_seq (wp_region_lit ?_)))
  refine wv (.int .u64 a0) rfl rfl rfl ?_
  refine wv (.int .u64 (bXor .u64 ((18446744073709551615):Int) a0)) rfl rfl (by kernel_rfl) ?_
  refine wv (.float .f64 (Int.toNat (bXor .u64 ((18446744073709551615):Int) a0))) rfl rfl (by kernel_rfl) ?_
  refine wv (.float .f64 (Int.toNat (bXor .u64 ((18446744073709551615):Int) a0))) rfl rfl rfl ?_
  refine wl_nil (then_n (wp_ret ?_))
  obtain rfl := some_inj hm
  refine post_ret (vs := [.float .f64 (Int.toNat (bXor .u64 ((18446744073709551615):Int) a0))]) Try.results48 (rvs_cons (rv_tmp rfl) rvs_nil) ?_
  exact ⟨rfl, hst.keep0⟩

theorem locks_Read_ref {w0 w : World} {I : HL} {R : SP} {a0 : octet_Reader} {p0 : Value}  (hst : St w0 w I [at_octet_Reader p0 a0] R) {r : (api_Hold × octet_Reader)} (hm : locks_Read a0 = some r) :
  Calls Try.prog 15 #[p0] w fun e w' => ∃ (q0_0 : Value) (q0_1 : Value) (q0_2 : Value) (q0_3 : Value), e = .returned (.agg #[.int .u64 r.1.ID.Session, .int .u64 r.1.ID.Seq, .int .u64 r.1.Epoch, q0_0, q0_1, q0_2, q0_3]) ∧ St w0 w' I [ownS tyF64 q0_0 r.1.Gets, ownS tyF2 q0_1 r.1.Scans, ownS tyF64 q0_2 r.1.Puts, ownS (tyInt .u8) q0_3 r.1.Data, at_octet_Reader p0 r.2] R := by
 unfold locks_Read at hm
 refine calls_start (args := [p0]) Try.func15 rfl Try.ntmps15 (Nat.le_of_ble_eq_true rfl) ?_
 refine wp_seq (wp_region_lit ?_)
 obtain ⟨b575, w576, ew577, eb578, hst⟩ := hst.box [.int .u64 (0:Int), .int .u64 (0:Int), .int .u64 (0:Int), (.slice none 0 0), (.slice none 0 0), (.slice none 0 0), (.slice none 0 0)] 36
 refine wl_run (v := .pointer (some ⟨b575, 0, none⟩)) (w' := w576) rfl rfl (x_al (by kernel_rfl) ew577 eb578) ?_
 refine wl_nil (then_n (wp_seq (wp_region_lit ?_)))
 refine wv (p0) rfl rfl rfl ?_
 replace hst := hst.pull1
 obtain ⟨t580, ht581, hm⟩ := bind_some hm
 refine wl_call rfl rfl (x_call Try.call13 rfl (vs := [p0, .int .i64 (8:Int)]) rfl) ?_
 refine (octet_Reader_Num_ref hst.to1 ht581).mono ?_
 rintro _ w582 ⟨rfl, hst⟩
 refine ⟨_, rfl, ?_⟩
 replace hst := hst.of1
 refine wv (p0) rfl rfl rfl ?_
 obtain ⟨t585, ht586, hm⟩ := bind_some hm
 refine wl_call rfl rfl (x_call Try.call13 rfl (vs := [p0, .int .i64 (8:Int)]) rfl) ?_
 refine (octet_Reader_Num_ref hst.to1 ht586).mono ?_
 rintro _ w587 ⟨rfl, hst⟩
 refine ⟨_, rfl, ?_⟩
 replace hst := hst.of1
 refine wv (.agg #[.int .u64 t580.1, .int .u64 t585.1]) rfl rfl (by kernel_rfl) ?_
 refine wv (p0) rfl rfl rfl ?_
 obtain ⟨t590, ht591, hm⟩ := bind_some hm
 refine wl_call rfl rfl (x_call Try.call13 rfl (vs := [p0, .int .i64 (8:Int)]) rfl) ?_
 refine (octet_Reader_Num_ref hst.to1 ht591).mono ?_
 rintro _ w592 ⟨rfl, hst⟩
 refine ⟨_, rfl, ?_⟩
 replace hst := hst.of1
 refine wv (.agg #[.int .u64 t580.1, .int .u64 t585.1, .int .u64 t590.1, (.slice none 0 0), (.slice none 0 0), (.slice none 0 0), (.slice none 0 0)]) rfl rfl (by kernel_rfl) ?_
 obtain ⟨b603, w604, ew605, eb606, hst⟩ := hst.box [.int .u64 (0:Int), .int .u64 (0:Int), .int .u64 (0:Int), (.slice none 0 0), (.slice none 0 0), (.slice none 0 0), (.slice none 0 0)] 36
 refine wl_run (v := .pointer (some ⟨b603, 0, none⟩)) (w' := w604) rfl rfl (x_al (by kernel_rfl) ew605 eb606) ?_
 obtain ⟨w608, hr609, hst⟩ := hst.boxStore (P := Try.prog) (t := 36) (cs' := [.int .u64 t580.1, .int .u64 t585.1, .int .u64 t590.1, (.slice none 0 0), (.slice none 0 0), (.slice none 0 0), (.slice none 0 0)]) 0 (.agg #[.int .u64 t580.1, .int .u64 t585.1, .int .u64 t590.1, (.slice none 0 0), (.slice none 0 0), (.slice none 0 0), (.slice none 0 0)]) Try.sizeOf36 (Nat.le_of_ble_eq_true rfl) (ones_cons rfl (ones_cons rfl (ones_cons rfl (ones_cons rfl (ones_cons rfl (ones_cons rfl (ones_cons rfl ones_nil))))))) (by kernel_rfl)
 refine wl_unit rfl rfl (x_unit hr609) ?_
 refine wl_nil (then_n ?_)
 obtain ⟨y727, hm, hx728⟩ := bind_some hm
 refine wp_cut (fun a w => ∃ (z721 : octet_Reader) (z724 : (List Nat)) (v723 : Value) (σ725 : Nat → Value), (locks_Read_j0 t580 t585 t590) (z721, z724) = some r ∧ a = Fr 59 (upd (upd (upd σ725 0 (p0)) 2 (.pointer (some ⟨b575, 0, none⟩))) 3 (.pointer (some ⟨b603, 0, none⟩))) ∧ St w0 w I [at_octet_Reader p0 z721, cells b575 [.int .u64 (0:Int), .int .u64 (0:Int), .int .u64 (0:Int), (.slice none 0 0), (.slice none 0 0), (.slice none 0 0), (.slice none 0 0)], cells b603 [.int .u64 t580.1, .int .u64 t585.1, .int .u64 t590.1, v723, (.slice none 0 0), (.slice none 0 0), (.slice none 0 0)], ownS tyF64 v723 z724] R) ?_ ?_
 ·skip
  refine wp_seq (wp_region_lit ?_)
  refine wv (p0) rfl rfl rfl ?_
  replace hst := hst.pull1
  obtain ⟨t610, ht611, hm⟩ := bind_some hm
  refine wl_call rfl rfl (x_call Try.call46 rfl (vs := [p0, .int .i64 (32:Int)]) rfl) ?_
  refine (octet_Reader_Count_ref hst.to1 ht611).mono ?_
  rintro _ w612 ⟨rfl, hst⟩
  refine ⟨_, rfl, ?_⟩
  replace hst := hst.of1
  refine wv (.int .i64 (0:Int)) rfl rfl rfl ?_
  refine wl_nil (then_n (wp_block ?_))
  replace hst := hst.own_nil tyF64
  obtain ⟨n692, hm⟩ := loopO_some hm
  refine wp_loop_n (fun n a w => ∃ (z686 : (List Nat)) (z689 : octet_Reader) (z690 : Int) (v687 : Value) (σ691 : Nat → Value), loopN (locks_Read_l1 t610) n (z686, z689, z690) = some y727 ∧ a = Fr 59 (upd (upd (upd (upd (upd σ691 0 (p0)) 2 (.pointer (some ⟨b575, 0, none⟩))) 3 (.pointer (some ⟨b603, 0, none⟩))) 13 (.int .i64 t610.1)) 14 (.int .i64 z690)) ∧ St w0 w I [ownS tyF64 v687 z686, at_octet_Reader p0 z689, cells b603 [.int .u64 t580.1, .int .u64 t585.1, .int .u64 t590.1, v687, (.slice none 0 0), (.slice none 0 0), (.slice none 0 0)], cells b575 [.int .u64 (0:Int), .int .u64 (0:Int), .int .u64 (0:Int), (.slice none 0 0), (.slice none 0 0), (.slice none 0 0), (.slice none 0 0)]] R) n692 ⟨[], t610.2, (0:Int), (.slice none 0 0), _, hm, ((fr_upd (t := 0) (v := p0) rfl).trans ((fr_upd (t := 2) (v := .pointer (some ⟨b575, 0, none⟩)) rfl).trans ((fr_upd (t := 3) (v := .pointer (some ⟨b603, 0, none⟩)) rfl).trans ((fr_upd (t := 13) (v := .int .i64 t610.1) rfl).trans ((fr_upd (t := 14) (v := .int .i64 (0:Int)) rfl).trans rfl))))), hst⟩ ?_
  rintro n698 _ w693 ⟨z686, z689, z690, v687, σ691, hm, rfl, hst⟩
  obtain ⟨n695, y696, rfl, hm, hx697⟩ := loopN_some hm
  dsimp only [locks_Read_l1] at hm
  refine wp_seq (wp_region_lit ?_)
  refine wv (.bool (decide (z690 < t610.1))) rfl rfl rfl ?_
  refine wl_nil (then_n (wp_seq ?_))
  refine bsplit (decide (z690 < t610.1)) (fun hc699 => ?_) (fun hc699 => ?_)
  ·skip
   replace hm := bif_t hc699 hm
   refine wp_ift (congrArg Value.bool hc699) ?_
   refine wp_skip (then_n (wp_seq (wp_block ?_)))
   refine wp_region_St hst 9 [0, 1, 2, 3, 4, 5, 6, 7, 8] [0, 1, 0, 4, 12, 28, 63, 127, 255] [] rfl (by kernel_rfl) (by kernel_rfl) Try.mixed (by kernel_rfl) ?_
   refine wsr (.pointer (some ⟨b603, 3, none⟩)) 0 rfl rfl rfl (by kernel_rfl) (fun w hst => x_field rfl Try.underlying36 rfl Try.sizeOf33 rfl) ?_
   refine wsr (v687) 1 rfl rfl rfl (by kernel_rfl) (fun w hst => x_load rfl Try.isAgg33 (hst.bc2 rfl)) ?_
   refine wsr (p0) 2 rfl rfl rfl (by kernel_rfl) (fun w hst => rfl) ?_
   refine ws_e1 3 (by kernel_rfl) ?_
   refine nxe [4, 5, 6, 7, 8] (by kernel_rfl) rfl rfl ?_
   clear hst
   intro w hst
   replace hst := hst.pull1
   obtain ⟨t700, ht701, hm⟩ := bind_some hm
   refine we_call rfl (x_call Try.call13 rfl (vs := [p0, .int .i64 (8:Int)]) rfl) ?_
   refine (octet_Reader_Num_ref hst.to1 ht701).mono ?_
   rintro _ w702 ⟨rfl, hst⟩
   refine ⟨_, rfl, ?_⟩
   replace hst := hst.of1
   refine ws_next (pend' := [(1, v687), (0, .pointer (some ⟨b603, 3, none⟩))]) hst (by kernel_rfl) (pkr rfl rfl (fun w hst => x_load rfl Try.isAgg33 (hst.bc2 rfl)) (pkr rfl rfl (fun w hst => x_field rfl Try.underlying36 rfl Try.sizeOf33 rfl) pk_nil)) ?_
   refine ws_e1 4 (by kernel_rfl) ?_
   refine nxe [5, 6, 7, 8] (by kernel_rfl) rfl rfl ?_
   clear hst
   intro w hst
   obtain ⟨t705, ht706, hm⟩ := bind_some hm
   refine we_call rfl (x_call Try.call48 rfl (vs := [.int .u64 t700.1]) rfl) ?_
   refine (number_Back_ref hst.to0 ht706).mono ?_
   rintro _ w707 ⟨rfl, hst⟩
   refine ⟨_, rfl, ?_⟩
   replace hst := hst.of0
   refine ws_next (pend' := [(1, v687), (0, .pointer (some ⟨b603, 3, none⟩))]) hst (by kernel_rfl) (pkr rfl rfl (fun w hst => x_load rfl Try.isAgg33 (hst.bc2 rfl)) (pkr rfl rfl (fun w hst => x_field rfl Try.underlying36 rfl Try.sizeOf33 rfl) pk_nil)) ?_
   refine ws_e1 5 (by kernel_rfl) ?_
   refine nxe [6, 7, 8] (by kernel_rfl) rfl rfl ?_
   clear hst
   intro w hst
   obtain ⟨b710, w711, ew712, eb713, hst⟩ := hst.lits (E := tyF64) (xs := [t705]) [[.float .f64 t705]] 44 1 rfl (Reps.cons rfl Reps.nil)
   refine we_run (v := (.slice (some ⟨b710, 0, none⟩) 1 1)) (w' := w711) rfl (x_als (by kernel_rfl) ew712 eb713) ?_
   refine ws_next (pend' := [(1, v687), (0, .pointer (some ⟨b603, 3, none⟩))]) hst (by kernel_rfl) (pkr rfl rfl (fun w hst => x_load rfl Try.isAgg33 (hst.bc3 rfl)) (pkr rfl rfl (fun w hst => x_field rfl Try.underlying36 rfl Try.sizeOf33 rfl) pk_nil)) ?_
   refine ws_e1 6 (by kernel_rfl) ?_
   refine nxe [7, 8] (by kernel_rfl) rfl rfl ?_
   clear hst
   intro w hst
   obtain ⟨hg715, hm⟩ := gd_some hm
   replace hst := hst.pull2
   obtain ⟨v716, w717, hr718, hst⟩ := run_append elem_33 Try.underlying33 hst hst.src1 (room_of hg715 rfl) 33
   refine we_run (v := v716) (w' := w717) rfl (x_append rfl rfl hr718) ?_
   refine ws_next (pend' := []) hst (by kernel_rfl) pk_nil ?_
   refine wsr (.pointer (some ⟨b603, 3, none⟩)) 7 rfl rfl rfl (by kernel_rfl) (fun w hst => x_field rfl Try.underlying36 rfl Try.sizeOf33 rfl) ?_
   refine ws_e1 8 (by kernel_rfl) ?_
   refine nxe [] (by kernel_rfl) rfl rfl ?_
   clear hst
   intro w hst
   replace hst := hst.pull3
   obtain ⟨w719, hr720, hst⟩ := hst.boxStore1 (P := Try.prog) (t := 33) (cs' := [.int .u64 t580.1, .int .u64 t585.1, .int .u64 t590.1, v716, (.slice none 0 0), (.slice none 0 0), (.slice none 0 0)]) 3 v716 (one_of_sliceV hst.sv1) Try.sizeOf33 rfl rfl
   refine we_unit rfl (x_unit hr720) ?_
   refine ws_next (pend' := []) hst (by kernel_rfl) pk_nil ?_
   refine ws_nil ?_
   intro w hst
   refine blk_n (then_n (wp_region_lit ?_))
   refine wv (.int .i64 (IntKind.i64.wrap (z690 + (1:Int)))) rfl rfl rfl ?_
   refine wv (.int .i64 (IntKind.i64.wrap (z690 + (1:Int)))) rfl rfl rfl ?_
   refine wl_nil (then_n ?_)
   replace hst := hst.pull4
   replace hst := hst.pull1
   replace hst := hst.pull4
   replace hst := hst.pull3
   replace hst := hst.keep4
   obtain rfl := some_inj hm
   exact ⟨_, Nat.lt_succ_self _, (z686 ++ ([t705])), t700.2, (IntKind.i64.wrap (z690 + (1:Int))), v716, _, hx697, ((fr_upd (t := 0) (v := p0) rfl).trans ((fr_upd (t := 2) (v := .pointer (some ⟨b575, 0, none⟩)) rfl).trans ((fr_upd (t := 3) (v := .pointer (some ⟨b603, 0, none⟩)) rfl).trans ((fr_upd (t := 13) (v := .int .i64 t610.1) rfl).trans ((fr_upd (t := 14) (v := .int .i64 (IntKind.i64.wrap (z690 + (1:Int)))) rfl).trans rfl))))), hst⟩
  ·skip
   replace hm := bif_f hc699 hm
   refine wp_iff (congrArg Value.bool hc699) ?_
   refine wp_exit (then_x (then_x ?_))
   replace hm := inr_up hm hx697
   refine blk_x (then_n ?_)
   replace hst := hst.pull2
   replace hst := hst.pull3
   replace hst := hst.pull3
   replace hst := hst.keep4
   obtain rfl := some_inj hm
   exact ⟨z689, z686, v687, _, hx728, ((fr_upd (t := 0) (v := p0) rfl).trans ((fr_upd (t := 2) (v := .pointer (some ⟨b575, 0, none⟩)) rfl).trans ((fr_upd (t := 3) (v := .pointer (some ⟨b603, 0, none⟩)) rfl).trans rfl))), hst⟩
 ·skip
  clear hst
  rintro _ w729 ⟨z721, z724, v723, σ725, hm, rfl, hst⟩
  dsimp only [locks_Read_j0] at hm
  obtain ⟨y887, hm, hx888⟩ := bind_some hm
  refine wp_cut (fun a w => ∃ (z881 : octet_Reader) (z884 : (List (Nat × Nat))) (v883 : Value) (σ885 : Nat → Value), (locks_Read_j2 t580 t585 t590 z724) (z881, z884) = some r ∧ a = Fr 59 (upd (upd (upd σ885 0 (p0)) 2 (.pointer (some ⟨b575, 0, none⟩))) 3 (.pointer (some ⟨b603, 0, none⟩))) ∧ St w0 w I [at_octet_Reader p0 z881, cells b575 [.int .u64 (0:Int), .int .u64 (0:Int), .int .u64 (0:Int), (.slice none 0 0), (.slice none 0 0), (.slice none 0 0), (.slice none 0 0)], cells b603 [.int .u64 t580.1, .int .u64 t585.1, .int .u64 t590.1, v723, v883, (.slice none 0 0), (.slice none 0 0)], ownS tyF64 v723 z724, ownS tyF2 v883 z884] R) ?_ ?_
  ·skip
   refine wp_seq (wp_region_lit ?_)
   refine wv (p0) rfl rfl rfl ?_
   obtain ⟨t730, ht731, hm⟩ := bind_some hm
   refine wl_call rfl rfl (x_call Try.call46 rfl (vs := [p0, .int .i64 (32:Int)]) rfl) ?_
   refine (octet_Reader_Count_ref hst.to1 ht731).mono ?_
   rintro _ w732 ⟨rfl, hst⟩
   refine ⟨_, rfl, ?_⟩
   replace hst := hst.of1
   refine wv (.int .i64 (0:Int)) rfl rfl rfl ?_
   refine wl_nil (then_n (wp_block ?_))
   replace hst := hst.own_nil tyF2
   obtain ⟨n842, hm⟩ := loopO_some hm
   refine wp_loop_n (fun n a w => ∃ (z836 : (List (Nat × Nat))) (z839 : octet_Reader) (z840 : Int) (v837 : Value) (σ841 : Nat → Value), loopN (locks_Read_l3 t730) n (z836, z839, z840) = some y887 ∧ a = Fr 59 (upd (upd (upd (upd (upd σ841 0 (p0)) 2 (.pointer (some ⟨b575, 0, none⟩))) 3 (.pointer (some ⟨b603, 0, none⟩))) 26 (.int .i64 t730.1)) 27 (.int .i64 z840)) ∧ St w0 w I [ownS tyF2 v837 z836, at_octet_Reader p0 z839, cells b575 [.int .u64 (0:Int), .int .u64 (0:Int), .int .u64 (0:Int), (.slice none 0 0), (.slice none 0 0), (.slice none 0 0), (.slice none 0 0)], cells b603 [.int .u64 t580.1, .int .u64 t585.1, .int .u64 t590.1, v723, v837, (.slice none 0 0), (.slice none 0 0)], ownS tyF64 v723 z724] R) n842 ⟨[], t730.2, (0:Int), (.slice none 0 0), _, hm, ((fr_upd (t := 0) (v := p0) rfl).trans ((fr_upd (t := 2) (v := .pointer (some ⟨b575, 0, none⟩)) rfl).trans ((fr_upd (t := 3) (v := .pointer (some ⟨b603, 0, none⟩)) rfl).trans ((fr_upd (t := 26) (v := .int .i64 t730.1) rfl).trans ((fr_upd (t := 27) (v := .int .i64 (0:Int)) rfl).trans rfl))))), hst⟩ ?_
   rintro n848 _ w843 ⟨z836, z839, z840, v837, σ841, hm, rfl, hst⟩
   obtain ⟨n845, y846, rfl, hm, hx847⟩ := loopN_some hm
   dsimp only [locks_Read_l3] at hm
   refine wp_seq (wp_region_lit ?_)
   refine wv (.bool (decide (z840 < t730.1))) rfl rfl rfl ?_
   refine wl_nil (then_n (wp_seq ?_))
   refine bsplit (decide (z840 < t730.1)) (fun hc849 => ?_) (fun hc849 => ?_)
   ·skip
    replace hm := bif_t hc849 hm
    refine wp_ift (congrArg Value.bool hc849) ?_
    refine wp_skip (then_n (wp_seq (wp_block ?_)))
    refine wp_region_St hst 13 [0, 1, 2, 3, 4, 5, 6, 7, 8, 9, 10, 11, 12] [0, 1, 0, 4, 12, 0, 60, 124, 252, 508, 1023, 2047, 4095] [] rfl (by kernel_rfl) (by kernel_rfl) Try.mixed (by kernel_rfl) ?_
    refine wsr (.pointer (some ⟨b603, 4, none⟩)) 0 rfl rfl rfl (by kernel_rfl) (fun w hst => x_field rfl Try.underlying36 rfl Try.sizeOf34 rfl) ?_
    refine wsr (v837) 1 rfl rfl rfl (by kernel_rfl) (fun w hst => x_load rfl Try.isAgg34 (hst.bc3 rfl)) ?_
    refine wsr (p0) 2 rfl rfl rfl (by kernel_rfl) (fun w hst => rfl) ?_
    refine wsr (p0) 5 rfl rfl rfl (by kernel_rfl) (fun w hst => rfl) ?_
    refine ws_e1 3 (by kernel_rfl) ?_
    refine nxe [4, 6, 7, 8, 9, 10, 11, 12] (by kernel_rfl) rfl rfl ?_
    clear hst
    intro w hst
    replace hst := hst.pull1
    obtain ⟨t850, ht851, hm⟩ := bind_some hm
    refine we_call rfl (x_call Try.call13 rfl (vs := [p0, .int .i64 (8:Int)]) rfl) ?_
    refine (octet_Reader_Num_ref hst.to1 ht851).mono ?_
    rintro _ w852 ⟨rfl, hst⟩
    refine ⟨_, rfl, ?_⟩
    replace hst := hst.of1
    refine ws_next (pend' := [(5, p0), (1, v837), (0, .pointer (some ⟨b603, 4, none⟩))]) hst (by kernel_rfl) (pkr rfl rfl (fun w hst => rfl) (pkr rfl rfl (fun w hst => x_load rfl Try.isAgg34 (hst.bc3 rfl)) (pkr rfl rfl (fun w hst => x_field rfl Try.underlying36 rfl Try.sizeOf34 rfl) pk_nil))) ?_
    refine ws_e1 4 (by kernel_rfl) ?_
    refine nxe [6, 7, 8, 9, 10, 11, 12] (by kernel_rfl) rfl rfl ?_
    clear hst
    intro w hst
    obtain ⟨t855, ht856, hm⟩ := bind_some hm
    refine we_call rfl (x_call Try.call48 rfl (vs := [.int .u64 t850.1]) rfl) ?_
    refine (number_Back_ref hst.to0 ht856).mono ?_
    rintro _ w857 ⟨rfl, hst⟩
    refine ⟨_, rfl, ?_⟩
    replace hst := hst.of0
    refine ws_next (pend' := [(5, p0), (1, v837), (0, .pointer (some ⟨b603, 4, none⟩))]) hst (by kernel_rfl) (pkr rfl rfl (fun w hst => rfl) (pkr rfl rfl (fun w hst => x_load rfl Try.isAgg34 (hst.bc3 rfl)) (pkr rfl rfl (fun w hst => x_field rfl Try.underlying36 rfl Try.sizeOf34 rfl) pk_nil))) ?_
    refine ws_e1 6 (by kernel_rfl) ?_
    refine nxe [7, 8, 9, 10, 11, 12] (by kernel_rfl) rfl rfl ?_
    clear hst
    intro w hst
    obtain ⟨t860, ht861, hm⟩ := bind_some hm
    refine we_call rfl (x_call Try.call13 rfl (vs := [p0, .int .i64 (8:Int)]) rfl) ?_
    refine (octet_Reader_Num_ref hst.to1 ht861).mono ?_
    rintro _ w862 ⟨rfl, hst⟩
    refine ⟨_, rfl, ?_⟩
    replace hst := hst.of1
    refine ws_next (pend' := [(1, v837), (0, .pointer (some ⟨b603, 4, none⟩))]) hst (by kernel_rfl) (pkr rfl rfl (fun w hst => x_load rfl Try.isAgg34 (hst.bc3 rfl)) (pkr rfl rfl (fun w hst => x_field rfl Try.underlying36 rfl Try.sizeOf34 rfl) pk_nil)) ?_
    refine ws_e1 7 (by kernel_rfl) ?_
    refine nxe [8, 9, 10, 11, 12] (by kernel_rfl) rfl rfl ?_
    clear hst
    intro w hst
    obtain ⟨t865, ht866, hm⟩ := bind_some hm
    refine we_call rfl (x_call Try.call48 rfl (vs := [.int .u64 t860.1]) rfl) ?_
    refine (number_Back_ref hst.to0 ht866).mono ?_
    rintro _ w867 ⟨rfl, hst⟩
    refine ⟨_, rfl, ?_⟩
    replace hst := hst.of0
    refine ws_next (pend' := [(1, v837), (0, .pointer (some ⟨b603, 4, none⟩))]) hst (by kernel_rfl) (pkr rfl rfl (fun w hst => x_load rfl Try.isAgg34 (hst.bc3 rfl)) (pkr rfl rfl (fun w hst => x_field rfl Try.underlying36 rfl Try.sizeOf34 rfl) pk_nil)) ?_
    refine wsr (.agg #[.float .f64 t855, .float .f64 t865]) 8 rfl rfl rfl (by kernel_rfl) (fun w hst => by kernel_rfl) ?_
    refine ws_e1 9 (by kernel_rfl) ?_
    refine nxe [10, 11, 12] (by kernel_rfl) rfl rfl ?_
    clear hst
    intro w hst
    obtain ⟨b870, w871, ew872, eb873, hst⟩ := hst.lits (E := tyF2) (xs := [(t855, t865)]) [[.float .f64 t855, .float .f64 t865]] 102 1 rfl (Reps.cons rfl Reps.nil)
    refine we_run (v := (.slice (some ⟨b870, 0, none⟩) 1 1)) (w' := w871) rfl (x_als (by kernel_rfl) ew872 eb873) ?_
    refine ws_next (pend' := [(1, v837), (0, .pointer (some ⟨b603, 4, none⟩))]) hst (by kernel_rfl) (pkr rfl rfl (fun w hst => x_load rfl Try.isAgg34 (hst.bc4 rfl)) (pkr rfl rfl (fun w hst => x_field rfl Try.underlying36 rfl Try.sizeOf34 rfl) pk_nil)) ?_
    refine ws_e1 10 (by kernel_rfl) ?_
    refine nxe [11, 12] (by kernel_rfl) rfl rfl ?_
    clear hst
    intro w hst
    obtain ⟨hg875, hm⟩ := gd_some hm
    replace hst := hst.pull2
    obtain ⟨v876, w877, hr878, hst⟩ := run_append elem_34 Try.underlying34 hst hst.src1 (room_of hg875 rfl) 34
    refine we_run (v := v876) (w' := w877) rfl (x_append rfl rfl hr878) ?_
    refine ws_next (pend' := []) hst (by kernel_rfl) pk_nil ?_
    refine wsr (.pointer (some ⟨b603, 4, none⟩)) 11 rfl rfl rfl (by kernel_rfl) (fun w hst => x_field rfl Try.underlying36 rfl Try.sizeOf34 rfl) ?_
    refine ws_e1 12 (by kernel_rfl) ?_
    refine nxe [] (by kernel_rfl) rfl rfl ?_
    clear hst
    intro w hst
    replace hst := hst.pull4
    obtain ⟨w879, hr880, hst⟩ := hst.boxStore1 (P := Try.prog) (t := 34) (cs' := [.int .u64 t580.1, .int .u64 t585.1, .int .u64 t590.1, v723, v876, (.slice none 0 0), (.slice none 0 0)]) 4 v876 (one_of_sliceV hst.sv1) Try.sizeOf34 rfl rfl
    refine we_unit rfl (x_unit hr880) ?_
    refine ws_next (pend' := []) hst (by kernel_rfl) pk_nil ?_
    refine ws_nil ?_
    intro w hst
    refine blk_n (then_n (wp_region_lit ?_))
    refine wv (.int .i64 (IntKind.i64.wrap (z840 + (1:Int)))) rfl rfl rfl ?_
    refine wv (.int .i64 (IntKind.i64.wrap (z840 + (1:Int)))) rfl rfl rfl ?_
    refine wl_nil (then_n ?_)
    replace hst := hst.pull5
    replace hst := hst.pull1
    replace hst := hst.pull5
    replace hst := hst.pull5
    replace hst := hst.pull4
    replace hst := hst.keep5
    obtain rfl := some_inj hm
    exact ⟨_, Nat.lt_succ_self _, (z836 ++ ([(t855, t865)])), t860.2, (IntKind.i64.wrap (z840 + (1:Int))), v876, _, hx847, ((fr_upd (t := 0) (v := p0) rfl).trans ((fr_upd (t := 2) (v := .pointer (some ⟨b575, 0, none⟩)) rfl).trans ((fr_upd (t := 3) (v := .pointer (some ⟨b603, 0, none⟩)) rfl).trans ((fr_upd (t := 26) (v := .int .i64 t730.1) rfl).trans ((fr_upd (t := 27) (v := .int .i64 (IntKind.i64.wrap (z840 + (1:Int)))) rfl).trans rfl))))), hst⟩
   ·skip
    replace hm := bif_f hc849 hm
    refine wp_iff (congrArg Value.bool hc849) ?_
    refine wp_exit (then_x (then_x ?_))
    replace hm := inr_up hm hx847
    refine blk_x (then_n ?_)
    replace hst := hst.pull4
    replace hst := hst.pull4
    replace hst := hst.pull4
    replace hst := hst.pull4
    replace hst := hst.keep5
    obtain rfl := some_inj hm
    exact ⟨z839, z836, v837, _, hx888, ((fr_upd (t := 0) (v := p0) rfl).trans ((fr_upd (t := 2) (v := .pointer (some ⟨b575, 0, none⟩)) rfl).trans ((fr_upd (t := 3) (v := .pointer (some ⟨b603, 0, none⟩)) rfl).trans rfl))), hst⟩
  ·skip
   clear hst
   rintro _ w889 ⟨z881, z884, v883, σ885, hm, rfl, hst⟩
   dsimp only [locks_Read_j2] at hm
   obtain ⟨y1007, hm, hx1008⟩ := bind_some hm
   refine wp_cut (fun a w => ∃ (z1001 : octet_Reader) (z1004 : (List Nat)) (v1003 : Value) (σ1005 : Nat → Value), (locks_Read_j4 t580 t585 t590 z724 z884) (z1001, z1004) = some r ∧ a = Fr 59 (upd (upd (upd σ1005 0 (p0)) 2 (.pointer (some ⟨b575, 0, none⟩))) 3 (.pointer (some ⟨b603, 0, none⟩))) ∧ St w0 w I [at_octet_Reader p0 z1001, cells b575 [.int .u64 (0:Int), .int .u64 (0:Int), .int .u64 (0:Int), (.slice none 0 0), (.slice none 0 0), (.slice none 0 0), (.slice none 0 0)], cells b603 [.int .u64 t580.1, .int .u64 t585.1, .int .u64 t590.1, v723, v883, v1003, (.slice none 0 0)], ownS tyF64 v723 z724, ownS tyF2 v883 z884, ownS tyF64 v1003 z1004] R) ?_ ?_
   ·skip
    refine wp_seq (wp_region_lit ?_)
    refine wv (p0) rfl rfl rfl ?_
    obtain ⟨t890, ht891, hm⟩ := bind_some hm
    refine wl_call rfl rfl (x_call Try.call46 rfl (vs := [p0, .int .i64 (32:Int)]) rfl) ?_
    refine (octet_Reader_Count_ref hst.to1 ht891).mono ?_
    rintro _ w892 ⟨rfl, hst⟩
    refine ⟨_, rfl, ?_⟩
    replace hst := hst.of1
    refine wv (.int .i64 (0:Int)) rfl rfl rfl ?_
    refine wl_nil (then_n (wp_block ?_))
    replace hst := hst.own_nil tyF64
    obtain ⟨n972, hm⟩ := loopO_some hm
    refine wp_loop_n (fun n a w => ∃ (z966 : (List Nat)) (z969 : octet_Reader) (z970 : Int) (v967 : Value) (σ971 : Nat → Value), loopN (locks_Read_l5 t890) n (z966, z969, z970) = some y1007 ∧ a = Fr 59 (upd (upd (upd (upd (upd σ971 0 (p0)) 2 (.pointer (some ⟨b575, 0, none⟩))) 3 (.pointer (some ⟨b603, 0, none⟩))) 43 (.int .i64 t890.1)) 44 (.int .i64 z970)) ∧ St w0 w I [ownS tyF64 v967 z966, at_octet_Reader p0 z969, cells b575 [.int .u64 (0:Int), .int .u64 (0:Int), .int .u64 (0:Int), (.slice none 0 0), (.slice none 0 0), (.slice none 0 0), (.slice none 0 0)], cells b603 [.int .u64 t580.1, .int .u64 t585.1, .int .u64 t590.1, v723, v883, v967, (.slice none 0 0)], ownS tyF64 v723 z724, ownS tyF2 v883 z884] R) n972 ⟨[], t890.2, (0:Int), (.slice none 0 0), _, hm, ((fr_upd (t := 0) (v := p0) rfl).trans ((fr_upd (t := 2) (v := .pointer (some ⟨b575, 0, none⟩)) rfl).trans ((fr_upd (t := 3) (v := .pointer (some ⟨b603, 0, none⟩)) rfl).trans ((fr_upd (t := 43) (v := .int .i64 t890.1) rfl).trans ((fr_upd (t := 44) (v := .int .i64 (0:Int)) rfl).trans rfl))))), hst⟩ ?_
    rintro n978 _ w973 ⟨z966, z969, z970, v967, σ971, hm, rfl, hst⟩
    obtain ⟨n975, y976, rfl, hm, hx977⟩ := loopN_some hm
    dsimp only [locks_Read_l5] at hm
    refine wp_seq (wp_region_lit ?_)
    refine wv (.bool (decide (z970 < t890.1))) rfl rfl rfl ?_
    refine wl_nil (then_n (wp_seq ?_))
    refine bsplit (decide (z970 < t890.1)) (fun hc979 => ?_) (fun hc979 => ?_)
    ·skip
     replace hm := bif_t hc979 hm
     refine wp_ift (congrArg Value.bool hc979) ?_
     refine wp_skip (then_n (wp_seq (wp_block ?_)))
     refine wp_region_St hst 9 [0, 1, 2, 3, 4, 5, 6, 7, 8] [0, 1, 0, 4, 12, 28, 63, 127, 255] [] rfl (by kernel_rfl) (by kernel_rfl) Try.mixed (by kernel_rfl) ?_
     refine wsr (.pointer (some ⟨b603, 5, none⟩)) 0 rfl rfl rfl (by kernel_rfl) (fun w hst => x_field rfl Try.underlying36 rfl Try.sizeOf33 rfl) ?_
     refine wsr (v967) 1 rfl rfl rfl (by kernel_rfl) (fun w hst => x_load rfl Try.isAgg33 (hst.bc3 rfl)) ?_
     refine wsr (p0) 2 rfl rfl rfl (by kernel_rfl) (fun w hst => rfl) ?_
     refine ws_e1 3 (by kernel_rfl) ?_
     refine nxe [4, 5, 6, 7, 8] (by kernel_rfl) rfl rfl ?_
     clear hst
     intro w hst
     replace hst := hst.pull1
     obtain ⟨t980, ht981, hm⟩ := bind_some hm
     refine we_call rfl (x_call Try.call13 rfl (vs := [p0, .int .i64 (8:Int)]) rfl) ?_
     refine (octet_Reader_Num_ref hst.to1 ht981).mono ?_
     rintro _ w982 ⟨rfl, hst⟩
     refine ⟨_, rfl, ?_⟩
     replace hst := hst.of1
     refine ws_next (pend' := [(1, v967), (0, .pointer (some ⟨b603, 5, none⟩))]) hst (by kernel_rfl) (pkr rfl rfl (fun w hst => x_load rfl Try.isAgg33 (hst.bc3 rfl)) (pkr rfl rfl (fun w hst => x_field rfl Try.underlying36 rfl Try.sizeOf33 rfl) pk_nil)) ?_
     refine ws_e1 4 (by kernel_rfl) ?_
     refine nxe [5, 6, 7, 8] (by kernel_rfl) rfl rfl ?_
     clear hst
     intro w hst
     obtain ⟨t985, ht986, hm⟩ := bind_some hm
     refine we_call rfl (x_call Try.call48 rfl (vs := [.int .u64 t980.1]) rfl) ?_
     refine (number_Back_ref hst.to0 ht986).mono ?_
     rintro _ w987 ⟨rfl, hst⟩
     refine ⟨_, rfl, ?_⟩
     replace hst := hst.of0
     refine ws_next (pend' := [(1, v967), (0, .pointer (some ⟨b603, 5, none⟩))]) hst (by kernel_rfl) (pkr rfl rfl (fun w hst => x_load rfl Try.isAgg33 (hst.bc3 rfl)) (pkr rfl rfl (fun w hst => x_field rfl Try.underlying36 rfl Try.sizeOf33 rfl) pk_nil)) ?_
     refine ws_e1 5 (by kernel_rfl) ?_
     refine nxe [6, 7, 8] (by kernel_rfl) rfl rfl ?_
     clear hst
     intro w hst
     obtain ⟨b990, w991, ew992, eb993, hst⟩ := hst.lits (E := tyF64) (xs := [t985]) [[.float .f64 t985]] 44 1 rfl (Reps.cons rfl Reps.nil)
     refine we_run (v := (.slice (some ⟨b990, 0, none⟩) 1 1)) (w' := w991) rfl (x_als (by kernel_rfl) ew992 eb993) ?_
     refine ws_next (pend' := [(1, v967), (0, .pointer (some ⟨b603, 5, none⟩))]) hst (by kernel_rfl) (pkr rfl rfl (fun w hst => x_load rfl Try.isAgg33 (hst.bc4 rfl)) (pkr rfl rfl (fun w hst => x_field rfl Try.underlying36 rfl Try.sizeOf33 rfl) pk_nil)) ?_
     refine ws_e1 6 (by kernel_rfl) ?_
     refine nxe [7, 8] (by kernel_rfl) rfl rfl ?_
     clear hst
     intro w hst
     obtain ⟨hg995, hm⟩ := gd_some hm
     replace hst := hst.pull2
     obtain ⟨v996, w997, hr998, hst⟩ := run_append elem_33 Try.underlying33 hst hst.src1 (room_of hg995 rfl) 33
     refine we_run (v := v996) (w' := w997) rfl (x_append rfl rfl hr998) ?_
     refine ws_next (pend' := []) hst (by kernel_rfl) pk_nil ?_
     refine wsr (.pointer (some ⟨b603, 5, none⟩)) 7 rfl rfl rfl (by kernel_rfl) (fun w hst => x_field rfl Try.underlying36 rfl Try.sizeOf33 rfl) ?_
     refine ws_e1 8 (by kernel_rfl) ?_
     refine nxe [] (by kernel_rfl) rfl rfl ?_
     clear hst
     intro w hst
     replace hst := hst.pull4
     obtain ⟨w999, hr1000, hst⟩ := hst.boxStore1 (P := Try.prog) (t := 33) (cs' := [.int .u64 t580.1, .int .u64 t585.1, .int .u64 t590.1, v723, v883, v996, (.slice none 0 0)]) 5 v996 (one_of_sliceV hst.sv1) Try.sizeOf33 rfl rfl
     refine we_unit rfl (x_unit hr1000) ?_
     refine ws_next (pend' := []) hst (by kernel_rfl) pk_nil ?_
     refine ws_nil ?_
     intro w hst
     refine blk_n (then_n (wp_region_lit ?_))
     refine wv (.int .i64 (IntKind.i64.wrap (z970 + (1:Int)))) rfl rfl rfl ?_
     refine wv (.int .i64 (IntKind.i64.wrap (z970 + (1:Int)))) rfl rfl rfl ?_
     refine wl_nil (then_n ?_)
     replace hst := hst.pull6
     replace hst := hst.pull6
     replace hst := hst.pull2
     replace hst := hst.pull6
     replace hst := hst.pull6
     replace hst := hst.pull5
     replace hst := hst.keep6
     obtain rfl := some_inj hm
     exact ⟨_, Nat.lt_succ_self _, (z966 ++ ([t985])), t980.2, (IntKind.i64.wrap (z970 + (1:Int))), v996, _, hx977, ((fr_upd (t := 0) (v := p0) rfl).trans ((fr_upd (t := 2) (v := .pointer (some ⟨b575, 0, none⟩)) rfl).trans ((fr_upd (t := 3) (v := .pointer (some ⟨b603, 0, none⟩)) rfl).trans ((fr_upd (t := 43) (v := .int .i64 t890.1) rfl).trans ((fr_upd (t := 44) (v := .int .i64 (IntKind.i64.wrap (z970 + (1:Int)))) rfl).trans rfl))))), hst⟩
    ·skip
     replace hm := bif_f hc979 hm
     refine wp_iff (congrArg Value.bool hc979) ?_
     refine wp_exit (then_x (then_x ?_))
     replace hm := inr_up hm hx977
     refine blk_x (then_n ?_)
     replace hst := hst.pull5
     replace hst := hst.pull5
     replace hst := hst.pull5
     replace hst := hst.pull5
     replace hst := hst.pull5
     replace hst := hst.keep6
     obtain rfl := some_inj hm
     exact ⟨z969, z966, v967, _, hx1008, ((fr_upd (t := 0) (v := p0) rfl).trans ((fr_upd (t := 2) (v := .pointer (some ⟨b575, 0, none⟩)) rfl).trans ((fr_upd (t := 3) (v := .pointer (some ⟨b603, 0, none⟩)) rfl).trans rfl))), hst⟩
   ·skip
    clear hst
    rintro _ w1009 ⟨z1001, z1004, v1003, σ1005, hm, rfl, hst⟩
    dsimp only [locks_Read_j4] at hm
    refine wp_seq (wp_region_lit ?_)
    refine wv (p0) rfl rfl rfl ?_
    obtain ⟨t1010, ht1011, hm⟩ := bind_some hm
    refine wl_call rfl rfl (x_call Try.call18 rfl (vs := [p0, .int .i64 (257:Int)]) rfl) ?_
    refine (octet_Reader_Bytes_ref hst.to1 ht1011).mono ?_
    rintro _ w1012 ⟨v1015, rfl, hst⟩
    refine ⟨_, rfl, ?_⟩
    replace hst := hst.of2
    refine wv (.pointer (some ⟨b603, 6, none⟩)) rfl rfl (x_field rfl Try.underlying36 rfl Try.sizeOf22 rfl) ?_
    replace hst := hst.pull3
    obtain ⟨w1017, hr1018, hst⟩ := hst.boxStore1 (P := Try.prog) (t := 22) (cs' := [.int .u64 t580.1, .int .u64 t585.1, .int .u64 t590.1, v723, v883, v1003, v1015]) 6 v1015 (one_of_sliceV hst.sv1) Try.sizeOf22 rfl rfl
    refine wl_unit rfl rfl (x_unit hr1018) ?_
    refine wl_nil (then_n (wp_seq (wp_region_lit ?_)))
    refine wv (.agg #[.int .u64 t580.1, .int .u64 t585.1, .int .u64 t590.1, v723, v883, v1003, v1015]) rfl rfl (x_loadN (cs := [.int .u64 t580.1, .int .u64 t585.1, .int .u64 t590.1, v723, v883, v1003, v1015]) rfl Try.isAgg36 Try.sizeOf36 (hst.bcs0 0 rfl)) ?_
    replace hst := hst.pull3
    obtain ⟨w1019, hr1020, hst⟩ := hst.boxStore (P := Try.prog) (t := 36) (cs' := [.int .u64 t580.1, .int .u64 t585.1, .int .u64 t590.1, v723, v883, v1003, v1015]) 0 (.agg #[.int .u64 t580.1, .int .u64 t585.1, .int .u64 t590.1, v723, v883, v1003, v1015]) Try.sizeOf36 (Nat.le_of_ble_eq_true rfl) (ones_cons rfl (ones_cons rfl (ones_cons rfl (ones_cons (one_of_sliceV hst.sv4) (ones_cons (one_of_sliceV hst.sv5) (ones_cons (one_of_sliceV hst.sv6) (ones_cons (one_of_sliceV hst.sv2) ones_nil))))))) (by kernel_rfl)
    refine wl_unit rfl rfl (x_unit hr1020) ?_
    refine wl_nil (then_n (wp_ret ?_))
    obtain rfl := some_inj hm
    refine post_ret (vs := [.agg #[.int .u64 t580.1, .int .u64 t585.1, .int .u64 t590.1, v723, v883, v1003, v1015]]) Try.results15 (rvs_cons (rv_cell (cs := [.int .u64 t580.1, .int .u64 t585.1, .int .u64 t590.1, v723, v883, v1003, v1015]) rfl Try.isAgg36 Try.sizeOf36 (hst.bcs0 0 rfl)) rvs_nil) ?_
    replace hst := hst.pull3
    replace hst := hst.pull3
    replace hst := hst.pull6
    replace hst := hst.pull6
    replace hst := hst.pull6
    exact ⟨v723, v883, v1003, v1015, rfl, hst.keep5⟩

theorem command_ReadReply_ref {w0 w : World} {I : HL} {R : SP} {a0 : octet_Reader} {p0 : Value}  (hst : St w0 w I [at_octet_Reader p0 a0] R) {r : (api_Reply × octet_Reader)} (hm : command_ReadReply a0 = some r) :
  Calls Try.prog 16 #[p0] w fun e w' => ∃ (I' : HL) (q0_0 : Value) (q0_1 : Value), e = .returned (.agg #[.int .i64 r.1.E, .int .u64 r.1.Epoch, .int .u64 r.1.Index, q0_0, q0_1]) ∧ I.le I' ∧ St w0 w' I' [ownS ty_api_Got q0_0 r.1.Gots, ownS (tySl ty_api_Pair) q0_1 r.1.Scans, at_octet_Reader p0 r.2] R := by
 unfold command_ReadReply at hm
 refine calls_start (args := [p0]) Try.func16 rfl Try.ntmps16 (Nat.le_of_ble_eq_true rfl) ?_
 have hI0 := HL.le.refl I
 refine wp_seq (wp_region_lit ?_)
 obtain ⟨b1084, w1085, ew1086, eb1087, hst⟩ := hst.box [.int .i64 (0:Int), .int .u64 (0:Int), .int .u64 (0:Int), (.slice none 0 0), (.slice none 0 0)] 41
 refine wl_run (v := .pointer (some ⟨b1084, 0, none⟩)) (w' := w1085) rfl rfl (x_al (by kernel_rfl) ew1086 eb1087) ?_
 refine wl_nil (then_n (wp_seq (wp_region_lit ?_)))
 refine wv (p0) rfl rfl rfl ?_
 replace hst := hst.pull1
 obtain ⟨t1089, ht1090, hm⟩ := bind_some hm
 refine wl_call rfl rfl (x_call Try.call13 rfl (vs := [p0, .int .i64 (1:Int)]) rfl) ?_
 refine (octet_Reader_Num_ref hst.to1 ht1090).mono ?_
 rintro _ w1091 ⟨rfl, hst⟩
 refine ⟨_, rfl, ?_⟩
 replace hst := hst.of1
 refine wv (.int .i64 (IntKind.i64.wrap t1089.1)) rfl rfl (by kernel_rfl) ?_
 refine wv (p0) rfl rfl rfl ?_
 obtain ⟨t1094, ht1095, hm⟩ := bind_some hm
 refine wl_call rfl rfl (x_call Try.call13 rfl (vs := [p0, .int .i64 (8:Int)]) rfl) ?_
 refine (octet_Reader_Num_ref hst.to1 ht1095).mono ?_
 rintro _ w1096 ⟨rfl, hst⟩
 refine ⟨_, rfl, ?_⟩
 replace hst := hst.of1
 refine wv (p0) rfl rfl rfl ?_
 obtain ⟨t1099, ht1100, hm⟩ := bind_some hm
 refine wl_call rfl rfl (x_call Try.call13 rfl (vs := [p0, .int .i64 (8:Int)]) rfl) ?_
 refine (octet_Reader_Num_ref hst.to1 ht1100).mono ?_
 rintro _ w1101 ⟨rfl, hst⟩
 refine ⟨_, rfl, ?_⟩
 replace hst := hst.of1
 refine wv (.agg #[.int .i64 (IntKind.i64.wrap t1089.1), .int .u64 t1094.1, .int .u64 t1099.1, (.slice none 0 0), (.slice none 0 0)]) rfl rfl (by kernel_rfl) ?_
 obtain ⟨b1108, w1109, ew1110, eb1111, hst⟩ := hst.box [.int .i64 (0:Int), .int .u64 (0:Int), .int .u64 (0:Int), (.slice none 0 0), (.slice none 0 0)] 41
 refine wl_run (v := .pointer (some ⟨b1108, 0, none⟩)) (w' := w1109) rfl rfl (x_al (by kernel_rfl) ew1110 eb1111) ?_
 obtain ⟨w1113, hr1114, hst⟩ := hst.boxStore (P := Try.prog) (t := 41) (cs' := [.int .i64 (IntKind.i64.wrap t1089.1), .int .u64 t1094.1, .int .u64 t1099.1, (.slice none 0 0), (.slice none 0 0)]) 0 (.agg #[.int .i64 (IntKind.i64.wrap t1089.1), .int .u64 t1094.1, .int .u64 t1099.1, (.slice none 0 0), (.slice none 0 0)]) Try.sizeOf41 (Nat.le_of_ble_eq_true rfl) (ones_cons rfl (ones_cons rfl (ones_cons rfl (ones_cons rfl (ones_cons rfl ones_nil))))) (by kernel_rfl)
 refine wl_unit rfl rfl (x_unit hr1114) ?_
 refine wl_nil (then_n ?_)
 obtain ⟨y1262, hm, hx1263⟩ := bind_some hm
 refine wp_cut (fun a w => ∃ (I1259 : HL) (z1255 : octet_Reader) (z1258 : (List api_Got)) (v1257 : Value) (σ1260 : Nat → Value), (command_ReadReply_j0 t1089 t1094 t1099) (z1255, z1258) = some r ∧ a = Fr 54 (upd (upd (upd σ1260 0 (p0)) 2 (.pointer (some ⟨b1084, 0, none⟩))) 3 (.pointer (some ⟨b1108, 0, none⟩))) ∧ I.le I1259 ∧ St w0 w I1259 [at_octet_Reader p0 z1255, cells b1084 [.int .i64 (0:Int), .int .u64 (0:Int), .int .u64 (0:Int), (.slice none 0 0), (.slice none 0 0)], cells b1108 [.int .i64 (IntKind.i64.wrap t1089.1), .int .u64 t1094.1, .int .u64 t1099.1, v1257, (.slice none 0 0)], ownS ty_api_Got v1257 z1258] R) ?_ ?_
 ·skip
  have hL1264 := HL.le.refl I
  refine wp_seq (wp_region_lit ?_)
  refine wv (p0) rfl rfl rfl ?_
  replace hst := hst.pull1
  obtain ⟨t1115, ht1116, hm⟩ := bind_some hm
  refine wl_call rfl rfl (x_call Try.call46 rfl (vs := [p0, .int .i64 (32:Int)]) rfl) ?_
  refine (octet_Reader_Count_ref hst.to1 ht1116).mono ?_
  rintro _ w1117 ⟨rfl, hst⟩
  refine ⟨_, rfl, ?_⟩
  replace hst := hst.of1
  refine wv (.int .i64 (0:Int)) rfl rfl rfl ?_
  refine wl_nil (then_n (wp_block ?_))
  replace hst := hst.own_nil ty_api_Got
  obtain ⟨n1219, hm⟩ := loopO_some hm
  refine wp_loop_n (fun n a w => ∃ (I1217 : HL) (z1212 : (List api_Got)) (z1215 : octet_Reader) (z1216 : Int) (v1213 : Value) (σ1218 : Nat → Value), loopN (command_ReadReply_l1 t1115) n (z1212, z1215, z1216) = some y1262 ∧ a = Fr 54 (upd (upd (upd (upd (upd σ1218 0 (p0)) 2 (.pointer (some ⟨b1084, 0, none⟩))) 3 (.pointer (some ⟨b1108, 0, none⟩))) 14 (.int .i64 t1115.1)) 15 (.int .i64 z1216)) ∧ I.le I1217 ∧ St w0 w I1217 [ownS ty_api_Got v1213 z1212, at_octet_Reader p0 z1215, cells b1108 [.int .i64 (IntKind.i64.wrap t1089.1), .int .u64 t1094.1, .int .u64 t1099.1, v1213, (.slice none 0 0)], cells b1084 [.int .i64 (0:Int), .int .u64 (0:Int), .int .u64 (0:Int), (.slice none 0 0), (.slice none 0 0)]] R) n1219 ⟨_, [], t1115.2, (0:Int), (.slice none 0 0), _, hm, ((fr_upd (t := 0) (v := p0) rfl).trans ((fr_upd (t := 2) (v := .pointer (some ⟨b1084, 0, none⟩)) rfl).trans ((fr_upd (t := 3) (v := .pointer (some ⟨b1108, 0, none⟩)) rfl).trans ((fr_upd (t := 14) (v := .int .i64 t1115.1) rfl).trans ((fr_upd (t := 15) (v := .int .i64 (0:Int)) rfl).trans rfl))))), (HL.le.refl _), hst⟩ ?_
  rintro n1225 _ w1220 ⟨I1217, z1212, z1215, z1216, v1213, σ1218, hm, rfl, hL1221, hst⟩
  obtain ⟨n1222, y1223, rfl, hm, hx1224⟩ := loopN_some hm
  dsimp only [command_ReadReply_l1] at hm
  replace hI0 := hI0.trans hL1221
  replace hL1264 := hL1264.trans hL1221
  refine wp_seq (wp_region_lit ?_)
  refine wv (.bool (decide (z1216 < t1115.1))) rfl rfl rfl ?_
  refine wl_nil (then_n (wp_seq ?_))
  refine bsplit (decide (z1216 < t1115.1)) (fun hc1226 => ?_) (fun hc1226 => ?_)
  ·skip
   replace hm := bif_t hc1226 hm
   refine wp_ift (congrArg Value.bool hc1226) ?_
   refine wp_skip (then_n (wp_seq (wp_block ?_)))
   refine wp_region_St hst 11 [0, 1, 2, 3, 4, 5, 6, 7, 8, 9, 10] [0, 1, 0, 4, 0, 28, 60, 124, 255, 511, 1023] [] rfl (by kernel_rfl) (by kernel_rfl) Try.mixed (by kernel_rfl) ?_
   refine wsr (.pointer (some ⟨b1108, 3, none⟩)) 0 rfl rfl rfl (by kernel_rfl) (fun w hst => x_field rfl Try.underlying41 rfl Try.sizeOf38 rfl) ?_
   refine wsr (v1213) 1 rfl rfl rfl (by kernel_rfl) (fun w hst => x_load rfl Try.isAgg38 (hst.bc2 rfl)) ?_
   refine wsr (p0) 2 rfl rfl rfl (by kernel_rfl) (fun w hst => rfl) ?_
   refine wsr (p0) 4 rfl rfl rfl (by kernel_rfl) (fun w hst => rfl) ?_
   refine ws_e1 3 (by kernel_rfl) ?_
   refine nxe [5, 6, 7, 8, 9, 10] (by kernel_rfl) rfl rfl ?_
   clear hst
   intro w hst
   replace hst := hst.pull1
   obtain ⟨t1227, ht1228, hm⟩ := bind_some hm
   refine we_call rfl (x_call Try.call45 rfl (vs := [p0]) rfl) ?_
   refine (octet_Reader_Flag_ref hst.to1 ht1228).mono ?_
   rintro _ w1229 ⟨rfl, hst⟩
   refine ⟨_, rfl, ?_⟩
   replace hst := hst.of1
   refine ws_next (pend' := [(4, p0), (1, v1213), (0, .pointer (some ⟨b1108, 3, none⟩))]) hst (by kernel_rfl) (pkr rfl rfl (fun w hst => rfl) (pkr rfl rfl (fun w hst => x_load rfl Try.isAgg38 (hst.bc2 rfl)) (pkr rfl rfl (fun w hst => x_field rfl Try.underlying41 rfl Try.sizeOf38 rfl) pk_nil))) ?_
   refine ws_e1 5 (by kernel_rfl) ?_
   refine nxe [6, 7, 8, 9, 10] (by kernel_rfl) rfl rfl ?_
   clear hst
   intro w hst
   obtain ⟨t1232, ht1233, hm⟩ := bind_some hm
   refine we_call rfl (x_call Try.call18 rfl (vs := [p0, .int .i64 (256:Int)]) rfl) ?_
   refine (octet_Reader_Bytes_ref hst.to1 ht1233).mono ?_
   rintro _ w1234 ⟨v1237, rfl, hst⟩
   refine ⟨_, rfl, ?_⟩
   replace hst := hst.of2
   refine ws_next (pend' := [(1, v1213), (0, .pointer (some ⟨b1108, 3, none⟩))]) hst (by kernel_rfl) (pkr rfl rfl (fun w hst => x_load rfl Try.isAgg38 (hst.bc3 rfl)) (pkr rfl rfl (fun w hst => x_field rfl Try.underlying41 rfl Try.sizeOf38 rfl) pk_nil)) ?_
   refine wsr (.agg #[.bool t1227.1, v1237]) 6 rfl rfl rfl (by kernel_rfl) (fun w hst => by obtain ⟨_, _, hv_, _⟩ := hst.sv0; rw [hv_]; kernel_rfl) ?_
   refine ws_e1 7 (by kernel_rfl) ?_
   refine nxe [8, 9, 10] (by kernel_rfl) rfl rfl ?_
   clear hst
   intro w hst
   obtain ⟨I1241, hI1242, f1243, hst⟩ := hst.own_fix
   replace hI0 := hI0.trans hI1242
   replace hL1264 := hL1264.trans hI1242
   replace hL1221 := hL1221.trans hI1242
   obtain ⟨b1244, w1245, ew1246, eb1247, hst⟩ := hst.lits (E := ty_api_Got) (xs := [({ Has := t1227.1, Val := t1232.1 } : api_Got)]) [[.bool t1227.1, v1237]] 104 1 rfl (Reps.cons ⟨_, rfl, f1243, one_of_sliceV (ro_sliceV f1243)⟩ Reps.nil)
   refine we_run (v := (.slice (some ⟨b1244, 0, none⟩) 1 1)) (w' := w1245) rfl (x_als (by kernel_rfl) ew1246 eb1247) ?_
   refine ws_next (pend' := [(1, v1213), (0, .pointer (some ⟨b1108, 3, none⟩))]) hst (by kernel_rfl) (pkr rfl rfl (fun w hst => x_load rfl Try.isAgg38 (hst.bc3 rfl)) (pkr rfl rfl (fun w hst => x_field rfl Try.underlying41 rfl Try.sizeOf38 rfl) pk_nil)) ?_
   refine ws_e1 8 (by kernel_rfl) ?_
   refine nxe [9, 10] (by kernel_rfl) rfl rfl ?_
   clear hst
   intro w hst
   obtain ⟨hg1249, hm⟩ := gd_some hm
   replace hst := hst.pull2
   obtain ⟨v1250, w1251, hr1252, hst⟩ := run_append elem_38 Try.underlying38 hst hst.src1 (room_of hg1249 rfl) 38
   refine we_run (v := v1250) (w' := w1251) rfl (x_append rfl rfl hr1252) ?_
   refine ws_next (pend' := []) hst (by kernel_rfl) pk_nil ?_
   refine wsr (.pointer (some ⟨b1108, 3, none⟩)) 9 rfl rfl rfl (by kernel_rfl) (fun w hst => x_field rfl Try.underlying41 rfl Try.sizeOf38 rfl) ?_
   refine ws_e1 10 (by kernel_rfl) ?_
   refine nxe [] (by kernel_rfl) rfl rfl ?_
   clear hst
   intro w hst
   replace hst := hst.pull3
   obtain ⟨w1253, hr1254, hst⟩ := hst.boxStore1 (P := Try.prog) (t := 38) (cs' := [.int .i64 (IntKind.i64.wrap t1089.1), .int .u64 t1094.1, .int .u64 t1099.1, v1250, (.slice none 0 0)]) 3 v1250 (one_of_sliceV hst.sv1) Try.sizeOf38 rfl rfl
   refine we_unit rfl (x_unit hr1254) ?_
   refine ws_next (pend' := []) hst (by kernel_rfl) pk_nil ?_
   refine ws_nil ?_
   intro w hst
   refine blk_n (then_n (wp_region_lit ?_))
   refine wv (.int .i64 (IntKind.i64.wrap (z1216 + (1:Int)))) rfl rfl rfl ?_
   refine wv (.int .i64 (IntKind.i64.wrap (z1216 + (1:Int)))) rfl rfl rfl ?_
   refine wl_nil (then_n ?_)
   replace hst := hst.pull4
   replace hst := hst.pull1
   replace hst := hst.pull4
   replace hst := hst.pull3
   replace hst := hst.keep4
   obtain rfl := some_inj hm
   exact ⟨_, Nat.lt_succ_self _, _, (z1212 ++ ([({ Has := t1227.1, Val := t1232.1 } : api_Got)])), t1232.2, (IntKind.i64.wrap (z1216 + (1:Int))), v1250, _, hx1224, ((fr_upd (t := 0) (v := p0) rfl).trans ((fr_upd (t := 2) (v := .pointer (some ⟨b1084, 0, none⟩)) rfl).trans ((fr_upd (t := 3) (v := .pointer (some ⟨b1108, 0, none⟩)) rfl).trans ((fr_upd (t := 14) (v := .int .i64 t1115.1) rfl).trans ((fr_upd (t := 15) (v := .int .i64 (IntKind.i64.wrap (z1216 + (1:Int)))) rfl).trans rfl))))), hL1221, hst⟩
  ·skip
   replace hm := bif_f hc1226 hm
   refine wp_iff (congrArg Value.bool hc1226) ?_
   refine wp_exit (then_x (then_x ?_))
   replace hm := inr_up hm hx1224
   refine blk_x (then_n ?_)
   replace hst := hst.pull2
   replace hst := hst.pull3
   replace hst := hst.pull3
   replace hst := hst.keep4
   obtain rfl := some_inj hm
   exact ⟨_, z1215, z1212, v1213, _, hx1263, ((fr_upd (t := 0) (v := p0) rfl).trans ((fr_upd (t := 2) (v := .pointer (some ⟨b1084, 0, none⟩)) rfl).trans ((fr_upd (t := 3) (v := .pointer (some ⟨b1108, 0, none⟩)) rfl).trans rfl))), hL1264, hst⟩
 ·skip
  clear hst
  rintro _ w1265 ⟨I1259, z1255, z1258, v1257, σ1260, hm, rfl, hL1261, hst⟩
  dsimp only [command_ReadReply_j0] at hm
  replace hI0 := hI0.trans hL1261
  refine wp_seq (wp_seq (wp_region_lit ?_))
  refine wv (p0) rfl rfl rfl ?_
  obtain ⟨t1266, ht1267, hm⟩ := bind_some hm
  refine wl_call rfl rfl (x_call Try.call46 rfl (vs := [p0, .int .i64 (32:Int)]) rfl) ?_
  refine (octet_Reader_Count_ref hst.to1 ht1267).mono ?_
  rintro _ w1268 ⟨rfl, hst⟩
  refine ⟨_, rfl, ?_⟩
  replace hst := hst.of1
  refine wv (.int .i64 (0:Int)) rfl rfl rfl ?_
  refine wl_nil (then_n (wp_block ?_))
  replace hst := hst.own_nil (tySl ty_api_Pair)
  obtain ⟨n1823, hm⟩ := loopO_some hm
  refine wp_loop_n (fun n a w => ∃ (I1821 : HL) (z1816 : (List (List api_Pair))) (z1819 : octet_Reader) (z1820 : Int) (v1817 : Value) (σ1822 : Nat → Value), loopN (command_ReadReply_l2 t1266 t1089 t1094 t1099 z1258) n (z1816, z1819, z1820) = some r ∧ a = Fr 54 (upd (upd (upd (upd (upd σ1822 0 (p0)) 2 (.pointer (some ⟨b1084, 0, none⟩))) 3 (.pointer (some ⟨b1108, 0, none⟩))) 29 (.int .i64 t1266.1)) 30 (.int .i64 z1820)) ∧ I1259.le I1821 ∧ St w0 w I1821 [ownS (tySl ty_api_Pair) v1817 z1816, at_octet_Reader p0 z1819, cells b1084 [.int .i64 (0:Int), .int .u64 (0:Int), .int .u64 (0:Int), (.slice none 0 0), (.slice none 0 0)], cells b1108 [.int .i64 (IntKind.i64.wrap t1089.1), .int .u64 t1094.1, .int .u64 t1099.1, v1257, v1817], ownS ty_api_Got v1257 z1258] R) n1823 ⟨_, [], t1266.2, (0:Int), (.slice none 0 0), _, hm, ((fr_upd (t := 0) (v := p0) rfl).trans ((fr_upd (t := 2) (v := .pointer (some ⟨b1084, 0, none⟩)) rfl).trans ((fr_upd (t := 3) (v := .pointer (some ⟨b1108, 0, none⟩)) rfl).trans ((fr_upd (t := 29) (v := .int .i64 t1266.1) rfl).trans ((fr_upd (t := 30) (v := .int .i64 (0:Int)) rfl).trans rfl))))), (HL.le.refl _), hst⟩ ?_
  rintro n1829 _ w1824 ⟨I1821, z1816, z1819, z1820, v1817, σ1822, hm, rfl, hL1825, hst⟩
  obtain ⟨n1826, y1827, rfl, hm, hx1828⟩ := loopN_some hm
  dsimp only [command_ReadReply_l2] at hm
  replace hI0 := hI0.trans hL1825
  refine wp_seq (wp_region_lit ?_)
  refine wv (.bool (decide (z1820 < t1266.1))) rfl rfl rfl ?_
  refine wl_nil (then_n (wp_seq ?_))
  refine bsplit (decide (z1820 < t1266.1)) (fun hc1830 => ?_) (fun hc1830 => ?_)
  ·skip
   replace hm := bif_t hc1830 hm
   refine wp_ift (congrArg Value.bool hc1830) ?_
   refine wp_skip (then_n (wp_seq (wp_block (wp_seq (wp_region_lit ?_)))))
   refine wv ((.slice none 0 0)) rfl rfl rfl ?_
   refine wl_nil (then_n ?_)
   obtain ⟨y1991, hm, hx1992⟩ := bind_some hm
   refine wp_cut (fun a w => ∃ (I1988 : HL) (z1984 : octet_Reader) (z1987 : (List api_Pair)) (v1986 : Value) (σ1989 : Nat → Value), (command_ReadReply_j3 z1816 z1820) (z1984, z1987) = some y1827 ∧ a = Fr 54 (upd (upd (upd (upd (upd (upd σ1989 0 (p0)) 2 (.pointer (some ⟨b1084, 0, none⟩))) 3 (.pointer (some ⟨b1108, 0, none⟩))) 4 (v1986)) 29 (.int .i64 t1266.1)) 30 (.int .i64 z1820)) ∧ I1821.le I1988 ∧ St w0 w I1988 [at_octet_Reader p0 z1984, cells b1084 [.int .i64 (0:Int), .int .u64 (0:Int), .int .u64 (0:Int), (.slice none 0 0), (.slice none 0 0)], cells b1108 [.int .i64 (IntKind.i64.wrap t1089.1), .int .u64 t1094.1, .int .u64 t1099.1, v1257, v1817], ownS ty_api_Got v1257 z1258, ownS (tySl ty_api_Pair) v1817 z1816, ownS ty_api_Pair v1986 z1987] R) ?_ ?_
   ·skip
    have hL1993 := HL.le.refl I1821
    refine wp_seq (wp_region_lit ?_)
    refine wv (p0) rfl rfl rfl ?_
    replace hst := hst.pull1
    obtain ⟨t1832, ht1833, hm⟩ := bind_some hm
    refine wl_call rfl rfl (x_call Try.call46 rfl (vs := [p0, .int .i64 (64:Int)]) rfl) ?_
    refine (octet_Reader_Count_ref hst.to1 ht1833).mono ?_
    rintro _ w1834 ⟨rfl, hst⟩
    refine ⟨_, rfl, ?_⟩
    replace hst := hst.of1
    refine wv (.int .i64 (0:Int)) rfl rfl rfl ?_
    refine wl_nil (then_n (wp_block ?_))
    replace hst := hst.own_nil ty_api_Pair
    obtain ⟨n1945, hm⟩ := loopO_some hm
    refine wp_loop_n (fun n a w => ∃ (I1943 : HL) (z1938 : octet_Reader) (z1939 : Int) (z1940 : (List api_Pair)) (v1941 : Value) (σ1944 : Nat → Value), loopN (command_ReadReply_l4 t1832) n (z1938, z1939, z1940) = some y1991 ∧ a = Fr 54 (upd (upd (upd (upd (upd (upd (upd (upd σ1944 0 (p0)) 2 (.pointer (some ⟨b1084, 0, none⟩))) 3 (.pointer (some ⟨b1108, 0, none⟩))) 4 (v1941)) 29 (.int .i64 t1266.1)) 30 (.int .i64 z1820)) 33 (.int .i64 t1832.1)) 34 (.int .i64 z1939)) ∧ I1821.le I1943 ∧ St w0 w I1943 [ownS ty_api_Pair v1941 z1940, at_octet_Reader p0 z1938, ownS (tySl ty_api_Pair) v1817 z1816, cells b1084 [.int .i64 (0:Int), .int .u64 (0:Int), .int .u64 (0:Int), (.slice none 0 0), (.slice none 0 0)], cells b1108 [.int .i64 (IntKind.i64.wrap t1089.1), .int .u64 t1094.1, .int .u64 t1099.1, v1257, v1817], ownS ty_api_Got v1257 z1258] R) n1945 ⟨_, t1832.2, (0:Int), [], (.slice none 0 0), _, hm, ((fr_upd (t := 0) (v := p0) rfl).trans ((fr_upd (t := 2) (v := .pointer (some ⟨b1084, 0, none⟩)) rfl).trans ((fr_upd (t := 3) (v := .pointer (some ⟨b1108, 0, none⟩)) rfl).trans ((fr_upd (t := 4) (v := (.slice none 0 0)) rfl).trans ((fr_upd (t := 29) (v := .int .i64 t1266.1) rfl).trans ((fr_upd (t := 30) (v := .int .i64 z1820) rfl).trans ((fr_upd (t := 33) (v := .int .i64 t1832.1) rfl).trans ((fr_upd (t := 34) (v := .int .i64 (0:Int)) rfl).trans rfl)))))))), (HL.le.refl _), hst⟩ ?_
    rintro n1951 _ w1946 ⟨I1943, z1938, z1939, z1940, v1941, σ1944, hm, rfl, hL1947, hst⟩
    obtain ⟨n1948, y1949, rfl, hm, hx1950⟩ := loopN_some hm
    dsimp only [command_ReadReply_l4] at hm
    replace hI0 := hI0.trans hL1947
    replace hL1825 := hL1825.trans hL1947
    replace hL1993 := hL1993.trans hL1947
    refine wp_seq (wp_region_lit ?_)
    refine wv (.bool (decide (z1939 < t1832.1))) rfl rfl rfl ?_
    refine wl_nil (then_n (wp_seq ?_))
    refine bsplit (decide (z1939 < t1832.1)) (fun hc1952 => ?_) (fun hc1952 => ?_)
    ·skip
     replace hm := bif_t hc1952 hm
     refine wp_ift (congrArg Value.bool hc1952) ?_
     refine wp_skip (then_n (wp_seq (wp_block (wp_region_lit ?_))))
     refine wv (v1941) rfl rfl rfl ?_
     refine wv (p0) rfl rfl rfl ?_
     replace hst := hst.pull1
     obtain ⟨t1953, ht1954, hm⟩ := bind_some hm
     refine wl_call rfl rfl (x_call Try.call13 rfl (vs := [p0, .int .i64 (8:Int)]) rfl) ?_
     refine (octet_Reader_Num_ref hst.to1 ht1954).mono ?_
     rintro _ w1955 ⟨rfl, hst⟩
     refine ⟨_, rfl, ?_⟩
     replace hst := hst.of1
     obtain ⟨t1958, ht1959, hm⟩ := bind_some hm
     refine wl_call rfl rfl (x_call Try.call48 rfl (vs := [.int .u64 t1953.1]) rfl) ?_
     refine (number_Back_ref hst.to0 ht1959).mono ?_
     rintro _ w1960 ⟨rfl, hst⟩
     refine ⟨_, rfl, ?_⟩
     replace hst := hst.of0
     refine wv (p0) rfl rfl rfl ?_
     obtain ⟨t1963, ht1964, hm⟩ := bind_some hm
     refine wl_call rfl rfl (x_call Try.call18 rfl (vs := [p0, .int .i64 (256:Int)]) rfl) ?_
     refine (octet_Reader_Bytes_ref hst.to1 ht1964).mono ?_
     rintro _ w1965 ⟨v1968, rfl, hst⟩
     refine ⟨_, rfl, ?_⟩
     replace hst := hst.of2
     refine wv (.agg #[.float .f64 t1958, v1968]) rfl rfl (by obtain ⟨_, _, hv_, _⟩ := hst.sv0; rw [hv_]; kernel_rfl) ?_
     obtain ⟨I1972, hI1973, f1974, hst⟩ := hst.own_fix
     replace hI0 := hI0.trans hI1973
     replace hL1825 := hL1825.trans hI1973
     replace hL1993 := hL1993.trans hI1973
     replace hL1947 := hL1947.trans hI1973
     obtain ⟨b1975, w1976, ew1977, eb1978, hst⟩ := hst.lits (E := ty_api_Pair) (xs := [({ At := t1958, Val := t1963.1 } : api_Pair)]) [[.float .f64 t1958, v1968]] 107 1 rfl (Reps.cons ⟨_, rfl, f1974, one_of_sliceV (ro_sliceV f1974)⟩ Reps.nil)
     refine wl_run (v := (.slice (some ⟨b1975, 0, none⟩) 1 1)) (w' := w1976) rfl rfl (x_als (by kernel_rfl) ew1977 eb1978) ?_
     obtain ⟨hg1980, hm⟩ := gd_some hm
     replace hst := hst.pull2
     obtain ⟨v1981, w1982, hr1983, hst⟩ := run_append elem_105 Try.underlying105 hst hst.src1 (room_of hg1980 rfl) 105
     refine wl_run (v := v1981) (w' := w1982) rfl rfl (x_append rfl rfl hr1983) ?_
     refine wv (v1981) rfl rfl rfl ?_
     refine wl_nil (blk_n (then_n (wp_region_lit ?_)))
     refine wv (.int .i64 (IntKind.i64.wrap (z1939 + (1:Int)))) rfl rfl rfl ?_
     refine wv (.int .i64 (IntKind.i64.wrap (z1939 + (1:Int)))) rfl rfl rfl ?_
     refine wl_nil (then_n ?_)
     replace hst := hst.pull6
     replace hst := hst.pull6
     replace hst := hst.pull6
     replace hst := hst.pull6
     replace hst := hst.pull6
     replace hst := hst.pull5
     replace hst := hst.keep6
     obtain rfl := some_inj hm
     exact ⟨_, Nat.lt_succ_self _, _, t1963.2, (IntKind.i64.wrap (z1939 + (1:Int))), (z1940 ++ ([({ At := t1958, Val := t1963.1 } : api_Pair)])), v1981, _, hx1950, ((fr_upd (t := 0) (v := p0) rfl).trans ((fr_upd (t := 2) (v := .pointer (some ⟨b1084, 0, none⟩)) rfl).trans ((fr_upd (t := 3) (v := .pointer (some ⟨b1108, 0, none⟩)) rfl).trans ((fr_upd (t := 4) (v := v1981) rfl).trans ((fr_upd (t := 29) (v := .int .i64 t1266.1) rfl).trans ((fr_upd (t := 30) (v := .int .i64 z1820) rfl).trans ((fr_upd (t := 33) (v := .int .i64 t1832.1) rfl).trans ((fr_upd (t := 34) (v := .int .i64 (IntKind.i64.wrap (z1939 + (1:Int)))) rfl).trans rfl)))))))), hL1947, hst⟩
    ·skip
     replace hm := bif_f hc1952 hm
     refine wp_iff (congrArg Value.bool hc1952) ?_
     refine wp_exit (then_x (then_x ?_))
     replace hm := inr_up hm hx1950
     refine blk_x (then_n ?_)
     replace hst := hst.pull2
     replace hst := hst.pull5
     replace hst := hst.pull5
     replace hst := hst.pull5
     replace hst := hst.pull5
     replace hst := hst.keep6
     obtain rfl := some_inj hm
     exact ⟨_, z1938, z1940, v1941, _, hx1992, ((fr_upd (t := 0) (v := p0) rfl).trans ((fr_upd (t := 2) (v := .pointer (some ⟨b1084, 0, none⟩)) rfl).trans ((fr_upd (t := 3) (v := .pointer (some ⟨b1108, 0, none⟩)) rfl).trans ((fr_upd (t := 4) (v := v1941) rfl).trans ((fr_upd (t := 29) (v := .int .i64 t1266.1) rfl).trans ((fr_upd (t := 30) (v := .int .i64 z1820) rfl).trans rfl)))))), hL1993, hst⟩
   ·skip
    clear hst
    rintro _ w1994 ⟨I1988, z1984, z1987, v1986, σ1989, hm, rfl, hL1990, hst⟩
    dsimp only [command_ReadReply_j3] at hm
    replace hI0 := hI0.trans hL1990
    replace hL1825 := hL1825.trans hL1990
    refine wp_region_lit ?_
    refine wv (.pointer (some ⟨b1108, 4, none⟩)) rfl rfl (x_field rfl Try.underlying41 rfl Try.sizeOf39 rfl) ?_
    refine wv (v1817) rfl rfl (x_load rfl Try.isAgg39 (hst.bc2 rfl)) ?_
    refine wv (v1986) rfl rfl rfl ?_
    replace hst := hst.pull5
    obtain ⟨I1996, hI1997, f1998, hst⟩ := hst.own_fix
    replace hI0 := hI0.trans hI1997
    replace hL1825 := hL1825.trans hI1997
    obtain ⟨b1999, w2000, ew2001, eb2002, hst⟩ := hst.lits (E := (tySl ty_api_Pair)) (xs := [z1987]) [[v1986]] 105 1 rfl (Reps.cons ⟨_, rfl, f1998, one_of_sliceV (ro_sliceV f1998)⟩ Reps.nil)
    refine wl_run (v := (.slice (some ⟨b1999, 0, none⟩) 1 1)) (w' := w2000) rfl rfl (x_als (by obtain ⟨_, _, hv_, _⟩ := (ro_sliceV f1998); rw [hv_]; kernel_rfl) ew2001 eb2002) ?_
    obtain ⟨hg2004, hm⟩ := gd_some hm
    replace hst := hst.pull5
    obtain ⟨v2005, w2006, hr2007, hst⟩ := run_append elem_39 Try.underlying39 hst hst.src1 (room_of hg2004 rfl) 39
    refine wl_run (v := v2005) (w' := w2006) rfl rfl (x_append rfl rfl hr2007) ?_
    refine wv (.pointer (some ⟨b1108, 4, none⟩)) rfl rfl (x_field rfl Try.underlying41 rfl Try.sizeOf39 rfl) ?_
    replace hst := hst.pull4
    obtain ⟨w2008, hr2009, hst⟩ := hst.boxStore1 (P := Try.prog) (t := 39) (cs' := [.int .i64 (IntKind.i64.wrap t1089.1), .int .u64 t1094.1, .int .u64 t1099.1, v1257, v2005]) 4 v2005 (one_of_sliceV hst.sv1) Try.sizeOf39 rfl rfl
    refine wl_unit rfl rfl (x_unit hr2009) ?_
    refine wl_nil (blk_n (then_n (wp_region_lit ?_)))
    refine wv (.int .i64 (IntKind.i64.wrap (z1820 + (1:Int)))) rfl rfl rfl ?_
    refine wv (.int .i64 (IntKind.i64.wrap (z1820 + (1:Int)))) rfl rfl rfl ?_
    refine wl_nil (then_n ?_)
    replace hst := hst.pull5
    replace hst := hst.pull1
    replace hst := hst.pull5
    replace hst := hst.pull5
    replace hst := hst.pull4
    replace hst := hst.keep5
    obtain rfl := some_inj hm
    exact ⟨_, Nat.lt_succ_self _, _, (z1816 ++ ([z1987])), z1984, (IntKind.i64.wrap (z1820 + (1:Int))), v2005, _, hx1828, ((fr_upd (t := 0) (v := p0) rfl).trans ((fr_upd (t := 2) (v := .pointer (some ⟨b1084, 0, none⟩)) rfl).trans ((fr_upd (t := 3) (v := .pointer (some ⟨b1108, 0, none⟩)) rfl).trans ((fr_upd (t := 29) (v := .int .i64 t1266.1) rfl).trans ((fr_upd (t := 30) (v := .int .i64 (IntKind.i64.wrap (z1820 + (1:Int)))) rfl).trans rfl))))), hL1825, hst⟩
  ·skip
   replace hm := bif_f hc1830 hm
   refine wp_iff (congrArg Value.bool hc1830) ?_
   refine wp_exit (then_x (then_x ?_))
   replace hm := inr_up hm hx1828
   refine blk_x (then_n (wp_seq (wp_region_lit ?_)))
   refine wv (.agg #[.int .i64 (IntKind.i64.wrap t1089.1), .int .u64 t1094.1, .int .u64 t1099.1, v1257, v1817]) rfl rfl (x_loadN (cs := [.int .i64 (IntKind.i64.wrap t1089.1), .int .u64 t1094.1, .int .u64 t1099.1, v1257, v1817]) rfl Try.isAgg41 Try.sizeOf41 (hst.bcs3 0 rfl)) ?_
   replace hst := hst.pull2
   obtain ⟨w2010, hr2011, hst⟩ := hst.boxStore (P := Try.prog) (t := 41) (cs' := [.int .i64 (IntKind.i64.wrap t1089.1), .int .u64 t1094.1, .int .u64 t1099.1, v1257, v1817]) 0 (.agg #[.int .i64 (IntKind.i64.wrap t1089.1), .int .u64 t1094.1, .int .u64 t1099.1, v1257, v1817]) Try.sizeOf41 (Nat.le_of_ble_eq_true rfl) (ones_cons rfl (ones_cons rfl (ones_cons rfl (ones_cons (one_of_sliceV hst.sv4) (ones_cons (one_of_sliceV hst.sv1) ones_nil))))) (by kernel_rfl)
   refine wl_unit rfl rfl (x_unit hr2011) ?_
   refine wl_nil (then_n (wp_ret ?_))
   obtain rfl := some_inj hm
   refine post_ret (vs := [.agg #[.int .i64 (IntKind.i64.wrap t1089.1), .int .u64 t1094.1, .int .u64 t1099.1, v1257, v1817]]) Try.results16 (rvs_cons (rv_cell (cs := [.int .i64 (IntKind.i64.wrap t1089.1), .int .u64 t1094.1, .int .u64 t1099.1, v1257, v1817]) rfl Try.isAgg41 Try.sizeOf41 (hst.bcs0 0 rfl)) rvs_nil) ?_
   replace hst := hst.pull2
   replace hst := hst.pull2
   replace hst := hst.pull4
   exact ⟨_, v1257, v1817, rfl, hI0, hst.keep3⟩

theorem command_readWrites_ref {w0 w : World} {I : HL} {R : SP} {a0 : octet_Reader} {p0 : Value}  (hst : St w0 w I [at_octet_Reader p0 a0] R) {r : ((List api_Write) × octet_Reader)} (hm : command_readWrites a0 = some r) :
  Calls Try.prog 50 #[p0] w fun e w' => ∃ (I' : HL) (q0_0 : Value), e = .returned (q0_0) ∧ I.le I' ∧ St w0 w' I' [ownS ty_api_Write q0_0 r.1, at_octet_Reader p0 r.2] R := by
 unfold command_readWrites at hm
 refine calls_start (args := [p0]) Try.func50 rfl Try.ntmps50 (Nat.le_of_ble_eq_true rfl) ?_
 have hI0 := HL.le.refl I
 refine wp_seq (wp_region_lit ?_)
 refine wv ((.slice none 0 0)) rfl rfl rfl ?_
 refine wl_nil (then_n (wp_seq (wp_region_lit ?_)))
 refine wv ((.slice none 0 0)) rfl rfl rfl ?_
 refine wl_nil (then_n (wp_seq (wp_seq (wp_region_lit ?_))))
 refine wv (p0) rfl rfl rfl ?_
 obtain ⟨t472, ht473, hm⟩ := bind_some hm
 refine wl_call rfl rfl (x_call Try.call46 rfl (vs := [p0, .int .i64 (32:Int)]) rfl) ?_
 refine (octet_Reader_Count_ref hst.to1 ht473).mono ?_
 rintro _ w474 ⟨rfl, hst⟩
 refine ⟨_, rfl, ?_⟩
 replace hst := hst.of1
 refine wv (.int .i64 (0:Int)) rfl rfl rfl ?_
 refine wl_nil (then_n (wp_block ?_))
 replace hst := hst.own_nil ty_api_Write
 obtain ⟨n600, hm⟩ := loopO_some hm
 refine wp_loop_n (fun n a w => ∃ (I598 : HL) (z593 : octet_Reader) (z594 : (List api_Write)) (z597 : Int) (v595 : Value) (σ599 : Nat → Value), loopN (command_readWrites_l0 t472) n (z593, z594, z597) = some r ∧ a = Fr 21 (upd (upd (upd (upd σ599 0 (p0)) 3 (v595)) 5 (.int .i64 t472.1)) 6 (.int .i64 z597)) ∧ I.le I598 ∧ St w0 w I598 [ownS ty_api_Write v595 z594, at_octet_Reader p0 z593] R) n600 ⟨_, t472.2, [], (0:Int), (.slice none 0 0), _, hm, ((fr_upd (t := 0) (v := p0) rfl).trans ((fr_upd (t := 3) (v := (.slice none 0 0)) rfl).trans ((fr_upd (t := 5) (v := .int .i64 t472.1) rfl).trans ((fr_upd (t := 6) (v := .int .i64 (0:Int)) rfl).trans rfl)))), (HL.le.refl _), hst⟩ ?_
 rintro n606 _ w601 ⟨I598, z593, z594, z597, v595, σ599, hm, rfl, hL602, hst⟩
 obtain ⟨n603, y604, rfl, hm, hx605⟩ := loopN_some hm
 dsimp only [command_readWrites_l0] at hm
 replace hI0 := hI0.trans hL602
 refine wp_seq (wp_region_lit ?_)
 refine wv (.bool (decide (z597 < t472.1))) rfl rfl rfl ?_
 refine wl_nil (then_n (wp_seq ?_))
 refine bsplit (decide (z597 < t472.1)) (fun hc607 => ?_) (fun hc607 => ?_)
 ·skip
  replace hm := bif_t hc607 hm
  refine wp_ift (congrArg Value.bool hc607) ?_
  refine wp_skip (then_n (wp_seq (wp_block (wp_region_lit ?_))))
  refine wv (v595) rfl rfl rfl ?_
  refine wv (p0) rfl rfl rfl ?_
  replace hst := hst.pull1
  obtain ⟨t608, ht609, hm⟩ := bind_some hm
  refine wl_call rfl rfl (x_call Try.call13 rfl (vs := [p0, .int .i64 (8:Int)]) rfl) ?_
  refine (octet_Reader_Num_ref hst.to1 ht609).mono ?_
  rintro _ w610 ⟨rfl, hst⟩
  refine ⟨_, rfl, ?_⟩
  replace hst := hst.of1
  obtain ⟨t613, ht614, hm⟩ := bind_some hm
  refine wl_call rfl rfl (x_call Try.call48 rfl (vs := [.int .u64 t608.1]) rfl) ?_
  refine (number_Back_ref hst.to0 ht614).mono ?_
  rintro _ w615 ⟨rfl, hst⟩
  refine ⟨_, rfl, ?_⟩
  replace hst := hst.of0
  refine wv (p0) rfl rfl rfl ?_
  obtain ⟨t618, ht619, hm⟩ := bind_some hm
  refine wl_call rfl rfl (x_call Try.call45 rfl (vs := [p0]) rfl) ?_
  refine (octet_Reader_Flag_ref hst.to1 ht619).mono ?_
  rintro _ w620 ⟨rfl, hst⟩
  refine ⟨_, rfl, ?_⟩
  replace hst := hst.of1
  refine wv (p0) rfl rfl rfl ?_
  obtain ⟨t623, ht624, hm⟩ := bind_some hm
  refine wl_call rfl rfl (x_call Try.call18 rfl (vs := [p0, .int .i64 (256:Int)]) rfl) ?_
  refine (octet_Reader_Bytes_ref hst.to1 ht624).mono ?_
  rintro _ w625 ⟨v628, rfl, hst⟩
  refine ⟨_, rfl, ?_⟩
  replace hst := hst.of2
  refine wv (.agg #[.float .f64 t613, .bool t618.1, v628]) rfl rfl (by obtain ⟨_, _, hv_, _⟩ := hst.sv0; rw [hv_]; kernel_rfl) ?_
  obtain ⟨I632, hI633, f634, hst⟩ := hst.own_fix
  replace hI0 := hI0.trans hI633
  replace hL602 := hL602.trans hI633
  obtain ⟨b635, w636, ew637, eb638, hst⟩ := hst.lits (E := ty_api_Write) (xs := [({ At := t613, Del := t618.1, Val := t623.1 } : api_Write)]) [[.float .f64 t613, .bool t618.1, v628]] 120 1 rfl (Reps.cons ⟨_, rfl, f634, one_of_sliceV (ro_sliceV f634)⟩ Reps.nil)
  refine wl_run (v := (.slice (some ⟨b635, 0, none⟩) 1 1)) (w' := w636) rfl rfl (x_als (by kernel_rfl) ew637 eb638) ?_
  obtain ⟨hg640, hm⟩ := gd_some hm
  replace hst := hst.pull2
  obtain ⟨v641, w642, hr643, hst⟩ := run_append elem_42 Try.underlying42 hst hst.src1 (room_of hg640 rfl) 42
  refine wl_run (v := v641) (w' := w642) rfl rfl (x_append rfl rfl hr643) ?_
  refine wv (v641) rfl rfl rfl ?_
  refine wl_nil (blk_n (then_n (wp_region_lit ?_)))
  refine wv (.int .i64 (IntKind.i64.wrap (z597 + (1:Int)))) rfl rfl rfl ?_
  refine wv (.int .i64 (IntKind.i64.wrap (z597 + (1:Int)))) rfl rfl rfl ?_
  refine wl_nil (then_n ?_)
  replace hst := hst.pull2
  replace hst := hst.pull1
  replace hst := hst.keep2
  obtain rfl := some_inj hm
  exact ⟨_, Nat.lt_succ_self _, _, t623.2, (z594 ++ ([({ At := t613, Del := t618.1, Val := t623.1 } : api_Write)])), (IntKind.i64.wrap (z597 + (1:Int))), v641, _, hx605, ((fr_upd (t := 0) (v := p0) rfl).trans ((fr_upd (t := 3) (v := v641) rfl).trans ((fr_upd (t := 5) (v := .int .i64 t472.1) rfl).trans ((fr_upd (t := 6) (v := .int .i64 (IntKind.i64.wrap (z597 + (1:Int)))) rfl).trans rfl)))), hL602, hst⟩
 ·skip
  replace hm := bif_f hc607 hm
  refine wp_iff (congrArg Value.bool hc607) ?_
  refine wp_exit (then_x (then_x ?_))
  replace hm := inr_up hm hx605
  refine blk_x (then_n (wp_seq (wp_region_lit ?_)))
  refine wv (v595) rfl rfl rfl ?_
  refine wv (v595) rfl rfl rfl ?_
  refine wl_nil (then_n (wp_ret ?_))
  obtain rfl := some_inj hm
  refine post_ret (vs := [v595]) Try.results50 (rvs_cons (rv_tmp rfl) rvs_nil) ?_
  replace hst := hst.pull1
  replace hst := hst.pull1
  exact ⟨_, v595, rfl, hI0, hst.keep2⟩

theorem command_readRule_ref {w0 w : World} {I : HL} {R : SP} {a0 : octet_Reader} {p0 : Value}  (hst : St w0 w I [at_octet_Reader p0 a0] R) {r : (api_Rule × octet_Reader)} (hm : command_readRule a0 = some r) :
  Calls Try.prog 51 #[p0] w fun e w' => e = .returned (.agg #[.int .u64 r.1.ID, .int .i64 r.1.From, .int .i64 r.1.To, .float .f64 r.1.Lo, .float .f64 r.1.Hi, .int .u64 r.1.Authority, .int .i64 r.1.Quota]) ∧ St w0 w' I [at_octet_Reader p0 r.2] R := by
 unfold command_readRule at hm
 refine calls_start (args := [p0]) Try.func51 rfl Try.ntmps51 (Nat.le_of_ble_eq_true rfl) ?_
 refine wp_seq (wp_region_lit ?_)
 obtain ⟨b574, w575, ew576, eb577, hst⟩ := hst.box [.int .u64 (0:Int), .int .i64 (0:Int), .int .i64 (0:Int), .float .f64 (0:Nat), .float .f64 (0:Nat), .int .u64 (0:Int), .int .i64 (0:Int)] 46
 refine wl_run (v := .pointer (some ⟨b574, 0, none⟩)) (w' := w575) rfl rfl (x_al (by kernel_rfl) ew576 eb577) ?_
 refine wl_nil (then_n (wp_seq (wp_region_lit ?_)))
 refine wv (p0) rfl rfl rfl ?_
 replace hst := hst.pull1
 obtain ⟨t579, ht580, hm⟩ := bind_some hm
 refine wl_call rfl rfl (x_call Try.call13 rfl (vs := [p0, .int .i64 (8:Int)]) rfl) ?_
 refine (octet_Reader_Num_ref hst.to1 ht580).mono ?_
 rintro _ w581 ⟨rfl, hst⟩
 refine ⟨_, rfl, ?_⟩
 replace hst := hst.of1
 refine wv (p0) rfl rfl rfl ?_
 obtain ⟨t584, ht585, hm⟩ := bind_some hm
 refine wl_call rfl rfl (x_call Try.call13 rfl (vs := [p0, .int .i64 (1:Int)]) rfl) ?_
 refine (octet_Reader_Num_ref hst.to1 ht585).mono ?_
 rintro _ w586 ⟨rfl, hst⟩
 refine ⟨_, rfl, ?_⟩
 replace hst := hst.of1
 refine wv (.int .i64 (IntKind.i64.wrap t584.1)) rfl rfl (by kernel_rfl) ?_
 refine wv (p0) rfl rfl rfl ?_
 obtain ⟨t589, ht590, hm⟩ := bind_some hm
 refine wl_call rfl rfl (x_call Try.call13 rfl (vs := [p0, .int .i64 (1:Int)]) rfl) ?_
 refine (octet_Reader_Num_ref hst.to1 ht590).mono ?_
 rintro _ w591 ⟨rfl, hst⟩
 refine ⟨_, rfl, ?_⟩
 replace hst := hst.of1
 refine wv (.int .i64 (IntKind.i64.wrap t589.1)) rfl rfl (by kernel_rfl) ?_
 refine wv (p0) rfl rfl rfl ?_
 obtain ⟨t594, ht595, hm⟩ := bind_some hm
 refine wl_call rfl rfl (x_call Try.call13 rfl (vs := [p0, .int .i64 (8:Int)]) rfl) ?_
 refine (octet_Reader_Num_ref hst.to1 ht595).mono ?_
 rintro _ w596 ⟨rfl, hst⟩
 refine ⟨_, rfl, ?_⟩
 replace hst := hst.of1
 obtain ⟨t599, ht600, hm⟩ := bind_some hm
 refine wl_call rfl rfl (x_call Try.call48 rfl (vs := [.int .u64 t594.1]) rfl) ?_
 refine (number_Back_ref hst.to0 ht600).mono ?_
 rintro _ w601 ⟨rfl, hst⟩
 refine ⟨_, rfl, ?_⟩
 replace hst := hst.of0
 refine wv (p0) rfl rfl rfl ?_
 obtain ⟨t604, ht605, hm⟩ := bind_some hm
 refine wl_call rfl rfl (x_call Try.call13 rfl (vs := [p0, .int .i64 (8:Int)]) rfl) ?_
 refine (octet_Reader_Num_ref hst.to1 ht605).mono ?_
 rintro _ w606 ⟨rfl, hst⟩
 refine ⟨_, rfl, ?_⟩
 replace hst := hst.of1
 obtain ⟨t609, ht610, hm⟩ := bind_some hm
 refine wl_call rfl rfl (x_call Try.call48 rfl (vs := [.int .u64 t604.1]) rfl) ?_
 refine (number_Back_ref hst.to0 ht610).mono ?_
 rintro _ w611 ⟨rfl, hst⟩
 refine ⟨_, rfl, ?_⟩
 replace hst := hst.of0
 refine wv (p0) rfl rfl rfl ?_
 obtain ⟨t614, ht615, hm⟩ := bind_some hm
 refine wl_call rfl rfl (x_call Try.call13 rfl (vs := [p0, .int .i64 (8:Int)]) rfl) ?_
 refine (octet_Reader_Num_ref hst.to1 ht615).mono ?_
 rintro _ w616 ⟨rfl, hst⟩
 refine ⟨_, rfl, ?_⟩
 replace hst := hst.of1
 refine wv (p0) rfl rfl rfl ?_
 obtain ⟨t619, ht620, hm⟩ := bind_some hm
 refine wl_call rfl rfl (x_call Try.call13 rfl (vs := [p0, .int .i64 (4:Int)]) rfl) ?_
 refine (octet_Reader_Num_ref hst.to1 ht620).mono ?_
 rintro _ w621 ⟨rfl, hst⟩
 refine ⟨_, rfl, ?_⟩
 replace hst := hst.of1
 refine wv (.int .i64 (IntKind.i64.wrap t619.1)) rfl rfl (by kernel_rfl) ?_
 refine wv (.agg #[.int .u64 t579.1, .int .i64 (IntKind.i64.wrap t584.1), .int .i64 (IntKind.i64.wrap t589.1), .float .f64 t599, .float .f64 t609, .int .u64 t614.1, .int .i64 (IntKind.i64.wrap t619.1)]) rfl rfl (by kernel_rfl) ?_
 replace hst := hst.pull1
 obtain ⟨w624, hr625, hst⟩ := hst.boxStore (P := Try.prog) (t := 46) (cs' := [.int .u64 t579.1, .int .i64 (IntKind.i64.wrap t584.1), .int .i64 (IntKind.i64.wrap t589.1), .float .f64 t599, .float .f64 t609, .int .u64 t614.1, .int .i64 (IntKind.i64.wrap t619.1)]) 0 (.agg #[.int .u64 t579.1, .int .i64 (IntKind.i64.wrap t584.1), .int .i64 (IntKind.i64.wrap t589.1), .float .f64 t599, .float .f64 t609, .int .u64 t614.1, .int .i64 (IntKind.i64.wrap t619.1)]) Try.sizeOf46 (Nat.le_of_ble_eq_true rfl) (ones_cons rfl (ones_cons rfl (ones_cons rfl (ones_cons rfl (ones_cons rfl (ones_cons rfl (ones_cons rfl ones_nil))))))) (by kernel_rfl)
 refine wl_unit rfl rfl (x_unit hr625) ?_
 refine wl_nil (then_n (wp_ret ?_))
 obtain rfl := some_inj hm
 refine post_ret (vs := [.agg #[.int .u64 t579.1, .int .i64 (IntKind.i64.wrap t584.1), .int .i64 (IntKind.i64.wrap t589.1), .float .f64 t599, .float .f64 t609, .int .u64 t614.1, .int .i64 (IntKind.i64.wrap t619.1)]]) Try.results51 (rvs_cons (rv_cell (cs := [.int .u64 t579.1, .int .i64 (IntKind.i64.wrap t584.1), .int .i64 (IntKind.i64.wrap t589.1), .float .f64 t599, .float .f64 t609, .int .u64 t614.1, .int .i64 (IntKind.i64.wrap t619.1)]) rfl Try.isAgg46 Try.sizeOf46 (hst.bcs0 0 rfl)) rvs_nil) ?_
 replace hst := hst.pull1
 exact ⟨rfl, hst.keep1⟩

theorem octet_Reader_End_ref {w0 w : World} {I : HL} {R : SP} {a0 : octet_Reader} {p0 : Value}  (hst : St w0 w I [at_octet_Reader p0 a0] R) {r : (Bool)} (hm : octet_Reader_End a0 = some r) :
  Calls Try.prog 19 #[p0] w fun e w' => e = .returned (.bool r) ∧ St w0 w' I [at_octet_Reader p0 a0] R := by
 unfold octet_Reader_End at hm
 refine calls_start (args := [p0]) Try.func19 rfl Try.ntmps19 (Nat.le_of_ble_eq_true rfl) ?_
 refine wp_seq (wp_region_lit ?_)
 refine wv (.bool false) rfl rfl rfl ?_
 refine wl_nil (then_n (wp_seq (wp_region_lit ?_)))
 refine wv (p0) rfl rfl rfl ?_
 obtain ⟨t635, ht636, hm⟩ := bind_some hm
 refine wl_call rfl rfl (x_call Try.call52 rfl (vs := [p0]) rfl) ?_
 refine (octet_Reader_Bad_ref hst.to1 ht636).mono ?_
 rintro _ w637 ⟨rfl, hst⟩
 refine ⟨_, rfl, ?_⟩
 replace hst := hst.of1
 refine wv (.bool (!t635)) rfl rfl rfl ?_
 refine wv (.bool (!t635)) rfl rfl rfl ?_
 refine bsplit (!t635) (fun hc640 => ?_) (fun hc640 => ?_)
 ·skip
  replace hm := bif_t hc640 hm
  refine wv (p0) ((wanted_eq rfl rfl rfl (congrArg Value.bool hc640)).trans rfl) rfl rfl ?_
  obtain ⟨b641, v642, ⟨rfl, f644⟩, hst'⟩ := at_octet_Reader_open hst
  clear hst
  have hst := hst'
  clear hst'
  refine wv (.pointer (some ⟨b641, 0, none⟩)) ((wanted_eq rfl rfl rfl (congrArg Value.bool hc640)).trans rfl) rfl rfl ?_
  refine wv (.pointer (some ⟨b641, 0, none⟩)) ((wanted_eq rfl rfl rfl (congrArg Value.bool hc640)).trans rfl) rfl (x_field rfl Try.underlying99 rfl Try.sizeOf22 rfl) ?_
  refine wv (v642) ((wanted_eq rfl rfl rfl (congrArg Value.bool hc640)).trans rfl) rfl (x_load rfl Try.isAgg22 (hst.bc0 rfl)) ?_
  refine wv (.int .i64 ((a0.p).length : Int)) ((wanted_eq rfl rfl rfl (congrArg Value.bool hc640)).trans rfl) rfl (x_len rfl Try.underlying22 (ro_sliceV f644)) ?_
  refine wv (.bool (((a0.p).length : Int) == (0:Int))) ((wanted_eq rfl rfl rfl (congrArg Value.bool hc640)).trans rfl) rfl rfl ?_
  refine wv (.bool (((a0.p).length : Int) == (0:Int))) rfl rfl (x_pick_t hc640 rfl rfl) ?_
  refine wv (.bool (((a0.p).length : Int) == (0:Int))) rfl rfl rfl ?_
  refine wl_nil (then_n (wp_ret ?_))
  replace hst := at_octet_Reader_close (pv := .pointer (some ⟨b641, 0, none⟩)) (x := a0) hst ⟨rfl, f644⟩
  obtain rfl := some_inj hm
  refine post_ret (vs := [.bool (((a0.p).length : Int) == (0:Int))]) Try.results19 (rvs_cons (rv_tmp rfl) rvs_nil) ?_
  exact ⟨rfl, hst.keep1⟩
 ·skip
  replace hm := bif_f hc640 hm
  refine wo hc640 rfl rfl rfl rfl rfl rfl ?_
  refine wo hc640 rfl rfl rfl rfl rfl rfl ?_
  refine wo hc640 rfl rfl rfl rfl rfl rfl ?_
  refine wo hc640 rfl rfl rfl rfl rfl rfl ?_
  refine wo hc640 rfl rfl rfl rfl rfl rfl ?_
  refine wo hc640 rfl rfl rfl rfl rfl rfl ?_
  refine wv (.bool false) rfl rfl (x_pick_f hc640 rfl rfl) ?_
  refine wv (.bool false) rfl rfl rfl ?_
  refine wl_nil (then_n (wp_ret ?_))
  obtain rfl := some_inj hm
  refine post_ret (vs := [.bool false]) Try.results19 (rvs_cons (rv_tmp rfl) rvs_nil) ?_
  exact ⟨rfl, hst.keep1⟩

theorem slices_Equal_byte_byte_ref {w0 w : World} {I : HL} {R : SP} {a0 : (List Int)} {r0_0 : Value} {a1 : (List Int)} {r1_0 : Value} (f0_0 : Rd (tyInt .u8) R I r0_0 a0) (f1_0 : Rd (tyInt .u8) R I r1_0 a1) (hst : St w0 w I [] R) {r : (Bool)} (hm : slices_Equal_byte_byte a0 a1 = some r) :
  Calls Try.prog 20 #[r0_0, r1_0] w fun e w' => e = .returned (.bool r) ∧ St w0 w' I [] R := by
 unfold slices_Equal_byte_byte at hm
 refine calls_start (args := [r0_0, r1_0]) Try.func20 rfl Try.ntmps20 (Nat.le_of_ble_eq_true rfl) ?_
 refine wp_seq (wp_region_lit ?_)
 refine wv (.bool false) rfl rfl rfl ?_
 refine wl_nil (then_n (wp_seq (wp_seq (wp_region_lit ?_))))
 refine wv (r0_0) rfl rfl rfl ?_
 refine wv (.int .i64 ((a0).length : Int)) rfl rfl (x_len rfl Try.underlying22 (rd_sliceV f0_0)) ?_
 refine wv (r1_0) rfl rfl rfl ?_
 refine wv (.int .i64 ((a1).length : Int)) rfl rfl (x_len rfl Try.underlying22 (rd_sliceV f1_0)) ?_
 refine wv (.bool (((a0).length : Int) != ((a1).length : Int))) rfl rfl rfl ?_
 refine wl_nil (then_n ?_)
 refine bsplit (((a0).length : Int) != ((a1).length : Int)) (fun hc713 => ?_) (fun hc713 => ?_)
 ·skip
  replace hm := bif_t hc713 hm
  refine wp_ift (congrArg Value.bool hc713) ?_
  refine wp_seq (wp_region_lit ?_)
  refine wv (.bool false) rfl rfl rfl ?_
  refine wl_nil (then_n (wp_ret (then_r ?_)))
  obtain rfl := some_inj hm
  refine post_ret (vs := [.bool false]) Try.results20 (rvs_cons (rv_tmp rfl) rvs_nil) ?_
  exact ⟨rfl, hst.keep0⟩
 ·skip
  replace hm := bif_f hc713 hm
  refine wp_iff (congrArg Value.bool hc713) ?_
  refine wp_skip (then_n (wp_seq (wp_seq (wp_region_lit ?_))))
  refine wv (r0_0) rfl rfl rfl ?_
  refine wv (.int .i64 ((a0).length : Int)) rfl rfl (x_len rfl Try.underlying22 (rd_sliceV f0_0)) ?_
  refine wv (.int .i64 (0:Int)) rfl rfl rfl ?_
  refine wl_nil (then_n (wp_block ?_))
  obtain ⟨n741, hm⟩ := loopO_some hm
  refine wp_loop_n (fun n a w => ∃ (z739 : Int) (σ740 : Nat → Value), loopN (slices_Equal_byte_byte_l0 a0 a1) n z739 = some r ∧ a = Fr 26 (upd (upd (upd (upd σ740 0 (r0_0)) 1 (r1_0)) 12 (.int .i64 ((a0).length : Int))) 13 (.int .i64 z739)) ∧ St w0 w I [] R) n741 ⟨(0:Int), _, hm, ((fr_upd (t := 0) (v := r0_0) rfl).trans ((fr_upd (t := 1) (v := r1_0) rfl).trans ((fr_upd (t := 12) (v := .int .i64 ((a0).length : Int)) rfl).trans ((fr_upd (t := 13) (v := .int .i64 (0:Int)) rfl).trans rfl)))), hst⟩ ?_
  rintro n747 _ w742 ⟨z739, σ740, hm, rfl, hst⟩
  obtain ⟨n744, y745, rfl, hm, hx746⟩ := loopN_some hm
  dsimp only [slices_Equal_byte_byte_l0] at hm
  refine wp_seq (wp_region_lit ?_)
  refine wv (.bool (decide (z739 < ((a0).length : Int)))) rfl rfl rfl ?_
  refine wl_nil (then_n (wp_seq ?_))
  refine bsplit (decide (z739 < ((a0).length : Int))) (fun hc748 => ?_) (fun hc748 => ?_)
  ·skip
   replace hm := bif_t hc748 hm
   refine wp_ift (congrArg Value.bool hc748) ?_
   refine wp_skip (then_n (wp_seq (wp_block (wp_seq (wp_region_lit ?_)))))
   refine wv (.int .i64 z739) rfl rfl rfl ?_
   refine wv (.int .i64 z739) rfl rfl rfl ?_
   refine wl_nil (then_n (wp_seq ?_))
   refine wq_regionS hst Try.mixed (by kernel_rfl) ?_
   refine wq_run (v := r0_0) rfl rfl (fun w hst => rfl) ?_
   refine wq_run (v := .int .i64 z739) rfl rfl (fun w hst => rfl) ?_
   obtain ⟨x749, hx750, hm⟩ := bind_some hm
   obtain ⟨h751, h752, hi753⟩ := geto_some hx750
   refine wq_run (v := .pointer (some (eAddr r0_0 (z739.toNat * 1 + 0)))) rfl rfl (fun w hst => x_index rfl rfl Try.underlying22 Try.sizeOf5 (rd_sliceV f0_0) h751 h752) ?_
   refine wq_run (v := .int .u8 x749) rfl rfl (fun w hst => x_load rfl Try.isAgg5 (rd_load f0_0 (HL.le.refl _) hst hi753 (by rintro _ rfl; rfl))) ?_
   refine wq_run (v := r1_0) rfl rfl (fun w hst => rfl) ?_
   refine wq_run (v := .int .i64 z739) rfl rfl (fun w hst => rfl) ?_
   obtain ⟨x754, hx755, hm⟩ := bind_some hm
   obtain ⟨h756, h757, hi758⟩ := geto_some hx755
   refine wq_run (v := .pointer (some (eAddr r1_0 (z739.toNat * 1 + 0)))) rfl rfl (fun w hst => x_index rfl rfl Try.underlying22 Try.sizeOf5 (rd_sliceV f1_0) h756 h757) ?_
   refine wq_run (v := .int .u8 x754) rfl rfl (fun w hst => x_load rfl Try.isAgg5 (rd_load f1_0 (HL.le.refl _) hst hi758 (by rintro _ rfl; rfl))) ?_
   refine wq_run (v := .bool (x749 != x754)) rfl rfl (fun w hst => rfl) ?_
   refine wq_nil ?_
   intro w hst
   refine then_n ?_
   refine bsplit (x749 != x754) (fun hc759 => ?_) (fun hc759 => ?_)
   ·skip
    replace hm := bif_t hc759 hm
    refine wp_ift (congrArg Value.bool hc759) ?_
    refine wp_seq (wp_region_lit ?_)
    refine wv (.bool false) rfl rfl rfl ?_
    refine wl_nil (then_n (wp_ret (blk_r (then_r (then_r ?_)))))
    replace hm := inr_up hm hx746
    refine blk_r (then_r ?_)
    obtain rfl := some_inj hm
    refine post_ret (vs := [.bool false]) Try.results20 (rvs_cons (rv_tmp rfl) rvs_nil) ?_
    exact ⟨rfl, hst.keep0⟩
   ·skip
    replace hm := bif_f hc759 hm
    refine wp_iff (congrArg Value.bool hc759) ?_
    refine wp_skip (blk_n (then_n (wp_region_lit ?_)))
    refine wv (.int .i64 (IntKind.i64.wrap (z739 + (1:Int)))) rfl rfl rfl ?_
    refine wv (.int .i64 (IntKind.i64.wrap (z739 + (1:Int)))) rfl rfl rfl ?_
    refine wl_nil (then_n ?_)
    replace hst := hst.keep0
    obtain rfl := some_inj hm
    exact ⟨_, Nat.lt_succ_self _, (IntKind.i64.wrap (z739 + (1:Int))), _, hx746, ((fr_upd (t := 0) (v := r0_0) rfl).trans ((fr_upd (t := 1) (v := r1_0) rfl).trans ((fr_upd (t := 12) (v := .int .i64 ((a0).length : Int)) rfl).trans ((fr_upd (t := 13) (v := .int .i64 (IntKind.i64.wrap (z739 + (1:Int)))) rfl).trans rfl)))), hst⟩
  ·skip
   replace hm := bif_f hc748 hm
   refine wp_iff (congrArg Value.bool hc748) ?_
   refine wp_exit (then_x (then_x ?_))
   replace hm := inr_up hm hx746
   refine blk_x (then_n (wp_seq (wp_region_lit ?_)))
   refine wv (.bool true) rfl rfl rfl ?_
   refine wl_nil (then_n (wp_ret ?_))
   obtain rfl := some_inj hm
   refine post_ret (vs := [.bool true]) Try.results20 (rvs_cons (rv_tmp rfl) rvs_nil) ?_
   exact ⟨rfl, hst.keep0⟩

end Go.Proofs.Ytldfdainhdiffaa
