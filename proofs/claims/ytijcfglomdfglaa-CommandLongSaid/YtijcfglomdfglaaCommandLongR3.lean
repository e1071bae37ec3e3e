/- The Go functions refine their models, part 3. -/
import Derived.Test.YtijcfglomdfglaaCommandLongR2
set_option linter.unusedVariables false
set_option linter.unusedSimpArgs false
set_option maxRecDepth 100000
set_option maxHeartbeats 4000000
namespace Go.Proofs.Ytijcfglomdfglaa
open Go Go.V
attribute [local irreducible] wpList Code.wp wpQuiet Calls bodyPost Oper.wp wpS Nx PendOK YieldsIn
theorem ref11_SameReply_ref {w0 w : World} {I : HL} {R : SP} {a0 : api_Reply} {r0_0 : Value} {r0_1 : Value} {a1 : api_Reply} {r1_0 : Value} {r1_1 : Value} (f0_0 : Rd ty_api_Got R I r0_0 a0.Gots) (f0_1 : Rd (tySl ty_api_Pair) R I r0_1 a0.Scans) (f1_0 : Rd ty_api_Got R I r1_0 a1.Gots) (f1_1 : Rd (tySl ty_api_Pair) R I r1_1 a1.Scans) (hst : St w0 w I [] R) {r : (Bool)} (hm : ref11_SameReply a0 a1 = some r) :
  Calls Try.prog 19 #[.agg #[.int .i64 a0.E, .int .u64 a0.Epoch, .int .u64 a0.Index, r0_0, r0_1], .agg #[.int .i64 a1.E, .int .u64 a1.Epoch, .int .u64 a1.Index, r1_0, r1_1]] w fun e w' => e = .returned (.bool r) ∧ St w0 w' I [] R := by
 unfold ref11_SameReply at hm
 refine calls_start (args := [.agg #[.int .i64 a0.E, .int .u64 a0.Epoch, .int .u64 a0.Index, r0_0, r0_1], .agg #[.int .i64 a1.E, .int .u64 a1.Epoch, .int .u64 a1.Index, r1_0, r1_1]]) Try.func19 rfl Try.ntmps19 (Nat.le_of_ble_eq_true rfl) ?_
 refine wp_seq (wp_region_lit ?_)
 obtain ⟨b368, w369, ew370, eb371, hst⟩ := hst.box [.int .i64 a0.E, .int .u64 a0.Epoch, .int .u64 a0.Index, r0_0, r0_1] 39
 refine wl_run (v := .pointer (some ⟨b368, 0, none⟩)) (w' := w369) rfl rfl (x_al (by kernel_rfl) ew370 eb371) ?_
 obtain ⟨b373, w374, ew375, eb376, hst⟩ := hst.box [.int .i64 a1.E, .int .u64 a1.Epoch, .int .u64 a1.Index, r1_0, r1_1] 39
 refine wl_run (v := .pointer (some ⟨b373, 0, none⟩)) (w' := w374) rfl rfl (x_al (by kernel_rfl) ew375 eb376) ?_
 refine wv (.bool false) rfl rfl rfl ?_
 refine wl_nil (then_n (wp_seq (wp_seq (wp_region_lit ?_))))
 refine wv (.pointer (some ⟨b368, 0, none⟩)) rfl rfl (x_field rfl Try.underlying39 rfl Try.sizeOf30 rfl) ?_
 refine wv (.int .i64 a0.E) rfl rfl (x_load rfl Try.isAgg30 (hst.bc1 rfl)) ?_
 refine wv (.pointer (some ⟨b373, 0, none⟩)) rfl rfl (x_field rfl Try.underlying39 rfl Try.sizeOf30 rfl) ?_
 refine wv (.int .i64 a1.E) rfl rfl (x_load rfl Try.isAgg30 (hst.bc0 rfl)) ?_
 refine wv (.bool (a0.E != a1.E)) rfl rfl rfl ?_
 refine wv (.bool (a0.E != a1.E)) rfl rfl rfl ?_
 refine bsplit (a0.E != a1.E) (fun hc378 => ?_) (fun hc378 => ?_)
 ·skip
  replace hm := bif_t hc378 hm
  refine wo hc378 rfl rfl rfl rfl rfl rfl ?_
  refine wo hc378 rfl rfl rfl rfl rfl rfl ?_
  refine wo hc378 rfl rfl rfl rfl rfl rfl ?_
  refine wo hc378 rfl rfl rfl rfl rfl rfl ?_
  refine wo hc378 rfl rfl rfl rfl rfl rfl ?_
  refine wv (.bool true) rfl rfl (x_pick_t hc378 rfl rfl) ?_
  refine wv (.bool true) rfl rfl rfl ?_
  refine wl_off ((wanted_eq rfl rfl rfl rfl).trans rfl) rfl ?_
  refine wl_off ((wanted_eq rfl rfl rfl rfl).trans rfl) rfl ?_
  refine wl_off ((wanted_eq rfl rfl rfl rfl).trans rfl) rfl ?_
  refine wl_off ((wanted_eq rfl rfl rfl rfl).trans rfl) rfl ?_
  refine wl_off ((wanted_eq rfl rfl rfl rfl).trans rfl) rfl ?_
  refine wv (.bool true) rfl rfl (x_pick_t rfl rfl rfl) ?_
  refine wv (.bool true) rfl rfl rfl ?_
  refine wl_off ((wanted_eq rfl rfl rfl rfl).trans rfl) rfl ?_
  refine wl_off ((wanted_eq rfl rfl rfl rfl).trans rfl) rfl ?_
  refine wl_off ((wanted_eq rfl rfl rfl rfl).trans rfl) rfl ?_
  refine wl_off ((wanted_eq rfl rfl rfl rfl).trans rfl) rfl ?_
  refine wl_off ((wanted_eq rfl rfl rfl rfl).trans rfl) rfl ?_
  refine wl_off ((wanted_eq rfl rfl rfl rfl).trans rfl) rfl ?_
  refine wv (.bool true) rfl rfl (x_pick_t rfl rfl rfl) ?_
  refine wv (.bool true) rfl rfl rfl ?_
  refine wl_off ((wanted_eq rfl rfl rfl rfl).trans rfl) rfl ?_
  refine wl_off ((wanted_eq rfl rfl rfl rfl).trans rfl) rfl ?_
  refine wl_off ((wanted_eq rfl rfl rfl rfl).trans rfl) rfl ?_
  refine wl_off ((wanted_eq rfl rfl rfl rfl).trans rfl) rfl ?_
  refine wl_off ((wanted_eq rfl rfl rfl rfl).trans rfl) rfl ?_
  refine wl_off ((wanted_eq rfl rfl rfl rfl).trans rfl) rfl ?_
  refine wl_off ((wanted_eq rfl rfl rfl rfl).trans rfl) rfl ?_
  refine wv (.bool true) rfl rfl (x_pick_t rfl rfl rfl) ?_
  refine wl_nil (then_n ?_)
  refine wp_ift rfl ?_
  refine wp_seq (wp_region_lit ?_)
  refine wv (.bool false) rfl rfl rfl ?_
  refine wl_nil (then_n (wp_ret (then_r ?_)))
  obtain rfl := some_inj hm
  refine post_ret (vs := [.bool false]) Try.results19 (rvs_cons (rv_tmp rfl) rvs_nil) ?_
  exact ⟨rfl, hst.keep0⟩
 ·skip
  replace hm := bif_f hc378 hm
  refine wv (.pointer (some ⟨b368, 1, none⟩)) ((wanted_eq rfl rfl rfl (congrArg Value.bool hc378)).trans rfl) rfl (x_field rfl Try.underlying39 rfl Try.sizeOf27 rfl) ?_
  refine wv (.int .u64 a0.Epoch) ((wanted_eq rfl rfl rfl (congrArg Value.bool hc378)).trans rfl) rfl (x_load rfl Try.isAgg27 (hst.bc1 rfl)) ?_
  refine wv (.pointer (some ⟨b373, 1, none⟩)) ((wanted_eq rfl rfl rfl (congrArg Value.bool hc378)).trans rfl) rfl (x_field rfl Try.underlying39 rfl Try.sizeOf27 rfl) ?_
  refine wv (.int .u64 a1.Epoch) ((wanted_eq rfl rfl rfl (congrArg Value.bool hc378)).trans rfl) rfl (x_load rfl Try.isAgg27 (hst.bc0 rfl)) ?_
  refine wv (.bool (a0.Epoch != a1.Epoch)) ((wanted_eq rfl rfl rfl (congrArg Value.bool hc378)).trans rfl) rfl rfl ?_
  refine wv (.bool (a0.Epoch != a1.Epoch)) rfl rfl (x_pick_f hc378 rfl rfl) ?_
  refine wv (.bool (a0.Epoch != a1.Epoch)) rfl rfl rfl ?_
  refine bsplit (a0.Epoch != a1.Epoch) (fun hc379 => ?_) (fun hc379 => ?_)
  ·skip
   replace hm := bif_t hc379 hm
   refine wo hc379 rfl rfl rfl rfl rfl rfl ?_
   refine wo hc379 rfl rfl rfl rfl rfl rfl ?_
   refine wo hc379 rfl rfl rfl rfl rfl rfl ?_
   refine wo hc379 rfl rfl rfl rfl rfl rfl ?_
   refine wo hc379 rfl rfl rfl rfl rfl rfl ?_
   refine wv (.bool true) rfl rfl (x_pick_t hc379 rfl rfl) ?_
   refine wv (.bool true) rfl rfl rfl ?_
   refine wl_off ((wanted_eq rfl rfl rfl rfl).trans rfl) rfl ?_
   refine wl_off ((wanted_eq rfl rfl rfl rfl).trans rfl) rfl ?_
   refine wl_off ((wanted_eq rfl rfl rfl rfl).trans rfl) rfl ?_
   refine wl_off ((wanted_eq rfl rfl rfl rfl).trans rfl) rfl ?_
   refine wl_off ((wanted_eq rfl rfl rfl rfl).trans rfl) rfl ?_
   refine wl_off ((wanted_eq rfl rfl rfl rfl).trans rfl) rfl ?_
   refine wv (.bool true) rfl rfl (x_pick_t rfl rfl rfl) ?_
   refine wv (.bool true) rfl rfl rfl ?_
   refine wl_off ((wanted_eq rfl rfl rfl rfl).trans rfl) rfl ?_
   refine wl_off ((wanted_eq rfl rfl rfl rfl).trans rfl) rfl ?_
   refine wl_off ((wanted_eq rfl rfl rfl rfl).trans rfl) rfl ?_
   refine wl_off ((wanted_eq rfl rfl rfl rfl).trans rfl) rfl ?_
   refine wl_off ((wanted_eq rfl rfl rfl rfl).trans rfl) rfl ?_
   refine wl_off ((wanted_eq rfl rfl rfl rfl).trans rfl) rfl ?_
   refine wl_off ((wanted_eq rfl rfl rfl rfl).trans rfl) rfl ?_
   refine wv (.bool true) rfl rfl (x_pick_t rfl rfl rfl) ?_
   refine wl_nil (then_n ?_)
   refine wp_ift rfl ?_
   refine wp_seq (wp_region_lit ?_)
   refine wv (.bool false) rfl rfl rfl ?_
   refine wl_nil (then_n (wp_ret (then_r ?_)))
   obtain rfl := some_inj hm
   refine post_ret (vs := [.bool false]) Try.results19 (rvs_cons (rv_tmp rfl) rvs_nil) ?_
   exact ⟨rfl, hst.keep0⟩
  ·skip
   replace hm := bif_f hc379 hm
   refine wv (.pointer (some ⟨b368, 2, none⟩)) ((wanted_eq rfl rfl rfl (congrArg Value.bool hc379)).trans rfl) rfl (x_field rfl Try.underlying39 rfl Try.sizeOf27 rfl) ?_
   refine wv (.int .u64 a0.Index) ((wanted_eq rfl rfl rfl (congrArg Value.bool hc379)).trans rfl) rfl (x_load rfl Try.isAgg27 (hst.bc1 rfl)) ?_
   refine wv (.pointer (some ⟨b373, 2, none⟩)) ((wanted_eq rfl rfl rfl (congrArg Value.bool hc379)).trans rfl) rfl (x_field rfl Try.underlying39 rfl Try.sizeOf27 rfl) ?_
   refine wv (.int .u64 a1.Index) ((wanted_eq rfl rfl rfl (congrArg Value.bool hc379)).trans rfl) rfl (x_load rfl Try.isAgg27 (hst.bc0 rfl)) ?_
   refine wv (.bool (a0.Index != a1.Index)) ((wanted_eq rfl rfl rfl (congrArg Value.bool hc379)).trans rfl) rfl rfl ?_
   refine wv (.bool (a0.Index != a1.Index)) rfl rfl (x_pick_f hc379 rfl rfl) ?_
   refine wv (.bool (a0.Index != a1.Index)) rfl rfl rfl ?_
   refine bsplit (a0.Index != a1.Index) (fun hc380 => ?_) (fun hc380 => ?_)
   ·skip
    replace hm := bif_t hc380 hm
    refine wo hc380 rfl rfl rfl rfl rfl rfl ?_
    refine wo hc380 rfl rfl rfl rfl rfl rfl ?_
    refine wo hc380 rfl rfl rfl rfl rfl rfl ?_
    refine wo hc380 rfl rfl rfl rfl rfl rfl ?_
    refine wo hc380 rfl rfl rfl rfl rfl rfl ?_
    refine wo hc380 rfl rfl rfl rfl rfl rfl ?_
    refine wv (.bool true) rfl rfl (x_pick_t hc380 rfl rfl) ?_
    refine wv (.bool true) rfl rfl rfl ?_
    refine wl_off ((wanted_eq rfl rfl rfl rfl).trans rfl) rfl ?_
    refine wl_off ((wanted_eq rfl rfl rfl rfl).trans rfl) rfl ?_
    refine wl_off ((wanted_eq rfl rfl rfl rfl).trans rfl) rfl ?_
    refine wl_off ((wanted_eq rfl rfl rfl rfl).trans rfl) rfl ?_
    refine wl_off ((wanted_eq rfl rfl rfl rfl).trans rfl) rfl ?_
    refine wl_off ((wanted_eq rfl rfl rfl rfl).trans rfl) rfl ?_
    refine wl_off ((wanted_eq rfl rfl rfl rfl).trans rfl) rfl ?_
    refine wv (.bool true) rfl rfl (x_pick_t rfl rfl rfl) ?_
    refine wl_nil (then_n ?_)
    refine wp_ift rfl ?_
    refine wp_seq (wp_region_lit ?_)
    refine wv (.bool false) rfl rfl rfl ?_
    refine wl_nil (then_n (wp_ret (then_r ?_)))
    obtain rfl := some_inj hm
    refine post_ret (vs := [.bool false]) Try.results19 (rvs_cons (rv_tmp rfl) rvs_nil) ?_
    exact ⟨rfl, hst.keep0⟩
   ·skip
    replace hm := bif_f hc380 hm
    refine wv (.pointer (some ⟨b368, 3, none⟩)) ((wanted_eq rfl rfl rfl (congrArg Value.bool hc380)).trans rfl) rfl (x_field rfl Try.underlying39 rfl Try.sizeOf36 rfl) ?_
    refine wv (r0_0) ((wanted_eq rfl rfl rfl (congrArg Value.bool hc380)).trans rfl) rfl (x_load rfl Try.isAgg36 (hst.bc1 rfl)) ?_
    refine wv (.pointer (some ⟨b373, 3, none⟩)) ((wanted_eq rfl rfl rfl (congrArg Value.bool hc380)).trans rfl) rfl (x_field rfl Try.underlying39 rfl Try.sizeOf36 rfl) ?_
    refine wv (r1_0) ((wanted_eq rfl rfl rfl (congrArg Value.bool hc380)).trans rfl) rfl (x_load rfl Try.isAgg36 (hst.bc0 rfl)) ?_
    obtain ⟨t381, ht382, hm⟩ := bind_some hm
    refine wl_call ((wanted_eq rfl rfl rfl (congrArg Value.bool hc380)).trans rfl) rfl (x_call Try.call50 rfl (vs := [r0_0, r1_0]) rfl) ?_
    refine (ref11_SameGots_ref (f0_0.mono (rd_weak _)) (f1_0.mono (rd_weak _)) hst.to0 ht382).mono ?_
    rintro _ w383 ⟨rfl, hst⟩
    refine ⟨_, rfl, ?_⟩
    replace hst := hst.of0
    refine wv (.bool (!t381)) ((wanted_eq rfl rfl rfl (congrArg Value.bool hc380)).trans rfl) rfl rfl ?_
    refine wv (.bool (!t381)) rfl rfl (x_pick_f hc380 rfl rfl) ?_
    refine wv (.bool (!t381)) rfl rfl rfl ?_
    refine bsplit (!t381) (fun hc386 => ?_) (fun hc386 => ?_)
    ·skip
     replace hm := bif_t hc386 hm
     refine wo hc386 rfl rfl rfl rfl rfl rfl ?_
     refine wo hc386 rfl rfl rfl rfl rfl rfl ?_
     refine wo hc386 rfl rfl rfl rfl rfl rfl ?_
     refine wo hc386 rfl rfl rfl rfl rfl rfl ?_
     refine wo hc386 rfl rfl rfl rfl rfl rfl ?_
     refine wo hc386 rfl rfl rfl rfl rfl rfl ?_
     refine wo hc386 rfl rfl rfl rfl rfl rfl ?_
     refine wv (.bool true) rfl rfl (x_pick_t hc386 rfl rfl) ?_
     refine wl_nil (then_n ?_)
     refine wp_ift rfl ?_
     refine wp_seq (wp_region_lit ?_)
     refine wv (.bool false) rfl rfl rfl ?_
     refine wl_nil (then_n (wp_ret (then_r ?_)))
     obtain rfl := some_inj hm
     refine post_ret (vs := [.bool false]) Try.results19 (rvs_cons (rv_tmp rfl) rvs_nil) ?_
     exact ⟨rfl, hst.keep0⟩
    ·skip
     replace hm := bif_f hc386 hm
     refine wv (.pointer (some ⟨b368, 4, none⟩)) ((wanted_eq rfl rfl rfl (congrArg Value.bool hc386)).trans rfl) rfl (x_field rfl Try.underlying39 rfl Try.sizeOf37 rfl) ?_
     refine wv (r0_1) ((wanted_eq rfl rfl rfl (congrArg Value.bool hc386)).trans rfl) rfl (x_load rfl Try.isAgg37 (hst.bc1 rfl)) ?_
     refine wv (.int .i64 ((a0.Scans).length : Int)) ((wanted_eq rfl rfl rfl (congrArg Value.bool hc386)).trans rfl) rfl (x_len rfl Try.underlying37 (rd_sliceV f0_1)) ?_
     refine wv (.pointer (some ⟨b373, 4, none⟩)) ((wanted_eq rfl rfl rfl (congrArg Value.bool hc386)).trans rfl) rfl (x_field rfl Try.underlying39 rfl Try.sizeOf37 rfl) ?_
     refine wv (r1_1) ((wanted_eq rfl rfl rfl (congrArg Value.bool hc386)).trans rfl) rfl (x_load rfl Try.isAgg37 (hst.bc0 rfl)) ?_
     refine wv (.int .i64 ((a1.Scans).length : Int)) ((wanted_eq rfl rfl rfl (congrArg Value.bool hc386)).trans rfl) rfl (x_len rfl Try.underlying37 (rd_sliceV f1_1)) ?_
     refine wv (.bool (((a0.Scans).length : Int) != ((a1.Scans).length : Int))) ((wanted_eq rfl rfl rfl (congrArg Value.bool hc386)).trans rfl) rfl rfl ?_
     refine wv (.bool (((a0.Scans).length : Int) != ((a1.Scans).length : Int))) rfl rfl (x_pick_f hc386 rfl rfl) ?_
     refine wl_nil (then_n ?_)
     refine bsplit (((a0.Scans).length : Int) != ((a1.Scans).length : Int)) (fun hc387 => ?_) (fun hc387 => ?_)
     ·skip
      replace hm := bif_t hc387 hm
      refine wp_ift (congrArg Value.bool hc387) ?_
      refine wp_seq (wp_region_lit ?_)
      refine wv (.bool false) rfl rfl rfl ?_
      refine wl_nil (then_n (wp_ret (then_r ?_)))
      obtain rfl := some_inj hm
      refine post_ret (vs := [.bool false]) Try.results19 (rvs_cons (rv_tmp rfl) rvs_nil) ?_
      exact ⟨rfl, hst.keep0⟩
     ·skip
      replace hm := bif_f hc387 hm
      refine wp_iff (congrArg Value.bool hc387) ?_
      refine wp_skip (then_n (wp_seq (wp_seq (wp_region_lit ?_))))
      refine wv (.int .i64 (0:Int)) rfl rfl rfl ?_
      refine wl_nil (then_n (wp_block ?_))
      obtain ⟨n449, hm⟩ := loopO_some hm
      refine wp_loop_n (fun n a w => ∃ (z447 : Int) (σ448 : Nat → Value), loopN (ref11_SameReply_l0 a0 a1) n z447 = some r ∧ a = Fr 61 (upd (upd (upd σ448 2 (.pointer (some ⟨b368, 0, none⟩))) 3 (.pointer (some ⟨b373, 0, none⟩))) 5 (.int .i64 z447)) ∧ St w0 w I [cells b373 [.int .i64 a1.E, .int .u64 a1.Epoch, .int .u64 a1.Index, r1_0, r1_1], cells b368 [.int .i64 a0.E, .int .u64 a0.Epoch, .int .u64 a0.Index, r0_0, r0_1]] R) n449 ⟨(0:Int), _, hm, ((fr_upd (t := 2) (v := .pointer (some ⟨b368, 0, none⟩)) rfl).trans ((fr_upd (t := 3) (v := .pointer (some ⟨b373, 0, none⟩)) rfl).trans ((fr_upd (t := 5) (v := .int .i64 (0:Int)) rfl).trans rfl))), hst⟩ ?_
      rintro n455 _ w450 ⟨z447, σ448, hm, rfl, hst⟩
      obtain ⟨n452, y453, rfl, hm, hx454⟩ := loopN_some hm
      dsimp only [ref11_SameReply_l0] at hm
      refine wp_seq (wp_seq (wp_region_lit ?_))
      refine wv (.int .i64 z447) rfl rfl rfl ?_
      refine wv (.pointer (some ⟨b368, 4, none⟩)) rfl rfl (x_field rfl Try.underlying39 rfl Try.sizeOf37 rfl) ?_
      refine wv (r0_1) rfl rfl (x_load rfl Try.isAgg37 (hst.bc1 rfl)) ?_
      refine wv (.int .i64 ((a0.Scans).length : Int)) rfl rfl (x_len rfl Try.underlying37 (rd_sliceV f0_1)) ?_
      refine wv (.bool (decide (z447 < ((a0.Scans).length : Int)))) rfl rfl rfl ?_
      refine wl_nil (then_n ?_)
      refine bsplit (decide (z447 < ((a0.Scans).length : Int))) (fun hc456 => ?_) (fun hc456 => ?_)
      ·skip
       replace hm := bif_t hc456 hm
       refine wp_ift (congrArg Value.bool hc456) ?_
       refine wp_skip (then_n (wp_seq (wp_block (wp_seq ?_))))
       refine wp_region_St hst 12 [0, 1, 2, 3, 4, 5, 6, 7, 8, 9, 10, 11] [0, 1, 0, 7, 15, 0, 32, 0, 224, 480, 1023, 2047] [] rfl (by kernel_rfl) (by kernel_rfl) Try.mixed (by kernel_rfl) ?_
       refine wsr (.pointer (some ⟨b368, 4, none⟩)) 0 rfl rfl rfl (by kernel_rfl) (fun w hst => x_field rfl Try.underlying39 rfl Try.sizeOf37 rfl) ?_
       refine wsr (r0_1) 1 rfl rfl rfl (by kernel_rfl) (fun w hst => x_load rfl Try.isAgg37 (hst.bc1 rfl)) ?_
       refine wsr (.int .i64 z447) 2 rfl rfl rfl (by kernel_rfl) (fun w hst => rfl) ?_
       obtain ⟨x457, hx458, hm⟩ := bind_some hm
       obtain ⟨h459, h460, hi461⟩ := geto_some hx458
       refine wsr (.pointer (some (eAddr r0_1 (z447.toNat * 1 + 0)))) 3 rfl rfl rfl (by kernel_rfl) (fun w hst => x_index rfl rfl Try.underlying37 Try.sizeOf52 (rd_sliceV f0_1) h459 h460) ?_
       obtain ⟨cs462, hr463, hc464⟩ := Rd.getF f0_1 hi461
       obtain ⟨v465, rfl, f466, -⟩ := hr463
       refine wsr (v465) 4 rfl rfl rfl (by kernel_rfl) (fun w hst => x_load rfl Try.isAgg52 ((hc464 (HL.le.refl _) hst) 0 _ rfl)) ?_
       refine wsr (.pointer (some ⟨b373, 4, none⟩)) 5 rfl rfl rfl (by kernel_rfl) (fun w hst => x_field rfl Try.underlying39 rfl Try.sizeOf37 rfl) ?_
       refine wsr (r1_1) 6 rfl rfl rfl (by kernel_rfl) (fun w hst => x_load rfl Try.isAgg37 (hst.bc0 rfl)) ?_
       refine wsr (.int .i64 z447) 7 rfl rfl rfl (by kernel_rfl) (fun w hst => rfl) ?_
       obtain ⟨x468, hx469, hm⟩ := bind_some hm
       obtain ⟨h470, h471, hi472⟩ := geto_some hx469
       refine wsr (.pointer (some (eAddr r1_1 (z447.toNat * 1 + 0)))) 8 rfl rfl rfl (by kernel_rfl) (fun w hst => x_index rfl rfl Try.underlying37 Try.sizeOf52 (rd_sliceV f1_1) h470 h471) ?_
       obtain ⟨cs473, hr474, hc475⟩ := Rd.getF f1_1 hi472
       obtain ⟨v476, rfl, f477, -⟩ := hr474
       refine wsr (v476) 9 rfl rfl rfl (by kernel_rfl) (fun w hst => x_load rfl Try.isAgg52 ((hc475 (HL.le.refl _) hst) 0 _ rfl)) ?_
       refine ws_e1 10 (by kernel_rfl) ?_
       refine nxe [11] (by kernel_rfl) rfl rfl ?_
       clear hst
       intro w hst
       obtain ⟨t479, ht480, hm⟩ := bind_some hm
       refine we_call rfl (x_call Try.call51 rfl (vs := [v465, v476]) rfl) ?_
       refine (ref11_SamePairs_ref (f466.mono (rd_weak _)) (f477.mono (rd_weak _)) hst.to0 ht480).mono ?_
       rintro _ w481 ⟨rfl, hst⟩
       refine ⟨_, rfl, ?_⟩
       replace hst := hst.of0
       refine ws_next (pend' := []) hst (by kernel_rfl) pk_nil ?_
       refine wsr (.bool (!t479)) 11 rfl rfl rfl (by kernel_rfl) (fun w hst => rfl) ?_
       refine ws_nil ?_
       intro w hst
       refine then_n ?_
       refine bsplit (!t479) (fun hc484 => ?_) (fun hc484 => ?_)
       ·skip
        replace hm := bif_t hc484 hm
        refine wp_ift (congrArg Value.bool hc484) ?_
        refine wp_seq (wp_region_lit ?_)
        refine wv (.bool false) rfl rfl rfl ?_
        refine wl_nil (then_n (wp_ret (blk_r (then_r (then_r ?_)))))
        replace hm := inr_up hm hx454
        refine blk_r (then_r ?_)
        obtain rfl := some_inj hm
        refine post_ret (vs := [.bool false]) Try.results19 (rvs_cons (rv_tmp rfl) rvs_nil) ?_
        exact ⟨rfl, hst.keep0⟩
       ·skip
        replace hm := bif_f hc484 hm
        refine wp_iff (congrArg Value.bool hc484) ?_
        refine wp_skip (blk_n (then_n (wp_region_lit ?_)))
        refine wv (.int .i64 z447) rfl rfl rfl ?_
        refine wv (.int .i64 (IntKind.i64.wrap (z447 + (1:Int)))) rfl rfl rfl ?_
        refine wv (.int .i64 (IntKind.i64.wrap (z447 + (1:Int)))) rfl rfl rfl ?_
        refine wl_nil (then_n ?_)
        replace hst := hst.pull1
        replace hst := hst.pull1
        replace hst := hst.keep2
        obtain rfl := some_inj hm
        exact ⟨_, Nat.lt_succ_self _, (IntKind.i64.wrap (z447 + (1:Int))), _, hx454, ((fr_upd (t := 2) (v := .pointer (some ⟨b368, 0, none⟩)) rfl).trans ((fr_upd (t := 3) (v := .pointer (some ⟨b373, 0, none⟩)) rfl).trans ((fr_upd (t := 5) (v := .int .i64 (IntKind.i64.wrap (z447 + (1:Int)))) rfl).trans rfl))), hst⟩
      ·skip
       replace hm := bif_f hc456 hm
       refine wp_iff (congrArg Value.bool hc456) ?_
       refine wp_exit (then_x (then_x ?_))
       replace hm := inr_up hm hx454
       refine blk_x (then_n (wp_seq (wp_region_lit ?_)))
       refine wv (.bool true) rfl rfl rfl ?_
       refine wl_nil (then_n (wp_ret ?_))
       obtain rfl := some_inj hm
       refine post_ret (vs := [.bool true]) Try.results19 (rvs_cons (rv_tmp rfl) rvs_nil) ?_
       exact ⟨rfl, hst.keep0⟩

theorem ref11_SameRule_ref {w0 w : World} {I : HL} {R : SP} {a0 : api_Rule} {a1 : api_Rule}  (hst : St w0 w I [] R) {r : (Bool)} (hm : ref11_SameRule a0 a1 = some r) :
  Calls Try.prog 35 #[.agg #[.int .u64 a0.ID, .int .i64 a0.From, .int .i64 a0.To, .float .f64 a0.Lo, .float .f64 a0.Hi, .int .u64 a0.Authority, .int .i64 a0.Quota], .agg #[.int .u64 a1.ID, .int .i64 a1.From, .int .i64 a1.To, .float .f64 a1.Lo, .float .f64 a1.Hi, .int .u64 a1.Authority, .int .i64 a1.Quota]] w fun e w' => e = .returned (.bool r) ∧ St w0 w' I [] R := by
 unfold ref11_SameRule at hm
 refine calls_start (args := [.agg #[.int .u64 a0.ID, .int .i64 a0.From, .int .i64 a0.To, .float .f64 a0.Lo, .float .f64 a0.Hi, .int .u64 a0.Authority, .int .i64 a0.Quota], .agg #[.int .u64 a1.ID, .int .i64 a1.From, .int .i64 a1.To, .float .f64 a1.Lo, .float .f64 a1.Hi, .int .u64 a1.Authority, .int .i64 a1.Quota]]) Try.func35 rfl Try.ntmps35 (Nat.le_of_ble_eq_true rfl) ?_
 refine wp_seq (wp_region_lit ?_)
 obtain ⟨b277, w278, ew279, eb280, hst⟩ := hst.box [.int .u64 a0.ID, .int .i64 a0.From, .int .i64 a0.To, .float .f64 a0.Lo, .float .f64 a0.Hi, .int .u64 a0.Authority, .int .i64 a0.Quota] 43
 refine wl_run (v := .pointer (some ⟨b277, 0, none⟩)) (w' := w278) rfl rfl (x_al (by kernel_rfl) ew279 eb280) ?_
 obtain ⟨b282, w283, ew284, eb285, hst⟩ := hst.box [.int .u64 a1.ID, .int .i64 a1.From, .int .i64 a1.To, .float .f64 a1.Lo, .float .f64 a1.Hi, .int .u64 a1.Authority, .int .i64 a1.Quota] 43
 refine wl_run (v := .pointer (some ⟨b282, 0, none⟩)) (w' := w283) rfl rfl (x_al (by kernel_rfl) ew284 eb285) ?_
 refine wv (.bool false) rfl rfl rfl ?_
 refine wl_nil (then_n (wp_seq (wp_region_lit ?_)))
 refine wv (.pointer (some ⟨b277, 0, none⟩)) rfl rfl (x_field rfl Try.underlying43 rfl Try.sizeOf27 rfl) ?_
 refine wv (.int .u64 a0.ID) rfl rfl (x_load rfl Try.isAgg27 (hst.bc1 rfl)) ?_
 refine wv (.pointer (some ⟨b282, 0, none⟩)) rfl rfl (x_field rfl Try.underlying43 rfl Try.sizeOf27 rfl) ?_
 refine wv (.int .u64 a1.ID) rfl rfl (x_load rfl Try.isAgg27 (hst.bc0 rfl)) ?_
 refine wv (.bool (a0.ID == a1.ID)) rfl rfl rfl ?_
 refine wv (.bool (a0.ID == a1.ID)) rfl rfl rfl ?_
 refine bsplit (a0.ID == a1.ID) (fun hc287 => ?_) (fun hc287 => ?_)
 ·skip
  replace hm := bif_t hc287 hm
  refine wv (.pointer (some ⟨b277, 1, none⟩)) ((wanted_eq rfl rfl rfl (congrArg Value.bool hc287)).trans rfl) rfl (x_field rfl Try.underlying43 rfl Try.sizeOf3 rfl) ?_
  refine wv (.int .i64 a0.From) ((wanted_eq rfl rfl rfl (congrArg Value.bool hc287)).trans rfl) rfl (x_load rfl Try.isAgg3 (hst.bc1 rfl)) ?_
  refine wv (.pointer (some ⟨b282, 1, none⟩)) ((wanted_eq rfl rfl rfl (congrArg Value.bool hc287)).trans rfl) rfl (x_field rfl Try.underlying43 rfl Try.sizeOf3 rfl) ?_
  refine wv (.int .i64 a1.From) ((wanted_eq rfl rfl rfl (congrArg Value.bool hc287)).trans rfl) rfl (x_load rfl Try.isAgg3 (hst.bc0 rfl)) ?_
  refine wv (.bool (a0.From == a1.From)) ((wanted_eq rfl rfl rfl (congrArg Value.bool hc287)).trans rfl) rfl rfl ?_
  refine wv (.bool (a0.From == a1.From)) rfl rfl (x_pick_t hc287 rfl rfl) ?_
  refine wv (.bool (a0.From == a1.From)) rfl rfl rfl ?_
  refine bsplit (a0.From == a1.From) (fun hc288 => ?_) (fun hc288 => ?_)
  ·skip
   replace hm := bif_t hc288 hm
   refine wv (.pointer (some ⟨b277, 2, none⟩)) ((wanted_eq rfl rfl rfl (congrArg Value.bool hc288)).trans rfl) rfl (x_field rfl Try.underlying43 rfl Try.sizeOf3 rfl) ?_
   refine wv (.int .i64 a0.To) ((wanted_eq rfl rfl rfl (congrArg Value.bool hc288)).trans rfl) rfl (x_load rfl Try.isAgg3 (hst.bc1 rfl)) ?_
   refine wv (.pointer (some ⟨b282, 2, none⟩)) ((wanted_eq rfl rfl rfl (congrArg Value.bool hc288)).trans rfl) rfl (x_field rfl Try.underlying43 rfl Try.sizeOf3 rfl) ?_
   refine wv (.int .i64 a1.To) ((wanted_eq rfl rfl rfl (congrArg Value.bool hc288)).trans rfl) rfl (x_load rfl Try.isAgg3 (hst.bc0 rfl)) ?_
   refine wv (.bool (a0.To == a1.To)) ((wanted_eq rfl rfl rfl (congrArg Value.bool hc288)).trans rfl) rfl rfl ?_
   refine wv (.bool (a0.To == a1.To)) rfl rfl (x_pick_t hc288 rfl rfl) ?_
   refine wv (.bool (a0.To == a1.To)) rfl rfl rfl ?_
   refine bsplit (a0.To == a1.To) (fun hc289 => ?_) (fun hc289 => ?_)
   ·skip
    replace hm := bif_t hc289 hm
    refine wv (.pointer (some ⟨b277, 3, none⟩)) ((wanted_eq rfl rfl rfl (congrArg Value.bool hc289)).trans rfl) rfl (x_field rfl Try.underlying43 rfl Try.sizeOf41 rfl) ?_
    refine wv (.float .f64 a0.Lo) ((wanted_eq rfl rfl rfl (congrArg Value.bool hc289)).trans rfl) rfl (x_load rfl Try.isAgg41 (hst.bc1 rfl)) ?_
    refine wv (.pointer (some ⟨b282, 3, none⟩)) ((wanted_eq rfl rfl rfl (congrArg Value.bool hc289)).trans rfl) rfl (x_field rfl Try.underlying43 rfl Try.sizeOf41 rfl) ?_
    refine wv (.float .f64 a1.Lo) ((wanted_eq rfl rfl rfl (congrArg Value.bool hc289)).trans rfl) rfl (x_load rfl Try.isAgg41 (hst.bc0 rfl)) ?_
    obtain ⟨t290, ht291, hm⟩ := bind_some hm
    refine wl_call ((wanted_eq rfl rfl rfl (congrArg Value.bool hc289)).trans rfl) rfl (x_call Try.call62 rfl (vs := [.float .f64 a0.Lo, .float .f64 a1.Lo]) rfl) ?_
    refine (ref01_Same_ref hst.to0 ht291).mono ?_
    rintro _ w292 ⟨rfl, hst⟩
    refine ⟨_, rfl, ?_⟩
    replace hst := hst.of0
    refine wv (.bool t290) rfl rfl (x_pick_t hc289 rfl rfl) ?_
    refine wv (.bool t290) rfl rfl rfl ?_
    refine bsplit t290 (fun hc295 => ?_) (fun hc295 => ?_)
    ·skip
     replace hm := bif_t hc295 hm
     refine wv (.pointer (some ⟨b277, 4, none⟩)) ((wanted_eq rfl rfl rfl (congrArg Value.bool hc295)).trans rfl) rfl (x_field rfl Try.underlying43 rfl Try.sizeOf41 rfl) ?_
     refine wv (.float .f64 a0.Hi) ((wanted_eq rfl rfl rfl (congrArg Value.bool hc295)).trans rfl) rfl (x_load rfl Try.isAgg41 (hst.bc1 rfl)) ?_
     refine wv (.pointer (some ⟨b282, 4, none⟩)) ((wanted_eq rfl rfl rfl (congrArg Value.bool hc295)).trans rfl) rfl (x_field rfl Try.underlying43 rfl Try.sizeOf41 rfl) ?_
     refine wv (.float .f64 a1.Hi) ((wanted_eq rfl rfl rfl (congrArg Value.bool hc295)).trans rfl) rfl (x_load rfl Try.isAgg41 (hst.bc0 rfl)) ?_
     obtain ⟨t296, ht297, hm⟩ := bind_some hm
     refine wl_call ((wanted_eq rfl rfl rfl (congrArg Value.bool hc295)).trans rfl) rfl (x_call Try.call62 rfl (vs := [.float .f64 a0.Hi, .float .f64 a1.Hi]) rfl) ?_
     refine (ref01_Same_ref hst.to0 ht297).mono ?_
     rintro _ w298 ⟨rfl, hst⟩
     refine ⟨_, rfl, ?_⟩
     replace hst := hst.of0
     refine wv (.bool t296) rfl rfl (x_pick_t hc295 rfl rfl) ?_
     refine wv (.bool t296) rfl rfl rfl ?_
     refine bsplit t296 (fun hc301 => ?_) (fun hc301 => ?_)
     ·skip
      replace hm := bif_t hc301 hm
      refine wv (.pointer (some ⟨b277, 5, none⟩)) ((wanted_eq rfl rfl rfl (congrArg Value.bool hc301)).trans rfl) rfl (x_field rfl Try.underlying43 rfl Try.sizeOf27 rfl) ?_
      refine wv (.int .u64 a0.Authority) ((wanted_eq rfl rfl rfl (congrArg Value.bool hc301)).trans rfl) rfl (x_load rfl Try.isAgg27 (hst.bc1 rfl)) ?_
      refine wv (.pointer (some ⟨b282, 5, none⟩)) ((wanted_eq rfl rfl rfl (congrArg Value.bool hc301)).trans rfl) rfl (x_field rfl Try.underlying43 rfl Try.sizeOf27 rfl) ?_
      refine wv (.int .u64 a1.Authority) ((wanted_eq rfl rfl rfl (congrArg Value.bool hc301)).trans rfl) rfl (x_load rfl Try.isAgg27 (hst.bc0 rfl)) ?_
      refine wv (.bool (a0.Authority == a1.Authority)) ((wanted_eq rfl rfl rfl (congrArg Value.bool hc301)).trans rfl) rfl rfl ?_
      refine wv (.bool (a0.Authority == a1.Authority)) rfl rfl (x_pick_t hc301 rfl rfl) ?_
      refine wv (.bool (a0.Authority == a1.Authority)) rfl rfl rfl ?_
      refine bsplit (a0.Authority == a1.Authority) (fun hc302 => ?_) (fun hc302 => ?_)
      ·skip
       replace hm := bif_t hc302 hm
       refine wv (.pointer (some ⟨b277, 6, none⟩)) ((wanted_eq rfl rfl rfl (congrArg Value.bool hc302)).trans rfl) rfl (x_field rfl Try.underlying43 rfl Try.sizeOf3 rfl) ?_
       refine wv (.int .i64 a0.Quota) ((wanted_eq rfl rfl rfl (congrArg Value.bool hc302)).trans rfl) rfl (x_load rfl Try.isAgg3 (hst.bc1 rfl)) ?_
       refine wv (.pointer (some ⟨b282, 6, none⟩)) ((wanted_eq rfl rfl rfl (congrArg Value.bool hc302)).trans rfl) rfl (x_field rfl Try.underlying43 rfl Try.sizeOf3 rfl) ?_
       refine wv (.int .i64 a1.Quota) ((wanted_eq rfl rfl rfl (congrArg Value.bool hc302)).trans rfl) rfl (x_load rfl Try.isAgg3 (hst.bc0 rfl)) ?_
       refine wv (.bool (a0.Quota == a1.Quota)) ((wanted_eq rfl rfl rfl (congrArg Value.bool hc302)).trans rfl) rfl rfl ?_
       refine wv (.bool (a0.Quota == a1.Quota)) rfl rfl (x_pick_t hc302 rfl rfl) ?_
       refine wv (.bool (a0.Quota == a1.Quota)) rfl rfl rfl ?_
       refine wl_nil (then_n (wp_ret ?_))
       obtain rfl := some_inj hm
       refine post_ret (vs := [.bool (a0.Quota == a1.Quota)]) Try.results35 (rvs_cons (rv_tmp rfl) rvs_nil) ?_
       exact ⟨rfl, hst.keep0⟩
      ·skip
       replace hm := bif_f hc302 hm
       refine wo hc302 rfl rfl rfl rfl rfl rfl ?_
       refine wo hc302 rfl rfl rfl rfl rfl rfl ?_
       refine wo hc302 rfl rfl rfl rfl rfl rfl ?_
       refine wo hc302 rfl rfl rfl rfl rfl rfl ?_
       refine wo hc302 rfl rfl rfl rfl rfl rfl ?_
       refine wv (.bool false) rfl rfl (x_pick_f hc302 rfl rfl) ?_
       refine wv (.bool false) rfl rfl rfl ?_
       refine wl_nil (then_n (wp_ret ?_))
       obtain rfl := some_inj hm
       refine post_ret (vs := [.bool false]) Try.results35 (rvs_cons (rv_tmp rfl) rvs_nil) ?_
       exact ⟨rfl, hst.keep0⟩
     ·skip
      replace hm := bif_f hc301 hm
      refine wo hc301 rfl rfl rfl rfl rfl rfl ?_
      refine wo hc301 rfl rfl rfl rfl rfl rfl ?_
      refine wo hc301 rfl rfl rfl rfl rfl rfl ?_
      refine wo hc301 rfl rfl rfl rfl rfl rfl ?_
      refine wo hc301 rfl rfl rfl rfl rfl rfl ?_
      refine wv (.bool false) rfl rfl (x_pick_f hc301 rfl rfl) ?_
      refine wv (.bool false) rfl rfl rfl ?_
      refine wl_off ((wanted_eq rfl rfl rfl rfl).trans rfl) rfl ?_
      refine wl_off ((wanted_eq rfl rfl rfl rfl).trans rfl) rfl ?_
      refine wl_off ((wanted_eq rfl rfl rfl rfl).trans rfl) rfl ?_
      refine wl_off ((wanted_eq rfl rfl rfl rfl).trans rfl) rfl ?_
      refine wl_off ((wanted_eq rfl rfl rfl rfl).trans rfl) rfl ?_
      refine wv (.bool false) rfl rfl (x_pick_f rfl rfl rfl) ?_
      refine wv (.bool false) rfl rfl rfl ?_
      refine wl_nil (then_n (wp_ret ?_))
      obtain rfl := some_inj hm
      refine post_ret (vs := [.bool false]) Try.results35 (rvs_cons (rv_tmp rfl) rvs_nil) ?_
      exact ⟨rfl, hst.keep0⟩
    ·skip
     replace hm := bif_f hc295 hm
     refine wo hc295 rfl rfl rfl rfl rfl rfl ?_
     refine wo hc295 rfl rfl rfl rfl rfl rfl ?_
     refine wo hc295 rfl rfl rfl rfl rfl rfl ?_
     refine wo hc295 rfl rfl rfl rfl rfl rfl ?_
     refine wo hc295 rfl rfl rfl rfl rfl rfl ?_
     refine wv (.bool false) rfl rfl (x_pick_f hc295 rfl rfl) ?_
     refine wv (.bool false) rfl rfl rfl ?_
     refine wl_off ((wanted_eq rfl rfl rfl rfl).trans rfl) rfl ?_
     refine wl_off ((wanted_eq rfl rfl rfl rfl).trans rfl) rfl ?_
     refine wl_off ((wanted_eq rfl rfl rfl rfl).trans rfl) rfl ?_
     refine wl_off ((wanted_eq rfl rfl rfl rfl).trans rfl) rfl ?_
     refine wl_off ((wanted_eq rfl rfl rfl rfl).trans rfl) rfl ?_
     refine wv (.bool false) rfl rfl (x_pick_f rfl rfl rfl) ?_
     refine wv (.bool false) rfl rfl rfl ?_
     refine wl_off ((wanted_eq rfl rfl rfl rfl).trans rfl) rfl ?_
     refine wl_off ((wanted_eq rfl rfl rfl rfl).trans rfl) rfl ?_
     refine wl_off ((wanted_eq rfl rfl rfl rfl).trans rfl) rfl ?_
     refine wl_off ((wanted_eq rfl rfl rfl rfl).trans rfl) rfl ?_
     refine wl_off ((wanted_eq rfl rfl rfl rfl).trans rfl) rfl ?_
     refine wv (.bool false) rfl rfl (x_pick_f rfl rfl rfl) ?_
     refine wv (.bool false) rfl rfl rfl ?_
     refine wl_nil (then_n (wp_ret ?_))
     obtain rfl := some_inj hm
     refine post_ret (vs := [.bool false]) Try.results35 (rvs_cons (rv_tmp rfl) rvs_nil) ?_
     exact ⟨rfl, hst.keep0⟩
   ·skip
    replace hm := bif_f hc289 hm
    refine wo hc289 rfl rfl rfl rfl rfl rfl ?_
    refine wo hc289 rfl rfl rfl rfl rfl rfl ?_
    refine wo hc289 rfl rfl rfl rfl rfl rfl ?_
    refine wo hc289 rfl rfl rfl rfl rfl rfl ?_
    refine wo hc289 rfl rfl rfl rfl rfl rfl ?_
    refine wv (.bool false) rfl rfl (x_pick_f hc289 rfl rfl) ?_
    refine wv (.bool false) rfl rfl rfl ?_
    refine wl_off ((wanted_eq rfl rfl rfl rfl).trans rfl) rfl ?_
    refine wl_off ((wanted_eq rfl rfl rfl rfl).trans rfl) rfl ?_
    refine wl_off ((wanted_eq rfl rfl rfl rfl).trans rfl) rfl ?_
    refine wl_off ((wanted_eq rfl rfl rfl rfl).trans rfl) rfl ?_
    refine wl_off ((wanted_eq rfl rfl rfl rfl).trans rfl) rfl ?_
    refine wv (.bool false) rfl rfl (x_pick_f rfl rfl rfl) ?_
    refine wv (.bool false) rfl rfl rfl ?_
    refine wl_off ((wanted_eq rfl rfl rfl rfl).trans rfl) rfl ?_
    refine wl_off ((wanted_eq rfl rfl rfl rfl).trans rfl) rfl ?_
    refine wl_off ((wanted_eq rfl rfl rfl rfl).trans rfl) rfl ?_
    refine wl_off ((wanted_eq rfl rfl rfl rfl).trans rfl) rfl ?_
    refine wl_off ((wanted_eq rfl rfl rfl rfl).trans rfl) rfl ?_
    refine wv (.bool false) rfl rfl (x_pick_f rfl rfl rfl) ?_
    refine wv (.bool false) rfl rfl rfl ?_
    refine wl_off ((wanted_eq rfl rfl rfl rfl).trans rfl) rfl ?_
    refine wl_off ((wanted_eq rfl rfl rfl rfl).trans rfl) rfl ?_
    refine wl_off ((wanted_eq rfl rfl rfl rfl).trans rfl) rfl ?_
    refine wl_off ((wanted_eq rfl rfl rfl rfl).trans rfl) rfl ?_
    refine wl_off ((wanted_eq rfl rfl rfl rfl).trans rfl) rfl ?_
    refine wv (.bool false) rfl rfl (x_pick_f rfl rfl rfl) ?_
    refine wv (.bool false) rfl rfl rfl ?_
    refine wl_nil (then_n (wp_ret ?_))
    obtain rfl := some_inj hm
    refine post_ret (vs := [.bool false]) Try.results35 (rvs_cons (rv_tmp rfl) rvs_nil) ?_
    exact ⟨rfl, hst.keep0⟩
  ·skip
   replace hm := bif_f hc288 hm
   refine wo hc288 rfl rfl rfl rfl rfl rfl ?_
   refine wo hc288 rfl rfl rfl rfl rfl rfl ?_
   refine wo hc288 rfl rfl rfl rfl rfl rfl ?_
   refine wo hc288 rfl rfl rfl rfl rfl rfl ?_
   refine wo hc288 rfl rfl rfl rfl rfl rfl ?_
   refine wv (.bool false) rfl rfl (x_pick_f hc288 rfl rfl) ?_
   refine wv (.bool false) rfl rfl rfl ?_
   refine wl_off ((wanted_eq rfl rfl rfl rfl).trans rfl) rfl ?_
   refine wl_off ((wanted_eq rfl rfl rfl rfl).trans rfl) rfl ?_
   refine wl_off ((wanted_eq rfl rfl rfl rfl).trans rfl) rfl ?_
   refine wl_off ((wanted_eq rfl rfl rfl rfl).trans rfl) rfl ?_
   refine wl_off ((wanted_eq rfl rfl rfl rfl).trans rfl) rfl ?_
   refine wv (.bool false) rfl rfl (x_pick_f rfl rfl rfl) ?_
   refine wv (.bool false) rfl rfl rfl ?_
   refine wl_off ((wanted_eq rfl rfl rfl rfl).trans rfl) rfl ?_
   refine wl_off ((wanted_eq rfl rfl rfl rfl).trans rfl) rfl ?_
   refine wl_off ((wanted_eq rfl rfl rfl rfl).trans rfl) rfl ?_
   refine wl_off ((wanted_eq rfl rfl rfl rfl).trans rfl) rfl ?_
   refine wl_off ((wanted_eq rfl rfl rfl rfl).trans rfl) rfl ?_
   refine wv (.bool false) rfl rfl (x_pick_f rfl rfl rfl) ?_
   refine wv (.bool false) rfl rfl rfl ?_
   refine wl_off ((wanted_eq rfl rfl rfl rfl).trans rfl) rfl ?_
   refine wl_off ((wanted_eq rfl rfl rfl rfl).trans rfl) rfl ?_
   refine wl_off ((wanted_eq rfl rfl rfl rfl).trans rfl) rfl ?_
   refine wl_off ((wanted_eq rfl rfl rfl rfl).trans rfl) rfl ?_
   refine wl_off ((wanted_eq rfl rfl rfl rfl).trans rfl) rfl ?_
   refine wv (.bool false) rfl rfl (x_pick_f rfl rfl rfl) ?_
   refine wv (.bool false) rfl rfl rfl ?_
   refine wl_off ((wanted_eq rfl rfl rfl rfl).trans rfl) rfl ?_
   refine wl_off ((wanted_eq rfl rfl rfl rfl).trans rfl) rfl ?_
   refine wl_off ((wanted_eq rfl rfl rfl rfl).trans rfl) rfl ?_
   refine wl_off ((wanted_eq rfl rfl rfl rfl).trans rfl) rfl ?_
   refine wl_off ((wanted_eq rfl rfl rfl rfl).trans rfl) rfl ?_
   refine wv (.bool false) rfl rfl (x_pick_f rfl rfl rfl) ?_
   refine wv (.bool false) rfl rfl rfl ?_
   refine wl_nil (then_n (wp_ret ?_))
   obtain rfl := some_inj hm
   refine post_ret (vs := [.bool false]) Try.results35 (rvs_cons (rv_tmp rfl) rvs_nil) ?_
   exact ⟨rfl, hst.keep0⟩
 ·skip
  replace hm := bif_f hc287 hm
  refine wo hc287 rfl rfl rfl rfl rfl rfl ?_
  refine wo hc287 rfl rfl rfl rfl rfl rfl ?_
  refine wo hc287 rfl rfl rfl rfl rfl rfl ?_
  refine wo hc287 rfl rfl rfl rfl rfl rfl ?_
  refine wo hc287 rfl rfl rfl rfl rfl rfl ?_
  refine wv (.bool false) rfl rfl (x_pick_f hc287 rfl rfl) ?_
  refine wv (.bool false) rfl rfl rfl ?_
  refine wl_off ((wanted_eq rfl rfl rfl rfl).trans rfl) rfl ?_
  refine wl_off ((wanted_eq rfl rfl rfl rfl).trans rfl) rfl ?_
  refine wl_off ((wanted_eq rfl rfl rfl rfl).trans rfl) rfl ?_
  refine wl_off ((wanted_eq rfl rfl rfl rfl).trans rfl) rfl ?_
  refine wl_off ((wanted_eq rfl rfl rfl rfl).trans rfl) rfl ?_
  refine wv (.bool false) rfl rfl (x_pick_f rfl rfl rfl) ?_
  refine wv (.bool false) rfl rfl rfl ?_
  refine wl_off ((wanted_eq rfl rfl rfl rfl).trans rfl) rfl ?_
  refine wl_off ((wanted_eq rfl rfl rfl rfl).trans rfl) rfl ?_
  refine wl_off ((wanted_eq rfl rfl rfl rfl).trans rfl) rfl ?_
  refine wl_off ((wanted_eq rfl rfl rfl rfl).trans rfl) rfl ?_
  refine wl_off ((wanted_eq rfl rfl rfl rfl).trans rfl) rfl ?_
  refine wv (.bool false) rfl rfl (x_pick_f rfl rfl rfl) ?_
  refine wv (.bool false) rfl rfl rfl ?_
  refine wl_off ((wanted_eq rfl rfl rfl rfl).trans rfl) rfl ?_
  refine wl_off ((wanted_eq rfl rfl rfl rfl).trans rfl) rfl ?_
  refine wl_off ((wanted_eq rfl rfl rfl rfl).trans rfl) rfl ?_
  refine wl_off ((wanted_eq rfl rfl rfl rfl).trans rfl) rfl ?_
  refine wl_off ((wanted_eq rfl rfl rfl rfl).trans rfl) rfl ?_
  refine wv (.bool false) rfl rfl (x_pick_f rfl rfl rfl) ?_
  refine wv (.bool false) rfl rfl rfl ?_
  refine wl_off ((wanted_eq rfl rfl rfl rfl).trans rfl) rfl ?_
  refine wl_off ((wanted_eq rfl rfl rfl rfl).trans rfl) rfl ?_
  refine wl_off ((wanted_eq rfl rfl rfl rfl).trans rfl) rfl ?_
  refine wl_off ((wanted_eq rfl rfl rfl rfl).trans rfl) rfl ?_
  refine wl_off ((wanted_eq rfl rfl rfl rfl).trans rfl) rfl ?_
  refine wv (.bool false) rfl rfl (x_pick_f rfl rfl rfl) ?_
  refine wv (.bool false) rfl rfl rfl ?_
  refine wl_off ((wanted_eq rfl rfl rfl rfl).trans rfl) rfl ?_
  refine wl_off ((wanted_eq rfl rfl rfl rfl).trans rfl) rfl ?_
  refine wl_off ((wanted_eq rfl rfl rfl rfl).trans rfl) rfl ?_
  refine wl_off ((wanted_eq rfl rfl rfl rfl).trans rfl) rfl ?_
  refine wl_off ((wanted_eq rfl rfl rfl rfl).trans rfl) rfl ?_
  refine wv (.bool false) rfl rfl (x_pick_f rfl rfl rfl) ?_
  refine wv (.bool false) rfl rfl rfl ?_
  refine wl_nil (then_n (wp_ret ?_))
  obtain rfl := some_inj hm
  refine post_ret (vs := [.bool false]) Try.results35 (rvs_cons (rv_tmp rfl) rvs_nil) ?_
  exact ⟨rfl, hst.keep0⟩

theorem law13_same_ref {w0 w : World} {I : HL} {R : SP} {a0 : api_Command} {r0_0 : Value} {r0_1 : Value} {r0_2 : Value} {r0_3 : Value} {r0_4 : Value} {r0_5 : Value} {r0_6 : Value} {r0_7 : Value} {a1 : api_Command} {r1_0 : Value} {r1_1 : Value} {r1_2 : Value} {r1_3 : Value} {r1_4 : Value} {r1_5 : Value} {r1_6 : Value} {r1_7 : Value} (f0_0 : Rd tyF64 R I r0_0 a0.Hold.Gets) (f0_1 : Rd tyF2 R I r0_1 a0.Hold.Scans) (f0_2 : Rd tyF64 R I r0_2 a0.Hold.Puts) (f0_3 : Rd (tyInt .u8) R I r0_3 a0.Hold.Data) (f0_4 : Rd ty_api_Write R I r0_4 a0.Writes) (f0_5 : Rd ty_api_Got R I r0_5 a0.R.Gots) (f0_6 : Rd (tySl ty_api_Pair) R I r0_6 a0.R.Scans) (f0_7 : Rd ty_api_Part R I r0_7 a0.Parts) (f1_0 : Rd tyF64 R I r1_0 a1.Hold.Gets) (f1_1 : Rd tyF2 R I r1_1 a1.Hold.Scans) (f1_2 : Rd tyF64 R I r1_2 a1.Hold.Puts) (f1_3 : Rd (tyInt .u8) R I r1_3 a1.Hold.Data) (f1_4 : Rd ty_api_Write R I r1_4 a1.Writes) (f1_5 : Rd ty_api_Got R I r1_5 a1.R.Gots) (f1_6 : Rd (tySl ty_api_Pair) R I r1_6 a1.R.Scans) (f1_7 : Rd ty_api_Part R I r1_7 a1.Parts) (hst : St w0 w I [] R) {r : (Bool)} (hm : law13_same a0 a1 = some r) :
  Calls Try.prog 11 #[.agg #[.int .u8 a0.Kind, .int .u64 a0.ID.Session, .int .u64 a0.ID.Seq, .int .u64 a0.Epoch, .int .u64 a0.Index, .int .i64 a0.E, .int .u64 a0.Hold.ID.Session, .int .u64 a0.Hold.ID.Seq, .int .u64 a0.Hold.Epoch, r0_0, r0_1, r0_2, r0_3, r0_4, .int .i64 a0.R.E, .int .u64 a0.R.Epoch, .int .u64 a0.R.Index, r0_5, r0_6, .int .u64 a0.Shards, r0_7, .int .u64 a0.Rule.ID, .int .i64 a0.Rule.From, .int .i64 a0.Rule.To, .float .f64 a0.Rule.Lo, .float .f64 a0.Rule.Hi, .int .u64 a0.Rule.Authority, .int .i64 a0.Rule.Quota, .bool a0.On], .agg #[.int .u8 a1.Kind, .int .u64 a1.ID.Session, .int .u64 a1.ID.Seq, .int .u64 a1.Epoch, .int .u64 a1.Index, .int .i64 a1.E, .int .u64 a1.Hold.ID.Session, .int .u64 a1.Hold.ID.Seq, .int .u64 a1.Hold.Epoch, r1_0, r1_1, r1_2, r1_3, r1_4, .int .i64 a1.R.E, .int .u64 a1.R.Epoch, .int .u64 a1.R.Index, r1_5, r1_6, .int .u64 a1.Shards, r1_7, .int .u64 a1.Rule.ID, .int .i64 a1.Rule.From, .int .i64 a1.Rule.To, .float .f64 a1.Rule.Lo, .float .f64 a1.Rule.Hi, .int .u64 a1.Rule.Authority, .int .i64 a1.Rule.Quota, .bool a1.On]] w fun e w' => e = .returned (.bool r) ∧ St w0 w' I [] R := by
 unfold law13_same at hm
 refine calls_start (args := [.agg #[.int .u8 a0.Kind, .int .u64 a0.ID.Session, .int .u64 a0.ID.Seq, .int .u64 a0.Epoch, .int .u64 a0.Index, .int .i64 a0.E, .int .u64 a0.Hold.ID.Session, .int .u64 a0.Hold.ID.Seq, .int .u64 a0.Hold.Epoch, r0_0, r0_1, r0_2, r0_3, r0_4, .int .i64 a0.R.E, .int .u64 a0.R.Epoch, .int .u64 a0.R.Index, r0_5, r0_6, .int .u64 a0.Shards, r0_7, .int .u64 a0.Rule.ID, .int .i64 a0.Rule.From, .int .i64 a0.Rule.To, .float .f64 a0.Rule.Lo, .float .f64 a0.Rule.Hi, .int .u64 a0.Rule.Authority, .int .i64 a0.Rule.Quota, .bool a0.On], .agg #[.int .u8 a1.Kind, .int .u64 a1.ID.Session, .int .u64 a1.ID.Seq, .int .u64 a1.Epoch, .int .u64 a1.Index, .int .i64 a1.E, .int .u64 a1.Hold.ID.Session, .int .u64 a1.Hold.ID.Seq, .int .u64 a1.Hold.Epoch, r1_0, r1_1, r1_2, r1_3, r1_4, .int .i64 a1.R.E, .int .u64 a1.R.Epoch, .int .u64 a1.R.Index, r1_5, r1_6, .int .u64 a1.Shards, r1_7, .int .u64 a1.Rule.ID, .int .i64 a1.Rule.From, .int .i64 a1.Rule.To, .float .f64 a1.Rule.Lo, .float .f64 a1.Rule.Hi, .int .u64 a1.Rule.Authority, .int .i64 a1.Rule.Quota, .bool a1.On]]) Try.func11 rfl Try.ntmps11 (Nat.le_of_ble_eq_true rfl) ?_
 refine wp_seq (wp_region_lit ?_)
 obtain ⟨b374, w375, ew376, eb377, hst⟩ := hst.box [.int .u8 a0.Kind, .int .u64 a0.ID.Session, .int .u64 a0.ID.Seq, .int .u64 a0.Epoch, .int .u64 a0.Index, .int .i64 a0.E, .int .u64 a0.Hold.ID.Session, .int .u64 a0.Hold.ID.Seq, .int .u64 a0.Hold.Epoch, r0_0, r0_1, r0_2, r0_3, r0_4, .int .i64 a0.R.E, .int .u64 a0.R.Epoch, .int .u64 a0.R.Index, r0_5, r0_6, .int .u64 a0.Shards, r0_7, .int .u64 a0.Rule.ID, .int .i64 a0.Rule.From, .int .i64 a0.Rule.To, .float .f64 a0.Rule.Lo, .float .f64 a0.Rule.Hi, .int .u64 a0.Rule.Authority, .int .i64 a0.Rule.Quota, .bool a0.On] 45
 refine wl_run (v := .pointer (some ⟨b374, 0, none⟩)) (w' := w375) rfl rfl (x_al (by kernel_rfl) ew376 eb377) ?_
 obtain ⟨b379, w380, ew381, eb382, hst⟩ := hst.box [.int .u8 a1.Kind, .int .u64 a1.ID.Session, .int .u64 a1.ID.Seq, .int .u64 a1.Epoch, .int .u64 a1.Index, .int .i64 a1.E, .int .u64 a1.Hold.ID.Session, .int .u64 a1.Hold.ID.Seq, .int .u64 a1.Hold.Epoch, r1_0, r1_1, r1_2, r1_3, r1_4, .int .i64 a1.R.E, .int .u64 a1.R.Epoch, .int .u64 a1.R.Index, r1_5, r1_6, .int .u64 a1.Shards, r1_7, .int .u64 a1.Rule.ID, .int .i64 a1.Rule.From, .int .i64 a1.Rule.To, .float .f64 a1.Rule.Lo, .float .f64 a1.Rule.Hi, .int .u64 a1.Rule.Authority, .int .i64 a1.Rule.Quota, .bool a1.On] 45
 refine wl_run (v := .pointer (some ⟨b379, 0, none⟩)) (w' := w380) rfl rfl (x_al (by kernel_rfl) ew381 eb382) ?_
 refine wv (.bool false) rfl rfl rfl ?_
 refine wl_nil (then_n (wp_seq (wp_seq (wp_region_lit ?_))))
 refine wv (.pointer (some ⟨b374, 0, none⟩)) rfl rfl (x_field rfl Try.underlying45 rfl Try.sizeOf5 rfl) ?_
 refine wv (.int .u8 a0.Kind) rfl rfl (x_load rfl Try.isAgg5 (hst.bc1 rfl)) ?_
 refine wv (.pointer (some ⟨b379, 0, none⟩)) rfl rfl (x_field rfl Try.underlying45 rfl Try.sizeOf5 rfl) ?_
 refine wv (.int .u8 a1.Kind) rfl rfl (x_load rfl Try.isAgg5 (hst.bc0 rfl)) ?_
 refine wv (.bool (a0.Kind != a1.Kind)) rfl rfl rfl ?_
 refine wv (.bool (a0.Kind != a1.Kind)) rfl rfl rfl ?_
 refine bsplit (a0.Kind != a1.Kind) (fun hc384 => ?_) (fun hc384 => ?_)
 ·skip
  replace hm := bif_t hc384 hm
  refine wo hc384 rfl rfl rfl rfl rfl rfl ?_
  refine wo hc384 rfl rfl rfl rfl rfl rfl ?_
  refine wo hc384 rfl rfl rfl rfl rfl rfl ?_
  refine wo hc384 rfl rfl rfl rfl rfl rfl ?_
  refine wo hc384 rfl rfl rfl rfl rfl rfl ?_
  refine wv (.bool true) rfl rfl (x_pick_t hc384 rfl rfl) ?_
  refine wv (.bool true) rfl rfl rfl ?_
  refine wl_off ((wanted_eq rfl rfl rfl rfl).trans rfl) rfl ?_
  refine wl_off ((wanted_eq rfl rfl rfl rfl).trans rfl) rfl ?_
  refine wl_off ((wanted_eq rfl rfl rfl rfl).trans rfl) rfl ?_
  refine wl_off ((wanted_eq rfl rfl rfl rfl).trans rfl) rfl ?_
  refine wl_off ((wanted_eq rfl rfl rfl rfl).trans rfl) rfl ?_
  refine wv (.bool true) rfl rfl (x_pick_t rfl rfl rfl) ?_
  refine wv (.bool true) rfl rfl rfl ?_
  refine wl_off ((wanted_eq rfl rfl rfl rfl).trans rfl) rfl ?_
  refine wl_off ((wanted_eq rfl rfl rfl rfl).trans rfl) rfl ?_
  refine wl_off ((wanted_eq rfl rfl rfl rfl).trans rfl) rfl ?_
  refine wl_off ((wanted_eq rfl rfl rfl rfl).trans rfl) rfl ?_
  refine wl_off ((wanted_eq rfl rfl rfl rfl).trans rfl) rfl ?_
  refine wv (.bool true) rfl rfl (x_pick_t rfl rfl rfl) ?_
  refine wv (.bool true) rfl rfl rfl ?_
  refine wl_off ((wanted_eq rfl rfl rfl rfl).trans rfl) rfl ?_
  refine wl_off ((wanted_eq rfl rfl rfl rfl).trans rfl) rfl ?_
  refine wl_off ((wanted_eq rfl rfl rfl rfl).trans rfl) rfl ?_
  refine wl_off ((wanted_eq rfl rfl rfl rfl).trans rfl) rfl ?_
  refine wl_off ((wanted_eq rfl rfl rfl rfl).trans rfl) rfl ?_
  refine wv (.bool true) rfl rfl (x_pick_t rfl rfl rfl) ?_
  refine wv (.bool true) rfl rfl rfl ?_
  refine wl_off ((wanted_eq rfl rfl rfl rfl).trans rfl) rfl ?_
  refine wl_off ((wanted_eq rfl rfl rfl rfl).trans rfl) rfl ?_
  refine wl_off ((wanted_eq rfl rfl rfl rfl).trans rfl) rfl ?_
  refine wl_off ((wanted_eq rfl rfl rfl rfl).trans rfl) rfl ?_
  refine wl_off ((wanted_eq rfl rfl rfl rfl).trans rfl) rfl ?_
  refine wl_off ((wanted_eq rfl rfl rfl rfl).trans rfl) rfl ?_
  refine wv (.bool true) rfl rfl (x_pick_t rfl rfl rfl) ?_
  refine wv (.bool true) rfl rfl rfl ?_
  refine wl_off ((wanted_eq rfl rfl rfl rfl).trans rfl) rfl ?_
  refine wl_off ((wanted_eq rfl rfl rfl rfl).trans rfl) rfl ?_
  refine wl_off ((wanted_eq rfl rfl rfl rfl).trans rfl) rfl ?_
  refine wl_off ((wanted_eq rfl rfl rfl rfl).trans rfl) rfl ?_
  refine wl_off ((wanted_eq rfl rfl rfl rfl).trans rfl) rfl ?_
  refine wl_off ((wanted_eq rfl rfl rfl rfl).trans rfl) rfl ?_
  refine wv (.bool true) rfl rfl (x_pick_t rfl rfl rfl) ?_
  refine wv (.bool true) rfl rfl rfl ?_
  refine wl_off ((wanted_eq rfl rfl rfl rfl).trans rfl) rfl ?_
  refine wl_off ((wanted_eq rfl rfl rfl rfl).trans rfl) rfl ?_
  refine wl_off ((wanted_eq rfl rfl rfl rfl).trans rfl) rfl ?_
  refine wl_off ((wanted_eq rfl rfl rfl rfl).trans rfl) rfl ?_
  refine wl_off ((wanted_eq rfl rfl rfl rfl).trans rfl) rfl ?_
  refine wl_off ((wanted_eq rfl rfl rfl rfl).trans rfl) rfl ?_
  refine wv (.bool true) rfl rfl (x_pick_t rfl rfl rfl) ?_
  refine wv (.bool true) rfl rfl rfl ?_
  refine wl_off ((wanted_eq rfl rfl rfl rfl).trans rfl) rfl ?_
  refine wl_off ((wanted_eq rfl rfl rfl rfl).trans rfl) rfl ?_
  refine wl_off ((wanted_eq rfl rfl rfl rfl).trans rfl) rfl ?_
  refine wl_off ((wanted_eq rfl rfl rfl rfl).trans rfl) rfl ?_
  refine wl_off ((wanted_eq rfl rfl rfl rfl).trans rfl) rfl ?_
  refine wv (.bool true) rfl rfl (x_pick_t rfl rfl rfl) ?_
  refine wv (.bool true) rfl rfl rfl ?_
  refine wl_off ((wanted_eq rfl rfl rfl rfl).trans rfl) rfl ?_
  refine wl_off ((wanted_eq rfl rfl rfl rfl).trans rfl) rfl ?_
  refine wl_off ((wanted_eq rfl rfl rfl rfl).trans rfl) rfl ?_
  refine wl_off ((wanted_eq rfl rfl rfl rfl).trans rfl) rfl ?_
  refine wl_off ((wanted_eq rfl rfl rfl rfl).trans rfl) rfl ?_
  refine wl_off ((wanted_eq rfl rfl rfl rfl).trans rfl) rfl ?_
  refine wl_off ((wanted_eq rfl rfl rfl rfl).trans rfl) rfl ?_
  refine wv (.bool true) rfl rfl (x_pick_t rfl rfl rfl) ?_
  refine wv (.bool true) rfl rfl rfl ?_
  refine wl_off ((wanted_eq rfl rfl rfl rfl).trans rfl) rfl ?_
  refine wl_off ((wanted_eq rfl rfl rfl rfl).trans rfl) rfl ?_
  refine wl_off ((wanted_eq rfl rfl rfl rfl).trans rfl) rfl ?_
  refine wl_off ((wanted_eq rfl rfl rfl rfl).trans rfl) rfl ?_
  refine wl_off ((wanted_eq rfl rfl rfl rfl).trans rfl) rfl ?_
  refine wl_off ((wanted_eq rfl rfl rfl rfl).trans rfl) rfl ?_
  refine wv (.bool true) rfl rfl (x_pick_t rfl rfl rfl) ?_
  refine wv (.bool true) rfl rfl rfl ?_
  refine wl_off ((wanted_eq rfl rfl rfl rfl).trans rfl) rfl ?_
  refine wl_off ((wanted_eq rfl rfl rfl rfl).trans rfl) rfl ?_
  refine wl_off ((wanted_eq rfl rfl rfl rfl).trans rfl) rfl ?_
  refine wl_off ((wanted_eq rfl rfl rfl rfl).trans rfl) rfl ?_
  refine wl_off ((wanted_eq rfl rfl rfl rfl).trans rfl) rfl ?_
  refine wv (.bool true) rfl rfl (x_pick_t rfl rfl rfl) ?_
  refine wl_nil (then_n ?_)
  refine wp_ift rfl ?_
  refine wp_seq (wp_region_lit ?_)
  refine wv (.bool false) rfl rfl rfl ?_
  refine wl_nil (then_n (wp_ret (then_r ?_)))
  obtain rfl := some_inj hm
  refine post_ret (vs := [.bool false]) Try.results11 (rvs_cons (rv_tmp rfl) rvs_nil) ?_
  exact ⟨rfl, hst.keep0⟩
 ·skip
  replace hm := bif_f hc384 hm
  refine wv (.pointer (some ⟨b374, 1, none⟩)) ((wanted_eq rfl rfl rfl (congrArg Value.bool hc384)).trans rfl) rfl (x_field rfl Try.underlying45 rfl Try.sizeOf29 rfl) ?_
  refine wv (.agg #[.int .u64 a0.ID.Session, .int .u64 a0.ID.Seq]) ((wanted_eq rfl rfl rfl (congrArg Value.bool hc384)).trans rfl) rfl (x_loadN (cs := [.int .u64 a0.ID.Session, .int .u64 a0.ID.Seq]) rfl Try.isAgg29 Try.sizeOf29 (hst.bcs1 1 rfl)) ?_
  refine wv (.pointer (some ⟨b379, 1, none⟩)) ((wanted_eq rfl rfl rfl (congrArg Value.bool hc384)).trans rfl) rfl (x_field rfl Try.underlying45 rfl Try.sizeOf29 rfl) ?_
  refine wv (.agg #[.int .u64 a1.ID.Session, .int .u64 a1.ID.Seq]) ((wanted_eq rfl rfl rfl (congrArg Value.bool hc384)).trans rfl) rfl (x_loadN (cs := [.int .u64 a1.ID.Session, .int .u64 a1.ID.Seq]) rfl Try.isAgg29 Try.sizeOf29 (hst.bcs0 1 rfl)) ?_
  refine wv (.bool (!((a0.ID.Session == a1.ID.Session) && (a0.ID.Seq == a1.ID.Seq)))) ((wanted_eq rfl rfl rfl (congrArg Value.bool hc384)).trans rfl) rfl (x_aggne2 rfl rfl (by kernel_rfl) Try.underlying29 (by kernel_rfl) (by kernel_rfl) (by kernel_rfl) Try.underlying27 Try.underlying27 (fun _ _ _ => by kernel_rfl) (fun _ _ _ => by kernel_rfl)) ?_
  refine wv (.bool (!((a0.ID.Session == a1.ID.Session) && (a0.ID.Seq == a1.ID.Seq)))) rfl rfl (x_pick_f hc384 rfl rfl) ?_
  refine wv (.bool (!((a0.ID.Session == a1.ID.Session) && (a0.ID.Seq == a1.ID.Seq)))) rfl rfl rfl ?_
  refine bsplit (!((a0.ID.Session == a1.ID.Session) && (a0.ID.Seq == a1.ID.Seq))) (fun hc385 => ?_) (fun hc385 => ?_)
  ·skip
   replace hm := bif_t hc385 hm
   refine wo hc385 rfl rfl rfl rfl rfl rfl ?_
   refine wo hc385 rfl rfl rfl rfl rfl rfl ?_
   refine wo hc385 rfl rfl rfl rfl rfl rfl ?_
   refine wo hc385 rfl rfl rfl rfl rfl rfl ?_
   refine wo hc385 rfl rfl rfl rfl rfl rfl ?_
   refine wv (.bool true) rfl rfl (x_pick_t hc385 rfl rfl) ?_
   refine wv (.bool true) rfl rfl rfl ?_
   refine wl_off ((wanted_eq rfl rfl rfl rfl).trans rfl) rfl ?_
   refine wl_off ((wanted_eq rfl rfl rfl rfl).trans rfl) rfl ?_
   refine wl_off ((wanted_eq rfl rfl rfl rfl).trans rfl) rfl ?_
   refine wl_off ((wanted_eq rfl rfl rfl rfl).trans rfl) rfl ?_
   refine wl_off ((wanted_eq rfl rfl rfl rfl).trans rfl) rfl ?_
   refine wv (.bool true) rfl rfl (x_pick_t rfl rfl rfl) ?_
   refine wv (.bool true) rfl rfl rfl ?_
   refine wl_off ((wanted_eq rfl rfl rfl rfl).trans rfl) rfl ?_
   refine wl_off ((wanted_eq rfl rfl rfl rfl).trans rfl) rfl ?_
   refine wl_off ((wanted_eq rfl rfl rfl rfl).trans rfl) rfl ?_
   refine wl_off ((wanted_eq rfl rfl rfl rfl).trans rfl) rfl ?_
   refine wl_off ((wanted_eq rfl rfl rfl rfl).trans rfl) rfl ?_
   refine wv (.bool true) rfl rfl (x_pick_t rfl rfl rfl) ?_
   refine wv (.bool true) rfl rfl rfl ?_
   refine wl_off ((wanted_eq rfl rfl rfl rfl).trans rfl) rfl ?_
   refine wl_off ((wanted_eq rfl rfl rfl rfl).trans rfl) rfl ?_
   refine wl_off ((wanted_eq rfl rfl rfl rfl).trans rfl) rfl ?_
   refine wl_off ((wanted_eq rfl rfl rfl rfl).trans rfl) rfl ?_
   refine wl_off ((wanted_eq rfl rfl rfl rfl).trans rfl) rfl ?_
   refine wl_off ((wanted_eq rfl rfl rfl rfl).trans rfl) rfl ?_
   refine wv (.bool true) rfl rfl (x_pick_t rfl rfl rfl) ?_
   refine wv (.bool true) rfl rfl rfl ?_
   refine wl_off ((wanted_eq rfl rfl rfl rfl).trans rfl) rfl ?_
   refine wl_off ((wanted_eq rfl rfl rfl rfl).trans rfl) rfl ?_
   refine wl_off ((wanted_eq rfl rfl rfl rfl).trans rfl) rfl ?_
   refine wl_off ((wanted_eq rfl rfl rfl rfl).trans rfl) rfl ?_
   refine wl_off ((wanted_eq rfl rfl rfl rfl).trans rfl) rfl ?_
   refine wl_off ((wanted_eq rfl rfl rfl rfl).trans rfl) rfl ?_
   refine wv (.bool true) rfl rfl (x_pick_t rfl rfl rfl) ?_
   refine wv (.bool true) rfl rfl rfl ?_
   refine wl_off ((wanted_eq rfl rfl rfl rfl).trans rfl) rfl ?_
   refine wl_off ((wanted_eq rfl rfl rfl rfl).trans rfl) rfl ?_
   refine wl_off ((wanted_eq rfl rfl rfl rfl).trans rfl) rfl ?_
   refine wl_off ((wanted_eq rfl rfl rfl rfl).trans rfl) rfl ?_
   refine wl_off ((wanted_eq rfl rfl rfl rfl).trans rfl) rfl ?_
   refine wl_off ((wanted_eq rfl rfl rfl rfl).trans rfl) rfl ?_
   refine wv (.bool true) rfl rfl (x_pick_t rfl rfl rfl) ?_
   refine wv (.bool true) rfl rfl rfl ?_
   refine wl_off ((wanted_eq rfl rfl rfl rfl).trans rfl) rfl ?_
   refine wl_off ((wanted_eq rfl rfl rfl rfl).trans rfl) rfl ?_
   refine wl_off ((wanted_eq rfl rfl rfl rfl).trans rfl) rfl ?_
   refine wl_off ((wanted_eq rfl rfl rfl rfl).trans rfl) rfl ?_
   refine wl_off ((wanted_eq rfl rfl rfl rfl).trans rfl) rfl ?_
   refine wv (.bool true) rfl rfl (x_pick_t rfl rfl rfl) ?_
   refine wv (.bool true) rfl rfl rfl ?_
   refine wl_off ((wanted_eq rfl rfl rfl rfl).trans rfl) rfl ?_
   refine wl_off ((wanted_eq rfl rfl rfl rfl).trans rfl) rfl ?_
   refine wl_off ((wanted_eq rfl rfl rfl rfl).trans rfl) rfl ?_
   refine wl_off ((wanted_eq rfl rfl rfl rfl).trans rfl) rfl ?_
   refine wl_off ((wanted_eq rfl rfl rfl rfl).trans rfl) rfl ?_
   refine wl_off ((wanted_eq rfl rfl rfl rfl).trans rfl) rfl ?_
   refine wl_off ((wanted_eq rfl rfl rfl rfl).trans rfl) rfl ?_
   refine wv (.bool true) rfl rfl (x_pick_t rfl rfl rfl) ?_
   refine wv (.bool true) rfl rfl rfl ?_
   refine wl_off ((wanted_eq rfl rfl rfl rfl).trans rfl) rfl ?_
   refine wl_off ((wanted_eq rfl rfl rfl rfl).trans rfl) rfl ?_
   refine wl_off ((wanted_eq rfl rfl rfl rfl).trans rfl) rfl ?_
   refine wl_off ((wanted_eq rfl rfl rfl rfl).trans rfl) rfl ?_
   refine wl_off ((wanted_eq rfl rfl rfl rfl).trans rfl) rfl ?_
   refine wl_off ((wanted_eq rfl rfl rfl rfl).trans rfl) rfl ?_
   refine wv (.bool true) rfl rfl (x_pick_t rfl rfl rfl) ?_
   refine wv (.bool true) rfl rfl rfl ?_
   refine wl_off ((wanted_eq rfl rfl rfl rfl).trans rfl) rfl ?_
   refine wl_off ((wanted_eq rfl rfl rfl rfl).trans rfl) rfl ?_
   refine wl_off ((wanted_eq rfl rfl rfl rfl).trans rfl) rfl ?_
   refine wl_off ((wanted_eq rfl rfl rfl rfl).trans rfl) rfl ?_
   refine wl_off ((wanted_eq rfl rfl rfl rfl).trans rfl) rfl ?_
   refine wv (.bool true) rfl rfl (x_pick_t rfl rfl rfl) ?_
   refine wl_nil (then_n ?_)
   refine wp_ift rfl ?_
   refine wp_seq (wp_region_lit ?_)
   refine wv (.bool false) rfl rfl rfl ?_
   refine wl_nil (then_n (wp_ret (then_r ?_)))
   obtain rfl := some_inj hm
   refine post_ret (vs := [.bool false]) Try.results11 (rvs_cons (rv_tmp rfl) rvs_nil) ?_
   exact ⟨rfl, hst.keep0⟩
  ·skip
   replace hm := bif_f hc385 hm
   refine wv (.pointer (some ⟨b374, 3, none⟩)) ((wanted_eq rfl rfl rfl (congrArg Value.bool hc385)).trans rfl) rfl (x_field rfl Try.underlying45 rfl Try.sizeOf27 rfl) ?_
   refine wv (.int .u64 a0.Epoch) ((wanted_eq rfl rfl rfl (congrArg Value.bool hc385)).trans rfl) rfl (x_load rfl Try.isAgg27 (hst.bc1 rfl)) ?_
   refine wv (.pointer (some ⟨b379, 3, none⟩)) ((wanted_eq rfl rfl rfl (congrArg Value.bool hc385)).trans rfl) rfl (x_field rfl Try.underlying45 rfl Try.sizeOf27 rfl) ?_
   refine wv (.int .u64 a1.Epoch) ((wanted_eq rfl rfl rfl (congrArg Value.bool hc385)).trans rfl) rfl (x_load rfl Try.isAgg27 (hst.bc0 rfl)) ?_
   refine wv (.bool (a0.Epoch != a1.Epoch)) ((wanted_eq rfl rfl rfl (congrArg Value.bool hc385)).trans rfl) rfl rfl ?_
   refine wv (.bool (a0.Epoch != a1.Epoch)) rfl rfl (x_pick_f hc385 rfl rfl) ?_
   refine wv (.bool (a0.Epoch != a1.Epoch)) rfl rfl rfl ?_
   refine bsplit (a0.Epoch != a1.Epoch) (fun hc386 => ?_) (fun hc386 => ?_)
   ·skip
    replace hm := bif_t hc386 hm
    refine wo hc386 rfl rfl rfl rfl rfl rfl ?_
    refine wo hc386 rfl rfl rfl rfl rfl rfl ?_
    refine wo hc386 rfl rfl rfl rfl rfl rfl ?_
    refine wo hc386 rfl rfl rfl rfl rfl rfl ?_
    refine wo hc386 rfl rfl rfl rfl rfl rfl ?_
    refine wv (.bool true) rfl rfl (x_pick_t hc386 rfl rfl) ?_
    refine wv (.bool true) rfl rfl rfl ?_
    refine wl_off ((wanted_eq rfl rfl rfl rfl).trans rfl) rfl ?_
    refine wl_off ((wanted_eq rfl rfl rfl rfl).trans rfl) rfl ?_
    refine wl_off ((wanted_eq rfl rfl rfl rfl).trans rfl) rfl ?_
    refine wl_off ((wanted_eq rfl rfl rfl rfl).trans rfl) rfl ?_
    refine wl_off ((wanted_eq rfl rfl rfl rfl).trans rfl) rfl ?_
    refine wv (.bool true) rfl rfl (x_pick_t rfl rfl rfl) ?_
    refine wv (.bool true) rfl rfl rfl ?_
    refine wl_off ((wanted_eq rfl rfl rfl rfl).trans rfl) rfl ?_
    refine wl_off ((wanted_eq rfl rfl rfl rfl).trans rfl) rfl ?_
    refine wl_off ((wanted_eq rfl rfl rfl rfl).trans rfl) rfl ?_
    refine wl_off ((wanted_eq rfl rfl rfl rfl).trans rfl) rfl ?_
    refine wl_off ((wanted_eq rfl rfl rfl rfl).trans rfl) rfl ?_
    refine wl_off ((wanted_eq rfl rfl rfl rfl).trans rfl) rfl ?_
    refine wv (.bool true) rfl rfl (x_pick_t rfl rfl rfl) ?_
    refine wv (.bool true) rfl rfl rfl ?_
    refine wl_off ((wanted_eq rfl rfl rfl rfl).trans rfl) rfl ?_
    refine wl_off ((wanted_eq rfl rfl rfl rfl).trans rfl) rfl ?_
    refine wl_off ((wanted_eq rfl rfl rfl rfl).trans rfl) rfl ?_
    refine wl_off ((wanted_eq rfl rfl rfl rfl).trans rfl) rfl ?_
    refine wl_off ((wanted_eq rfl rfl rfl rfl).trans rfl) rfl ?_
    refine wl_off ((wanted_eq rfl rfl rfl rfl).trans rfl) rfl ?_
    refine wv (.bool true) rfl rfl (x_pick_t rfl rfl rfl) ?_
    refine wv (.bool true) rfl rfl rfl ?_
    refine wl_off ((wanted_eq rfl rfl rfl rfl).trans rfl) rfl ?_
    refine wl_off ((wanted_eq rfl rfl rfl rfl).trans rfl) rfl ?_
    refine wl_off ((wanted_eq rfl rfl rfl rfl).trans rfl) rfl ?_
    refine wl_off ((wanted_eq rfl rfl rfl rfl).trans rfl) rfl ?_
    refine wl_off ((wanted_eq rfl rfl rfl rfl).trans rfl) rfl ?_
    refine wl_off ((wanted_eq rfl rfl rfl rfl).trans rfl) rfl ?_
    refine wv (.bool true) rfl rfl (x_pick_t rfl rfl rfl) ?_
    refine wv (.bool true) rfl rfl rfl ?_
    refine wl_off ((wanted_eq rfl rfl rfl rfl).trans rfl) rfl ?_
    refine wl_off ((wanted_eq rfl rfl rfl rfl).trans rfl) rfl ?_
    refine wl_off ((wanted_eq rfl rfl rfl rfl).trans rfl) rfl ?_
    refine wl_off ((wanted_eq rfl rfl rfl rfl).trans rfl) rfl ?_
    refine wl_off ((wanted_eq rfl rfl rfl rfl).trans rfl) rfl ?_
    refine wv (.bool true) rfl rfl (x_pick_t rfl rfl rfl) ?_
    refine wv (.bool true) rfl rfl rfl ?_
    refine wl_off ((wanted_eq rfl rfl rfl rfl).trans rfl) rfl ?_
    refine wl_off ((wanted_eq rfl rfl rfl rfl).trans rfl) rfl ?_
    refine wl_off ((wanted_eq rfl rfl rfl rfl).trans rfl) rfl ?_
    refine wl_off ((wanted_eq rfl rfl rfl rfl).trans rfl) rfl ?_
    refine wl_off ((wanted_eq rfl rfl rfl rfl).trans rfl) rfl ?_
    refine wl_off ((wanted_eq rfl rfl rfl rfl).trans rfl) rfl ?_
    refine wl_off ((wanted_eq rfl rfl rfl rfl).trans rfl) rfl ?_
    refine wv (.bool true) rfl rfl (x_pick_t rfl rfl rfl) ?_
    refine wv (.bool true) rfl rfl rfl ?_
    refine wl_off ((wanted_eq rfl rfl rfl rfl).trans rfl) rfl ?_
    refine wl_off ((wanted_eq rfl rfl rfl rfl).trans rfl) rfl ?_
    refine wl_off ((wanted_eq rfl rfl rfl rfl).trans rfl) rfl ?_
    refine wl_off ((wanted_eq rfl rfl rfl rfl).trans rfl) rfl ?_
    refine wl_off ((wanted_eq rfl rfl rfl rfl).trans rfl) rfl ?_
    refine wl_off ((wanted_eq rfl rfl rfl rfl).trans rfl) rfl ?_
    refine wv (.bool true) rfl rfl (x_pick_t rfl rfl rfl) ?_
    refine wv (.bool true) rfl rfl rfl ?_
    refine wl_off ((wanted_eq rfl rfl rfl rfl).trans rfl) rfl ?_
    refine wl_off ((wanted_eq rfl rfl rfl rfl).trans rfl) rfl ?_
    refine wl_off ((wanted_eq rfl rfl rfl rfl).trans rfl) rfl ?_
    refine wl_off ((wanted_eq rfl rfl rfl rfl).trans rfl) rfl ?_
    refine wl_off ((wanted_eq rfl rfl rfl rfl).trans rfl) rfl ?_
    refine wv (.bool true) rfl rfl (x_pick_t rfl rfl rfl) ?_
    refine wl_nil (then_n ?_)
    refine wp_ift rfl ?_
    refine wp_seq (wp_region_lit ?_)
    refine wv (.bool false) rfl rfl rfl ?_
    refine wl_nil (then_n (wp_ret (then_r ?_)))
    obtain rfl := some_inj hm
    refine post_ret (vs := [.bool false]) Try.results11 (rvs_cons (rv_tmp rfl) rvs_nil) ?_
    exact ⟨rfl, hst.keep0⟩
   ·skip
    replace hm := bif_f hc386 hm
    refine wv (.pointer (some ⟨b374, 4, none⟩)) ((wanted_eq rfl rfl rfl (congrArg Value.bool hc386)).trans rfl) rfl (x_field rfl Try.underlying45 rfl Try.sizeOf27 rfl) ?_
    refine wv (.int .u64 a0.Index) ((wanted_eq rfl rfl rfl (congrArg Value.bool hc386)).trans rfl) rfl (x_load rfl Try.isAgg27 (hst.bc1 rfl)) ?_
    refine wv (.pointer (some ⟨b379, 4, none⟩)) ((wanted_eq rfl rfl rfl (congrArg Value.bool hc386)).trans rfl) rfl (x_field rfl Try.underlying45 rfl Try.sizeOf27 rfl) ?_
    refine wv (.int .u64 a1.Index) ((wanted_eq rfl rfl rfl (congrArg Value.bool hc386)).trans rfl) rfl (x_load rfl Try.isAgg27 (hst.bc0 rfl)) ?_
    refine wv (.bool (a0.Index != a1.Index)) ((wanted_eq rfl rfl rfl (congrArg Value.bool hc386)).trans rfl) rfl rfl ?_
    refine wv (.bool (a0.Index != a1.Index)) rfl rfl (x_pick_f hc386 rfl rfl) ?_
    refine wv (.bool (a0.Index != a1.Index)) rfl rfl rfl ?_
    refine bsplit (a0.Index != a1.Index) (fun hc387 => ?_) (fun hc387 => ?_)
    ·skip
     replace hm := bif_t hc387 hm
     refine wo hc387 rfl rfl rfl rfl rfl rfl ?_
     refine wo hc387 rfl rfl rfl rfl rfl rfl ?_
     refine wo hc387 rfl rfl rfl rfl rfl rfl ?_
     refine wo hc387 rfl rfl rfl rfl rfl rfl ?_
     refine wo hc387 rfl rfl rfl rfl rfl rfl ?_
     refine wv (.bool true) rfl rfl (x_pick_t hc387 rfl rfl) ?_
     refine wv (.bool true) rfl rfl rfl ?_
     refine wl_off ((wanted_eq rfl rfl rfl rfl).trans rfl) rfl ?_
     refine wl_off ((wanted_eq rfl rfl rfl rfl).trans rfl) rfl ?_
     refine wl_off ((wanted_eq rfl rfl rfl rfl).trans rfl) rfl ?_
     refine wl_off ((wanted_eq rfl rfl rfl rfl).trans rfl) rfl ?_
     refine wl_off ((wanted_eq rfl rfl rfl rfl).trans rfl) rfl ?_
     refine wl_off ((wanted_eq rfl rfl rfl rfl).trans rfl) rfl ?_
     refine wv (.bool true) rfl rfl (x_pick_t rfl rfl rfl) ?_
     refine wv (.bool true) rfl rfl rfl ?_
     refine wl_off ((wanted_eq rfl rfl rfl rfl).trans rfl) rfl ?_
     refine wl_off ((wanted_eq rfl rfl rfl rfl).trans rfl) rfl ?_
     refine wl_off ((wanted_eq rfl rfl rfl rfl).trans rfl) rfl ?_
     refine wl_off ((wanted_eq rfl rfl rfl rfl).trans rfl) rfl ?_
     refine wl_off ((wanted_eq rfl rfl rfl rfl).trans rfl) rfl ?_
     refine wl_off ((wanted_eq rfl rfl rfl rfl).trans rfl) rfl ?_
     refine wv (.bool true) rfl rfl (x_pick_t rfl rfl rfl) ?_
     refine wv (.bool true) rfl rfl rfl ?_
     refine wl_off ((wanted_eq rfl rfl rfl rfl).trans rfl) rfl ?_
     refine wl_off ((wanted_eq rfl rfl rfl rfl).trans rfl) rfl ?_
     refine wl_off ((wanted_eq rfl rfl rfl rfl).trans rfl) rfl ?_
     refine wl_off ((wanted_eq rfl rfl rfl rfl).trans rfl) rfl ?_
     refine wl_off ((wanted_eq rfl rfl rfl rfl).trans rfl) rfl ?_
     refine wl_off ((wanted_eq rfl rfl rfl rfl).trans rfl) rfl ?_
     refine wv (.bool true) rfl rfl (x_pick_t rfl rfl rfl) ?_
     refine wv (.bool true) rfl rfl rfl ?_
     refine wl_off ((wanted_eq rfl rfl rfl rfl).trans rfl) rfl ?_
     refine wl_off ((wanted_eq rfl rfl rfl rfl).trans rfl) rfl ?_
     refine wl_off ((wanted_eq rfl rfl rfl rfl).trans rfl) rfl ?_
     refine wl_off ((wanted_eq rfl rfl rfl rfl).trans rfl) rfl ?_
     refine wl_off ((wanted_eq rfl rfl rfl rfl).trans rfl) rfl ?_
     refine wv (.bool true) rfl rfl (x_pick_t rfl rfl rfl) ?_
     refine wv (.bool true) rfl rfl rfl ?_
     refine wl_off ((wanted_eq rfl rfl rfl rfl).trans rfl) rfl ?_
     refine wl_off ((wanted_eq rfl rfl rfl rfl).trans rfl) rfl ?_
     refine wl_off ((wanted_eq rfl rfl rfl rfl).trans rfl) rfl ?_
     refine wl_off ((wanted_eq rfl rfl rfl rfl).trans rfl) rfl ?_
     refine wl_off ((wanted_eq rfl rfl rfl rfl).trans rfl) rfl ?_
     refine wl_off ((wanted_eq rfl rfl rfl rfl).trans rfl) rfl ?_
     refine wl_off ((wanted_eq rfl rfl rfl rfl).trans rfl) rfl ?_
     refine wv (.bool true) rfl rfl (x_pick_t rfl rfl rfl) ?_
     refine wv (.bool true) rfl rfl rfl ?_
     refine wl_off ((wanted_eq rfl rfl rfl rfl).trans rfl) rfl ?_
     refine wl_off ((wanted_eq rfl rfl rfl rfl).trans rfl) rfl ?_
     refine wl_off ((wanted_eq rfl rfl rfl rfl).trans rfl) rfl ?_
     refine wl_off ((wanted_eq rfl rfl rfl rfl).trans rfl) rfl ?_
     refine wl_off ((wanted_eq rfl rfl rfl rfl).trans rfl) rfl ?_
     refine wl_off ((wanted_eq rfl rfl rfl rfl).trans rfl) rfl ?_
     refine wv (.bool true) rfl rfl (x_pick_t rfl rfl rfl) ?_
     refine wv (.bool true) rfl rfl rfl ?_
     refine wl_off ((wanted_eq rfl rfl rfl rfl).trans rfl) rfl ?_
     refine wl_off ((wanted_eq rfl rfl rfl rfl).trans rfl) rfl ?_
     refine wl_off ((wanted_eq rfl rfl rfl rfl).trans rfl) rfl ?_
     refine wl_off ((wanted_eq rfl rfl rfl rfl).trans rfl) rfl ?_
     refine wl_off ((wanted_eq rfl rfl rfl rfl).trans rfl) rfl ?_
     refine wv (.bool true) rfl rfl (x_pick_t rfl rfl rfl) ?_
     refine wl_nil (then_n ?_)
     refine wp_ift rfl ?_
     refine wp_seq (wp_region_lit ?_)
     refine wv (.bool false) rfl rfl rfl ?_
     refine wl_nil (then_n (wp_ret (then_r ?_)))
     obtain rfl := some_inj hm
     refine post_ret (vs := [.bool false]) Try.results11 (rvs_cons (rv_tmp rfl) rvs_nil) ?_
     exact ⟨rfl, hst.keep0⟩
    ·skip
     replace hm := bif_f hc387 hm
     refine wv (.pointer (some ⟨b374, 5, none⟩)) ((wanted_eq rfl rfl rfl (congrArg Value.bool hc387)).trans rfl) rfl (x_field rfl Try.underlying45 rfl Try.sizeOf30 rfl) ?_
     refine wv (.int .i64 a0.E) ((wanted_eq rfl rfl rfl (congrArg Value.bool hc387)).trans rfl) rfl (x_load rfl Try.isAgg30 (hst.bc1 rfl)) ?_
     refine wv (.pointer (some ⟨b379, 5, none⟩)) ((wanted_eq rfl rfl rfl (congrArg Value.bool hc387)).trans rfl) rfl (x_field rfl Try.underlying45 rfl Try.sizeOf30 rfl) ?_
     refine wv (.int .i64 a1.E) ((wanted_eq rfl rfl rfl (congrArg Value.bool hc387)).trans rfl) rfl (x_load rfl Try.isAgg30 (hst.bc0 rfl)) ?_
     refine wv (.bool (a0.E != a1.E)) ((wanted_eq rfl rfl rfl (congrArg Value.bool hc387)).trans rfl) rfl rfl ?_
     refine wv (.bool (a0.E != a1.E)) rfl rfl (x_pick_f hc387 rfl rfl) ?_
     refine wv (.bool (a0.E != a1.E)) rfl rfl rfl ?_
     refine bsplit (a0.E != a1.E) (fun hc388 => ?_) (fun hc388 => ?_)
     ·skip
      replace hm := bif_t hc388 hm
      refine wo hc388 rfl rfl rfl rfl rfl rfl ?_
      refine wo hc388 rfl rfl rfl rfl rfl rfl ?_
      refine wo hc388 rfl rfl rfl rfl rfl rfl ?_
      refine wo hc388 rfl rfl rfl rfl rfl rfl ?_
      refine wo hc388 rfl rfl rfl rfl rfl rfl ?_
      refine wo hc388 rfl rfl rfl rfl rfl rfl ?_
      refine wv (.bool true) rfl rfl (x_pick_t hc388 rfl rfl) ?_
      refine wv (.bool true) rfl rfl rfl ?_
      refine wl_off ((wanted_eq rfl rfl rfl rfl).trans rfl) rfl ?_
      refine wl_off ((wanted_eq rfl rfl rfl rfl).trans rfl) rfl ?_
      refine wl_off ((wanted_eq rfl rfl rfl rfl).trans rfl) rfl ?_
      refine wl_off ((wanted_eq rfl rfl rfl rfl).trans rfl) rfl ?_
      refine wl_off ((wanted_eq rfl rfl rfl rfl).trans rfl) rfl ?_
      refine wl_off ((wanted_eq rfl rfl rfl rfl).trans rfl) rfl ?_
      refine wv (.bool true) rfl rfl (x_pick_t rfl rfl rfl) ?_
      refine wv (.bool true) rfl rfl rfl ?_
      refine wl_off ((wanted_eq rfl rfl rfl rfl).trans rfl) rfl ?_
      refine wl_off ((wanted_eq rfl rfl rfl rfl).trans rfl) rfl ?_
      refine wl_off ((wanted_eq rfl rfl rfl rfl).trans rfl) rfl ?_
      refine wl_off ((wanted_eq rfl rfl rfl rfl).trans rfl) rfl ?_
      refine wl_off ((wanted_eq rfl rfl rfl rfl).trans rfl) rfl ?_
      refine wl_off ((wanted_eq rfl rfl rfl rfl).trans rfl) rfl ?_
      refine wv (.bool true) rfl rfl (x_pick_t rfl rfl rfl) ?_
      refine wv (.bool true) rfl rfl rfl ?_
      refine wl_off ((wanted_eq rfl rfl rfl rfl).trans rfl) rfl ?_
      refine wl_off ((wanted_eq rfl rfl rfl rfl).trans rfl) rfl ?_
      refine wl_off ((wanted_eq rfl rfl rfl rfl).trans rfl) rfl ?_
      refine wl_off ((wanted_eq rfl rfl rfl rfl).trans rfl) rfl ?_
      refine wl_off ((wanted_eq rfl rfl rfl rfl).trans rfl) rfl ?_
      refine wv (.bool true) rfl rfl (x_pick_t rfl rfl rfl) ?_
      refine wv (.bool true) rfl rfl rfl ?_
      refine wl_off ((wanted_eq rfl rfl rfl rfl).trans rfl) rfl ?_
      refine wl_off ((wanted_eq rfl rfl rfl rfl).trans rfl) rfl ?_
      refine wl_off ((wanted_eq rfl rfl rfl rfl).trans rfl) rfl ?_
      refine wl_off ((wanted_eq rfl rfl rfl rfl).trans rfl) rfl ?_
      refine wl_off ((wanted_eq rfl rfl rfl rfl).trans rfl) rfl ?_
      refine wl_off ((wanted_eq rfl rfl rfl rfl).trans rfl) rfl ?_
      refine wl_off ((wanted_eq rfl rfl rfl rfl).trans rfl) rfl ?_
      refine wv (.bool true) rfl rfl (x_pick_t rfl rfl rfl) ?_
      refine wv (.bool true) rfl rfl rfl ?_
      refine wl_off ((wanted_eq rfl rfl rfl rfl).trans rfl) rfl ?_
      refine wl_off ((wanted_eq rfl rfl rfl rfl).trans rfl) rfl ?_
      refine wl_off ((wanted_eq rfl rfl rfl rfl).trans rfl) rfl ?_
      refine wl_off ((wanted_eq rfl rfl rfl rfl).trans rfl) rfl ?_
      refine wl_off ((wanted_eq rfl rfl rfl rfl).trans rfl) rfl ?_
      refine wl_off ((wanted_eq rfl rfl rfl rfl).trans rfl) rfl ?_
      refine wv (.bool true) rfl rfl (x_pick_t rfl rfl rfl) ?_
      refine wv (.bool true) rfl rfl rfl ?_
      refine wl_off ((wanted_eq rfl rfl rfl rfl).trans rfl) rfl ?_
      refine wl_off ((wanted_eq rfl rfl rfl rfl).trans rfl) rfl ?_
      refine wl_off ((wanted_eq rfl rfl rfl rfl).trans rfl) rfl ?_
      refine wl_off ((wanted_eq rfl rfl rfl rfl).trans rfl) rfl ?_
      refine wl_off ((wanted_eq rfl rfl rfl rfl).trans rfl) rfl ?_
      refine wv (.bool true) rfl rfl (x_pick_t rfl rfl rfl) ?_
      refine wl_nil (then_n ?_)
      refine wp_ift rfl ?_
      refine wp_seq (wp_region_lit ?_)
      refine wv (.bool false) rfl rfl rfl ?_
      refine wl_nil (then_n (wp_ret (then_r ?_)))
      obtain rfl := some_inj hm
      refine post_ret (vs := [.bool false]) Try.results11 (rvs_cons (rv_tmp rfl) rvs_nil) ?_
      exact ⟨rfl, hst.keep0⟩
     ·skip
      replace hm := bif_f hc388 hm
      refine wv (.pointer (some ⟨b374, 6, none⟩)) ((wanted_eq rfl rfl rfl (congrArg Value.bool hc388)).trans rfl) rfl (x_field rfl Try.underlying45 rfl Try.sizeOf34 rfl) ?_
      refine wv (.agg #[.int .u64 a0.Hold.ID.Session, .int .u64 a0.Hold.ID.Seq, .int .u64 a0.Hold.Epoch, r0_0, r0_1, r0_2, r0_3]) ((wanted_eq rfl rfl rfl (congrArg Value.bool hc388)).trans rfl) rfl (x_loadN (cs := [.int .u64 a0.Hold.ID.Session, .int .u64 a0.Hold.ID.Seq, .int .u64 a0.Hold.Epoch, r0_0, r0_1, r0_2, r0_3]) rfl Try.isAgg34 Try.sizeOf34 (hst.bcs1 6 rfl)) ?_
      refine wv (.pointer (some ⟨b379, 6, none⟩)) ((wanted_eq rfl rfl rfl (congrArg Value.bool hc388)).trans rfl) rfl (x_field rfl Try.underlying45 rfl Try.sizeOf34 rfl) ?_
      refine wv (.agg #[.int .u64 a1.Hold.ID.Session, .int .u64 a1.Hold.ID.Seq, .int .u64 a1.Hold.Epoch, r1_0, r1_1, r1_2, r1_3]) ((wanted_eq rfl rfl rfl (congrArg Value.bool hc388)).trans rfl) rfl (x_loadN (cs := [.int .u64 a1.Hold.ID.Session, .int .u64 a1.Hold.ID.Seq, .int .u64 a1.Hold.Epoch, r1_0, r1_1, r1_2, r1_3]) rfl Try.isAgg34 Try.sizeOf34 (hst.bcs0 6 rfl)) ?_
      obtain ⟨t389, ht390, hm⟩ := bind_some hm
      refine wl_call ((wanted_eq rfl rfl rfl (congrArg Value.bool hc388)).trans rfl) rfl (x_call Try.call33 rfl (vs := [.agg #[.int .u64 a0.Hold.ID.Session, .int .u64 a0.Hold.ID.Seq, .int .u64 a0.Hold.Epoch, r0_0, r0_1, r0_2, r0_3], .agg #[.int .u64 a1.Hold.ID.Session, .int .u64 a1.Hold.ID.Seq, .int .u64 a1.Hold.Epoch, r1_0, r1_1, r1_2, r1_3]]) rfl) ?_
      refine (ref11_SameHold_ref (f0_0.mono (rd_weak _)) (f0_1.mono (rd_weak _)) (f0_2.mono (rd_weak _)) (f0_3.mono (rd_weak _)) (f1_0.mono (rd_weak _)) (f1_1.mono (rd_weak _)) (f1_2.mono (rd_weak _)) (f1_3.mono (rd_weak _)) hst.to0 ht390).mono ?_
      rintro _ w391 ⟨rfl, hst⟩
      refine ⟨_, rfl, ?_⟩
      replace hst := hst.of0
      refine wv (.bool (!t389)) ((wanted_eq rfl rfl rfl (congrArg Value.bool hc388)).trans rfl) rfl rfl ?_
      refine wv (.bool (!t389)) rfl rfl (x_pick_f hc388 rfl rfl) ?_
      refine wv (.bool (!t389)) rfl rfl rfl ?_
      refine bsplit (!t389) (fun hc394 => ?_) (fun hc394 => ?_)
      ·skip
       replace hm := bif_t hc394 hm
       refine wo hc394 rfl rfl rfl rfl rfl rfl ?_
       refine wo hc394 rfl rfl rfl rfl rfl rfl ?_
       refine wo hc394 rfl rfl rfl rfl rfl rfl ?_
       refine wo hc394 rfl rfl rfl rfl rfl rfl ?_
       refine wo hc394 rfl rfl rfl rfl rfl rfl ?_
       refine wo hc394 rfl rfl rfl rfl rfl rfl ?_
       refine wv (.bool true) rfl rfl (x_pick_t hc394 rfl rfl) ?_
       refine wv (.bool true) rfl rfl rfl ?_
       refine wl_off ((wanted_eq rfl rfl rfl rfl).trans rfl) rfl ?_
       refine wl_off ((wanted_eq rfl rfl rfl rfl).trans rfl) rfl ?_
       refine wl_off ((wanted_eq rfl rfl rfl rfl).trans rfl) rfl ?_
       refine wl_off ((wanted_eq rfl rfl rfl rfl).trans rfl) rfl ?_
       refine wl_off ((wanted_eq rfl rfl rfl rfl).trans rfl) rfl ?_
       refine wl_off ((wanted_eq rfl rfl rfl rfl).trans rfl) rfl ?_
       refine wv (.bool true) rfl rfl (x_pick_t rfl rfl rfl) ?_
       refine wv (.bool true) rfl rfl rfl ?_
       refine wl_off ((wanted_eq rfl rfl rfl rfl).trans rfl) rfl ?_
       refine wl_off ((wanted_eq rfl rfl rfl rfl).trans rfl) rfl ?_
       refine wl_off ((wanted_eq rfl rfl rfl rfl).trans rfl) rfl ?_
       refine wl_off ((wanted_eq rfl rfl rfl rfl).trans rfl) rfl ?_
       refine wl_off ((wanted_eq rfl rfl rfl rfl).trans rfl) rfl ?_
       refine wv (.bool true) rfl rfl (x_pick_t rfl rfl rfl) ?_
       refine wv (.bool true) rfl rfl rfl ?_
       refine wl_off ((wanted_eq rfl rfl rfl rfl).trans rfl) rfl ?_
       refine wl_off ((wanted_eq rfl rfl rfl rfl).trans rfl) rfl ?_
       refine wl_off ((wanted_eq rfl rfl rfl rfl).trans rfl) rfl ?_
       refine wl_off ((wanted_eq rfl rfl rfl rfl).trans rfl) rfl ?_
       refine wl_off ((wanted_eq rfl rfl rfl rfl).trans rfl) rfl ?_
       refine wl_off ((wanted_eq rfl rfl rfl rfl).trans rfl) rfl ?_
       refine wl_off ((wanted_eq rfl rfl rfl rfl).trans rfl) rfl ?_
       refine wv (.bool true) rfl rfl (x_pick_t rfl rfl rfl) ?_
       refine wv (.bool true) rfl rfl rfl ?_
       refine wl_off ((wanted_eq rfl rfl rfl rfl).trans rfl) rfl ?_
       refine wl_off ((wanted_eq rfl rfl rfl rfl).trans rfl) rfl ?_
       refine wl_off ((wanted_eq rfl rfl rfl rfl).trans rfl) rfl ?_
       refine wl_off ((wanted_eq rfl rfl rfl rfl).trans rfl) rfl ?_
       refine wl_off ((wanted_eq rfl rfl rfl rfl).trans rfl) rfl ?_
       refine wl_off ((wanted_eq rfl rfl rfl rfl).trans rfl) rfl ?_
       refine wv (.bool true) rfl rfl (x_pick_t rfl rfl rfl) ?_
       refine wv (.bool true) rfl rfl rfl ?_
       refine wl_off ((wanted_eq rfl rfl rfl rfl).trans rfl) rfl ?_
       refine wl_off ((wanted_eq rfl rfl rfl rfl).trans rfl) rfl ?_
       refine wl_off ((wanted_eq rfl rfl rfl rfl).trans rfl) rfl ?_
       refine wl_off ((wanted_eq rfl rfl rfl rfl).trans rfl) rfl ?_
       refine wl_off ((wanted_eq rfl rfl rfl rfl).trans rfl) rfl ?_
       refine wv (.bool true) rfl rfl (x_pick_t rfl rfl rfl) ?_
       refine wl_nil (then_n ?_)
       refine wp_ift rfl ?_
       refine wp_seq (wp_region_lit ?_)
       refine wv (.bool false) rfl rfl rfl ?_
       refine wl_nil (then_n (wp_ret (then_r ?_)))
       obtain rfl := some_inj hm
       refine post_ret (vs := [.bool false]) Try.results11 (rvs_cons (rv_tmp rfl) rvs_nil) ?_
       exact ⟨rfl, hst.keep0⟩
      ·skip
       replace hm := bif_f hc394 hm
       refine wv (.pointer (some ⟨b374, 13, none⟩)) ((wanted_eq rfl rfl rfl (congrArg Value.bool hc394)).trans rfl) rfl (x_field rfl Try.underlying45 rfl Try.sizeOf35 rfl) ?_
       refine wv (r0_4) ((wanted_eq rfl rfl rfl (congrArg Value.bool hc394)).trans rfl) rfl (x_load rfl Try.isAgg35 (hst.bc1 rfl)) ?_
       refine wv (.pointer (some ⟨b379, 13, none⟩)) ((wanted_eq rfl rfl rfl (congrArg Value.bool hc394)).trans rfl) rfl (x_field rfl Try.underlying45 rfl Try.sizeOf35 rfl) ?_
       refine wv (r1_4) ((wanted_eq rfl rfl rfl (congrArg Value.bool hc394)).trans rfl) rfl (x_load rfl Try.isAgg35 (hst.bc0 rfl)) ?_
       obtain ⟨t395, ht396, hm⟩ := bind_some hm
       refine wl_call ((wanted_eq rfl rfl rfl (congrArg Value.bool hc394)).trans rfl) rfl (x_call Try.call34 rfl (vs := [r0_4, r1_4]) rfl) ?_
       refine (ref13_SameWrites_ref (f0_4.mono (rd_weak _)) (f1_4.mono (rd_weak _)) hst.to0 ht396).mono ?_
       rintro _ w397 ⟨rfl, hst⟩
       refine ⟨_, rfl, ?_⟩
       replace hst := hst.of0
       refine wv (.bool (!t395)) ((wanted_eq rfl rfl rfl (congrArg Value.bool hc394)).trans rfl) rfl rfl ?_
       refine wv (.bool (!t395)) rfl rfl (x_pick_f hc394 rfl rfl) ?_
       refine wv (.bool (!t395)) rfl rfl rfl ?_
       refine bsplit (!t395) (fun hc400 => ?_) (fun hc400 => ?_)
       ·skip
        replace hm := bif_t hc400 hm
        refine wo hc400 rfl rfl rfl rfl rfl rfl ?_
        refine wo hc400 rfl rfl rfl rfl rfl rfl ?_
        refine wo hc400 rfl rfl rfl rfl rfl rfl ?_
        refine wo hc400 rfl rfl rfl rfl rfl rfl ?_
        refine wo hc400 rfl rfl rfl rfl rfl rfl ?_
        refine wo hc400 rfl rfl rfl rfl rfl rfl ?_
        refine wv (.bool true) rfl rfl (x_pick_t hc400 rfl rfl) ?_
        refine wv (.bool true) rfl rfl rfl ?_
        refine wl_off ((wanted_eq rfl rfl rfl rfl).trans rfl) rfl ?_
        refine wl_off ((wanted_eq rfl rfl rfl rfl).trans rfl) rfl ?_
        refine wl_off ((wanted_eq rfl rfl rfl rfl).trans rfl) rfl ?_
        refine wl_off ((wanted_eq rfl rfl rfl rfl).trans rfl) rfl ?_
        refine wl_off ((wanted_eq rfl rfl rfl rfl).trans rfl) rfl ?_
        refine wv (.bool true) rfl rfl (x_pick_t rfl rfl rfl) ?_
        refine wv (.bool true) rfl rfl rfl ?_
        refine wl_off ((wanted_eq rfl rfl rfl rfl).trans rfl) rfl ?_
        refine wl_off ((wanted_eq rfl rfl rfl rfl).trans rfl) rfl ?_
        refine wl_off ((wanted_eq rfl rfl rfl rfl).trans rfl) rfl ?_
        refine wl_off ((wanted_eq rfl rfl rfl rfl).trans rfl) rfl ?_
        refine wl_off ((wanted_eq rfl rfl rfl rfl).trans rfl) rfl ?_
        refine wl_off ((wanted_eq rfl rfl rfl rfl).trans rfl) rfl ?_
        refine wl_off ((wanted_eq rfl rfl rfl rfl).trans rfl) rfl ?_
        refine wv (.bool true) rfl rfl (x_pick_t rfl rfl rfl) ?_
        refine wv (.bool true) rfl rfl rfl ?_
        refine wl_off ((wanted_eq rfl rfl rfl rfl).trans rfl) rfl ?_
        refine wl_off ((wanted_eq rfl rfl rfl rfl).trans rfl) rfl ?_
        refine wl_off ((wanted_eq rfl rfl rfl rfl).trans rfl) rfl ?_
        refine wl_off ((wanted_eq rfl rfl rfl rfl).trans rfl) rfl ?_
        refine wl_off ((wanted_eq rfl rfl rfl rfl).trans rfl) rfl ?_
        refine wl_off ((wanted_eq rfl rfl rfl rfl).trans rfl) rfl ?_
        refine wv (.bool true) rfl rfl (x_pick_t rfl rfl rfl) ?_
        refine wv (.bool true) rfl rfl rfl ?_
        refine wl_off ((wanted_eq rfl rfl rfl rfl).trans rfl) rfl ?_
        refine wl_off ((wanted_eq rfl rfl rfl rfl).trans rfl) rfl ?_
        refine wl_off ((wanted_eq rfl rfl rfl rfl).trans rfl) rfl ?_
        refine wl_off ((wanted_eq rfl rfl rfl rfl).trans rfl) rfl ?_
        refine wl_off ((wanted_eq rfl rfl rfl rfl).trans rfl) rfl ?_
        refine wv (.bool true) rfl rfl (x_pick_t rfl rfl rfl) ?_
        refine wl_nil (then_n ?_)
        refine wp_ift rfl ?_
        refine wp_seq (wp_region_lit ?_)
        refine wv (.bool false) rfl rfl rfl ?_
        refine wl_nil (then_n (wp_ret (then_r ?_)))
        obtain rfl := some_inj hm
        refine post_ret (vs := [.bool false]) Try.results11 (rvs_cons (rv_tmp rfl) rvs_nil) ?_
        exact ⟨rfl, hst.keep0⟩
       ·skip
        replace hm := bif_f hc400 hm
        refine wv (.pointer (some ⟨b374, 14, none⟩)) ((wanted_eq rfl rfl rfl (congrArg Value.bool hc400)).trans rfl) rfl (x_field rfl Try.underlying45 rfl Try.sizeOf39 rfl) ?_
        refine wv (.agg #[.int .i64 a0.R.E, .int .u64 a0.R.Epoch, .int .u64 a0.R.Index, r0_5, r0_6]) ((wanted_eq rfl rfl rfl (congrArg Value.bool hc400)).trans rfl) rfl (x_loadN (cs := [.int .i64 a0.R.E, .int .u64 a0.R.Epoch, .int .u64 a0.R.Index, r0_5, r0_6]) rfl Try.isAgg39 Try.sizeOf39 (hst.bcs1 14 rfl)) ?_
        refine wv (.pointer (some ⟨b379, 14, none⟩)) ((wanted_eq rfl rfl rfl (congrArg Value.bool hc400)).trans rfl) rfl (x_field rfl Try.underlying45 rfl Try.sizeOf39 rfl) ?_
        refine wv (.agg #[.int .i64 a1.R.E, .int .u64 a1.R.Epoch, .int .u64 a1.R.Index, r1_5, r1_6]) ((wanted_eq rfl rfl rfl (congrArg Value.bool hc400)).trans rfl) rfl (x_loadN (cs := [.int .i64 a1.R.E, .int .u64 a1.R.Epoch, .int .u64 a1.R.Index, r1_5, r1_6]) rfl Try.isAgg39 Try.sizeOf39 (hst.bcs0 14 rfl)) ?_
        obtain ⟨t401, ht402, hm⟩ := bind_some hm
        refine wl_call ((wanted_eq rfl rfl rfl (congrArg Value.bool hc400)).trans rfl) rfl (x_call Try.call19 rfl (vs := [.agg #[.int .i64 a0.R.E, .int .u64 a0.R.Epoch, .int .u64 a0.R.Index, r0_5, r0_6], .agg #[.int .i64 a1.R.E, .int .u64 a1.R.Epoch, .int .u64 a1.R.Index, r1_5, r1_6]]) rfl) ?_
        refine (ref11_SameReply_ref (f0_5.mono (rd_weak _)) (f0_6.mono (rd_weak _)) (f1_5.mono (rd_weak _)) (f1_6.mono (rd_weak _)) hst.to0 ht402).mono ?_
        rintro _ w403 ⟨rfl, hst⟩
        refine ⟨_, rfl, ?_⟩
        replace hst := hst.of0
        refine wv (.bool (!t401)) ((wanted_eq rfl rfl rfl (congrArg Value.bool hc400)).trans rfl) rfl rfl ?_
        refine wv (.bool (!t401)) rfl rfl (x_pick_f hc400 rfl rfl) ?_
        refine wv (.bool (!t401)) rfl rfl rfl ?_
        refine bsplit (!t401) (fun hc406 => ?_) (fun hc406 => ?_)
        ·skip
         replace hm := bif_t hc406 hm
         refine wo hc406 rfl rfl rfl rfl rfl rfl ?_
         refine wo hc406 rfl rfl rfl rfl rfl rfl ?_
         refine wo hc406 rfl rfl rfl rfl rfl rfl ?_
         refine wo hc406 rfl rfl rfl rfl rfl rfl ?_
         refine wo hc406 rfl rfl rfl rfl rfl rfl ?_
         refine wv (.bool true) rfl rfl (x_pick_t hc406 rfl rfl) ?_
         refine wv (.bool true) rfl rfl rfl ?_
         refine wl_off ((wanted_eq rfl rfl rfl rfl).trans rfl) rfl ?_
         refine wl_off ((wanted_eq rfl rfl rfl rfl).trans rfl) rfl ?_
         refine wl_off ((wanted_eq rfl rfl rfl rfl).trans rfl) rfl ?_
         refine wl_off ((wanted_eq rfl rfl rfl rfl).trans rfl) rfl ?_
         refine wl_off ((wanted_eq rfl rfl rfl rfl).trans rfl) rfl ?_
         refine wl_off ((wanted_eq rfl rfl rfl rfl).trans rfl) rfl ?_
         refine wl_off ((wanted_eq rfl rfl rfl rfl).trans rfl) rfl ?_
         refine wv (.bool true) rfl rfl (x_pick_t rfl rfl rfl) ?_
         refine wv (.bool true) rfl rfl rfl ?_
         refine wl_off ((wanted_eq rfl rfl rfl rfl).trans rfl) rfl ?_
         refine wl_off ((wanted_eq rfl rfl rfl rfl).trans rfl) rfl ?_
         refine wl_off ((wanted_eq rfl rfl rfl rfl).trans rfl) rfl ?_
         refine wl_off ((wanted_eq rfl rfl rfl rfl).trans rfl) rfl ?_
         refine wl_off ((wanted_eq rfl rfl rfl rfl).trans rfl) rfl ?_
         refine wl_off ((wanted_eq rfl rfl rfl rfl).trans rfl) rfl ?_
         refine wv (.bool true) rfl rfl (x_pick_t rfl rfl rfl) ?_
         refine wv (.bool true) rfl rfl rfl ?_
         refine wl_off ((wanted_eq rfl rfl rfl rfl).trans rfl) rfl ?_
         refine wl_off ((wanted_eq rfl rfl rfl rfl).trans rfl) rfl ?_
         refine wl_off ((wanted_eq rfl rfl rfl rfl).trans rfl) rfl ?_
         refine wl_off ((wanted_eq rfl rfl rfl rfl).trans rfl) rfl ?_
         refine wl_off ((wanted_eq rfl rfl rfl rfl).trans rfl) rfl ?_
         refine wv (.bool true) rfl rfl (x_pick_t rfl rfl rfl) ?_
         refine wl_nil (then_n ?_)
         refine wp_ift rfl ?_
         refine wp_seq (wp_region_lit ?_)
         refine wv (.bool false) rfl rfl rfl ?_
         refine wl_nil (then_n (wp_ret (then_r ?_)))
         obtain rfl := some_inj hm
         refine post_ret (vs := [.bool false]) Try.results11 (rvs_cons (rv_tmp rfl) rvs_nil) ?_
         exact ⟨rfl, hst.keep0⟩
        ·skip
         replace hm := bif_f hc406 hm
         refine wv (.pointer (some ⟨b374, 19, none⟩)) ((wanted_eq rfl rfl rfl (congrArg Value.bool hc406)).trans rfl) rfl (x_field rfl Try.underlying45 rfl Try.sizeOf27 rfl) ?_
         refine wv (.int .u64 a0.Shards) ((wanted_eq rfl rfl rfl (congrArg Value.bool hc406)).trans rfl) rfl (x_load rfl Try.isAgg27 (hst.bc1 rfl)) ?_
         refine wv (.pointer (some ⟨b379, 19, none⟩)) ((wanted_eq rfl rfl rfl (congrArg Value.bool hc406)).trans rfl) rfl (x_field rfl Try.underlying45 rfl Try.sizeOf27 rfl) ?_
         refine wv (.int .u64 a1.Shards) ((wanted_eq rfl rfl rfl (congrArg Value.bool hc406)).trans rfl) rfl (x_load rfl Try.isAgg27 (hst.bc0 rfl)) ?_
         refine wv (.bool (a0.Shards != a1.Shards)) ((wanted_eq rfl rfl rfl (congrArg Value.bool hc406)).trans rfl) rfl rfl ?_
         refine wv (.bool (a0.Shards != a1.Shards)) rfl rfl (x_pick_f hc406 rfl rfl) ?_
         refine wv (.bool (a0.Shards != a1.Shards)) rfl rfl rfl ?_
         refine bsplit (a0.Shards != a1.Shards) (fun hc407 => ?_) (fun hc407 => ?_)
         ·skip
          replace hm := bif_t hc407 hm
          refine wo hc407 rfl rfl rfl rfl rfl rfl ?_
          refine wo hc407 rfl rfl rfl rfl rfl rfl ?_
          refine wo hc407 rfl rfl rfl rfl rfl rfl ?_
          refine wo hc407 rfl rfl rfl rfl rfl rfl ?_
          refine wo hc407 rfl rfl rfl rfl rfl rfl ?_
          refine wo hc407 rfl rfl rfl rfl rfl rfl ?_
          refine wo hc407 rfl rfl rfl rfl rfl rfl ?_
          refine wv (.bool true) rfl rfl (x_pick_t hc407 rfl rfl) ?_
          refine wv (.bool true) rfl rfl rfl ?_
          refine wl_off ((wanted_eq rfl rfl rfl rfl).trans rfl) rfl ?_
          refine wl_off ((wanted_eq rfl rfl rfl rfl).trans rfl) rfl ?_
          refine wl_off ((wanted_eq rfl rfl rfl rfl).trans rfl) rfl ?_
          refine wl_off ((wanted_eq rfl rfl rfl rfl).trans rfl) rfl ?_
          refine wl_off ((wanted_eq rfl rfl rfl rfl).trans rfl) rfl ?_
          refine wl_off ((wanted_eq rfl rfl rfl rfl).trans rfl) rfl ?_
          refine wv (.bool true) rfl rfl (x_pick_t rfl rfl rfl) ?_
          refine wv (.bool true) rfl rfl rfl ?_
          refine wl_off ((wanted_eq rfl rfl rfl rfl).trans rfl) rfl ?_
          refine wl_off ((wanted_eq rfl rfl rfl rfl).trans rfl) rfl ?_
          refine wl_off ((wanted_eq rfl rfl rfl rfl).trans rfl) rfl ?_
          refine wl_off ((wanted_eq rfl rfl rfl rfl).trans rfl) rfl ?_
          refine wl_off ((wanted_eq rfl rfl rfl rfl).trans rfl) rfl ?_
          refine wv (.bool true) rfl rfl (x_pick_t rfl rfl rfl) ?_
          refine wl_nil (then_n ?_)
          refine wp_ift rfl ?_
          refine wp_seq (wp_region_lit ?_)
          refine wv (.bool false) rfl rfl rfl ?_
          refine wl_nil (then_n (wp_ret (then_r ?_)))
          obtain rfl := some_inj hm
          refine post_ret (vs := [.bool false]) Try.results11 (rvs_cons (rv_tmp rfl) rvs_nil) ?_
          exact ⟨rfl, hst.keep0⟩
         ·skip
          replace hm := bif_f hc407 hm
          refine wv (.pointer (some ⟨b374, 20, none⟩)) ((wanted_eq rfl rfl rfl (congrArg Value.bool hc407)).trans rfl) rfl (x_field rfl Try.underlying45 rfl Try.sizeOf40 rfl) ?_
          refine wv (r0_7) ((wanted_eq rfl rfl rfl (congrArg Value.bool hc407)).trans rfl) rfl (x_load rfl Try.isAgg40 (hst.bc1 rfl)) ?_
          refine wv (.int .i64 ((a0.Parts).length : Int)) ((wanted_eq rfl rfl rfl (congrArg Value.bool hc407)).trans rfl) rfl (x_len rfl Try.underlying40 (rd_sliceV f0_7)) ?_
          refine wv (.pointer (some ⟨b379, 20, none⟩)) ((wanted_eq rfl rfl rfl (congrArg Value.bool hc407)).trans rfl) rfl (x_field rfl Try.underlying45 rfl Try.sizeOf40 rfl) ?_
          refine wv (r1_7) ((wanted_eq rfl rfl rfl (congrArg Value.bool hc407)).trans rfl) rfl (x_load rfl Try.isAgg40 (hst.bc0 rfl)) ?_
          refine wv (.int .i64 ((a1.Parts).length : Int)) ((wanted_eq rfl rfl rfl (congrArg Value.bool hc407)).trans rfl) rfl (x_len rfl Try.underlying40 (rd_sliceV f1_7)) ?_
          refine wv (.bool (((a0.Parts).length : Int) != ((a1.Parts).length : Int))) ((wanted_eq rfl rfl rfl (congrArg Value.bool hc407)).trans rfl) rfl rfl ?_
          refine wv (.bool (((a0.Parts).length : Int) != ((a1.Parts).length : Int))) rfl rfl (x_pick_f hc407 rfl rfl) ?_
          refine wv (.bool (((a0.Parts).length : Int) != ((a1.Parts).length : Int))) rfl rfl rfl ?_
          refine bsplit (((a0.Parts).length : Int) != ((a1.Parts).length : Int)) (fun hc408 => ?_) (fun hc408 => ?_)
          ·skip
           replace hm := bif_t hc408 hm
           refine wo hc408 rfl rfl rfl rfl rfl rfl ?_
           refine wo hc408 rfl rfl rfl rfl rfl rfl ?_
           refine wo hc408 rfl rfl rfl rfl rfl rfl ?_
           refine wo hc408 rfl rfl rfl rfl rfl rfl ?_
           refine wo hc408 rfl rfl rfl rfl rfl rfl ?_
           refine wo hc408 rfl rfl rfl rfl rfl rfl ?_
           refine wv (.bool true) rfl rfl (x_pick_t hc408 rfl rfl) ?_
           refine wv (.bool true) rfl rfl rfl ?_
           refine wl_off ((wanted_eq rfl rfl rfl rfl).trans rfl) rfl ?_
           refine wl_off ((wanted_eq rfl rfl rfl rfl).trans rfl) rfl ?_
           refine wl_off ((wanted_eq rfl rfl rfl rfl).trans rfl) rfl ?_
           refine wl_off ((wanted_eq rfl rfl rfl rfl).trans rfl) rfl ?_
           refine wl_off ((wanted_eq rfl rfl rfl rfl).trans rfl) rfl ?_
           refine wv (.bool true) rfl rfl (x_pick_t rfl rfl rfl) ?_
           refine wl_nil (then_n ?_)
           refine wp_ift rfl ?_
           refine wp_seq (wp_region_lit ?_)
           refine wv (.bool false) rfl rfl rfl ?_
           refine wl_nil (then_n (wp_ret (then_r ?_)))
           obtain rfl := some_inj hm
           refine post_ret (vs := [.bool false]) Try.results11 (rvs_cons (rv_tmp rfl) rvs_nil) ?_
           exact ⟨rfl, hst.keep0⟩
          ·skip
           replace hm := bif_f hc408 hm
           refine wv (.pointer (some ⟨b374, 21, none⟩)) ((wanted_eq rfl rfl rfl (congrArg Value.bool hc408)).trans rfl) rfl (x_field rfl Try.underlying45 rfl Try.sizeOf43 rfl) ?_
           refine wv (.agg #[.int .u64 a0.Rule.ID, .int .i64 a0.Rule.From, .int .i64 a0.Rule.To, .float .f64 a0.Rule.Lo, .float .f64 a0.Rule.Hi, .int .u64 a0.Rule.Authority, .int .i64 a0.Rule.Quota]) ((wanted_eq rfl rfl rfl (congrArg Value.bool hc408)).trans rfl) rfl (x_loadN (cs := [.int .u64 a0.Rule.ID, .int .i64 a0.Rule.From, .int .i64 a0.Rule.To, .float .f64 a0.Rule.Lo, .float .f64 a0.Rule.Hi, .int .u64 a0.Rule.Authority, .int .i64 a0.Rule.Quota]) rfl Try.isAgg43 Try.sizeOf43 (hst.bcs1 21 rfl)) ?_
           refine wv (.pointer (some ⟨b379, 21, none⟩)) ((wanted_eq rfl rfl rfl (congrArg Value.bool hc408)).trans rfl) rfl (x_field rfl Try.underlying45 rfl Try.sizeOf43 rfl) ?_
           refine wv (.agg #[.int .u64 a1.Rule.ID, .int .i64 a1.Rule.From, .int .i64 a1.Rule.To, .float .f64 a1.Rule.Lo, .float .f64 a1.Rule.Hi, .int .u64 a1.Rule.Authority, .int .i64 a1.Rule.Quota]) ((wanted_eq rfl rfl rfl (congrArg Value.bool hc408)).trans rfl) rfl (x_loadN (cs := [.int .u64 a1.Rule.ID, .int .i64 a1.Rule.From, .int .i64 a1.Rule.To, .float .f64 a1.Rule.Lo, .float .f64 a1.Rule.Hi, .int .u64 a1.Rule.Authority, .int .i64 a1.Rule.Quota]) rfl Try.isAgg43 Try.sizeOf43 (hst.bcs0 21 rfl)) ?_
           obtain ⟨t409, ht410, hm⟩ := bind_some hm
           refine wl_call ((wanted_eq rfl rfl rfl (congrArg Value.bool hc408)).trans rfl) rfl (x_call Try.call35 rfl (vs := [.agg #[.int .u64 a0.Rule.ID, .int .i64 a0.Rule.From, .int .i64 a0.Rule.To, .float .f64 a0.Rule.Lo, .float .f64 a0.Rule.Hi, .int .u64 a0.Rule.Authority, .int .i64 a0.Rule.Quota], .agg #[.int .u64 a1.Rule.ID, .int .i64 a1.Rule.From, .int .i64 a1.Rule.To, .float .f64 a1.Rule.Lo, .float .f64 a1.Rule.Hi, .int .u64 a1.Rule.Authority, .int .i64 a1.Rule.Quota]]) rfl) ?_
           refine (ref11_SameRule_ref hst.to0 ht410).mono ?_
           rintro _ w411 ⟨rfl, hst⟩
           refine ⟨_, rfl, ?_⟩
           replace hst := hst.of0
           refine wv (.bool (!t409)) ((wanted_eq rfl rfl rfl (congrArg Value.bool hc408)).trans rfl) rfl rfl ?_
           refine wv (.bool (!t409)) rfl rfl (x_pick_f hc408 rfl rfl) ?_
           refine wv (.bool (!t409)) rfl rfl rfl ?_
           refine bsplit (!t409) (fun hc414 => ?_) (fun hc414 => ?_)
           ·skip
            replace hm := bif_t hc414 hm
            refine wo hc414 rfl rfl rfl rfl rfl rfl ?_
            refine wo hc414 rfl rfl rfl rfl rfl rfl ?_
            refine wo hc414 rfl rfl rfl rfl rfl rfl ?_
            refine wo hc414 rfl rfl rfl rfl rfl rfl ?_
            refine wo hc414 rfl rfl rfl rfl rfl rfl ?_
            refine wv (.bool true) rfl rfl (x_pick_t hc414 rfl rfl) ?_
            refine wl_nil (then_n ?_)
            refine wp_ift rfl ?_
            refine wp_seq (wp_region_lit ?_)
            refine wv (.bool false) rfl rfl rfl ?_
            refine wl_nil (then_n (wp_ret (then_r ?_)))
            obtain rfl := some_inj hm
            refine post_ret (vs := [.bool false]) Try.results11 (rvs_cons (rv_tmp rfl) rvs_nil) ?_
            exact ⟨rfl, hst.keep0⟩
           ·skip
            replace hm := bif_f hc414 hm
            refine wv (.pointer (some ⟨b374, 28, none⟩)) ((wanted_eq rfl rfl rfl (congrArg Value.bool hc414)).trans rfl) rfl (x_field rfl Try.underlying45 rfl Try.sizeOf4 rfl) ?_
            refine wv (.bool a0.On) ((wanted_eq rfl rfl rfl (congrArg Value.bool hc414)).trans rfl) rfl (x_load rfl Try.isAgg4 (hst.bc1 rfl)) ?_
            refine wv (.pointer (some ⟨b379, 28, none⟩)) ((wanted_eq rfl rfl rfl (congrArg Value.bool hc414)).trans rfl) rfl (x_field rfl Try.underlying45 rfl Try.sizeOf4 rfl) ?_
            refine wv (.bool a1.On) ((wanted_eq rfl rfl rfl (congrArg Value.bool hc414)).trans rfl) rfl (x_load rfl Try.isAgg4 (hst.bc0 rfl)) ?_
            refine wv (.bool (!(a0.On == a1.On))) ((wanted_eq rfl rfl rfl (congrArg Value.bool hc414)).trans rfl) rfl (by kernel_rfl) ?_
            refine wv (.bool (!(a0.On == a1.On))) rfl rfl (x_pick_f hc414 rfl rfl) ?_
            refine wl_nil (then_n ?_)
            refine bsplit (!(a0.On == a1.On)) (fun hc415 => ?_) (fun hc415 => ?_)
            ·skip
             replace hm := bif_t hc415 hm
             refine wp_ift (congrArg Value.bool hc415) ?_
             refine wp_seq (wp_region_lit ?_)
             refine wv (.bool false) rfl rfl rfl ?_
             refine wl_nil (then_n (wp_ret (then_r ?_)))
             obtain rfl := some_inj hm
             refine post_ret (vs := [.bool false]) Try.results11 (rvs_cons (rv_tmp rfl) rvs_nil) ?_
             exact ⟨rfl, hst.keep0⟩
            ·skip
             replace hm := bif_f hc415 hm
             refine wp_iff (congrArg Value.bool hc415) ?_
             refine wp_skip (then_n (wp_seq (wp_seq (wp_region_lit ?_))))
             refine wv (.int .i64 (0:Int)) rfl rfl rfl ?_
             refine wl_nil (then_n (wp_block ?_))
             obtain ⟨n479, hm⟩ := loopO_some hm
             refine wp_loop_n (fun n a w => ∃ (z477 : Int) (σ478 : Nat → Value), loopN (law13_same_l0 a0 a1) n z477 = some r ∧ a = Fr 130 (upd (upd (upd σ478 2 (.pointer (some ⟨b374, 0, none⟩))) 3 (.pointer (some ⟨b379, 0, none⟩))) 5 (.int .i64 z477)) ∧ St w0 w I [cells b379 [.int .u8 a1.Kind, .int .u64 a1.ID.Session, .int .u64 a1.ID.Seq, .int .u64 a1.Epoch, .int .u64 a1.Index, .int .i64 a1.E, .int .u64 a1.Hold.ID.Session, .int .u64 a1.Hold.ID.Seq, .int .u64 a1.Hold.Epoch, r1_0, r1_1, r1_2, r1_3, r1_4, .int .i64 a1.R.E, .int .u64 a1.R.Epoch, .int .u64 a1.R.Index, r1_5, r1_6, .int .u64 a1.Shards, r1_7, .int .u64 a1.Rule.ID, .int .i64 a1.Rule.From, .int .i64 a1.Rule.To, .float .f64 a1.Rule.Lo, .float .f64 a1.Rule.Hi, .int .u64 a1.Rule.Authority, .int .i64 a1.Rule.Quota, .bool a1.On], cells b374 [.int .u8 a0.Kind, .int .u64 a0.ID.Session, .int .u64 a0.ID.Seq, .int .u64 a0.Epoch, .int .u64 a0.Index, .int .i64 a0.E, .int .u64 a0.Hold.ID.Session, .int .u64 a0.Hold.ID.Seq, .int .u64 a0.Hold.Epoch, r0_0, r0_1, r0_2, r0_3, r0_4, .int .i64 a0.R.E, .int .u64 a0.R.Epoch, .int .u64 a0.R.Index, r0_5, r0_6, .int .u64 a0.Shards, r0_7, .int .u64 a0.Rule.ID, .int .i64 a0.Rule.From, .int .i64 a0.Rule.To, .float .f64 a0.Rule.Lo, .float .f64 a0.Rule.Hi, .int .u64 a0.Rule.Authority, .int .i64 a0.Rule.Quota, .bool a0.On]] R) n479 ⟨(0:Int), _, hm, ((fr_upd (t := 2) (v := .pointer (some ⟨b374, 0, none⟩)) rfl).trans ((fr_upd (t := 3) (v := .pointer (some ⟨b379, 0, none⟩)) rfl).trans ((fr_upd (t := 5) (v := .int .i64 (0:Int)) rfl).trans rfl))), hst⟩ ?_
             rintro n485 _ w480 ⟨z477, σ478, hm, rfl, hst⟩
             obtain ⟨n482, y483, rfl, hm, hx484⟩ := loopN_some hm
             dsimp only [law13_same_l0] at hm
             refine wp_seq (wp_seq (wp_region_lit ?_))
             refine wv (.int .i64 z477) rfl rfl rfl ?_
             refine wv (.pointer (some ⟨b374, 20, none⟩)) rfl rfl (x_field rfl Try.underlying45 rfl Try.sizeOf40 rfl) ?_
             refine wv (r0_7) rfl rfl (x_load rfl Try.isAgg40 (hst.bc1 rfl)) ?_
             refine wv (.int .i64 ((a0.Parts).length : Int)) rfl rfl (x_len rfl Try.underlying40 (rd_sliceV f0_7)) ?_
             refine wv (.bool (decide (z477 < ((a0.Parts).length : Int)))) rfl rfl rfl ?_
             refine wl_nil (then_n ?_)
             refine bsplit (decide (z477 < ((a0.Parts).length : Int))) (fun hc486 => ?_) (fun hc486 => ?_)
             ·skip
              replace hm := bif_t hc486 hm
              refine wp_ift (congrArg Value.bool hc486) ?_
              refine wp_skip (then_n (wp_seq (wp_block (wp_seq ?_))))
              refine wp_region_St hst 29 [0, 1, 2, 3, 4, 5, 6, 7, 8, 9, 10, 11, 12, 13, 14, 15, 16, 17, 18, 19, 20, 21, 22, 23, 24, 25, 26, 27, 28] [0, 1, 0, 7, 15, 31, 0, 64, 0, 448, 960, 1984, 4095, 8191, 16383, 32767, 16383, 131071, 262143, 524287, 16383, 1064959, 16383, 7356415, 15745023, 32522239, 67108863, 134217727, 268435455] [] rfl (by kernel_rfl) (by kernel_rfl) Try.mixed (by kernel_rfl) ?_
              refine wsr (.pointer (some ⟨b374, 20, none⟩)) 0 rfl rfl rfl (by kernel_rfl) (fun w hst => x_field rfl Try.underlying45 rfl Try.sizeOf40 rfl) ?_
              refine wsr (r0_7) 1 rfl rfl rfl (by kernel_rfl) (fun w hst => x_load rfl Try.isAgg40 (hst.bc1 rfl)) ?_
              refine wsr (.int .i64 z477) 2 rfl rfl rfl (by kernel_rfl) (fun w hst => rfl) ?_
              obtain ⟨x487, hx488, hm⟩ := bind_some hm
              obtain ⟨h489, h490, hi491⟩ := geto_some hx488
              refine wsr (.pointer (some (eAddr r0_7 (z477.toNat * 2 + 0)))) 3 rfl rfl rfl (by kernel_rfl) (fun w hst => x_index rfl rfl Try.underlying40 Try.sizeOf81 (rd_sliceV f0_7) h489 h490) ?_
              refine wsr (.pointer (some (eAddr r0_7 (z477.toNat * 2 + 0)))) 4 rfl rfl rfl (by kernel_rfl) (fun w hst => x_field_e rfl Try.underlying81 rfl Try.sizeOf3 rfl) ?_
              obtain ⟨cs492, hr493, hc494⟩ := Rd.getF f0_7 hi491
              obtain ⟨v495, rfl, f496, -⟩ := hr493
              refine wsr (.int .i64 x487.Shard) 5 rfl rfl rfl (by kernel_rfl) (fun w hst => x_load rfl Try.isAgg3 ((hc494 (HL.le.refl _) hst) 0 _ rfl)) ?_
              refine wsr (.pointer (some ⟨b379, 20, none⟩)) 6 rfl rfl rfl (by kernel_rfl) (fun w hst => x_field rfl Try.underlying45 rfl Try.sizeOf40 rfl) ?_
              refine wsr (r1_7) 7 rfl rfl rfl (by kernel_rfl) (fun w hst => x_load rfl Try.isAgg40 (hst.bc0 rfl)) ?_
              refine wsr (.int .i64 z477) 8 rfl rfl rfl (by kernel_rfl) (fun w hst => rfl) ?_
              obtain ⟨x498, hx499, hm⟩ := bind_some hm
              obtain ⟨h500, h501, hi502⟩ := geto_some hx499
              refine wsr (.pointer (some (eAddr r1_7 (z477.toNat * 2 + 0)))) 9 rfl rfl rfl (by kernel_rfl) (fun w hst => x_index rfl rfl Try.underlying40 Try.sizeOf81 (rd_sliceV f1_7) h500 h501) ?_
              refine wsr (.pointer (some (eAddr r1_7 (z477.toNat * 2 + 0)))) 10 rfl rfl rfl (by kernel_rfl) (fun w hst => x_field_e rfl Try.underlying81 rfl Try.sizeOf3 rfl) ?_
              obtain ⟨cs503, hr504, hc505⟩ := Rd.getF f1_7 hi502
              obtain ⟨v506, rfl, f507, -⟩ := hr504
              refine wsr (.int .i64 x498.Shard) 11 rfl rfl rfl (by kernel_rfl) (fun w hst => x_load rfl Try.isAgg3 ((hc505 (HL.le.refl _) hst) 0 _ rfl)) ?_
              refine wsr (.bool (x487.Shard != x498.Shard)) 12 rfl rfl rfl (by kernel_rfl) (fun w hst => rfl) ?_
              refine wsr (.bool (x487.Shard != x498.Shard)) 13 rfl rfl rfl (by kernel_rfl) (fun w hst => rfl) ?_
              refine bsplit (x487.Shard != x498.Shard) (fun hc509 => ?_) (fun hc509 => ?_)
              ·skip
               replace hm := bif_t hc509 hm
               refine ws_q (v := undef) 14 [15, 16, 17, 18, 19, 20, 21, 22, 23, 24, 25, 26, 27, 28] (by kernel_rfl) rfl rfl (yi_off ((wanted_eq rfl rfl rfl (congrArg Value.bool hc509)).trans rfl)) ?_
               refine ws_q (v := undef) 15 [16, 17, 18, 19, 20, 21, 22, 23, 24, 25, 26, 27, 28] (by kernel_rfl) rfl rfl (yi_off ((wanted_eq rfl rfl rfl (congrArg Value.bool hc509)).trans rfl)) ?_
               refine ws_q (v := undef) 16 [17, 18, 19, 20, 21, 22, 23, 24, 25, 26, 27, 28] (by kernel_rfl) rfl rfl (yi_off ((wanted_eq rfl rfl rfl (congrArg Value.bool hc509)).trans rfl)) ?_
               refine ws_q (v := undef) 17 [18, 19, 20, 21, 22, 23, 24, 25, 26, 27, 28] (by kernel_rfl) rfl rfl (yi_off ((wanted_eq rfl rfl rfl (congrArg Value.bool hc509)).trans rfl)) ?_
               refine ws_q (v := undef) 18 [19, 20, 21, 22, 23, 24, 25, 26, 27, 28] (by kernel_rfl) rfl rfl (yi_off ((wanted_eq rfl rfl rfl (congrArg Value.bool hc509)).trans rfl)) ?_
               refine ws_q (v := undef) 19 [20, 21, 22, 23, 24, 25, 26, 27, 28] (by kernel_rfl) rfl rfl (yi_off ((wanted_eq rfl rfl rfl (congrArg Value.bool hc509)).trans rfl)) ?_
               refine ws_q (v := undef) 20 [21, 22, 23, 24, 25, 26, 27, 28] (by kernel_rfl) rfl rfl (yi_off ((wanted_eq rfl rfl rfl (congrArg Value.bool hc509)).trans rfl)) ?_
               refine ws_q (v := undef) 21 [22, 23, 24, 25, 26, 27, 28] (by kernel_rfl) rfl rfl (yi_off ((wanted_eq rfl rfl rfl (congrArg Value.bool hc509)).trans rfl)) ?_
               refine ws_q (v := undef) 22 [23, 24, 25, 26, 27, 28] (by kernel_rfl) rfl rfl (yi_off ((wanted_eq rfl rfl rfl (congrArg Value.bool hc509)).trans rfl)) ?_
               refine ws_q (v := undef) 23 [24, 25, 26, 27, 28] (by kernel_rfl) rfl rfl (yi_off ((wanted_eq rfl rfl rfl (congrArg Value.bool hc509)).trans rfl)) ?_
               refine ws_q (v := undef) 24 [25, 26, 27, 28] (by kernel_rfl) rfl rfl (yi_off ((wanted_eq rfl rfl rfl (congrArg Value.bool hc509)).trans rfl)) ?_
               refine ws_q (v := undef) 25 [26, 27, 28] (by kernel_rfl) rfl rfl (yi_off ((wanted_eq rfl rfl rfl (congrArg Value.bool hc509)).trans rfl)) ?_
               refine ws_q (v := undef) 26 [27, 28] (by kernel_rfl) rfl rfl (yi_off ((wanted_eq rfl rfl rfl (congrArg Value.bool hc509)).trans rfl)) ?_
               refine ws_q (v := undef) 27 [28] (by kernel_rfl) rfl rfl (yi_off ((wanted_eq rfl rfl rfl (congrArg Value.bool hc509)).trans rfl)) ?_
               refine wsr (.bool true) 28 rfl rfl rfl (by kernel_rfl) (fun w hst => x_pick_t hc509 rfl rfl) ?_
               refine ws_nil ?_
               intro w hst
               refine then_n ?_
               refine wp_ift rfl ?_
               refine wp_seq (wp_region_lit ?_)
               refine wv (.bool false) rfl rfl rfl ?_
               refine wl_nil (then_n (wp_ret (blk_r (then_r (then_r ?_)))))
               replace hm := inr_up hm hx484
               refine blk_r (then_r ?_)
               obtain rfl := some_inj hm
               refine post_ret (vs := [.bool false]) Try.results11 (rvs_cons (rv_tmp rfl) rvs_nil) ?_
               exact ⟨rfl, hst.keep0⟩
              ·skip
               replace hm := bif_f hc509 hm
               refine ws_q (v := .pointer (some ⟨b374, 20, none⟩)) 14 [15, 16, 17, 18, 19, 20, 21, 22, 23, 24, 25, 26, 27, 28] (by kernel_rfl) rfl rfl (yi_run ((wanted_eq rfl rfl rfl (congrArg Value.bool hc509)).trans rfl) (fun w hst => x_field rfl Try.underlying45 rfl Try.sizeOf40 rfl)) ?_
               refine ws_q (v := r0_7) 15 [16, 17, 18, 19, 20, 21, 22, 23, 24, 25, 26, 27, 28] (by kernel_rfl) rfl rfl (yi_run ((wanted_eq rfl rfl rfl (congrArg Value.bool hc509)).trans rfl) (fun w hst => x_load rfl Try.isAgg40 (hst.bc1 rfl))) ?_
               refine ws_q (v := .int .i64 z477) 16 [17, 18, 19, 20, 21, 22, 23, 24, 25, 26, 27, 28] (by kernel_rfl) rfl rfl (yi_run ((wanted_eq rfl rfl rfl (congrArg Value.bool hc509)).trans rfl) (fun w hst => rfl)) ?_
               refine ws_q (v := .pointer (some (eAddr r0_7 (z477.toNat * 2 + 0)))) 17 [18, 19, 20, 21, 22, 23, 24, 25, 26, 27, 28] (by kernel_rfl) rfl rfl (yi_run ((wanted_eq rfl rfl rfl (congrArg Value.bool hc509)).trans rfl) (fun w hst => x_index rfl rfl Try.underlying40 Try.sizeOf81 (rd_sliceV f0_7) h489 h490)) ?_
               refine ws_q (v := .pointer (some (eAddr r0_7 (z477.toNat * 2 + 1)))) 18 [19, 20, 21, 22, 23, 24, 25, 26, 27, 28] (by kernel_rfl) rfl rfl (yi_run ((wanted_eq rfl rfl rfl (congrArg Value.bool hc509)).trans rfl) (fun w hst => x_field_e rfl Try.underlying81 rfl Try.sizeOf35 rfl)) ?_
               refine ws_q (v := v495) 19 [20, 21, 22, 23, 24, 25, 26, 27, 28] (by kernel_rfl) rfl rfl (yi_run ((wanted_eq rfl rfl rfl (congrArg Value.bool hc509)).trans rfl) (fun w hst => x_load rfl Try.isAgg35 ((hc494 (HL.le.refl _) hst) 1 _ rfl))) ?_
               refine ws_q (v := .pointer (some ⟨b379, 20, none⟩)) 20 [21, 22, 23, 24, 25, 26, 27, 28] (by kernel_rfl) rfl rfl (yi_run ((wanted_eq rfl rfl rfl (congrArg Value.bool hc509)).trans rfl) (fun w hst => x_field rfl Try.underlying45 rfl Try.sizeOf40 rfl)) ?_
               refine ws_q (v := r1_7) 21 [22, 23, 24, 25, 26, 27, 28] (by kernel_rfl) rfl rfl (yi_run ((wanted_eq rfl rfl rfl (congrArg Value.bool hc509)).trans rfl) (fun w hst => x_load rfl Try.isAgg40 (hst.bc0 rfl))) ?_
               refine ws_q (v := .int .i64 z477) 22 [23, 24, 25, 26, 27, 28] (by kernel_rfl) rfl rfl (yi_run ((wanted_eq rfl rfl rfl (congrArg Value.bool hc509)).trans rfl) (fun w hst => rfl)) ?_
               refine ws_q (v := .pointer (some (eAddr r1_7 (z477.toNat * 2 + 0)))) 23 [24, 25, 26, 27, 28] (by kernel_rfl) rfl rfl (yi_run ((wanted_eq rfl rfl rfl (congrArg Value.bool hc509)).trans rfl) (fun w hst => x_index rfl rfl Try.underlying40 Try.sizeOf81 (rd_sliceV f1_7) h500 h501)) ?_
               refine ws_q (v := .pointer (some (eAddr r1_7 (z477.toNat * 2 + 1)))) 24 [25, 26, 27, 28] (by kernel_rfl) rfl rfl (yi_run ((wanted_eq rfl rfl rfl (congrArg Value.bool hc509)).trans rfl) (fun w hst => x_field_e rfl Try.underlying81 rfl Try.sizeOf35 rfl)) ?_
               refine ws_q (v := v506) 25 [26, 27, 28] (by kernel_rfl) rfl rfl (yi_run ((wanted_eq rfl rfl rfl (congrArg Value.bool hc509)).trans rfl) (fun w hst => x_load rfl Try.isAgg35 ((hc505 (HL.le.refl _) hst) 1 _ rfl))) ?_
               refine ws_e1 26 (by kernel_rfl) ?_
               refine nxe [27, 28] (by kernel_rfl) rfl ((wanted_eq rfl rfl rfl (congrArg Value.bool hc509)).trans rfl) ?_
               clear hst
               intro w hst
               obtain ⟨t510, ht511, hm⟩ := bind_some hm
               refine we_call rfl (x_call Try.call34 rfl (vs := [v495, v506]) rfl) ?_
               refine (ref13_SameWrites_ref (f496.mono (rd_weak _)) (f507.mono (rd_weak _)) hst.to0 ht511).mono ?_
               rintro _ w512 ⟨rfl, hst⟩
               refine ⟨_, rfl, ?_⟩
               replace hst := hst.of0
               refine ws_next (pend' := []) hst (by kernel_rfl) pk_nil ?_
               refine ws_q (v := .bool (!t510)) 27 [28] (by kernel_rfl) rfl rfl (yi_run ((wanted_eq rfl rfl rfl (congrArg Value.bool hc509)).trans rfl) (fun w hst => rfl)) ?_
               refine wsr (.bool (!t510)) 28 rfl rfl rfl (by kernel_rfl) (fun w hst => x_pick_f hc509 rfl rfl) ?_
               refine ws_nil ?_
               intro w hst
               refine then_n ?_
               refine bsplit (!t510) (fun hc515 => ?_) (fun hc515 => ?_)
               ·skip
                replace hm := bif_t hc515 hm
                refine wp_ift (congrArg Value.bool hc515) ?_
                refine wp_seq (wp_region_lit ?_)
                refine wv (.bool false) rfl rfl rfl ?_
                refine wl_nil (then_n (wp_ret (blk_r (then_r (then_r ?_)))))
                replace hm := inr_up hm hx484
                refine blk_r (then_r ?_)
                obtain rfl := some_inj hm
                refine post_ret (vs := [.bool false]) Try.results11 (rvs_cons (rv_tmp rfl) rvs_nil) ?_
                exact ⟨rfl, hst.keep0⟩
               ·skip
                replace hm := bif_f hc515 hm
                refine wp_iff (congrArg Value.bool hc515) ?_
                refine wp_skip (blk_n (then_n (wp_region_lit ?_)))
                refine wv (.int .i64 z477) rfl rfl rfl ?_
                refine wv (.int .i64 (IntKind.i64.wrap (z477 + (1:Int)))) rfl rfl rfl ?_
                refine wv (.int .i64 (IntKind.i64.wrap (z477 + (1:Int)))) rfl rfl rfl ?_
                refine wl_nil (then_n ?_)
                replace hst := hst.pull1
                replace hst := hst.pull1
                replace hst := hst.keep2
                obtain rfl := some_inj hm
                exact ⟨_, Nat.lt_succ_self _, (IntKind.i64.wrap (z477 + (1:Int))), _, hx484, ((fr_upd (t := 2) (v := .pointer (some ⟨b374, 0, none⟩)) rfl).trans ((fr_upd (t := 3) (v := .pointer (some ⟨b379, 0, none⟩)) rfl).trans ((fr_upd (t := 5) (v := .int .i64 (IntKind.i64.wrap (z477 + (1:Int)))) rfl).trans rfl))), hst⟩
             ·skip
              replace hm := bif_f hc486 hm
              refine wp_iff (congrArg Value.bool hc486) ?_
              refine wp_exit (then_x (then_x ?_))
              replace hm := inr_up hm hx484
              refine blk_x (then_n (wp_seq (wp_region_lit ?_)))
              refine wv (.bool true) rfl rfl rfl ?_
              refine wl_nil (then_n (wp_ret ?_))
              obtain rfl := some_inj hm
              refine post_ret (vs := [.bool true]) Try.results11 (rvs_cons (rv_tmp rfl) rvs_nil) ?_
              exact ⟨rfl, hst.keep0⟩

theorem law13_CommandLong_ref {w0 w : World} {I : HL} {R : SP} {a0 : Int} {a1 : Int}  (hst : St w0 w I [] R) {r : (Bool)} (hm : law13_CommandLong a0 a1 = some r) :
  Calls Try.prog 7 #[.int .u8 a0, .int .u8 a1] w fun e w' => ∃ (I' : HL), e = .returned (.bool r) ∧ I.le I' ∧ St w0 w' I' [] R := by
 unfold law13_CommandLong at hm
 refine calls_start (args := [.int .u8 a0, .int .u8 a1]) Try.func7 rfl Try.ntmps7 (Nat.le_of_ble_eq_true rfl) ?_
 have hI0 := HL.le.refl I
 refine wp_seq (wp_region_lit ?_)
 refine wv (.bool false) rfl rfl rfl ?_
 refine wl_nil (then_n (wp_seq (wp_seq (wp_region_lit ?_))))
 obtain ⟨t223, ht224, hm⟩ := bind_some hm
 refine wl_call rfl rfl (x_call Try.call8 rfl (vs := []) rfl) ?_
 refine (law13_awake_ref hst.to0 ht224).mono ?_
 rintro _ w225 ⟨rfl, hst⟩
 refine ⟨_, rfl, ?_⟩
 replace hst := hst.of0
 refine wv (.bool (!t223)) rfl rfl rfl ?_
 refine wl_nil (then_n ?_)
 refine bsplit (!t223) (fun hc228 => ?_) (fun hc228 => ?_)
 ·skip
  replace hm := bif_t hc228 hm
  refine wp_ift (congrArg Value.bool hc228) ?_
  refine wp_seq (wp_region_lit ?_)
  refine wv (.bool false) rfl rfl rfl ?_
  refine wl_nil (then_n (wp_ret (then_r ?_)))
  obtain rfl := some_inj hm
  refine post_ret (vs := [.bool false]) Try.results7 (rvs_cons (rv_tmp rfl) rvs_nil) ?_
  exact ⟨_, rfl, hI0, hst.keep0⟩
 ·skip
  replace hm := bif_f hc228 hm
  refine wp_iff (congrArg Value.bool hc228) ?_
  refine wp_skip (then_n (wp_seq (wp_region_lit ?_)))
  refine wv (.int .u8 a0) rfl rfl rfl ?_
  refine wv (.int .i64 (IntKind.i64.wrap a0)) rfl rfl (by kernel_rfl) ?_
  refine wv (.int .i64 (Int.tmod (IntKind.i64.wrap a0) (6:Int))) rfl rfl (x_rem (by decide) rfl rfl) ?_
  refine wv (.int .i64 (IntKind.i64.wrap ((30:Int) + (Int.tmod (IntKind.i64.wrap a0) (6:Int))))) rfl rfl rfl ?_
  refine wv (.int .i64 (IntKind.i64.wrap ((30:Int) + (Int.tmod (IntKind.i64.wrap a0) (6:Int))))) rfl rfl rfl ?_
  refine wl_nil (then_n (wp_seq (wp_region_lit ?_)))
  refine wv (.agg #[.int .u8 (3:Int), .int .u64 (0:Int), .int .u64 (0:Int), .int .u64 (0:Int), .int .u64 (0:Int), .int .i64 (0:Int), .int .u64 (0:Int), .int .u64 (0:Int), .int .u64 (0:Int), (.slice none 0 0), (.slice none 0 0), (.slice none 0 0), (.slice none 0 0), (.slice none 0 0), .int .i64 (0:Int), .int .u64 (0:Int), .int .u64 (0:Int), (.slice none 0 0), (.slice none 0 0), .int .u64 (0:Int), (.slice none 0 0), .int .u64 (0:Int), .int .i64 (0:Int), .int .i64 (0:Int), .float .f64 (0:Nat), .float .f64 (0:Nat), .int .u64 (0:Int), .int .i64 (0:Int), .bool false]) rfl rfl (by kernel_rfl) ?_
  obtain ⟨b245, w246, ew247, eb248, hst⟩ := hst.box [.int .u8 (0:Int), .int .u64 (0:Int), .int .u64 (0:Int), .int .u64 (0:Int), .int .u64 (0:Int), .int .i64 (0:Int), .int .u64 (0:Int), .int .u64 (0:Int), .int .u64 (0:Int), (.slice none 0 0), (.slice none 0 0), (.slice none 0 0), (.slice none 0 0), (.slice none 0 0), .int .i64 (0:Int), .int .u64 (0:Int), .int .u64 (0:Int), (.slice none 0 0), (.slice none 0 0), .int .u64 (0:Int), (.slice none 0 0), .int .u64 (0:Int), .int .i64 (0:Int), .int .i64 (0:Int), .float .f64 (0:Nat), .float .f64 (0:Nat), .int .u64 (0:Int), .int .i64 (0:Int), .bool false] 45
  refine wl_run (v := .pointer (some ⟨b245, 0, none⟩)) (w' := w246) rfl rfl (x_al (by kernel_rfl) ew247 eb248) ?_
  obtain ⟨w250, hr251, hst⟩ := hst.boxStore (P := Try.prog) (t := 45) (cs' := [.int .u8 (3:Int), .int .u64 (0:Int), .int .u64 (0:Int), .int .u64 (0:Int), .int .u64 (0:Int), .int .i64 (0:Int), .int .u64 (0:Int), .int .u64 (0:Int), .int .u64 (0:Int), (.slice none 0 0), (.slice none 0 0), (.slice none 0 0), (.slice none 0 0), (.slice none 0 0), .int .i64 (0:Int), .int .u64 (0:Int), .int .u64 (0:Int), (.slice none 0 0), (.slice none 0 0), .int .u64 (0:Int), (.slice none 0 0), .int .u64 (0:Int), .int .i64 (0:Int), .int .i64 (0:Int), .float .f64 (0:Nat), .float .f64 (0:Nat), .int .u64 (0:Int), .int .i64 (0:Int), .bool false]) 0 (.agg #[.int .u8 (3:Int), .int .u64 (0:Int), .int .u64 (0:Int), .int .u64 (0:Int), .int .u64 (0:Int), .int .i64 (0:Int), .int .u64 (0:Int), .int .u64 (0:Int), .int .u64 (0:Int), (.slice none 0 0), (.slice none 0 0), (.slice none 0 0), (.slice none 0 0), (.slice none 0 0), .int .i64 (0:Int), .int .u64 (0:Int), .int .u64 (0:Int), (.slice none 0 0), (.slice none 0 0), .int .u64 (0:Int), (.slice none 0 0), .int .u64 (0:Int), .int .i64 (0:Int), .int .i64 (0:Int), .float .f64 (0:Nat), .float .f64 (0:Nat), .int .u64 (0:Int), .int .i64 (0:Int), .bool false]) Try.sizeOf45 (Nat.le_of_ble_eq_true rfl) (ones_cons rfl (ones_cons rfl (ones_cons rfl (ones_cons rfl (ones_cons rfl (ones_cons rfl (ones_cons rfl (ones_cons rfl (ones_cons rfl (ones_cons rfl (ones_cons rfl (ones_cons rfl (ones_cons rfl (ones_cons rfl (ones_cons rfl (ones_cons rfl (ones_cons rfl (ones_cons rfl (ones_cons rfl (ones_cons rfl (ones_cons rfl (ones_cons rfl (ones_cons rfl (ones_cons rfl (ones_cons rfl (ones_cons rfl (ones_cons rfl (ones_cons rfl (ones_cons rfl ones_nil))))))))))))))))))))))))))))) (by kernel_rfl)
  refine wl_unit rfl rfl (x_unit hr251) ?_
  refine wl_nil (then_n ?_)
  obtain ⟨y333, hm, hx334⟩ := bind_some hm
  refine wp_cut (fun a w => ∃ (z330 : (List api_Write)) (v329 : Value) (σ331 : Nat → Value), (law13_CommandLong_j0 a1 a0) z330 = some r ∧ a = Fr 64 (upd (upd (upd σ331 1 (.int .u8 a1)) 5 (.int .i64 (IntKind.i64.wrap ((30:Int) + (Int.tmod (IntKind.i64.wrap a0) (6:Int)))))) 6 (.pointer (some ⟨b245, 0, none⟩))) ∧ St w0 w I [cells b245 [.int .u8 (3:Int), .int .u64 (0:Int), .int .u64 (0:Int), .int .u64 (0:Int), .int .u64 (0:Int), .int .i64 (0:Int), .int .u64 (0:Int), .int .u64 (0:Int), .int .u64 (0:Int), (.slice none 0 0), (.slice none 0 0), (.slice none 0 0), (.slice none 0 0), v329, .int .i64 (0:Int), .int .u64 (0:Int), .int .u64 (0:Int), (.slice none 0 0), (.slice none 0 0), .int .u64 (0:Int), (.slice none 0 0), .int .u64 (0:Int), .int .i64 (0:Int), .int .i64 (0:Int), .float .f64 (0:Nat), .float .f64 (0:Nat), .int .u64 (0:Int), .int .i64 (0:Int), .bool false], ownS ty_api_Write v329 z330] R) ?_ ?_
  ·skip
   refine wp_seq (wp_region_lit ?_)
   refine wv (.int .i64 (0:Int)) rfl rfl rfl ?_
   refine wl_nil (then_n (wp_block ?_))
   replace hst := hst.own_nil ty_api_Write
   obtain ⟨n306, hm⟩ := loopO_some hm
   refine wp_loop_n (fun n a w => ∃ (z301 : (List api_Write)) (z304 : Int) (v302 : Value) (σ305 : Nat → Value), loopN (law13_CommandLong_l1 a0) n (z301, z304) = some y333 ∧ a = Fr 64 (upd (upd (upd (upd σ305 1 (.int .u8 a1)) 5 (.int .i64 (IntKind.i64.wrap ((30:Int) + (Int.tmod (IntKind.i64.wrap a0) (6:Int)))))) 6 (.pointer (some ⟨b245, 0, none⟩))) 7 (.int .i64 z304)) ∧ St w0 w I [ownS ty_api_Write v302 z301, cells b245 [.int .u8 (3:Int), .int .u64 (0:Int), .int .u64 (0:Int), .int .u64 (0:Int), .int .u64 (0:Int), .int .i64 (0:Int), .int .u64 (0:Int), .int .u64 (0:Int), .int .u64 (0:Int), (.slice none 0 0), (.slice none 0 0), (.slice none 0 0), (.slice none 0 0), v302, .int .i64 (0:Int), .int .u64 (0:Int), .int .u64 (0:Int), (.slice none 0 0), (.slice none 0 0), .int .u64 (0:Int), (.slice none 0 0), .int .u64 (0:Int), .int .i64 (0:Int), .int .i64 (0:Int), .float .f64 (0:Nat), .float .f64 (0:Nat), .int .u64 (0:Int), .int .i64 (0:Int), .bool false]] R) n306 ⟨[], (0:Int), (.slice none 0 0), _, hm, ((fr_upd (t := 1) (v := .int .u8 a1) rfl).trans ((fr_upd (t := 5) (v := .int .i64 (IntKind.i64.wrap ((30:Int) + (Int.tmod (IntKind.i64.wrap a0) (6:Int))))) rfl).trans ((fr_upd (t := 6) (v := .pointer (some ⟨b245, 0, none⟩)) rfl).trans ((fr_upd (t := 7) (v := .int .i64 (0:Int)) rfl).trans rfl)))), hst⟩ ?_
   rintro n312 _ w307 ⟨z301, z304, v302, σ305, hm, rfl, hst⟩
   obtain ⟨n309, y310, rfl, hm, hx311⟩ := loopN_some hm
   dsimp only [law13_CommandLong_l1] at hm
   refine wp_seq (wp_seq (wp_region_lit ?_))
   refine wv (.int .i64 z304) rfl rfl rfl ?_
   refine wv (.int .i64 (IntKind.i64.wrap ((30:Int) + (Int.tmod (IntKind.i64.wrap a0) (6:Int))))) rfl rfl rfl ?_
   refine wv (.bool (decide (z304 < (IntKind.i64.wrap ((30:Int) + (Int.tmod (IntKind.i64.wrap a0) (6:Int))))))) rfl rfl rfl ?_
   refine wl_nil (then_n ?_)
   refine bsplit (decide (z304 < (IntKind.i64.wrap ((30:Int) + (Int.tmod (IntKind.i64.wrap a0) (6:Int)))))) (fun hc313 => ?_) (fun hc313 => ?_)
   ·skip
    replace hm := bif_t hc313 hm
    refine wp_ift (congrArg Value.bool hc313) ?_
    refine wp_skip (then_n (wp_seq (wp_block (wp_region_lit ?_))))
    refine wv (.pointer (some ⟨b245, 13, none⟩)) rfl rfl (x_field rfl Try.underlying45 rfl Try.sizeOf35 rfl) ?_
    refine wv (v302) rfl rfl (x_load rfl Try.isAgg35 (hst.bc1 rfl)) ?_
    refine wv (.int .i64 z304) rfl rfl rfl ?_
    refine wv (.float .f64 (fOfInt z304)) rfl rfl (by kernel_rfl) ?_
    refine wv (.agg #[.float .f64 (fOfInt z304), .bool false, (.slice none 0 0)]) rfl rfl (by kernel_rfl) ?_
    have f316 : Ro (tyInt .u8) I (.slice none 0 0) [] := ro_nil
    obtain ⟨b317, w318, ew319, eb320, hst⟩ := hst.lits (E := ty_api_Write) (xs := [({ At := (fOfInt z304), Del := false, Val := [] } : api_Write)]) [[.float .f64 (fOfInt z304), .bool false, (.slice none 0 0)]] 73 1 rfl (Reps.cons ⟨_, rfl, f316, one_of_sliceV (ro_sliceV f316)⟩ Reps.nil)
    refine wl_run (v := (.slice (some ⟨b317, 0, none⟩) 1 1)) (w' := w318) rfl rfl (x_als (by kernel_rfl) ew319 eb320) ?_
    obtain ⟨hg322, hm⟩ := gd_some hm
    replace hst := hst.pull1
    obtain ⟨v323, w324, hr325, hst⟩ := run_append elem_35 Try.underlying35 hst hst.src1 (room_of hg322 rfl) 35
    refine wl_run (v := v323) (w' := w324) rfl rfl (x_append rfl rfl hr325) ?_
    refine wv (.pointer (some ⟨b245, 13, none⟩)) rfl rfl (x_field rfl Try.underlying45 rfl Try.sizeOf35 rfl) ?_
    replace hst := hst.pull2
    obtain ⟨w326, hr327, hst⟩ := hst.boxStore1 (P := Try.prog) (t := 35) (cs' := [.int .u8 (3:Int), .int .u64 (0:Int), .int .u64 (0:Int), .int .u64 (0:Int), .int .u64 (0:Int), .int .i64 (0:Int), .int .u64 (0:Int), .int .u64 (0:Int), .int .u64 (0:Int), (.slice none 0 0), (.slice none 0 0), (.slice none 0 0), (.slice none 0 0), v323, .int .i64 (0:Int), .int .u64 (0:Int), .int .u64 (0:Int), (.slice none 0 0), (.slice none 0 0), .int .u64 (0:Int), (.slice none 0 0), .int .u64 (0:Int), .int .i64 (0:Int), .int .i64 (0:Int), .float .f64 (0:Nat), .float .f64 (0:Nat), .int .u64 (0:Int), .int .i64 (0:Int), .bool false]) 13 v323 (one_of_sliceV hst.sv1) Try.sizeOf35 rfl rfl
    refine wl_unit rfl rfl (x_unit hr327) ?_
    refine wl_nil (blk_n (then_n (wp_region_lit ?_)))
    refine wv (.int .i64 z304) rfl rfl rfl ?_
    refine wv (.int .i64 (IntKind.i64.wrap (z304 + (1:Int)))) rfl rfl rfl ?_
    refine wv (.int .i64 (IntKind.i64.wrap (z304 + (1:Int)))) rfl rfl rfl ?_
    refine wl_nil (then_n ?_)
    replace hst := hst.pull1
    replace hst := hst.keep2
    obtain rfl := some_inj hm
    exact ⟨_, Nat.lt_succ_self _, (z301 ++ ([({ At := (fOfInt z304), Del := false, Val := [] } : api_Write)])), (IntKind.i64.wrap (z304 + (1:Int))), v323, _, hx311, ((fr_upd (t := 1) (v := .int .u8 a1) rfl).trans ((fr_upd (t := 5) (v := .int .i64 (IntKind.i64.wrap ((30:Int) + (Int.tmod (IntKind.i64.wrap a0) (6:Int))))) rfl).trans ((fr_upd (t := 6) (v := .pointer (some ⟨b245, 0, none⟩)) rfl).trans ((fr_upd (t := 7) (v := .int .i64 (IntKind.i64.wrap (z304 + (1:Int)))) rfl).trans rfl)))), hst⟩
   ·skip
    replace hm := bif_f hc313 hm
    refine wp_iff (congrArg Value.bool hc313) ?_
    refine wp_exit (then_x (then_x ?_))
    replace hm := inr_up hm hx311
    refine blk_x (then_n ?_)
    replace hst := hst.pull1
    replace hst := hst.keep2
    obtain rfl := some_inj hm
    exact ⟨z301, v302, _, hx334, ((fr_upd (t := 1) (v := .int .u8 a1) rfl).trans ((fr_upd (t := 5) (v := .int .i64 (IntKind.i64.wrap ((30:Int) + (Int.tmod (IntKind.i64.wrap a0) (6:Int))))) rfl).trans ((fr_upd (t := 6) (v := .pointer (some ⟨b245, 0, none⟩)) rfl).trans rfl))), hst⟩
  ·skip
   clear hst
   rintro _ w335 ⟨z330, v329, σ331, hm, rfl, hst⟩
   dsimp only [law13_CommandLong_j0] at hm
   refine wp_seq (wp_region_lit ?_)
   refine wv (.int .i64 (IntKind.i64.wrap ((30:Int) + (Int.tmod (IntKind.i64.wrap a0) (6:Int))))) rfl rfl rfl ?_
   refine wv (.bool (decide ((IntKind.i64.wrap ((30:Int) + (Int.tmod (IntKind.i64.wrap a0) (6:Int)))) ≤ (32:Int)))) rfl rfl rfl ?_
   refine wv (.bool (decide ((IntKind.i64.wrap ((30:Int) + (Int.tmod (IntKind.i64.wrap a0) (6:Int)))) ≤ (32:Int)))) rfl rfl rfl ?_
   refine wl_nil (then_n ?_)
   obtain ⟨y361, hm, hx362⟩ := bind_some hm
   refine wp_cut (fun a w => ∃ (I358 : HL) (z356 : (List api_Write)) (z357 : Bool) (v355 : Value) (σ359 : Nat → Value), (law13_CommandLong_j2) (z356, z357) = some r ∧ a = Fr 64 (upd (upd σ359 6 (.pointer (some ⟨b245, 0, none⟩))) 8 (.bool z357)) ∧ I.le I358 ∧ St w0 w I358 [cells b245 [.int .u8 (3:Int), .int .u64 (0:Int), .int .u64 (0:Int), .int .u64 (0:Int), .int .u64 (0:Int), .int .i64 (0:Int), .int .u64 (0:Int), .int .u64 (0:Int), .int .u64 (0:Int), (.slice none 0 0), (.slice none 0 0), (.slice none 0 0), (.slice none 0 0), v355, .int .i64 (0:Int), .int .u64 (0:Int), .int .u64 (0:Int), (.slice none 0 0), (.slice none 0 0), .int .u64 (0:Int), (.slice none 0 0), .int .u64 (0:Int), .int .i64 (0:Int), .int .i64 (0:Int), .float .f64 (0:Nat), .float .f64 (0:Nat), .int .u64 (0:Int), .int .i64 (0:Int), .bool false], ownS ty_api_Write v355 z356] R) ?_ ?_
   ·skip
    have hL363 := HL.le.refl I
    refine wp_seq (wp_region_lit ?_)
    refine wv (.int .u8 a1) rfl rfl rfl ?_
    refine wv (.int .u8 (Int.tmod a1 (2:Int))) rfl rfl (x_rem (by decide) rfl rfl) ?_
    refine wv (.bool ((Int.tmod a1 (2:Int)) == (1:Int))) rfl rfl rfl ?_
    refine wl_nil (then_n ?_)
    refine bsplit ((Int.tmod a1 (2:Int)) == (1:Int)) (fun hc336 => ?_) (fun hc336 => ?_)
    ·skip
     replace hm := bif_t hc336 hm
     refine wp_ift (congrArg Value.bool hc336) ?_
     refine wp_seq (wp_region_lit ?_)
     refine wv (.int .i64 (IntKind.i64.wrap ((30:Int) + (Int.tmod (IntKind.i64.wrap a0) (6:Int))))) rfl rfl rfl ?_
     refine wv (.int .i64 (IntKind.i64.wrap ((226:Int) + (IntKind.i64.wrap ((30:Int) + (Int.tmod (IntKind.i64.wrap a0) (6:Int))))))) rfl rfl rfl ?_
     obtain ⟨hg337, hm⟩ := gd_some hm
     obtain ⟨v338, w339, hr340, hst⟩ := run_mk (k := .i64) (k' := .i64) (zm := (0:Int)) elem_22 hst hg337 (by decide) rfl
     refine wl_run (v := v338) (w' := w339) rfl rfl (x_make rfl rfl hr340) ?_
     refine wv (.agg #[.float .f64 (0:Nat), .bool false, v338]) rfl rfl (by obtain ⟨_, _, hv_, _⟩ := hst.sv0; rw [hv_]; kernel_rfl) ?_
     obtain ⟨I344, hI345, f346, hst⟩ := hst.own_fix
     replace hI0 := hI0.trans hI345
     replace hL363 := hL363.trans hI345
     obtain ⟨b347, w348, ew349, eb350, hst⟩ := hst.lits (E := ty_api_Write) (xs := [({ At := (0:Nat), Del := false, Val := (List.replicate (Int.toNat (IntKind.i64.wrap ((226:Int) + (IntKind.i64.wrap ((30:Int) + (Int.tmod (IntKind.i64.wrap a0) (6:Int))))))) (0:Int)) } : api_Write)]) [[.float .f64 (0:Nat), .bool false, v338]] 73 1 rfl (Reps.cons ⟨_, rfl, f346, one_of_sliceV (ro_sliceV f346)⟩ Reps.nil)
     refine wl_run (v := (.slice (some ⟨b347, 0, none⟩) 1 1)) (w' := w348) rfl rfl (x_als (by kernel_rfl) ew349 eb350) ?_
     refine wv (.pointer (some ⟨b245, 13, none⟩)) rfl rfl (x_field rfl Try.underlying45 rfl Try.sizeOf35 rfl) ?_
     replace hst := hst.pull1
     obtain ⟨w352, hr353, hst⟩ := hst.boxStore (P := Try.prog) (t := 35) (cs' := [.int .u8 (3:Int), .int .u64 (0:Int), .int .u64 (0:Int), .int .u64 (0:Int), .int .u64 (0:Int), .int .i64 (0:Int), .int .u64 (0:Int), .int .u64 (0:Int), .int .u64 (0:Int), (.slice none 0 0), (.slice none 0 0), (.slice none 0 0), (.slice none 0 0), (.slice (some ⟨b347, 0, none⟩) 1 1), .int .i64 (0:Int), .int .u64 (0:Int), .int .u64 (0:Int), (.slice none 0 0), (.slice none 0 0), .int .u64 (0:Int), (.slice none 0 0), .int .u64 (0:Int), .int .i64 (0:Int), .int .i64 (0:Int), .float .f64 (0:Nat), .float .f64 (0:Nat), .int .u64 (0:Int), .int .i64 (0:Int), .bool false]) 13 ((.slice (some ⟨b347, 0, none⟩) 1 1)) Try.sizeOf35 (Nat.le_of_ble_eq_true rfl) (ones_cons (one_of_sliceV hst.sv1) ones_nil) (by kernel_rfl)
     refine wl_unit rfl rfl (x_unit hr353) ?_
     refine wl_nil (then_n (wp_region_lit ?_))
     refine wv (.int .i64 (IntKind.i64.wrap ((30:Int) + (Int.tmod (IntKind.i64.wrap a0) (6:Int))))) rfl rfl rfl ?_
     refine wv (.int .i64 (IntKind.i64.wrap ((226:Int) + (IntKind.i64.wrap ((30:Int) + (Int.tmod (IntKind.i64.wrap a0) (6:Int))))))) rfl rfl rfl ?_
     refine wv (.bool (decide ((IntKind.i64.wrap ((226:Int) + (IntKind.i64.wrap ((30:Int) + (Int.tmod (IntKind.i64.wrap a0) (6:Int)))))) ≤ (256:Int)))) rfl rfl rfl ?_
     refine wv (.bool (decide ((IntKind.i64.wrap ((226:Int) + (IntKind.i64.wrap ((30:Int) + (Int.tmod (IntKind.i64.wrap a0) (6:Int)))))) ≤ (256:Int)))) rfl rfl rfl ?_
     refine wl_nil (then_n ?_)
     replace hst := hst.pull1
     replace hst := hst.pull1
     replace hst := hst.keep2
     obtain rfl := some_inj hm
     exact ⟨_, ([({ At := (0:Nat), Del := false, Val := (List.replicate (Int.toNat (IntKind.i64.wrap ((226:Int) + (IntKind.i64.wrap ((30:Int) + (Int.tmod (IntKind.i64.wrap a0) (6:Int))))))) (0:Int)) } : api_Write)]), (decide ((IntKind.i64.wrap ((226:Int) + (IntKind.i64.wrap ((30:Int) + (Int.tmod (IntKind.i64.wrap a0) (6:Int)))))) ≤ (256:Int))), (.slice (some ⟨b347, 0, none⟩) 1 1), _, hx362, ((fr_upd (t := 6) (v := .pointer (some ⟨b245, 0, none⟩)) rfl).trans ((fr_upd (t := 8) (v := .bool (decide ((IntKind.i64.wrap ((226:Int) + (IntKind.i64.wrap ((30:Int) + (Int.tmod (IntKind.i64.wrap a0) (6:Int)))))) ≤ (256:Int)))) rfl).trans rfl)), hL363, hst⟩
    ·skip
     replace hm := bif_f hc336 hm
     refine wp_iff (congrArg Value.bool hc336) ?_
     refine wp_skip (then_n ?_)
     replace hst := hst.pull1
     replace hst := hst.pull1
     replace hst := hst.keep2
     obtain rfl := some_inj hm
     exact ⟨_, z330, (decide ((IntKind.i64.wrap ((30:Int) + (Int.tmod (IntKind.i64.wrap a0) (6:Int)))) ≤ (32:Int))), v329, _, hx362, ((fr_upd (t := 6) (v := .pointer (some ⟨b245, 0, none⟩)) rfl).trans ((fr_upd (t := 8) (v := .bool (decide ((IntKind.i64.wrap ((30:Int) + (Int.tmod (IntKind.i64.wrap a0) (6:Int)))) ≤ (32:Int)))) rfl).trans rfl)), hL363, hst⟩
   ·skip
    clear hst
    rintro _ w364 ⟨I358, z356, z357, v355, σ359, hm, rfl, hL360, hst⟩
    dsimp only [law13_CommandLong_j2] at hm
    replace hI0 := hI0.trans hL360
    refine wp_seq (wp_region_lit ?_)
    refine wv (.agg #[.int .u8 (3:Int), .int .u64 (0:Int), .int .u64 (0:Int), .int .u64 (0:Int), .int .u64 (0:Int), .int .i64 (0:Int), .int .u64 (0:Int), .int .u64 (0:Int), .int .u64 (0:Int), (.slice none 0 0), (.slice none 0 0), (.slice none 0 0), (.slice none 0 0), v355, .int .i64 (0:Int), .int .u64 (0:Int), .int .u64 (0:Int), (.slice none 0 0), (.slice none 0 0), .int .u64 (0:Int), (.slice none 0 0), .int .u64 (0:Int), .int .i64 (0:Int), .int .i64 (0:Int), .float .f64 (0:Nat), .float .f64 (0:Nat), .int .u64 (0:Int), .int .i64 (0:Int), .bool false]) rfl rfl (x_loadN (cs := [.int .u8 (3:Int), .int .u64 (0:Int), .int .u64 (0:Int), .int .u64 (0:Int), .int .u64 (0:Int), .int .i64 (0:Int), .int .u64 (0:Int), .int .u64 (0:Int), .int .u64 (0:Int), (.slice none 0 0), (.slice none 0 0), (.slice none 0 0), (.slice none 0 0), v355, .int .i64 (0:Int), .int .u64 (0:Int), .int .u64 (0:Int), (.slice none 0 0), (.slice none 0 0), .int .u64 (0:Int), (.slice none 0 0), .int .u64 (0:Int), .int .i64 (0:Int), .int .i64 (0:Int), .float .f64 (0:Nat), .float .f64 (0:Nat), .int .u64 (0:Int), .int .i64 (0:Int), .bool false]) rfl Try.isAgg45 Try.sizeOf45 (hst.bcs0 0 rfl)) ?_
    have f365 : Ro tyF64 I358 (.slice none 0 0) [] := ro_nil
    have f366 : Ro tyF2 I358 (.slice none 0 0) [] := ro_nil
    have f367 : Ro tyF64 I358 (.slice none 0 0) [] := ro_nil
    have f368 : Ro (tyInt .u8) I358 (.slice none 0 0) [] := ro_nil
    have f369 : Ro ty_api_Got I358 (.slice none 0 0) [] := ro_nil
    have f370 : Ro (tySl ty_api_Pair) I358 (.slice none 0 0) [] := ro_nil
    have f371 : Ro ty_api_Part I358 (.slice none 0 0) [] := ro_nil
    replace hst := hst.pull1
    obtain ⟨css372, hq373, hst⟩ := hst.own_open
    obtain ⟨t374, ht375, hm⟩ := bind_some hm
    refine wl_call rfl rfl (x_call Try.call21 rfl (vs := [.agg #[.int .u8 (3:Int), .int .u64 (0:Int), .int .u64 (0:Int), .int .u64 (0:Int), .int .u64 (0:Int), .int .i64 (0:Int), .int .u64 (0:Int), .int .u64 (0:Int), .int .u64 (0:Int), (.slice none 0 0), (.slice none 0 0), (.slice none 0 0), (.slice none 0 0), v355, .int .i64 (0:Int), .int .u64 (0:Int), .int .u64 (0:Int), (.slice none 0 0), (.slice none 0 0), .int .u64 (0:Int), (.slice none 0 0), .int .u64 (0:Int), .int .i64 (0:Int), .int .i64 (0:Int), .float .f64 (0:Nat), .float .f64 (0:Nat), .int .u64 (0:Int), .int .i64 (0:Int), .bool false]]) rfl) ?_
    refine (ref13_Command_ref (f365.mono ro_rd) (f366.mono ro_rd) (f367.mono ro_rd) (f368.mono ro_rd) (hst.rdrow0 hq373) (f369.mono ro_rd) (f370.mono ro_rd) (f371.mono ro_rd) hst.to0 ht375).mono ?_
    rintro _ w376 ⟨v379, rfl, hst⟩
    refine ⟨_, rfl, ?_⟩
    replace hst := hst.of1
    replace hst := hst.pull1
    replace hst := hst.own_close hq373
    replace hst := hst.pull1
    obtain ⟨I381, hI382, f383, hst⟩ := hst.own_fix
    replace f365 := f365.mono (ro_le hI382)
    replace f366 := f366.mono (ro_le hI382)
    replace f367 := f367.mono (ro_le hI382)
    replace f368 := f368.mono (ro_le hI382)
    replace f369 := f369.mono (ro_le hI382)
    replace f370 := f370.mono (ro_le hI382)
    replace f371 := f371.mono (ro_le hI382)
    replace hI0 := hI0.trans hI382
    obtain ⟨t384, ht385, hm⟩ := bind_some hm
    refine wl_call rfl rfl (x_call Try.call20 rfl (vs := [v379]) rfl) ?_
    refine (command_Decode_ref f383 hst.to0 ht385).mono ?_
    rintro _ w386 ⟨I387, v389, v391, v393, v395, v397, v399, v401, v403, rfl, hI388, hst⟩
    refine ⟨_, rfl, ?_⟩
    replace hst := hst.of8
    replace f365 := f365.mono (ro_le hI388)
    replace f366 := f366.mono (ro_le hI388)
    replace f367 := f367.mono (ro_le hI388)
    replace f368 := f368.mono (ro_le hI388)
    replace f369 := f369.mono (ro_le hI388)
    replace f370 := f370.mono (ro_le hI388)
    replace f371 := f371.mono (ro_le hI388)
    replace f383 := f383.mono (ro_le hI388)
    replace hI0 := hI0.trans hI388
    refine wv (.tuple #[.agg #[.int .u8 t384.1.Kind, .int .u64 t384.1.ID.Session, .int .u64 t384.1.ID.Seq, .int .u64 t384.1.Epoch, .int .u64 t384.1.Index, .int .i64 t384.1.E, .int .u64 t384.1.Hold.ID.Session, .int .u64 t384.1.Hold.ID.Seq, .int .u64 t384.1.Hold.Epoch, v389, v391, v393, v395, v397, .int .i64 t384.1.R.E, .int .u64 t384.1.R.Epoch, .int .u64 t384.1.R.Index, v399, v401, .int .u64 t384.1.Shards, v403, .int .u64 t384.1.Rule.ID, .int .i64 t384.1.Rule.From, .int .i64 t384.1.Rule.To, .float .f64 t384.1.Rule.Lo, .float .f64 t384.1.Rule.Hi, .int .u64 t384.1.Rule.Authority, .int .i64 t384.1.Rule.Quota, .bool t384.1.On], .int .i64 t384.2]) rfl rfl rfl ?_
    refine wv (.agg #[.int .u8 t384.1.Kind, .int .u64 t384.1.ID.Session, .int .u64 t384.1.ID.Seq, .int .u64 t384.1.Epoch, .int .u64 t384.1.Index, .int .i64 t384.1.E, .int .u64 t384.1.Hold.ID.Session, .int .u64 t384.1.Hold.ID.Seq, .int .u64 t384.1.Hold.Epoch, v389, v391, v393, v395, v397, .int .i64 t384.1.R.E, .int .u64 t384.1.R.Epoch, .int .u64 t384.1.R.Index, v399, v401, .int .u64 t384.1.Shards, v403, .int .u64 t384.1.Rule.ID, .int .i64 t384.1.Rule.From, .int .i64 t384.1.Rule.To, .float .f64 t384.1.Rule.Lo, .float .f64 t384.1.Rule.Hi, .int .u64 t384.1.Rule.Authority, .int .i64 t384.1.Rule.Quota, .bool t384.1.On]) rfl rfl rfl ?_
    refine wv (.int .i64 t384.2) rfl rfl rfl ?_
    obtain ⟨b413, w414, ew415, eb416, hst⟩ := hst.box [.int .u8 (0:Int), .int .u64 (0:Int), .int .u64 (0:Int), .int .u64 (0:Int), .int .u64 (0:Int), .int .i64 (0:Int), .int .u64 (0:Int), .int .u64 (0:Int), .int .u64 (0:Int), (.slice none 0 0), (.slice none 0 0), (.slice none 0 0), (.slice none 0 0), (.slice none 0 0), .int .i64 (0:Int), .int .u64 (0:Int), .int .u64 (0:Int), (.slice none 0 0), (.slice none 0 0), .int .u64 (0:Int), (.slice none 0 0), .int .u64 (0:Int), .int .i64 (0:Int), .int .i64 (0:Int), .float .f64 (0:Nat), .float .f64 (0:Nat), .int .u64 (0:Int), .int .i64 (0:Int), .bool false] 45
    refine wl_run (v := .pointer (some ⟨b413, 0, none⟩)) (w' := w414) rfl rfl (x_al (by kernel_rfl) ew415 eb416) ?_
    obtain ⟨w418, hr419, hst⟩ := hst.boxStore (P := Try.prog) (t := 45) (cs' := [.int .u8 t384.1.Kind, .int .u64 t384.1.ID.Session, .int .u64 t384.1.ID.Seq, .int .u64 t384.1.Epoch, .int .u64 t384.1.Index, .int .i64 t384.1.E, .int .u64 t384.1.Hold.ID.Session, .int .u64 t384.1.Hold.ID.Seq, .int .u64 t384.1.Hold.Epoch, v389, v391, v393, v395, v397, .int .i64 t384.1.R.E, .int .u64 t384.1.R.Epoch, .int .u64 t384.1.R.Index, v399, v401, .int .u64 t384.1.Shards, v403, .int .u64 t384.1.Rule.ID, .int .i64 t384.1.Rule.From, .int .i64 t384.1.Rule.To, .float .f64 t384.1.Rule.Lo, .float .f64 t384.1.Rule.Hi, .int .u64 t384.1.Rule.Authority, .int .i64 t384.1.Rule.Quota, .bool t384.1.On]) 0 (.agg #[.int .u8 t384.1.Kind, .int .u64 t384.1.ID.Session, .int .u64 t384.1.ID.Seq, .int .u64 t384.1.Epoch, .int .u64 t384.1.Index, .int .i64 t384.1.E, .int .u64 t384.1.Hold.ID.Session, .int .u64 t384.1.Hold.ID.Seq, .int .u64 t384.1.Hold.Epoch, v389, v391, v393, v395, v397, .int .i64 t384.1.R.E, .int .u64 t384.1.R.Epoch, .int .u64 t384.1.R.Index, v399, v401, .int .u64 t384.1.Shards, v403, .int .u64 t384.1.Rule.ID, .int .i64 t384.1.Rule.From, .int .i64 t384.1.Rule.To, .float .f64 t384.1.Rule.Lo, .float .f64 t384.1.Rule.Hi, .int .u64 t384.1.Rule.Authority, .int .i64 t384.1.Rule.Quota, .bool t384.1.On]) Try.sizeOf45 (Nat.le_of_ble_eq_true rfl) (ones_cons rfl (ones_cons rfl (ones_cons rfl (ones_cons rfl (ones_cons rfl (ones_cons rfl (ones_cons rfl (ones_cons rfl (ones_cons rfl (ones_cons (one_of_sliceV hst.sv1) (ones_cons (one_of_sliceV hst.sv2) (ones_cons (one_of_sliceV hst.sv3) (ones_cons (one_of_sliceV hst.sv4) (ones_cons (one_of_sliceV hst.sv5) (ones_cons rfl (ones_cons rfl (ones_cons rfl (ones_cons (one_of_sliceV hst.sv6) (ones_cons (one_of_sliceV hst.sv7) (ones_cons rfl (ones_cons (one_of_sliceV hst.sv8) (ones_cons rfl (ones_cons rfl (ones_cons rfl (ones_cons rfl (ones_cons rfl (ones_cons rfl (ones_cons rfl (ones_cons rfl ones_nil))))))))))))))))))))))))))))) (by kernel_rfl)
    refine wl_unit rfl rfl (x_unit hr419) ?_
    refine wv (.int .i64 t384.2) rfl rfl rfl ?_
    refine wl_nil (then_n (wp_seq (wp_region_lit ?_)))
    refine wv (.int .i64 t384.2) rfl rfl rfl ?_
    refine wv (.bool (t384.2 == (0:Int))) rfl rfl rfl ?_
    refine wv (.bool z357) rfl rfl rfl ?_
    refine wv (.bool ((t384.2 == (0:Int)) == z357)) rfl rfl (by kernel_rfl) ?_
    refine wv (.bool ((t384.2 == (0:Int)) == z357)) rfl rfl rfl ?_
    refine bsplit ((t384.2 == (0:Int)) == z357) (fun hc420 => ?_) (fun hc420 => ?_)
    ·skip
     replace hm := bif_t hc420 hm
     refine wv (.bool z357) ((wanted_eq rfl rfl rfl (congrArg Value.bool hc420)).trans rfl) rfl rfl ?_
     refine wv (.bool (!z357)) ((wanted_eq rfl rfl rfl (congrArg Value.bool hc420)).trans rfl) rfl rfl ?_
     refine wv (.bool (!z357)) ((wanted_eq rfl rfl rfl (congrArg Value.bool hc420)).trans rfl) rfl rfl ?_
     refine bsplit (!z357) (fun hc421 => ?_) (fun hc421 => ?_)
     ·skip
      replace hm := bif_t hc421 hm
      refine wo hc421 rfl rfl rfl rfl rfl rfl ?_
      refine wo hc421 rfl rfl rfl rfl rfl rfl ?_
      refine wo hc421 rfl rfl rfl rfl rfl rfl ?_
      refine wv (.bool true) ((wanted_eq rfl rfl rfl (congrArg Value.bool hc420)).trans rfl) rfl (x_pick_t hc421 rfl rfl) ?_
      refine wv (.bool true) rfl rfl (x_pick_t hc420 rfl rfl) ?_
      refine wv (.bool true) rfl rfl rfl ?_
      refine wl_nil (then_n (wp_ret ?_))
      obtain rfl := some_inj hm
      refine post_ret (vs := [.bool true]) Try.results7 (rvs_cons (rv_tmp rfl) rvs_nil) ?_
      exact ⟨_, rfl, hI0, hst.keep0⟩
     ·skip
      replace hm := bif_f hc421 hm
      refine wv (.agg #[.int .u8 (3:Int), .int .u64 (0:Int), .int .u64 (0:Int), .int .u64 (0:Int), .int .u64 (0:Int), .int .i64 (0:Int), .int .u64 (0:Int), .int .u64 (0:Int), .int .u64 (0:Int), (.slice none 0 0), (.slice none 0 0), (.slice none 0 0), (.slice none 0 0), v355, .int .i64 (0:Int), .int .u64 (0:Int), .int .u64 (0:Int), (.slice none 0 0), (.slice none 0 0), .int .u64 (0:Int), (.slice none 0 0), .int .u64 (0:Int), .int .i64 (0:Int), .int .i64 (0:Int), .float .f64 (0:Nat), .float .f64 (0:Nat), .int .u64 (0:Int), .int .i64 (0:Int), .bool false]) ((wanted_eq rfl rfl rfl (congrArg Value.bool hc421)).trans rfl) rfl (x_loadN (cs := [.int .u8 (3:Int), .int .u64 (0:Int), .int .u64 (0:Int), .int .u64 (0:Int), .int .u64 (0:Int), .int .i64 (0:Int), .int .u64 (0:Int), .int .u64 (0:Int), .int .u64 (0:Int), (.slice none 0 0), (.slice none 0 0), (.slice none 0 0), (.slice none 0 0), v355, .int .i64 (0:Int), .int .u64 (0:Int), .int .u64 (0:Int), (.slice none 0 0), (.slice none 0 0), .int .u64 (0:Int), (.slice none 0 0), .int .u64 (0:Int), .int .i64 (0:Int), .int .i64 (0:Int), .float .f64 (0:Nat), .float .f64 (0:Nat), .int .u64 (0:Int), .int .i64 (0:Int), .bool false]) rfl Try.isAgg45 Try.sizeOf45 (hst.bcs10 0 rfl)) ?_
      refine wv (.agg #[.int .u8 t384.1.Kind, .int .u64 t384.1.ID.Session, .int .u64 t384.1.ID.Seq, .int .u64 t384.1.Epoch, .int .u64 t384.1.Index, .int .i64 t384.1.E, .int .u64 t384.1.Hold.ID.Session, .int .u64 t384.1.Hold.ID.Seq, .int .u64 t384.1.Hold.Epoch, v389, v391, v393, v395, v397, .int .i64 t384.1.R.E, .int .u64 t384.1.R.Epoch, .int .u64 t384.1.R.Index, v399, v401, .int .u64 t384.1.Shards, v403, .int .u64 t384.1.Rule.ID, .int .i64 t384.1.Rule.From, .int .i64 t384.1.Rule.To, .float .f64 t384.1.Rule.Lo, .float .f64 t384.1.Rule.Hi, .int .u64 t384.1.Rule.Authority, .int .i64 t384.1.Rule.Quota, .bool t384.1.On]) ((wanted_eq rfl rfl rfl (congrArg Value.bool hc421)).trans rfl) rfl (x_loadN (cs := [.int .u8 t384.1.Kind, .int .u64 t384.1.ID.Session, .int .u64 t384.1.ID.Seq, .int .u64 t384.1.Epoch, .int .u64 t384.1.Index, .int .i64 t384.1.E, .int .u64 t384.1.Hold.ID.Session, .int .u64 t384.1.Hold.ID.Seq, .int .u64 t384.1.Hold.Epoch, v389, v391, v393, v395, v397, .int .i64 t384.1.R.E, .int .u64 t384.1.R.Epoch, .int .u64 t384.1.R.Index, v399, v401, .int .u64 t384.1.Shards, v403, .int .u64 t384.1.Rule.ID, .int .i64 t384.1.Rule.From, .int .i64 t384.1.Rule.To, .float .f64 t384.1.Rule.Lo, .float .f64 t384.1.Rule.Hi, .int .u64 t384.1.Rule.Authority, .int .i64 t384.1.Rule.Quota, .bool t384.1.On]) rfl Try.isAgg45 Try.sizeOf45 (hst.bcs0 0 rfl)) ?_
      replace hst := hst.pull9
      obtain ⟨css422, hq423, hst⟩ := hst.own_open
      replace hst := hst.pull2
      obtain ⟨css424, hq425, hst⟩ := hst.own_open
      replace hst := hst.pull3
      obtain ⟨css426, hq427, hst⟩ := hst.own_open
      replace hst := hst.pull4
      obtain ⟨css428, hq429, hst⟩ := hst.own_open
      replace hst := hst.pull5
      obtain ⟨css430, hq431, hst⟩ := hst.own_open
      replace hst := hst.pull6
      obtain ⟨css432, hq433, hst⟩ := hst.own_open
      replace hst := hst.pull7
      obtain ⟨css434, hq435, hst⟩ := hst.own_open
      replace hst := hst.pull8
      obtain ⟨css436, hq437, hst⟩ := hst.own_open
      replace hst := hst.pull9
      obtain ⟨css438, hq439, hst⟩ := hst.own_open
      obtain ⟨t440, ht441, hm⟩ := bind_some hm
      refine wl_call ((wanted_eq rfl rfl rfl (congrArg Value.bool hc421)).trans rfl) rfl (x_call Try.call11 rfl (vs := [.agg #[.int .u8 (3:Int), .int .u64 (0:Int), .int .u64 (0:Int), .int .u64 (0:Int), .int .u64 (0:Int), .int .i64 (0:Int), .int .u64 (0:Int), .int .u64 (0:Int), .int .u64 (0:Int), (.slice none 0 0), (.slice none 0 0), (.slice none 0 0), (.slice none 0 0), v355, .int .i64 (0:Int), .int .u64 (0:Int), .int .u64 (0:Int), (.slice none 0 0), (.slice none 0 0), .int .u64 (0:Int), (.slice none 0 0), .int .u64 (0:Int), .int .i64 (0:Int), .int .i64 (0:Int), .float .f64 (0:Nat), .float .f64 (0:Nat), .int .u64 (0:Int), .int .i64 (0:Int), .bool false], .agg #[.int .u8 t384.1.Kind, .int .u64 t384.1.ID.Session, .int .u64 t384.1.ID.Seq, .int .u64 t384.1.Epoch, .int .u64 t384.1.Index, .int .i64 t384.1.E, .int .u64 t384.1.Hold.ID.Session, .int .u64 t384.1.Hold.ID.Seq, .int .u64 t384.1.Hold.Epoch, v389, v391, v393, v395, v397, .int .i64 t384.1.R.E, .int .u64 t384.1.R.Epoch, .int .u64 t384.1.R.Index, v399, v401, .int .u64 t384.1.Shards, v403, .int .u64 t384.1.Rule.ID, .int .i64 t384.1.Rule.From, .int .i64 t384.1.Rule.To, .float .f64 t384.1.Rule.Lo, .float .f64 t384.1.Rule.Hi, .int .u64 t384.1.Rule.Authority, .int .i64 t384.1.Rule.Quota, .bool t384.1.On]]) rfl) ?_
      refine (law13_same_ref (f365.mono ro_rd) (f366.mono ro_rd) (f367.mono ro_rd) (f368.mono ro_rd) (hst.rdrow8 hq423) (f369.mono ro_rd) (f370.mono ro_rd) (f371.mono ro_rd) (hst.rdrow7 hq425) (hst.rdrow6 hq427) (hst.rdrow5 hq429) (hst.rdrow4 hq431) (hst.rdrow3 hq433) (hst.rdrow2 hq435) (hst.rdrow1 hq437) (hst.rdrow0 hq439) hst.to0 ht441).mono ?_
      rintro _ w442 ⟨rfl, hst⟩
      refine ⟨_, rfl, ?_⟩
      replace hst := hst.of0
      replace hst := hst.pull8
      replace hst := hst.own_close hq423
      replace hst := hst.pull8
      replace hst := hst.own_close hq425
      replace hst := hst.pull8
      replace hst := hst.own_close hq427
      replace hst := hst.pull8
      replace hst := hst.own_close hq429
      replace hst := hst.pull8
      replace hst := hst.own_close hq431
      replace hst := hst.pull8
      replace hst := hst.own_close hq433
      replace hst := hst.pull8
      replace hst := hst.own_close hq435
      replace hst := hst.pull8
      replace hst := hst.own_close hq437
      replace hst := hst.pull8
      replace hst := hst.own_close hq439
      refine wv (.bool t440) ((wanted_eq rfl rfl rfl (congrArg Value.bool hc420)).trans rfl) rfl (x_pick_f hc421 rfl rfl) ?_
      refine wv (.bool t440) rfl rfl (x_pick_t hc420 rfl rfl) ?_
      refine wv (.bool t440) rfl rfl rfl ?_
      refine wl_nil (then_n (wp_ret ?_))
      obtain rfl := some_inj hm
      refine post_ret (vs := [.bool t440]) Try.results7 (rvs_cons (rv_tmp rfl) rvs_nil) ?_
      exact ⟨_, rfl, hI0, hst.keep0⟩
    ·skip
     replace hm := bif_f hc420 hm
     refine wo hc420 rfl rfl rfl rfl rfl rfl ?_
     refine wo hc420 rfl rfl rfl rfl rfl rfl ?_
     refine wo hc420 rfl rfl rfl rfl rfl rfl ?_
     refine wl_off (wanted_undef rfl rfl rfl rfl) rfl ?_
     refine wl_off (wanted_undef rfl rfl rfl rfl) rfl ?_
     refine wl_off (wanted_undef rfl rfl rfl rfl) rfl ?_
     refine wo hc420 rfl rfl rfl rfl rfl rfl ?_
     refine wv (.bool false) rfl rfl (x_pick_f hc420 rfl rfl) ?_
     refine wv (.bool false) rfl rfl rfl ?_
     refine wl_nil (then_n (wp_ret ?_))
     obtain rfl := some_inj hm
     refine post_ret (vs := [.bool false]) Try.results7 (rvs_cons (rv_tmp rfl) rvs_nil) ?_
     exact ⟨_, rfl, hI0, hst.keep0⟩

end Go.Proofs.Ytijcfglomdfglaa
