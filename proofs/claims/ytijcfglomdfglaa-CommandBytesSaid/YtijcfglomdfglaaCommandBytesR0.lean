/- The Go functions refine their models, part 0. -/
import Derived.Test.YtijcfglomdfglaaCommandBytesT
set_option linter.unusedVariables false
set_option linter.unusedSimpArgs false
set_option maxRecDepth 100000
set_option maxHeartbeats 4000000
namespace Go.Proofs.Ytijcfglomdfglaa
open Go Go.V
attribute [local irreducible] wpList Code.wp wpQuiet Calls bodyPost Oper.wp wpS Nx PendOK YieldsIn
theorem octet_Writer_lay_ref {w0 w : World} {I : HL} {R : SP} {a0 : octet_Writer} {p0 : Value} {a1 : (List Int)} {r1_0 : Value} (f1_0 : Rd (tyInt .u8) R I r1_0 a1) (hst : St w0 w I [at_octet_Writer p0 a0] R) {r : (octet_Writer)} (hm : octet_Writer_lay a0 a1 = some r) :
  Calls Try.prog 61 #[p0, r1_0] w fun e w' => e = .returned (p0) ∧ St w0 w' I [at_octet_Writer p0 r] R := by
 unfold octet_Writer_lay at hm
 refine calls_start (args := [p0, r1_0]) Try.func61 rfl Try.ntmps61 (Nat.le_of_ble_eq_true rfl) ?_
 refine wp_seq (wp_region_lit ?_)
 refine wv (.pointer none) rfl rfl rfl ?_
 refine wl_nil (then_n (wp_seq (wp_region_lit ?_)))
 refine wv (p0) rfl rfl rfl ?_
 refine wv (p0) rfl rfl rfl ?_
 obtain ⟨b59, v60, rfl, hst'⟩ := at_octet_Writer_open hst
 clear hst
 have hst := hst'
 clear hst'
 refine wv (.pointer (some ⟨b59, 0, none⟩)) rfl rfl rfl ?_
 refine wv (.pointer (some ⟨b59, 0, none⟩)) rfl rfl (x_field rfl Try.underlying58 rfl Try.sizeOf22 rfl) ?_
 refine wv (v60) rfl rfl (x_load rfl Try.isAgg22 (hst.bc0 rfl)) ?_
 refine wv (r1_0) rfl rfl rfl ?_
 obtain ⟨hg62, hm⟩ := gd_some hm
 replace hst := hst.pull1
 obtain ⟨v63, w64, hr65, hst⟩ := run_append elem_22 Try.underlying22 hst (Src.of_rd hst f1_0 flat_int) (room_of hg62 rfl) 22
 refine wl_run (v := v63) (w' := w64) rfl rfl (x_append rfl rfl hr65) ?_
 refine wv (.pointer (some ⟨b59, 0, none⟩)) rfl rfl rfl ?_
 refine wv (.pointer (some ⟨b59, 0, none⟩)) rfl rfl (x_field rfl Try.underlying58 rfl Try.sizeOf22 rfl) ?_
 replace hst := hst.pull1
 obtain ⟨w66, hr67, hst⟩ := hst.boxStore1 (P := Try.prog) (t := 22) (cs' := [v63]) 0 v63 (one_of_sliceV hst.sv1) Try.sizeOf22 rfl rfl
 refine wl_unit rfl rfl (x_unit hr67) ?_
 refine wl_nil (then_n (wp_seq (wp_region_lit ?_)))
 refine wv (.pointer (some ⟨b59, 0, none⟩)) rfl rfl rfl ?_
 refine wv (.pointer (some ⟨b59, 0, none⟩)) rfl rfl rfl ?_
 refine wl_nil (then_n (wp_ret ?_))
 replace hst := hst.pull1
 replace hst := hst.pull1
 replace hst := at_octet_Writer_close (pv := .pointer (some ⟨b59, 0, none⟩)) (x := ({ p := (a0.p ++ a1) } : octet_Writer)) hst rfl
 obtain rfl := some_inj hm
 refine post_ret (vs := [.pointer (some ⟨b59, 0, none⟩)]) Try.results61 (rvs_cons (rv_tmp rfl) rvs_nil) ?_
 exact ⟨rfl, hst.keep1⟩

theorem octet_Writer_Num_ref {w0 w : World} {I : HL} {R : SP} {a0 : octet_Writer} {p0 : Value} {a1 : Int} {a2 : Int}  (hst : St w0 w I [at_octet_Writer p0 a0] R) {r : (octet_Writer)} (hm : octet_Writer_Num a0 a1 a2 = some r) :
  Calls Try.prog 27 #[p0, .int .u64 a1, .int .i64 a2] w fun e w' => e = .returned (p0) ∧ St w0 w' I [at_octet_Writer p0 r] R := by
 unfold octet_Writer_Num at hm
 refine calls_start (args := [p0, .int .u64 a1, .int .i64 a2]) Try.func27 rfl Try.ntmps27 (Nat.le_of_ble_eq_true rfl) ?_
 refine wp_seq (wp_region_lit ?_)
 refine wv (.pointer none) rfl rfl rfl ?_
 refine wl_nil (then_n (wp_seq (wp_seq (wp_region_lit ?_))))
 refine wv (.int .i64 a2) rfl rfl rfl ?_
 refine wv (.int .i64 (0:Int)) rfl rfl rfl ?_
 refine wl_nil (then_n (wp_block ?_))
 obtain ⟨n127, hm⟩ := loopO_some hm
 refine wp_loop_n (fun n a w => ∃ (z124 : octet_Writer) (z125 : Int) (σ126 : Nat → Value), loopN (octet_Writer_Num_l0 a2 a1) n (z124, z125) = some r ∧ a = Fr 22 (upd (upd (upd (upd σ126 0 (p0)) 1 (.int .u64 a1)) 8 (.int .i64 a2)) 9 (.int .i64 z125)) ∧ St w0 w I [at_octet_Writer p0 z124] R) n127 ⟨a0, (0:Int), _, hm, ((fr_upd (t := 0) (v := p0) rfl).trans ((fr_upd (t := 1) (v := .int .u64 a1) rfl).trans ((fr_upd (t := 8) (v := .int .i64 a2) rfl).trans ((fr_upd (t := 9) (v := .int .i64 (0:Int)) rfl).trans rfl)))), hst⟩ ?_
 rintro n133 _ w128 ⟨z124, z125, σ126, hm, rfl, hst⟩
 obtain ⟨n130, y131, rfl, hm, hx132⟩ := loopN_some hm
 dsimp only [octet_Writer_Num_l0] at hm
 refine wp_seq (wp_region_lit ?_)
 refine wv (.bool (decide (z125 < a2))) rfl rfl rfl ?_
 refine wl_nil (then_n (wp_seq ?_))
 refine bsplit (decide (z125 < a2)) (fun hc134 => ?_) (fun hc134 => ?_)
 ·skip
  replace hm := bif_t hc134 hm
  refine wp_ift (congrArg Value.bool hc134) ?_
  refine wp_skip (then_n (wp_seq (wp_block (wp_seq (wp_region_lit ?_)))))
  refine wv (.int .i64 z125) rfl rfl rfl ?_
  refine wv (.int .i64 z125) rfl rfl rfl ?_
  refine wl_nil (then_n (wp_region_lit ?_))
  refine wv (p0) rfl rfl rfl ?_
  refine wv (.int .u64 a1) rfl rfl rfl ?_
  refine wv (.int .i64 z125) rfl rfl rfl ?_
  refine wv (.int .i64 (IntKind.i64.wrap ((8:Int) * z125))) rfl rfl rfl ?_
  obtain ⟨hg135, hm⟩ := gd_some hm
  refine wv (.int .u64 (iShr .u64 a1 (IntKind.i64.wrap ((8:Int) * z125)))) rfl rfl (x_shr (of_decide_eq_true hg135) rfl rfl) ?_
  refine wv (.int .u8 (IntKind.u8.wrap (iShr .u64 a1 (IntKind.i64.wrap ((8:Int) * z125))))) rfl rfl (by kernel_rfl) ?_
  obtain ⟨b136, w137, ew138, eb139, hst⟩ := hst.lits (E := (tyInt .u8)) (xs := [(IntKind.u8.wrap (iShr .u64 a1 (IntKind.i64.wrap ((8:Int) * z125))))]) [[.int .u8 (IntKind.u8.wrap (iShr .u64 a1 (IntKind.i64.wrap ((8:Int) * z125))))]] 5 1 rfl (Reps.cons rfl Reps.nil)
  refine wl_run (v := (.slice (some ⟨b136, 0, none⟩) 1 1)) (w' := w137) rfl rfl (x_als (by kernel_rfl) ew138 eb139) ?_
  obtain ⟨css141, hq142, hst⟩ := hst.own_open
  replace hst := hst.pull1
  obtain ⟨t143, ht144, hm⟩ := bind_some hm
  refine wl_call rfl rfl (x_call Try.call61 rfl (vs := [p0, (.slice (some ⟨b136, 0, none⟩) 1 1)]) rfl) ?_
  refine (octet_Writer_lay_ref (hst.sub.rdrow0 hq142) hst.to1 ht144).mono ?_
  rintro _ w145 ⟨rfl, hst⟩
  refine ⟨_, rfl, ?_⟩
  replace hst := hst.of1
  replace hst := hst.pull1
  replace hst := hst.own_close hq142
  refine wl_nil (blk_n (then_n (wp_region_lit ?_)))
  refine wv (.int .i64 (IntKind.i64.wrap (z125 + (1:Int)))) rfl rfl rfl ?_
  refine wv (.int .i64 (IntKind.i64.wrap (z125 + (1:Int)))) rfl rfl rfl ?_
  refine wl_nil (then_n ?_)
  replace hst := hst.pull1
  replace hst := hst.keep1
  obtain rfl := some_inj hm
  exact ⟨_, Nat.lt_succ_self _, t143, (IntKind.i64.wrap (z125 + (1:Int))), _, hx132, ((fr_upd (t := 0) (v := p0) rfl).trans ((fr_upd (t := 1) (v := .int .u64 a1) rfl).trans ((fr_upd (t := 8) (v := .int .i64 a2) rfl).trans ((fr_upd (t := 9) (v := .int .i64 (IntKind.i64.wrap (z125 + (1:Int)))) rfl).trans rfl)))), hst⟩
 ·skip
  replace hm := bif_f hc134 hm
  refine wp_iff (congrArg Value.bool hc134) ?_
  refine wp_exit (then_x (then_x ?_))
  replace hm := inr_up hm hx132
  refine blk_x (then_n (wp_seq (wp_region_lit ?_)))
  refine wv (p0) rfl rfl rfl ?_
  refine wv (p0) rfl rfl rfl ?_
  refine wl_nil (then_n (wp_ret ?_))
  obtain rfl := some_inj hm
  refine post_ret (vs := [p0]) Try.results27 (rvs_cons (rv_tmp rfl) rvs_nil) ?_
  exact ⟨rfl, hst.keep1⟩

theorem octet_Writer_Done_ref {w0 w : World} {I : HL} {R : SP} {a0 : octet_Writer} {p0 : Value}  (hst : St w0 w I [at_octet_Writer p0 a0] R) {r : ((List Int))} (hm : octet_Writer_Done a0 = some r) :
  Calls Try.prog 14 #[p0] w fun e w' => ∃ (q0_0 : Value), e = .returned (q0_0) ∧ St w0 w' I [ownS (tyInt .u8) q0_0 r] R := by
 unfold octet_Writer_Done at hm
 refine calls_start (args := [p0]) Try.func14 rfl Try.ntmps14 (Nat.le_of_ble_eq_true rfl) ?_
 refine wp_seq (wp_region_lit ?_)
 refine wv ((.slice none 0 0)) rfl rfl rfl ?_
 refine wl_nil (then_n (wp_seq (wp_region_lit ?_)))
 refine wv (p0) rfl rfl rfl ?_
 obtain ⟨b56, v57, rfl, hst'⟩ := at_octet_Writer_open hst
 clear hst
 have hst := hst'
 clear hst'
 refine wv (.pointer (some ⟨b56, 0, none⟩)) rfl rfl rfl ?_
 refine wv (.pointer (some ⟨b56, 0, none⟩)) rfl rfl (x_field rfl Try.underlying58 rfl Try.sizeOf22 rfl) ?_
 refine wv (v57) rfl rfl (x_load rfl Try.isAgg22 (hst.bc0 rfl)) ?_
 refine wv (v57) rfl rfl rfl ?_
 refine wl_nil (then_n (wp_ret ?_))
 obtain rfl := some_inj hm
 refine post_ret (vs := [v57]) Try.results14 (rvs_cons (rv_tmp rfl) rvs_nil) ?_
 replace hst := hst.pull1
 exact ⟨v57, rfl, hst.keep1⟩

theorem math_IsNaN_ref {w0 w : World} {I : HL} {R : SP} {a0 : Nat}  (hst : St w0 w I [] R) {r : (Bool)} (hm : math_IsNaN a0 = some r) :
  Calls Try.prog 64 #[.float .f64 a0] w fun e w' => e = .returned (.bool r) ∧ St w0 w' I [] R := by
 unfold math_IsNaN at hm
 refine calls_start (args := [.float .f64 a0]) Try.func64 rfl Try.ntmps64 (Nat.le_of_ble_eq_true rfl) ?_
 refine wp_seq (wp_region_lit ?_)
 refine wv (.bool false) rfl rfl rfl ?_
 refine wl_nil (then_n (wp_seq (wp_region_lit ?_)))
 refine wv (.float .f64 a0) rfl rfl rfl ?_
 refine wv (.float .f64 a0) rfl rfl rfl ?_
 refine wv (.bool (fNe a0 a0)) rfl rfl rfl ?_
 refine wv (.bool (fNe a0 a0)) rfl rfl rfl ?_
 refine wl_nil (then_n (wp_ret ?_))
 obtain rfl := some_inj hm
 refine post_ret (vs := [.bool (fNe a0 a0)]) Try.results64 (rvs_cons (rv_tmp rfl) rvs_nil) ?_
 exact ⟨rfl, hst.keep0⟩

theorem number_Rank_ref {w0 w : World} {I : HL} {R : SP} {a0 : Nat}  (hst : St w0 w I [] R) {r : (Int)} (hm : number_Rank a0 = some r) :
  Calls Try.prog 39 #[.float .f64 a0] w fun e w' => e = .returned (.int .u64 r) ∧ St w0 w' I [] R := by
 unfold number_Rank at hm
 refine calls_start (args := [.float .f64 a0]) Try.func39 rfl Try.ntmps39 (Nat.le_of_ble_eq_true rfl) ?_
 refine wp_seq (wp_region_lit ?_)
 refine wv (.int .u64 (0:Int)) rfl rfl rfl ?_
 refine wl_nil (then_n (wp_seq (wp_seq (wp_region_lit ?_))))
 refine wv (.float .f64 a0) rfl rfl rfl ?_
 obtain ⟨t100, ht101, hm⟩ := bind_some hm
 refine wl_call rfl rfl (x_call Try.call64 rfl (vs := [.float .f64 a0]) rfl) ?_
 refine (math_IsNaN_ref hst.to0 ht101).mono ?_
 rintro _ w102 ⟨rfl, hst⟩
 refine ⟨_, rfl, ?_⟩
 replace hst := hst.of0
 refine wl_nil (then_n ?_)
 refine bsplit t100 (fun hc105 => ?_) (fun hc105 => ?_)
 ·skip
  replace hm := bif_t hc105 hm
  refine wp_ift (congrArg Value.bool hc105) ?_
  refine wp_seq (wp_region_lit ?_)
  refine wv (.int .u64 (18446744073709551615:Int)) rfl rfl rfl ?_
  refine wl_nil (then_n (wp_ret (then_r ?_)))
  obtain rfl := some_inj hm
  refine post_ret (vs := [.int .u64 (18446744073709551615:Int)]) Try.results39 (rvs_cons (rv_tmp rfl) rvs_nil) ?_
  exact ⟨rfl, hst.keep0⟩
 ·skip
  replace hm := bif_f hc105 hm
  refine wp_iff (congrArg Value.bool hc105) ?_
  refine wp_skip (then_n (wp_seq (wp_region_lit ?_)))
  refine wv (.float .f64 a0) rfl rfl rfl ?_
  refine wv (.int .u64 (Int.ofNat a0)) rfl rfl (by kernel_rfl) ?_
  refine wv (.int .u64 (Int.ofNat a0)) rfl rfl rfl ?_
  refine wl_nil (then_n (wp_seq (wp_seq (wp_region_lit ?_))))
  refine wv (.int .u64 (Int.ofNat a0)) rfl rfl rfl ?_
  refine wv (.int .u64 (iShr .u64 (Int.ofNat a0) (63:Int))) rfl rfl (x_shr (by decide) rfl rfl) ?_
  refine wv (.bool ((iShr .u64 (Int.ofNat a0) (63:Int)) == (1:Int))) rfl rfl rfl ?_
  refine wl_nil (then_n ?_)
  refine bsplit ((iShr .u64 (Int.ofNat a0) (63:Int)) == (1:Int)) (fun hc106 => ?_) (fun hc106 => ?_)
  ·skip
   replace hm := bif_t hc106 hm
   refine wp_ift (congrArg Value.bool hc106) ?_
   refine wp_seq (wp_region_lit ?_)
   refine wv (.int .u64 (Int.ofNat a0)) rfl rfl rfl ?_
   refine wv (.int .u64 (bXor .u64 ((18446744073709551615):Int) (Int.ofNat a0))) rfl rfl (by kernel_rfl) ?_
   refine wv (.int .u64 (bXor .u64 ((18446744073709551615):Int) (Int.ofNat a0))) rfl rfl rfl ?_
   refine wl_nil (then_n (wp_ret (then_r ?_)))
   obtain rfl := some_inj hm
   refine post_ret (vs := [.int .u64 (bXor .u64 ((18446744073709551615):Int) (Int.ofNat a0))]) Try.results39 (rvs_cons (rv_tmp rfl) rvs_nil) ?_
   exact ⟨rfl, hst.keep0⟩
  ·skip
   replace hm := bif_f hc106 hm
   refine wp_iff (congrArg Value.bool hc106) ?_
   refine wp_skip (then_n (wp_seq (wp_region_lit ?_)))
   refine wv (.int .u64 (Int.ofNat a0)) rfl rfl rfl ?_
   refine wv (.int .u64 (bOr .u64 (Int.ofNat a0) (9223372036854775808:Int))) rfl rfl rfl ?_
   refine wv (.int .u64 (bOr .u64 (Int.ofNat a0) (9223372036854775808:Int))) rfl rfl rfl ?_
   refine wl_nil (then_n (wp_ret ?_))
   obtain rfl := some_inj hm
   refine post_ret (vs := [.int .u64 (bOr .u64 (Int.ofNat a0) (9223372036854775808:Int))]) Try.results39 (rvs_cons (rv_tmp rfl) rvs_nil) ?_
   exact ⟨rfl, hst.keep0⟩

theorem octet_Writer_Bytes_ref {w0 w : World} {I : HL} {R : SP} {a0 : octet_Writer} {p0 : Value} {a1 : (List Int)} {r1_0 : Value} (f1_0 : Rd (tyInt .u8) R I r1_0 a1) (hst : St w0 w I [at_octet_Writer p0 a0] R) {r : (octet_Writer)} (hm : octet_Writer_Bytes a0 a1 = some r) :
  Calls Try.prog 38 #[p0, r1_0] w fun e w' => e = .returned (p0) ∧ St w0 w' I [at_octet_Writer p0 r] R := by
 unfold octet_Writer_Bytes at hm
 refine calls_start (args := [p0, r1_0]) Try.func38 rfl Try.ntmps38 (Nat.le_of_ble_eq_true rfl) ?_
 refine wp_seq (wp_region_lit ?_)
 refine wv (.pointer none) rfl rfl rfl ?_
 refine wl_nil (then_n (wp_seq (wp_region_lit ?_)))
 refine wv (p0) rfl rfl rfl ?_
 refine wv (r1_0) rfl rfl rfl ?_
 refine wv (.int .i64 ((a1).length : Int)) rfl rfl (x_len rfl Try.underlying22 (rd_sliceV f1_0)) ?_
 refine wv (.int .u64 (IntKind.u64.wrap ((a1).length : Int))) rfl rfl (by kernel_rfl) ?_
 obtain ⟨t360, ht361, hm⟩ := bind_some hm
 refine wl_call rfl rfl (x_call Try.call27 rfl (vs := [p0, .int .u64 (IntKind.u64.wrap ((a1).length : Int)), .int .i64 (4:Int)]) rfl) ?_
 refine (octet_Writer_Num_ref hst.to1 ht361).mono ?_
 rintro _ w362 ⟨rfl, hst⟩
 refine ⟨_, rfl, ?_⟩
 replace hst := hst.of1
 refine wv (r1_0) rfl rfl rfl ?_
 obtain ⟨t365, ht366, hm⟩ := bind_some hm
 refine wl_call rfl rfl (x_call Try.call61 rfl (vs := [p0, r1_0]) rfl) ?_
 refine (octet_Writer_lay_ref (f1_0.mono (rd_weak _)) hst.to1 ht366).mono ?_
 rintro _ w367 ⟨rfl, hst⟩
 refine ⟨_, rfl, ?_⟩
 replace hst := hst.of1
 refine wv (p0) rfl rfl rfl ?_
 refine wl_nil (then_n (wp_ret ?_))
 obtain rfl := some_inj hm
 refine post_ret (vs := [p0]) Try.results38 (rvs_cons (rv_tmp rfl) rvs_nil) ?_
 exact ⟨rfl, hst.keep1⟩

theorem locks_Lay_ref {w0 w : World} {I : HL} {R : SP} {a0 : octet_Writer} {p0 : Value} {a1 : api_Hold} {r1_0 : Value} {r1_1 : Value} {r1_2 : Value} {r1_3 : Value} (f1_0 : Rd tyF64 R I r1_0 a1.Gets) (f1_1 : Rd tyF2 R I r1_1 a1.Scans) (f1_2 : Rd tyF64 R I r1_2 a1.Puts) (f1_3 : Rd (tyInt .u8) R I r1_3 a1.Data) (hst : St w0 w I [at_octet_Writer p0 a0] R) {r : (octet_Writer)} (hm : locks_Lay a0 a1 = some r) :
  Calls Try.prog 29 #[p0, .agg #[.int .u64 a1.ID.Session, .int .u64 a1.ID.Seq, .int .u64 a1.Epoch, r1_0, r1_1, r1_2, r1_3]] w fun e w' => e = .returned (.tuple #[]) ∧ St w0 w' I [at_octet_Writer p0 r] R := by
 unfold locks_Lay at hm
 refine calls_start (args := [p0, .agg #[.int .u64 a1.ID.Session, .int .u64 a1.ID.Seq, .int .u64 a1.Epoch, r1_0, r1_1, r1_2, r1_3]]) Try.func29 rfl Try.ntmps29 (Nat.le_of_ble_eq_true rfl) ?_
 refine wp_seq (wp_region_lit ?_)
 obtain ⟨b356, w357, ew358, eb359, hst⟩ := hst.box [.int .u64 a1.ID.Session, .int .u64 a1.ID.Seq, .int .u64 a1.Epoch, r1_0, r1_1, r1_2, r1_3] 34
 refine wl_run (v := .pointer (some ⟨b356, 0, none⟩)) (w' := w357) rfl rfl (x_al (by kernel_rfl) ew358 eb359) ?_
 refine wl_nil (then_n (wp_seq ?_))
 refine wp_region_St hst 17 [0, 1, 2, 3, 4, 5, 6, 7, 8, 9, 10, 11, 12, 13, 14, 15, 16] [0, 0, 2, 6, 15, 0, 32, 96, 255, 0, 512, 2047, 0, 4096, 12288, 28672, 65535] [] rfl (by kernel_rfl) (by kernel_rfl) Try.mixed (by kernel_rfl) ?_
 refine wsr (p0) 0 rfl rfl rfl (by kernel_rfl) (fun w hst => rfl) ?_
 refine wsr (.pointer (some ⟨b356, 0, none⟩)) 1 rfl rfl rfl (by kernel_rfl) (fun w hst => x_field rfl Try.underlying34 rfl Try.sizeOf29 rfl) ?_
 refine wsr (.pointer (some ⟨b356, 0, none⟩)) 2 rfl rfl rfl (by kernel_rfl) (fun w hst => x_field rfl Try.underlying29 rfl Try.sizeOf27 rfl) ?_
 refine wsr (.int .u64 a1.ID.Session) 3 rfl rfl rfl (by kernel_rfl) (fun w hst => x_load rfl Try.isAgg27 (hst.bc0 rfl)) ?_
 refine wsr (.pointer (some ⟨b356, 0, none⟩)) 5 rfl rfl rfl (by kernel_rfl) (fun w hst => x_field rfl Try.underlying34 rfl Try.sizeOf29 rfl) ?_
 refine wsr (.pointer (some ⟨b356, 1, none⟩)) 6 rfl rfl rfl (by kernel_rfl) (fun w hst => x_field rfl Try.underlying29 rfl Try.sizeOf27 rfl) ?_
 refine wsr (.int .u64 a1.ID.Seq) 7 rfl rfl rfl (by kernel_rfl) (fun w hst => x_load rfl Try.isAgg27 (hst.bc0 rfl)) ?_
 refine wsr (.pointer (some ⟨b356, 2, none⟩)) 9 rfl rfl rfl (by kernel_rfl) (fun w hst => x_field rfl Try.underlying34 rfl Try.sizeOf27 rfl) ?_
 refine wsr (.int .u64 a1.Epoch) 10 rfl rfl rfl (by kernel_rfl) (fun w hst => x_load rfl Try.isAgg27 (hst.bc0 rfl)) ?_
 refine wsr (.pointer (some ⟨b356, 3, none⟩)) 12 rfl rfl rfl (by kernel_rfl) (fun w hst => x_field rfl Try.underlying34 rfl Try.sizeOf31 rfl) ?_
 refine wsr (r1_0) 13 rfl rfl rfl (by kernel_rfl) (fun w hst => x_load rfl Try.isAgg31 (hst.bc0 rfl)) ?_
 refine wsr (.int .i64 ((a1.Gets).length : Int)) 14 rfl rfl rfl (by kernel_rfl) (fun w hst => x_len rfl Try.underlying31 (rd_sliceV f1_0)) ?_
 refine wsr (.int .u64 (IntKind.u64.wrap ((a1.Gets).length : Int))) 15 rfl rfl rfl (by kernel_rfl) (fun w hst => by kernel_rfl) ?_
 refine ws_e1 4 (by kernel_rfl) ?_
 refine nxe [8, 11, 16] (by kernel_rfl) rfl rfl ?_
 clear hst
 intro w hst
 replace hst := hst.pull1
 obtain ⟨t361, ht362, hm⟩ := bind_some hm
 refine we_call rfl (x_call Try.call27 rfl (vs := [p0, .int .u64 a1.ID.Session, .int .i64 (8:Int)]) rfl) ?_
 refine (octet_Writer_Num_ref hst.to1 ht362).mono ?_
 rintro _ w363 ⟨rfl, hst⟩
 refine ⟨_, rfl, ?_⟩
 replace hst := hst.of1
 refine ws_next (pend' := [(15, .int .u64 (IntKind.u64.wrap ((a1.Gets).length : Int))), (14, .int .i64 ((a1.Gets).length : Int)), (13, r1_0), (12, .pointer (some ⟨b356, 3, none⟩)), (10, .int .u64 a1.Epoch), (9, .pointer (some ⟨b356, 2, none⟩)), (7, .int .u64 a1.ID.Seq), (6, .pointer (some ⟨b356, 1, none⟩)), (5, .pointer (some ⟨b356, 0, none⟩))]) hst (by kernel_rfl) (pkr rfl rfl (fun w hst => by kernel_rfl) (pkr rfl rfl (fun w hst => x_len rfl Try.underlying31 (rd_sliceV f1_0)) (pkr rfl rfl (fun w hst => x_load rfl Try.isAgg31 (hst.bc1 rfl)) (pkr rfl rfl (fun w hst => x_field rfl Try.underlying34 rfl Try.sizeOf31 rfl) (pkr rfl rfl (fun w hst => x_load rfl Try.isAgg27 (hst.bc1 rfl)) (pkr rfl rfl (fun w hst => x_field rfl Try.underlying34 rfl Try.sizeOf27 rfl) (pkr rfl rfl (fun w hst => x_load rfl Try.isAgg27 (hst.bc1 rfl)) (pkr rfl rfl (fun w hst => x_field rfl Try.underlying29 rfl Try.sizeOf27 rfl) (pkr rfl rfl (fun w hst => x_field rfl Try.underlying34 rfl Try.sizeOf29 rfl) pk_nil))))))))) ?_
 refine ws_e1 8 (by kernel_rfl) ?_
 refine nxe [11, 16] (by kernel_rfl) rfl rfl ?_
 clear hst
 intro w hst
 obtain ⟨t366, ht367, hm⟩ := bind_some hm
 refine we_call rfl (x_call Try.call27 rfl (vs := [p0, .int .u64 a1.ID.Seq, .int .i64 (8:Int)]) rfl) ?_
 refine (octet_Writer_Num_ref hst.to1 ht367).mono ?_
 rintro _ w368 ⟨rfl, hst⟩
 refine ⟨_, rfl, ?_⟩
 replace hst := hst.of1
 refine ws_next (pend' := [(15, .int .u64 (IntKind.u64.wrap ((a1.Gets).length : Int))), (14, .int .i64 ((a1.Gets).length : Int)), (13, r1_0), (12, .pointer (some ⟨b356, 3, none⟩)), (10, .int .u64 a1.Epoch), (9, .pointer (some ⟨b356, 2, none⟩))]) hst (by kernel_rfl) (pkr rfl rfl (fun w hst => by kernel_rfl) (pkr rfl rfl (fun w hst => x_len rfl Try.underlying31 (rd_sliceV f1_0)) (pkr rfl rfl (fun w hst => x_load rfl Try.isAgg31 (hst.bc1 rfl)) (pkr rfl rfl (fun w hst => x_field rfl Try.underlying34 rfl Try.sizeOf31 rfl) (pkr rfl rfl (fun w hst => x_load rfl Try.isAgg27 (hst.bc1 rfl)) (pkr rfl rfl (fun w hst => x_field rfl Try.underlying34 rfl Try.sizeOf27 rfl) pk_nil)))))) ?_
 refine ws_e1 11 (by kernel_rfl) ?_
 refine nxe [16] (by kernel_rfl) rfl rfl ?_
 clear hst
 intro w hst
 obtain ⟨t371, ht372, hm⟩ := bind_some hm
 refine we_call rfl (x_call Try.call27 rfl (vs := [p0, .int .u64 a1.Epoch, .int .i64 (8:Int)]) rfl) ?_
 refine (octet_Writer_Num_ref hst.to1 ht372).mono ?_
 rintro _ w373 ⟨rfl, hst⟩
 refine ⟨_, rfl, ?_⟩
 replace hst := hst.of1
 refine ws_next (pend' := [(15, .int .u64 (IntKind.u64.wrap ((a1.Gets).length : Int))), (14, .int .i64 ((a1.Gets).length : Int)), (13, r1_0), (12, .pointer (some ⟨b356, 3, none⟩))]) hst (by kernel_rfl) (pkr rfl rfl (fun w hst => by kernel_rfl) (pkr rfl rfl (fun w hst => x_len rfl Try.underlying31 (rd_sliceV f1_0)) (pkr rfl rfl (fun w hst => x_load rfl Try.isAgg31 (hst.bc1 rfl)) (pkr rfl rfl (fun w hst => x_field rfl Try.underlying34 rfl Try.sizeOf31 rfl) pk_nil)))) ?_
 refine ws_e1 16 (by kernel_rfl) ?_
 refine nxe [] (by kernel_rfl) rfl rfl ?_
 clear hst
 intro w hst
 obtain ⟨t376, ht377, hm⟩ := bind_some hm
 refine we_call rfl (x_call Try.call27 rfl (vs := [p0, .int .u64 (IntKind.u64.wrap ((a1.Gets).length : Int)), .int .i64 (4:Int)]) rfl) ?_
 refine (octet_Writer_Num_ref hst.to1 ht377).mono ?_
 rintro _ w378 ⟨rfl, hst⟩
 refine ⟨_, rfl, ?_⟩
 replace hst := hst.of1
 refine ws_next (pend' := []) hst (by kernel_rfl) pk_nil ?_
 refine ws_nil ?_
 intro w hst
 refine then_n ?_
 obtain ⟨y444, hm, hx445⟩ := bind_some hm
 refine wp_cut (fun a w => ∃ (z441 : octet_Writer) (σ442 : Nat → Value), (locks_Lay_j0 a1) z441 = some r ∧ a = Fr 84 (upd (upd σ442 0 (p0)) 3 (.pointer (some ⟨b356, 0, none⟩))) ∧ St w0 w I [at_octet_Writer p0 z441, cells b356 [.int .u64 a1.ID.Session, .int .u64 a1.ID.Seq, .int .u64 a1.Epoch, r1_0, r1_1, r1_2, r1_3]] R) ?_ ?_
 ·skip
  refine wp_seq (wp_region_lit ?_)
  refine wv (.pointer (some ⟨b356, 3, none⟩)) rfl rfl (x_field rfl Try.underlying34 rfl Try.sizeOf31 rfl) ?_
  refine wv (r1_0) rfl rfl (x_load rfl Try.isAgg31 (hst.bc1 rfl)) ?_
  refine wv (.int .i64 ((a1.Gets).length : Int)) rfl rfl (x_len rfl Try.underlying31 (rd_sliceV f1_0)) ?_
  refine wv (.int .i64 (0:Int)) rfl rfl rfl ?_
  refine wl_nil (then_n (wp_block ?_))
  obtain ⟨n418, hm⟩ := loopO_some hm
  refine wp_loop_n (fun n a w => ∃ (z415 : octet_Writer) (z416 : Int) (σ417 : Nat → Value), loopN (locks_Lay_l1 a1) n (z415, z416) = some y444 ∧ a = Fr 84 (upd (upd (upd (upd (upd σ417 0 (p0)) 3 (.pointer (some ⟨b356, 0, none⟩))) 28 (r1_0)) 29 (.int .i64 ((a1.Gets).length : Int))) 30 (.int .i64 z416)) ∧ St w0 w I [at_octet_Writer p0 z415, cells b356 [.int .u64 a1.ID.Session, .int .u64 a1.ID.Seq, .int .u64 a1.Epoch, r1_0, r1_1, r1_2, r1_3]] R) n418 ⟨t376, (0:Int), _, hm, ((fr_upd (t := 0) (v := p0) rfl).trans ((fr_upd (t := 3) (v := .pointer (some ⟨b356, 0, none⟩)) rfl).trans ((fr_upd (t := 28) (v := r1_0) rfl).trans ((fr_upd (t := 29) (v := .int .i64 ((a1.Gets).length : Int)) rfl).trans ((fr_upd (t := 30) (v := .int .i64 (0:Int)) rfl).trans rfl))))), hst⟩ ?_
  rintro n424 _ w419 ⟨z415, z416, σ417, hm, rfl, hst⟩
  obtain ⟨n421, y422, rfl, hm, hx423⟩ := loopN_some hm
  dsimp only [locks_Lay_l1] at hm
  refine wp_seq (wp_region_lit ?_)
  refine wv (.bool (decide (z416 < ((a1.Gets).length : Int)))) rfl rfl rfl ?_
  refine wl_nil (then_n (wp_seq ?_))
  refine bsplit (decide (z416 < ((a1.Gets).length : Int))) (fun hc425 => ?_) (fun hc425 => ?_)
  ·skip
   replace hm := bif_t hc425 hm
   refine wp_ift (congrArg Value.bool hc425) ?_
   refine wp_skip (then_n (wp_seq (wp_block (wp_seq (wp_region_lit ?_)))))
   obtain ⟨x426, hx427, hm⟩ := bind_some hm
   obtain ⟨h428, h429, hi430⟩ := geto_some hx427
   refine wv (.pointer (some (eAddr r1_0 (z416.toNat * 1 + 0)))) rfl rfl (x_index rfl rfl Try.underlying31 Try.sizeOf41 (rd_sliceV f1_0) h428 h429) ?_
   refine wv (.float .f64 x426) rfl rfl (x_load rfl Try.isAgg41 (rd_load f1_0 (HL.le.refl _) hst hi430 (by rintro _ rfl; rfl))) ?_
   refine wv (.float .f64 x426) rfl rfl rfl ?_
   refine wl_nil (then_n (wp_region_lit ?_))
   refine wv (p0) rfl rfl rfl ?_
   refine wv (.float .f64 x426) rfl rfl rfl ?_
   obtain ⟨t431, ht432, hm⟩ := bind_some hm
   refine wl_call rfl rfl (x_call Try.call39 rfl (vs := [.float .f64 x426]) rfl) ?_
   refine (number_Rank_ref hst.to0 ht432).mono ?_
   rintro _ w433 ⟨rfl, hst⟩
   refine ⟨_, rfl, ?_⟩
   replace hst := hst.of0
   obtain ⟨t436, ht437, hm⟩ := bind_some hm
   refine wl_call rfl rfl (x_call Try.call27 rfl (vs := [p0, .int .u64 t431, .int .i64 (8:Int)]) rfl) ?_
   refine (octet_Writer_Num_ref hst.to1 ht437).mono ?_
   rintro _ w438 ⟨rfl, hst⟩
   refine ⟨_, rfl, ?_⟩
   replace hst := hst.of1
   refine wl_nil (blk_n (then_n (wp_region_lit ?_)))
   refine wv (.int .i64 (IntKind.i64.wrap (z416 + (1:Int)))) rfl rfl rfl ?_
   refine wv (.int .i64 (IntKind.i64.wrap (z416 + (1:Int)))) rfl rfl rfl ?_
   refine wl_nil (then_n ?_)
   replace hst := hst.pull1
   replace hst := hst.pull1
   replace hst := hst.keep2
   obtain rfl := some_inj hm
   exact ⟨_, Nat.lt_succ_self _, t436, (IntKind.i64.wrap (z416 + (1:Int))), _, hx423, ((fr_upd (t := 0) (v := p0) rfl).trans ((fr_upd (t := 3) (v := .pointer (some ⟨b356, 0, none⟩)) rfl).trans ((fr_upd (t := 28) (v := r1_0) rfl).trans ((fr_upd (t := 29) (v := .int .i64 ((a1.Gets).length : Int)) rfl).trans ((fr_upd (t := 30) (v := .int .i64 (IntKind.i64.wrap (z416 + (1:Int)))) rfl).trans rfl))))), hst⟩
  ·skip
   replace hm := bif_f hc425 hm
   refine wp_iff (congrArg Value.bool hc425) ?_
   refine wp_exit (then_x (then_x ?_))
   replace hm := inr_up hm hx423
   refine blk_x (then_n ?_)
   replace hst := hst.pull1
   replace hst := hst.pull1
   replace hst := hst.keep2
   obtain rfl := some_inj hm
   exact ⟨z415, _, hx445, ((fr_upd (t := 0) (v := p0) rfl).trans ((fr_upd (t := 3) (v := .pointer (some ⟨b356, 0, none⟩)) rfl).trans rfl)), hst⟩
 ·skip
  clear hst
  rintro _ w446 ⟨z441, σ442, hm, rfl, hst⟩
  dsimp only [locks_Lay_j0] at hm
  refine wp_seq (wp_region_lit ?_)
  refine wv (p0) rfl rfl rfl ?_
  refine wv (.pointer (some ⟨b356, 4, none⟩)) rfl rfl (x_field rfl Try.underlying34 rfl Try.sizeOf32 rfl) ?_
  refine wv (r1_1) rfl rfl (x_load rfl Try.isAgg32 (hst.bc1 rfl)) ?_
  refine wv (.int .i64 ((a1.Scans).length : Int)) rfl rfl (x_len rfl Try.underlying32 (rd_sliceV f1_1)) ?_
  refine wv (.int .u64 (IntKind.u64.wrap ((a1.Scans).length : Int))) rfl rfl (by kernel_rfl) ?_
  obtain ⟨t447, ht448, hm⟩ := bind_some hm
  refine wl_call rfl rfl (x_call Try.call27 rfl (vs := [p0, .int .u64 (IntKind.u64.wrap ((a1.Scans).length : Int)), .int .i64 (4:Int)]) rfl) ?_
  refine (octet_Writer_Num_ref hst.to1 ht448).mono ?_
  rintro _ w449 ⟨rfl, hst⟩
  refine ⟨_, rfl, ?_⟩
  replace hst := hst.of1
  refine wl_nil (then_n ?_)
  obtain ⟨y566, hm, hx567⟩ := bind_some hm
  refine wp_cut (fun a w => ∃ (z563 : octet_Writer) (σ564 : Nat → Value), (locks_Lay_j2 a1) z563 = some r ∧ a = Fr 84 (upd (upd σ564 0 (p0)) 3 (.pointer (some ⟨b356, 0, none⟩))) ∧ St w0 w I [at_octet_Writer p0 z563, cells b356 [.int .u64 a1.ID.Session, .int .u64 a1.ID.Seq, .int .u64 a1.Epoch, r1_0, r1_1, r1_2, r1_3]] R) ?_ ?_
  ·skip
   refine wp_seq (wp_region_lit ?_)
   refine wv (.pointer (some ⟨b356, 4, none⟩)) rfl rfl (x_field rfl Try.underlying34 rfl Try.sizeOf32 rfl) ?_
   refine wv (r1_1) rfl rfl (x_load rfl Try.isAgg32 (hst.bc1 rfl)) ?_
   refine wv (.int .i64 ((a1.Scans).length : Int)) rfl rfl (x_len rfl Try.underlying32 (rd_sliceV f1_1)) ?_
   refine wv (.int .i64 (0:Int)) rfl rfl rfl ?_
   refine wl_nil (then_n (wp_block ?_))
   obtain ⟨n523, hm⟩ := loopO_some hm
   refine wp_loop_n (fun n a w => ∃ (z520 : octet_Writer) (z521 : Int) (σ522 : Nat → Value), loopN (locks_Lay_l3 a1) n (z520, z521) = some y566 ∧ a = Fr 84 (upd (upd (upd (upd (upd σ522 0 (p0)) 3 (.pointer (some ⟨b356, 0, none⟩))) 46 (r1_1)) 47 (.int .i64 ((a1.Scans).length : Int))) 48 (.int .i64 z521)) ∧ St w0 w I [at_octet_Writer p0 z520, cells b356 [.int .u64 a1.ID.Session, .int .u64 a1.ID.Seq, .int .u64 a1.Epoch, r1_0, r1_1, r1_2, r1_3]] R) n523 ⟨t447, (0:Int), _, hm, ((fr_upd (t := 0) (v := p0) rfl).trans ((fr_upd (t := 3) (v := .pointer (some ⟨b356, 0, none⟩)) rfl).trans ((fr_upd (t := 46) (v := r1_1) rfl).trans ((fr_upd (t := 47) (v := .int .i64 ((a1.Scans).length : Int)) rfl).trans ((fr_upd (t := 48) (v := .int .i64 (0:Int)) rfl).trans rfl))))), hst⟩ ?_
   rintro n529 _ w524 ⟨z520, z521, σ522, hm, rfl, hst⟩
   obtain ⟨n526, y527, rfl, hm, hx528⟩ := loopN_some hm
   dsimp only [locks_Lay_l3] at hm
   refine wp_seq (wp_region_lit ?_)
   refine wv (.bool (decide (z521 < ((a1.Scans).length : Int)))) rfl rfl rfl ?_
   refine wl_nil (then_n (wp_seq ?_))
   refine bsplit (decide (z521 < ((a1.Scans).length : Int))) (fun hc530 => ?_) (fun hc530 => ?_)
   ·skip
    replace hm := bif_t hc530 hm
    refine wp_ift (congrArg Value.bool hc530) ?_
    refine wp_skip (then_n (wp_seq (wp_block (wp_seq (wp_region_lit ?_)))))
    obtain ⟨x531, hx532, hm⟩ := bind_some hm
    obtain ⟨h533, h534, hi535⟩ := geto_some hx532
    refine wv (.pointer (some (eAddr r1_1 (z521.toNat * 2 + 0)))) rfl rfl (x_index rfl rfl Try.underlying32 Try.sizeOf111 (rd_sliceV f1_1) h533 h534) ?_
    refine wv (.agg #[.float .f64 x531.1, .float .f64 x531.2]) rfl rfl (x_loadN (cs := [.float .f64 x531.1, .float .f64 x531.2]) rfl Try.isAgg111 Try.sizeOf111 (rd_loadN f1_1 (HL.le.refl _) hst hi535 0 (by rintro _ rfl; rfl))) ?_
    obtain ⟨b536, w537, ew538, eb539, hst⟩ := hst.box [.float .f64 (0:Nat), .float .f64 (0:Nat)] 111
    refine wl_run (v := .pointer (some ⟨b536, 0, none⟩)) (w' := w537) rfl rfl (x_al (by kernel_rfl) ew538 eb539) ?_
    obtain ⟨w541, hr542, hst⟩ := hst.boxStore (P := Try.prog) (t := 111) (cs' := [.float .f64 x531.1, .float .f64 x531.2]) 0 (.agg #[.float .f64 x531.1, .float .f64 x531.2]) Try.sizeOf111 (Nat.le_of_ble_eq_true rfl) (ones_cons rfl (ones_cons rfl ones_nil)) (by kernel_rfl)
    refine wl_unit rfl rfl (x_unit hr542) ?_
    refine wl_nil (then_n ?_)
    refine wp_region_St hst 9 [0, 1, 2, 3, 4, 5, 6, 7, 8] [0, 0, 2, 6, 15, 0, 32, 127, 255] [] rfl (by kernel_rfl) (by kernel_rfl) Try.mixed (by kernel_rfl) ?_
    refine wsr (p0) 0 rfl rfl rfl (by kernel_rfl) (fun w hst => rfl) ?_
    refine wsr (.pointer (some ⟨b536, 0, none⟩)) 1 rfl rfl rfl (by kernel_rfl) (fun w hst => x_index_arr (i := (0:Int)) rfl rfl Try.underlying111 Try.sizeOf41 (by decide) (by decide)) ?_
    refine wsr (.float .f64 x531.1) 2 rfl rfl rfl (by kernel_rfl) (fun w hst => x_load rfl Try.isAgg41 (hst.bc0 rfl)) ?_
    refine wsr (.pointer (some ⟨b536, 1, none⟩)) 5 rfl rfl rfl (by kernel_rfl) (fun w hst => x_index_arr (i := (1:Int)) rfl rfl Try.underlying111 Try.sizeOf41 (by decide) (by decide)) ?_
    refine wsr (.float .f64 x531.2) 6 rfl rfl rfl (by kernel_rfl) (fun w hst => x_load rfl Try.isAgg41 (hst.bc0 rfl)) ?_
    refine ws_e1 3 (by kernel_rfl) ?_
    refine nxe [4, 7, 8] (by kernel_rfl) rfl rfl ?_
    clear hst
    intro w hst
    obtain ⟨t543, ht544, hm⟩ := bind_some hm
    refine we_call rfl (x_call Try.call39 rfl (vs := [.float .f64 x531.1]) rfl) ?_
    refine (number_Rank_ref hst.to0 ht544).mono ?_
    rintro _ w545 ⟨rfl, hst⟩
    refine ⟨_, rfl, ?_⟩
    replace hst := hst.of0
    refine ws_next (pend' := [(6, .float .f64 x531.2), (5, .pointer (some ⟨b536, 1, none⟩)), (0, p0)]) hst (by kernel_rfl) (pkr rfl rfl (fun w hst => x_load rfl Try.isAgg41 (hst.bc0 rfl)) (pkr rfl rfl (fun w hst => x_index_arr (i := (1:Int)) rfl rfl Try.underlying111 Try.sizeOf41 (by decide) (by decide)) (pkr rfl rfl (fun w hst => rfl) pk_nil))) ?_
    refine ws_e1 4 (by kernel_rfl) ?_
    refine nxe [7, 8] (by kernel_rfl) rfl rfl ?_
    clear hst
    intro w hst
    replace hst := hst.pull1
    obtain ⟨t548, ht549, hm⟩ := bind_some hm
    refine we_call rfl (x_call Try.call27 rfl (vs := [p0, .int .u64 t543, .int .i64 (8:Int)]) rfl) ?_
    refine (octet_Writer_Num_ref hst.to1 ht549).mono ?_
    rintro _ w550 ⟨rfl, hst⟩
    refine ⟨_, rfl, ?_⟩
    replace hst := hst.of1
    refine ws_next (pend' := [(6, .float .f64 x531.2), (5, .pointer (some ⟨b536, 1, none⟩))]) hst (by kernel_rfl) (pkr rfl rfl (fun w hst => x_load rfl Try.isAgg41 (hst.bc1 rfl)) (pkr rfl rfl (fun w hst => x_index_arr (i := (1:Int)) rfl rfl Try.underlying111 Try.sizeOf41 (by decide) (by decide)) pk_nil)) ?_
    refine ws_e1 7 (by kernel_rfl) ?_
    refine nxe [8] (by kernel_rfl) rfl rfl ?_
    clear hst
    intro w hst
    obtain ⟨t553, ht554, hm⟩ := bind_some hm
    refine we_call rfl (x_call Try.call39 rfl (vs := [.float .f64 x531.2]) rfl) ?_
    refine (number_Rank_ref hst.to0 ht554).mono ?_
    rintro _ w555 ⟨rfl, hst⟩
    refine ⟨_, rfl, ?_⟩
    replace hst := hst.of0
    refine ws_next (pend' := []) hst (by kernel_rfl) pk_nil ?_
    refine ws_e1 8 (by kernel_rfl) ?_
    refine nxe [] (by kernel_rfl) rfl rfl ?_
    clear hst
    intro w hst
    obtain ⟨t558, ht559, hm⟩ := bind_some hm
    refine we_call rfl (x_call Try.call27 rfl (vs := [p0, .int .u64 t553, .int .i64 (8:Int)]) rfl) ?_
    refine (octet_Writer_Num_ref hst.to1 ht559).mono ?_
    rintro _ w560 ⟨rfl, hst⟩
    refine ⟨_, rfl, ?_⟩
    replace hst := hst.of1
    refine ws_next (pend' := []) hst (by kernel_rfl) pk_nil ?_
    refine ws_nil ?_
    intro w hst
    refine blk_n (then_n (wp_region_lit ?_))
    refine wv (.int .i64 (IntKind.i64.wrap (z521 + (1:Int)))) rfl rfl rfl ?_
    refine wv (.int .i64 (IntKind.i64.wrap (z521 + (1:Int)))) rfl rfl rfl ?_
    refine wl_nil (then_n ?_)
    replace hst := hst.pull2
    replace hst := hst.pull1
    replace hst := hst.keep2
    obtain rfl := some_inj hm
    exact ⟨_, Nat.lt_succ_self _, t558, (IntKind.i64.wrap (z521 + (1:Int))), _, hx528, ((fr_upd (t := 0) (v := p0) rfl).trans ((fr_upd (t := 3) (v := .pointer (some ⟨b356, 0, none⟩)) rfl).trans ((fr_upd (t := 46) (v := r1_1) rfl).trans ((fr_upd (t := 47) (v := .int .i64 ((a1.Scans).length : Int)) rfl).trans ((fr_upd (t := 48) (v := .int .i64 (IntKind.i64.wrap (z521 + (1:Int)))) rfl).trans rfl))))), hst⟩
   ·skip
    replace hm := bif_f hc530 hm
    refine wp_iff (congrArg Value.bool hc530) ?_
    refine wp_exit (then_x (then_x ?_))
    replace hm := inr_up hm hx528
    refine blk_x (then_n ?_)
    replace hst := hst.pull1
    replace hst := hst.pull1
    replace hst := hst.keep2
    obtain rfl := some_inj hm
    exact ⟨z520, _, hx567, ((fr_upd (t := 0) (v := p0) rfl).trans ((fr_upd (t := 3) (v := .pointer (some ⟨b356, 0, none⟩)) rfl).trans rfl)), hst⟩
  ·skip
   clear hst
   rintro _ w568 ⟨z563, σ564, hm, rfl, hst⟩
   dsimp only [locks_Lay_j2] at hm
   refine wp_seq (wp_region_lit ?_)
   refine wv (p0) rfl rfl rfl ?_
   refine wv (.pointer (some ⟨b356, 5, none⟩)) rfl rfl (x_field rfl Try.underlying34 rfl Try.sizeOf31 rfl) ?_
   refine wv (r1_2) rfl rfl (x_load rfl Try.isAgg31 (hst.bc1 rfl)) ?_
   refine wv (.int .i64 ((a1.Puts).length : Int)) rfl rfl (x_len rfl Try.underlying31 (rd_sliceV f1_2)) ?_
   refine wv (.int .u64 (IntKind.u64.wrap ((a1.Puts).length : Int))) rfl rfl (by kernel_rfl) ?_
   obtain ⟨t569, ht570, hm⟩ := bind_some hm
   refine wl_call rfl rfl (x_call Try.call27 rfl (vs := [p0, .int .u64 (IntKind.u64.wrap ((a1.Puts).length : Int)), .int .i64 (4:Int)]) rfl) ?_
   refine (octet_Writer_Num_ref hst.to1 ht570).mono ?_
   rintro _ w571 ⟨rfl, hst⟩
   refine ⟨_, rfl, ?_⟩
   replace hst := hst.of1
   refine wl_nil (then_n ?_)
   obtain ⟨y637, hm, hx638⟩ := bind_some hm
   refine wp_cut (fun a w => ∃ (z634 : octet_Writer) (σ635 : Nat → Value), (locks_Lay_j4 a1) z634 = some r ∧ a = Fr 84 (upd (upd σ635 0 (p0)) 3 (.pointer (some ⟨b356, 0, none⟩))) ∧ St w0 w I [at_octet_Writer p0 z634, cells b356 [.int .u64 a1.ID.Session, .int .u64 a1.ID.Seq, .int .u64 a1.Epoch, r1_0, r1_1, r1_2, r1_3]] R) ?_ ?_
   ·skip
    refine wp_seq (wp_region_lit ?_)
    refine wv (.pointer (some ⟨b356, 5, none⟩)) rfl rfl (x_field rfl Try.underlying34 rfl Try.sizeOf31 rfl) ?_
    refine wv (r1_2) rfl rfl (x_load rfl Try.isAgg31 (hst.bc1 rfl)) ?_
    refine wv (.int .i64 ((a1.Puts).length : Int)) rfl rfl (x_len rfl Try.underlying31 (rd_sliceV f1_2)) ?_
    refine wv (.int .i64 (0:Int)) rfl rfl rfl ?_
    refine wl_nil (then_n (wp_block ?_))
    obtain ⟨n611, hm⟩ := loopO_some hm
    refine wp_loop_n (fun n a w => ∃ (z608 : octet_Writer) (z609 : Int) (σ610 : Nat → Value), loopN (locks_Lay_l5 a1) n (z608, z609) = some y637 ∧ a = Fr 84 (upd (upd (upd (upd (upd σ610 0 (p0)) 3 (.pointer (some ⟨b356, 0, none⟩))) 69 (r1_2)) 70 (.int .i64 ((a1.Puts).length : Int))) 71 (.int .i64 z609)) ∧ St w0 w I [at_octet_Writer p0 z608, cells b356 [.int .u64 a1.ID.Session, .int .u64 a1.ID.Seq, .int .u64 a1.Epoch, r1_0, r1_1, r1_2, r1_3]] R) n611 ⟨t569, (0:Int), _, hm, ((fr_upd (t := 0) (v := p0) rfl).trans ((fr_upd (t := 3) (v := .pointer (some ⟨b356, 0, none⟩)) rfl).trans ((fr_upd (t := 69) (v := r1_2) rfl).trans ((fr_upd (t := 70) (v := .int .i64 ((a1.Puts).length : Int)) rfl).trans ((fr_upd (t := 71) (v := .int .i64 (0:Int)) rfl).trans rfl))))), hst⟩ ?_
    rintro n617 _ w612 ⟨z608, z609, σ610, hm, rfl, hst⟩
    obtain ⟨n614, y615, rfl, hm, hx616⟩ := loopN_some hm
    dsimp only [locks_Lay_l5] at hm
    refine wp_seq (wp_region_lit ?_)
    refine wv (.bool (decide (z609 < ((a1.Puts).length : Int)))) rfl rfl rfl ?_
    refine wl_nil (then_n (wp_seq ?_))
    refine bsplit (decide (z609 < ((a1.Puts).length : Int))) (fun hc618 => ?_) (fun hc618 => ?_)
    ·skip
     replace hm := bif_t hc618 hm
     refine wp_ift (congrArg Value.bool hc618) ?_
     refine wp_skip (then_n (wp_seq (wp_block (wp_seq (wp_region_lit ?_)))))
     obtain ⟨x619, hx620, hm⟩ := bind_some hm
     obtain ⟨h621, h622, hi623⟩ := geto_some hx620
     refine wv (.pointer (some (eAddr r1_2 (z609.toNat * 1 + 0)))) rfl rfl (x_index rfl rfl Try.underlying31 Try.sizeOf41 (rd_sliceV f1_2) h621 h622) ?_
     refine wv (.float .f64 x619) rfl rfl (x_load rfl Try.isAgg41 (rd_load f1_2 (HL.le.refl _) hst hi623 (by rintro _ rfl; rfl))) ?_
     refine wv (.float .f64 x619) rfl rfl rfl ?_
     refine wl_nil (then_n (wp_region_lit ?_))
     refine wv (p0) rfl rfl rfl ?_
     refine wv (.float .f64 x619) rfl rfl rfl ?_
     obtain ⟨t624, ht625, hm⟩ := bind_some hm
     refine wl_call rfl rfl (x_call Try.call39 rfl (vs := [.float .f64 x619]) rfl) ?_
     refine (number_Rank_ref hst.to0 ht625).mono ?_
     rintro _ w626 ⟨rfl, hst⟩
     refine ⟨_, rfl, ?_⟩
     replace hst := hst.of0
     obtain ⟨t629, ht630, hm⟩ := bind_some hm
     refine wl_call rfl rfl (x_call Try.call27 rfl (vs := [p0, .int .u64 t624, .int .i64 (8:Int)]) rfl) ?_
     refine (octet_Writer_Num_ref hst.to1 ht630).mono ?_
     rintro _ w631 ⟨rfl, hst⟩
     refine ⟨_, rfl, ?_⟩
     replace hst := hst.of1
     refine wl_nil (blk_n (then_n (wp_region_lit ?_)))
     refine wv (.int .i64 (IntKind.i64.wrap (z609 + (1:Int)))) rfl rfl rfl ?_
     refine wv (.int .i64 (IntKind.i64.wrap (z609 + (1:Int)))) rfl rfl rfl ?_
     refine wl_nil (then_n ?_)
     replace hst := hst.pull1
     replace hst := hst.pull1
     replace hst := hst.keep2
     obtain rfl := some_inj hm
     exact ⟨_, Nat.lt_succ_self _, t629, (IntKind.i64.wrap (z609 + (1:Int))), _, hx616, ((fr_upd (t := 0) (v := p0) rfl).trans ((fr_upd (t := 3) (v := .pointer (some ⟨b356, 0, none⟩)) rfl).trans ((fr_upd (t := 69) (v := r1_2) rfl).trans ((fr_upd (t := 70) (v := .int .i64 ((a1.Puts).length : Int)) rfl).trans ((fr_upd (t := 71) (v := .int .i64 (IntKind.i64.wrap (z609 + (1:Int)))) rfl).trans rfl))))), hst⟩
    ·skip
     replace hm := bif_f hc618 hm
     refine wp_iff (congrArg Value.bool hc618) ?_
     refine wp_exit (then_x (then_x ?_))
     replace hm := inr_up hm hx616
     refine blk_x (then_n ?_)
     replace hst := hst.pull1
     replace hst := hst.pull1
     replace hst := hst.keep2
     obtain rfl := some_inj hm
     exact ⟨z608, _, hx638, ((fr_upd (t := 0) (v := p0) rfl).trans ((fr_upd (t := 3) (v := .pointer (some ⟨b356, 0, none⟩)) rfl).trans rfl)), hst⟩
   ·skip
    clear hst
    rintro _ w639 ⟨z634, σ635, hm, rfl, hst⟩
    dsimp only [locks_Lay_j4] at hm
    refine wp_region_lit ?_
    refine wv (p0) rfl rfl rfl ?_
    refine wv (.pointer (some ⟨b356, 6, none⟩)) rfl rfl (x_field rfl Try.underlying34 rfl Try.sizeOf22 rfl) ?_
    refine wv (r1_3) rfl rfl (x_load rfl Try.isAgg22 (hst.bc1 rfl)) ?_
    obtain ⟨t640, ht641, hm⟩ := bind_some hm
    refine wl_call rfl rfl (x_call Try.call38 rfl (vs := [p0, r1_3]) rfl) ?_
    refine (octet_Writer_Bytes_ref (f1_3.mono (rd_weak _)) hst.to1 ht641).mono ?_
    rintro _ w642 ⟨rfl, hst⟩
    refine ⟨_, rfl, ?_⟩
    replace hst := hst.of1
    refine wl_nil ?_
    obtain rfl := some_inj hm
    refine post_end (vs := []) Try.results29 rvs_nil ?_
    exact ⟨rfl, hst.keep1⟩

theorem octet_Writer_Flag_ref {w0 w : World} {I : HL} {R : SP} {a0 : octet_Writer} {p0 : Value} {a1 : Bool}  (hst : St w0 w I [at_octet_Writer p0 a0] R) {r : (octet_Writer)} (hm : octet_Writer_Flag a0 a1 = some r) :
  Calls Try.prog 32 #[p0, .bool a1] w fun e w' => e = .returned (p0) ∧ St w0 w' I [at_octet_Writer p0 r] R := by
 unfold octet_Writer_Flag at hm
 refine calls_start (args := [p0, .bool a1]) Try.func32 rfl Try.ntmps32 (Nat.le_of_ble_eq_true rfl) ?_
 refine wp_seq (wp_region_lit ?_)
 refine wv (.pointer none) rfl rfl rfl ?_
 refine wl_nil (then_n (wp_seq (wp_seq (wp_region_lit ?_))))
 refine wv (.bool a1) rfl rfl rfl ?_
 refine wl_nil (then_n ?_)
 refine bsplit a1 (fun hc140 => ?_) (fun hc140 => ?_)
 ·skip
  replace hm := bif_t hc140 hm
  refine wp_ift (congrArg Value.bool hc140) ?_
  refine wp_seq (wp_region_lit ?_)
  refine wv (p0) rfl rfl rfl ?_
  obtain ⟨t141, ht142, hm⟩ := bind_some hm
  refine wl_call rfl rfl (x_call Try.call27 rfl (vs := [p0, .int .u64 (1:Int), .int .i64 (1:Int)]) rfl) ?_
  refine (octet_Writer_Num_ref hst.to1 ht142).mono ?_
  rintro _ w143 ⟨rfl, hst⟩
  refine ⟨_, rfl, ?_⟩
  replace hst := hst.of1
  refine wv (p0) rfl rfl rfl ?_
  refine wl_nil (then_n (wp_ret (then_r ?_)))
  obtain rfl := some_inj hm
  refine post_ret (vs := [p0]) Try.results32 (rvs_cons (rv_tmp rfl) rvs_nil) ?_
  exact ⟨rfl, hst.keep1⟩
 ·skip
  replace hm := bif_f hc140 hm
  refine wp_iff (congrArg Value.bool hc140) ?_
  refine wp_skip (then_n (wp_seq (wp_region_lit ?_)))
  refine wv (p0) rfl rfl rfl ?_
  obtain ⟨t146, ht147, hm⟩ := bind_some hm
  refine wl_call rfl rfl (x_call Try.call27 rfl (vs := [p0, .int .u64 (0:Int), .int .i64 (1:Int)]) rfl) ?_
  refine (octet_Writer_Num_ref hst.to1 ht147).mono ?_
  rintro _ w148 ⟨rfl, hst⟩
  refine ⟨_, rfl, ?_⟩
  replace hst := hst.of1
  refine wv (p0) rfl rfl rfl ?_
  refine wl_nil (then_n (wp_ret ?_))
  obtain rfl := some_inj hm
  refine post_ret (vs := [p0]) Try.results32 (rvs_cons (rv_tmp rfl) rvs_nil) ?_
  exact ⟨rfl, hst.keep1⟩

theorem command_writes_ref {w0 w : World} {I : HL} {R : SP} {a0 : octet_Writer} {p0 : Value} {a1 : (List api_Write)} {r1_0 : Value} (f1_0 : Rd ty_api_Write R I r1_0 a1) (hst : St w0 w I [at_octet_Writer p0 a0] R) {r : (octet_Writer)} (hm : command_writes a0 a1 = some r) :
  Calls Try.prog 30 #[p0, r1_0] w fun e w' => e = .returned (.tuple #[]) ∧ St w0 w' I [at_octet_Writer p0 r] R := by
 unfold command_writes at hm
 refine calls_start (args := [p0, r1_0]) Try.func30 rfl Try.ntmps30 (Nat.le_of_ble_eq_true rfl) ?_
 refine wp_seq (wp_region_lit ?_)
 refine wv (p0) rfl rfl rfl ?_
 refine wv (r1_0) rfl rfl rfl ?_
 refine wv (.int .i64 ((a1).length : Int)) rfl rfl (x_len rfl Try.underlying35 (rd_sliceV f1_0)) ?_
 refine wv (.int .u64 (IntKind.u64.wrap ((a1).length : Int))) rfl rfl (by kernel_rfl) ?_
 obtain ⟨t241, ht242, hm⟩ := bind_some hm
 refine wl_call rfl rfl (x_call Try.call27 rfl (vs := [p0, .int .u64 (IntKind.u64.wrap ((a1).length : Int)), .int .i64 (4:Int)]) rfl) ?_
 refine (octet_Writer_Num_ref hst.to1 ht242).mono ?_
 rintro _ w243 ⟨rfl, hst⟩
 refine ⟨_, rfl, ?_⟩
 replace hst := hst.of1
 refine wl_nil (then_n (wp_seq (wp_region_lit ?_)))
 refine wv (r1_0) rfl rfl rfl ?_
 refine wv (.int .i64 ((a1).length : Int)) rfl rfl (x_len rfl Try.underlying35 (rd_sliceV f1_0)) ?_
 refine wv (.int .i64 (0:Int)) rfl rfl rfl ?_
 refine wl_nil (then_n (wp_block ?_))
 obtain ⟨n331, hm⟩ := loopO_some hm
 refine wp_loop_n (fun n a w => ∃ (z328 : octet_Writer) (z329 : Int) (σ330 : Nat → Value), loopN (command_writes_l0 a1) n (z328, z329) = some r ∧ a = Fr 29 (upd (upd (upd (upd σ330 0 (p0)) 11 (r1_0)) 12 (.int .i64 ((a1).length : Int))) 13 (.int .i64 z329)) ∧ St w0 w I [at_octet_Writer p0 z328] R) n331 ⟨t241, (0:Int), _, hm, ((fr_upd (t := 0) (v := p0) rfl).trans ((fr_upd (t := 11) (v := r1_0) rfl).trans ((fr_upd (t := 12) (v := .int .i64 ((a1).length : Int)) rfl).trans ((fr_upd (t := 13) (v := .int .i64 (0:Int)) rfl).trans rfl)))), hst⟩ ?_
 rintro n337 _ w332 ⟨z328, z329, σ330, hm, rfl, hst⟩
 obtain ⟨n334, y335, rfl, hm, hx336⟩ := loopN_some hm
 dsimp only [command_writes_l0] at hm
 refine wp_seq (wp_region_lit ?_)
 refine wv (.bool (decide (z329 < ((a1).length : Int)))) rfl rfl rfl ?_
 refine wl_nil (then_n (wp_seq ?_))
 refine bsplit (decide (z329 < ((a1).length : Int))) (fun hc338 => ?_) (fun hc338 => ?_)
 ·skip
  replace hm := bif_t hc338 hm
  refine wp_ift (congrArg Value.bool hc338) ?_
  refine wp_skip (then_n (wp_seq (wp_block (wp_seq (wp_region_lit ?_)))))
  obtain ⟨x339, hx340, hm⟩ := bind_some hm
  obtain ⟨h341, h342, hi343⟩ := geto_some hx340
  refine wv (.pointer (some (eAddr r1_0 (z329.toNat * 3 + 0)))) rfl rfl (x_index rfl rfl Try.underlying35 Try.sizeOf73 (rd_sliceV f1_0) h341 h342) ?_
  obtain ⟨cs344, hr345, hc346⟩ := Rd.getF f1_0 hi343
  obtain ⟨v347, rfl, f348, -⟩ := hr345
  refine wv (.agg #[.float .f64 x339.At, .bool x339.Del, v347]) rfl rfl (x_loadN (cs := [.float .f64 x339.At, .bool x339.Del, v347]) rfl Try.isAgg73 Try.sizeOf73 (eCells (o := 0) (hc346 (HL.le.refl _) hst) rfl)) ?_
  obtain ⟨b351, w352, ew353, eb354, hst⟩ := hst.box [.float .f64 (0:Nat), .bool false, (.slice none 0 0)] 73
  refine wl_run (v := .pointer (some ⟨b351, 0, none⟩)) (w' := w352) rfl rfl (x_al (by kernel_rfl) ew353 eb354) ?_
  obtain ⟨w356, hr357, hst⟩ := hst.boxStore (P := Try.prog) (t := 73) (cs' := [.float .f64 x339.At, .bool x339.Del, v347]) 0 (.agg #[.float .f64 x339.At, .bool x339.Del, v347]) Try.sizeOf73 (Nat.le_of_ble_eq_true rfl) (ones_cons rfl (ones_cons rfl (ones_cons (one_of_sliceV (rd_sliceV f348)) ones_nil))) (by kernel_rfl)
  refine wl_unit rfl rfl (x_unit hr357) ?_
  refine wl_nil (then_n ?_)
  refine wp_region_St hst 11 [0, 1, 2, 3, 4, 5, 6, 7, 8, 9, 10] [0, 0, 2, 6, 15, 0, 32, 127, 0, 256, 1023] [] rfl (by kernel_rfl) (by kernel_rfl) Try.mixed (by kernel_rfl) ?_
  refine wsr (p0) 0 rfl rfl rfl (by kernel_rfl) (fun w hst => rfl) ?_
  refine wsr (.pointer (some ⟨b351, 0, none⟩)) 1 rfl rfl rfl (by kernel_rfl) (fun w hst => x_field rfl Try.underlying73 rfl Try.sizeOf41 rfl) ?_
  refine wsr (.float .f64 x339.At) 2 rfl rfl rfl (by kernel_rfl) (fun w hst => x_load rfl Try.isAgg41 (hst.bc0 rfl)) ?_
  refine wsr (.pointer (some ⟨b351, 1, none⟩)) 5 rfl rfl rfl (by kernel_rfl) (fun w hst => x_field rfl Try.underlying73 rfl Try.sizeOf4 rfl) ?_
  refine wsr (.bool x339.Del) 6 rfl rfl rfl (by kernel_rfl) (fun w hst => x_load rfl Try.isAgg4 (hst.bc0 rfl)) ?_
  refine wsr (.pointer (some ⟨b351, 2, none⟩)) 8 rfl rfl rfl (by kernel_rfl) (fun w hst => x_field rfl Try.underlying73 rfl Try.sizeOf22 rfl) ?_
  refine wsr (v347) 9 rfl rfl rfl (by kernel_rfl) (fun w hst => x_load rfl Try.isAgg22 (hst.bc0 rfl)) ?_
  refine ws_e1 3 (by kernel_rfl) ?_
  refine nxe [4, 7, 10] (by kernel_rfl) rfl rfl ?_
  clear hst
  intro w hst
  obtain ⟨t358, ht359, hm⟩ := bind_some hm
  refine we_call rfl (x_call Try.call39 rfl (vs := [.float .f64 x339.At]) rfl) ?_
  refine (number_Rank_ref hst.to0 ht359).mono ?_
  rintro _ w360 ⟨rfl, hst⟩
  refine ⟨_, rfl, ?_⟩
  replace hst := hst.of0
  refine ws_next (pend' := [(9, v347), (8, .pointer (some ⟨b351, 2, none⟩)), (6, .bool x339.Del), (5, .pointer (some ⟨b351, 1, none⟩)), (0, p0)]) hst (by kernel_rfl) (pkr rfl rfl (fun w hst => x_load rfl Try.isAgg22 (hst.bc0 rfl)) (pkr rfl rfl (fun w hst => x_field rfl Try.underlying73 rfl Try.sizeOf22 rfl) (pkr rfl rfl (fun w hst => x_load rfl Try.isAgg4 (hst.bc0 rfl)) (pkr rfl rfl (fun w hst => x_field rfl Try.underlying73 rfl Try.sizeOf4 rfl) (pkr rfl rfl (fun w hst => rfl) pk_nil))))) ?_
  refine ws_e1 4 (by kernel_rfl) ?_
  refine nxe [7, 10] (by kernel_rfl) rfl rfl ?_
  clear hst
  intro w hst
  replace hst := hst.pull1
  obtain ⟨t363, ht364, hm⟩ := bind_some hm
  refine we_call rfl (x_call Try.call27 rfl (vs := [p0, .int .u64 t358, .int .i64 (8:Int)]) rfl) ?_
  refine (octet_Writer_Num_ref hst.to1 ht364).mono ?_
  rintro _ w365 ⟨rfl, hst⟩
  refine ⟨_, rfl, ?_⟩
  replace hst := hst.of1
  refine ws_next (pend' := [(9, v347), (8, .pointer (some ⟨b351, 2, none⟩)), (6, .bool x339.Del), (5, .pointer (some ⟨b351, 1, none⟩))]) hst (by kernel_rfl) (pkr rfl rfl (fun w hst => x_load rfl Try.isAgg22 (hst.bc1 rfl)) (pkr rfl rfl (fun w hst => x_field rfl Try.underlying73 rfl Try.sizeOf22 rfl) (pkr rfl rfl (fun w hst => x_load rfl Try.isAgg4 (hst.bc1 rfl)) (pkr rfl rfl (fun w hst => x_field rfl Try.underlying73 rfl Try.sizeOf4 rfl) pk_nil)))) ?_
  refine ws_e1 7 (by kernel_rfl) ?_
  refine nxe [10] (by kernel_rfl) rfl rfl ?_
  clear hst
  intro w hst
  obtain ⟨t368, ht369, hm⟩ := bind_some hm
  refine we_call rfl (x_call Try.call32 rfl (vs := [p0, .bool x339.Del]) rfl) ?_
  refine (octet_Writer_Flag_ref hst.to1 ht369).mono ?_
  rintro _ w370 ⟨rfl, hst⟩
  refine ⟨_, rfl, ?_⟩
  replace hst := hst.of1
  refine ws_next (pend' := [(9, v347), (8, .pointer (some ⟨b351, 2, none⟩))]) hst (by kernel_rfl) (pkr rfl rfl (fun w hst => x_load rfl Try.isAgg22 (hst.bc1 rfl)) (pkr rfl rfl (fun w hst => x_field rfl Try.underlying73 rfl Try.sizeOf22 rfl) pk_nil)) ?_
  refine ws_e1 10 (by kernel_rfl) ?_
  refine nxe [] (by kernel_rfl) rfl rfl ?_
  clear hst
  intro w hst
  obtain ⟨t373, ht374, hm⟩ := bind_some hm
  refine we_call rfl (x_call Try.call38 rfl (vs := [p0, v347]) rfl) ?_
  refine (octet_Writer_Bytes_ref (f348.mono (rd_weak _)) hst.to1 ht374).mono ?_
  rintro _ w375 ⟨rfl, hst⟩
  refine ⟨_, rfl, ?_⟩
  replace hst := hst.of1
  refine ws_next (pend' := []) hst (by kernel_rfl) pk_nil ?_
  refine ws_nil ?_
  intro w hst
  refine blk_n (then_n (wp_region_lit ?_))
  refine wv (.int .i64 (IntKind.i64.wrap (z329 + (1:Int)))) rfl rfl rfl ?_
  refine wv (.int .i64 (IntKind.i64.wrap (z329 + (1:Int)))) rfl rfl rfl ?_
  refine wl_nil (then_n ?_)
  replace hst := hst.keep1
  obtain rfl := some_inj hm
  exact ⟨_, Nat.lt_succ_self _, t373, (IntKind.i64.wrap (z329 + (1:Int))), _, hx336, ((fr_upd (t := 0) (v := p0) rfl).trans ((fr_upd (t := 11) (v := r1_0) rfl).trans ((fr_upd (t := 12) (v := .int .i64 ((a1).length : Int)) rfl).trans ((fr_upd (t := 13) (v := .int .i64 (IntKind.i64.wrap (z329 + (1:Int)))) rfl).trans rfl)))), hst⟩
 ·skip
  replace hm := bif_f hc338 hm
  refine wp_iff (congrArg Value.bool hc338) ?_
  refine wp_exit (then_x (then_x ?_))
  replace hm := inr_up hm hx336
  refine blk_x ?_
  obtain rfl := some_inj hm
  refine post_end (vs := []) Try.results30 rvs_nil ?_
  exact ⟨rfl, hst.keep1⟩

theorem command_LayReply_ref {w0 w : World} {I : HL} {R : SP} {a0 : octet_Writer} {p0 : Value} {a1 : api_Reply} {r1_0 : Value} {r1_1 : Value} (f1_0 : Rd ty_api_Got R I r1_0 a1.Gots) (f1_1 : Rd (tySl ty_api_Pair) R I r1_1 a1.Scans) (hst : St w0 w I [at_octet_Writer p0 a0] R) {r : (octet_Writer)} (hm : command_LayReply a0 a1 = some r) :
  Calls Try.prog 13 #[p0, .agg #[.int .i64 a1.E, .int .u64 a1.Epoch, .int .u64 a1.Index, r1_0, r1_1]] w fun e w' => e = .returned (.tuple #[]) ∧ St w0 w' I [at_octet_Writer p0 r] R := by
 unfold command_LayReply at hm
 refine calls_start (args := [p0, .agg #[.int .i64 a1.E, .int .u64 a1.Epoch, .int .u64 a1.Index, r1_0, r1_1]]) Try.func13 rfl Try.ntmps13 (Nat.le_of_ble_eq_true rfl) ?_
 refine wp_seq (wp_region_lit ?_)
 obtain ⟨b809, w810, ew811, eb812, hst⟩ := hst.box [.int .i64 a1.E, .int .u64 a1.Epoch, .int .u64 a1.Index, r1_0, r1_1] 39
 refine wl_run (v := .pointer (some ⟨b809, 0, none⟩)) (w' := w810) rfl rfl (x_al (by kernel_rfl) ew811 eb812) ?_
 refine wl_nil (then_n (wp_seq ?_))
 refine wp_region_St hst 16 [0, 1, 2, 3, 4, 5, 6, 7, 8, 9, 10, 11, 12, 13, 14, 15] [0, 0, 2, 6, 15, 0, 32, 127, 0, 256, 1023, 0, 2048, 6144, 14336, 32767] [] rfl (by kernel_rfl) (by kernel_rfl) Try.mixed (by kernel_rfl) ?_
 refine wsr (p0) 0 rfl rfl rfl (by kernel_rfl) (fun w hst => rfl) ?_
 refine wsr (.pointer (some ⟨b809, 0, none⟩)) 1 rfl rfl rfl (by kernel_rfl) (fun w hst => x_field rfl Try.underlying39 rfl Try.sizeOf30 rfl) ?_
 refine wsr (.int .i64 a1.E) 2 rfl rfl rfl (by kernel_rfl) (fun w hst => x_load rfl Try.isAgg30 (hst.bc0 rfl)) ?_
 refine wsr (.int .u64 (IntKind.u64.wrap a1.E)) 3 rfl rfl rfl (by kernel_rfl) (fun w hst => by kernel_rfl) ?_
 refine wsr (.pointer (some ⟨b809, 1, none⟩)) 5 rfl rfl rfl (by kernel_rfl) (fun w hst => x_field rfl Try.underlying39 rfl Try.sizeOf27 rfl) ?_
 refine wsr (.int .u64 a1.Epoch) 6 rfl rfl rfl (by kernel_rfl) (fun w hst => x_load rfl Try.isAgg27 (hst.bc0 rfl)) ?_
 refine wsr (.pointer (some ⟨b809, 2, none⟩)) 8 rfl rfl rfl (by kernel_rfl) (fun w hst => x_field rfl Try.underlying39 rfl Try.sizeOf27 rfl) ?_
 refine wsr (.int .u64 a1.Index) 9 rfl rfl rfl (by kernel_rfl) (fun w hst => x_load rfl Try.isAgg27 (hst.bc0 rfl)) ?_
 refine wsr (.pointer (some ⟨b809, 3, none⟩)) 11 rfl rfl rfl (by kernel_rfl) (fun w hst => x_field rfl Try.underlying39 rfl Try.sizeOf36 rfl) ?_
 refine wsr (r1_0) 12 rfl rfl rfl (by kernel_rfl) (fun w hst => x_load rfl Try.isAgg36 (hst.bc0 rfl)) ?_
 refine wsr (.int .i64 ((a1.Gots).length : Int)) 13 rfl rfl rfl (by kernel_rfl) (fun w hst => x_len rfl Try.underlying36 (rd_sliceV f1_0)) ?_
 refine wsr (.int .u64 (IntKind.u64.wrap ((a1.Gots).length : Int))) 14 rfl rfl rfl (by kernel_rfl) (fun w hst => by kernel_rfl) ?_
 refine ws_e1 4 (by kernel_rfl) ?_
 refine nxe [7, 10, 15] (by kernel_rfl) rfl rfl ?_
 clear hst
 intro w hst
 replace hst := hst.pull1
 obtain ⟨t814, ht815, hm⟩ := bind_some hm
 refine we_call rfl (x_call Try.call27 rfl (vs := [p0, .int .u64 (IntKind.u64.wrap a1.E), .int .i64 (1:Int)]) rfl) ?_
 refine (octet_Writer_Num_ref hst.to1 ht815).mono ?_
 rintro _ w816 ⟨rfl, hst⟩
 refine ⟨_, rfl, ?_⟩
 replace hst := hst.of1
 refine ws_next (pend' := [(14, .int .u64 (IntKind.u64.wrap ((a1.Gots).length : Int))), (13, .int .i64 ((a1.Gots).length : Int)), (12, r1_0), (11, .pointer (some ⟨b809, 3, none⟩)), (9, .int .u64 a1.Index), (8, .pointer (some ⟨b809, 2, none⟩)), (6, .int .u64 a1.Epoch), (5, .pointer (some ⟨b809, 1, none⟩))]) hst (by kernel_rfl) (pkr rfl rfl (fun w hst => by kernel_rfl) (pkr rfl rfl (fun w hst => x_len rfl Try.underlying36 (rd_sliceV f1_0)) (pkr rfl rfl (fun w hst => x_load rfl Try.isAgg36 (hst.bc1 rfl)) (pkr rfl rfl (fun w hst => x_field rfl Try.underlying39 rfl Try.sizeOf36 rfl) (pkr rfl rfl (fun w hst => x_load rfl Try.isAgg27 (hst.bc1 rfl)) (pkr rfl rfl (fun w hst => x_field rfl Try.underlying39 rfl Try.sizeOf27 rfl) (pkr rfl rfl (fun w hst => x_load rfl Try.isAgg27 (hst.bc1 rfl)) (pkr rfl rfl (fun w hst => x_field rfl Try.underlying39 rfl Try.sizeOf27 rfl) pk_nil)))))))) ?_
 refine ws_e1 7 (by kernel_rfl) ?_
 refine nxe [10, 15] (by kernel_rfl) rfl rfl ?_
 clear hst
 intro w hst
 obtain ⟨t819, ht820, hm⟩ := bind_some hm
 refine we_call rfl (x_call Try.call27 rfl (vs := [p0, .int .u64 a1.Epoch, .int .i64 (8:Int)]) rfl) ?_
 refine (octet_Writer_Num_ref hst.to1 ht820).mono ?_
 rintro _ w821 ⟨rfl, hst⟩
 refine ⟨_, rfl, ?_⟩
 replace hst := hst.of1
 refine ws_next (pend' := [(14, .int .u64 (IntKind.u64.wrap ((a1.Gots).length : Int))), (13, .int .i64 ((a1.Gots).length : Int)), (12, r1_0), (11, .pointer (some ⟨b809, 3, none⟩)), (9, .int .u64 a1.Index), (8, .pointer (some ⟨b809, 2, none⟩))]) hst (by kernel_rfl) (pkr rfl rfl (fun w hst => by kernel_rfl) (pkr rfl rfl (fun w hst => x_len rfl Try.underlying36 (rd_sliceV f1_0)) (pkr rfl rfl (fun w hst => x_load rfl Try.isAgg36 (hst.bc1 rfl)) (pkr rfl rfl (fun w hst => x_field rfl Try.underlying39 rfl Try.sizeOf36 rfl) (pkr rfl rfl (fun w hst => x_load rfl Try.isAgg27 (hst.bc1 rfl)) (pkr rfl rfl (fun w hst => x_field rfl Try.underlying39 rfl Try.sizeOf27 rfl) pk_nil)))))) ?_
 refine ws_e1 10 (by kernel_rfl) ?_
 refine nxe [15] (by kernel_rfl) rfl rfl ?_
 clear hst
 intro w hst
 obtain ⟨t824, ht825, hm⟩ := bind_some hm
 refine we_call rfl (x_call Try.call27 rfl (vs := [p0, .int .u64 a1.Index, .int .i64 (8:Int)]) rfl) ?_
 refine (octet_Writer_Num_ref hst.to1 ht825).mono ?_
 rintro _ w826 ⟨rfl, hst⟩
 refine ⟨_, rfl, ?_⟩
 replace hst := hst.of1
 refine ws_next (pend' := [(14, .int .u64 (IntKind.u64.wrap ((a1.Gots).length : Int))), (13, .int .i64 ((a1.Gots).length : Int)), (12, r1_0), (11, .pointer (some ⟨b809, 3, none⟩))]) hst (by kernel_rfl) (pkr rfl rfl (fun w hst => by kernel_rfl) (pkr rfl rfl (fun w hst => x_len rfl Try.underlying36 (rd_sliceV f1_0)) (pkr rfl rfl (fun w hst => x_load rfl Try.isAgg36 (hst.bc1 rfl)) (pkr rfl rfl (fun w hst => x_field rfl Try.underlying39 rfl Try.sizeOf36 rfl) pk_nil)))) ?_
 refine ws_e1 15 (by kernel_rfl) ?_
 refine nxe [] (by kernel_rfl) rfl rfl ?_
 clear hst
 intro w hst
 obtain ⟨t829, ht830, hm⟩ := bind_some hm
 refine we_call rfl (x_call Try.call27 rfl (vs := [p0, .int .u64 (IntKind.u64.wrap ((a1.Gots).length : Int)), .int .i64 (4:Int)]) rfl) ?_
 refine (octet_Writer_Num_ref hst.to1 ht830).mono ?_
 rintro _ w831 ⟨rfl, hst⟩
 refine ⟨_, rfl, ?_⟩
 replace hst := hst.of1
 refine ws_next (pend' := []) hst (by kernel_rfl) pk_nil ?_
 refine ws_nil ?_
 intro w hst
 refine then_n ?_
 obtain ⟨y939, hm, hx940⟩ := bind_some hm
 refine wp_cut (fun a w => ∃ (z936 : octet_Writer) (σ937 : Nat → Value), (command_LayReply_j0 a1) z936 = some r ∧ a = Fr 75 (upd (upd σ937 0 (p0)) 3 (.pointer (some ⟨b809, 0, none⟩))) ∧ St w0 w I [at_octet_Writer p0 z936, cells b809 [.int .i64 a1.E, .int .u64 a1.Epoch, .int .u64 a1.Index, r1_0, r1_1]] R) ?_ ?_
 ·skip
  refine wp_seq (wp_region_lit ?_)
  refine wv (.pointer (some ⟨b809, 3, none⟩)) rfl rfl (x_field rfl Try.underlying39 rfl Try.sizeOf36 rfl) ?_
  refine wv (r1_0) rfl rfl (x_load rfl Try.isAgg36 (hst.bc1 rfl)) ?_
  refine wv (.int .i64 ((a1.Gots).length : Int)) rfl rfl (x_len rfl Try.underlying36 (rd_sliceV f1_0)) ?_
  refine wv (.int .i64 (0:Int)) rfl rfl rfl ?_
  refine wl_nil (then_n (wp_block ?_))
  obtain ⟨n899, hm⟩ := loopO_some hm
  refine wp_loop_n (fun n a w => ∃ (z896 : octet_Writer) (z897 : Int) (σ898 : Nat → Value), loopN (command_LayReply_l1 a1) n (z896, z897) = some y939 ∧ a = Fr 75 (upd (upd (upd (upd (upd σ898 0 (p0)) 3 (.pointer (some ⟨b809, 0, none⟩))) 27 (r1_0)) 28 (.int .i64 ((a1.Gots).length : Int))) 29 (.int .i64 z897)) ∧ St w0 w I [at_octet_Writer p0 z896, cells b809 [.int .i64 a1.E, .int .u64 a1.Epoch, .int .u64 a1.Index, r1_0, r1_1]] R) n899 ⟨t829, (0:Int), _, hm, ((fr_upd (t := 0) (v := p0) rfl).trans ((fr_upd (t := 3) (v := .pointer (some ⟨b809, 0, none⟩)) rfl).trans ((fr_upd (t := 27) (v := r1_0) rfl).trans ((fr_upd (t := 28) (v := .int .i64 ((a1.Gots).length : Int)) rfl).trans ((fr_upd (t := 29) (v := .int .i64 (0:Int)) rfl).trans rfl))))), hst⟩ ?_
  rintro n905 _ w900 ⟨z896, z897, σ898, hm, rfl, hst⟩
  obtain ⟨n902, y903, rfl, hm, hx904⟩ := loopN_some hm
  dsimp only [command_LayReply_l1] at hm
  refine wp_seq (wp_region_lit ?_)
  refine wv (.bool (decide (z897 < ((a1.Gots).length : Int)))) rfl rfl rfl ?_
  refine wl_nil (then_n (wp_seq ?_))
  refine bsplit (decide (z897 < ((a1.Gots).length : Int))) (fun hc906 => ?_) (fun hc906 => ?_)
  ·skip
   replace hm := bif_t hc906 hm
   refine wp_ift (congrArg Value.bool hc906) ?_
   refine wp_skip (then_n (wp_seq (wp_block (wp_seq (wp_region_lit ?_)))))
   obtain ⟨x907, hx908, hm⟩ := bind_some hm
   obtain ⟨h909, h910, hi911⟩ := geto_some hx908
   refine wv (.pointer (some (eAddr r1_0 (z897.toNat * 2 + 0)))) rfl rfl (x_index rfl rfl Try.underlying36 Try.sizeOf51 (rd_sliceV f1_0) h909 h910) ?_
   obtain ⟨cs912, hr913, hc914⟩ := Rd.getF f1_0 hi911
   obtain ⟨v915, rfl, f916, -⟩ := hr913
   refine wv (.agg #[.bool x907.Has, v915]) rfl rfl (x_loadN (cs := [.bool x907.Has, v915]) rfl Try.isAgg51 Try.sizeOf51 (eCells (o := 0) (hc914 (HL.le.refl _) hst) rfl)) ?_
   obtain ⟨b919, w920, ew921, eb922, hst⟩ := hst.box [.bool false, (.slice none 0 0)] 51
   refine wl_run (v := .pointer (some ⟨b919, 0, none⟩)) (w' := w920) rfl rfl (x_al (by kernel_rfl) ew921 eb922) ?_
   obtain ⟨w924, hr925, hst⟩ := hst.boxStore (P := Try.prog) (t := 51) (cs' := [.bool x907.Has, v915]) 0 (.agg #[.bool x907.Has, v915]) Try.sizeOf51 (Nat.le_of_ble_eq_true rfl) (ones_cons rfl (ones_cons (one_of_sliceV (rd_sliceV f916)) ones_nil)) (by kernel_rfl)
   refine wl_unit rfl rfl (x_unit hr925) ?_
   refine wl_nil (then_n ?_)
   refine wp_region_St hst 7 [0, 1, 2, 3, 4, 5, 6] [0, 0, 2, 7, 0, 16, 63] [] rfl (by kernel_rfl) (by kernel_rfl) Try.mixed (by kernel_rfl) ?_
   refine wsr (p0) 0 rfl rfl rfl (by kernel_rfl) (fun w hst => rfl) ?_
   refine wsr (.pointer (some ⟨b919, 0, none⟩)) 1 rfl rfl rfl (by kernel_rfl) (fun w hst => x_field rfl Try.underlying51 rfl Try.sizeOf4 rfl) ?_
   refine wsr (.bool x907.Has) 2 rfl rfl rfl (by kernel_rfl) (fun w hst => x_load rfl Try.isAgg4 (hst.bc0 rfl)) ?_
   refine wsr (.pointer (some ⟨b919, 1, none⟩)) 4 rfl rfl rfl (by kernel_rfl) (fun w hst => x_field rfl Try.underlying51 rfl Try.sizeOf22 rfl) ?_
   refine wsr (v915) 5 rfl rfl rfl (by kernel_rfl) (fun w hst => x_load rfl Try.isAgg22 (hst.bc0 rfl)) ?_
   refine ws_e1 3 (by kernel_rfl) ?_
   refine nxe [6] (by kernel_rfl) rfl rfl ?_
   clear hst
   intro w hst
   replace hst := hst.pull1
   obtain ⟨t926, ht927, hm⟩ := bind_some hm
   refine we_call rfl (x_call Try.call32 rfl (vs := [p0, .bool x907.Has]) rfl) ?_
   refine (octet_Writer_Flag_ref hst.to1 ht927).mono ?_
   rintro _ w928 ⟨rfl, hst⟩
   refine ⟨_, rfl, ?_⟩
   replace hst := hst.of1
   refine ws_next (pend' := [(5, v915), (4, .pointer (some ⟨b919, 1, none⟩))]) hst (by kernel_rfl) (pkr rfl rfl (fun w hst => x_load rfl Try.isAgg22 (hst.bc1 rfl)) (pkr rfl rfl (fun w hst => x_field rfl Try.underlying51 rfl Try.sizeOf22 rfl) pk_nil)) ?_
   refine ws_e1 6 (by kernel_rfl) ?_
   refine nxe [] (by kernel_rfl) rfl rfl ?_
   clear hst
   intro w hst
   obtain ⟨t931, ht932, hm⟩ := bind_some hm
   refine we_call rfl (x_call Try.call38 rfl (vs := [p0, v915]) rfl) ?_
   refine (octet_Writer_Bytes_ref (f916.mono (rd_weak _)) hst.to1 ht932).mono ?_
   rintro _ w933 ⟨rfl, hst⟩
   refine ⟨_, rfl, ?_⟩
   replace hst := hst.of1
   refine ws_next (pend' := []) hst (by kernel_rfl) pk_nil ?_
   refine ws_nil ?_
   intro w hst
   refine blk_n (then_n (wp_region_lit ?_))
   refine wv (.int .i64 (IntKind.i64.wrap (z897 + (1:Int)))) rfl rfl rfl ?_
   refine wv (.int .i64 (IntKind.i64.wrap (z897 + (1:Int)))) rfl rfl rfl ?_
   refine wl_nil (then_n ?_)
   replace hst := hst.pull2
   replace hst := hst.pull1
   replace hst := hst.keep2
   obtain rfl := some_inj hm
   exact ⟨_, Nat.lt_succ_self _, t931, (IntKind.i64.wrap (z897 + (1:Int))), _, hx904, ((fr_upd (t := 0) (v := p0) rfl).trans ((fr_upd (t := 3) (v := .pointer (some ⟨b809, 0, none⟩)) rfl).trans ((fr_upd (t := 27) (v := r1_0) rfl).trans ((fr_upd (t := 28) (v := .int .i64 ((a1.Gots).length : Int)) rfl).trans ((fr_upd (t := 29) (v := .int .i64 (IntKind.i64.wrap (z897 + (1:Int)))) rfl).trans rfl))))), hst⟩
  ·skip
   replace hm := bif_f hc906 hm
   refine wp_iff (congrArg Value.bool hc906) ?_
   refine wp_exit (then_x (then_x ?_))
   replace hm := inr_up hm hx904
   refine blk_x (then_n ?_)
   replace hst := hst.pull1
   replace hst := hst.pull1
   replace hst := hst.keep2
   obtain rfl := some_inj hm
   exact ⟨z896, _, hx940, ((fr_upd (t := 0) (v := p0) rfl).trans ((fr_upd (t := 3) (v := .pointer (some ⟨b809, 0, none⟩)) rfl).trans rfl)), hst⟩
 ·skip
  clear hst
  rintro _ w941 ⟨z936, σ937, hm, rfl, hst⟩
  dsimp only [command_LayReply_j0] at hm
  refine wp_seq (wp_region_lit ?_)
  refine wv (p0) rfl rfl rfl ?_
  refine wv (.pointer (some ⟨b809, 4, none⟩)) rfl rfl (x_field rfl Try.underlying39 rfl Try.sizeOf37 rfl) ?_
  refine wv (r1_1) rfl rfl (x_load rfl Try.isAgg37 (hst.bc1 rfl)) ?_
  refine wv (.int .i64 ((a1.Scans).length : Int)) rfl rfl (x_len rfl Try.underlying37 (rd_sliceV f1_1)) ?_
  refine wv (.int .u64 (IntKind.u64.wrap ((a1.Scans).length : Int))) rfl rfl (by kernel_rfl) ?_
  obtain ⟨t942, ht943, hm⟩ := bind_some hm
  refine wl_call rfl rfl (x_call Try.call27 rfl (vs := [p0, .int .u64 (IntKind.u64.wrap ((a1.Scans).length : Int)), .int .i64 (4:Int)]) rfl) ?_
  refine (octet_Writer_Num_ref hst.to1 ht943).mono ?_
  rintro _ w944 ⟨rfl, hst⟩
  refine ⟨_, rfl, ?_⟩
  replace hst := hst.of1
  refine wl_nil (then_n (wp_seq (wp_region_lit ?_)))
  refine wv (.pointer (some ⟨b809, 4, none⟩)) rfl rfl (x_field rfl Try.underlying39 rfl Try.sizeOf37 rfl) ?_
  refine wv (r1_1) rfl rfl (x_load rfl Try.isAgg37 (hst.bc1 rfl)) ?_
  refine wv (.int .i64 ((a1.Scans).length : Int)) rfl rfl (x_len rfl Try.underlying37 (rd_sliceV f1_1)) ?_
  refine wv (.int .i64 (0:Int)) rfl rfl rfl ?_
  refine wl_nil (then_n (wp_block ?_))
  replace hst := hst.pull1
  replace hst := hst.sub
  obtain ⟨n1220, hm⟩ := loopO_some hm
  refine wp_loop_n (fun n a w => ∃ (z1217 : octet_Writer) (z1218 : Int) (σ1219 : Nat → Value), loopN (command_LayReply_l2 a1) n (z1217, z1218) = some r ∧ a = Fr 75 (upd (upd (upd (upd σ1219 0 (p0)) 48 (r1_1)) 49 (.int .i64 ((a1.Scans).length : Int))) 50 (.int .i64 z1218)) ∧ St w0 w I [at_octet_Writer p0 z1217] R) n1220 ⟨t942, (0:Int), _, hm, ((fr_upd (t := 0) (v := p0) rfl).trans ((fr_upd (t := 48) (v := r1_1) rfl).trans ((fr_upd (t := 49) (v := .int .i64 ((a1.Scans).length : Int)) rfl).trans ((fr_upd (t := 50) (v := .int .i64 (0:Int)) rfl).trans rfl)))), hst⟩ ?_
  rintro n1226 _ w1221 ⟨z1217, z1218, σ1219, hm, rfl, hst⟩
  obtain ⟨n1223, y1224, rfl, hm, hx1225⟩ := loopN_some hm
  dsimp only [command_LayReply_l2] at hm
  refine wp_seq (wp_region_lit ?_)
  refine wv (.bool (decide (z1218 < ((a1.Scans).length : Int)))) rfl rfl rfl ?_
  refine wl_nil (then_n (wp_seq ?_))
  refine bsplit (decide (z1218 < ((a1.Scans).length : Int))) (fun hc1227 => ?_) (fun hc1227 => ?_)
  ·skip
   replace hm := bif_t hc1227 hm
   refine wp_ift (congrArg Value.bool hc1227) ?_
   refine wp_skip (then_n (wp_seq (wp_block (wp_seq (wp_region_lit ?_)))))
   obtain ⟨x1228, hx1229, hm⟩ := bind_some hm
   obtain ⟨h1230, h1231, hi1232⟩ := geto_some hx1229
   refine wv (.pointer (some (eAddr r1_1 (z1218.toNat * 1 + 0)))) rfl rfl (x_index rfl rfl Try.underlying37 Try.sizeOf52 (rd_sliceV f1_1) h1230 h1231) ?_
   obtain ⟨cs1233, hr1234, hc1235⟩ := Rd.getF f1_1 hi1232
   obtain ⟨v1236, rfl, f1237, -⟩ := hr1234
   refine wv (v1236) rfl rfl (x_load rfl Try.isAgg52 ((hc1235 (HL.le.refl _) hst) 0 _ rfl)) ?_
   refine wv (v1236) rfl rfl rfl ?_
   refine wl_nil (then_n (wp_seq (wp_region_lit ?_)))
   refine wv (p0) rfl rfl rfl ?_
   refine wv (v1236) rfl rfl rfl ?_
   refine wv (.int .i64 ((x1228).length : Int)) rfl rfl (x_len rfl Try.underlying52 (rd_sliceV f1237)) ?_
   refine wv (.int .u64 (IntKind.u64.wrap ((x1228).length : Int))) rfl rfl (by kernel_rfl) ?_
   obtain ⟨t1239, ht1240, hm⟩ := bind_some hm
   refine wl_call rfl rfl (x_call Try.call27 rfl (vs := [p0, .int .u64 (IntKind.u64.wrap ((x1228).length : Int)), .int .i64 (4:Int)]) rfl) ?_
   refine (octet_Writer_Num_ref hst.to1 ht1240).mono ?_
   rintro _ w1241 ⟨rfl, hst⟩
   refine ⟨_, rfl, ?_⟩
   replace hst := hst.of1
   refine wl_nil (then_n (wp_seq (wp_region_lit ?_)))
   refine wv (v1236) rfl rfl rfl ?_
   refine wv (.int .i64 ((x1228).length : Int)) rfl rfl (x_len rfl Try.underlying52 (rd_sliceV f1237)) ?_
   refine wv (.int .i64 (0:Int)) rfl rfl rfl ?_
   refine wl_nil (then_n (wp_block ?_))
   obtain ⟨n1319, hm⟩ := loopO_some hm
   refine wp_loop_n (fun n a w => ∃ (z1316 : octet_Writer) (z1317 : Int) (σ1318 : Nat → Value), loopN (command_LayReply_l3 x1228 z1218) n (z1316, z1317) = some y1224 ∧ a = Fr 75 (upd (upd (upd (upd (upd (upd (upd σ1318 0 (p0)) 48 (r1_1)) 49 (.int .i64 ((a1.Scans).length : Int))) 50 (.int .i64 z1218)) 59 (v1236)) 60 (.int .i64 ((x1228).length : Int))) 61 (.int .i64 z1317)) ∧ St w0 w I [at_octet_Writer p0 z1316] R) n1319 ⟨t1239, (0:Int), _, hm, ((fr_upd (t := 0) (v := p0) rfl).trans ((fr_upd (t := 48) (v := r1_1) rfl).trans ((fr_upd (t := 49) (v := .int .i64 ((a1.Scans).length : Int)) rfl).trans ((fr_upd (t := 50) (v := .int .i64 z1218) rfl).trans ((fr_upd (t := 59) (v := v1236) rfl).trans ((fr_upd (t := 60) (v := .int .i64 ((x1228).length : Int)) rfl).trans ((fr_upd (t := 61) (v := .int .i64 (0:Int)) rfl).trans rfl))))))), hst⟩ ?_
   rintro n1325 _ w1320 ⟨z1316, z1317, σ1318, hm, rfl, hst⟩
   obtain ⟨n1322, y1323, rfl, hm, hx1324⟩ := loopN_some hm
   dsimp only [command_LayReply_l3] at hm
   refine wp_seq (wp_region_lit ?_)
   refine wv (.bool (decide (z1317 < ((x1228).length : Int)))) rfl rfl rfl ?_
   refine wl_nil (then_n (wp_seq ?_))
   refine bsplit (decide (z1317 < ((x1228).length : Int))) (fun hc1326 => ?_) (fun hc1326 => ?_)
   ·skip
    replace hm := bif_t hc1326 hm
    refine wp_ift (congrArg Value.bool hc1326) ?_
    refine wp_skip (then_n (wp_seq (wp_block (wp_seq (wp_region_lit ?_)))))
    obtain ⟨x1327, hx1328, hm⟩ := bind_some hm
    obtain ⟨h1329, h1330, hi1331⟩ := geto_some hx1328
    refine wv (.pointer (some (eAddr v1236 (z1317.toNat * 2 + 0)))) rfl rfl (x_index rfl rfl Try.underlying52 Try.sizeOf54 (rd_sliceV f1237) h1329 h1330) ?_
    obtain ⟨cs1332, hr1333, hc1334⟩ := Rd.getF f1237 hi1331
    obtain ⟨v1335, rfl, f1336, -⟩ := hr1333
    refine wv (.agg #[.float .f64 x1327.At, v1335]) rfl rfl (x_loadN (cs := [.float .f64 x1327.At, v1335]) rfl Try.isAgg54 Try.sizeOf54 (eCells (o := 0) (hc1334 (HL.le.refl _) hst) rfl)) ?_
    obtain ⟨b1339, w1340, ew1341, eb1342, hst⟩ := hst.box [.float .f64 (0:Nat), (.slice none 0 0)] 54
    refine wl_run (v := .pointer (some ⟨b1339, 0, none⟩)) (w' := w1340) rfl rfl (x_al (by kernel_rfl) ew1341 eb1342) ?_
    obtain ⟨w1344, hr1345, hst⟩ := hst.boxStore (P := Try.prog) (t := 54) (cs' := [.float .f64 x1327.At, v1335]) 0 (.agg #[.float .f64 x1327.At, v1335]) Try.sizeOf54 (Nat.le_of_ble_eq_true rfl) (ones_cons rfl (ones_cons (one_of_sliceV (rd_sliceV f1336)) ones_nil)) (by kernel_rfl)
    refine wl_unit rfl rfl (x_unit hr1345) ?_
    refine wl_nil (then_n ?_)
    refine wp_region_St hst 8 [0, 1, 2, 3, 4, 5, 6, 7] [0, 0, 2, 6, 15, 0, 32, 127] [] rfl (by kernel_rfl) (by kernel_rfl) Try.mixed (by kernel_rfl) ?_
    refine wsr (p0) 0 rfl rfl rfl (by kernel_rfl) (fun w hst => rfl) ?_
    refine wsr (.pointer (some ⟨b1339, 0, none⟩)) 1 rfl rfl rfl (by kernel_rfl) (fun w hst => x_field rfl Try.underlying54 rfl Try.sizeOf41 rfl) ?_
    refine wsr (.float .f64 x1327.At) 2 rfl rfl rfl (by kernel_rfl) (fun w hst => x_load rfl Try.isAgg41 (hst.bc0 rfl)) ?_
    refine wsr (.pointer (some ⟨b1339, 1, none⟩)) 5 rfl rfl rfl (by kernel_rfl) (fun w hst => x_field rfl Try.underlying54 rfl Try.sizeOf22 rfl) ?_
    refine wsr (v1335) 6 rfl rfl rfl (by kernel_rfl) (fun w hst => x_load rfl Try.isAgg22 (hst.bc0 rfl)) ?_
    refine ws_e1 3 (by kernel_rfl) ?_
    refine nxe [4, 7] (by kernel_rfl) rfl rfl ?_
    clear hst
    intro w hst
    obtain ⟨t1346, ht1347, hm⟩ := bind_some hm
    refine we_call rfl (x_call Try.call39 rfl (vs := [.float .f64 x1327.At]) rfl) ?_
    refine (number_Rank_ref hst.to0 ht1347).mono ?_
    rintro _ w1348 ⟨rfl, hst⟩
    refine ⟨_, rfl, ?_⟩
    replace hst := hst.of0
    refine ws_next (pend' := [(6, v1335), (5, .pointer (some ⟨b1339, 1, none⟩)), (0, p0)]) hst (by kernel_rfl) (pkr rfl rfl (fun w hst => x_load rfl Try.isAgg22 (hst.bc0 rfl)) (pkr rfl rfl (fun w hst => x_field rfl Try.underlying54 rfl Try.sizeOf22 rfl) (pkr rfl rfl (fun w hst => rfl) pk_nil))) ?_
    refine ws_e1 4 (by kernel_rfl) ?_
    refine nxe [7] (by kernel_rfl) rfl rfl ?_
    clear hst
    intro w hst
    replace hst := hst.pull1
    obtain ⟨t1351, ht1352, hm⟩ := bind_some hm
    refine we_call rfl (x_call Try.call27 rfl (vs := [p0, .int .u64 t1346, .int .i64 (8:Int)]) rfl) ?_
    refine (octet_Writer_Num_ref hst.to1 ht1352).mono ?_
    rintro _ w1353 ⟨rfl, hst⟩
    refine ⟨_, rfl, ?_⟩
    replace hst := hst.of1
    refine ws_next (pend' := [(6, v1335), (5, .pointer (some ⟨b1339, 1, none⟩))]) hst (by kernel_rfl) (pkr rfl rfl (fun w hst => x_load rfl Try.isAgg22 (hst.bc1 rfl)) (pkr rfl rfl (fun w hst => x_field rfl Try.underlying54 rfl Try.sizeOf22 rfl) pk_nil)) ?_
    refine ws_e1 7 (by kernel_rfl) ?_
    refine nxe [] (by kernel_rfl) rfl rfl ?_
    clear hst
    intro w hst
    obtain ⟨t1356, ht1357, hm⟩ := bind_some hm
    refine we_call rfl (x_call Try.call38 rfl (vs := [p0, v1335]) rfl) ?_
    refine (octet_Writer_Bytes_ref (f1336.mono (rd_weak _)) hst.to1 ht1357).mono ?_
    rintro _ w1358 ⟨rfl, hst⟩
    refine ⟨_, rfl, ?_⟩
    replace hst := hst.of1
    refine ws_next (pend' := []) hst (by kernel_rfl) pk_nil ?_
    refine ws_nil ?_
    intro w hst
    refine blk_n (then_n (wp_region_lit ?_))
    refine wv (.int .i64 (IntKind.i64.wrap (z1317 + (1:Int)))) rfl rfl rfl ?_
    refine wv (.int .i64 (IntKind.i64.wrap (z1317 + (1:Int)))) rfl rfl rfl ?_
    refine wl_nil (then_n ?_)
    replace hst := hst.keep1
    obtain rfl := some_inj hm
    exact ⟨_, Nat.lt_succ_self _, t1356, (IntKind.i64.wrap (z1317 + (1:Int))), _, hx1324, ((fr_upd (t := 0) (v := p0) rfl).trans ((fr_upd (t := 48) (v := r1_1) rfl).trans ((fr_upd (t := 49) (v := .int .i64 ((a1.Scans).length : Int)) rfl).trans ((fr_upd (t := 50) (v := .int .i64 z1218) rfl).trans ((fr_upd (t := 59) (v := v1236) rfl).trans ((fr_upd (t := 60) (v := .int .i64 ((x1228).length : Int)) rfl).trans ((fr_upd (t := 61) (v := .int .i64 (IntKind.i64.wrap (z1317 + (1:Int)))) rfl).trans rfl))))))), hst⟩
   ·skip
    replace hm := bif_f hc1326 hm
    refine wp_iff (congrArg Value.bool hc1326) ?_
    refine wp_exit (then_x (then_x ?_))
    replace hm := inr_up hm hx1324
    refine blk_x (blk_n (then_n (wp_region_lit ?_)))
    refine wv (.int .i64 (IntKind.i64.wrap (z1218 + (1:Int)))) rfl rfl rfl ?_
    refine wv (.int .i64 (IntKind.i64.wrap (z1218 + (1:Int)))) rfl rfl rfl ?_
    refine wl_nil (then_n ?_)
    replace hst := hst.keep1
    obtain rfl := some_inj hm
    exact ⟨_, Nat.lt_succ_self _, z1316, (IntKind.i64.wrap (z1218 + (1:Int))), _, hx1225, ((fr_upd (t := 0) (v := p0) rfl).trans ((fr_upd (t := 48) (v := r1_1) rfl).trans ((fr_upd (t := 49) (v := .int .i64 ((a1.Scans).length : Int)) rfl).trans ((fr_upd (t := 50) (v := .int .i64 (IntKind.i64.wrap (z1218 + (1:Int)))) rfl).trans rfl)))), hst⟩
  ·skip
   replace hm := bif_f hc1227 hm
   refine wp_iff (congrArg Value.bool hc1227) ?_
   refine wp_exit (then_x (then_x ?_))
   replace hm := inr_up hm hx1225
   refine blk_x ?_
   obtain rfl := some_inj hm
   refine post_end (vs := []) Try.results13 rvs_nil ?_
   exact ⟨rfl, hst.keep1⟩

theorem command_layRule_ref {w0 w : World} {I : HL} {R : SP} {a0 : octet_Writer} {p0 : Value} {a1 : api_Rule}  (hst : St w0 w I [at_octet_Writer p0 a0] R) {r : (octet_Writer)} (hm : command_layRule a0 a1 = some r) :
  Calls Try.prog 31 #[p0, .agg #[.int .u64 a1.ID, .int .i64 a1.From, .int .i64 a1.To, .float .f64 a1.Lo, .float .f64 a1.Hi, .int .u64 a1.Authority, .int .i64 a1.Quota]] w fun e w' => e = .returned (.tuple #[]) ∧ St w0 w' I [at_octet_Writer p0 r] R := by
 unfold command_layRule at hm
 refine calls_start (args := [p0, .agg #[.int .u64 a1.ID, .int .i64 a1.From, .int .i64 a1.To, .float .f64 a1.Lo, .float .f64 a1.Hi, .int .u64 a1.Authority, .int .i64 a1.Quota]]) Try.func31 rfl Try.ntmps31 (Nat.le_of_ble_eq_true rfl) ?_
 refine wp_seq (wp_region_lit ?_)
 obtain ⟨b339, w340, ew341, eb342, hst⟩ := hst.box [.int .u64 a1.ID, .int .i64 a1.From, .int .i64 a1.To, .float .f64 a1.Lo, .float .f64 a1.Hi, .int .u64 a1.Authority, .int .i64 a1.Quota] 43
 refine wl_run (v := .pointer (some ⟨b339, 0, none⟩)) (w' := w340) rfl rfl (x_al (by kernel_rfl) ew341 eb342) ?_
 refine wl_nil (then_n ?_)
 refine wp_region_St hst 27 [0, 1, 2, 3, 4, 5, 6, 7, 8, 9, 10, 11, 12, 13, 14, 15, 16, 17, 18, 19, 20, 21, 22, 23, 24, 25, 26] [0, 0, 2, 7, 0, 16, 48, 127, 0, 256, 768, 2047, 0, 4096, 16383, 32767, 0, 65536, 262143, 524287, 0, 1048576, 4194303, 0, 8388608, 25165824, 67108863] [] rfl (by kernel_rfl) (by kernel_rfl) Try.mixed (by kernel_rfl) ?_
 refine wsr (p0) 0 rfl rfl rfl (by kernel_rfl) (fun w hst => rfl) ?_
 refine wsr (.pointer (some ⟨b339, 0, none⟩)) 1 rfl rfl rfl (by kernel_rfl) (fun w hst => x_field rfl Try.underlying43 rfl Try.sizeOf27 rfl) ?_
 refine wsr (.int .u64 a1.ID) 2 rfl rfl rfl (by kernel_rfl) (fun w hst => x_load rfl Try.isAgg27 (hst.bc0 rfl)) ?_
 refine wsr (.pointer (some ⟨b339, 1, none⟩)) 4 rfl rfl rfl (by kernel_rfl) (fun w hst => x_field rfl Try.underlying43 rfl Try.sizeOf3 rfl) ?_
 refine wsr (.int .i64 a1.From) 5 rfl rfl rfl (by kernel_rfl) (fun w hst => x_load rfl Try.isAgg3 (hst.bc0 rfl)) ?_
 refine wsr (.int .u64 (IntKind.u64.wrap a1.From)) 6 rfl rfl rfl (by kernel_rfl) (fun w hst => by kernel_rfl) ?_
 refine wsr (.pointer (some ⟨b339, 2, none⟩)) 8 rfl rfl rfl (by kernel_rfl) (fun w hst => x_field rfl Try.underlying43 rfl Try.sizeOf3 rfl) ?_
 refine wsr (.int .i64 a1.To) 9 rfl rfl rfl (by kernel_rfl) (fun w hst => x_load rfl Try.isAgg3 (hst.bc0 rfl)) ?_
 refine wsr (.int .u64 (IntKind.u64.wrap a1.To)) 10 rfl rfl rfl (by kernel_rfl) (fun w hst => by kernel_rfl) ?_
 refine wsr (.pointer (some ⟨b339, 3, none⟩)) 12 rfl rfl rfl (by kernel_rfl) (fun w hst => x_field rfl Try.underlying43 rfl Try.sizeOf41 rfl) ?_
 refine wsr (.float .f64 a1.Lo) 13 rfl rfl rfl (by kernel_rfl) (fun w hst => x_load rfl Try.isAgg41 (hst.bc0 rfl)) ?_
 refine wsr (.pointer (some ⟨b339, 4, none⟩)) 16 rfl rfl rfl (by kernel_rfl) (fun w hst => x_field rfl Try.underlying43 rfl Try.sizeOf41 rfl) ?_
 refine wsr (.float .f64 a1.Hi) 17 rfl rfl rfl (by kernel_rfl) (fun w hst => x_load rfl Try.isAgg41 (hst.bc0 rfl)) ?_
 refine wsr (.pointer (some ⟨b339, 5, none⟩)) 20 rfl rfl rfl (by kernel_rfl) (fun w hst => x_field rfl Try.underlying43 rfl Try.sizeOf27 rfl) ?_
 refine wsr (.int .u64 a1.Authority) 21 rfl rfl rfl (by kernel_rfl) (fun w hst => x_load rfl Try.isAgg27 (hst.bc0 rfl)) ?_
 refine wsr (.pointer (some ⟨b339, 6, none⟩)) 23 rfl rfl rfl (by kernel_rfl) (fun w hst => x_field rfl Try.underlying43 rfl Try.sizeOf3 rfl) ?_
 refine wsr (.int .i64 a1.Quota) 24 rfl rfl rfl (by kernel_rfl) (fun w hst => x_load rfl Try.isAgg3 (hst.bc0 rfl)) ?_
 refine wsr (.int .u64 (IntKind.u64.wrap a1.Quota)) 25 rfl rfl rfl (by kernel_rfl) (fun w hst => by kernel_rfl) ?_
 refine ws_e1 3 (by kernel_rfl) ?_
 refine nxe [7, 11, 14, 15, 18, 19, 22, 26] (by kernel_rfl) rfl rfl ?_
 clear hst
 intro w hst
 replace hst := hst.pull1
 obtain ⟨t344, ht345, hm⟩ := bind_some hm
 refine we_call rfl (x_call Try.call27 rfl (vs := [p0, .int .u64 a1.ID, .int .i64 (8:Int)]) rfl) ?_
 refine (octet_Writer_Num_ref hst.to1 ht345).mono ?_
 rintro _ w346 ⟨rfl, hst⟩
 refine ⟨_, rfl, ?_⟩
 replace hst := hst.of1
 refine ws_next (pend' := [(25, .int .u64 (IntKind.u64.wrap a1.Quota)), (24, .int .i64 a1.Quota), (23, .pointer (some ⟨b339, 6, none⟩)), (21, .int .u64 a1.Authority), (20, .pointer (some ⟨b339, 5, none⟩)), (17, .float .f64 a1.Hi), (16, .pointer (some ⟨b339, 4, none⟩)), (13, .float .f64 a1.Lo), (12, .pointer (some ⟨b339, 3, none⟩)), (10, .int .u64 (IntKind.u64.wrap a1.To)), (9, .int .i64 a1.To), (8, .pointer (some ⟨b339, 2, none⟩)), (6, .int .u64 (IntKind.u64.wrap a1.From)), (5, .int .i64 a1.From), (4, .pointer (some ⟨b339, 1, none⟩))]) hst (by kernel_rfl) (pkr rfl rfl (fun w hst => by kernel_rfl) (pkr rfl rfl (fun w hst => x_load rfl Try.isAgg3 (hst.bc1 rfl)) (pkr rfl rfl (fun w hst => x_field rfl Try.underlying43 rfl Try.sizeOf3 rfl) (pkr rfl rfl (fun w hst => x_load rfl Try.isAgg27 (hst.bc1 rfl)) (pkr rfl rfl (fun w hst => x_field rfl Try.underlying43 rfl Try.sizeOf27 rfl) (pkr rfl rfl (fun w hst => x_load rfl Try.isAgg41 (hst.bc1 rfl)) (pkr rfl rfl (fun w hst => x_field rfl Try.underlying43 rfl Try.sizeOf41 rfl) (pkr rfl rfl (fun w hst => x_load rfl Try.isAgg41 (hst.bc1 rfl)) (pkr rfl rfl (fun w hst => x_field rfl Try.underlying43 rfl Try.sizeOf41 rfl) (pkr rfl rfl (fun w hst => by kernel_rfl) (pkr rfl rfl (fun w hst => x_load rfl Try.isAgg3 (hst.bc1 rfl)) (pkr rfl rfl (fun w hst => x_field rfl Try.underlying43 rfl Try.sizeOf3 rfl) (pkr rfl rfl (fun w hst => by kernel_rfl) (pkr rfl rfl (fun w hst => x_load rfl Try.isAgg3 (hst.bc1 rfl)) (pkr rfl rfl (fun w hst => x_field rfl Try.underlying43 rfl Try.sizeOf3 rfl) pk_nil))))))))))))))) ?_
 refine ws_e1 7 (by kernel_rfl) ?_
 refine nxe [11, 14, 15, 18, 19, 22, 26] (by kernel_rfl) rfl rfl ?_
 clear hst
 intro w hst
 obtain ⟨t349, ht350, hm⟩ := bind_some hm
 refine we_call rfl (x_call Try.call27 rfl (vs := [p0, .int .u64 (IntKind.u64.wrap a1.From), .int .i64 (1:Int)]) rfl) ?_
 refine (octet_Writer_Num_ref hst.to1 ht350).mono ?_
 rintro _ w351 ⟨rfl, hst⟩
 refine ⟨_, rfl, ?_⟩
 replace hst := hst.of1
 refine ws_next (pend' := [(25, .int .u64 (IntKind.u64.wrap a1.Quota)), (24, .int .i64 a1.Quota), (23, .pointer (some ⟨b339, 6, none⟩)), (21, .int .u64 a1.Authority), (20, .pointer (some ⟨b339, 5, none⟩)), (17, .float .f64 a1.Hi), (16, .pointer (some ⟨b339, 4, none⟩)), (13, .float .f64 a1.Lo), (12, .pointer (some ⟨b339, 3, none⟩)), (10, .int .u64 (IntKind.u64.wrap a1.To)), (9, .int .i64 a1.To), (8, .pointer (some ⟨b339, 2, none⟩))]) hst (by kernel_rfl) (pkr rfl rfl (fun w hst => by kernel_rfl) (pkr rfl rfl (fun w hst => x_load rfl Try.isAgg3 (hst.bc1 rfl)) (pkr rfl rfl (fun w hst => x_field rfl Try.underlying43 rfl Try.sizeOf3 rfl) (pkr rfl rfl (fun w hst => x_load rfl Try.isAgg27 (hst.bc1 rfl)) (pkr rfl rfl (fun w hst => x_field rfl Try.underlying43 rfl Try.sizeOf27 rfl) (pkr rfl rfl (fun w hst => x_load rfl Try.isAgg41 (hst.bc1 rfl)) (pkr rfl rfl (fun w hst => x_field rfl Try.underlying43 rfl Try.sizeOf41 rfl) (pkr rfl rfl (fun w hst => x_load rfl Try.isAgg41 (hst.bc1 rfl)) (pkr rfl rfl (fun w hst => x_field rfl Try.underlying43 rfl Try.sizeOf41 rfl) (pkr rfl rfl (fun w hst => by kernel_rfl) (pkr rfl rfl (fun w hst => x_load rfl Try.isAgg3 (hst.bc1 rfl)) (pkr rfl rfl (fun w hst => x_field rfl Try.underlying43 rfl Try.sizeOf3 rfl) pk_nil)))))))))))) ?_
 refine ws_e1 11 (by kernel_rfl) ?_
 refine nxe [14, 15, 18, 19, 22, 26] (by kernel_rfl) rfl rfl ?_
 clear hst
 intro w hst
 obtain ⟨t354, ht355, hm⟩ := bind_some hm
 refine we_call rfl (x_call Try.call27 rfl (vs := [p0, .int .u64 (IntKind.u64.wrap a1.To), .int .i64 (1:Int)]) rfl) ?_
 refine (octet_Writer_Num_ref hst.to1 ht355).mono ?_
 rintro _ w356 ⟨rfl, hst⟩
 refine ⟨_, rfl, ?_⟩
 replace hst := hst.of1
 refine ws_next (pend' := [(25, .int .u64 (IntKind.u64.wrap a1.Quota)), (24, .int .i64 a1.Quota), (23, .pointer (some ⟨b339, 6, none⟩)), (21, .int .u64 a1.Authority), (20, .pointer (some ⟨b339, 5, none⟩)), (17, .float .f64 a1.Hi), (16, .pointer (some ⟨b339, 4, none⟩)), (13, .float .f64 a1.Lo), (12, .pointer (some ⟨b339, 3, none⟩))]) hst (by kernel_rfl) (pkr rfl rfl (fun w hst => by kernel_rfl) (pkr rfl rfl (fun w hst => x_load rfl Try.isAgg3 (hst.bc1 rfl)) (pkr rfl rfl (fun w hst => x_field rfl Try.underlying43 rfl Try.sizeOf3 rfl) (pkr rfl rfl (fun w hst => x_load rfl Try.isAgg27 (hst.bc1 rfl)) (pkr rfl rfl (fun w hst => x_field rfl Try.underlying43 rfl Try.sizeOf27 rfl) (pkr rfl rfl (fun w hst => x_load rfl Try.isAgg41 (hst.bc1 rfl)) (pkr rfl rfl (fun w hst => x_field rfl Try.underlying43 rfl Try.sizeOf41 rfl) (pkr rfl rfl (fun w hst => x_load rfl Try.isAgg41 (hst.bc1 rfl)) (pkr rfl rfl (fun w hst => x_field rfl Try.underlying43 rfl Try.sizeOf41 rfl) pk_nil))))))))) ?_
 refine ws_e1 14 (by kernel_rfl) ?_
 refine nxe [15, 18, 19, 22, 26] (by kernel_rfl) rfl rfl ?_
 clear hst
 intro w hst
 obtain ⟨t359, ht360, hm⟩ := bind_some hm
 refine we_call rfl (x_call Try.call39 rfl (vs := [.float .f64 a1.Lo]) rfl) ?_
 refine (number_Rank_ref hst.to0 ht360).mono ?_
 rintro _ w361 ⟨rfl, hst⟩
 refine ⟨_, rfl, ?_⟩
 replace hst := hst.of0
 refine ws_next (pend' := [(25, .int .u64 (IntKind.u64.wrap a1.Quota)), (24, .int .i64 a1.Quota), (23, .pointer (some ⟨b339, 6, none⟩)), (21, .int .u64 a1.Authority), (20, .pointer (some ⟨b339, 5, none⟩)), (17, .float .f64 a1.Hi), (16, .pointer (some ⟨b339, 4, none⟩))]) hst (by kernel_rfl) (pkr rfl rfl (fun w hst => by kernel_rfl) (pkr rfl rfl (fun w hst => x_load rfl Try.isAgg3 (hst.bc1 rfl)) (pkr rfl rfl (fun w hst => x_field rfl Try.underlying43 rfl Try.sizeOf3 rfl) (pkr rfl rfl (fun w hst => x_load rfl Try.isAgg27 (hst.bc1 rfl)) (pkr rfl rfl (fun w hst => x_field rfl Try.underlying43 rfl Try.sizeOf27 rfl) (pkr rfl rfl (fun w hst => x_load rfl Try.isAgg41 (hst.bc1 rfl)) (pkr rfl rfl (fun w hst => x_field rfl Try.underlying43 rfl Try.sizeOf41 rfl) pk_nil))))))) ?_
 refine ws_e1 15 (by kernel_rfl) ?_
 refine nxe [18, 19, 22, 26] (by kernel_rfl) rfl rfl ?_
 clear hst
 intro w hst
 obtain ⟨t364, ht365, hm⟩ := bind_some hm
 refine we_call rfl (x_call Try.call27 rfl (vs := [p0, .int .u64 t359, .int .i64 (8:Int)]) rfl) ?_
 refine (octet_Writer_Num_ref hst.to1 ht365).mono ?_
 rintro _ w366 ⟨rfl, hst⟩
 refine ⟨_, rfl, ?_⟩
 replace hst := hst.of1
 refine ws_next (pend' := [(25, .int .u64 (IntKind.u64.wrap a1.Quota)), (24, .int .i64 a1.Quota), (23, .pointer (some ⟨b339, 6, none⟩)), (21, .int .u64 a1.Authority), (20, .pointer (some ⟨b339, 5, none⟩)), (17, .float .f64 a1.Hi), (16, .pointer (some ⟨b339, 4, none⟩))]) hst (by kernel_rfl) (pkr rfl rfl (fun w hst => by kernel_rfl) (pkr rfl rfl (fun w hst => x_load rfl Try.isAgg3 (hst.bc1 rfl)) (pkr rfl rfl (fun w hst => x_field rfl Try.underlying43 rfl Try.sizeOf3 rfl) (pkr rfl rfl (fun w hst => x_load rfl Try.isAgg27 (hst.bc1 rfl)) (pkr rfl rfl (fun w hst => x_field rfl Try.underlying43 rfl Try.sizeOf27 rfl) (pkr rfl rfl (fun w hst => x_load rfl Try.isAgg41 (hst.bc1 rfl)) (pkr rfl rfl (fun w hst => x_field rfl Try.underlying43 rfl Try.sizeOf41 rfl) pk_nil))))))) ?_
 refine ws_e1 18 (by kernel_rfl) ?_
 refine nxe [19, 22, 26] (by kernel_rfl) rfl rfl ?_
 clear hst
 intro w hst
 obtain ⟨t369, ht370, hm⟩ := bind_some hm
 refine we_call rfl (x_call Try.call39 rfl (vs := [.float .f64 a1.Hi]) rfl) ?_
 refine (number_Rank_ref hst.to0 ht370).mono ?_
 rintro _ w371 ⟨rfl, hst⟩
 refine ⟨_, rfl, ?_⟩
 replace hst := hst.of0
 refine ws_next (pend' := [(25, .int .u64 (IntKind.u64.wrap a1.Quota)), (24, .int .i64 a1.Quota), (23, .pointer (some ⟨b339, 6, none⟩)), (21, .int .u64 a1.Authority), (20, .pointer (some ⟨b339, 5, none⟩))]) hst (by kernel_rfl) (pkr rfl rfl (fun w hst => by kernel_rfl) (pkr rfl rfl (fun w hst => x_load rfl Try.isAgg3 (hst.bc1 rfl)) (pkr rfl rfl (fun w hst => x_field rfl Try.underlying43 rfl Try.sizeOf3 rfl) (pkr rfl rfl (fun w hst => x_load rfl Try.isAgg27 (hst.bc1 rfl)) (pkr rfl rfl (fun w hst => x_field rfl Try.underlying43 rfl Try.sizeOf27 rfl) pk_nil))))) ?_
 refine ws_e1 19 (by kernel_rfl) ?_
 refine nxe [22, 26] (by kernel_rfl) rfl rfl ?_
 clear hst
 intro w hst
 obtain ⟨t374, ht375, hm⟩ := bind_some hm
 refine we_call rfl (x_call Try.call27 rfl (vs := [p0, .int .u64 t369, .int .i64 (8:Int)]) rfl) ?_
 refine (octet_Writer_Num_ref hst.to1 ht375).mono ?_
 rintro _ w376 ⟨rfl, hst⟩
 refine ⟨_, rfl, ?_⟩
 replace hst := hst.of1
 refine ws_next (pend' := [(25, .int .u64 (IntKind.u64.wrap a1.Quota)), (24, .int .i64 a1.Quota), (23, .pointer (some ⟨b339, 6, none⟩)), (21, .int .u64 a1.Authority), (20, .pointer (some ⟨b339, 5, none⟩))]) hst (by kernel_rfl) (pkr rfl rfl (fun w hst => by kernel_rfl) (pkr rfl rfl (fun w hst => x_load rfl Try.isAgg3 (hst.bc1 rfl)) (pkr rfl rfl (fun w hst => x_field rfl Try.underlying43 rfl Try.sizeOf3 rfl) (pkr rfl rfl (fun w hst => x_load rfl Try.isAgg27 (hst.bc1 rfl)) (pkr rfl rfl (fun w hst => x_field rfl Try.underlying43 rfl Try.sizeOf27 rfl) pk_nil))))) ?_
 refine ws_e1 22 (by kernel_rfl) ?_
 refine nxe [26] (by kernel_rfl) rfl rfl ?_
 clear hst
 intro w hst
 obtain ⟨t379, ht380, hm⟩ := bind_some hm
 refine we_call rfl (x_call Try.call27 rfl (vs := [p0, .int .u64 a1.Authority, .int .i64 (8:Int)]) rfl) ?_
 refine (octet_Writer_Num_ref hst.to1 ht380).mono ?_
 rintro _ w381 ⟨rfl, hst⟩
 refine ⟨_, rfl, ?_⟩
 replace hst := hst.of1
 refine ws_next (pend' := [(25, .int .u64 (IntKind.u64.wrap a1.Quota)), (24, .int .i64 a1.Quota), (23, .pointer (some ⟨b339, 6, none⟩))]) hst (by kernel_rfl) (pkr rfl rfl (fun w hst => by kernel_rfl) (pkr rfl rfl (fun w hst => x_load rfl Try.isAgg3 (hst.bc1 rfl)) (pkr rfl rfl (fun w hst => x_field rfl Try.underlying43 rfl Try.sizeOf3 rfl) pk_nil))) ?_
 refine ws_e1 26 (by kernel_rfl) ?_
 refine nxe [] (by kernel_rfl) rfl rfl ?_
 clear hst
 intro w hst
 obtain ⟨t384, ht385, hm⟩ := bind_some hm
 refine we_call rfl (x_call Try.call27 rfl (vs := [p0, .int .u64 (IntKind.u64.wrap a1.Quota), .int .i64 (4:Int)]) rfl) ?_
 refine (octet_Writer_Num_ref hst.to1 ht385).mono ?_
 rintro _ w386 ⟨rfl, hst⟩
 refine ⟨_, rfl, ?_⟩
 replace hst := hst.of1
 refine ws_next (pend' := []) hst (by kernel_rfl) pk_nil ?_
 refine ws_nil ?_
 intro w hst
 obtain rfl := some_inj hm
 refine post_end (vs := []) Try.results31 rvs_nil ?_
 exact ⟨rfl, hst.keep1⟩

theorem command_Encode_ref {w0 w : World} {I : HL} {R : SP} {a0 : api_Command} {r0_0 : Value} {r0_1 : Value} {r0_2 : Value} {r0_3 : Value} {r0_4 : Value} {r0_5 : Value} {r0_6 : Value} {r0_7 : Value} (f0_0 : Rd tyF64 R I r0_0 a0.Hold.Gets) (f0_1 : Rd tyF2 R I r0_1 a0.Hold.Scans) (f0_2 : Rd tyF64 R I r0_2 a0.Hold.Puts) (f0_3 : Rd (tyInt .u8) R I r0_3 a0.Hold.Data) (f0_4 : Rd ty_api_Write R I r0_4 a0.Writes) (f0_5 : Rd ty_api_Got R I r0_5 a0.R.Gots) (f0_6 : Rd (tySl ty_api_Pair) R I r0_6 a0.R.Scans) (f0_7 : Rd ty_api_Part R I r0_7 a0.Parts) (hst : St w0 w I [] R) {r : ((List Int))} (hm : command_Encode a0 = some r) :
  Calls Try.prog 10 #[.agg #[.int .u8 a0.Kind, .int .u64 a0.ID.Session, .int .u64 a0.ID.Seq, .int .u64 a0.Epoch, .int .u64 a0.Index, .int .i64 a0.E, .int .u64 a0.Hold.ID.Session, .int .u64 a0.Hold.ID.Seq, .int .u64 a0.Hold.Epoch, r0_0, r0_1, r0_2, r0_3, r0_4, .int .i64 a0.R.E, .int .u64 a0.R.Epoch, .int .u64 a0.R.Index, r0_5, r0_6, .int .u64 a0.Shards, r0_7, .int .u64 a0.Rule.ID, .int .i64 a0.Rule.From, .int .i64 a0.Rule.To, .float .f64 a0.Rule.Lo, .float .f64 a0.Rule.Hi, .int .u64 a0.Rule.Authority, .int .i64 a0.Rule.Quota, .bool a0.On]] w fun e w' => ∃ (q0_0 : Value), e = .returned (q0_0) ∧ St w0 w' I [ownS (tyInt .u8) q0_0 r] R := by
 unfold command_Encode at hm
 refine calls_start (args := [.agg #[.int .u8 a0.Kind, .int .u64 a0.ID.Session, .int .u64 a0.ID.Seq, .int .u64 a0.Epoch, .int .u64 a0.Index, .int .i64 a0.E, .int .u64 a0.Hold.ID.Session, .int .u64 a0.Hold.ID.Seq, .int .u64 a0.Hold.Epoch, r0_0, r0_1, r0_2, r0_3, r0_4, .int .i64 a0.R.E, .int .u64 a0.R.Epoch, .int .u64 a0.R.Index, r0_5, r0_6, .int .u64 a0.Shards, r0_7, .int .u64 a0.Rule.ID, .int .i64 a0.Rule.From, .int .i64 a0.Rule.To, .float .f64 a0.Rule.Lo, .float .f64 a0.Rule.Hi, .int .u64 a0.Rule.Authority, .int .i64 a0.Rule.Quota, .bool a0.On]]) Try.func10 rfl Try.ntmps10 (Nat.le_of_ble_eq_true rfl) ?_
 refine wp_seq (wp_region_lit ?_)
 obtain ⟨b362, w363, ew364, eb365, hst⟩ := hst.box [.int .u8 a0.Kind, .int .u64 a0.ID.Session, .int .u64 a0.ID.Seq, .int .u64 a0.Epoch, .int .u64 a0.Index, .int .i64 a0.E, .int .u64 a0.Hold.ID.Session, .int .u64 a0.Hold.ID.Seq, .int .u64 a0.Hold.Epoch, r0_0, r0_1, r0_2, r0_3, r0_4, .int .i64 a0.R.E, .int .u64 a0.R.Epoch, .int .u64 a0.R.Index, r0_5, r0_6, .int .u64 a0.Shards, r0_7, .int .u64 a0.Rule.ID, .int .i64 a0.Rule.From, .int .i64 a0.Rule.To, .float .f64 a0.Rule.Lo, .float .f64 a0.Rule.Hi, .int .u64 a0.Rule.Authority, .int .i64 a0.Rule.Quota, .bool a0.On] 45
 refine wl_run (v := .pointer (some ⟨b362, 0, none⟩)) (w' := w363) rfl rfl (x_al (by kernel_rfl) ew364 eb365) ?_
 refine wv ((.slice none 0 0)) rfl rfl rfl ?_
 refine wl_nil (then_n (wp_seq (wp_region_lit ?_)))
 refine wv (.agg #[(.slice none 0 0)]) rfl rfl (by kernel_rfl) ?_
 obtain ⟨b369, w370, ew371, eb372, hst⟩ := hst.box [(.slice none 0 0)] 58
 refine wl_run (v := .pointer (some ⟨b369, 0, none⟩)) (w' := w370) rfl rfl (x_al (by kernel_rfl) ew371 eb372) ?_
 obtain ⟨b375, w376, ew377, eb378, hst⟩ := hst.box [.pointer none] 56
 refine wl_run (v := .pointer (some ⟨b375, 0, none⟩)) (w' := w376) rfl rfl (x_al (by kernel_rfl) ew377 eb378) ?_
 obtain ⟨w380, hr381, hst⟩ := hst.boxStore (P := Try.prog) (t := 56) (cs' := [.pointer (some ⟨b369, 0, none⟩)]) 0 (.pointer (some ⟨b369, 0, none⟩)) Try.sizeOf56 (Nat.le_of_ble_eq_true rfl) (ones_cons rfl ones_nil) (by kernel_rfl)
 refine wl_unit rfl rfl (x_unit hr381) ?_
 refine wl_nil (then_n (wp_seq (wp_region_lit ?_)))
 refine wv (.pointer (some ⟨b369, 0, none⟩)) rfl rfl (x_load rfl Try.isAgg56 (hst.bc0 rfl)) ?_
 refine wv (.pointer (some ⟨b362, 0, none⟩)) rfl rfl (x_field rfl Try.underlying45 rfl Try.sizeOf5 rfl) ?_
 refine wv (.int .u8 a0.Kind) rfl rfl (x_load rfl Try.isAgg5 (hst.bc2 rfl)) ?_
 refine wv (.int .u64 (IntKind.u64.wrap a0.Kind)) rfl rfl (by kernel_rfl) ?_
 replace hst := hst.own_nil (tyInt .u8)
 replace hst := hst.pull2
 replace hst := at_octet_Writer_close (pv := .pointer (some ⟨b369, 0, none⟩)) (x := ({ p := [] } : octet_Writer)) hst rfl
 obtain ⟨t382, ht383, hm⟩ := bind_some hm
 refine wl_call rfl rfl (x_call Try.call27 rfl (vs := [.pointer (some ⟨b369, 0, none⟩), .int .u64 (IntKind.u64.wrap a0.Kind), .int .i64 (1:Int)]) rfl) ?_
 refine (octet_Writer_Num_ref hst.to1 ht383).mono ?_
 rintro _ w384 ⟨rfl, hst⟩
 refine ⟨_, rfl, ?_⟩
 replace hst := hst.of1
 refine wl_nil (then_n (wp_seq (wp_region_lit ?_)))
 refine wv (.func (.func 28) #[] #[.pointer (some ⟨b375, 0, none⟩), .pointer (some ⟨b362, 0, none⟩)]) rfl rfl (by kernel_rfl) ?_
 refine wv (.func (.func 28) #[] #[.pointer (some ⟨b375, 0, none⟩), .pointer (some ⟨b362, 0, none⟩)]) rfl rfl rfl ?_
 refine wl_nil (then_n (wp_seq (wp_seq (wp_region_lit ?_))))
 refine wv (.pointer (some ⟨b362, 0, none⟩)) rfl rfl (x_field rfl Try.underlying45 rfl Try.sizeOf5 rfl) ?_
 refine wv (.int .u8 a0.Kind) rfl rfl (x_load rfl Try.isAgg5 (hst.bc2 rfl)) ?_
 refine wl_nil (then_n (wp_block (wp_seq (wp_region_lit ?_))))
 refine wv (.bool (a0.Kind == (1:Int))) rfl rfl rfl ?_
 refine wv (.bool (a0.Kind == (1:Int))) rfl rfl rfl ?_
 refine wl_nil (then_n ?_)
 refine bsplit (a0.Kind == (1:Int)) (fun hc387 => ?_) (fun hc387 => ?_)
 ·skip
  replace hm := bif_t hc387 hm
  refine wp_ift (congrArg Value.bool hc387) ?_
  refine wp_region_lit ?_
  refine wv (.pointer (some ⟨b369, 0, none⟩)) rfl rfl (x_load rfl Try.isAgg56 (hst.bc1 rfl)) ?_
  refine wv (.pointer (some ⟨b362, 3, none⟩)) rfl rfl (x_field rfl Try.underlying45 rfl Try.sizeOf27 rfl) ?_
  refine wv (.int .u64 a0.Epoch) rfl rfl (x_load rfl Try.isAgg27 (hst.bc2 rfl)) ?_
  obtain ⟨t388, ht389, hm⟩ := bind_some hm
  refine wl_call rfl rfl (x_call Try.call27 rfl (vs := [.pointer (some ⟨b369, 0, none⟩), .int .u64 a0.Epoch, .int .i64 (8:Int)]) rfl) ?_
  refine (octet_Writer_Num_ref hst.to1 ht389).mono ?_
  rintro _ w390 ⟨rfl, hst⟩
  refine ⟨_, rfl, ?_⟩
  replace hst := hst.of1
  refine wl_nil (blk_n (then_n (wp_seq (wp_region_lit ?_))))
  refine wv (.pointer (some ⟨b369, 0, none⟩)) rfl rfl (x_load rfl Try.isAgg56 (hst.bc1 rfl)) ?_
  obtain ⟨t393, ht394, hm⟩ := bind_some hm
  refine wl_call rfl rfl (x_call Try.call14 rfl (vs := [.pointer (some ⟨b369, 0, none⟩)]) rfl) ?_
  refine (octet_Writer_Done_ref hst.to1 ht394).mono ?_
  rintro _ w395 ⟨v398, rfl, hst⟩
  refine ⟨_, rfl, ?_⟩
  replace hst := hst.of1
  refine wv (v398) rfl rfl rfl ?_
  refine wl_nil (then_n (wp_ret ?_))
  obtain rfl := some_inj hm
  refine post_ret (vs := [v398]) Try.results10 (rvs_cons (rv_tmp rfl) rvs_nil) ?_
  exact ⟨v398, rfl, hst.keep1⟩
 ·skip
  replace hm := bif_f hc387 hm
  refine wp_iff (congrArg Value.bool hc387) ?_
  refine wp_seq (wp_region_lit ?_)
  refine wv (.bool (a0.Kind == (2:Int))) rfl rfl rfl ?_
  refine wv (.bool (a0.Kind == (2:Int))) rfl rfl rfl ?_
  refine wl_nil (then_n ?_)
  refine bsplit (a0.Kind == (2:Int)) (fun hc400 => ?_) (fun hc400 => ?_)
  ·skip
   replace hm := bif_t hc400 hm
   refine wp_ift (congrArg Value.bool hc400) ?_
   refine wp_region_lit ?_
   refine wv (.pointer (some ⟨b369, 0, none⟩)) rfl rfl (x_load rfl Try.isAgg56 (hst.bc1 rfl)) ?_
   refine wv (.pointer (some ⟨b362, 6, none⟩)) rfl rfl (x_field rfl Try.underlying45 rfl Try.sizeOf34 rfl) ?_
   refine wv (.agg #[.int .u64 a0.Hold.ID.Session, .int .u64 a0.Hold.ID.Seq, .int .u64 a0.Hold.Epoch, r0_0, r0_1, r0_2, r0_3]) rfl rfl (x_loadN (cs := [.int .u64 a0.Hold.ID.Session, .int .u64 a0.Hold.ID.Seq, .int .u64 a0.Hold.Epoch, r0_0, r0_1, r0_2, r0_3]) rfl Try.isAgg34 Try.sizeOf34 (hst.bcs2 6 rfl)) ?_
   obtain ⟨t401, ht402, hm⟩ := bind_some hm
   refine wl_call rfl rfl (x_call Try.call29 rfl (vs := [.pointer (some ⟨b369, 0, none⟩), .agg #[.int .u64 a0.Hold.ID.Session, .int .u64 a0.Hold.ID.Seq, .int .u64 a0.Hold.Epoch, r0_0, r0_1, r0_2, r0_3]]) rfl) ?_
   refine (locks_Lay_ref (f0_0.mono (rd_weak _)) (f0_1.mono (rd_weak _)) (f0_2.mono (rd_weak _)) (f0_3.mono (rd_weak _)) hst.to1 ht402).mono ?_
   rintro _ w403 ⟨rfl, hst⟩
   refine ⟨_, rfl, ?_⟩
   replace hst := hst.of1
   refine wl_nil (blk_n (then_n (wp_seq (wp_region_lit ?_))))
   refine wv (.pointer (some ⟨b369, 0, none⟩)) rfl rfl (x_load rfl Try.isAgg56 (hst.bc1 rfl)) ?_
   obtain ⟨t406, ht407, hm⟩ := bind_some hm
   refine wl_call rfl rfl (x_call Try.call14 rfl (vs := [.pointer (some ⟨b369, 0, none⟩)]) rfl) ?_
   refine (octet_Writer_Done_ref hst.to1 ht407).mono ?_
   rintro _ w408 ⟨v411, rfl, hst⟩
   refine ⟨_, rfl, ?_⟩
   replace hst := hst.of1
   refine wv (v411) rfl rfl rfl ?_
   refine wl_nil (then_n (wp_ret ?_))
   obtain rfl := some_inj hm
   refine post_ret (vs := [v411]) Try.results10 (rvs_cons (rv_tmp rfl) rvs_nil) ?_
   exact ⟨v411, rfl, hst.keep1⟩
  ·skip
   replace hm := bif_f hc400 hm
   refine wp_iff (congrArg Value.bool hc400) ?_
   refine wp_seq (wp_region_lit ?_)
   refine wv (.bool (a0.Kind == (3:Int))) rfl rfl rfl ?_
   refine wv (.bool (a0.Kind == (3:Int))) rfl rfl rfl ?_
   refine wl_nil (then_n ?_)
   refine bsplit (a0.Kind == (3:Int)) (fun hc413 => ?_) (fun hc413 => ?_)
   ·skip
    replace hm := bif_t hc413 hm
    refine wp_ift (congrArg Value.bool hc413) ?_
    refine wp_seq (wp_region_lit ?_)
    refine wv (.func (.func 28) #[] #[.pointer (some ⟨b375, 0, none⟩), .pointer (some ⟨b362, 0, none⟩)]) rfl rfl rfl ?_
    obtain ⟨y426, hq427, hm⟩ := bind_some hm
    refine wl_call rfl rfl (x_callv Try.call28 (caps := [.pointer (some ⟨b375, 0, none⟩), .pointer (some ⟨b362, 0, none⟩)]) rfl (vs := []) rfl) ?_
    refine Calls.mono (show Calls Try.prog 28 #[.pointer (some ⟨b375, 0, none⟩), .pointer (some ⟨b362, 0, none⟩)] _ (fun e w' => ∃ (z424 : octet_Writer), y426 = z424 ∧ e = .returned (.tuple #[]) ∧ St w0 w' I [cells b362 [.int .u8 a0.Kind, .int .u64 a0.ID.Session, .int .u64 a0.ID.Seq, .int .u64 a0.Epoch, .int .u64 a0.Index, .int .i64 a0.E, .int .u64 a0.Hold.ID.Session, .int .u64 a0.Hold.ID.Seq, .int .u64 a0.Hold.Epoch, r0_0, r0_1, r0_2, r0_3, r0_4, .int .i64 a0.R.E, .int .u64 a0.R.Epoch, .int .u64 a0.R.Index, r0_5, r0_6, .int .u64 a0.Shards, r0_7, .int .u64 a0.Rule.ID, .int .i64 a0.Rule.From, .int .i64 a0.Rule.To, .float .f64 a0.Rule.Lo, .float .f64 a0.Rule.Hi, .int .u64 a0.Rule.Authority, .int .i64 a0.Rule.Quota, .bool a0.On], at_octet_Writer (.pointer (some ⟨b369, 0, none⟩)) z424, cells b375 [.pointer (some ⟨b369, 0, none⟩)]] R) from ?_) ?_
    ·skip
     clear hm; have hm := hq427
     refine calls_start (args := [.pointer (some ⟨b375, 0, none⟩), .pointer (some ⟨b362, 0, none⟩)]) Try.func28 rfl Try.ntmps28 (Nat.le_of_ble_eq_true rfl) ?_
     refine wp_region_St hst 9 [0, 1, 2, 3, 4, 5, 6, 7, 8] [0, 0, 2, 6, 15, 0, 32, 96, 255] [] rfl (by kernel_rfl) (by kernel_rfl) Try.mixed (by kernel_rfl) ?_
     refine wsr (.pointer (some ⟨b369, 0, none⟩)) 0 rfl rfl rfl (by kernel_rfl) (fun w hst => x_load rfl Try.isAgg56 (hst.bc1 rfl)) ?_
     refine wsr (.pointer (some ⟨b362, 1, none⟩)) 1 rfl rfl rfl (by kernel_rfl) (fun w hst => x_field rfl Try.underlying45 rfl Try.sizeOf29 rfl) ?_
     refine wsr (.pointer (some ⟨b362, 1, none⟩)) 2 rfl rfl rfl (by kernel_rfl) (fun w hst => x_field rfl Try.underlying29 rfl Try.sizeOf27 rfl) ?_
     refine wsr (.int .u64 a0.ID.Session) 3 rfl rfl rfl (by kernel_rfl) (fun w hst => x_load rfl Try.isAgg27 (hst.bc2 rfl)) ?_
     refine wsr (.pointer (some ⟨b362, 1, none⟩)) 5 rfl rfl rfl (by kernel_rfl) (fun w hst => x_field rfl Try.underlying45 rfl Try.sizeOf29 rfl) ?_
     refine wsr (.pointer (some ⟨b362, 2, none⟩)) 6 rfl rfl rfl (by kernel_rfl) (fun w hst => x_field rfl Try.underlying29 rfl Try.sizeOf27 rfl) ?_
     refine wsr (.int .u64 a0.ID.Seq) 7 rfl rfl rfl (by kernel_rfl) (fun w hst => x_load rfl Try.isAgg27 (hst.bc2 rfl)) ?_
     refine ws_e1 4 (by kernel_rfl) ?_
     refine nxe [8] (by kernel_rfl) rfl rfl ?_
     clear hst
     intro w hst
     obtain ⟨t414, ht415, hm⟩ := bind_some hm
     refine we_call rfl (x_call Try.call27 rfl (vs := [.pointer (some ⟨b369, 0, none⟩), .int .u64 a0.ID.Session, .int .i64 (8:Int)]) rfl) ?_
     refine (octet_Writer_Num_ref hst.to1 ht415).mono ?_
     rintro _ w416 ⟨rfl, hst⟩
     refine ⟨_, rfl, ?_⟩
     replace hst := hst.of1
     refine ws_next (pend' := [(7, .int .u64 a0.ID.Seq), (6, .pointer (some ⟨b362, 2, none⟩)), (5, .pointer (some ⟨b362, 1, none⟩))]) hst (by kernel_rfl) (pkr rfl rfl (fun w hst => x_load rfl Try.isAgg27 (hst.bc2 rfl)) (pkr rfl rfl (fun w hst => x_field rfl Try.underlying29 rfl Try.sizeOf27 rfl) (pkr rfl rfl (fun w hst => x_field rfl Try.underlying45 rfl Try.sizeOf29 rfl) pk_nil))) ?_
     refine ws_e1 8 (by kernel_rfl) ?_
     refine nxe [] (by kernel_rfl) rfl rfl ?_
     clear hst
     intro w hst
     obtain ⟨t419, ht420, hm⟩ := bind_some hm
     refine we_call rfl (x_call Try.call27 rfl (vs := [.pointer (some ⟨b369, 0, none⟩), .int .u64 a0.ID.Seq, .int .i64 (8:Int)]) rfl) ?_
     refine (octet_Writer_Num_ref hst.to1 ht420).mono ?_
     rintro _ w421 ⟨rfl, hst⟩
     refine ⟨_, rfl, ?_⟩
     replace hst := hst.of1
     refine ws_next (pend' := []) hst (by kernel_rfl) pk_nil ?_
     refine ws_nil ?_
     intro w hst
     refine post_end (vs := []) Try.results28 rvs_nil ?_
     replace hst := hst.pull1
     replace hst := hst.pull1
     replace hst := hst.pull2
     replace hst := hst.keep3
     obtain rfl := some_inj hm
     exact ⟨t419, rfl, rfl, hst⟩
    clear hst
    rintro _ w428 ⟨z424, rfl, rfl, hst⟩
    refine ⟨_, rfl, ?_⟩
    try dsimp only at hm
    refine wl_nil (then_n (wp_seq ?_))
    refine wp_region_St hst 11 [0, 1, 2, 3, 4, 5, 6, 7, 8, 9, 10] [0, 0, 2, 6, 15, 0, 32, 127, 0, 256, 1023] [] rfl (by kernel_rfl) (by kernel_rfl) Try.mixed (by kernel_rfl) ?_
    refine wsr (.pointer (some ⟨b369, 0, none⟩)) 0 rfl rfl rfl (by kernel_rfl) (fun w hst => x_load rfl Try.isAgg56 (hst.bc2 rfl)) ?_
    refine wsr (.pointer (some ⟨b362, 5, none⟩)) 1 rfl rfl rfl (by kernel_rfl) (fun w hst => x_field rfl Try.underlying45 rfl Try.sizeOf30 rfl) ?_
    refine wsr (.int .i64 a0.E) 2 rfl rfl rfl (by kernel_rfl) (fun w hst => x_load rfl Try.isAgg30 (hst.bc0 rfl)) ?_
    refine wsr (.int .u64 (IntKind.u64.wrap a0.E)) 3 rfl rfl rfl (by kernel_rfl) (fun w hst => by kernel_rfl) ?_
    refine wsr (.pointer (some ⟨b362, 3, none⟩)) 5 rfl rfl rfl (by kernel_rfl) (fun w hst => x_field rfl Try.underlying45 rfl Try.sizeOf27 rfl) ?_
    refine wsr (.int .u64 a0.Epoch) 6 rfl rfl rfl (by kernel_rfl) (fun w hst => x_load rfl Try.isAgg27 (hst.bc0 rfl)) ?_
    refine wsr (.pointer (some ⟨b362, 4, none⟩)) 8 rfl rfl rfl (by kernel_rfl) (fun w hst => x_field rfl Try.underlying45 rfl Try.sizeOf27 rfl) ?_
    refine wsr (.int .u64 a0.Index) 9 rfl rfl rfl (by kernel_rfl) (fun w hst => x_load rfl Try.isAgg27 (hst.bc0 rfl)) ?_
    refine ws_e1 4 (by kernel_rfl) ?_
    refine nxe [7, 10] (by kernel_rfl) rfl rfl ?_
    clear hst
    intro w hst
    replace hst := hst.pull1
    obtain ⟨t429, ht430, hm⟩ := bind_some hm
    refine we_call rfl (x_call Try.call27 rfl (vs := [.pointer (some ⟨b369, 0, none⟩), .int .u64 (IntKind.u64.wrap a0.E), .int .i64 (1:Int)]) rfl) ?_
    refine (octet_Writer_Num_ref hst.to1 ht430).mono ?_
    rintro _ w431 ⟨rfl, hst⟩
    refine ⟨_, rfl, ?_⟩
    replace hst := hst.of1
    refine ws_next (pend' := [(9, .int .u64 a0.Index), (8, .pointer (some ⟨b362, 4, none⟩)), (6, .int .u64 a0.Epoch), (5, .pointer (some ⟨b362, 3, none⟩))]) hst (by kernel_rfl) (pkr rfl rfl (fun w hst => x_load rfl Try.isAgg27 (hst.bc1 rfl)) (pkr rfl rfl (fun w hst => x_field rfl Try.underlying45 rfl Try.sizeOf27 rfl) (pkr rfl rfl (fun w hst => x_load rfl Try.isAgg27 (hst.bc1 rfl)) (pkr rfl rfl (fun w hst => x_field rfl Try.underlying45 rfl Try.sizeOf27 rfl) pk_nil)))) ?_
    refine ws_e1 7 (by kernel_rfl) ?_
    refine nxe [10] (by kernel_rfl) rfl rfl ?_
    clear hst
    intro w hst
    obtain ⟨t434, ht435, hm⟩ := bind_some hm
    refine we_call rfl (x_call Try.call27 rfl (vs := [.pointer (some ⟨b369, 0, none⟩), .int .u64 a0.Epoch, .int .i64 (8:Int)]) rfl) ?_
    refine (octet_Writer_Num_ref hst.to1 ht435).mono ?_
    rintro _ w436 ⟨rfl, hst⟩
    refine ⟨_, rfl, ?_⟩
    replace hst := hst.of1
    refine ws_next (pend' := [(9, .int .u64 a0.Index), (8, .pointer (some ⟨b362, 4, none⟩))]) hst (by kernel_rfl) (pkr rfl rfl (fun w hst => x_load rfl Try.isAgg27 (hst.bc1 rfl)) (pkr rfl rfl (fun w hst => x_field rfl Try.underlying45 rfl Try.sizeOf27 rfl) pk_nil)) ?_
    refine ws_e1 10 (by kernel_rfl) ?_
    refine nxe [] (by kernel_rfl) rfl rfl ?_
    clear hst
    intro w hst
    obtain ⟨t439, ht440, hm⟩ := bind_some hm
    refine we_call rfl (x_call Try.call27 rfl (vs := [.pointer (some ⟨b369, 0, none⟩), .int .u64 a0.Index, .int .i64 (8:Int)]) rfl) ?_
    refine (octet_Writer_Num_ref hst.to1 ht440).mono ?_
    rintro _ w441 ⟨rfl, hst⟩
    refine ⟨_, rfl, ?_⟩
    replace hst := hst.of1
    refine ws_next (pend' := []) hst (by kernel_rfl) pk_nil ?_
    refine ws_nil ?_
    intro w hst
    refine then_n (wp_region_lit ?_)
    refine wv (.pointer (some ⟨b369, 0, none⟩)) rfl rfl (x_load rfl Try.isAgg56 (hst.bc2 rfl)) ?_
    refine wv (.pointer (some ⟨b362, 13, none⟩)) rfl rfl (x_field rfl Try.underlying45 rfl Try.sizeOf35 rfl) ?_
    refine wv (r0_4) rfl rfl (x_load rfl Try.isAgg35 (hst.bc1 rfl)) ?_
    obtain ⟨t444, ht445, hm⟩ := bind_some hm
    refine wl_call rfl rfl (x_call Try.call30 rfl (vs := [.pointer (some ⟨b369, 0, none⟩), r0_4]) rfl) ?_
    refine (command_writes_ref (f0_4.mono (rd_weak _)) hst.to1 ht445).mono ?_
    rintro _ w446 ⟨rfl, hst⟩
    refine ⟨_, rfl, ?_⟩
    replace hst := hst.of1
    refine wl_nil (blk_n (then_n (wp_seq (wp_region_lit ?_))))
    refine wv (.pointer (some ⟨b369, 0, none⟩)) rfl rfl (x_load rfl Try.isAgg56 (hst.bc2 rfl)) ?_
    obtain ⟨t449, ht450, hm⟩ := bind_some hm
    refine wl_call rfl rfl (x_call Try.call14 rfl (vs := [.pointer (some ⟨b369, 0, none⟩)]) rfl) ?_
    refine (octet_Writer_Done_ref hst.to1 ht450).mono ?_
    rintro _ w451 ⟨v454, rfl, hst⟩
    refine ⟨_, rfl, ?_⟩
    replace hst := hst.of1
    refine wv (v454) rfl rfl rfl ?_
    refine wl_nil (then_n (wp_ret ?_))
    obtain rfl := some_inj hm
    refine post_ret (vs := [v454]) Try.results10 (rvs_cons (rv_tmp rfl) rvs_nil) ?_
    exact ⟨v454, rfl, hst.keep1⟩
   ·skip
    replace hm := bif_f hc413 hm
    refine wp_iff (congrArg Value.bool hc413) ?_
    refine wp_seq (wp_region_lit ?_)
    refine wv (.bool (a0.Kind == (4:Int))) rfl rfl rfl ?_
    refine wv (.bool (a0.Kind == (4:Int))) rfl rfl rfl ?_
    refine wl_nil (then_n ?_)
    refine bsplit (a0.Kind == (4:Int)) (fun hc456 => ?_) (fun hc456 => ?_)
    ·skip
     replace hm := bif_t hc456 hm
     refine wp_ift (congrArg Value.bool hc456) ?_
     refine wp_seq (wp_region_lit ?_)
     refine wv (.func (.func 28) #[] #[.pointer (some ⟨b375, 0, none⟩), .pointer (some ⟨b362, 0, none⟩)]) rfl rfl rfl ?_
     obtain ⟨y469, hq470, hm⟩ := bind_some hm
     refine wl_call rfl rfl (x_callv Try.call28 (caps := [.pointer (some ⟨b375, 0, none⟩), .pointer (some ⟨b362, 0, none⟩)]) rfl (vs := []) rfl) ?_
     refine Calls.mono (show Calls Try.prog 28 #[.pointer (some ⟨b375, 0, none⟩), .pointer (some ⟨b362, 0, none⟩)] _ (fun e w' => ∃ (z467 : octet_Writer), y469 = z467 ∧ e = .returned (.tuple #[]) ∧ St w0 w' I [cells b362 [.int .u8 a0.Kind, .int .u64 a0.ID.Session, .int .u64 a0.ID.Seq, .int .u64 a0.Epoch, .int .u64 a0.Index, .int .i64 a0.E, .int .u64 a0.Hold.ID.Session, .int .u64 a0.Hold.ID.Seq, .int .u64 a0.Hold.Epoch, r0_0, r0_1, r0_2, r0_3, r0_4, .int .i64 a0.R.E, .int .u64 a0.R.Epoch, .int .u64 a0.R.Index, r0_5, r0_6, .int .u64 a0.Shards, r0_7, .int .u64 a0.Rule.ID, .int .i64 a0.Rule.From, .int .i64 a0.Rule.To, .float .f64 a0.Rule.Lo, .float .f64 a0.Rule.Hi, .int .u64 a0.Rule.Authority, .int .i64 a0.Rule.Quota, .bool a0.On], at_octet_Writer (.pointer (some ⟨b369, 0, none⟩)) z467, cells b375 [.pointer (some ⟨b369, 0, none⟩)]] R) from ?_) ?_
     ·skip
      clear hm; have hm := hq470
      refine calls_start (args := [.pointer (some ⟨b375, 0, none⟩), .pointer (some ⟨b362, 0, none⟩)]) Try.func28 rfl Try.ntmps28 (Nat.le_of_ble_eq_true rfl) ?_
      refine wp_region_St hst 9 [0, 1, 2, 3, 4, 5, 6, 7, 8] [0, 0, 2, 6, 15, 0, 32, 96, 255] [] rfl (by kernel_rfl) (by kernel_rfl) Try.mixed (by kernel_rfl) ?_
      refine wsr (.pointer (some ⟨b369, 0, none⟩)) 0 rfl rfl rfl (by kernel_rfl) (fun w hst => x_load rfl Try.isAgg56 (hst.bc1 rfl)) ?_
      refine wsr (.pointer (some ⟨b362, 1, none⟩)) 1 rfl rfl rfl (by kernel_rfl) (fun w hst => x_field rfl Try.underlying45 rfl Try.sizeOf29 rfl) ?_
      refine wsr (.pointer (some ⟨b362, 1, none⟩)) 2 rfl rfl rfl (by kernel_rfl) (fun w hst => x_field rfl Try.underlying29 rfl Try.sizeOf27 rfl) ?_
      refine wsr (.int .u64 a0.ID.Session) 3 rfl rfl rfl (by kernel_rfl) (fun w hst => x_load rfl Try.isAgg27 (hst.bc2 rfl)) ?_
      refine wsr (.pointer (some ⟨b362, 1, none⟩)) 5 rfl rfl rfl (by kernel_rfl) (fun w hst => x_field rfl Try.underlying45 rfl Try.sizeOf29 rfl) ?_
      refine wsr (.pointer (some ⟨b362, 2, none⟩)) 6 rfl rfl rfl (by kernel_rfl) (fun w hst => x_field rfl Try.underlying29 rfl Try.sizeOf27 rfl) ?_
      refine wsr (.int .u64 a0.ID.Seq) 7 rfl rfl rfl (by kernel_rfl) (fun w hst => x_load rfl Try.isAgg27 (hst.bc2 rfl)) ?_
      refine ws_e1 4 (by kernel_rfl) ?_
      refine nxe [8] (by kernel_rfl) rfl rfl ?_
      clear hst
      intro w hst
      obtain ⟨t457, ht458, hm⟩ := bind_some hm
      refine we_call rfl (x_call Try.call27 rfl (vs := [.pointer (some ⟨b369, 0, none⟩), .int .u64 a0.ID.Session, .int .i64 (8:Int)]) rfl) ?_
      refine (octet_Writer_Num_ref hst.to1 ht458).mono ?_
      rintro _ w459 ⟨rfl, hst⟩
      refine ⟨_, rfl, ?_⟩
      replace hst := hst.of1
      refine ws_next (pend' := [(7, .int .u64 a0.ID.Seq), (6, .pointer (some ⟨b362, 2, none⟩)), (5, .pointer (some ⟨b362, 1, none⟩))]) hst (by kernel_rfl) (pkr rfl rfl (fun w hst => x_load rfl Try.isAgg27 (hst.bc2 rfl)) (pkr rfl rfl (fun w hst => x_field rfl Try.underlying29 rfl Try.sizeOf27 rfl) (pkr rfl rfl (fun w hst => x_field rfl Try.underlying45 rfl Try.sizeOf29 rfl) pk_nil))) ?_
      refine ws_e1 8 (by kernel_rfl) ?_
      refine nxe [] (by kernel_rfl) rfl rfl ?_
      clear hst
      intro w hst
      obtain ⟨t462, ht463, hm⟩ := bind_some hm
      refine we_call rfl (x_call Try.call27 rfl (vs := [.pointer (some ⟨b369, 0, none⟩), .int .u64 a0.ID.Seq, .int .i64 (8:Int)]) rfl) ?_
      refine (octet_Writer_Num_ref hst.to1 ht463).mono ?_
      rintro _ w464 ⟨rfl, hst⟩
      refine ⟨_, rfl, ?_⟩
      replace hst := hst.of1
      refine ws_next (pend' := []) hst (by kernel_rfl) pk_nil ?_
      refine ws_nil ?_
      intro w hst
      refine post_end (vs := []) Try.results28 rvs_nil ?_
      replace hst := hst.pull1
      replace hst := hst.pull1
      replace hst := hst.pull2
      replace hst := hst.keep3
      obtain rfl := some_inj hm
      exact ⟨t462, rfl, rfl, hst⟩
     clear hst
     rintro _ w471 ⟨z467, rfl, rfl, hst⟩
     refine ⟨_, rfl, ?_⟩
     try dsimp only at hm
     refine wl_nil (then_n (wp_seq ?_))
     refine wp_region_St hst 12 [0, 1, 2, 3, 4, 5, 6, 7, 8, 9, 10, 11] [0, 0, 2, 7, 0, 16, 63, 0, 128, 384, 896, 2047] [] rfl (by kernel_rfl) (by kernel_rfl) Try.mixed (by kernel_rfl) ?_
     refine wsr (.pointer (some ⟨b369, 0, none⟩)) 0 rfl rfl rfl (by kernel_rfl) (fun w hst => x_load rfl Try.isAgg56 (hst.bc2 rfl)) ?_
     refine wsr (.pointer (some ⟨b362, 3, none⟩)) 1 rfl rfl rfl (by kernel_rfl) (fun w hst => x_field rfl Try.underlying45 rfl Try.sizeOf27 rfl) ?_
     refine wsr (.int .u64 a0.Epoch) 2 rfl rfl rfl (by kernel_rfl) (fun w hst => x_load rfl Try.isAgg27 (hst.bc0 rfl)) ?_
     refine wsr (.pointer (some ⟨b362, 19, none⟩)) 4 rfl rfl rfl (by kernel_rfl) (fun w hst => x_field rfl Try.underlying45 rfl Try.sizeOf27 rfl) ?_
     refine wsr (.int .u64 a0.Shards) 5 rfl rfl rfl (by kernel_rfl) (fun w hst => x_load rfl Try.isAgg27 (hst.bc0 rfl)) ?_
     refine wsr (.pointer (some ⟨b362, 20, none⟩)) 7 rfl rfl rfl (by kernel_rfl) (fun w hst => x_field rfl Try.underlying45 rfl Try.sizeOf40 rfl) ?_
     refine wsr (r0_7) 8 rfl rfl rfl (by kernel_rfl) (fun w hst => x_load rfl Try.isAgg40 (hst.bc0 rfl)) ?_
     refine wsr (.int .i64 ((a0.Parts).length : Int)) 9 rfl rfl rfl (by kernel_rfl) (fun w hst => x_len rfl Try.underlying40 (rd_sliceV f0_7)) ?_
     refine wsr (.int .u64 (IntKind.u64.wrap ((a0.Parts).length : Int))) 10 rfl rfl rfl (by kernel_rfl) (fun w hst => by kernel_rfl) ?_
     refine ws_e1 3 (by kernel_rfl) ?_
     refine nxe [6, 11] (by kernel_rfl) rfl rfl ?_
     clear hst
     intro w hst
     replace hst := hst.pull1
     obtain ⟨t472, ht473, hm⟩ := bind_some hm
     refine we_call rfl (x_call Try.call27 rfl (vs := [.pointer (some ⟨b369, 0, none⟩), .int .u64 a0.Epoch, .int .i64 (8:Int)]) rfl) ?_
     refine (octet_Writer_Num_ref hst.to1 ht473).mono ?_
     rintro _ w474 ⟨rfl, hst⟩
     refine ⟨_, rfl, ?_⟩
     replace hst := hst.of1
     refine ws_next (pend' := [(10, .int .u64 (IntKind.u64.wrap ((a0.Parts).length : Int))), (9, .int .i64 ((a0.Parts).length : Int)), (8, r0_7), (7, .pointer (some ⟨b362, 20, none⟩)), (5, .int .u64 a0.Shards), (4, .pointer (some ⟨b362, 19, none⟩))]) hst (by kernel_rfl) (pkr rfl rfl (fun w hst => by kernel_rfl) (pkr rfl rfl (fun w hst => x_len rfl Try.underlying40 (rd_sliceV f0_7)) (pkr rfl rfl (fun w hst => x_load rfl Try.isAgg40 (hst.bc1 rfl)) (pkr rfl rfl (fun w hst => x_field rfl Try.underlying45 rfl Try.sizeOf40 rfl) (pkr rfl rfl (fun w hst => x_load rfl Try.isAgg27 (hst.bc1 rfl)) (pkr rfl rfl (fun w hst => x_field rfl Try.underlying45 rfl Try.sizeOf27 rfl) pk_nil)))))) ?_
     refine ws_e1 6 (by kernel_rfl) ?_
     refine nxe [11] (by kernel_rfl) rfl rfl ?_
     clear hst
     intro w hst
     obtain ⟨t477, ht478, hm⟩ := bind_some hm
     refine we_call rfl (x_call Try.call27 rfl (vs := [.pointer (some ⟨b369, 0, none⟩), .int .u64 a0.Shards, .int .i64 (2:Int)]) rfl) ?_
     refine (octet_Writer_Num_ref hst.to1 ht478).mono ?_
     rintro _ w479 ⟨rfl, hst⟩
     refine ⟨_, rfl, ?_⟩
     replace hst := hst.of1
     refine ws_next (pend' := [(10, .int .u64 (IntKind.u64.wrap ((a0.Parts).length : Int))), (9, .int .i64 ((a0.Parts).length : Int)), (8, r0_7), (7, .pointer (some ⟨b362, 20, none⟩))]) hst (by kernel_rfl) (pkr rfl rfl (fun w hst => by kernel_rfl) (pkr rfl rfl (fun w hst => x_len rfl Try.underlying40 (rd_sliceV f0_7)) (pkr rfl rfl (fun w hst => x_load rfl Try.isAgg40 (hst.bc1 rfl)) (pkr rfl rfl (fun w hst => x_field rfl Try.underlying45 rfl Try.sizeOf40 rfl) pk_nil)))) ?_
     refine ws_e1 11 (by kernel_rfl) ?_
     refine nxe [] (by kernel_rfl) rfl rfl ?_
     clear hst
     intro w hst
     obtain ⟨t482, ht483, hm⟩ := bind_some hm
     refine we_call rfl (x_call Try.call27 rfl (vs := [.pointer (some ⟨b369, 0, none⟩), .int .u64 (IntKind.u64.wrap ((a0.Parts).length : Int)), .int .i64 (4:Int)]) rfl) ?_
     refine (octet_Writer_Num_ref hst.to1 ht483).mono ?_
     rintro _ w484 ⟨rfl, hst⟩
     refine ⟨_, rfl, ?_⟩
     replace hst := hst.of1
     refine ws_next (pend' := []) hst (by kernel_rfl) pk_nil ?_
     refine ws_nil ?_
     intro w hst
     refine then_n ?_
     obtain ⟨y592, hm, hx593⟩ := bind_some hm
     refine wp_cut (fun a w => ∃ (z589 : octet_Writer) (σ590 : Nat → Value), (command_Encode_j0 a0) z589 = some r ∧ a = Fr 121 (upd (upd σ590 1 (.pointer (some ⟨b362, 0, none⟩))) 3 (.pointer (some ⟨b375, 0, none⟩))) ∧ St w0 w I [cells b362 [.int .u8 a0.Kind, .int .u64 a0.ID.Session, .int .u64 a0.ID.Seq, .int .u64 a0.Epoch, .int .u64 a0.Index, .int .i64 a0.E, .int .u64 a0.Hold.ID.Session, .int .u64 a0.Hold.ID.Seq, .int .u64 a0.Hold.Epoch, r0_0, r0_1, r0_2, r0_3, r0_4, .int .i64 a0.R.E, .int .u64 a0.R.Epoch, .int .u64 a0.R.Index, r0_5, r0_6, .int .u64 a0.Shards, r0_7, .int .u64 a0.Rule.ID, .int .i64 a0.Rule.From, .int .i64 a0.Rule.To, .float .f64 a0.Rule.Lo, .float .f64 a0.Rule.Hi, .int .u64 a0.Rule.Authority, .int .i64 a0.Rule.Quota, .bool a0.On], cells b375 [.pointer (some ⟨b369, 0, none⟩)], at_octet_Writer (.pointer (some ⟨b369, 0, none⟩)) z589] R) ?_ ?_
     ·skip
      refine wp_seq (wp_region_lit ?_)
      refine wv (.pointer (some ⟨b362, 20, none⟩)) rfl rfl (x_field rfl Try.underlying45 rfl Try.sizeOf40 rfl) ?_
      refine wv (r0_7) rfl rfl (x_load rfl Try.isAgg40 (hst.bc1 rfl)) ?_
      refine wv (.int .i64 ((a0.Parts).length : Int)) rfl rfl (x_len rfl Try.underlying40 (rd_sliceV f0_7)) ?_
      refine wv (.int .i64 (0:Int)) rfl rfl rfl ?_
      refine wl_nil (then_n (wp_block ?_))
      obtain ⟨n552, hm⟩ := loopO_some hm
      refine wp_loop_n (fun n a w => ∃ (z549 : octet_Writer) (z550 : Int) (σ551 : Nat → Value), loopN (command_Encode_l1 a0) n (z549, z550) = some y592 ∧ a = Fr 121 (upd (upd (upd (upd (upd σ551 1 (.pointer (some ⟨b362, 0, none⟩))) 3 (.pointer (some ⟨b375, 0, none⟩))) 65 (r0_7)) 66 (.int .i64 ((a0.Parts).length : Int))) 67 (.int .i64 z550)) ∧ St w0 w I [at_octet_Writer (.pointer (some ⟨b369, 0, none⟩)) z549, cells b362 [.int .u8 a0.Kind, .int .u64 a0.ID.Session, .int .u64 a0.ID.Seq, .int .u64 a0.Epoch, .int .u64 a0.Index, .int .i64 a0.E, .int .u64 a0.Hold.ID.Session, .int .u64 a0.Hold.ID.Seq, .int .u64 a0.Hold.Epoch, r0_0, r0_1, r0_2, r0_3, r0_4, .int .i64 a0.R.E, .int .u64 a0.R.Epoch, .int .u64 a0.R.Index, r0_5, r0_6, .int .u64 a0.Shards, r0_7, .int .u64 a0.Rule.ID, .int .i64 a0.Rule.From, .int .i64 a0.Rule.To, .float .f64 a0.Rule.Lo, .float .f64 a0.Rule.Hi, .int .u64 a0.Rule.Authority, .int .i64 a0.Rule.Quota, .bool a0.On], cells b375 [.pointer (some ⟨b369, 0, none⟩)]] R) n552 ⟨t482, (0:Int), _, hm, ((fr_upd (t := 1) (v := .pointer (some ⟨b362, 0, none⟩)) rfl).trans ((fr_upd (t := 3) (v := .pointer (some ⟨b375, 0, none⟩)) rfl).trans ((fr_upd (t := 65) (v := r0_7) rfl).trans ((fr_upd (t := 66) (v := .int .i64 ((a0.Parts).length : Int)) rfl).trans ((fr_upd (t := 67) (v := .int .i64 (0:Int)) rfl).trans rfl))))), hst⟩ ?_
      rintro n558 _ w553 ⟨z549, z550, σ551, hm, rfl, hst⟩
      obtain ⟨n555, y556, rfl, hm, hx557⟩ := loopN_some hm
      dsimp only [command_Encode_l1] at hm
      refine wp_seq (wp_region_lit ?_)
      refine wv (.bool (decide (z550 < ((a0.Parts).length : Int)))) rfl rfl rfl ?_
      refine wl_nil (then_n (wp_seq ?_))
      refine bsplit (decide (z550 < ((a0.Parts).length : Int))) (fun hc559 => ?_) (fun hc559 => ?_)
      ·skip
       replace hm := bif_t hc559 hm
       refine wp_ift (congrArg Value.bool hc559) ?_
       refine wp_skip (then_n (wp_seq (wp_block (wp_seq (wp_region_lit ?_)))))
       obtain ⟨x560, hx561, hm⟩ := bind_some hm
       obtain ⟨h562, h563, hi564⟩ := geto_some hx561
       refine wv (.pointer (some (eAddr r0_7 (z550.toNat * 2 + 0)))) rfl rfl (x_index rfl rfl Try.underlying40 Try.sizeOf81 (rd_sliceV f0_7) h562 h563) ?_
       obtain ⟨cs565, hr566, hc567⟩ := Rd.getF f0_7 hi564
       obtain ⟨v568, rfl, f569, -⟩ := hr566
       refine wv (.agg #[.int .i64 x560.Shard, v568]) rfl rfl (x_loadN (cs := [.int .i64 x560.Shard, v568]) rfl Try.isAgg81 Try.sizeOf81 (eCells (o := 0) (hc567 (HL.le.refl _) hst) rfl)) ?_
       obtain ⟨b572, w573, ew574, eb575, hst⟩ := hst.box [.int .i64 (0:Int), (.slice none 0 0)] 81
       refine wl_run (v := .pointer (some ⟨b572, 0, none⟩)) (w' := w573) rfl rfl (x_al (by kernel_rfl) ew574 eb575) ?_
       obtain ⟨w577, hr578, hst⟩ := hst.boxStore (P := Try.prog) (t := 81) (cs' := [.int .i64 x560.Shard, v568]) 0 (.agg #[.int .i64 x560.Shard, v568]) Try.sizeOf81 (Nat.le_of_ble_eq_true rfl) (ones_cons rfl (ones_cons (one_of_sliceV (rd_sliceV f569)) ones_nil)) (by kernel_rfl)
       refine wl_unit rfl rfl (x_unit hr578) ?_
       refine wl_nil (then_n (wp_seq (wp_region_lit ?_)))
       refine wv (.pointer (some ⟨b369, 0, none⟩)) rfl rfl (x_load rfl Try.isAgg56 (hst.bc3 rfl)) ?_
       refine wv (.pointer (some ⟨b572, 0, none⟩)) rfl rfl (x_field rfl Try.underlying81 rfl Try.sizeOf3 rfl) ?_
       refine wv (.int .i64 x560.Shard) rfl rfl (x_load rfl Try.isAgg3 (hst.bc0 rfl)) ?_
       refine wv (.int .u64 (IntKind.u64.wrap x560.Shard)) rfl rfl (by kernel_rfl) ?_
       replace hst := hst.pull1
       obtain ⟨t579, ht580, hm⟩ := bind_some hm
       refine wl_call rfl rfl (x_call Try.call27 rfl (vs := [.pointer (some ⟨b369, 0, none⟩), .int .u64 (IntKind.u64.wrap x560.Shard), .int .i64 (1:Int)]) rfl) ?_
       refine (octet_Writer_Num_ref hst.to1 ht580).mono ?_
       rintro _ w581 ⟨rfl, hst⟩
       refine ⟨_, rfl, ?_⟩
       replace hst := hst.of1
       refine wl_nil (then_n (wp_region_lit ?_))
       refine wv (.pointer (some ⟨b369, 0, none⟩)) rfl rfl (x_load rfl Try.isAgg56 (hst.bc3 rfl)) ?_
       refine wv (.pointer (some ⟨b572, 1, none⟩)) rfl rfl (x_field rfl Try.underlying81 rfl Try.sizeOf35 rfl) ?_
       refine wv (v568) rfl rfl (x_load rfl Try.isAgg35 (hst.bc1 rfl)) ?_
       obtain ⟨t584, ht585, hm⟩ := bind_some hm
       refine wl_call rfl rfl (x_call Try.call30 rfl (vs := [.pointer (some ⟨b369, 0, none⟩), v568]) rfl) ?_
       refine (command_writes_ref (f569.mono (rd_weak _)) hst.to1 ht585).mono ?_
       rintro _ w586 ⟨rfl, hst⟩
       refine ⟨_, rfl, ?_⟩
       replace hst := hst.of1
       refine wl_nil (blk_n (then_n (wp_region_lit ?_)))
       refine wv (.int .i64 (IntKind.i64.wrap (z550 + (1:Int)))) rfl rfl rfl ?_
       refine wv (.int .i64 (IntKind.i64.wrap (z550 + (1:Int)))) rfl rfl rfl ?_
       refine wl_nil (then_n ?_)
       replace hst := hst.pull3
       replace hst := hst.pull3
       replace hst := hst.pull2
       replace hst := hst.keep3
       obtain rfl := some_inj hm
       exact ⟨_, Nat.lt_succ_self _, t584, (IntKind.i64.wrap (z550 + (1:Int))), _, hx557, ((fr_upd (t := 1) (v := .pointer (some ⟨b362, 0, none⟩)) rfl).trans ((fr_upd (t := 3) (v := .pointer (some ⟨b375, 0, none⟩)) rfl).trans ((fr_upd (t := 65) (v := r0_7) rfl).trans ((fr_upd (t := 66) (v := .int .i64 ((a0.Parts).length : Int)) rfl).trans ((fr_upd (t := 67) (v := .int .i64 (IntKind.i64.wrap (z550 + (1:Int)))) rfl).trans rfl))))), hst⟩
      ·skip
       replace hm := bif_f hc559 hm
       refine wp_iff (congrArg Value.bool hc559) ?_
       refine wp_exit (then_x (then_x ?_))
       replace hm := inr_up hm hx557
       refine blk_x (then_n ?_)
       replace hst := hst.pull2
       replace hst := hst.pull2
       replace hst := hst.keep3
       obtain rfl := some_inj hm
       exact ⟨z549, _, hx593, ((fr_upd (t := 1) (v := .pointer (some ⟨b362, 0, none⟩)) rfl).trans ((fr_upd (t := 3) (v := .pointer (some ⟨b375, 0, none⟩)) rfl).trans rfl)), hst⟩
     ·skip
      clear hst
      rintro _ w594 ⟨z589, σ590, hm, rfl, hst⟩
      dsimp only [command_Encode_j0] at hm
      refine wp_region_lit ?_
      refine wv (.pointer (some ⟨b369, 0, none⟩)) rfl rfl (x_load rfl Try.isAgg56 (hst.bc1 rfl)) ?_
      refine wv (.pointer (some ⟨b362, 14, none⟩)) rfl rfl (x_field rfl Try.underlying45 rfl Try.sizeOf39 rfl) ?_
      refine wv (.agg #[.int .i64 a0.R.E, .int .u64 a0.R.Epoch, .int .u64 a0.R.Index, r0_5, r0_6]) rfl rfl (x_loadN (cs := [.int .i64 a0.R.E, .int .u64 a0.R.Epoch, .int .u64 a0.R.Index, r0_5, r0_6]) rfl Try.isAgg39 Try.sizeOf39 (hst.bcs0 14 rfl)) ?_
      replace hst := hst.pull2
      obtain ⟨t595, ht596, hm⟩ := bind_some hm
      refine wl_call rfl rfl (x_call Try.call13 rfl (vs := [.pointer (some ⟨b369, 0, none⟩), .agg #[.int .i64 a0.R.E, .int .u64 a0.R.Epoch, .int .u64 a0.R.Index, r0_5, r0_6]]) rfl) ?_
      refine (command_LayReply_ref (f0_5.mono (rd_weak _)) (f0_6.mono (rd_weak _)) hst.to1 ht596).mono ?_
      rintro _ w597 ⟨rfl, hst⟩
      refine ⟨_, rfl, ?_⟩
      replace hst := hst.of1
      refine wl_nil (blk_n (then_n (wp_seq (wp_region_lit ?_))))
      refine wv (.pointer (some ⟨b369, 0, none⟩)) rfl rfl (x_load rfl Try.isAgg56 (hst.bc2 rfl)) ?_
      obtain ⟨t600, ht601, hm⟩ := bind_some hm
      refine wl_call rfl rfl (x_call Try.call14 rfl (vs := [.pointer (some ⟨b369, 0, none⟩)]) rfl) ?_
      refine (octet_Writer_Done_ref hst.to1 ht601).mono ?_
      rintro _ w602 ⟨v605, rfl, hst⟩
      refine ⟨_, rfl, ?_⟩
      replace hst := hst.of1
      refine wv (v605) rfl rfl rfl ?_
      refine wl_nil (then_n (wp_ret ?_))
      obtain rfl := some_inj hm
      refine post_ret (vs := [v605]) Try.results10 (rvs_cons (rv_tmp rfl) rvs_nil) ?_
      exact ⟨v605, rfl, hst.keep1⟩
    ·skip
     replace hm := bif_f hc456 hm
     refine wp_iff (congrArg Value.bool hc456) ?_
     refine wp_seq (wp_region_lit ?_)
     refine wv (.bool (a0.Kind == (5:Int))) rfl rfl rfl ?_
     refine wv (.bool (a0.Kind == (5:Int))) rfl rfl rfl ?_
     refine wl_nil (then_n ?_)
     refine bsplit (a0.Kind == (5:Int)) (fun hc607 => ?_) (fun hc607 => ?_)
     ·skip
      replace hm := bif_t hc607 hm
      refine wp_ift (congrArg Value.bool hc607) ?_
      refine wp_region_lit ?_
      refine wv (.func (.func 28) #[] #[.pointer (some ⟨b375, 0, none⟩), .pointer (some ⟨b362, 0, none⟩)]) rfl rfl rfl ?_
      obtain ⟨y620, hq621, hm⟩ := bind_some hm
      refine wl_call rfl rfl (x_callv Try.call28 (caps := [.pointer (some ⟨b375, 0, none⟩), .pointer (some ⟨b362, 0, none⟩)]) rfl (vs := []) rfl) ?_
      refine Calls.mono (show Calls Try.prog 28 #[.pointer (some ⟨b375, 0, none⟩), .pointer (some ⟨b362, 0, none⟩)] _ (fun e w' => ∃ (z618 : octet_Writer), y620 = z618 ∧ e = .returned (.tuple #[]) ∧ St w0 w' I [cells b362 [.int .u8 a0.Kind, .int .u64 a0.ID.Session, .int .u64 a0.ID.Seq, .int .u64 a0.Epoch, .int .u64 a0.Index, .int .i64 a0.E, .int .u64 a0.Hold.ID.Session, .int .u64 a0.Hold.ID.Seq, .int .u64 a0.Hold.Epoch, r0_0, r0_1, r0_2, r0_3, r0_4, .int .i64 a0.R.E, .int .u64 a0.R.Epoch, .int .u64 a0.R.Index, r0_5, r0_6, .int .u64 a0.Shards, r0_7, .int .u64 a0.Rule.ID, .int .i64 a0.Rule.From, .int .i64 a0.Rule.To, .float .f64 a0.Rule.Lo, .float .f64 a0.Rule.Hi, .int .u64 a0.Rule.Authority, .int .i64 a0.Rule.Quota, .bool a0.On], at_octet_Writer (.pointer (some ⟨b369, 0, none⟩)) z618, cells b375 [.pointer (some ⟨b369, 0, none⟩)]] R) from ?_) ?_
      ·skip
       clear hm; have hm := hq621
       refine calls_start (args := [.pointer (some ⟨b375, 0, none⟩), .pointer (some ⟨b362, 0, none⟩)]) Try.func28 rfl Try.ntmps28 (Nat.le_of_ble_eq_true rfl) ?_
       refine wp_region_St hst 9 [0, 1, 2, 3, 4, 5, 6, 7, 8] [0, 0, 2, 6, 15, 0, 32, 96, 255] [] rfl (by kernel_rfl) (by kernel_rfl) Try.mixed (by kernel_rfl) ?_
       refine wsr (.pointer (some ⟨b369, 0, none⟩)) 0 rfl rfl rfl (by kernel_rfl) (fun w hst => x_load rfl Try.isAgg56 (hst.bc1 rfl)) ?_
       refine wsr (.pointer (some ⟨b362, 1, none⟩)) 1 rfl rfl rfl (by kernel_rfl) (fun w hst => x_field rfl Try.underlying45 rfl Try.sizeOf29 rfl) ?_
       refine wsr (.pointer (some ⟨b362, 1, none⟩)) 2 rfl rfl rfl (by kernel_rfl) (fun w hst => x_field rfl Try.underlying29 rfl Try.sizeOf27 rfl) ?_
       refine wsr (.int .u64 a0.ID.Session) 3 rfl rfl rfl (by kernel_rfl) (fun w hst => x_load rfl Try.isAgg27 (hst.bc2 rfl)) ?_
       refine wsr (.pointer (some ⟨b362, 1, none⟩)) 5 rfl rfl rfl (by kernel_rfl) (fun w hst => x_field rfl Try.underlying45 rfl Try.sizeOf29 rfl) ?_
       refine wsr (.pointer (some ⟨b362, 2, none⟩)) 6 rfl rfl rfl (by kernel_rfl) (fun w hst => x_field rfl Try.underlying29 rfl Try.sizeOf27 rfl) ?_
       refine wsr (.int .u64 a0.ID.Seq) 7 rfl rfl rfl (by kernel_rfl) (fun w hst => x_load rfl Try.isAgg27 (hst.bc2 rfl)) ?_
       refine ws_e1 4 (by kernel_rfl) ?_
       refine nxe [8] (by kernel_rfl) rfl rfl ?_
       clear hst
       intro w hst
       obtain ⟨t608, ht609, hm⟩ := bind_some hm
       refine we_call rfl (x_call Try.call27 rfl (vs := [.pointer (some ⟨b369, 0, none⟩), .int .u64 a0.ID.Session, .int .i64 (8:Int)]) rfl) ?_
       refine (octet_Writer_Num_ref hst.to1 ht609).mono ?_
       rintro _ w610 ⟨rfl, hst⟩
       refine ⟨_, rfl, ?_⟩
       replace hst := hst.of1
       refine ws_next (pend' := [(7, .int .u64 a0.ID.Seq), (6, .pointer (some ⟨b362, 2, none⟩)), (5, .pointer (some ⟨b362, 1, none⟩))]) hst (by kernel_rfl) (pkr rfl rfl (fun w hst => x_load rfl Try.isAgg27 (hst.bc2 rfl)) (pkr rfl rfl (fun w hst => x_field rfl Try.underlying29 rfl Try.sizeOf27 rfl) (pkr rfl rfl (fun w hst => x_field rfl Try.underlying45 rfl Try.sizeOf29 rfl) pk_nil))) ?_
       refine ws_e1 8 (by kernel_rfl) ?_
       refine nxe [] (by kernel_rfl) rfl rfl ?_
       clear hst
       intro w hst
       obtain ⟨t613, ht614, hm⟩ := bind_some hm
       refine we_call rfl (x_call Try.call27 rfl (vs := [.pointer (some ⟨b369, 0, none⟩), .int .u64 a0.ID.Seq, .int .i64 (8:Int)]) rfl) ?_
       refine (octet_Writer_Num_ref hst.to1 ht614).mono ?_
       rintro _ w615 ⟨rfl, hst⟩
       refine ⟨_, rfl, ?_⟩
       replace hst := hst.of1
       refine ws_next (pend' := []) hst (by kernel_rfl) pk_nil ?_
       refine ws_nil ?_
       intro w hst
       refine post_end (vs := []) Try.results28 rvs_nil ?_
       replace hst := hst.pull1
       replace hst := hst.pull1
       replace hst := hst.pull2
       replace hst := hst.keep3
       obtain rfl := some_inj hm
       exact ⟨t613, rfl, rfl, hst⟩
      clear hst
      rintro _ w622 ⟨z618, rfl, rfl, hst⟩
      refine ⟨_, rfl, ?_⟩
      try dsimp only at hm
      refine wl_nil (blk_n (then_n (wp_seq (wp_region_lit ?_))))
      refine wv (.pointer (some ⟨b369, 0, none⟩)) rfl rfl (x_load rfl Try.isAgg56 (hst.bc2 rfl)) ?_
      replace hst := hst.pull1
      obtain ⟨t623, ht624, hm⟩ := bind_some hm
      refine wl_call rfl rfl (x_call Try.call14 rfl (vs := [.pointer (some ⟨b369, 0, none⟩)]) rfl) ?_
      refine (octet_Writer_Done_ref hst.to1 ht624).mono ?_
      rintro _ w625 ⟨v628, rfl, hst⟩
      refine ⟨_, rfl, ?_⟩
      replace hst := hst.of1
      refine wv (v628) rfl rfl rfl ?_
      refine wl_nil (then_n (wp_ret ?_))
      obtain rfl := some_inj hm
      refine post_ret (vs := [v628]) Try.results10 (rvs_cons (rv_tmp rfl) rvs_nil) ?_
      exact ⟨v628, rfl, hst.keep1⟩
     ·skip
      replace hm := bif_f hc607 hm
      refine wp_iff (congrArg Value.bool hc607) ?_
      refine wp_seq (wp_region_lit ?_)
      refine wv (.bool (a0.Kind == (6:Int))) rfl rfl rfl ?_
      refine wv (.bool (a0.Kind == (6:Int))) rfl rfl rfl ?_
      refine wl_nil (then_n ?_)
      refine bsplit (a0.Kind == (6:Int)) (fun hc630 => ?_) (fun hc630 => ?_)
      ·skip
       replace hm := bif_t hc630 hm
       refine wp_ift (congrArg Value.bool hc630) ?_
       refine wp_seq (wp_region_lit ?_)
       refine wv (.pointer (some ⟨b369, 0, none⟩)) rfl rfl (x_load rfl Try.isAgg56 (hst.bc1 rfl)) ?_
       refine wv (.pointer (some ⟨b362, 21, none⟩)) rfl rfl (x_field rfl Try.underlying45 rfl Try.sizeOf43 rfl) ?_
       refine wv (.agg #[.int .u64 a0.Rule.ID, .int .i64 a0.Rule.From, .int .i64 a0.Rule.To, .float .f64 a0.Rule.Lo, .float .f64 a0.Rule.Hi, .int .u64 a0.Rule.Authority, .int .i64 a0.Rule.Quota]) rfl rfl (x_loadN (cs := [.int .u64 a0.Rule.ID, .int .i64 a0.Rule.From, .int .i64 a0.Rule.To, .float .f64 a0.Rule.Lo, .float .f64 a0.Rule.Hi, .int .u64 a0.Rule.Authority, .int .i64 a0.Rule.Quota]) rfl Try.isAgg43 Try.sizeOf43 (hst.bcs2 21 rfl)) ?_
       obtain ⟨t631, ht632, hm⟩ := bind_some hm
       refine wl_call rfl rfl (x_call Try.call31 rfl (vs := [.pointer (some ⟨b369, 0, none⟩), .agg #[.int .u64 a0.Rule.ID, .int .i64 a0.Rule.From, .int .i64 a0.Rule.To, .float .f64 a0.Rule.Lo, .float .f64 a0.Rule.Hi, .int .u64 a0.Rule.Authority, .int .i64 a0.Rule.Quota]]) rfl) ?_
       refine (command_layRule_ref hst.to1 ht632).mono ?_
       rintro _ w633 ⟨rfl, hst⟩
       refine ⟨_, rfl, ?_⟩
       replace hst := hst.of1
       refine wl_nil (then_n (wp_region_lit ?_))
       refine wv (.pointer (some ⟨b369, 0, none⟩)) rfl rfl (x_load rfl Try.isAgg56 (hst.bc1 rfl)) ?_
       refine wv (.pointer (some ⟨b362, 28, none⟩)) rfl rfl (x_field rfl Try.underlying45 rfl Try.sizeOf4 rfl) ?_
       refine wv (.bool a0.On) rfl rfl (x_load rfl Try.isAgg4 (hst.bc2 rfl)) ?_
       obtain ⟨t636, ht637, hm⟩ := bind_some hm
       refine wl_call rfl rfl (x_call Try.call32 rfl (vs := [.pointer (some ⟨b369, 0, none⟩), .bool a0.On]) rfl) ?_
       refine (octet_Writer_Flag_ref hst.to1 ht637).mono ?_
       rintro _ w638 ⟨rfl, hst⟩
       refine ⟨_, rfl, ?_⟩
       replace hst := hst.of1
       refine wl_nil (blk_n (then_n (wp_seq (wp_region_lit ?_))))
       refine wv (.pointer (some ⟨b369, 0, none⟩)) rfl rfl (x_load rfl Try.isAgg56 (hst.bc1 rfl)) ?_
       obtain ⟨t641, ht642, hm⟩ := bind_some hm
       refine wl_call rfl rfl (x_call Try.call14 rfl (vs := [.pointer (some ⟨b369, 0, none⟩)]) rfl) ?_
       refine (octet_Writer_Done_ref hst.to1 ht642).mono ?_
       rintro _ w643 ⟨v646, rfl, hst⟩
       refine ⟨_, rfl, ?_⟩
       replace hst := hst.of1
       refine wv (v646) rfl rfl rfl ?_
       refine wl_nil (then_n (wp_ret ?_))
       obtain rfl := some_inj hm
       refine post_ret (vs := [v646]) Try.results10 (rvs_cons (rv_tmp rfl) rvs_nil) ?_
       exact ⟨v646, rfl, hst.keep1⟩
      ·skip
       replace hm := bif_f hc630 hm
       refine wp_iff (congrArg Value.bool hc630) ?_
       refine wp_seq (wp_region_lit ?_)
       refine wv (.bool (a0.Kind == (7:Int))) rfl rfl rfl ?_
       refine wv (.bool (a0.Kind == (7:Int))) rfl rfl rfl ?_
       refine wl_nil (then_n ?_)
       refine bsplit (a0.Kind == (7:Int)) (fun hc648 => ?_) (fun hc648 => ?_)
       ·skip
        replace hm := bif_t hc648 hm
        refine wp_ift (congrArg Value.bool hc648) ?_
        refine wp_seq (wp_region_lit ?_)
        refine wv (.func (.func 28) #[] #[.pointer (some ⟨b375, 0, none⟩), .pointer (some ⟨b362, 0, none⟩)]) rfl rfl rfl ?_
        obtain ⟨y661, hq662, hm⟩ := bind_some hm
        refine wl_call rfl rfl (x_callv Try.call28 (caps := [.pointer (some ⟨b375, 0, none⟩), .pointer (some ⟨b362, 0, none⟩)]) rfl (vs := []) rfl) ?_
        refine Calls.mono (show Calls Try.prog 28 #[.pointer (some ⟨b375, 0, none⟩), .pointer (some ⟨b362, 0, none⟩)] _ (fun e w' => ∃ (z659 : octet_Writer), y661 = z659 ∧ e = .returned (.tuple #[]) ∧ St w0 w' I [cells b362 [.int .u8 a0.Kind, .int .u64 a0.ID.Session, .int .u64 a0.ID.Seq, .int .u64 a0.Epoch, .int .u64 a0.Index, .int .i64 a0.E, .int .u64 a0.Hold.ID.Session, .int .u64 a0.Hold.ID.Seq, .int .u64 a0.Hold.Epoch, r0_0, r0_1, r0_2, r0_3, r0_4, .int .i64 a0.R.E, .int .u64 a0.R.Epoch, .int .u64 a0.R.Index, r0_5, r0_6, .int .u64 a0.Shards, r0_7, .int .u64 a0.Rule.ID, .int .i64 a0.Rule.From, .int .i64 a0.Rule.To, .float .f64 a0.Rule.Lo, .float .f64 a0.Rule.Hi, .int .u64 a0.Rule.Authority, .int .i64 a0.Rule.Quota, .bool a0.On], at_octet_Writer (.pointer (some ⟨b369, 0, none⟩)) z659, cells b375 [.pointer (some ⟨b369, 0, none⟩)]] R) from ?_) ?_
        ·skip
         clear hm; have hm := hq662
         refine calls_start (args := [.pointer (some ⟨b375, 0, none⟩), .pointer (some ⟨b362, 0, none⟩)]) Try.func28 rfl Try.ntmps28 (Nat.le_of_ble_eq_true rfl) ?_
         refine wp_region_St hst 9 [0, 1, 2, 3, 4, 5, 6, 7, 8] [0, 0, 2, 6, 15, 0, 32, 96, 255] [] rfl (by kernel_rfl) (by kernel_rfl) Try.mixed (by kernel_rfl) ?_
         refine wsr (.pointer (some ⟨b369, 0, none⟩)) 0 rfl rfl rfl (by kernel_rfl) (fun w hst => x_load rfl Try.isAgg56 (hst.bc1 rfl)) ?_
         refine wsr (.pointer (some ⟨b362, 1, none⟩)) 1 rfl rfl rfl (by kernel_rfl) (fun w hst => x_field rfl Try.underlying45 rfl Try.sizeOf29 rfl) ?_
         refine wsr (.pointer (some ⟨b362, 1, none⟩)) 2 rfl rfl rfl (by kernel_rfl) (fun w hst => x_field rfl Try.underlying29 rfl Try.sizeOf27 rfl) ?_
         refine wsr (.int .u64 a0.ID.Session) 3 rfl rfl rfl (by kernel_rfl) (fun w hst => x_load rfl Try.isAgg27 (hst.bc2 rfl)) ?_
         refine wsr (.pointer (some ⟨b362, 1, none⟩)) 5 rfl rfl rfl (by kernel_rfl) (fun w hst => x_field rfl Try.underlying45 rfl Try.sizeOf29 rfl) ?_
         refine wsr (.pointer (some ⟨b362, 2, none⟩)) 6 rfl rfl rfl (by kernel_rfl) (fun w hst => x_field rfl Try.underlying29 rfl Try.sizeOf27 rfl) ?_
         refine wsr (.int .u64 a0.ID.Seq) 7 rfl rfl rfl (by kernel_rfl) (fun w hst => x_load rfl Try.isAgg27 (hst.bc2 rfl)) ?_
         refine ws_e1 4 (by kernel_rfl) ?_
         refine nxe [8] (by kernel_rfl) rfl rfl ?_
         clear hst
         intro w hst
         obtain ⟨t649, ht650, hm⟩ := bind_some hm
         refine we_call rfl (x_call Try.call27 rfl (vs := [.pointer (some ⟨b369, 0, none⟩), .int .u64 a0.ID.Session, .int .i64 (8:Int)]) rfl) ?_
         refine (octet_Writer_Num_ref hst.to1 ht650).mono ?_
         rintro _ w651 ⟨rfl, hst⟩
         refine ⟨_, rfl, ?_⟩
         replace hst := hst.of1
         refine ws_next (pend' := [(7, .int .u64 a0.ID.Seq), (6, .pointer (some ⟨b362, 2, none⟩)), (5, .pointer (some ⟨b362, 1, none⟩))]) hst (by kernel_rfl) (pkr rfl rfl (fun w hst => x_load rfl Try.isAgg27 (hst.bc2 rfl)) (pkr rfl rfl (fun w hst => x_field rfl Try.underlying29 rfl Try.sizeOf27 rfl) (pkr rfl rfl (fun w hst => x_field rfl Try.underlying45 rfl Try.sizeOf29 rfl) pk_nil))) ?_
         refine ws_e1 8 (by kernel_rfl) ?_
         refine nxe [] (by kernel_rfl) rfl rfl ?_
         clear hst
         intro w hst
         obtain ⟨t654, ht655, hm⟩ := bind_some hm
         refine we_call rfl (x_call Try.call27 rfl (vs := [.pointer (some ⟨b369, 0, none⟩), .int .u64 a0.ID.Seq, .int .i64 (8:Int)]) rfl) ?_
         refine (octet_Writer_Num_ref hst.to1 ht655).mono ?_
         rintro _ w656 ⟨rfl, hst⟩
         refine ⟨_, rfl, ?_⟩
         replace hst := hst.of1
         refine ws_next (pend' := []) hst (by kernel_rfl) pk_nil ?_
         refine ws_nil ?_
         intro w hst
         refine post_end (vs := []) Try.results28 rvs_nil ?_
         replace hst := hst.pull1
         replace hst := hst.pull1
         replace hst := hst.pull2
         replace hst := hst.keep3
         obtain rfl := some_inj hm
         exact ⟨t654, rfl, rfl, hst⟩
        clear hst
        rintro _ w663 ⟨z659, rfl, rfl, hst⟩
        refine ⟨_, rfl, ?_⟩
        try dsimp only at hm
        refine wl_nil (then_n (wp_seq (wp_region_lit ?_)))
        refine wv (.pointer (some ⟨b369, 0, none⟩)) rfl rfl (x_load rfl Try.isAgg56 (hst.bc2 rfl)) ?_
        refine wv (.pointer (some ⟨b362, 3, none⟩)) rfl rfl (x_field rfl Try.underlying45 rfl Try.sizeOf27 rfl) ?_
        refine wv (.int .u64 a0.Epoch) rfl rfl (x_load rfl Try.isAgg27 (hst.bc0 rfl)) ?_
        replace hst := hst.pull1
        obtain ⟨t664, ht665, hm⟩ := bind_some hm
        refine wl_call rfl rfl (x_call Try.call27 rfl (vs := [.pointer (some ⟨b369, 0, none⟩), .int .u64 a0.Epoch, .int .i64 (8:Int)]) rfl) ?_
        refine (octet_Writer_Num_ref hst.to1 ht665).mono ?_
        rintro _ w666 ⟨rfl, hst⟩
        refine ⟨_, rfl, ?_⟩
        replace hst := hst.of1
        refine wl_nil (then_n (wp_seq (wp_region_lit ?_)))
        refine wv (.pointer (some ⟨b369, 0, none⟩)) rfl rfl (x_load rfl Try.isAgg56 (hst.bc2 rfl)) ?_
        refine wv (.pointer (some ⟨b362, 21, none⟩)) rfl rfl (x_field rfl Try.underlying45 rfl Try.sizeOf43 rfl) ?_
        refine wv (.agg #[.int .u64 a0.Rule.ID, .int .i64 a0.Rule.From, .int .i64 a0.Rule.To, .float .f64 a0.Rule.Lo, .float .f64 a0.Rule.Hi, .int .u64 a0.Rule.Authority, .int .i64 a0.Rule.Quota]) rfl rfl (x_loadN (cs := [.int .u64 a0.Rule.ID, .int .i64 a0.Rule.From, .int .i64 a0.Rule.To, .float .f64 a0.Rule.Lo, .float .f64 a0.Rule.Hi, .int .u64 a0.Rule.Authority, .int .i64 a0.Rule.Quota]) rfl Try.isAgg43 Try.sizeOf43 (hst.bcs1 21 rfl)) ?_
        obtain ⟨t669, ht670, hm⟩ := bind_some hm
        refine wl_call rfl rfl (x_call Try.call31 rfl (vs := [.pointer (some ⟨b369, 0, none⟩), .agg #[.int .u64 a0.Rule.ID, .int .i64 a0.Rule.From, .int .i64 a0.Rule.To, .float .f64 a0.Rule.Lo, .float .f64 a0.Rule.Hi, .int .u64 a0.Rule.Authority, .int .i64 a0.Rule.Quota]]) rfl) ?_
        refine (command_layRule_ref hst.to1 ht670).mono ?_
        rintro _ w671 ⟨rfl, hst⟩
        refine ⟨_, rfl, ?_⟩
        replace hst := hst.of1
        refine wl_nil (then_n (wp_seq (wp_region_lit ?_)))
        refine wv (.pointer (some ⟨b369, 0, none⟩)) rfl rfl (x_load rfl Try.isAgg56 (hst.bc2 rfl)) ?_
        refine wv (.pointer (some ⟨b362, 13, none⟩)) rfl rfl (x_field rfl Try.underlying45 rfl Try.sizeOf35 rfl) ?_
        refine wv (r0_4) rfl rfl (x_load rfl Try.isAgg35 (hst.bc1 rfl)) ?_
        obtain ⟨t674, ht675, hm⟩ := bind_some hm
        refine wl_call rfl rfl (x_call Try.call30 rfl (vs := [.pointer (some ⟨b369, 0, none⟩), r0_4]) rfl) ?_
        refine (command_writes_ref (f0_4.mono (rd_weak _)) hst.to1 ht675).mono ?_
        rintro _ w676 ⟨rfl, hst⟩
        refine ⟨_, rfl, ?_⟩
        replace hst := hst.of1
        refine wl_nil (then_n (wp_region_lit ?_))
        refine wv (.pointer (some ⟨b369, 0, none⟩)) rfl rfl (x_load rfl Try.isAgg56 (hst.bc2 rfl)) ?_
        refine wv (.pointer (some ⟨b362, 14, none⟩)) rfl rfl (x_field rfl Try.underlying45 rfl Try.sizeOf39 rfl) ?_
        refine wv (.agg #[.int .i64 a0.R.E, .int .u64 a0.R.Epoch, .int .u64 a0.R.Index, r0_5, r0_6]) rfl rfl (x_loadN (cs := [.int .i64 a0.R.E, .int .u64 a0.R.Epoch, .int .u64 a0.R.Index, r0_5, r0_6]) rfl Try.isAgg39 Try.sizeOf39 (hst.bcs1 14 rfl)) ?_
        obtain ⟨t679, ht680, hm⟩ := bind_some hm
        refine wl_call rfl rfl (x_call Try.call13 rfl (vs := [.pointer (some ⟨b369, 0, none⟩), .agg #[.int .i64 a0.R.E, .int .u64 a0.R.Epoch, .int .u64 a0.R.Index, r0_5, r0_6]]) rfl) ?_
        refine (command_LayReply_ref (f0_5.mono (rd_weak _)) (f0_6.mono (rd_weak _)) hst.to1 ht680).mono ?_
        rintro _ w681 ⟨rfl, hst⟩
        refine ⟨_, rfl, ?_⟩
        replace hst := hst.of1
        refine wl_nil (blk_n (then_n (wp_seq (wp_region_lit ?_))))
        refine wv (.pointer (some ⟨b369, 0, none⟩)) rfl rfl (x_load rfl Try.isAgg56 (hst.bc2 rfl)) ?_
        obtain ⟨t684, ht685, hm⟩ := bind_some hm
        refine wl_call rfl rfl (x_call Try.call14 rfl (vs := [.pointer (some ⟨b369, 0, none⟩)]) rfl) ?_
        refine (octet_Writer_Done_ref hst.to1 ht685).mono ?_
        rintro _ w686 ⟨v689, rfl, hst⟩
        refine ⟨_, rfl, ?_⟩
        replace hst := hst.of1
        refine wv (v689) rfl rfl rfl ?_
        refine wl_nil (then_n (wp_ret ?_))
        obtain rfl := some_inj hm
        refine post_ret (vs := [v689]) Try.results10 (rvs_cons (rv_tmp rfl) rvs_nil) ?_
        exact ⟨v689, rfl, hst.keep1⟩
       ·skip
        replace hm := bif_f hc648 hm
        refine wp_iff (congrArg Value.bool hc648) ?_
        refine wp_skip (blk_n (then_n (wp_seq (wp_region_lit ?_))))
        refine wv (.pointer (some ⟨b369, 0, none⟩)) rfl rfl (x_load rfl Try.isAgg56 (hst.bc1 rfl)) ?_
        obtain ⟨t691, ht692, hm⟩ := bind_some hm
        refine wl_call rfl rfl (x_call Try.call14 rfl (vs := [.pointer (some ⟨b369, 0, none⟩)]) rfl) ?_
        refine (octet_Writer_Done_ref hst.to1 ht692).mono ?_
        rintro _ w693 ⟨v696, rfl, hst⟩
        refine ⟨_, rfl, ?_⟩
        replace hst := hst.of1
        refine wv (v696) rfl rfl rfl ?_
        refine wl_nil (then_n (wp_ret ?_))
        obtain rfl := some_inj hm
        refine post_ret (vs := [v696]) Try.results10 (rvs_cons (rv_tmp rfl) rvs_nil) ?_
        exact ⟨v696, rfl, hst.keep1⟩

theorem law13_awake_ref {w0 w : World} {I : HL} {R : SP}   (hst : St w0 w I [] R) {r : (Bool)} (hm : law13_awake = some r) :
  Calls Try.prog 8 #[] w fun e w' => e = .returned (.bool r) ∧ St w0 w' I [] R := by
 unfold law13_awake at hm
 refine calls_start (args := []) Try.func8 rfl Try.ntmps8 (Nat.le_of_ble_eq_true rfl) ?_
 refine wp_seq (wp_region_lit ?_)
 refine wv (.bool false) rfl rfl rfl ?_
 refine wl_nil (then_n (wp_seq (wp_region_lit ?_)))
 refine wv (.agg #[.int .u8 (1:Int), .int .u64 (0:Int), .int .u64 (0:Int), .int .u64 (3:Int), .int .u64 (0:Int), .int .i64 (0:Int), .int .u64 (0:Int), .int .u64 (0:Int), .int .u64 (0:Int), (.slice none 0 0), (.slice none 0 0), (.slice none 0 0), (.slice none 0 0), (.slice none 0 0), .int .i64 (0:Int), .int .u64 (0:Int), .int .u64 (0:Int), (.slice none 0 0), (.slice none 0 0), .int .u64 (0:Int), (.slice none 0 0), .int .u64 (0:Int), .int .i64 (0:Int), .int .i64 (0:Int), .float .f64 (0:Nat), .float .f64 (0:Nat), .int .u64 (0:Int), .int .i64 (0:Int), .bool false]) rfl rfl (by kernel_rfl) ?_
 have f34 : Ro tyF64 I (.slice none 0 0) [] := ro_nil
 have f35 : Ro tyF2 I (.slice none 0 0) [] := ro_nil
 have f36 : Ro tyF64 I (.slice none 0 0) [] := ro_nil
 have f37 : Ro (tyInt .u8) I (.slice none 0 0) [] := ro_nil
 have f38 : Ro ty_api_Write I (.slice none 0 0) [] := ro_nil
 have f39 : Ro ty_api_Got I (.slice none 0 0) [] := ro_nil
 have f40 : Ro (tySl ty_api_Pair) I (.slice none 0 0) [] := ro_nil
 have f41 : Ro ty_api_Part I (.slice none 0 0) [] := ro_nil
 obtain ⟨t42, ht43, hm⟩ := bind_some hm
 refine wl_call rfl rfl (x_call Try.call10 rfl (vs := [.agg #[.int .u8 (1:Int), .int .u64 (0:Int), .int .u64 (0:Int), .int .u64 (3:Int), .int .u64 (0:Int), .int .i64 (0:Int), .int .u64 (0:Int), .int .u64 (0:Int), .int .u64 (0:Int), (.slice none 0 0), (.slice none 0 0), (.slice none 0 0), (.slice none 0 0), (.slice none 0 0), .int .i64 (0:Int), .int .u64 (0:Int), .int .u64 (0:Int), (.slice none 0 0), (.slice none 0 0), .int .u64 (0:Int), (.slice none 0 0), .int .u64 (0:Int), .int .i64 (0:Int), .int .i64 (0:Int), .float .f64 (0:Nat), .float .f64 (0:Nat), .int .u64 (0:Int), .int .i64 (0:Int), .bool false]]) rfl) ?_
 refine (command_Encode_ref (f34.mono ro_rd) (f35.mono ro_rd) (f36.mono ro_rd) (f37.mono ro_rd) (f38.mono ro_rd) (f39.mono ro_rd) (f40.mono ro_rd) (f41.mono ro_rd) hst.to0 ht43).mono ?_
 rintro _ w44 ⟨v47, rfl, hst⟩
 refine ⟨_, rfl, ?_⟩
 replace hst := hst.of1
 refine wv (v47) rfl rfl rfl ?_
 refine wl_nil (then_n (wp_seq (wp_region_lit ?_)))
 refine wv (v47) rfl rfl rfl ?_
 refine wv (.string (toStr t42)) rfl rfl (x_tostr Try.underlying22 Try.underlying9 Try.underlying5 rfl hst.src0) ?_
 refine wv (.bool (sEq (toStr t42) (ByteArray.mk #[1, 3, 0, 0, 0, 0, 0, 0, 0]))) rfl rfl (by kernel_rfl) ?_
 refine wv (.bool (sEq (toStr t42) (ByteArray.mk #[1, 3, 0, 0, 0, 0, 0, 0, 0]))) rfl rfl rfl ?_
 refine bsplit (sEq (toStr t42) (ByteArray.mk #[1, 3, 0, 0, 0, 0, 0, 0, 0])) (fun hc49 => ?_) (fun hc49 => ?_)
 ·skip
  replace hm := bif_t hc49 hm
  refine wv (.bool true) rfl rfl (x_pick_t hc49 rfl rfl) ?_
  refine wv (.bool true) rfl rfl rfl ?_
  refine wl_nil (then_n (wp_ret ?_))
  obtain rfl := some_inj hm
  refine post_ret (vs := [.bool true]) Try.results8 (rvs_cons (rv_tmp rfl) rvs_nil) ?_
  exact ⟨rfl, hst.keep0⟩
 ·skip
  replace hm := bif_f hc49 hm
  refine wv (.bool false) rfl rfl (x_pick_f hc49 rfl rfl) ?_
  refine wv (.bool false) rfl rfl rfl ?_
  refine wl_nil (then_n (wp_ret ?_))
  obtain rfl := some_inj hm
  refine post_ret (vs := [.bool false]) Try.results8 (rvs_cons (rv_tmp rfl) rvs_nil) ?_
  exact ⟨rfl, hst.keep0⟩

theorem ref12_Tape_Next_ref {w0 w : World} {I : HL} {R : SP} {a0 : ref12_Tape} {p0 : Value} {a1 : Int}  (hst : St w0 w I [at_ref12_Tape p0 a0] R) {r : (Int × ref12_Tape)} (hm : ref12_Tape_Next a0 a1 = some r) :
  Calls Try.prog 22 #[p0, .int .i64 a1] w fun e w' => e = .returned (.int .i64 r.1) ∧ St w0 w' I [at_ref12_Tape p0 r.2] R := by
 unfold ref12_Tape_Next at hm
 refine calls_start (args := [p0, .int .i64 a1]) Try.func22 rfl Try.ntmps22 (Nat.le_of_ble_eq_true rfl) ?_
 refine wp_seq (wp_region_lit ?_)
 refine wv (.int .i64 (0:Int)) rfl rfl rfl ?_
 refine wl_nil (then_n (wp_seq (wp_seq ?_)))
 obtain ⟨b55, v56, ⟨rfl, f58⟩, hst'⟩ := at_ref12_Tape_open hst
 clear hst
 have hst := hst'
 clear hst'
 refine wq_regionS hst Try.mixed (by kernel_rfl) ?_
 refine wq_run (v := .pointer (some ⟨b55, 0, none⟩)) rfl rfl (fun w hst => rfl) ?_
 refine wq_run (v := .pointer (some ⟨b55, 0, none⟩)) rfl rfl (fun w hst => rfl) ?_
 refine wq_run (v := .pointer (some ⟨b55, 1, none⟩)) rfl rfl (fun w hst => x_field rfl Try.underlying26 rfl Try.sizeOf3 rfl) ?_
 refine wq_run (v := .int .i64 a0.I) rfl rfl (fun w hst => x_load rfl Try.isAgg3 (hst.bc0 rfl)) ?_
 refine wq_run (v := .pointer (some ⟨b55, 0, none⟩)) rfl rfl (fun w hst => rfl) ?_
 refine wq_run (v := .pointer (some ⟨b55, 0, none⟩)) rfl rfl (fun w hst => rfl) ?_
 refine wq_run (v := .pointer (some ⟨b55, 0, none⟩)) rfl rfl (fun w hst => x_field rfl Try.underlying26 rfl Try.sizeOf22 rfl) ?_
 refine wq_run (v := v56) rfl rfl (fun w hst => x_load rfl Try.isAgg22 (hst.bc0 rfl)) ?_
 refine wq_run (v := .int .i64 ((a0.L).length : Int)) rfl rfl (fun w hst => x_len rfl Try.underlying22 (ro_sliceV f58)) ?_
 refine wq_run (v := .bool (decide (a0.I ≥ ((a0.L).length : Int)))) rfl rfl (fun w hst => rfl) ?_
 refine wq_nil ?_
 intro w hst
 refine then_n ?_
 refine bsplit (decide (a0.I ≥ ((a0.L).length : Int))) (fun hc59 => ?_) (fun hc59 => ?_)
 ·skip
  replace hm := bif_t hc59 hm
  refine wp_ift (congrArg Value.bool hc59) ?_
  refine wp_seq (wp_region_lit ?_)
  refine wv (.int .i64 (0:Int)) rfl rfl rfl ?_
  refine wl_nil (then_n (wp_ret (then_r ?_)))
  replace hst := at_ref12_Tape_close (pv := .pointer (some ⟨b55, 0, none⟩)) (x := a0) hst ⟨rfl, f58⟩
  obtain rfl := some_inj hm
  refine post_ret (vs := [.int .i64 (0:Int)]) Try.results22 (rvs_cons (rv_tmp rfl) rvs_nil) ?_
  exact ⟨rfl, hst.keep1⟩
 ·skip
  replace hm := bif_f hc59 hm
  refine wp_iff (congrArg Value.bool hc59) ?_
  refine wp_skip (then_n (wp_seq (wp_region_lit ?_)))
  refine wv (.pointer (some ⟨b55, 0, none⟩)) rfl rfl rfl ?_
  refine wv (.pointer (some ⟨b55, 0, none⟩)) rfl rfl rfl ?_
  refine wv (.pointer (some ⟨b55, 1, none⟩)) rfl rfl (x_field rfl Try.underlying26 rfl Try.sizeOf3 rfl) ?_
  refine wv (.int .i64 a0.I) rfl rfl (x_load rfl Try.isAgg3 (hst.bc0 rfl)) ?_
  refine wv (.int .i64 (IntKind.i64.wrap (a0.I + (1:Int)))) rfl rfl rfl ?_
  refine wv (.pointer (some ⟨b55, 0, none⟩)) rfl rfl rfl ?_
  refine wv (.pointer (some ⟨b55, 1, none⟩)) rfl rfl (x_field rfl Try.underlying26 rfl Try.sizeOf3 rfl) ?_
  obtain ⟨w60, hr61, hst⟩ := hst.boxStore (P := Try.prog) (t := 3) (cs' := [v56, .int .i64 (IntKind.i64.wrap (a0.I + (1:Int)))]) 1 (.int .i64 (IntKind.i64.wrap (a0.I + (1:Int)))) Try.sizeOf3 (Nat.le_of_ble_eq_true rfl) (ones_cons rfl ones_nil) (by kernel_rfl)
  refine wl_unit rfl rfl (x_unit hr61) ?_
  refine wl_nil (then_n (wp_seq ?_))
  refine wq_regionS hst Try.mixed (by kernel_rfl) ?_
  refine wq_run (v := .pointer (some ⟨b55, 0, none⟩)) rfl rfl (fun w hst => rfl) ?_
  refine wq_run (v := .pointer (some ⟨b55, 0, none⟩)) rfl rfl (fun w hst => rfl) ?_
  refine wq_run (v := .pointer (some ⟨b55, 0, none⟩)) rfl rfl (fun w hst => x_field rfl Try.underlying26 rfl Try.sizeOf22 rfl) ?_
  refine wq_run (v := v56) rfl rfl (fun w hst => x_load rfl Try.isAgg22 (hst.bc0 rfl)) ?_
  refine wq_run (v := .pointer (some ⟨b55, 0, none⟩)) rfl rfl (fun w hst => rfl) ?_
  refine wq_run (v := .pointer (some ⟨b55, 0, none⟩)) rfl rfl (fun w hst => rfl) ?_
  refine wq_run (v := .pointer (some ⟨b55, 1, none⟩)) rfl rfl (fun w hst => x_field rfl Try.underlying26 rfl Try.sizeOf3 rfl) ?_
  refine wq_run (v := .int .i64 (IntKind.i64.wrap (a0.I + (1:Int)))) rfl rfl (fun w hst => x_load rfl Try.isAgg3 (hst.bc0 rfl)) ?_
  refine wq_run (v := .int .i64 (IntKind.i64.wrap ((IntKind.i64.wrap (a0.I + (1:Int))) - (1:Int)))) rfl rfl (fun w hst => rfl) ?_
  obtain ⟨x62, hx63, hm⟩ := bind_some hm
  obtain ⟨h64, h65, hi66⟩ := geto_some hx63
  refine wq_run (v := .pointer (some (eAddr v56 ((IntKind.i64.wrap ((IntKind.i64.wrap (a0.I + (1:Int))) - (1:Int))).toNat * 1 + 0)))) rfl rfl (fun w hst => x_index rfl rfl Try.underlying22 Try.sizeOf5 (ro_sliceV f58) h64 h65) ?_
  refine wq_run (v := .int .u8 x62) rfl rfl (fun w hst => x_load rfl Try.isAgg5 (ro_load f58 hst hi66 (by rintro _ rfl; rfl))) ?_
  refine wq_run (v := .int .i64 (IntKind.i64.wrap x62)) rfl rfl (fun w hst => by kernel_rfl) ?_
  refine wq_run (v := .int .i64 a1) rfl rfl (fun w hst => rfl) ?_
  obtain ⟨hg67, hm⟩ := gd_some hm
  refine wq_run (v := .int .i64 (Int.tmod (IntKind.i64.wrap x62) a1)) rfl rfl (fun w hst => x_rem (not_t hg67) rfl rfl) ?_
  refine wq_run (v := .int .i64 (Int.tmod (IntKind.i64.wrap x62) a1)) rfl rfl (fun w hst => rfl) ?_
  refine wq_nil ?_
  intro w hst
  refine then_n (wp_ret ?_)
  replace hst := at_ref12_Tape_close (pv := .pointer (some ⟨b55, 0, none⟩)) (x := ({ L := a0.L, I := (IntKind.i64.wrap (a0.I + (1:Int))) } : ref12_Tape)) hst ⟨rfl, f58⟩
  obtain rfl := some_inj hm
  refine post_ret (vs := [.int .i64 (Int.tmod (IntKind.i64.wrap x62) a1)]) Try.results22 (rvs_cons (rv_tmp rfl) rvs_nil) ?_
  exact ⟨rfl, hst.keep1⟩

theorem ref12_Tape_Of_ref {w0 w : World} {I : HL} {R : SP} {a0 : ref12_Tape} {p0 : Value}  (hst : St w0 w I [at_ref12_Tape p0 a0] R) {r : (api_ID × ref12_Tape)} (hm : ref12_Tape_Of a0 = some r) :
  Calls Try.prog 24 #[p0] w fun e w' => e = .returned (.agg #[.int .u64 r.1.Session, .int .u64 r.1.Seq]) ∧ St w0 w' I [at_ref12_Tape p0 r.2] R := by
 unfold ref12_Tape_Of at hm
 refine calls_start (args := [p0]) Try.func24 rfl Try.ntmps24 (Nat.le_of_ble_eq_true rfl) ?_
 refine wp_seq (wp_region_lit ?_)
 obtain ⟨b108, w109, ew110, eb111, hst⟩ := hst.box [.int .u64 (0:Int), .int .u64 (0:Int)] 29
 refine wl_run (v := .pointer (some ⟨b108, 0, none⟩)) (w' := w109) rfl rfl (x_al (by kernel_rfl) ew110 eb111) ?_
 refine wl_nil (then_n (wp_seq (wp_region_lit ?_)))
 refine wv (p0) rfl rfl rfl ?_
 replace hst := hst.pull1
 obtain ⟨t113, ht114, hm⟩ := bind_some hm
 refine wl_call rfl rfl (x_call Try.call22 rfl (vs := [p0, .int .i64 (4:Int)]) rfl) ?_
 refine (ref12_Tape_Next_ref hst.to1 ht114).mono ?_
 rintro _ w115 ⟨rfl, hst⟩
 refine ⟨_, rfl, ?_⟩
 replace hst := hst.of1
 refine wv (.int .u64 (IntKind.u64.wrap t113.1)) rfl rfl (by kernel_rfl) ?_
 refine wv (p0) rfl rfl rfl ?_
 obtain ⟨t118, ht119, hm⟩ := bind_some hm
 refine wl_call rfl rfl (x_call Try.call22 rfl (vs := [p0, .int .i64 (4:Int)]) rfl) ?_
 refine (ref12_Tape_Next_ref hst.to1 ht119).mono ?_
 rintro _ w120 ⟨rfl, hst⟩
 refine ⟨_, rfl, ?_⟩
 replace hst := hst.of1
 refine wv (.int .i64 (IntKind.i64.wrap ((1:Int) + t118.1))) rfl rfl rfl ?_
 refine wv (.int .u64 (IntKind.u64.wrap (IntKind.i64.wrap ((1:Int) + t118.1)))) rfl rfl (by kernel_rfl) ?_
 refine wv (.agg #[.int .u64 (IntKind.u64.wrap t113.1), .int .u64 (IntKind.u64.wrap (IntKind.i64.wrap ((1:Int) + t118.1)))]) rfl rfl (by kernel_rfl) ?_
 replace hst := hst.pull1
 obtain ⟨w123, hr124, hst⟩ := hst.boxStore (P := Try.prog) (t := 29) (cs' := [.int .u64 (IntKind.u64.wrap t113.1), .int .u64 (IntKind.u64.wrap (IntKind.i64.wrap ((1:Int) + t118.1)))]) 0 (.agg #[.int .u64 (IntKind.u64.wrap t113.1), .int .u64 (IntKind.u64.wrap (IntKind.i64.wrap ((1:Int) + t118.1)))]) Try.sizeOf29 (Nat.le_of_ble_eq_true rfl) (ones_cons rfl (ones_cons rfl ones_nil)) (by kernel_rfl)
 refine wl_unit rfl rfl (x_unit hr124) ?_
 refine wl_nil (then_n (wp_ret ?_))
 obtain rfl := some_inj hm
 refine post_ret (vs := [.agg #[.int .u64 (IntKind.u64.wrap t113.1), .int .u64 (IntKind.u64.wrap (IntKind.i64.wrap ((1:Int) + t118.1)))]]) Try.results24 (rvs_cons (rv_cell (cs := [.int .u64 (IntKind.u64.wrap t113.1), .int .u64 (IntKind.u64.wrap (IntKind.i64.wrap ((1:Int) + t118.1)))]) rfl Try.isAgg29 Try.sizeOf29 (hst.bcs0 0 rfl)) rvs_nil) ?_
 replace hst := hst.pull1
 exact ⟨rfl, hst.keep1⟩

theorem ref12_small_ref {w0 w : World} {I : HL} {R : SP} {a0 : Int}  (hst : St w0 w I [] R) {r : (Nat)} (hm : ref12_small a0 = some r) :
  Calls Try.prog 63 #[.int .u8 a0] w fun e w' => e = .returned (.float .f64 r) ∧ St w0 w' I [] R := by
 unfold ref12_small at hm
 refine calls_start (args := [.int .u8 a0]) Try.func63 rfl Try.ntmps63 (Nat.le_of_ble_eq_true rfl) ?_
 refine wp_seq (wp_region_lit ?_)
 refine wv (.float .f64 (0:Nat)) rfl rfl rfl ?_
 refine wl_nil (then_n (wp_seq (wp_region_lit ?_)))
 obtain ⟨b136, w137, ew138, eb139, hst⟩ := hst.lits (E := tyF64) (xs := [(0:Nat), (4607182418800017408:Nat), (13830554455654793216:Nat), (4612811918334230528:Nat), (9094988921128908188:Nat), (18318360957983683996:Nat), (4602678819172646912:Nat), (4613937818241073152:Nat)]) [[.float .f64 (0:Nat)], [.float .f64 (4607182418800017408:Nat)], [.float .f64 (13830554455654793216:Nat)], [.float .f64 (4612811918334230528:Nat)], [.float .f64 (9094988921128908188:Nat)], [.float .f64 (18318360957983683996:Nat)], [.float .f64 (4602678819172646912:Nat)], [.float .f64 (4613937818241073152:Nat)]] 41 8 rfl (Reps.cons rfl (Reps.cons rfl (Reps.cons rfl (Reps.cons rfl (Reps.cons rfl (Reps.cons rfl (Reps.cons rfl (Reps.cons rfl Reps.nil))))))))
 refine wl_run (v := (.slice (some ⟨b136, 0, none⟩) 8 8)) (w' := w137) rfl rfl (x_als (by kernel_rfl) ew138 eb139) ?_
 refine wv ((.slice (some ⟨b136, 0, none⟩) 8 8)) rfl rfl rfl ?_
 refine wl_nil (then_n (wp_seq (wp_region_lit ?_)))
 refine wv ((.slice (some ⟨b136, 0, none⟩) 8 8)) rfl rfl rfl ?_
 refine wv (.int .u8 a0) rfl rfl rfl ?_
 refine wv (.int .u8 (Int.tmod a0 (8:Int))) rfl rfl (x_rem (by decide) rfl rfl) ?_
 obtain ⟨x141, hx142, hm⟩ := bind_some hm
 obtain ⟨h143, h144, hi145⟩ := geto_some hx142
 refine wv (.pointer (some (eAddr (.slice (some ⟨b136, 0, none⟩) 8 8) ((Int.tmod a0 (8:Int)).toNat * 1 + 0)))) rfl rfl (x_index rfl rfl Try.underlying31 Try.sizeOf41 hst.sv0 h143 h144) ?_
 refine wv (.float .f64 x141) rfl rfl (x_load rfl Try.isAgg41 (hst.ol0 hi145 (by rintro _ rfl; rfl))) ?_
 refine wv (.float .f64 x141) rfl rfl rfl ?_
 refine wl_nil (then_n (wp_ret ?_))
 obtain rfl := some_inj hm
 refine post_ret (vs := [.float .f64 x141]) Try.results63 (rvs_cons (rv_tmp rfl) rvs_nil) ?_
 exact ⟨rfl, hst.keep0⟩

theorem ref12_Tape_Float_ref {w0 w : World} {I : HL} {R : SP} {a0 : ref12_Tape} {p0 : Value}  (hst : St w0 w I [at_ref12_Tape p0 a0] R) {r : (Nat × ref12_Tape)} (hm : ref12_Tape_Float a0 = some r) :
  Calls Try.prog 37 #[p0] w fun e w' => e = .returned (.float .f64 r.1) ∧ St w0 w' I [at_ref12_Tape p0 r.2] R := by
 unfold ref12_Tape_Float at hm
 refine calls_start (args := [p0]) Try.func37 rfl Try.ntmps37 (Nat.le_of_ble_eq_true rfl) ?_
 refine wp_seq (wp_region_lit ?_)
 refine wv (.float .f64 (0:Nat)) rfl rfl rfl ?_
 refine wl_nil (then_n (wp_seq (wp_region_lit ?_)))
 refine wv (p0) rfl rfl rfl ?_
 obtain ⟨t132, ht133, hm⟩ := bind_some hm
 refine wl_call rfl rfl (x_call Try.call22 rfl (vs := [p0, .int .i64 (8:Int)]) rfl) ?_
 refine (ref12_Tape_Next_ref hst.to1 ht133).mono ?_
 rintro _ w134 ⟨rfl, hst⟩
 refine ⟨_, rfl, ?_⟩
 replace hst := hst.of1
 refine wv (.int .u8 (IntKind.u8.wrap t132.1)) rfl rfl (by kernel_rfl) ?_
 obtain ⟨t137, ht138, hm⟩ := bind_some hm
 refine wl_call rfl rfl (x_call Try.call63 rfl (vs := [.int .u8 (IntKind.u8.wrap t132.1)]) rfl) ?_
 refine (ref12_small_ref hst.to0 ht138).mono ?_
 rintro _ w139 ⟨rfl, hst⟩
 refine ⟨_, rfl, ?_⟩
 replace hst := hst.of0
 refine wv (.float .f64 t137) rfl rfl rfl ?_
 refine wl_nil (then_n (wp_ret ?_))
 obtain rfl := some_inj hm
 refine post_ret (vs := [.float .f64 t137]) Try.results37 (rvs_cons (rv_tmp rfl) rvs_nil) ?_
 exact ⟨rfl, hst.keep1⟩

theorem ref12_Tape_Val_ref {w0 w : World} {I : HL} {R : SP} {a0 : ref12_Tape} {p0 : Value}  (hst : St w0 w I [at_ref12_Tape p0 a0] R) {r : ((List Int) × ref12_Tape)} (hm : ref12_Tape_Val a0 = some r) :
  Calls Try.prog 36 #[p0] w fun e w' => ∃ (q0_0 : Value), e = .returned (q0_0) ∧ St w0 w' I [ownS (tyInt .u8) q0_0 r.1, at_ref12_Tape p0 r.2] R := by
 unfold ref12_Tape_Val at hm
 refine calls_start (args := [p0]) Try.func36 rfl Try.ntmps36 (Nat.le_of_ble_eq_true rfl) ?_
 refine wp_seq (wp_region_lit ?_)
 refine wv ((.slice none 0 0)) rfl rfl rfl ?_
 refine wl_nil (then_n (wp_seq (wp_region_lit ?_)))
 refine wv ((.slice none 0 0)) rfl rfl rfl ?_
 refine wl_nil (then_n (wp_seq (wp_region_lit ?_)))
 refine wv (p0) rfl rfl rfl ?_
 obtain ⟨t529, ht530, hm⟩ := bind_some hm
 refine wl_call rfl rfl (x_call Try.call22 rfl (vs := [p0, .int .i64 (4:Int)]) rfl) ?_
 refine (ref12_Tape_Next_ref hst.to1 ht530).mono ?_
 rintro _ w531 ⟨rfl, hst⟩
 refine ⟨_, rfl, ?_⟩
 replace hst := hst.of1
 refine wv (.int .i64 t529.1) rfl rfl rfl ?_
 refine wl_nil (then_n (wp_seq (wp_seq (wp_region_lit ?_))))
 refine wv (.int .i64 (0:Int)) rfl rfl rfl ?_
 refine wl_nil (then_n (wp_block ?_))
 replace hst := hst.own_nil (tyInt .u8)
 obtain ⟨n590, hm⟩ := loopO_some hm
 refine wp_loop_n (fun n a w => ∃ (z584 : ref12_Tape) (z585 : (List Int)) (z588 : Int) (v586 : Value) (σ589 : Nat → Value), loopN (ref12_Tape_Val_l0 t529) n (z584, z585, z588) = some r ∧ a = Fr 21 (upd (upd (upd (upd σ589 0 (p0)) 3 (v586)) 4 (.int .i64 t529.1)) 5 (.int .i64 z588)) ∧ St w0 w I [ownS (tyInt .u8) v586 z585, at_ref12_Tape p0 z584] R) n590 ⟨t529.2, [], (0:Int), (.slice none 0 0), _, hm, ((fr_upd (t := 0) (v := p0) rfl).trans ((fr_upd (t := 3) (v := (.slice none 0 0)) rfl).trans ((fr_upd (t := 4) (v := .int .i64 t529.1) rfl).trans ((fr_upd (t := 5) (v := .int .i64 (0:Int)) rfl).trans rfl)))), hst⟩ ?_
 rintro n596 _ w591 ⟨z584, z585, z588, v586, σ589, hm, rfl, hst⟩
 obtain ⟨n593, y594, rfl, hm, hx595⟩ := loopN_some hm
 dsimp only [ref12_Tape_Val_l0] at hm
 refine wp_seq (wp_seq (wp_region_lit ?_))
 refine wv (.int .i64 z588) rfl rfl rfl ?_
 refine wv (.int .i64 t529.1) rfl rfl rfl ?_
 refine wv (.bool (decide (z588 < t529.1))) rfl rfl rfl ?_
 refine wl_nil (then_n ?_)
 refine bsplit (decide (z588 < t529.1)) (fun hc597 => ?_) (fun hc597 => ?_)
 ·skip
  replace hm := bif_t hc597 hm
  refine wp_ift (congrArg Value.bool hc597) ?_
  refine wp_skip (then_n (wp_seq (wp_block (wp_region_lit ?_))))
  refine wv (v586) rfl rfl rfl ?_
  refine wv (p0) rfl rfl rfl ?_
  replace hst := hst.pull1
  obtain ⟨t598, ht599, hm⟩ := bind_some hm
  refine wl_call rfl rfl (x_call Try.call22 rfl (vs := [p0, .int .i64 (26:Int)]) rfl) ?_
  refine (ref12_Tape_Next_ref hst.to1 ht599).mono ?_
  rintro _ w600 ⟨rfl, hst⟩
  refine ⟨_, rfl, ?_⟩
  replace hst := hst.of1
  refine wv (.int .i64 (IntKind.i64.wrap ((97:Int) + t598.1))) rfl rfl rfl ?_
  refine wv (.int .u8 (IntKind.u8.wrap (IntKind.i64.wrap ((97:Int) + t598.1)))) rfl rfl (by kernel_rfl) ?_
  obtain ⟨b603, w604, ew605, eb606, hst⟩ := hst.lits (E := (tyInt .u8)) (xs := [(IntKind.u8.wrap (IntKind.i64.wrap ((97:Int) + t598.1)))]) [[.int .u8 (IntKind.u8.wrap (IntKind.i64.wrap ((97:Int) + t598.1)))]] 5 1 rfl (Reps.cons rfl Reps.nil)
  refine wl_run (v := (.slice (some ⟨b603, 0, none⟩) 1 1)) (w' := w604) rfl rfl (x_als (by kernel_rfl) ew605 eb606) ?_
  obtain ⟨hg608, hm⟩ := gd_some hm
  replace hst := hst.pull2
  obtain ⟨v609, w610, hr611, hst⟩ := run_append elem_22 Try.underlying22 hst hst.src1 (room_of hg608 rfl) 22
  refine wl_run (v := v609) (w' := w610) rfl rfl (x_append rfl rfl hr611) ?_
  refine wv (v609) rfl rfl rfl ?_
  refine wl_nil (blk_n (then_n (wp_region_lit ?_)))
  refine wv (.int .i64 z588) rfl rfl rfl ?_
  refine wv (.int .i64 (IntKind.i64.wrap (z588 + (1:Int)))) rfl rfl rfl ?_
  refine wv (.int .i64 (IntKind.i64.wrap (z588 + (1:Int)))) rfl rfl rfl ?_
  refine wl_nil (then_n ?_)
  replace hst := hst.pull2
  replace hst := hst.pull1
  replace hst := hst.keep2
  obtain rfl := some_inj hm
  exact ⟨_, Nat.lt_succ_self _, t598.2, (z585 ++ ([(IntKind.u8.wrap (IntKind.i64.wrap ((97:Int) + t598.1)))])), (IntKind.i64.wrap (z588 + (1:Int))), v609, _, hx595, ((fr_upd (t := 0) (v := p0) rfl).trans ((fr_upd (t := 3) (v := v609) rfl).trans ((fr_upd (t := 4) (v := .int .i64 t529.1) rfl).trans ((fr_upd (t := 5) (v := .int .i64 (IntKind.i64.wrap (z588 + (1:Int)))) rfl).trans rfl)))), hst⟩
 ·skip
  replace hm := bif_f hc597 hm
  refine wp_iff (congrArg Value.bool hc597) ?_
  refine wp_exit (then_x (then_x ?_))
  replace hm := inr_up hm hx595
  refine blk_x (then_n (wp_seq (wp_region_lit ?_)))
  refine wv (v586) rfl rfl rfl ?_
  refine wv (v586) rfl rfl rfl ?_
  refine wl_nil (then_n (wp_ret ?_))
  obtain rfl := some_inj hm
  refine post_ret (vs := [v586]) Try.results36 (rvs_cons (rv_tmp rfl) rvs_nil) ?_
  replace hst := hst.pull1
  replace hst := hst.pull1
  exact ⟨v586, rfl, hst.keep2⟩

theorem ref12_Tape_Hold_ref {w0 w : World} {I : HL} {R : SP} {a0 : ref12_Tape} {p0 : Value}  (hst : St w0 w I [at_ref12_Tape p0 a0] R) {r : (api_Hold × ref12_Tape)} (hm : ref12_Tape_Hold a0 = some r) :
  Calls Try.prog 23 #[p0] w fun e w' => ∃ (q0_0 : Value) (q0_1 : Value) (q0_2 : Value) (q0_3 : Value), e = .returned (.agg #[.int .u64 r.1.ID.Session, .int .u64 r.1.ID.Seq, .int .u64 r.1.Epoch, q0_0, q0_1, q0_2, q0_3]) ∧ St w0 w' I [ownS tyF64 q0_0 r.1.Gets, ownS tyF2 q0_1 r.1.Scans, ownS tyF64 q0_2 r.1.Puts, ownS (tyInt .u8) q0_3 r.1.Data, at_ref12_Tape p0 r.2] R := by
 unfold ref12_Tape_Hold at hm
 refine calls_start (args := [p0]) Try.func23 rfl Try.ntmps23 (Nat.le_of_ble_eq_true rfl) ?_
 refine wp_seq (wp_region_lit ?_)
 obtain ⟨b458, w459, ew460, eb461, hst⟩ := hst.box [.int .u64 (0:Int), .int .u64 (0:Int), .int .u64 (0:Int), (.slice none 0 0), (.slice none 0 0), (.slice none 0 0), (.slice none 0 0)] 34
 refine wl_run (v := .pointer (some ⟨b458, 0, none⟩)) (w' := w459) rfl rfl (x_al (by kernel_rfl) ew460 eb461) ?_
 refine wl_nil (then_n (wp_seq (wp_region_lit ?_)))
 refine wv (p0) rfl rfl rfl ?_
 replace hst := hst.pull1
 obtain ⟨t463, ht464, hm⟩ := bind_some hm
 refine wl_call rfl rfl (x_call Try.call24 rfl (vs := [p0]) rfl) ?_
 refine (ref12_Tape_Of_ref hst.to1 ht464).mono ?_
 rintro _ w465 ⟨rfl, hst⟩
 refine ⟨_, rfl, ?_⟩
 replace hst := hst.of1
 refine wv (p0) rfl rfl rfl ?_
 obtain ⟨t468, ht469, hm⟩ := bind_some hm
 refine wl_call rfl rfl (x_call Try.call22 rfl (vs := [p0, .int .i64 (4:Int)]) rfl) ?_
 refine (ref12_Tape_Next_ref hst.to1 ht469).mono ?_
 rintro _ w470 ⟨rfl, hst⟩
 refine ⟨_, rfl, ?_⟩
 replace hst := hst.of1
 refine wv (.int .i64 (IntKind.i64.wrap ((1:Int) + t468.1))) rfl rfl rfl ?_
 refine wv (.int .u64 (IntKind.u64.wrap (IntKind.i64.wrap ((1:Int) + t468.1)))) rfl rfl (by kernel_rfl) ?_
 refine wv (.agg #[.int .u64 t463.1.Session, .int .u64 t463.1.Seq, .int .u64 (IntKind.u64.wrap (IntKind.i64.wrap ((1:Int) + t468.1))), (.slice none 0 0), (.slice none 0 0), (.slice none 0 0), (.slice none 0 0)]) rfl rfl (by kernel_rfl) ?_
 obtain ⟨b481, w482, ew483, eb484, hst⟩ := hst.box [.int .u64 (0:Int), .int .u64 (0:Int), .int .u64 (0:Int), (.slice none 0 0), (.slice none 0 0), (.slice none 0 0), (.slice none 0 0)] 34
 refine wl_run (v := .pointer (some ⟨b481, 0, none⟩)) (w' := w482) rfl rfl (x_al (by kernel_rfl) ew483 eb484) ?_
 obtain ⟨w486, hr487, hst⟩ := hst.boxStore (P := Try.prog) (t := 34) (cs' := [.int .u64 t463.1.Session, .int .u64 t463.1.Seq, .int .u64 (IntKind.u64.wrap (IntKind.i64.wrap ((1:Int) + t468.1))), (.slice none 0 0), (.slice none 0 0), (.slice none 0 0), (.slice none 0 0)]) 0 (.agg #[.int .u64 t463.1.Session, .int .u64 t463.1.Seq, .int .u64 (IntKind.u64.wrap (IntKind.i64.wrap ((1:Int) + t468.1))), (.slice none 0 0), (.slice none 0 0), (.slice none 0 0), (.slice none 0 0)]) Try.sizeOf34 (Nat.le_of_ble_eq_true rfl) (ones_cons rfl (ones_cons rfl (ones_cons rfl (ones_cons rfl (ones_cons rfl (ones_cons rfl (ones_cons rfl ones_nil))))))) (by kernel_rfl)
 refine wl_unit rfl rfl (x_unit hr487) ?_
 refine wl_nil (then_n (wp_seq (wp_region_lit ?_)))
 refine wv (p0) rfl rfl rfl ?_
 replace hst := hst.pull1
 obtain ⟨t488, ht489, hm⟩ := bind_some hm
 refine wl_call rfl rfl (x_call Try.call22 rfl (vs := [p0, .int .i64 (3:Int)]) rfl) ?_
 refine (ref12_Tape_Next_ref hst.to1 ht489).mono ?_
 rintro _ w490 ⟨rfl, hst⟩
 refine ⟨_, rfl, ?_⟩
 replace hst := hst.of1
 refine wv (.int .i64 t488.1) rfl rfl rfl ?_
 refine wl_nil (then_n ?_)
 obtain ⟨y585, hm, hx586⟩ := bind_some hm
 refine wp_cut (fun a w => ∃ (z579 : ref12_Tape) (z582 : (List Nat)) (v581 : Value) (σ583 : Nat → Value), (ref12_Tape_Hold_j0 t463 t468) (z579, z582) = some r ∧ a = Fr 68 (upd (upd (upd σ583 0 (p0)) 2 (.pointer (some ⟨b458, 0, none⟩))) 3 (.pointer (some ⟨b481, 0, none⟩))) ∧ St w0 w I [at_ref12_Tape p0 z579, cells b458 [.int .u64 (0:Int), .int .u64 (0:Int), .int .u64 (0:Int), (.slice none 0 0), (.slice none 0 0), (.slice none 0 0), (.slice none 0 0)], cells b481 [.int .u64 t463.1.Session, .int .u64 t463.1.Seq, .int .u64 (IntKind.u64.wrap (IntKind.i64.wrap ((1:Int) + t468.1))), v581, (.slice none 0 0), (.slice none 0 0), (.slice none 0 0)], ownS tyF64 v581 z582] R) ?_ ?_
 ·skip
  refine wp_seq (wp_region_lit ?_)
  refine wv (.int .i64 (0:Int)) rfl rfl rfl ?_
  refine wl_nil (then_n (wp_block ?_))
  replace hst := hst.own_nil tyF64
  obtain ⟨n555, hm⟩ := loopO_some hm
  refine wp_loop_n (fun n a w => ∃ (z549 : (List Nat)) (z552 : ref12_Tape) (z553 : Int) (v550 : Value) (σ554 : Nat → Value), loopN (ref12_Tape_Hold_l1 t488) n (z549, z552, z553) = some y585 ∧ a = Fr 68 (upd (upd (upd (upd (upd σ554 0 (p0)) 2 (.pointer (some ⟨b458, 0, none⟩))) 3 (.pointer (some ⟨b481, 0, none⟩))) 4 (.int .i64 t488.1)) 5 (.int .i64 z553)) ∧ St w0 w I [ownS tyF64 v550 z549, at_ref12_Tape p0 z552, cells b481 [.int .u64 t463.1.Session, .int .u64 t463.1.Seq, .int .u64 (IntKind.u64.wrap (IntKind.i64.wrap ((1:Int) + t468.1))), v550, (.slice none 0 0), (.slice none 0 0), (.slice none 0 0)], cells b458 [.int .u64 (0:Int), .int .u64 (0:Int), .int .u64 (0:Int), (.slice none 0 0), (.slice none 0 0), (.slice none 0 0), (.slice none 0 0)]] R) n555 ⟨[], t488.2, (0:Int), (.slice none 0 0), _, hm, ((fr_upd (t := 0) (v := p0) rfl).trans ((fr_upd (t := 2) (v := .pointer (some ⟨b458, 0, none⟩)) rfl).trans ((fr_upd (t := 3) (v := .pointer (some ⟨b481, 0, none⟩)) rfl).trans ((fr_upd (t := 4) (v := .int .i64 t488.1) rfl).trans ((fr_upd (t := 5) (v := .int .i64 (0:Int)) rfl).trans rfl))))), hst⟩ ?_
  rintro n561 _ w556 ⟨z549, z552, z553, v550, σ554, hm, rfl, hst⟩
  obtain ⟨n558, y559, rfl, hm, hx560⟩ := loopN_some hm
  dsimp only [ref12_Tape_Hold_l1] at hm
  refine wp_seq (wp_seq (wp_region_lit ?_))
  refine wv (.int .i64 z553) rfl rfl rfl ?_
  refine wv (.int .i64 t488.1) rfl rfl rfl ?_
  refine wv (.bool (decide (z553 < t488.1))) rfl rfl rfl ?_
  refine wl_nil (then_n ?_)
  refine bsplit (decide (z553 < t488.1)) (fun hc562 => ?_) (fun hc562 => ?_)
  ·skip
   replace hm := bif_t hc562 hm
   refine wp_ift (congrArg Value.bool hc562) ?_
   refine wp_skip (then_n (wp_seq (wp_block ?_)))
   refine wp_region_St hst 8 [0, 1, 2, 3, 4, 5, 6, 7] [0, 1, 0, 4, 12, 31, 63, 127] [] rfl (by kernel_rfl) (by kernel_rfl) Try.mixed (by kernel_rfl) ?_
   refine wsr (.pointer (some ⟨b481, 3, none⟩)) 0 rfl rfl rfl (by kernel_rfl) (fun w hst => x_field rfl Try.underlying34 rfl Try.sizeOf31 rfl) ?_
   refine wsr (v550) 1 rfl rfl rfl (by kernel_rfl) (fun w hst => x_load rfl Try.isAgg31 (hst.bc2 rfl)) ?_
   refine wsr (p0) 2 rfl rfl rfl (by kernel_rfl) (fun w hst => rfl) ?_
   refine ws_e1 3 (by kernel_rfl) ?_
   refine nxe [4, 5, 6, 7] (by kernel_rfl) rfl rfl ?_
   clear hst
   intro w hst
   replace hst := hst.pull1
   obtain ⟨t563, ht564, hm⟩ := bind_some hm
   refine we_call rfl (x_call Try.call37 rfl (vs := [p0]) rfl) ?_
   refine (ref12_Tape_Float_ref hst.to1 ht564).mono ?_
   rintro _ w565 ⟨rfl, hst⟩
   refine ⟨_, rfl, ?_⟩
   replace hst := hst.of1
   refine ws_next (pend' := [(1, v550), (0, .pointer (some ⟨b481, 3, none⟩))]) hst (by kernel_rfl) (pkr rfl rfl (fun w hst => x_load rfl Try.isAgg31 (hst.bc2 rfl)) (pkr rfl rfl (fun w hst => x_field rfl Try.underlying34 rfl Try.sizeOf31 rfl) pk_nil)) ?_
   refine ws_e1 4 (by kernel_rfl) ?_
   refine nxe [5, 6, 7] (by kernel_rfl) rfl rfl ?_
   clear hst
   intro w hst
   obtain ⟨b568, w569, ew570, eb571, hst⟩ := hst.lits (E := tyF64) (xs := [t563.1]) [[.float .f64 t563.1]] 41 1 rfl (Reps.cons rfl Reps.nil)
   refine we_run (v := (.slice (some ⟨b568, 0, none⟩) 1 1)) (w' := w569) rfl (x_als (by kernel_rfl) ew570 eb571) ?_
   refine ws_next (pend' := [(1, v550), (0, .pointer (some ⟨b481, 3, none⟩))]) hst (by kernel_rfl) (pkr rfl rfl (fun w hst => x_load rfl Try.isAgg31 (hst.bc3 rfl)) (pkr rfl rfl (fun w hst => x_field rfl Try.underlying34 rfl Try.sizeOf31 rfl) pk_nil)) ?_
   refine ws_e1 5 (by kernel_rfl) ?_
   refine nxe [6, 7] (by kernel_rfl) rfl rfl ?_
   clear hst
   intro w hst
   obtain ⟨hg573, hm⟩ := gd_some hm
   replace hst := hst.pull2
   obtain ⟨v574, w575, hr576, hst⟩ := run_append elem_31 Try.underlying31 hst hst.src1 (room_of hg573 rfl) 31
   refine we_run (v := v574) (w' := w575) rfl (x_append rfl rfl hr576) ?_
   refine ws_next (pend' := []) hst (by kernel_rfl) pk_nil ?_
   refine wsr (.pointer (some ⟨b481, 3, none⟩)) 6 rfl rfl rfl (by kernel_rfl) (fun w hst => x_field rfl Try.underlying34 rfl Try.sizeOf31 rfl) ?_
   refine ws_e1 7 (by kernel_rfl) ?_
   refine nxe [] (by kernel_rfl) rfl rfl ?_
   clear hst
   intro w hst
   replace hst := hst.pull3
   obtain ⟨w577, hr578, hst⟩ := hst.boxStore1 (P := Try.prog) (t := 31) (cs' := [.int .u64 t463.1.Session, .int .u64 t463.1.Seq, .int .u64 (IntKind.u64.wrap (IntKind.i64.wrap ((1:Int) + t468.1))), v574, (.slice none 0 0), (.slice none 0 0), (.slice none 0 0)]) 3 v574 (one_of_sliceV hst.sv1) Try.sizeOf31 rfl rfl
   refine we_unit rfl (x_unit hr578) ?_
   refine ws_next (pend' := []) hst (by kernel_rfl) pk_nil ?_
   refine ws_nil ?_
   intro w hst
   refine blk_n (then_n (wp_region_lit ?_))
   refine wv (.int .i64 z553) rfl rfl rfl ?_
   refine wv (.int .i64 (IntKind.i64.wrap (z553 + (1:Int)))) rfl rfl rfl ?_
   refine wv (.int .i64 (IntKind.i64.wrap (z553 + (1:Int)))) rfl rfl rfl ?_
   refine wl_nil (then_n ?_)
   replace hst := hst.pull4
   replace hst := hst.pull1
   replace hst := hst.pull4
   replace hst := hst.pull3
   replace hst := hst.keep4
   obtain rfl := some_inj hm
   exact ⟨_, Nat.lt_succ_self _, (z549 ++ ([t563.1])), t563.2, (IntKind.i64.wrap (z553 + (1:Int))), v574, _, hx560, ((fr_upd (t := 0) (v := p0) rfl).trans ((fr_upd (t := 2) (v := .pointer (some ⟨b458, 0, none⟩)) rfl).trans ((fr_upd (t := 3) (v := .pointer (some ⟨b481, 0, none⟩)) rfl).trans ((fr_upd (t := 4) (v := .int .i64 t488.1) rfl).trans ((fr_upd (t := 5) (v := .int .i64 (IntKind.i64.wrap (z553 + (1:Int)))) rfl).trans rfl))))), hst⟩
  ·skip
   replace hm := bif_f hc562 hm
   refine wp_iff (congrArg Value.bool hc562) ?_
   refine wp_exit (then_x (then_x ?_))
   replace hm := inr_up hm hx560
   refine blk_x (then_n ?_)
   replace hst := hst.pull2
   replace hst := hst.pull3
   replace hst := hst.pull3
   replace hst := hst.keep4
   obtain rfl := some_inj hm
   exact ⟨z552, z549, v550, _, hx586, ((fr_upd (t := 0) (v := p0) rfl).trans ((fr_upd (t := 2) (v := .pointer (some ⟨b458, 0, none⟩)) rfl).trans ((fr_upd (t := 3) (v := .pointer (some ⟨b481, 0, none⟩)) rfl).trans rfl))), hst⟩
 ·skip
  clear hst
  rintro _ w587 ⟨z579, z582, v581, σ583, hm, rfl, hst⟩
  dsimp only [ref12_Tape_Hold_j0] at hm
  refine wp_seq (wp_region_lit ?_)
  refine wv (p0) rfl rfl rfl ?_
  obtain ⟨t588, ht589, hm⟩ := bind_some hm
  refine wl_call rfl rfl (x_call Try.call22 rfl (vs := [p0, .int .i64 (3:Int)]) rfl) ?_
  refine (ref12_Tape_Next_ref hst.to1 ht589).mono ?_
  rintro _ w590 ⟨rfl, hst⟩
  refine ⟨_, rfl, ?_⟩
  replace hst := hst.of1
  refine wv (.int .i64 (IntKind.i64.wrap (Int.tdiv t588.1 (2:Int)))) rfl rfl (x_quo (by decide) rfl rfl) ?_
  refine wv (.int .i64 (IntKind.i64.wrap (Int.tdiv t588.1 (2:Int)))) rfl rfl rfl ?_
  refine wl_nil (then_n ?_)
  obtain ⟨y705, hm, hx706⟩ := bind_some hm
  refine wp_cut (fun a w => ∃ (z699 : ref12_Tape) (z702 : (List (Nat × Nat))) (v701 : Value) (σ703 : Nat → Value), (ref12_Tape_Hold_j2 t463 t468 z582) (z699, z702) = some r ∧ a = Fr 68 (upd (upd (upd σ703 0 (p0)) 2 (.pointer (some ⟨b458, 0, none⟩))) 3 (.pointer (some ⟨b481, 0, none⟩))) ∧ St w0 w I [at_ref12_Tape p0 z699, cells b458 [.int .u64 (0:Int), .int .u64 (0:Int), .int .u64 (0:Int), (.slice none 0 0), (.slice none 0 0), (.slice none 0 0), (.slice none 0 0)], cells b481 [.int .u64 t463.1.Session, .int .u64 t463.1.Seq, .int .u64 (IntKind.u64.wrap (IntKind.i64.wrap ((1:Int) + t468.1))), v581, v701, (.slice none 0 0), (.slice none 0 0)], ownS tyF64 v581 z582, ownS tyF2 v701 z702] R) ?_ ?_
  ·skip
   refine wp_seq (wp_region_lit ?_)
   refine wv (.int .i64 (0:Int)) rfl rfl rfl ?_
   refine wl_nil (then_n (wp_block ?_))
   replace hst := hst.own_nil tyF2
   obtain ⟨n670, hm⟩ := loopO_some hm
   refine wp_loop_n (fun n a w => ∃ (z664 : (List (Nat × Nat))) (z667 : ref12_Tape) (z668 : Int) (v665 : Value) (σ669 : Nat → Value), loopN (ref12_Tape_Hold_l3 t588) n (z664, z667, z668) = some y705 ∧ a = Fr 68 (upd (upd (upd (upd (upd σ669 0 (p0)) 2 (.pointer (some ⟨b458, 0, none⟩))) 3 (.pointer (some ⟨b481, 0, none⟩))) 4 (.int .i64 (IntKind.i64.wrap (Int.tdiv t588.1 (2:Int))))) 6 (.int .i64 z668)) ∧ St w0 w I [ownS tyF2 v665 z664, at_ref12_Tape p0 z667, cells b458 [.int .u64 (0:Int), .int .u64 (0:Int), .int .u64 (0:Int), (.slice none 0 0), (.slice none 0 0), (.slice none 0 0), (.slice none 0 0)], cells b481 [.int .u64 t463.1.Session, .int .u64 t463.1.Seq, .int .u64 (IntKind.u64.wrap (IntKind.i64.wrap ((1:Int) + t468.1))), v581, v665, (.slice none 0 0), (.slice none 0 0)], ownS tyF64 v581 z582] R) n670 ⟨[], t588.2, (0:Int), (.slice none 0 0), _, hm, ((fr_upd (t := 0) (v := p0) rfl).trans ((fr_upd (t := 2) (v := .pointer (some ⟨b458, 0, none⟩)) rfl).trans ((fr_upd (t := 3) (v := .pointer (some ⟨b481, 0, none⟩)) rfl).trans ((fr_upd (t := 4) (v := .int .i64 (IntKind.i64.wrap (Int.tdiv t588.1 (2:Int)))) rfl).trans ((fr_upd (t := 6) (v := .int .i64 (0:Int)) rfl).trans rfl))))), hst⟩ ?_
   rintro n676 _ w671 ⟨z664, z667, z668, v665, σ669, hm, rfl, hst⟩
   obtain ⟨n673, y674, rfl, hm, hx675⟩ := loopN_some hm
   dsimp only [ref12_Tape_Hold_l3] at hm
   refine wp_seq (wp_seq (wp_region_lit ?_))
   refine wv (.int .i64 z668) rfl rfl rfl ?_
   refine wv (.int .i64 (IntKind.i64.wrap (Int.tdiv t588.1 (2:Int)))) rfl rfl rfl ?_
   refine wv (.bool (decide (z668 < (IntKind.i64.wrap (Int.tdiv t588.1 (2:Int)))))) rfl rfl rfl ?_
   refine wl_nil (then_n ?_)
   refine bsplit (decide (z668 < (IntKind.i64.wrap (Int.tdiv t588.1 (2:Int))))) (fun hc677 => ?_) (fun hc677 => ?_)
   ·skip
    replace hm := bif_t hc677 hm
    refine wp_ift (congrArg Value.bool hc677) ?_
    refine wp_skip (then_n (wp_seq (wp_block ?_)))
    refine wp_region_St hst 11 [0, 1, 2, 3, 4, 5, 6, 7, 8, 9, 10] [0, 1, 0, 4, 0, 28, 60, 124, 255, 511, 1023] [] rfl (by kernel_rfl) (by kernel_rfl) Try.mixed (by kernel_rfl) ?_
    refine wsr (.pointer (some ⟨b481, 4, none⟩)) 0 rfl rfl rfl (by kernel_rfl) (fun w hst => x_field rfl Try.underlying34 rfl Try.sizeOf32 rfl) ?_
    refine wsr (v665) 1 rfl rfl rfl (by kernel_rfl) (fun w hst => x_load rfl Try.isAgg32 (hst.bc3 rfl)) ?_
    refine wsr (p0) 2 rfl rfl rfl (by kernel_rfl) (fun w hst => rfl) ?_
    refine wsr (p0) 4 rfl rfl rfl (by kernel_rfl) (fun w hst => rfl) ?_
    refine ws_e1 3 (by kernel_rfl) ?_
    refine nxe [5, 6, 7, 8, 9, 10] (by kernel_rfl) rfl rfl ?_
    clear hst
    intro w hst
    replace hst := hst.pull1
    obtain ⟨t678, ht679, hm⟩ := bind_some hm
    refine we_call rfl (x_call Try.call37 rfl (vs := [p0]) rfl) ?_
    refine (ref12_Tape_Float_ref hst.to1 ht679).mono ?_
    rintro _ w680 ⟨rfl, hst⟩
    refine ⟨_, rfl, ?_⟩
    replace hst := hst.of1
    refine ws_next (pend' := [(4, p0), (1, v665), (0, .pointer (some ⟨b481, 4, none⟩))]) hst (by kernel_rfl) (pkr rfl rfl (fun w hst => rfl) (pkr rfl rfl (fun w hst => x_load rfl Try.isAgg32 (hst.bc3 rfl)) (pkr rfl rfl (fun w hst => x_field rfl Try.underlying34 rfl Try.sizeOf32 rfl) pk_nil))) ?_
    refine ws_e1 5 (by kernel_rfl) ?_
    refine nxe [6, 7, 8, 9, 10] (by kernel_rfl) rfl rfl ?_
    clear hst
    intro w hst
    obtain ⟨t683, ht684, hm⟩ := bind_some hm
    refine we_call rfl (x_call Try.call37 rfl (vs := [p0]) rfl) ?_
    refine (ref12_Tape_Float_ref hst.to1 ht684).mono ?_
    rintro _ w685 ⟨rfl, hst⟩
    refine ⟨_, rfl, ?_⟩
    replace hst := hst.of1
    refine ws_next (pend' := [(1, v665), (0, .pointer (some ⟨b481, 4, none⟩))]) hst (by kernel_rfl) (pkr rfl rfl (fun w hst => x_load rfl Try.isAgg32 (hst.bc3 rfl)) (pkr rfl rfl (fun w hst => x_field rfl Try.underlying34 rfl Try.sizeOf32 rfl) pk_nil)) ?_
    refine wsr (.agg #[.float .f64 t678.1, .float .f64 t683.1]) 6 rfl rfl rfl (by kernel_rfl) (fun w hst => by kernel_rfl) ?_
    refine ws_e1 7 (by kernel_rfl) ?_
    refine nxe [8, 9, 10] (by kernel_rfl) rfl rfl ?_
    clear hst
    intro w hst
    obtain ⟨b688, w689, ew690, eb691, hst⟩ := hst.lits (E := tyF2) (xs := [(t678.1, t683.1)]) [[.float .f64 t678.1, .float .f64 t683.1]] 111 1 rfl (Reps.cons rfl Reps.nil)
    refine we_run (v := (.slice (some ⟨b688, 0, none⟩) 1 1)) (w' := w689) rfl (x_als (by kernel_rfl) ew690 eb691) ?_
    refine ws_next (pend' := [(1, v665), (0, .pointer (some ⟨b481, 4, none⟩))]) hst (by kernel_rfl) (pkr rfl rfl (fun w hst => x_load rfl Try.isAgg32 (hst.bc4 rfl)) (pkr rfl rfl (fun w hst => x_field rfl Try.underlying34 rfl Try.sizeOf32 rfl) pk_nil)) ?_
    refine ws_e1 8 (by kernel_rfl) ?_
    refine nxe [9, 10] (by kernel_rfl) rfl rfl ?_
    clear hst
    intro w hst
    obtain ⟨hg693, hm⟩ := gd_some hm
    replace hst := hst.pull2
    obtain ⟨v694, w695, hr696, hst⟩ := run_append elem_32 Try.underlying32 hst hst.src1 (room_of hg693 rfl) 32
    refine we_run (v := v694) (w' := w695) rfl (x_append rfl rfl hr696) ?_
    refine ws_next (pend' := []) hst (by kernel_rfl) pk_nil ?_
    refine wsr (.pointer (some ⟨b481, 4, none⟩)) 9 rfl rfl rfl (by kernel_rfl) (fun w hst => x_field rfl Try.underlying34 rfl Try.sizeOf32 rfl) ?_
    refine ws_e1 10 (by kernel_rfl) ?_
    refine nxe [] (by kernel_rfl) rfl rfl ?_
    clear hst
    intro w hst
    replace hst := hst.pull4
    obtain ⟨w697, hr698, hst⟩ := hst.boxStore1 (P := Try.prog) (t := 32) (cs' := [.int .u64 t463.1.Session, .int .u64 t463.1.Seq, .int .u64 (IntKind.u64.wrap (IntKind.i64.wrap ((1:Int) + t468.1))), v581, v694, (.slice none 0 0), (.slice none 0 0)]) 4 v694 (one_of_sliceV hst.sv1) Try.sizeOf32 rfl rfl
    refine we_unit rfl (x_unit hr698) ?_
    refine ws_next (pend' := []) hst (by kernel_rfl) pk_nil ?_
    refine ws_nil ?_
    intro w hst
    refine blk_n (then_n (wp_region_lit ?_))
    refine wv (.int .i64 z668) rfl rfl rfl ?_
    refine wv (.int .i64 (IntKind.i64.wrap (z668 + (1:Int)))) rfl rfl rfl ?_
    refine wv (.int .i64 (IntKind.i64.wrap (z668 + (1:Int)))) rfl rfl rfl ?_
    refine wl_nil (then_n ?_)
    replace hst := hst.pull5
    replace hst := hst.pull1
    replace hst := hst.pull5
    replace hst := hst.pull5
    replace hst := hst.pull4
    replace hst := hst.keep5
    obtain rfl := some_inj hm
    exact ⟨_, Nat.lt_succ_self _, (z664 ++ ([(t678.1, t683.1)])), t683.2, (IntKind.i64.wrap (z668 + (1:Int))), v694, _, hx675, ((fr_upd (t := 0) (v := p0) rfl).trans ((fr_upd (t := 2) (v := .pointer (some ⟨b458, 0, none⟩)) rfl).trans ((fr_upd (t := 3) (v := .pointer (some ⟨b481, 0, none⟩)) rfl).trans ((fr_upd (t := 4) (v := .int .i64 (IntKind.i64.wrap (Int.tdiv t588.1 (2:Int)))) rfl).trans ((fr_upd (t := 6) (v := .int .i64 (IntKind.i64.wrap (z668 + (1:Int)))) rfl).trans rfl))))), hst⟩
   ·skip
    replace hm := bif_f hc677 hm
    refine wp_iff (congrArg Value.bool hc677) ?_
    refine wp_exit (then_x (then_x ?_))
    replace hm := inr_up hm hx675
    refine blk_x (then_n ?_)
    replace hst := hst.pull4
    replace hst := hst.pull4
    replace hst := hst.pull4
    replace hst := hst.pull4
    replace hst := hst.keep5
    obtain rfl := some_inj hm
    exact ⟨z667, z664, v665, _, hx706, ((fr_upd (t := 0) (v := p0) rfl).trans ((fr_upd (t := 2) (v := .pointer (some ⟨b458, 0, none⟩)) rfl).trans ((fr_upd (t := 3) (v := .pointer (some ⟨b481, 0, none⟩)) rfl).trans rfl))), hst⟩
  ·skip
   clear hst
   rintro _ w707 ⟨z699, z702, v701, σ703, hm, rfl, hst⟩
   dsimp only [ref12_Tape_Hold_j2] at hm
   refine wp_seq (wp_region_lit ?_)
   refine wv (p0) rfl rfl rfl ?_
   obtain ⟨t708, ht709, hm⟩ := bind_some hm
   refine wl_call rfl rfl (x_call Try.call22 rfl (vs := [p0, .int .i64 (3:Int)]) rfl) ?_
   refine (ref12_Tape_Next_ref hst.to1 ht709).mono ?_
   rintro _ w710 ⟨rfl, hst⟩
   refine ⟨_, rfl, ?_⟩
   replace hst := hst.of1
   refine wv (.int .i64 t708.1) rfl rfl rfl ?_
   refine wl_nil (then_n ?_)
   obtain ⟨y805, hm, hx806⟩ := bind_some hm
   refine wp_cut (fun a w => ∃ (z799 : ref12_Tape) (z802 : (List Nat)) (v801 : Value) (σ803 : Nat → Value), (ref12_Tape_Hold_j4 t463 t468 z582 z702) (z799, z802) = some r ∧ a = Fr 68 (upd (upd (upd σ803 0 (p0)) 2 (.pointer (some ⟨b458, 0, none⟩))) 3 (.pointer (some ⟨b481, 0, none⟩))) ∧ St w0 w I [at_ref12_Tape p0 z799, cells b458 [.int .u64 (0:Int), .int .u64 (0:Int), .int .u64 (0:Int), (.slice none 0 0), (.slice none 0 0), (.slice none 0 0), (.slice none 0 0)], cells b481 [.int .u64 t463.1.Session, .int .u64 t463.1.Seq, .int .u64 (IntKind.u64.wrap (IntKind.i64.wrap ((1:Int) + t468.1))), v581, v701, v801, (.slice none 0 0)], ownS tyF64 v581 z582, ownS tyF2 v701 z702, ownS tyF64 v801 z802] R) ?_ ?_
   ·skip
    refine wp_seq (wp_region_lit ?_)
    refine wv (.int .i64 (0:Int)) rfl rfl rfl ?_
    refine wl_nil (then_n (wp_block ?_))
    replace hst := hst.own_nil tyF64
    obtain ⟨n775, hm⟩ := loopO_some hm
    refine wp_loop_n (fun n a w => ∃ (z769 : (List Nat)) (z772 : ref12_Tape) (z773 : Int) (v770 : Value) (σ774 : Nat → Value), loopN (ref12_Tape_Hold_l5 t708) n (z769, z772, z773) = some y805 ∧ a = Fr 68 (upd (upd (upd (upd (upd σ774 0 (p0)) 2 (.pointer (some ⟨b458, 0, none⟩))) 3 (.pointer (some ⟨b481, 0, none⟩))) 4 (.int .i64 t708.1)) 7 (.int .i64 z773)) ∧ St w0 w I [ownS tyF64 v770 z769, at_ref12_Tape p0 z772, cells b458 [.int .u64 (0:Int), .int .u64 (0:Int), .int .u64 (0:Int), (.slice none 0 0), (.slice none 0 0), (.slice none 0 0), (.slice none 0 0)], cells b481 [.int .u64 t463.1.Session, .int .u64 t463.1.Seq, .int .u64 (IntKind.u64.wrap (IntKind.i64.wrap ((1:Int) + t468.1))), v581, v701, v770, (.slice none 0 0)], ownS tyF64 v581 z582, ownS tyF2 v701 z702] R) n775 ⟨[], t708.2, (0:Int), (.slice none 0 0), _, hm, ((fr_upd (t := 0) (v := p0) rfl).trans ((fr_upd (t := 2) (v := .pointer (some ⟨b458, 0, none⟩)) rfl).trans ((fr_upd (t := 3) (v := .pointer (some ⟨b481, 0, none⟩)) rfl).trans ((fr_upd (t := 4) (v := .int .i64 t708.1) rfl).trans ((fr_upd (t := 7) (v := .int .i64 (0:Int)) rfl).trans rfl))))), hst⟩ ?_
    rintro n781 _ w776 ⟨z769, z772, z773, v770, σ774, hm, rfl, hst⟩
    obtain ⟨n778, y779, rfl, hm, hx780⟩ := loopN_some hm
    dsimp only [ref12_Tape_Hold_l5] at hm
    refine wp_seq (wp_seq (wp_region_lit ?_))
    refine wv (.int .i64 z773) rfl rfl rfl ?_
    refine wv (.int .i64 t708.1) rfl rfl rfl ?_
    refine wv (.bool (decide (z773 < t708.1))) rfl rfl rfl ?_
    refine wl_nil (then_n ?_)
    refine bsplit (decide (z773 < t708.1)) (fun hc782 => ?_) (fun hc782 => ?_)
    ·skip
     replace hm := bif_t hc782 hm
     refine wp_ift (congrArg Value.bool hc782) ?_
     refine wp_skip (then_n (wp_seq (wp_block ?_)))
     refine wp_region_St hst 8 [0, 1, 2, 3, 4, 5, 6, 7] [0, 1, 0, 4, 12, 31, 63, 127] [] rfl (by kernel_rfl) (by kernel_rfl) Try.mixed (by kernel_rfl) ?_
     refine wsr (.pointer (some ⟨b481, 5, none⟩)) 0 rfl rfl rfl (by kernel_rfl) (fun w hst => x_field rfl Try.underlying34 rfl Try.sizeOf31 rfl) ?_
     refine wsr (v770) 1 rfl rfl rfl (by kernel_rfl) (fun w hst => x_load rfl Try.isAgg31 (hst.bc3 rfl)) ?_
     refine wsr (p0) 2 rfl rfl rfl (by kernel_rfl) (fun w hst => rfl) ?_
     refine ws_e1 3 (by kernel_rfl) ?_
     refine nxe [4, 5, 6, 7] (by kernel_rfl) rfl rfl ?_
     clear hst
     intro w hst
     replace hst := hst.pull1
     obtain ⟨t783, ht784, hm⟩ := bind_some hm
     refine we_call rfl (x_call Try.call37 rfl (vs := [p0]) rfl) ?_
     refine (ref12_Tape_Float_ref hst.to1 ht784).mono ?_
     rintro _ w785 ⟨rfl, hst⟩
     refine ⟨_, rfl, ?_⟩
     replace hst := hst.of1
     refine ws_next (pend' := [(1, v770), (0, .pointer (some ⟨b481, 5, none⟩))]) hst (by kernel_rfl) (pkr rfl rfl (fun w hst => x_load rfl Try.isAgg31 (hst.bc3 rfl)) (pkr rfl rfl (fun w hst => x_field rfl Try.underlying34 rfl Try.sizeOf31 rfl) pk_nil)) ?_
     refine ws_e1 4 (by kernel_rfl) ?_
     refine nxe [5, 6, 7] (by kernel_rfl) rfl rfl ?_
     clear hst
     intro w hst
     obtain ⟨b788, w789, ew790, eb791, hst⟩ := hst.lits (E := tyF64) (xs := [t783.1]) [[.float .f64 t783.1]] 41 1 rfl (Reps.cons rfl Reps.nil)
     refine we_run (v := (.slice (some ⟨b788, 0, none⟩) 1 1)) (w' := w789) rfl (x_als (by kernel_rfl) ew790 eb791) ?_
     refine ws_next (pend' := [(1, v770), (0, .pointer (some ⟨b481, 5, none⟩))]) hst (by kernel_rfl) (pkr rfl rfl (fun w hst => x_load rfl Try.isAgg31 (hst.bc4 rfl)) (pkr rfl rfl (fun w hst => x_field rfl Try.underlying34 rfl Try.sizeOf31 rfl) pk_nil)) ?_
     refine ws_e1 5 (by kernel_rfl) ?_
     refine nxe [6, 7] (by kernel_rfl) rfl rfl ?_
     clear hst
     intro w hst
     obtain ⟨hg793, hm⟩ := gd_some hm
     replace hst := hst.pull2
     obtain ⟨v794, w795, hr796, hst⟩ := run_append elem_31 Try.underlying31 hst hst.src1 (room_of hg793 rfl) 31
     refine we_run (v := v794) (w' := w795) rfl (x_append rfl rfl hr796) ?_
     refine ws_next (pend' := []) hst (by kernel_rfl) pk_nil ?_
     refine wsr (.pointer (some ⟨b481, 5, none⟩)) 6 rfl rfl rfl (by kernel_rfl) (fun w hst => x_field rfl Try.underlying34 rfl Try.sizeOf31 rfl) ?_
     refine ws_e1 7 (by kernel_rfl) ?_
     refine nxe [] (by kernel_rfl) rfl rfl ?_
     clear hst
     intro w hst
     replace hst := hst.pull4
     obtain ⟨w797, hr798, hst⟩ := hst.boxStore1 (P := Try.prog) (t := 31) (cs' := [.int .u64 t463.1.Session, .int .u64 t463.1.Seq, .int .u64 (IntKind.u64.wrap (IntKind.i64.wrap ((1:Int) + t468.1))), v581, v701, v794, (.slice none 0 0)]) 5 v794 (one_of_sliceV hst.sv1) Try.sizeOf31 rfl rfl
     refine we_unit rfl (x_unit hr798) ?_
     refine ws_next (pend' := []) hst (by kernel_rfl) pk_nil ?_
     refine ws_nil ?_
     intro w hst
     refine blk_n (then_n (wp_region_lit ?_))
     refine wv (.int .i64 z773) rfl rfl rfl ?_
     refine wv (.int .i64 (IntKind.i64.wrap (z773 + (1:Int)))) rfl rfl rfl ?_
     refine wv (.int .i64 (IntKind.i64.wrap (z773 + (1:Int)))) rfl rfl rfl ?_
     refine wl_nil (then_n ?_)
     replace hst := hst.pull6
     replace hst := hst.pull6
     replace hst := hst.pull2
     replace hst := hst.pull6
     replace hst := hst.pull6
     replace hst := hst.pull5
     replace hst := hst.keep6
     obtain rfl := some_inj hm
     exact ⟨_, Nat.lt_succ_self _, (z769 ++ ([t783.1])), t783.2, (IntKind.i64.wrap (z773 + (1:Int))), v794, _, hx780, ((fr_upd (t := 0) (v := p0) rfl).trans ((fr_upd (t := 2) (v := .pointer (some ⟨b458, 0, none⟩)) rfl).trans ((fr_upd (t := 3) (v := .pointer (some ⟨b481, 0, none⟩)) rfl).trans ((fr_upd (t := 4) (v := .int .i64 t708.1) rfl).trans ((fr_upd (t := 7) (v := .int .i64 (IntKind.i64.wrap (z773 + (1:Int)))) rfl).trans rfl))))), hst⟩
    ·skip
     replace hm := bif_f hc782 hm
     refine wp_iff (congrArg Value.bool hc782) ?_
     refine wp_exit (then_x (then_x ?_))
     replace hm := inr_up hm hx780
     refine blk_x (then_n ?_)
     replace hst := hst.pull5
     replace hst := hst.pull5
     replace hst := hst.pull5
     replace hst := hst.pull5
     replace hst := hst.pull5
     replace hst := hst.keep6
     obtain rfl := some_inj hm
     exact ⟨z772, z769, v770, _, hx806, ((fr_upd (t := 0) (v := p0) rfl).trans ((fr_upd (t := 2) (v := .pointer (some ⟨b458, 0, none⟩)) rfl).trans ((fr_upd (t := 3) (v := .pointer (some ⟨b481, 0, none⟩)) rfl).trans rfl))), hst⟩
   ·skip
    clear hst
    rintro _ w807 ⟨z799, z802, v801, σ803, hm, rfl, hst⟩
    dsimp only [ref12_Tape_Hold_j4] at hm
    refine wp_seq (wp_seq (wp_region_lit ?_))
    refine wv (p0) rfl rfl rfl ?_
    obtain ⟨t808, ht809, hm⟩ := bind_some hm
    refine wl_call rfl rfl (x_call Try.call22 rfl (vs := [p0, .int .i64 (4:Int)]) rfl) ?_
    refine (ref12_Tape_Next_ref hst.to1 ht809).mono ?_
    rintro _ w810 ⟨rfl, hst⟩
    refine ⟨_, rfl, ?_⟩
    replace hst := hst.of1
    refine wv (.bool (t808.1 == (0:Int))) rfl rfl rfl ?_
    refine wl_nil (then_n ?_)
    refine bsplit (t808.1 == (0:Int)) (fun hc813 => ?_) (fun hc813 => ?_)
    ·skip
     replace hm := bif_t hc813 hm
     refine wp_ift (congrArg Value.bool hc813) ?_
     refine wp_region_lit ?_
     refine wv (p0) rfl rfl rfl ?_
     obtain ⟨t814, ht815, hm⟩ := bind_some hm
     refine wl_call rfl rfl (x_call Try.call36 rfl (vs := [p0]) rfl) ?_
     refine (ref12_Tape_Val_ref hst.to1 ht815).mono ?_
     rintro _ w816 ⟨v819, rfl, hst⟩
     refine ⟨_, rfl, ?_⟩
     replace hst := hst.of2
     refine wv (.pointer (some ⟨b481, 6, none⟩)) rfl rfl (x_field rfl Try.underlying34 rfl Try.sizeOf22 rfl) ?_
     replace hst := hst.pull3
     obtain ⟨w821, hr822, hst⟩ := hst.boxStore1 (P := Try.prog) (t := 22) (cs' := [.int .u64 t463.1.Session, .int .u64 t463.1.Seq, .int .u64 (IntKind.u64.wrap (IntKind.i64.wrap ((1:Int) + t468.1))), v581, v701, v801, v819]) 6 v819 (one_of_sliceV hst.sv1) Try.sizeOf22 rfl rfl
     refine wl_unit rfl rfl (x_unit hr822) ?_
     refine wl_nil (then_n (wp_seq (wp_region_lit ?_)))
     refine wv (.agg #[.int .u64 t463.1.Session, .int .u64 t463.1.Seq, .int .u64 (IntKind.u64.wrap (IntKind.i64.wrap ((1:Int) + t468.1))), v581, v701, v801, v819]) rfl rfl (x_loadN (cs := [.int .u64 t463.1.Session, .int .u64 t463.1.Seq, .int .u64 (IntKind.u64.wrap (IntKind.i64.wrap ((1:Int) + t468.1))), v581, v701, v801, v819]) rfl Try.isAgg34 Try.sizeOf34 (hst.bcs0 0 rfl)) ?_
     replace hst := hst.pull3
     obtain ⟨w823, hr824, hst⟩ := hst.boxStore (P := Try.prog) (t := 34) (cs' := [.int .u64 t463.1.Session, .int .u64 t463.1.Seq, .int .u64 (IntKind.u64.wrap (IntKind.i64.wrap ((1:Int) + t468.1))), v581, v701, v801, v819]) 0 (.agg #[.int .u64 t463.1.Session, .int .u64 t463.1.Seq, .int .u64 (IntKind.u64.wrap (IntKind.i64.wrap ((1:Int) + t468.1))), v581, v701, v801, v819]) Try.sizeOf34 (Nat.le_of_ble_eq_true rfl) (ones_cons rfl (ones_cons rfl (ones_cons rfl (ones_cons (one_of_sliceV hst.sv4) (ones_cons (one_of_sliceV hst.sv5) (ones_cons (one_of_sliceV hst.sv6) (ones_cons (one_of_sliceV hst.sv2) ones_nil))))))) (by kernel_rfl)
     refine wl_unit rfl rfl (x_unit hr824) ?_
     refine wl_nil (then_n (wp_ret ?_))
     obtain rfl := some_inj hm
     refine post_ret (vs := [.agg #[.int .u64 t463.1.Session, .int .u64 t463.1.Seq, .int .u64 (IntKind.u64.wrap (IntKind.i64.wrap ((1:Int) + t468.1))), v581, v701, v801, v819]]) Try.results23 (rvs_cons (rv_cell (cs := [.int .u64 t463.1.Session, .int .u64 t463.1.Seq, .int .u64 (IntKind.u64.wrap (IntKind.i64.wrap ((1:Int) + t468.1))), v581, v701, v801, v819]) rfl Try.isAgg34 Try.sizeOf34 (hst.bcs0 0 rfl)) rvs_nil) ?_
     replace hst := hst.pull3
     replace hst := hst.pull3
     replace hst := hst.pull6
     replace hst := hst.pull6
     replace hst := hst.pull6
     exact ⟨v581, v701, v801, v819, rfl, hst.keep5⟩
    ·skip
     replace hm := bif_f hc813 hm
     refine wp_iff (congrArg Value.bool hc813) ?_
     refine wp_skip (then_n (wp_seq (wp_region_lit ?_)))
     refine wv (.agg #[.int .u64 t463.1.Session, .int .u64 t463.1.Seq, .int .u64 (IntKind.u64.wrap (IntKind.i64.wrap ((1:Int) + t468.1))), v581, v701, v801, (.slice none 0 0)]) rfl rfl (x_loadN (cs := [.int .u64 t463.1.Session, .int .u64 t463.1.Seq, .int .u64 (IntKind.u64.wrap (IntKind.i64.wrap ((1:Int) + t468.1))), v581, v701, v801, (.slice none 0 0)]) rfl Try.isAgg34 Try.sizeOf34 (hst.bcs2 0 rfl)) ?_
     replace hst := hst.pull1
     obtain ⟨w825, hr826, hst⟩ := hst.boxStore (P := Try.prog) (t := 34) (cs' := [.int .u64 t463.1.Session, .int .u64 t463.1.Seq, .int .u64 (IntKind.u64.wrap (IntKind.i64.wrap ((1:Int) + t468.1))), v581, v701, v801, (.slice none 0 0)]) 0 (.agg #[.int .u64 t463.1.Session, .int .u64 t463.1.Seq, .int .u64 (IntKind.u64.wrap (IntKind.i64.wrap ((1:Int) + t468.1))), v581, v701, v801, (.slice none 0 0)]) Try.sizeOf34 (Nat.le_of_ble_eq_true rfl) (ones_cons rfl (ones_cons rfl (ones_cons rfl (ones_cons (one_of_sliceV hst.sv3) (ones_cons (one_of_sliceV hst.sv4) (ones_cons (one_of_sliceV hst.sv5) (ones_cons rfl ones_nil))))))) (by kernel_rfl)
     refine wl_unit rfl rfl (x_unit hr826) ?_
     refine wl_nil (then_n (wp_ret ?_))
     replace hst := hst.own_nil (tyInt .u8)
     obtain rfl := some_inj hm
     refine post_ret (vs := [.agg #[.int .u64 t463.1.Session, .int .u64 t463.1.Seq, .int .u64 (IntKind.u64.wrap (IntKind.i64.wrap ((1:Int) + t468.1))), v581, v701, v801, (.slice none 0 0)]]) Try.results23 (rvs_cons (rv_cell (cs := [.int .u64 t463.1.Session, .int .u64 t463.1.Seq, .int .u64 (IntKind.u64.wrap (IntKind.i64.wrap ((1:Int) + t468.1))), v581, v701, v801, (.slice none 0 0)]) rfl Try.isAgg34 Try.sizeOf34 (hst.bcs1 0 rfl)) rvs_nil) ?_
     replace hst := hst.pull2
     replace hst := hst.pull1
     replace hst := hst.pull6
     replace hst := hst.pull6
     replace hst := hst.pull6
     exact ⟨v581, v701, v801, (.slice none 0 0), rfl, hst.keep5⟩

theorem ref13_OfWrites_ref {w0 w : World} {I : HL} {R : SP} {a0 : ref12_Tape} {p0 : Value}  (hst : St w0 w I [at_ref12_Tape p0 a0] R) {r : ((List api_Write) × ref12_Tape)} (hm : ref13_OfWrites a0 = some r) :
  Calls Try.prog 25 #[p0] w fun e w' => ∃ (I' : HL) (q0_0 : Value), e = .returned (q0_0) ∧ I.le I' ∧ St w0 w' I' [ownS ty_api_Write q0_0 r.1, at_ref12_Tape p0 r.2] R := by
 unfold ref13_OfWrites at hm
 refine calls_start (args := [p0]) Try.func25 rfl Try.ntmps25 (Nat.le_of_ble_eq_true rfl) ?_
 have hI0 := HL.le.refl I
 refine wp_seq (wp_region_lit ?_)
 refine wv ((.slice none 0 0)) rfl rfl rfl ?_
 refine wl_nil (then_n (wp_seq (wp_region_lit ?_)))
 refine wv ((.slice none 0 0)) rfl rfl rfl ?_
 refine wl_nil (then_n (wp_seq (wp_region_lit ?_)))
 refine wv (p0) rfl rfl rfl ?_
 obtain ⟨t373, ht374, hm⟩ := bind_some hm
 refine wl_call rfl rfl (x_call Try.call22 rfl (vs := [p0, .int .i64 (3:Int)]) rfl) ?_
 refine (ref12_Tape_Next_ref hst.to1 ht374).mono ?_
 rintro _ w375 ⟨rfl, hst⟩
 refine ⟨_, rfl, ?_⟩
 replace hst := hst.of1
 refine wv (.int .i64 t373.1) rfl rfl rfl ?_
 refine wl_nil (then_n (wp_seq (wp_seq (wp_region_lit ?_))))
 refine wv (.int .i64 (0:Int)) rfl rfl rfl ?_
 refine wl_nil (then_n (wp_block ?_))
 replace hst := hst.own_nil ty_api_Write
 obtain ⟨n546, hm⟩ := loopO_some hm
 refine wp_loop_n (fun n a w => ∃ (I544 : HL) (z539 : ref12_Tape) (z540 : (List api_Write)) (z543 : Int) (v541 : Value) (σ545 : Nat → Value), loopN (ref13_OfWrites_l0 t373) n (z539, z540, z543) = some r ∧ a = Fr 31 (upd (upd (upd (upd σ545 0 (p0)) 3 (v541)) 4 (.int .i64 t373.1)) 5 (.int .i64 z543)) ∧ I.le I544 ∧ St w0 w I544 [ownS ty_api_Write v541 z540, at_ref12_Tape p0 z539] R) n546 ⟨_, t373.2, [], (0:Int), (.slice none 0 0), _, hm, ((fr_upd (t := 0) (v := p0) rfl).trans ((fr_upd (t := 3) (v := (.slice none 0 0)) rfl).trans ((fr_upd (t := 4) (v := .int .i64 t373.1) rfl).trans ((fr_upd (t := 5) (v := .int .i64 (0:Int)) rfl).trans rfl)))), (HL.le.refl _), hst⟩ ?_
 rintro n552 _ w547 ⟨I544, z539, z540, z543, v541, σ545, hm, rfl, hL548, hst⟩
 obtain ⟨n549, y550, rfl, hm, hx551⟩ := loopN_some hm
 dsimp only [ref13_OfWrites_l0] at hm
 replace hI0 := hI0.trans hL548
 refine wp_seq (wp_seq (wp_region_lit ?_))
 refine wv (.int .i64 z543) rfl rfl rfl ?_
 refine wv (.int .i64 t373.1) rfl rfl rfl ?_
 refine wv (.bool (decide (z543 < t373.1))) rfl rfl rfl ?_
 refine wl_nil (then_n ?_)
 refine bsplit (decide (z543 < t373.1)) (fun hc553 => ?_) (fun hc553 => ?_)
 ·skip
  replace hm := bif_t hc553 hm
  refine wp_ift (congrArg Value.bool hc553) ?_
  refine wp_skip (then_n (wp_seq (wp_block (wp_seq (wp_region_lit ?_)))))
  refine wv (p0) rfl rfl rfl ?_
  replace hst := hst.pull1
  obtain ⟨t554, ht555, hm⟩ := bind_some hm
  refine wl_call rfl rfl (x_call Try.call37 rfl (vs := [p0]) rfl) ?_
  refine (ref12_Tape_Float_ref hst.to1 ht555).mono ?_
  rintro _ w556 ⟨rfl, hst⟩
  refine ⟨_, rfl, ?_⟩
  replace hst := hst.of1
  refine wv (p0) rfl rfl rfl ?_
  obtain ⟨t559, ht560, hm⟩ := bind_some hm
  refine wl_call rfl rfl (x_call Try.call22 rfl (vs := [p0, .int .i64 (4:Int)]) rfl) ?_
  refine (ref12_Tape_Next_ref hst.to1 ht560).mono ?_
  rintro _ w561 ⟨rfl, hst⟩
  refine ⟨_, rfl, ?_⟩
  replace hst := hst.of1
  refine wv (.bool (t559.1 == (0:Int))) rfl rfl rfl ?_
  refine wv (.agg #[.float .f64 t554.1, .bool (t559.1 == (0:Int)), (.slice none 0 0)]) rfl rfl (by kernel_rfl) ?_
  obtain ⟨b566, w567, ew568, eb569, hst⟩ := hst.box [.float .f64 (0:Nat), .bool false, (.slice none 0 0)] 73
  refine wl_run (v := .pointer (some ⟨b566, 0, none⟩)) (w' := w567) rfl rfl (x_al (by kernel_rfl) ew568 eb569) ?_
  obtain ⟨w571, hr572, hst⟩ := hst.boxStore (P := Try.prog) (t := 73) (cs' := [.float .f64 t554.1, .bool (t559.1 == (0:Int)), (.slice none 0 0)]) 0 (.agg #[.float .f64 t554.1, .bool (t559.1 == (0:Int)), (.slice none 0 0)]) Try.sizeOf73 (Nat.le_of_ble_eq_true rfl) (ones_cons rfl (ones_cons rfl (ones_cons rfl ones_nil))) (by kernel_rfl)
  refine wl_unit rfl rfl (x_unit hr572) ?_
  refine wl_nil (then_n ?_)
  obtain ⟨y589, hm, hx590⟩ := bind_some hm
  refine wp_cut (fun a w => ∃ (z583 : ref12_Tape) (z586 : (List Int)) (v585 : Value) (σ587 : Nat → Value), (ref13_OfWrites_j1 z540 t554 t559 z543) (z583, z586) = some y550 ∧ a = Fr 31 (upd (upd (upd (upd (upd σ587 0 (p0)) 3 (v541)) 4 (.int .i64 t373.1)) 5 (.int .i64 z543)) 6 (.pointer (some ⟨b566, 0, none⟩))) ∧ St w0 w I544 [at_ref12_Tape p0 z583, ownS ty_api_Write v541 z540, cells b566 [.float .f64 t554.1, .bool (t559.1 == (0:Int)), v585], ownS (tyInt .u8) v585 z586] R) ?_ ?_
  ·skip
   refine wp_seq (wp_region_lit ?_)
   refine wv (.pointer (some ⟨b566, 1, none⟩)) rfl rfl (x_field rfl Try.underlying73 rfl Try.sizeOf4 rfl) ?_
   refine wv (.bool (t559.1 == (0:Int))) rfl rfl (x_load rfl Try.isAgg4 (hst.bc0 rfl)) ?_
   refine wv (.bool (!(t559.1 == (0:Int)))) rfl rfl rfl ?_
   refine wl_nil (then_n ?_)
   refine bsplit (!(t559.1 == (0:Int))) (fun hc573 => ?_) (fun hc573 => ?_)
   ·skip
    replace hm := bif_t hc573 hm
    refine wp_ift (congrArg Value.bool hc573) ?_
    refine wp_region_lit ?_
    refine wv (p0) rfl rfl rfl ?_
    replace hst := hst.pull1
    obtain ⟨t574, ht575, hm⟩ := bind_some hm
    refine wl_call rfl rfl (x_call Try.call36 rfl (vs := [p0]) rfl) ?_
    refine (ref12_Tape_Val_ref hst.to1 ht575).mono ?_
    rintro _ w576 ⟨v579, rfl, hst⟩
    refine ⟨_, rfl, ?_⟩
    replace hst := hst.of2
    refine wv (.pointer (some ⟨b566, 2, none⟩)) rfl rfl (x_field rfl Try.underlying73 rfl Try.sizeOf22 rfl) ?_
    replace hst := hst.pull2
    obtain ⟨w581, hr582, hst⟩ := hst.boxStore1 (P := Try.prog) (t := 22) (cs' := [.float .f64 t554.1, .bool (t559.1 == (0:Int)), v579]) 2 v579 (one_of_sliceV hst.sv1) Try.sizeOf22 rfl rfl
    refine wl_unit rfl rfl (x_unit hr582) ?_
    refine wl_nil (then_n ?_)
    replace hst := hst.pull1
    replace hst := hst.pull1
    replace hst := hst.pull3
    replace hst := hst.pull3
    replace hst := hst.keep4
    obtain rfl := some_inj hm
    exact ⟨t574.2, t574.1, v579, _, hx590, ((fr_upd (t := 0) (v := p0) rfl).trans ((fr_upd (t := 3) (v := v541) rfl).trans ((fr_upd (t := 4) (v := .int .i64 t373.1) rfl).trans ((fr_upd (t := 5) (v := .int .i64 z543) rfl).trans ((fr_upd (t := 6) (v := .pointer (some ⟨b566, 0, none⟩)) rfl).trans rfl))))), hst⟩
   ·skip
    replace hm := bif_f hc573 hm
    refine wp_iff (congrArg Value.bool hc573) ?_
    refine wp_skip (then_n ?_)
    replace hst := hst.own_nil (tyInt .u8)
    replace hst := hst.pull1
    replace hst := hst.pull3
    replace hst := hst.pull3
    replace hst := hst.keep4
    obtain rfl := some_inj hm
    exact ⟨t559.2, ([]), (.slice none 0 0), _, hx590, ((fr_upd (t := 0) (v := p0) rfl).trans ((fr_upd (t := 3) (v := v541) rfl).trans ((fr_upd (t := 4) (v := .int .i64 t373.1) rfl).trans ((fr_upd (t := 5) (v := .int .i64 z543) rfl).trans ((fr_upd (t := 6) (v := .pointer (some ⟨b566, 0, none⟩)) rfl).trans rfl))))), hst⟩
  ·skip
   clear hst
   rintro _ w591 ⟨z583, z586, v585, σ587, hm, rfl, hst⟩
   dsimp only [ref13_OfWrites_j1] at hm
   refine wp_region_lit ?_
   refine wv (v541) rfl rfl rfl ?_
   refine wv (.agg #[.float .f64 t554.1, .bool (t559.1 == (0:Int)), v585]) rfl rfl (x_loadN (cs := [.float .f64 t554.1, .bool (t559.1 == (0:Int)), v585]) rfl Try.isAgg73 Try.sizeOf73 (hst.bcs2 0 rfl)) ?_
   replace hst := hst.pull3
   obtain ⟨I593, hI594, f595, hst⟩ := hst.own_fix
   replace hI0 := hI0.trans hI594
   replace hL548 := hL548.trans hI594
   obtain ⟨b596, w597, ew598, eb599, hst⟩ := hst.lits (E := ty_api_Write) (xs := [({ At := t554.1, Del := (t559.1 == (0:Int)), Val := z586 } : api_Write)]) [[.float .f64 t554.1, .bool (t559.1 == (0:Int)), v585]] 73 1 rfl (Reps.cons ⟨_, rfl, f595, one_of_sliceV (ro_sliceV f595)⟩ Reps.nil)
   refine wl_run (v := (.slice (some ⟨b596, 0, none⟩) 1 1)) (w' := w597) rfl rfl (x_als (by kernel_rfl) ew598 eb599) ?_
   obtain ⟨hg601, hm⟩ := gd_some hm
   replace hst := hst.pull2
   obtain ⟨v602, w603, hr604, hst⟩ := run_append elem_35 Try.underlying35 hst hst.src1 (room_of hg601 rfl) 35
   refine wl_run (v := v602) (w' := w603) rfl rfl (x_append rfl rfl hr604) ?_
   refine wv (v602) rfl rfl rfl ?_
   refine wl_nil (blk_n (then_n (wp_region_lit ?_)))
   refine wv (.int .i64 z543) rfl rfl rfl ?_
   refine wv (.int .i64 (IntKind.i64.wrap (z543 + (1:Int)))) rfl rfl rfl ?_
   refine wv (.int .i64 (IntKind.i64.wrap (z543 + (1:Int)))) rfl rfl rfl ?_
   refine wl_nil (then_n ?_)
   replace hst := hst.pull2
   replace hst := hst.pull1
   replace hst := hst.keep2
   obtain rfl := some_inj hm
   exact ⟨_, Nat.lt_succ_self _, _, z583, (z540 ++ ([({ At := t554.1, Del := (t559.1 == (0:Int)), Val := z586 } : api_Write)])), (IntKind.i64.wrap (z543 + (1:Int))), v602, _, hx551, ((fr_upd (t := 0) (v := p0) rfl).trans ((fr_upd (t := 3) (v := v602) rfl).trans ((fr_upd (t := 4) (v := .int .i64 t373.1) rfl).trans ((fr_upd (t := 5) (v := .int .i64 (IntKind.i64.wrap (z543 + (1:Int)))) rfl).trans rfl)))), hL548, hst⟩
 ·skip
  replace hm := bif_f hc553 hm
  refine wp_iff (congrArg Value.bool hc553) ?_
  refine wp_exit (then_x (then_x ?_))
  replace hm := inr_up hm hx551
  refine blk_x (then_n (wp_seq (wp_region_lit ?_)))
  refine wv (v541) rfl rfl rfl ?_
  refine wv (v541) rfl rfl rfl ?_
  refine wl_nil (then_n (wp_ret ?_))
  obtain rfl := some_inj hm
  refine post_ret (vs := [v541]) Try.results25 (rvs_cons (rv_tmp rfl) rvs_nil) ?_
  replace hst := hst.pull1
  replace hst := hst.pull1
  exact ⟨_, v541, rfl, hI0, hst.keep2⟩

end Go.Proofs.Ytijcfglomdfglaa
