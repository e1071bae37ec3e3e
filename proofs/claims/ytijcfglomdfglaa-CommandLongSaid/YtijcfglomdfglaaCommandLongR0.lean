/- The Go functions refine their models, part 0. -/
import Derived.Test.YtijcfglomdfglaaCommandLongT
set_option linter.unusedVariables false
set_option linter.unusedSimpArgs false
set_option maxRecDepth 100000
set_option maxHeartbeats 4000000
namespace Go.Proofs.Ytijcfglomdfglaa
open Go Go.V
attribute [local irreducible] wpList Code.wp wpQuiet Calls bodyPost Oper.wp wpS Nx PendOK YieldsIn
theorem octet_Writer_lay_ref {w0 w : World} {I : HL} {R : SP} {a0 : octet_Writer} {p0 : Value} {a1 : (List Int)} {r1_0 : Value} (f1_0 : Rd (tyInt .u8) R I r1_0 a1) (hst : St w0 w I [at_octet_Writer p0 a0] R) {r : (octet_Writer)} (hm : octet_Writer_lay a0 a1 = some r) :
  Calls Try.prog 61 #[p0, r1_0] w fun e w' => e = .returned (p0) ∧ St w0 w' I [at_octet_Writer p0 r] R := by
 unfold octet_Writer_lay at hm
 refine calls_start (args := [p0, r1_0]) Try.func61 rfl Try.ntmps61 (Nat.le_of_ble_eq_true rfl) ?_
 refine wp_seq (wp_region_lit ?_)
 refine wv (.pointer none) rfl rfl rfl ?_
 refine wl_nil (then_n (wp_seq (wp_region_lit ?_)))
 refine wv (p0) rfl rfl rfl ?_
 refine wv (p0) rfl rfl rfl ?_
 obtain ⟨b58, v59, rfl, hst'⟩ := at_octet_Writer_open hst
 clear hst
 have hst := hst'
 clear hst'
 refine wv (.pointer (some ⟨b58, 0, none⟩)) rfl rfl rfl ?_
 refine wv (.pointer (some ⟨b58, 0, none⟩)) rfl rfl (x_field rfl Try.underlying58 rfl Try.sizeOf22 rfl) ?_
 refine wv (v59) rfl rfl (x_load rfl Try.isAgg22 (hst.bc0 rfl)) ?_
 refine wv (r1_0) rfl rfl rfl ?_
 obtain ⟨hg61, hm⟩ := gd_some hm
 replace hst := hst.pull1
 obtain ⟨v62, w63, hr64, hst⟩ := run_append elem_22 Try.underlying22 hst (Src.of_rd hst f1_0 flat_int) (room_of hg61 rfl) 22
 refine wl_run (v := v62) (w' := w63) rfl rfl (x_append rfl rfl hr64) ?_
 refine wv (.pointer (some ⟨b58, 0, none⟩)) rfl rfl rfl ?_
 refine wv (.pointer (some ⟨b58, 0, none⟩)) rfl rfl (x_field rfl Try.underlying58 rfl Try.sizeOf22 rfl) ?_
 replace hst := hst.pull1
 obtain ⟨w65, hr66, hst⟩ := hst.boxStore1 (P := Try.prog) (t := 22) (cs' := [v62]) 0 v62 (one_of_sliceV hst.sv1) Try.sizeOf22 rfl rfl
 refine wl_unit rfl rfl (x_unit hr66) ?_
 refine wl_nil (then_n (wp_seq (wp_region_lit ?_)))
 refine wv (.pointer (some ⟨b58, 0, none⟩)) rfl rfl rfl ?_
 refine wv (.pointer (some ⟨b58, 0, none⟩)) rfl rfl rfl ?_
 refine wl_nil (then_n (wp_ret ?_))
 replace hst := hst.pull1
 replace hst := hst.pull1
 replace hst := at_octet_Writer_close (pv := .pointer (some ⟨b58, 0, none⟩)) (x := ({ p := (a0.p ++ a1) } : octet_Writer)) hst rfl
 obtain rfl := some_inj hm
 refine post_ret (vs := [.pointer (some ⟨b58, 0, none⟩)]) Try.results61 (rvs_cons (rv_tmp rfl) rvs_nil) ?_
 exact ⟨rfl, hst.keep1⟩

theorem octet_Writer_Num_ref {w0 w : World} {I : HL} {R : SP} {a0 : octet_Writer} {p0 : Value} {a1 : Int} {a2 : Int}  (hst : St w0 w I [at_octet_Writer p0 a0] R) {r : (octet_Writer)} (hm : octet_Writer_Num a0 a1 a2 = some r) :
  Calls Try.prog 27 #[p0, .int .u64 a1, .int .i64 a2] w fun e w' => e = .returned (p0) ∧ St w0 w' I [at_octet_Writer p0 r] R := by
 unfold octet_Writer_Num at hm
 refine calls_start (args := [p0, .int .u64 a1, .int .i64 a2]) Try.func27 rfl Try.ntmps27 (Nat.le_of_ble_eq_true rfl) ?_
 refine wp_seq (wp_region_lit ?_)
 refine wv (.pointer none) rfl rfl rfl ?_
 refine wl_nil (then_n (wp_seq (wp_seq (wp_region_lit ?_))))
 refine wv (.int .i64 a2) rfl rfl rfl ?_
 refine wv (.int .i64 (0:Int)) rfl rfl rfl ?_
 refine wl_nil (then_n (wp_block ?_))
 obtain ⟨n126, hm⟩ := loopO_some hm
 refine wp_loop_n (fun n a w => ∃ (z123 : octet_Writer) (z124 : Int) (σ125 : Nat → Value), loopN (octet_Writer_Num_l0 a2 a1) n (z123, z124) = some r ∧ a = Fr 22 (upd (upd (upd (upd σ125 0 (p0)) 1 (.int .u64 a1)) 8 (.int .i64 a2)) 9 (.int .i64 z124)) ∧ St w0 w I [at_octet_Writer p0 z123] R) n126 ⟨a0, (0:Int), _, hm, ((fr_upd (t := 0) (v := p0) rfl).trans ((fr_upd (t := 1) (v := .int .u64 a1) rfl).trans ((fr_upd (t := 8) (v := .int .i64 a2) rfl).trans ((fr_upd (t := 9) (v := .int .i64 (0:Int)) rfl).trans rfl)))), hst⟩ ?_
 rintro n132 _ w127 ⟨z123, z124, σ125, hm, rfl, hst⟩
 obtain ⟨n129, y130, rfl, hm, hx131⟩ := loopN_some hm
 dsimp only [octet_Writer_Num_l0] at hm
 refine wp_seq (wp_region_lit ?_)
 refine wv (.bool (decide (z124 < a2))) rfl rfl rfl ?_
 refine wl_nil (then_n (wp_seq ?_))
 refine bsplit (decide (z124 < a2)) (fun hc133 => ?_) (fun hc133 => ?_)
 ·skip
  replace hm := bif_t hc133 hm
  refine wp_ift (congrArg Value.bool hc133) ?_
  refine wp_skip (then_n (wp_seq (wp_block (wp_seq (wp_region_lit ?_)))))
  refine wv (.int .i64 z124) rfl rfl rfl ?_
  refine wv (.int .i64 z124) rfl rfl rfl ?_
  refine wl_nil (then_n (wp_region_lit ?_))
  refine wv (p0) rfl rfl rfl ?_
  refine wv (.int .u64 a1) rfl rfl rfl ?_
  refine wv (.int .i64 z124) rfl rfl rfl ?_
  refine wv (.int .i64 (IntKind.i64.wrap ((8:Int) * z124))) rfl rfl rfl ?_
  obtain ⟨hg134, hm⟩ := gd_some hm
  refine wv (.int .u64 (iShr .u64 a1 (IntKind.i64.wrap ((8:Int) * z124)))) rfl rfl (x_shr (of_decide_eq_true hg134) rfl rfl) ?_
  refine wv (.int .u8 (IntKind.u8.wrap (iShr .u64 a1 (IntKind.i64.wrap ((8:Int) * z124))))) rfl rfl (by kernel_rfl) ?_
  obtain ⟨b135, w136, ew137, eb138, hst⟩ := hst.lits (E := (tyInt .u8)) (xs := [(IntKind.u8.wrap (iShr .u64 a1 (IntKind.i64.wrap ((8:Int) * z124))))]) [[.int .u8 (IntKind.u8.wrap (iShr .u64 a1 (IntKind.i64.wrap ((8:Int) * z124))))]] 5 1 rfl (Reps.cons rfl Reps.nil)
  refine wl_run (v := (.slice (some ⟨b135, 0, none⟩) 1 1)) (w' := w136) rfl rfl (x_als (by kernel_rfl) ew137 eb138) ?_
  obtain ⟨css140, hq141, hst⟩ := hst.own_open
  replace hst := hst.pull1
  obtain ⟨t142, ht143, hm⟩ := bind_some hm
  refine wl_call rfl rfl (x_call Try.call61 rfl (vs := [p0, (.slice (some ⟨b135, 0, none⟩) 1 1)]) rfl) ?_
  refine (octet_Writer_lay_ref (hst.sub.rdrow0 hq141) hst.to1 ht143).mono ?_
  rintro _ w144 ⟨rfl, hst⟩
  refine ⟨_, rfl, ?_⟩
  replace hst := hst.of1
  replace hst := hst.pull1
  replace hst := hst.own_close hq141
  refine wl_nil (blk_n (then_n (wp_region_lit ?_)))
  refine wv (.int .i64 (IntKind.i64.wrap (z124 + (1:Int)))) rfl rfl rfl ?_
  refine wv (.int .i64 (IntKind.i64.wrap (z124 + (1:Int)))) rfl rfl rfl ?_
  refine wl_nil (then_n ?_)
  replace hst := hst.pull1
  replace hst := hst.keep1
  obtain rfl := some_inj hm
  exact ⟨_, Nat.lt_succ_self _, t142, (IntKind.i64.wrap (z124 + (1:Int))), _, hx131, ((fr_upd (t := 0) (v := p0) rfl).trans ((fr_upd (t := 1) (v := .int .u64 a1) rfl).trans ((fr_upd (t := 8) (v := .int .i64 a2) rfl).trans ((fr_upd (t := 9) (v := .int .i64 (IntKind.i64.wrap (z124 + (1:Int)))) rfl).trans rfl)))), hst⟩
 ·skip
  replace hm := bif_f hc133 hm
  refine wp_iff (congrArg Value.bool hc133) ?_
  refine wp_exit (then_x (then_x ?_))
  replace hm := inr_up hm hx131
  refine blk_x (then_n (wp_seq (wp_region_lit ?_)))
  refine wv (p0) rfl rfl rfl ?_
  refine wv (p0) rfl rfl rfl ?_
  refine wl_nil (then_n (wp_ret ?_))
  obtain rfl := some_inj hm
  refine post_ret (vs := [p0]) Try.results27 (rvs_cons (rv_tmp rfl) rvs_nil) ?_
  exact ⟨rfl, hst.keep1⟩

theorem octet_Writer_Done_ref {w0 w : World} {I : HL} {R : SP} {a0 : octet_Writer} {p0 : Value}  (hst : St w0 w I [at_octet_Writer p0 a0] R) {r : ((List Int))} (hm : octet_Writer_Done a0 = some r) :
  Calls Try.prog 14 #[p0] w fun e w' => ∃ (q0_0 : Value), e = .returned (q0_0) ∧ St w0 w' I [ownS (tyInt .u8) q0_0 r] R := by
 unfold octet_Writer_Done at hm
 refine calls_start (args := [p0]) Try.func14 rfl Try.ntmps14 (Nat.le_of_ble_eq_true rfl) ?_
 refine wp_seq (wp_region_lit ?_)
 refine wv ((.slice none 0 0)) rfl rfl rfl ?_
 refine wl_nil (then_n (wp_seq (wp_region_lit ?_)))
 refine wv (p0) rfl rfl rfl ?_
 obtain ⟨b55, v56, rfl, hst'⟩ := at_octet_Writer_open hst
 clear hst
 have hst := hst'
 clear hst'
 refine wv (.pointer (some ⟨b55, 0, none⟩)) rfl rfl rfl ?_
 refine wv (.pointer (some ⟨b55, 0, none⟩)) rfl rfl (x_field rfl Try.underlying58 rfl Try.sizeOf22 rfl) ?_
 refine wv (v56) rfl rfl (x_load rfl Try.isAgg22 (hst.bc0 rfl)) ?_
 refine wv (v56) rfl rfl rfl ?_
 refine wl_nil (then_n (wp_ret ?_))
 obtain rfl := some_inj hm
 refine post_ret (vs := [v56]) Try.results14 (rvs_cons (rv_tmp rfl) rvs_nil) ?_
 replace hst := hst.pull1
 exact ⟨v56, rfl, hst.keep1⟩

theorem math_IsNaN_ref {w0 w : World} {I : HL} {R : SP} {a0 : Nat}  (hst : St w0 w I [] R) {r : (Bool)} (hm : math_IsNaN a0 = some r) :
  Calls Try.prog 64 #[.float .f64 a0] w fun e w' => e = .returned (.bool r) ∧ St w0 w' I [] R := by
 unfold math_IsNaN at hm
 refine calls_start (args := [.float .f64 a0]) Try.func64 rfl Try.ntmps64 (Nat.le_of_ble_eq_true rfl) ?_
 refine wp_seq (wp_region_lit ?_)
 refine wv (.bool false) rfl rfl rfl ?_
 refine wl_nil (then_n (wp_seq (wp_region_lit ?_)))
 refine wv (.float .f64 a0) rfl rfl rfl ?_
 refine wv (.float .f64 a0) rfl rfl rfl ?_
 refine wv (.bool (fNe a0 a0)) rfl rfl rfl ?_
 refine wv (.bool (fNe a0 a0)) rfl rfl rfl ?_
 refine wl_nil (then_n (wp_ret ?_))
 obtain rfl := some_inj hm
 refine post_ret (vs := [.bool (fNe a0 a0)]) Try.results64 (rvs_cons (rv_tmp rfl) rvs_nil) ?_
 exact ⟨rfl, hst.keep0⟩

theorem number_Rank_ref {w0 w : World} {I : HL} {R : SP} {a0 : Nat}  (hst : St w0 w I [] R) {r : (Int)} (hm : number_Rank a0 = some r) :
  Calls Try.prog 39 #[.float .f64 a0] w fun e w' => e = .returned (.int .u64 r) ∧ St w0 w' I [] R := by
 unfold number_Rank at hm
 refine calls_start (args := [.float .f64 a0]) Try.func39 rfl Try.ntmps39 (Nat.le_of_ble_eq_true rfl) ?_
 refine wp_seq (wp_region_lit ?_)
 refine wv (.int .u64 (0:Int)) rfl rfl rfl ?_
 refine wl_nil (then_n (wp_seq (wp_seq (wp_region_lit ?_))))
 refine wv (.float .f64 a0) rfl rfl rfl ?_
 obtain ⟨t99, ht100, hm⟩ := bind_some hm
 refine wl_call rfl rfl (x_call Try.call64 rfl (vs := [.float .f64 a0]) rfl) ?_
 refine (math_IsNaN_ref hst.to0 ht100).mono ?_
 rintro _ w101 ⟨rfl, hst⟩
 refine ⟨_, rfl, ?_⟩
 replace hst := hst.of0
 refine wl_nil (then_n ?_)
 refine bsplit t99 (fun hc104 => ?_) (fun hc104 => ?_)
 ·skip
  replace hm := bif_t hc104 hm
  refine wp_ift (congrArg Value.bool hc104) ?_
  refine wp_seq (wp_region_lit ?_)
  refine wv (.int .u64 (18446744073709551615:Int)) rfl rfl rfl ?_
  refine wl_nil (then_n (wp_ret (then_r ?_)))
  obtain rfl := some_inj hm
  refine post_ret (vs := [.int .u64 (18446744073709551615:Int)]) Try.results39 (rvs_cons (rv_tmp rfl) rvs_nil) ?_
  exact ⟨rfl, hst.keep0⟩
 ·skip
  replace hm := bif_f hc104 hm
  refine wp_iff (congrArg Value.bool hc104) ?_
  refine wp_skip (then_n (wp_seq (wp_region_lit ?_)))
  refine wv (.float .f64 a0) rfl rfl rfl ?_
  refine wv (.int .u64 (Int.ofNat a0)) rfl rfl (by kernel_rfl) ?_
  refine wv (.int .u64 (Int.ofNat a0)) rfl rfl rfl ?_
  refine wl_nil (then_n (wp_seq (wp_seq (wp_region_lit ?_))))
  refine wv (.int .u64 (Int.ofNat a0)) rfl rfl rfl ?_
  refine wv (.int .u64 (iShr .u64 (Int.ofNat a0) (63:Int))) rfl rfl (x_shr (by decide) rfl rfl) ?_
  refine wv (.bool ((iShr .u64 (Int.ofNat a0) (63:Int)) == (1:Int))) rfl rfl rfl ?_
  refine wl_nil (then_n ?_)
  refine bsplit ((iShr .u64 (Int.ofNat a0) (63:Int)) == (1:Int)) (fun hc105 => ?_) (fun hc105 => ?_)
  ·skip
   replace hm := bif_t hc105 hm
   refine wp_ift (congrArg Value.bool hc105) ?_
   refine wp_seq (wp_region_lit ?_)
   refine wv (.int .u64 (Int.ofNat a0)) rfl rfl rfl ?_
   refine wv (.int .u64 (bXor .u64 ((18446744073709551615):Int) (Int.ofNat a0))) rfl rfl (by kernel_rfl) ?_
   refine wv (.int .u64 (bXor .u64 ((18446744073709551615):Int) (Int.ofNat a0))) rfl rfl rfl ?_
   refine wl_nil (then_n (wp_ret (then_r ?_)))
   obtain rfl := some_inj hm
   refine post_ret (vs := [.int .u64 (bXor .u64 ((18446744073709551615):Int) (Int.ofNat a0))]) Try.results39 (rvs_cons (rv_tmp rfl) rvs_nil) ?_
   exact ⟨rfl, hst.keep0⟩
  ·skip
   replace hm := bif_f hc105 hm
   refine wp_iff (congrArg Value.bool hc105) ?_
   refine wp_skip (then_n (wp_seq (wp_region_lit ?_)))
   refine wv (.int .u64 (Int.ofNat a0)) rfl rfl rfl ?_
   refine wv (.int .u64 (bOr .u64 (Int.ofNat a0) (9223372036854775808:Int))) rfl rfl rfl ?_
   refine wv (.int .u64 (bOr .u64 (Int.ofNat a0) (9223372036854775808:Int))) rfl rfl rfl ?_
   refine wl_nil (then_n (wp_ret ?_))
   obtain rfl := some_inj hm
   refine post_ret (vs := [.int .u64 (bOr .u64 (Int.ofNat a0) (9223372036854775808:Int))]) Try.results39 (rvs_cons (rv_tmp rfl) rvs_nil) ?_
   exact ⟨rfl, hst.keep0⟩

theorem octet_Writer_Bytes_ref {w0 w : World} {I : HL} {R : SP} {a0 : octet_Writer} {p0 : Value} {a1 : (List Int)} {r1_0 : Value} (f1_0 : Rd (tyInt .u8) R I r1_0 a1) (hst : St w0 w I [at_octet_Writer p0 a0] R) {r : (octet_Writer)} (hm : octet_Writer_Bytes a0 a1 = some r) :
  Calls Try.prog 38 #[p0, r1_0] w fun e w' => e = .returned (p0) ∧ St w0 w' I [at_octet_Writer p0 r] R := by
 unfold octet_Writer_Bytes at hm
 refine calls_start (args := [p0, r1_0]) Try.func38 rfl Try.ntmps38 (Nat.le_of_ble_eq_true rfl) ?_
 refine wp_seq (wp_region_lit ?_)
 refine wv (.pointer none) rfl rfl rfl ?_
 refine wl_nil (then_n (wp_seq (wp_region_lit ?_)))
 refine wv (p0) rfl rfl rfl ?_
 refine wv (r1_0) rfl rfl rfl ?_
 refine wv (.int .i64 ((a1).length : Int)) rfl rfl (x_len rfl Try.underlying22 (rd_sliceV f1_0)) ?_
 refine wv (.int .u64 (IntKind.u64.wrap ((a1).length : Int))) rfl rfl (by kernel_rfl) ?_
 obtain ⟨t359, ht360, hm⟩ := bind_some hm
 refine wl_call rfl rfl (x_call Try.call27 rfl (vs := [p0, .int .u64 (IntKind.u64.wrap ((a1).length : Int)), .int .i64 (4:Int)]) rfl) ?_
 refine (octet_Writer_Num_ref hst.to1 ht360).mono ?_
 rintro _ w361 ⟨rfl, hst⟩
 refine ⟨_, rfl, ?_⟩
 replace hst := hst.of1
 refine wv (r1_0) rfl rfl rfl ?_
 obtain ⟨t364, ht365, hm⟩ := bind_some hm
 refine wl_call rfl rfl (x_call Try.call61 rfl (vs := [p0, r1_0]) rfl) ?_
 refine (octet_Writer_lay_ref (f1_0.mono (rd_weak _)) hst.to1 ht365).mono ?_
 rintro _ w366 ⟨rfl, hst⟩
 refine ⟨_, rfl, ?_⟩
 replace hst := hst.of1
 refine wv (p0) rfl rfl rfl ?_
 refine wl_nil (then_n (wp_ret ?_))
 obtain rfl := some_inj hm
 refine post_ret (vs := [p0]) Try.results38 (rvs_cons (rv_tmp rfl) rvs_nil) ?_
 exact ⟨rfl, hst.keep1⟩

theorem locks_Lay_ref {w0 w : World} {I : HL} {R : SP} {a0 : octet_Writer} {p0 : Value} {a1 : api_Hold} {r1_0 : Value} {r1_1 : Value} {r1_2 : Value} {r1_3 : Value} (f1_0 : Rd tyF64 R I r1_0 a1.Gets) (f1_1 : Rd tyF2 R I r1_1 a1.Scans) (f1_2 : Rd tyF64 R I r1_2 a1.Puts) (f1_3 : Rd (tyInt .u8) R I r1_3 a1.Data) (hst : St w0 w I [at_octet_Writer p0 a0] R) {r : (octet_Writer)} (hm : locks_Lay a0 a1 = some r) :
  Calls Try.prog 29 #[p0, .agg #[.int .u64 a1.ID.Session, .int .u64 a1.ID.Seq, .int .u64 a1.Epoch, r1_0, r1_1, r1_2, r1_3]] w fun e w' => e = .returned (.tuple #[]) ∧ St w0 w' I [at_octet_Writer p0 r] R := by
 unfold locks_Lay at hm
 refine calls_start (args := [p0, .agg #[.int .u64 a1.ID.Session, .int .u64 a1.ID.Seq, .int .u64 a1.Epoch, r1_0, r1_1, r1_2, r1_3]]) Try.func29 rfl Try.ntmps29 (Nat.le_of_ble_eq_true rfl) ?_
 refine wp_seq (wp_region_lit ?_)
 obtain ⟨b355, w356, ew357, eb358, hst⟩ := hst.box [.int .u64 a1.ID.Session, .int .u64 a1.ID.Seq, .int .u64 a1.Epoch, r1_0, r1_1, r1_2, r1_3] 34
 refine wl_run (v := .pointer (some ⟨b355, 0, none⟩)) (w' := w356) rfl rfl (x_al (by kernel_rfl) ew357 eb358) ?_
 refine wl_nil (then_n (wp_seq ?_))
 refine wp_region_St hst 17 [0, 1, 2, 3, 4, 5, 6, 7, 8, 9, 10, 11, 12, 13, 14, 15, 16] [0, 0, 2, 6, 15, 0, 32, 96, 255, 0, 512, 2047, 0, 4096, 12288, 28672, 65535] [] rfl (by kernel_rfl) (by kernel_rfl) Try.mixed (by kernel_rfl) ?_
 refine wsr (p0) 0 rfl rfl rfl (by kernel_rfl) (fun w hst => rfl) ?_
 refine wsr (.pointer (some ⟨b355, 0, none⟩)) 1 rfl rfl rfl (by kernel_rfl) (fun w hst => x_field rfl Try.underlying34 rfl Try.sizeOf29 rfl) ?_
 refine wsr (.pointer (some ⟨b355, 0, none⟩)) 2 rfl rfl rfl (by kernel_rfl) (fun w hst => x_field rfl Try.underlying29 rfl Try.sizeOf27 rfl) ?_
 refine wsr (.int .u64 a1.ID.Session) 3 rfl rfl rfl (by kernel_rfl) (fun w hst => x_load rfl Try.isAgg27 (hst.bc0 rfl)) ?_
 refine wsr (.pointer (some ⟨b355, 0, none⟩)) 5 rfl rfl rfl (by kernel_rfl) (fun w hst => x_field rfl Try.underlying34 rfl Try.sizeOf29 rfl) ?_
 refine wsr (.pointer (some ⟨b355, 1, none⟩)) 6 rfl rfl rfl (by kernel_rfl) (fun w hst => x_field rfl Try.underlying29 rfl Try.sizeOf27 rfl) ?_
 refine wsr (.int .u64 a1.ID.Seq) 7 rfl rfl rfl (by kernel_rfl) (fun w hst => x_load rfl Try.isAgg27 (hst.bc0 rfl)) ?_
 refine wsr (.pointer (some ⟨b355, 2, none⟩)) 9 rfl rfl rfl (by kernel_rfl) (fun w hst => x_field rfl Try.underlying34 rfl Try.sizeOf27 rfl) ?_
 refine wsr (.int .u64 a1.Epoch) 10 rfl rfl rfl (by kernel_rfl) (fun w hst => x_load rfl Try.isAgg27 (hst.bc0 rfl)) ?_
 refine wsr (.pointer (some ⟨b355, 3, none⟩)) 12 rfl rfl rfl (by kernel_rfl) (fun w hst => x_field rfl Try.underlying34 rfl Try.sizeOf31 rfl) ?_
 refine wsr (r1_0) 13 rfl rfl rfl (by kernel_rfl) (fun w hst => x_load rfl Try.isAgg31 (hst.bc0 rfl)) ?_
 refine wsr (.int .i64 ((a1.Gets).length : Int)) 14 rfl rfl rfl (by kernel_rfl) (fun w hst => x_len rfl Try.underlying31 (rd_sliceV f1_0)) ?_
 refine wsr (.int .u64 (IntKind.u64.wrap ((a1.Gets).length : Int))) 15 rfl rfl rfl (by kernel_rfl) (fun w hst => by kernel_rfl) ?_
 refine ws_e1 4 (by kernel_rfl) ?_
 refine nxe [8, 11, 16] (by kernel_rfl) rfl rfl ?_
 clear hst
 intro w hst
 replace hst := hst.pull1
 obtain ⟨t360, ht361, hm⟩ := bind_some hm
 refine we_call rfl (x_call Try.call27 rfl (vs := [p0, .int .u64 a1.ID.Session, .int .i64 (8:Int)]) rfl) ?_
 refine (octet_Writer_Num_ref hst.to1 ht361).mono ?_
 rintro _ w362 ⟨rfl, hst⟩
 refine ⟨_, rfl, ?_⟩
 replace hst := hst.of1
 refine ws_next (pend' := [(15, .int .u64 (IntKind.u64.wrap ((a1.Gets).length : Int))), (14, .int .i64 ((a1.Gets).length : Int)), (13, r1_0), (12, .pointer (some ⟨b355, 3, none⟩)), (10, .int .u64 a1.Epoch), (9, .pointer (some ⟨b355, 2, none⟩)), (7, .int .u64 a1.ID.Seq), (6, .pointer (some ⟨b355, 1, none⟩)), (5, .pointer (some ⟨b355, 0, none⟩))]) hst (by kernel_rfl) (pkr rfl rfl (fun w hst => by kernel_rfl) (pkr rfl rfl (fun w hst => x_len rfl Try.underlying31 (rd_sliceV f1_0)) (pkr rfl rfl (fun w hst => x_load rfl Try.isAgg31 (hst.bc1 rfl)) (pkr rfl rfl (fun w hst => x_field rfl Try.underlying34 rfl Try.sizeOf31 rfl) (pkr rfl rfl (fun w hst => x_load rfl Try.isAgg27 (hst.bc1 rfl)) (pkr rfl rfl (fun w hst => x_field rfl Try.underlying34 rfl Try.sizeOf27 rfl) (pkr rfl rfl (fun w hst => x_load rfl Try.isAgg27 (hst.bc1 rfl)) (pkr rfl rfl (fun w hst => x_field rfl Try.underlying29 rfl Try.sizeOf27 rfl) (pkr rfl rfl (fun w hst => x_field rfl Try.underlying34 rfl Try.sizeOf29 rfl) pk_nil))))))))) ?_
 refine ws_e1 8 (by kernel_rfl) ?_
 refine nxe [11, 16] (by kernel_rfl) rfl rfl ?_
 clear hst
 intro w hst
 obtain ⟨t365, ht366, hm⟩ := bind_some hm
 refine we_call rfl (x_call Try.call27 rfl (vs := [p0, .int .u64 a1.ID.Seq, .int .i64 (8:Int)]) rfl) ?_
 refine (octet_Writer_Num_ref hst.to1 ht366).mono ?_
 rintro _ w367 ⟨rfl, hst⟩
 refine ⟨_, rfl, ?_⟩
 replace hst := hst.of1
 refine ws_next (pend' := [(15, .int .u64 (IntKind.u64.wrap ((a1.Gets).length : Int))), (14, .int .i64 ((a1.Gets).length : Int)), (13, r1_0), (12, .pointer (some ⟨b355, 3, none⟩)), (10, .int .u64 a1.Epoch), (9, .pointer (some ⟨b355, 2, none⟩))]) hst (by kernel_rfl) (pkr rfl rfl (fun w hst => by kernel_rfl) (pkr rfl rfl (fun w hst => x_len rfl Try.underlying31 (rd_sliceV f1_0)) (pkr rfl rfl (fun w hst => x_load rfl Try.isAgg31 (hst.bc1 rfl)) (pkr rfl rfl (fun w hst => x_field rfl Try.underlying34 rfl Try.sizeOf31 rfl) (pkr rfl rfl (fun w hst => x_load rfl Try.isAgg27 (hst.bc1 rfl)) (pkr rfl rfl (fun w hst => x_field rfl Try.underlying34 rfl Try.sizeOf27 rfl) pk_nil)))))) ?_
 refine ws_e1 11 (by kernel_rfl) ?_
 refine nxe [16] (by kernel_rfl) rfl rfl ?_
 clear hst
 intro w hst
 obtain ⟨t370, ht371, hm⟩ := bind_some hm
 refine we_call rfl (x_call Try.call27 rfl (vs := [p0, .int .u64 a1.Epoch, .int .i64 (8:Int)]) rfl) ?_
 refine (octet_Writer_Num_ref hst.to1 ht371).mono ?_
 rintro _ w372 ⟨rfl, hst⟩
 refine ⟨_, rfl, ?_⟩
 replace hst := hst.of1
 refine ws_next (pend' := [(15, .int .u64 (IntKind.u64.wrap ((a1.Gets).length : Int))), (14, .int .i64 ((a1.Gets).length : Int)), (13, r1_0), (12, .pointer (some ⟨b355, 3, none⟩))]) hst (by kernel_rfl) (pkr rfl rfl (fun w hst => by kernel_rfl) (pkr rfl rfl (fun w hst => x_len rfl Try.underlying31 (rd_sliceV f1_0)) (pkr rfl rfl (fun w hst => x_load rfl Try.isAgg31 (hst.bc1 rfl)) (pkr rfl rfl (fun w hst => x_field rfl Try.underlying34 rfl Try.sizeOf31 rfl) pk_nil)))) ?_
 refine ws_e1 16 (by kernel_rfl) ?_
 refine nxe [] (by kernel_rfl) rfl rfl ?_
 clear hst
 intro w hst
 obtain ⟨t375, ht376, hm⟩ := bind_some hm
 refine we_call rfl (x_call Try.call27 rfl (vs := [p0, .int .u64 (IntKind.u64.wrap ((a1.Gets).length : Int)), .int .i64 (4:Int)]) rfl) ?_
 refine (octet_Writer_Num_ref hst.to1 ht376).mono ?_
 rintro _ w377 ⟨rfl, hst⟩
 refine ⟨_, rfl, ?_⟩
 replace hst := hst.of1
 refine ws_next (pend' := []) hst (by kernel_rfl) pk_nil ?_
 refine ws_nil ?_
 intro w hst
 refine then_n ?_
 obtain ⟨y443, hm, hx444⟩ := bind_some hm
 refine wp_cut (fun a w => ∃ (z440 : octet_Writer) (σ441 : Nat → Value), (locks_Lay_j0 a1) z440 = some r ∧ a = Fr 84 (upd (upd σ441 0 (p0)) 3 (.pointer (some ⟨b355, 0, none⟩))) ∧ St w0 w I [at_octet_Writer p0 z440, cells b355 [.int .u64 a1.ID.Session, .int .u64 a1.ID.Seq, .int .u64 a1.Epoch, r1_0, r1_1, r1_2, r1_3]] R) ?_ ?_
 ·skip
  refine wp_seq (wp_region_lit ?_)
  refine wv (.pointer (some ⟨b355, 3, none⟩)) rfl rfl (x_field rfl Try.underlying34 rfl Try.sizeOf31 rfl) ?_
  refine wv (r1_0) rfl rfl (x_load rfl Try.isAgg31 (hst.bc1 rfl)) ?_
  refine wv (.int .i64 ((a1.Gets).length : Int)) rfl rfl (x_len rfl Try.underlying31 (rd_sliceV f1_0)) ?_
  refine wv (.int .i64 (0:Int)) rfl rfl rfl ?_
  refine wl_nil (then_n (wp_block ?_))
  obtain ⟨n417, hm⟩ := loopO_some hm
  refine wp_loop_n (fun n a w => ∃ (z414 : octet_Writer) (z415 : Int) (σ416 : Nat → Value), loopN (locks_Lay_l1 a1) n (z414, z415) = some y443 ∧ a = Fr 84 (upd (upd (upd (upd (upd σ416 0 (p0)) 3 (.pointer (some ⟨b355, 0, none⟩))) 28 (r1_0)) 29 (.int .i64 ((a1.Gets).length : Int))) 30 (.int .i64 z415)) ∧ St w0 w I [at_octet_Writer p0 z414, cells b355 [.int .u64 a1.ID.Session, .int .u64 a1.ID.Seq, .int .u64 a1.Epoch, r1_0, r1_1, r1_2, r1_3]] R) n417 ⟨t375, (0:Int), _, hm, ((fr_upd (t := 0) (v := p0) rfl).trans ((fr_upd (t := 3) (v := .pointer (some ⟨b355, 0, none⟩)) rfl).trans ((fr_upd (t := 28) (v := r1_0) rfl).trans ((fr_upd (t := 29) (v := .int .i64 ((a1.Gets).length : Int)) rfl).trans ((fr_upd (t := 30) (v := .int .i64 (0:Int)) rfl).trans rfl))))), hst⟩ ?_
  rintro n423 _ w418 ⟨z414, z415, σ416, hm, rfl, hst⟩
  obtain ⟨n420, y421, rfl, hm, hx422⟩ := loopN_some hm
  dsimp only [locks_Lay_l1] at hm
  refine wp_seq (wp_region_lit ?_)
  refine wv (.bool (decide (z415 < ((a1.Gets).length : Int)))) rfl rfl rfl ?_
  refine wl_nil (then_n (wp_seq ?_))
  refine bsplit (decide (z415 < ((a1.Gets).length : Int))) (fun hc424 => ?_) (fun hc424 => ?_)
  ·skip
   replace hm := bif_t hc424 hm
   refine wp_ift (congrArg Value.bool hc424) ?_
   refine wp_skip (then_n (wp_seq (wp_block (wp_seq (wp_region_lit ?_)))))
   obtain ⟨x425, hx426, hm⟩ := bind_some hm
   obtain ⟨h427, h428, hi429⟩ := geto_some hx426
   refine wv (.pointer (some (eAddr r1_0 (z415.toNat * 1 + 0)))) rfl rfl (x_index rfl rfl Try.underlying31 Try.sizeOf41 (rd_sliceV f1_0) h427 h428) ?_
   refine wv (.float .f64 x425) rfl rfl (x_load rfl Try.isAgg41 (rd_load f1_0 (HL.le.refl _) hst hi429 (by rintro _ rfl; rfl))) ?_
   refine wv (.float .f64 x425) rfl rfl rfl ?_
   refine wl_nil (then_n (wp_region_lit ?_))
   refine wv (p0) rfl rfl rfl ?_
   refine wv (.float .f64 x425) rfl rfl rfl ?_
   obtain ⟨t430, ht431, hm⟩ := bind_some hm
   refine wl_call rfl rfl (x_call Try.call39 rfl (vs := [.float .f64 x425]) rfl) ?_
   refine (number_Rank_ref hst.to0 ht431).mono ?_
   rintro _ w432 ⟨rfl, hst⟩
   refine ⟨_, rfl, ?_⟩
   replace hst := hst.of0
   obtain ⟨t435, ht436, hm⟩ := bind_some hm
   refine wl_call rfl rfl (x_call Try.call27 rfl (vs := [p0, .int .u64 t430, .int .i64 (8:Int)]) rfl) ?_
   refine (octet_Writer_Num_ref hst.to1 ht436).mono ?_
   rintro _ w437 ⟨rfl, hst⟩
   refine ⟨_, rfl, ?_⟩
   replace hst := hst.of1
   refine wl_nil (blk_n (then_n (wp_region_lit ?_)))
   refine wv (.int .i64 (IntKind.i64.wrap (z415 + (1:Int)))) rfl rfl rfl ?_
   refine wv (.int .i64 (IntKind.i64.wrap (z415 + (1:Int)))) rfl rfl rfl ?_
   refine wl_nil (then_n ?_)
   replace hst := hst.pull1
   replace hst := hst.pull1
   replace hst := hst.keep2
   obtain rfl := some_inj hm
   exact ⟨_, Nat.lt_succ_self _, t435, (IntKind.i64.wrap (z415 + (1:Int))), _, hx422, ((fr_upd (t := 0) (v := p0) rfl).trans ((fr_upd (t := 3) (v := .pointer (some ⟨b355, 0, none⟩)) rfl).trans ((fr_upd (t := 28) (v := r1_0) rfl).trans ((fr_upd (t := 29) (v := .int .i64 ((a1.Gets).length : Int)) rfl).trans ((fr_upd (t := 30) (v := .int .i64 (IntKind.i64.wrap (z415 + (1:Int)))) rfl).trans rfl))))), hst⟩
  ·skip
   replace hm := bif_f hc424 hm
   refine wp_iff (congrArg Value.bool hc424) ?_
   refine wp_exit (then_x (then_x ?_))
   replace hm := inr_up hm hx422
   refine blk_x (then_n ?_)
   replace hst := hst.pull1
   replace hst := hst.pull1
   replace hst := hst.keep2
   obtain rfl := some_inj hm
   exact ⟨z414, _, hx444, ((fr_upd (t := 0) (v := p0) rfl).trans ((fr_upd (t := 3) (v := .pointer (some ⟨b355, 0, none⟩)) rfl).trans rfl)), hst⟩
 ·skip
  clear hst
  rintro _ w445 ⟨z440, σ441, hm, rfl, hst⟩
  dsimp only [locks_Lay_j0] at hm
  refine wp_seq (wp_region_lit ?_)
  refine wv (p0) rfl rfl rfl ?_
  refine wv (.pointer (some ⟨b355, 4, none⟩)) rfl rfl (x_field rfl Try.underlying34 rfl Try.sizeOf32 rfl) ?_
  refine wv (r1_1) rfl rfl (x_load rfl Try.isAgg32 (hst.bc1 rfl)) ?_
  refine wv (.int .i64 ((a1.Scans).length : Int)) rfl rfl (x_len rfl Try.underlying32 (rd_sliceV f1_1)) ?_
  refine wv (.int .u64 (IntKind.u64.wrap ((a1.Scans).length : Int))) rfl rfl (by kernel_rfl) ?_
  obtain ⟨t446, ht447, hm⟩ := bind_some hm
  refine wl_call rfl rfl (x_call Try.call27 rfl (vs := [p0, .int .u64 (IntKind.u64.wrap ((a1.Scans).length : Int)), .int .i64 (4:Int)]) rfl) ?_
  refine (octet_Writer_Num_ref hst.to1 ht447).mono ?_
  rintro _ w448 ⟨rfl, hst⟩
  refine ⟨_, rfl, ?_⟩
  replace hst := hst.of1
  refine wl_nil (then_n ?_)
  obtain ⟨y565, hm, hx566⟩ := bind_some hm
  refine wp_cut (fun a w => ∃ (z562 : octet_Writer) (σ563 : Nat → Value), (locks_Lay_j2 a1) z562 = some r ∧ a = Fr 84 (upd (upd σ563 0 (p0)) 3 (.pointer (some ⟨b355, 0, none⟩))) ∧ St w0 w I [at_octet_Writer p0 z562, cells b355 [.int .u64 a1.ID.Session, .int .u64 a1.ID.Seq, .int .u64 a1.Epoch, r1_0, r1_1, r1_2, r1_3]] R) ?_ ?_
  ·skip
   refine wp_seq (wp_region_lit ?_)
   refine wv (.pointer (some ⟨b355, 4, none⟩)) rfl rfl (x_field rfl Try.underlying34 rfl Try.sizeOf32 rfl) ?_
   refine wv (r1_1) rfl rfl (x_load rfl Try.isAgg32 (hst.bc1 rfl)) ?_
   refine wv (.int .i64 ((a1.Scans).length : Int)) rfl rfl (x_len rfl Try.underlying32 (rd_sliceV f1_1)) ?_
   refine wv (.int .i64 (0:Int)) rfl rfl rfl ?_
   refine wl_nil (then_n (wp_block ?_))
   obtain ⟨n522, hm⟩ := loopO_some hm
   refine wp_loop_n (fun n a w => ∃ (z519 : octet_Writer) (z520 : Int) (σ521 : Nat → Value), loopN (locks_Lay_l3 a1) n (z519, z520) = some y565 ∧ a = Fr 84 (upd (upd (upd (upd (upd σ521 0 (p0)) 3 (.pointer (some ⟨b355, 0, none⟩))) 46 (r1_1)) 47 (.int .i64 ((a1.Scans).length : Int))) 48 (.int .i64 z520)) ∧ St w0 w I [at_octet_Writer p0 z519, cells b355 [.int .u64 a1.ID.Session, .int .u64 a1.ID.Seq, .int .u64 a1.Epoch, r1_0, r1_1, r1_2, r1_3]] R) n522 ⟨t446, (0:Int), _, hm, ((fr_upd (t := 0) (v := p0) rfl).trans ((fr_upd (t := 3) (v := .pointer (some ⟨b355, 0, none⟩)) rfl).trans ((fr_upd (t := 46) (v := r1_1) rfl).trans ((fr_upd (t := 47) (v := .int .i64 ((a1.Scans).length : Int)) rfl).trans ((fr_upd (t := 48) (v := .int .i64 (0:Int)) rfl).trans rfl))))), hst⟩ ?_
   rintro n528 _ w523 ⟨z519, z520, σ521, hm, rfl, hst⟩
   obtain ⟨n525, y526, rfl, hm, hx527⟩ := loopN_some hm
   dsimp only [locks_Lay_l3] at hm
   refine wp_seq (wp_region_lit ?_)
   refine wv (.bool (decide (z520 < ((a1.Scans).length : Int)))) rfl rfl rfl ?_
   refine wl_nil (then_n (wp_seq ?_))
   refine bsplit (decide (z520 < ((a1.Scans).length : Int))) (fun hc529 => ?_) (fun hc529 => ?_)
   ·skip
    replace hm := bif_t hc529 hm
    refine wp_ift (congrArg Value.bool hc529) ?_
    refine wp_skip (then_n (wp_seq (wp_block (wp_seq (wp_region_lit ?_)))))
    obtain ⟨x530, hx531, hm⟩ := bind_some hm
    obtain ⟨h532, h533, hi534⟩ := geto_some hx531
    refine wv (.pointer (some (eAddr r1_1 (z520.toNat * 2 + 0)))) rfl rfl (x_index rfl rfl Try.underlying32 Try.sizeOf111 (rd_sliceV f1_1) h532 h533) ?_
    refine wv (.agg #[.float .f64 x530.1, .float .f64 x530.2]) rfl rfl (x_loadN (cs := [.float .f64 x530.1, .float .f64 x530.2]) rfl Try.isAgg111 Try.sizeOf111 (rd_loadN f1_1 (HL.le.refl _) hst hi534 0 (by rintro _ rfl; rfl))) ?_
    obtain ⟨b535, w536, ew537, eb538, hst⟩ := hst.box [.float .f64 (0:Nat), .float .f64 (0:Nat)] 111
    refine wl_run (v := .pointer (some ⟨b535, 0, none⟩)) (w' := w536) rfl rfl (x_al (by kernel_rfl) ew537 eb538) ?_
    obtain ⟨w540, hr541, hst⟩ := hst.boxStore (P := Try.prog) (t := 111) (cs' := [.float .f64 x530.1, .float .f64 x530.2]) 0 (.agg #[.float .f64 x530.1, .float .f64 x530.2]) Try.sizeOf111 (Nat.le_of_ble_eq_true rfl) (ones_cons rfl (ones_cons rfl ones_nil)) (by kernel_rfl)
    refine wl_unit rfl rfl (x_unit hr541) ?_
    refine wl_nil (then_n ?_)
    refine wp_region_St hst 9 [0, 1, 2, 3, 4, 5, 6, 7, 8] [0, 0, 2, 6, 15, 0, 32, 127, 255] [] rfl (by kernel_rfl) (by kernel_rfl) Try.mixed (by kernel_rfl) ?_
    refine wsr (p0) 0 rfl rfl rfl (by kernel_rfl) (fun w hst => rfl) ?_
    refine wsr (.pointer (some ⟨b535, 0, none⟩)) 1 rfl rfl rfl (by kernel_rfl) (fun w hst => x_index_arr (i := (0:Int)) rfl rfl Try.underlying111 Try.sizeOf41 (by decide) (by decide)) ?_
    refine wsr (.float .f64 x530.1) 2 rfl rfl rfl (by kernel_rfl) (fun w hst => x_load rfl Try.isAgg41 (hst.bc0 rfl)) ?_
    refine wsr (.pointer (some ⟨b535, 1, none⟩)) 5 rfl rfl rfl (by kernel_rfl) (fun w hst => x_index_arr (i := (1:Int)) rfl rfl Try.underlying111 Try.sizeOf41 (by decide) (by decide)) ?_
    refine wsr (.float .f64 x530.2) 6 rfl rfl rfl (by kernel_rfl) (fun w hst => x_load rfl Try.isAgg41 (hst.bc0 rfl)) ?_
    refine ws_e1 3 (by kernel_rfl) ?_
    refine nxe [4, 7, 8] (by kernel_rfl) rfl rfl ?_
    clear hst
    intro w hst
    obtain ⟨t542, ht543, hm⟩ := bind_some hm
    refine we_call rfl (x_call Try.call39 rfl (vs := [.float .f64 x530.1]) rfl) ?_
    refine (number_Rank_ref hst.to0 ht543).mono ?_
    rintro _ w544 ⟨rfl, hst⟩
    refine ⟨_, rfl, ?_⟩
    replace hst := hst.of0
    refine ws_next (pend' := [(6, .float .f64 x530.2), (5, .pointer (some ⟨b535, 1, none⟩)), (0, p0)]) hst (by kernel_rfl) (pkr rfl rfl (fun w hst => x_load rfl Try.isAgg41 (hst.bc0 rfl)) (pkr rfl rfl (fun w hst => x_index_arr (i := (1:Int)) rfl rfl Try.underlying111 Try.sizeOf41 (by decide) (by decide)) (pkr rfl rfl (fun w hst => rfl) pk_nil))) ?_
    refine ws_e1 4 (by kernel_rfl) ?_
    refine nxe [7, 8] (by kernel_rfl) rfl rfl ?_
    clear hst
    intro w hst
    replace hst := hst.pull1
    obtain ⟨t547, ht548, hm⟩ := bind_some hm
    refine we_call rfl (x_call Try.call27 rfl (vs := [p0, .int .u64 t542, .int .i64 (8:Int)]) rfl) ?_
    refine (octet_Writer_Num_ref hst.to1 ht548).mono ?_
    rintro _ w549 ⟨rfl, hst⟩
    refine ⟨_, rfl, ?_⟩
    replace hst := hst.of1
    refine ws_next (pend' := [(6, .float .f64 x530.2), (5, .pointer (some ⟨b535, 1, none⟩))]) hst (by kernel_rfl) (pkr rfl rfl (fun w hst => x_load rfl Try.isAgg41 (hst.bc1 rfl)) (pkr rfl rfl (fun w hst => x_index_arr (i := (1:Int)) rfl rfl Try.underlying111 Try.sizeOf41 (by decide) (by decide)) pk_nil)) ?_
    refine ws_e1 7 (by kernel_rfl) ?_
    refine nxe [8] (by kernel_rfl) rfl rfl ?_
    clear hst
    intro w hst
    obtain ⟨t552, ht553, hm⟩ := bind_some hm
    refine we_call rfl (x_call Try.call39 rfl (vs := [.float .f64 x530.2]) rfl) ?_
    refine (number_Rank_ref hst.to0 ht553).mono ?_
    rintro _ w554 ⟨rfl, hst⟩
    refine ⟨_, rfl, ?_⟩
    replace hst := hst.of0
    refine ws_next (pend' := []) hst (by kernel_rfl) pk_nil ?_
    refine ws_e1 8 (by kernel_rfl) ?_
    refine nxe [] (by kernel_rfl) rfl rfl ?_
    clear hst
    intro w hst
    obtain ⟨t557, ht558, hm⟩ := bind_some hm
    refine we_call rfl (x_call Try.call27 rfl (vs := [p0, .int .u64 t552, .int .i64 (8:Int)]) rfl) ?_
    refine (octet_Writer_Num_ref hst.to1 ht558).mono ?_
    rintro _ w559 ⟨rfl, hst⟩
    refine ⟨_, rfl, ?_⟩
    replace hst := hst.of1
    refine ws_next (pend' := []) hst (by kernel_rfl) pk_nil ?_
    refine ws_nil ?_
    intro w hst
    refine blk_n (then_n (wp_region_lit ?_))
    refine wv (.int .i64 (IntKind.i64.wrap (z520 + (1:Int)))) rfl rfl rfl ?_
    refine wv (.int .i64 (IntKind.i64.wrap (z520 + (1:Int)))) rfl rfl rfl ?_
    refine wl_nil (then_n ?_)
    replace hst := hst.pull2
    replace hst := hst.pull1
    replace hst := hst.keep2
    obtain rfl := some_inj hm
    exact ⟨_, Nat.lt_succ_self _, t557, (IntKind.i64.wrap (z520 + (1:Int))), _, hx527, ((fr_upd (t := 0) (v := p0) rfl).trans ((fr_upd (t := 3) (v := .pointer (some ⟨b355, 0, none⟩)) rfl).trans ((fr_upd (t := 46) (v := r1_1) rfl).trans ((fr_upd (t := 47) (v := .int .i64 ((a1.Scans).length : Int)) rfl).trans ((fr_upd (t := 48) (v := .int .i64 (IntKind.i64.wrap (z520 + (1:Int)))) rfl).trans rfl))))), hst⟩
   ·skip
    replace hm := bif_f hc529 hm
    refine wp_iff (congrArg Value.bool hc529) ?_
    refine wp_exit (then_x (then_x ?_))
    replace hm := inr_up hm hx527
    refine blk_x (then_n ?_)
    replace hst := hst.pull1
    replace hst := hst.pull1
    replace hst := hst.keep2
    obtain rfl := some_inj hm
    exact ⟨z519, _, hx566, ((fr_upd (t := 0) (v := p0) rfl).trans ((fr_upd (t := 3) (v := .pointer (some ⟨b355, 0, none⟩)) rfl).trans rfl)), hst⟩
  ·skip
   clear hst
   rintro _ w567 ⟨z562, σ563, hm, rfl, hst⟩
   dsimp only [locks_Lay_j2] at hm
   refine wp_seq (wp_region_lit ?_)
   refine wv (p0) rfl rfl rfl ?_
   refine wv (.pointer (some ⟨b355, 5, none⟩)) rfl rfl (x_field rfl Try.underlying34 rfl Try.sizeOf31 rfl) ?_
   refine wv (r1_2) rfl rfl (x_load rfl Try.isAgg31 (hst.bc1 rfl)) ?_
   refine wv (.int .i64 ((a1.Puts).length : Int)) rfl rfl (x_len rfl Try.underlying31 (rd_sliceV f1_2)) ?_
   refine wv (.int .u64 (IntKind.u64.wrap ((a1.Puts).length : Int))) rfl rfl (by kernel_rfl) ?_
   obtain ⟨t568, ht569, hm⟩ := bind_some hm
   refine wl_call rfl rfl (x_call Try.call27 rfl (vs := [p0, .int .u64 (IntKind.u64.wrap ((a1.Puts).length : Int)), .int .i64 (4:Int)]) rfl) ?_
   refine (octet_Writer_Num_ref hst.to1 ht569).mono ?_
   rintro _ w570 ⟨rfl, hst⟩
   refine ⟨_, rfl, ?_⟩
   replace hst := hst.of1
   refine wl_nil (then_n ?_)
   obtain ⟨y636, hm, hx637⟩ := bind_some hm
   refine wp_cut (fun a w => ∃ (z633 : octet_Writer) (σ634 : Nat → Value), (locks_Lay_j4 a1) z633 = some r ∧ a = Fr 84 (upd (upd σ634 0 (p0)) 3 (.pointer (some ⟨b355, 0, none⟩))) ∧ St w0 w I [at_octet_Writer p0 z633, cells b355 [.int .u64 a1.ID.Session, .int .u64 a1.ID.Seq, .int .u64 a1.Epoch, r1_0, r1_1, r1_2, r1_3]] R) ?_ ?_
   ·skip
    refine wp_seq (wp_region_lit ?_)
    refine wv (.pointer (some ⟨b355, 5, none⟩)) rfl rfl (x_field rfl Try.underlying34 rfl Try.sizeOf31 rfl) ?_
    refine wv (r1_2) rfl rfl (x_load rfl Try.isAgg31 (hst.bc1 rfl)) ?_
    refine wv (.int .i64 ((a1.Puts).length : Int)) rfl rfl (x_len rfl Try.underlying31 (rd_sliceV f1_2)) ?_
    refine wv (.int .i64 (0:Int)) rfl rfl rfl ?_
    refine wl_nil (then_n (wp_block ?_))
    obtain ⟨n610, hm⟩ := loopO_some hm
    refine wp_loop_n (fun n a w => ∃ (z607 : octet_Writer) (z608 : Int) (σ609 : Nat → Value), loopN (locks_Lay_l5 a1) n (z607, z608) = some y636 ∧ a = Fr 84 (upd (upd (upd (upd (upd σ609 0 (p0)) 3 (.pointer (some ⟨b355, 0, none⟩))) 69 (r1_2)) 70 (.int .i64 ((a1.Puts).length : Int))) 71 (.int .i64 z608)) ∧ St w0 w I [at_octet_Writer p0 z607, cells b355 [.int .u64 a1.ID.Session, .int .u64 a1.ID.Seq, .int .u64 a1.Epoch, r1_0, r1_1, r1_2, r1_3]] R) n610 ⟨t568, (0:Int), _, hm, ((fr_upd (t := 0) (v := p0) rfl).trans ((fr_upd (t := 3) (v := .pointer (some ⟨b355, 0, none⟩)) rfl).trans ((fr_upd (t := 69) (v := r1_2) rfl).trans ((fr_upd (t := 70) (v := .int .i64 ((a1.Puts).length : Int)) rfl).trans ((fr_upd (t := 71) (v := .int .i64 (0:Int)) rfl).trans rfl))))), hst⟩ ?_
    rintro n616 _ w611 ⟨z607, z608, σ609, hm, rfl, hst⟩
    obtain ⟨n613, y614, rfl, hm, hx615⟩ := loopN_some hm
    dsimp only [locks_Lay_l5] at hm
    refine wp_seq (wp_region_lit ?_)
    refine wv (.bool (decide (z608 < ((a1.Puts).length : Int)))) rfl rfl rfl ?_
    refine wl_nil (then_n (wp_seq ?_))
    refine bsplit (decide (z608 < ((a1.Puts).length : Int))) (fun hc617 => ?_) (fun hc617 => ?_)
    ·skip
     replace hm := bif_t hc617 hm
     refine wp_ift (congrArg Value.bool hc617) ?_
     refine wp_skip (then_n (wp_seq (wp_block (wp_seq (wp_region_lit ?_)))))
     obtain ⟨x618, hx619, hm⟩ := bind_some hm
     obtain ⟨h620, h621, hi622⟩ := geto_some hx619
     refine wv (.pointer (some (eAddr r1_2 (z608.toNat * 1 + 0)))) rfl rfl (x_index rfl rfl Try.underlying31 Try.sizeOf41 (rd_sliceV f1_2) h620 h621) ?_
     refine wv (.float .f64 x618) rfl rfl (x_load rfl Try.isAgg41 (rd_load f1_2 (HL.le.refl _) hst hi622 (by rintro _ rfl; rfl))) ?_
     refine wv (.float .f64 x618) rfl rfl rfl ?_
     refine wl_nil (then_n (wp_region_lit ?_))
     refine wv (p0) rfl rfl rfl ?_
     refine wv (.float .f64 x618) rfl rfl rfl ?_
     obtain ⟨t623, ht624, hm⟩ := bind_some hm
     refine wl_call rfl rfl (x_call Try.call39 rfl (vs := [.float .f64 x618]) rfl) ?_
     refine (number_Rank_ref hst.to0 ht624).mono ?_
     rintro _ w625 ⟨rfl, hst⟩
     refine ⟨_, rfl, ?_⟩
     replace hst := hst.of0
     obtain ⟨t628, ht629, hm⟩ := bind_some hm
     refine wl_call rfl rfl (x_call Try.call27 rfl (vs := [p0, .int .u64 t623, .int .i64 (8:Int)]) rfl) ?_
     refine (octet_Writer_Num_ref hst.to1 ht629).mono ?_
     rintro _ w630 ⟨rfl, hst⟩
     refine ⟨_, rfl, ?_⟩
     replace hst := hst.of1
     refine wl_nil (blk_n (then_n (wp_region_lit ?_)))
     refine wv (.int .i64 (IntKind.i64.wrap (z608 + (1:Int)))) rfl rfl rfl ?_
     refine wv (.int .i64 (IntKind.i64.wrap (z608 + (1:Int)))) rfl rfl rfl ?_
     refine wl_nil (then_n ?_)
     replace hst := hst.pull1
     replace hst := hst.pull1
     replace hst := hst.keep2
     obtain rfl := some_inj hm
     exact ⟨_, Nat.lt_succ_self _, t628, (IntKind.i64.wrap (z608 + (1:Int))), _, hx615, ((fr_upd (t := 0) (v := p0) rfl).trans ((fr_upd (t := 3) (v := .pointer (some ⟨b355, 0, none⟩)) rfl).trans ((fr_upd (t := 69) (v := r1_2) rfl).trans ((fr_upd (t := 70) (v := .int .i64 ((a1.Puts).length : Int)) rfl).trans ((fr_upd (t := 71) (v := .int .i64 (IntKind.i64.wrap (z608 + (1:Int)))) rfl).trans rfl))))), hst⟩
    ·skip
     replace hm := bif_f hc617 hm
     refine wp_iff (congrArg Value.bool hc617) ?_
     refine wp_exit (then_x (then_x ?_))
     replace hm := inr_up hm hx615
     refine blk_x (then_n ?_)
     replace hst := hst.pull1
     replace hst := hst.pull1
     replace hst := hst.keep2
     obtain rfl := some_inj hm
     exact ⟨z607, _, hx637, ((fr_upd (t := 0) (v := p0) rfl).trans ((fr_upd (t := 3) (v := .pointer (some ⟨b355, 0, none⟩)) rfl).trans rfl)), hst⟩
   ·skip
    clear hst
    rintro _ w638 ⟨z633, σ634, hm, rfl, hst⟩
    dsimp only [locks_Lay_j4] at hm
    refine wp_region_lit ?_
    refine wv (p0) rfl rfl rfl ?_
    refine wv (.pointer (some ⟨b355, 6, none⟩)) rfl rfl (x_field rfl Try.underlying34 rfl Try.sizeOf22 rfl) ?_
    refine wv (r1_3) rfl rfl (x_load rfl Try.isAgg22 (hst.bc1 rfl)) ?_
    obtain ⟨t639, ht640, hm⟩ := bind_some hm
    refine wl_call rfl rfl (x_call Try.call38 rfl (vs := [p0, r1_3]) rfl) ?_
    refine (octet_Writer_Bytes_ref (f1_3.mono (rd_weak _)) hst.to1 ht640).mono ?_
    rintro _ w641 ⟨rfl, hst⟩
    refine ⟨_, rfl, ?_⟩
    replace hst := hst.of1
    refine wl_nil ?_
    obtain rfl := some_inj hm
    refine post_end (vs := []) Try.results29 rvs_nil ?_
    exact ⟨rfl, hst.keep1⟩

theorem octet_Writer_Flag_ref {w0 w : World} {I : HL} {R : SP} {a0 : octet_Writer} {p0 : Value} {a1 : Bool}  (hst : St w0 w I [at_octet_Writer p0 a0] R) {r : (octet_Writer)} (hm : octet_Writer_Flag a0 a1 = some r) :
  Calls Try.prog 32 #[p0, .bool a1] w fun e w' => e = .returned (p0) ∧ St w0 w' I [at_octet_Writer p0 r] R := by
 unfold octet_Writer_Flag at hm
 refine calls_start (args := [p0, .bool a1]) Try.func32 rfl Try.ntmps32 (Nat.le_of_ble_eq_true rfl) ?_
 refine wp_seq (wp_region_lit ?_)
 refine wv (.pointer none) rfl rfl rfl ?_
 refine wl_nil (then_n (wp_seq (wp_seq (wp_region_lit ?_))))
 refine wv (.bool a1) rfl rfl rfl ?_
 refine wl_nil (then_n ?_)
 refine bsplit a1 (fun hc139 => ?_) (fun hc139 => ?_)
 ·skip
  replace hm := bif_t hc139 hm
  refine wp_ift (congrArg Value.bool hc139) ?_
  refine wp_seq (wp_region_lit ?_)
  refine wv (p0) rfl rfl rfl ?_
  obtain ⟨t140, ht141, hm⟩ := bind_some hm
  refine wl_call rfl rfl (x_call Try.call27 rfl (vs := [p0, .int .u64 (1:Int), .int .i64 (1:Int)]) rfl) ?_
  refine (octet_Writer_Num_ref hst.to1 ht141).mono ?_
  rintro _ w142 ⟨rfl, hst⟩
  refine ⟨_, rfl, ?_⟩
  replace hst := hst.of1
  refine wv (p0) rfl rfl rfl ?_
  refine wl_nil (then_n (wp_ret (then_r ?_)))
  obtain rfl := some_inj hm
  refine post_ret (vs := [p0]) Try.results32 (rvs_cons (rv_tmp rfl) rvs_nil) ?_
  exact ⟨rfl, hst.keep1⟩
 ·skip
  replace hm := bif_f hc139 hm
  refine wp_iff (congrArg Value.bool hc139) ?_
  refine wp_skip (then_n (wp_seq (wp_region_lit ?_)))
  refine wv (p0) rfl rfl rfl ?_
  obtain ⟨t145, ht146, hm⟩ := bind_some hm
  refine wl_call rfl rfl (x_call Try.call27 rfl (vs := [p0, .int .u64 (0:Int), .int .i64 (1:Int)]) rfl) ?_
  refine (octet_Writer_Num_ref hst.to1 ht146).mono ?_
  rintro _ w147 ⟨rfl, hst⟩
  refine ⟨_, rfl, ?_⟩
  replace hst := hst.of1
  refine wv (p0) rfl rfl rfl ?_
  refine wl_nil (then_n (wp_ret ?_))
  obtain rfl := some_inj hm
  refine post_ret (vs := [p0]) Try.results32 (rvs_cons (rv_tmp rfl) rvs_nil) ?_
  exact ⟨rfl, hst.keep1⟩

theorem command_writes_ref {w0 w : World} {I : HL} {R : SP} {a0 : octet_Writer} {p0 : Value} {a1 : (List api_Write)} {r1_0 : Value} (f1_0 : Rd ty_api_Write R I r1_0 a1) (hst : St w0 w I [at_octet_Writer p0 a0] R) {r : (octet_Writer)} (hm : command_writes a0 a1 = some r) :
  Calls Try.prog 30 #[p0, r1_0] w fun e w' => e = .returned (.tuple #[]) ∧ St w0 w' I [at_octet_Writer p0 r] R := by
 unfold command_writes at hm
 refine calls_start (args := [p0, r1_0]) Try.func30 rfl Try.ntmps30 (Nat.le_of_ble_eq_true rfl) ?_
 refine wp_seq (wp_region_lit ?_)
 refine wv (p0) rfl rfl rfl ?_
 refine wv (r1_0) rfl rfl rfl ?_
 refine wv (.int .i64 ((a1).length : Int)) rfl rfl (x_len rfl Try.underlying35 (rd_sliceV f1_0)) ?_
 refine wv (.int .u64 (IntKind.u64.wrap ((a1).length : Int))) rfl rfl (by kernel_rfl) ?_
 obtain ⟨t240, ht241, hm⟩ := bind_some hm
 refine wl_call rfl rfl (x_call Try.call27 rfl (vs := [p0, .int .u64 (IntKind.u64.wrap ((a1).length : Int)), .int .i64 (4:Int)]) rfl) ?_
 refine (octet_Writer_Num_ref hst.to1 ht241).mono ?_
 rintro _ w242 ⟨rfl, hst⟩
 refine ⟨_, rfl, ?_⟩
 replace hst := hst.of1
 refine wl_nil (then_n (wp_seq (wp_region_lit ?_)))
 refine wv (r1_0) rfl rfl rfl ?_
 refine wv (.int .i64 ((a1).length : Int)) rfl rfl (x_len rfl Try.underlying35 (rd_sliceV f1_0)) ?_
 refine wv (.int .i64 (0:Int)) rfl rfl rfl ?_
 refine wl_nil (then_n (wp_block ?_))
 obtain ⟨n330, hm⟩ := loopO_some hm
 refine wp_loop_n (fun n a w => ∃ (z327 : octet_Writer) (z328 : Int) (σ329 : Nat → Value), loopN (command_writes_l0 a1) n (z327, z328) = some r ∧ a = Fr 29 (upd (upd (upd (upd σ329 0 (p0)) 11 (r1_0)) 12 (.int .i64 ((a1).length : Int))) 13 (.int .i64 z328)) ∧ St w0 w I [at_octet_Writer p0 z327] R) n330 ⟨t240, (0:Int), _, hm, ((fr_upd (t := 0) (v := p0) rfl).trans ((fr_upd (t := 11) (v := r1_0) rfl).trans ((fr_upd (t := 12) (v := .int .i64 ((a1).length : Int)) rfl).trans ((fr_upd (t := 13) (v := .int .i64 (0:Int)) rfl).trans rfl)))), hst⟩ ?_
 rintro n336 _ w331 ⟨z327, z328, σ329, hm, rfl, hst⟩
 obtain ⟨n333, y334, rfl, hm, hx335⟩ := loopN_some hm
 dsimp only [command_writes_l0] at hm
 refine wp_seq (wp_region_lit ?_)
 refine wv (.bool (decide (z328 < ((a1).length : Int)))) rfl rfl rfl ?_
 refine wl_nil (then_n (wp_seq ?_))
 refine bsplit (decide (z328 < ((a1).length : Int))) (fun hc337 => ?_) (fun hc337 => ?_)
 ·skip
  replace hm := bif_t hc337 hm
  refine wp_ift (congrArg Value.bool hc337) ?_
  refine wp_skip (then_n (wp_seq (wp_block (wp_seq (wp_region_lit ?_)))))
  obtain ⟨x338, hx339, hm⟩ := bind_some hm
  obtain ⟨h340, h341, hi342⟩ := geto_some hx339
  refine wv (.pointer (some (eAddr r1_0 (z328.toNat * 3 + 0)))) rfl rfl (x_index rfl rfl Try.underlying35 Try.sizeOf73 (rd_sliceV f1_0) h340 h341) ?_
  obtain ⟨cs343, hr344, hc345⟩ := Rd.getF f1_0 hi342
  obtain ⟨v346, rfl, f347, -⟩ := hr344
  refine wv (.agg #[.float .f64 x338.At, .bool x338.Del, v346]) rfl rfl (x_loadN (cs := [.float .f64 x338.At, .bool x338.Del, v346]) rfl Try.isAgg73 Try.sizeOf73 (eCells (o := 0) (hc345 (HL.le.refl _) hst) rfl)) ?_
  obtain ⟨b350, w351, ew352, eb353, hst⟩ := hst.box [.float .f64 (0:Nat), .bool false, (.slice none 0 0)] 73
  refine wl_run (v := .pointer (some ⟨b350, 0, none⟩)) (w' := w351) rfl rfl (x_al (by kernel_rfl) ew352 eb353) ?_
  obtain ⟨w355, hr356, hst⟩ := hst.boxStore (P := Try.prog) (t := 73) (cs' := [.float .f64 x338.At, .bool x338.Del, v346]) 0 (.agg #[.float .f64 x338.At, .bool x338.Del, v346]) Try.sizeOf73 (Nat.le_of_ble_eq_true rfl) (ones_cons rfl (ones_cons rfl (ones_cons (one_of_sliceV (rd_sliceV f347)) ones_nil))) (by kernel_rfl)
  refine wl_unit rfl rfl (x_unit hr356) ?_
  refine wl_nil (then_n ?_)
  refine wp_region_St hst 11 [0, 1, 2, 3, 4, 5, 6, 7, 8, 9, 10] [0, 0, 2, 6, 15, 0, 32, 127, 0, 256, 1023] [] rfl (by kernel_rfl) (by kernel_rfl) Try.mixed (by kernel_rfl) ?_
  refine wsr (p0) 0 rfl rfl rfl (by kernel_rfl) (fun w hst => rfl) ?_
  refine wsr (.pointer (some ⟨b350, 0, none⟩)) 1 rfl rfl rfl (by kernel_rfl) (fun w hst => x_field rfl Try.underlying73 rfl Try.sizeOf41 rfl) ?_
  refine wsr (.float .f64 x338.At) 2 rfl rfl rfl (by kernel_rfl) (fun w hst => x_load rfl Try.isAgg41 (hst.bc0 rfl)) ?_
  refine wsr (.pointer (some ⟨b350, 1, none⟩)) 5 rfl rfl rfl (by kernel_rfl) (fun w hst => x_field rfl Try.underlying73 rfl Try.sizeOf4 rfl) ?_
  refine wsr (.bool x338.Del) 6 rfl rfl rfl (by kernel_rfl) (fun w hst => x_load rfl Try.isAgg4 (hst.bc0 rfl)) ?_
  refine wsr (.pointer (some ⟨b350, 2, none⟩)) 8 rfl rfl rfl (by kernel_rfl) (fun w hst => x_field rfl Try.underlying73 rfl Try.sizeOf22 rfl) ?_
  refine wsr (v346) 9 rfl rfl rfl (by kernel_rfl) (fun w hst => x_load rfl Try.isAgg22 (hst.bc0 rfl)) ?_
  refine ws_e1 3 (by kernel_rfl) ?_
  refine nxe [4, 7, 10] (by kernel_rfl) rfl rfl ?_
  clear hst
  intro w hst
  obtain ⟨t357, ht358, hm⟩ := bind_some hm
  refine we_call rfl (x_call Try.call39 rfl (vs := [.float .f64 x338.At]) rfl) ?_
  refine (number_Rank_ref hst.to0 ht358).mono ?_
  rintro _ w359 ⟨rfl, hst⟩
  refine ⟨_, rfl, ?_⟩
  replace hst := hst.of0
  refine ws_next (pend' := [(9, v346), (8, .pointer (some ⟨b350, 2, none⟩)), (6, .bool x338.Del), (5, .pointer (some ⟨b350, 1, none⟩)), (0, p0)]) hst (by kernel_rfl) (pkr rfl rfl (fun w hst => x_load rfl Try.isAgg22 (hst.bc0 rfl)) (pkr rfl rfl (fun w hst => x_field rfl Try.underlying73 rfl Try.sizeOf22 rfl) (pkr rfl rfl (fun w hst => x_load rfl Try.isAgg4 (hst.bc0 rfl)) (pkr rfl rfl (fun w hst => x_field rfl Try.underlying73 rfl Try.sizeOf4 rfl) (pkr rfl rfl (fun w hst => rfl) pk_nil))))) ?_
  refine ws_e1 4 (by kernel_rfl) ?_
  refine nxe [7, 10] (by kernel_rfl) rfl rfl ?_
  clear hst
  intro w hst
  replace hst := hst.pull1
  obtain ⟨t362, ht363, hm⟩ := bind_some hm
  refine we_call rfl (x_call Try.call27 rfl (vs := [p0, .int .u64 t357, .int .i64 (8:Int)]) rfl) ?_
  refine (octet_Writer_Num_ref hst.to1 ht363).mono ?_
  rintro _ w364 ⟨rfl, hst⟩
  refine ⟨_, rfl, ?_⟩
  replace hst := hst.of1
  refine ws_next (pend' := [(9, v346), (8, .pointer (some ⟨b350, 2, none⟩)), (6, .bool x338.Del), (5, .pointer (some ⟨b350, 1, none⟩))]) hst (by kernel_rfl) (pkr rfl rfl (fun w hst => x_load rfl Try.isAgg22 (hst.bc1 rfl)) (pkr rfl rfl (fun w hst => x_field rfl Try.underlying73 rfl Try.sizeOf22 rfl) (pkr rfl rfl (fun w hst => x_load rfl Try.isAgg4 (hst.bc1 rfl)) (pkr rfl rfl (fun w hst => x_field rfl Try.underlying73 rfl Try.sizeOf4 rfl) pk_nil)))) ?_
  refine ws_e1 7 (by kernel_rfl) ?_
  refine nxe [10] (by kernel_rfl) rfl rfl ?_
  clear hst
  intro w hst
  obtain ⟨t367, ht368, hm⟩ := bind_some hm
  refine we_call rfl (x_call Try.call32 rfl (vs := [p0, .bool x338.Del]) rfl) ?_
  refine (octet_Writer_Flag_ref hst.to1 ht368).mono ?_
  rintro _ w369 ⟨rfl, hst⟩
  refine ⟨_, rfl, ?_⟩
  replace hst := hst.of1
  refine ws_next (pend' := [(9, v346), (8, .pointer (some ⟨b350, 2, none⟩))]) hst (by kernel_rfl) (pkr rfl rfl (fun w hst => x_load rfl Try.isAgg22 (hst.bc1 rfl)) (pkr rfl rfl (fun w hst => x_field rfl Try.underlying73 rfl Try.sizeOf22 rfl) pk_nil)) ?_
  refine ws_e1 10 (by kernel_rfl) ?_
  refine nxe [] (by kernel_rfl) rfl rfl ?_
  clear hst
  intro w hst
  obtain ⟨t372, ht373, hm⟩ := bind_some hm
  refine we_call rfl (x_call Try.call38 rfl (vs := [p0, v346]) rfl) ?_
  refine (octet_Writer_Bytes_ref (f347.mono (rd_weak _)) hst.to1 ht373).mono ?_
  rintro _ w374 ⟨rfl, hst⟩
  refine ⟨_, rfl, ?_⟩
  replace hst := hst.of1
  refine ws_next (pend' := []) hst (by kernel_rfl) pk_nil ?_
  refine ws_nil ?_
  intro w hst
  refine blk_n (then_n (wp_region_lit ?_))
  refine wv (.int .i64 (IntKind.i64.wrap (z328 + (1:Int)))) rfl rfl rfl ?_
  refine wv (.int .i64 (IntKind.i64.wrap (z328 + (1:Int)))) rfl rfl rfl ?_
  refine wl_nil (then_n ?_)
  replace hst := hst.keep1
  obtain rfl := some_inj hm
  exact ⟨_, Nat.lt_succ_self _, t372, (IntKind.i64.wrap (z328 + (1:Int))), _, hx335, ((fr_upd (t := 0) (v := p0) rfl).trans ((fr_upd (t := 11) (v := r1_0) rfl).trans ((fr_upd (t := 12) (v := .int .i64 ((a1).length : Int)) rfl).trans ((fr_upd (t := 13) (v := .int .i64 (IntKind.i64.wrap (z328 + (1:Int)))) rfl).trans rfl)))), hst⟩
 ·skip
  replace hm := bif_f hc337 hm
  refine wp_iff (congrArg Value.bool hc337) ?_
  refine wp_exit (then_x (then_x ?_))
  replace hm := inr_up hm hx335
  refine blk_x ?_
  obtain rfl := some_inj hm
  refine post_end (vs := []) Try.results30 rvs_nil ?_
  exact ⟨rfl, hst.keep1⟩

theorem command_LayReply_ref {w0 w : World} {I : HL} {R : SP} {a0 : octet_Writer} {p0 : Value} {a1 : api_Reply} {r1_0 : Value} {r1_1 : Value} (f1_0 : Rd ty_api_Got R I r1_0 a1.Gots) (f1_1 : Rd (tySl ty_api_Pair) R I r1_1 a1.Scans) (hst : St w0 w I [at_octet_Writer p0 a0] R) {r : (octet_Writer)} (hm : command_LayReply a0 a1 = some r) :
  Calls Try.prog 13 #[p0, .agg #[.int .i64 a1.E, .int .u64 a1.Epoch, .int .u64 a1.Index, r1_0, r1_1]] w fun e w' => e = .returned (.tuple #[]) ∧ St w0 w' I [at_octet_Writer p0 r] R := by
 unfold command_LayReply at hm
 refine calls_start (args := [p0, .agg #[.int .i64 a1.E, .int .u64 a1.Epoch, .int .u64 a1.Index, r1_0, r1_1]]) Try.func13 rfl Try.ntmps13 (Nat.le_of_ble_eq_true rfl) ?_
 refine wp_seq (wp_region_lit ?_)
 obtain ⟨b808, w809, ew810, eb811, hst⟩ := hst.box [.int .i64 a1.E, .int .u64 a1.Epoch, .int .u64 a1.Index, r1_0, r1_1] 39
 refine wl_run (v := .pointer (some ⟨b808, 0, none⟩)) (w' := w809) rfl rfl (x_al (by kernel_rfl) ew810 eb811) ?_
 refine wl_nil (then_n (wp_seq ?_))
 refine wp_region_St hst 16 [0, 1, 2, 3, 4, 5, 6, 7, 8, 9, 10, 11, 12, 13, 14, 15] [0, 0, 2, 6, 15, 0, 32, 127, 0, 256, 1023, 0, 2048, 6144, 14336, 32767] [] rfl (by kernel_rfl) (by kernel_rfl) Try.mixed (by kernel_rfl) ?_
 refine wsr (p0) 0 rfl rfl rfl (by kernel_rfl) (fun w hst => rfl) ?_
 refine wsr (.pointer (some ⟨b808, 0, none⟩)) 1 rfl rfl rfl (by kernel_rfl) (fun w hst => x_field rfl Try.underlying39 rfl Try.sizeOf30 rfl) ?_
 refine wsr (.int .i64 a1.E) 2 rfl rfl rfl (by kernel_rfl) (fun w hst => x_load rfl Try.isAgg30 (hst.bc0 rfl)) ?_
 refine wsr (.int .u64 (IntKind.u64.wrap a1.E)) 3 rfl rfl rfl (by kernel_rfl) (fun w hst => by kernel_rfl) ?_
 refine wsr (.pointer (some ⟨b808, 1, none⟩)) 5 rfl rfl rfl (by kernel_rfl) (fun w hst => x_field rfl Try.underlying39 rfl Try.sizeOf27 rfl) ?_
 refine wsr (.int .u64 a1.Epoch) 6 rfl rfl rfl (by kernel_rfl) (fun w hst => x_load rfl Try.isAgg27 (hst.bc0 rfl)) ?_
 refine wsr (.pointer (some ⟨b808, 2, none⟩)) 8 rfl rfl rfl (by kernel_rfl) (fun w hst => x_field rfl Try.underlying39 rfl Try.sizeOf27 rfl) ?_
 refine wsr (.int .u64 a1.Index) 9 rfl rfl rfl (by kernel_rfl) (fun w hst => x_load rfl Try.isAgg27 (hst.bc0 rfl)) ?_
 refine wsr (.pointer (some ⟨b808, 3, none⟩)) 11 rfl rfl rfl (by kernel_rfl) (fun w hst => x_field rfl Try.underlying39 rfl Try.sizeOf36 rfl) ?_
 refine wsr (r1_0) 12 rfl rfl rfl (by kernel_rfl) (fun w hst => x_load rfl Try.isAgg36 (hst.bc0 rfl)) ?_
 refine wsr (.int .i64 ((a1.Gots).length : Int)) 13 rfl rfl rfl (by kernel_rfl) (fun w hst => x_len rfl Try.underlying36 (rd_sliceV f1_0)) ?_
 refine wsr (.int .u64 (IntKind.u64.wrap ((a1.Gots).length : Int))) 14 rfl rfl rfl (by kernel_rfl) (fun w hst => by kernel_rfl) ?_
 refine ws_e1 4 (by kernel_rfl) ?_
 refine nxe [7, 10, 15] (by kernel_rfl) rfl rfl ?_
 clear hst
 intro w hst
 replace hst := hst.pull1
 obtain ⟨t813, ht814, hm⟩ := bind_some hm
 refine we_call rfl (x_call Try.call27 rfl (vs := [p0, .int .u64 (IntKind.u64.wrap a1.E), .int .i64 (1:Int)]) rfl) ?_
 refine (octet_Writer_Num_ref hst.to1 ht814).mono ?_
 rintro _ w815 ⟨rfl, hst⟩
 refine ⟨_, rfl, ?_⟩
 replace hst := hst.of1
 refine ws_next (pend' := [(14, .int .u64 (IntKind.u64.wrap ((a1.Gots).length : Int))), (13, .int .i64 ((a1.Gots).length : Int)), (12, r1_0), (11, .pointer (some ⟨b808, 3, none⟩)), (9, .int .u64 a1.Index), (8, .pointer (some ⟨b808, 2, none⟩)), (6, .int .u64 a1.Epoch), (5, .pointer (some ⟨b808, 1, none⟩))]) hst (by kernel_rfl) (pkr rfl rfl (fun w hst => by kernel_rfl) (pkr rfl rfl (fun w hst => x_len rfl Try.underlying36 (rd_sliceV f1_0)) (pkr rfl rfl (fun w hst => x_load rfl Try.isAgg36 (hst.bc1 rfl)) (pkr rfl rfl (fun w hst => x_field rfl Try.underlying39 rfl Try.sizeOf36 rfl) (pkr rfl rfl (fun w hst => x_load rfl Try.isAgg27 (hst.bc1 rfl)) (pkr rfl rfl (fun w hst => x_field rfl Try.underlying39 rfl Try.sizeOf27 rfl) (pkr rfl rfl (fun w hst => x_load rfl Try.isAgg27 (hst.bc1 rfl)) (pkr rfl rfl (fun w hst => x_field rfl Try.underlying39 rfl Try.sizeOf27 rfl) pk_nil)))))))) ?_
 refine ws_e1 7 (by kernel_rfl) ?_
 refine nxe [10, 15] (by kernel_rfl) rfl rfl ?_
 clear hst
 intro w hst
 obtain ⟨t818, ht819, hm⟩ := bind_some hm
 refine we_call rfl (x_call Try.call27 rfl (vs := [p0, .int .u64 a1.Epoch, .int .i64 (8:Int)]) rfl) ?_
 refine (octet_Writer_Num_ref hst.to1 ht819).mono ?_
 rintro _ w820 ⟨rfl, hst⟩
 refine ⟨_, rfl, ?_⟩
 replace hst := hst.of1
 refine ws_next (pend' := [(14, .int .u64 (IntKind.u64.wrap ((a1.Gots).length : Int))), (13, .int .i64 ((a1.Gots).length : Int)), (12, r1_0), (11, .pointer (some ⟨b808, 3, none⟩)), (9, .int .u64 a1.Index), (8, .pointer (some ⟨b808, 2, none⟩))]) hst (by kernel_rfl) (pkr rfl rfl (fun w hst => by kernel_rfl) (pkr rfl rfl (fun w hst => x_len rfl Try.underlying36 (rd_sliceV f1_0)) (pkr rfl rfl (fun w hst => x_load rfl Try.isAgg36 (hst.bc1 rfl)) (pkr rfl rfl (fun w hst => x_field rfl Try.underlying39 rfl Try.sizeOf36 rfl) (pkr rfl rfl (fun w hst => x_load rfl Try.isAgg27 (hst.bc1 rfl)) (pkr rfl rfl (fun w hst => x_field rfl Try.underlying39 rfl Try.sizeOf27 rfl) pk_nil)))))) ?_
 refine ws_e1 10 (by kernel_rfl) ?_
 refine nxe [15] (by kernel_rfl) rfl rfl ?_
 clear hst
 intro w hst
 obtain ⟨t823, ht824, hm⟩ := bind_some hm
 refine we_call rfl (x_call Try.call27 rfl (vs := [p0, .int .u64 a1.Index, .int .i64 (8:Int)]) rfl) ?_
 refine (octet_Writer_Num_ref hst.to1 ht824).mono ?_
 rintro _ w825 ⟨rfl, hst⟩
 refine ⟨_, rfl, ?_⟩
 replace hst := hst.of1
 refine ws_next (pend' := [(14, .int .u64 (IntKind.u64.wrap ((a1.Gots).length : Int))), (13, .int .i64 ((a1.Gots).length : Int)), (12, r1_0), (11, .pointer (some ⟨b808, 3, none⟩))]) hst (by kernel_rfl) (pkr rfl rfl (fun w hst => by kernel_rfl) (pkr rfl rfl (fun w hst => x_len rfl Try.underlying36 (rd_sliceV f1_0)) (pkr rfl rfl (fun w hst => x_load rfl Try.isAgg36 (hst.bc1 rfl)) (pkr rfl rfl (fun w hst => x_field rfl Try.underlying39 rfl Try.sizeOf36 rfl) pk_nil)))) ?_
 refine ws_e1 15 (by kernel_rfl) ?_
 refine nxe [] (by kernel_rfl) rfl rfl ?_
 clear hst
 intro w hst
 obtain ⟨t828, ht829, hm⟩ := bind_some hm
 refine we_call rfl (x_call Try.call27 rfl (vs := [p0, .int .u64 (IntKind.u64.wrap ((a1.Gots).length : Int)), .int .i64 (4:Int)]) rfl) ?_
 refine (octet_Writer_Num_ref hst.to1 ht829).mono ?_
 rintro _ w830 ⟨rfl, hst⟩
 refine ⟨_, rfl, ?_⟩
 replace hst := hst.of1
 refine ws_next (pend' := []) hst (by kernel_rfl) pk_nil ?_
 refine ws_nil ?_
 intro w hst
 refine then_n ?_
 obtain ⟨y938, hm, hx939⟩ := bind_some hm
 refine wp_cut (fun a w => ∃ (z935 : octet_Writer) (σ936 : Nat → Value), (command_LayReply_j0 a1) z935 = some r ∧ a = Fr 75 (upd (upd σ936 0 (p0)) 3 (.pointer (some ⟨b808, 0, none⟩))) ∧ St w0 w I [at_octet_Writer p0 z935, cells b808 [.int .i64 a1.E, .int .u64 a1.Epoch, .int .u64 a1.Index, r1_0, r1_1]] R) ?_ ?_
 ·skip
  refine wp_seq (wp_region_lit ?_)
  refine wv (.pointer (some ⟨b808, 3, none⟩)) rfl rfl (x_field rfl Try.underlying39 rfl Try.sizeOf36 rfl) ?_
  refine wv (r1_0) rfl rfl (x_load rfl Try.isAgg36 (hst.bc1 rfl)) ?_
  refine wv (.int .i64 ((a1.Gots).length : Int)) rfl rfl (x_len rfl Try.underlying36 (rd_sliceV f1_0)) ?_
  refine wv (.int .i64 (0:Int)) rfl rfl rfl ?_
  refine wl_nil (then_n (wp_block ?_))
  obtain ⟨n898, hm⟩ := loopO_some hm
  refine wp_loop_n (fun n a w => ∃ (z895 : octet_Writer) (z896 : Int) (σ897 : Nat → Value), loopN (command_LayReply_l1 a1) n (z895, z896) = some y938 ∧ a = Fr 75 (upd (upd (upd (upd (upd σ897 0 (p0)) 3 (.pointer (some ⟨b808, 0, none⟩))) 27 (r1_0)) 28 (.int .i64 ((a1.Gots).length : Int))) 29 (.int .i64 z896)) ∧ St w0 w I [at_octet_Writer p0 z895, cells b808 [.int .i64 a1.E, .int .u64 a1.Epoch, .int .u64 a1.Index, r1_0, r1_1]] R) n898 ⟨t828, (0:Int), _, hm, ((fr_upd (t := 0) (v := p0) rfl).trans ((fr_upd (t := 3) (v := .pointer (some ⟨b808, 0, none⟩)) rfl).trans ((fr_upd (t := 27) (v := r1_0) rfl).trans ((fr_upd (t := 28) (v := .int .i64 ((a1.Gots).length : Int)) rfl).trans ((fr_upd (t := 29) (v := .int .i64 (0:Int)) rfl).trans rfl))))), hst⟩ ?_
  rintro n904 _ w899 ⟨z895, z896, σ897, hm, rfl, hst⟩
  obtain ⟨n901, y902, rfl, hm, hx903⟩ := loopN_some hm
  dsimp only [command_LayReply_l1] at hm
  refine wp_seq (wp_region_lit ?_)
  refine wv (.bool (decide (z896 < ((a1.Gots).length : Int)))) rfl rfl rfl ?_
  refine wl_nil (then_n (wp_seq ?_))
  refine bsplit (decide (z896 < ((a1.Gots).length : Int))) (fun hc905 => ?_) (fun hc905 => ?_)
  ·skip
   replace hm := bif_t hc905 hm
   refine wp_ift (congrArg Value.bool hc905) ?_
   refine wp_skip (then_n (wp_seq (wp_block (wp_seq (wp_region_lit ?_)))))
   obtain ⟨x906, hx907, hm⟩ := bind_some hm
   obtain ⟨h908, h909, hi910⟩ := geto_some hx907
   refine wv (.pointer (some (eAddr r1_0 (z896.toNat * 2 + 0)))) rfl rfl (x_index rfl rfl Try.underlying36 Try.sizeOf51 (rd_sliceV f1_0) h908 h909) ?_
   obtain ⟨cs911, hr912, hc913⟩ := Rd.getF f1_0 hi910
   obtain ⟨v914, rfl, f915, -⟩ := hr912
   refine wv (.agg #[.bool x906.Has, v914]) rfl rfl (x_loadN (cs := [.bool x906.Has, v914]) rfl Try.isAgg51 Try.sizeOf51 (eCells (o := 0) (hc913 (HL.le.refl _) hst) rfl)) ?_
   obtain ⟨b918, w919, ew920, eb921, hst⟩ := hst.box [.bool false, (.slice none 0 0)] 51
   refine wl_run (v := .pointer (some ⟨b918, 0, none⟩)) (w' := w919) rfl rfl (x_al (by kernel_rfl) ew920 eb921) ?_
   obtain ⟨w923, hr924, hst⟩ := hst.boxStore (P := Try.prog) (t := 51) (cs' := [.bool x906.Has, v914]) 0 (.agg #[.bool x906.Has, v914]) Try.sizeOf51 (Nat.le_of_ble_eq_true rfl) (ones_cons rfl (ones_cons (one_of_sliceV (rd_sliceV f915)) ones_nil)) (by kernel_rfl)
   refine wl_unit rfl rfl (x_unit hr924) ?_
   refine wl_nil (then_n ?_)
   refine wp_region_St hst 7 [0, 1, 2, 3, 4, 5, 6] [0, 0, 2, 7, 0, 16, 63] [] rfl (by kernel_rfl) (by kernel_rfl) Try.mixed (by kernel_rfl) ?_
   refine wsr (p0) 0 rfl rfl rfl (by kernel_rfl) (fun w hst => rfl) ?_
   refine wsr (.pointer (some ⟨b918, 0, none⟩)) 1 rfl rfl rfl (by kernel_rfl) (fun w hst => x_field rfl Try.underlying51 rfl Try.sizeOf4 rfl) ?_
   refine wsr (.bool x906.Has) 2 rfl rfl rfl (by kernel_rfl) (fun w hst => x_load rfl Try.isAgg4 (hst.bc0 rfl)) ?_
   refine wsr (.pointer (some ⟨b918, 1, none⟩)) 4 rfl rfl rfl (by kernel_rfl) (fun w hst => x_field rfl Try.underlying51 rfl Try.sizeOf22 rfl) ?_
   refine wsr (v914) 5 rfl rfl rfl (by kernel_rfl) (fun w hst => x_load rfl Try.isAgg22 (hst.bc0 rfl)) ?_
   refine ws_e1 3 (by kernel_rfl) ?_
   refine nxe [6] (by kernel_rfl) rfl rfl ?_
   clear hst
   intro w hst
   replace hst := hst.pull1
   obtain ⟨t925, ht926, hm⟩ := bind_some hm
   refine we_call rfl (x_call Try.call32 rfl (vs := [p0, .bool x906.Has]) rfl) ?_
   refine (octet_Writer_Flag_ref hst.to1 ht926).mono ?_
   rintro _ w927 ⟨rfl, hst⟩
   refine ⟨_, rfl, ?_⟩
   replace hst := hst.of1
   refine ws_next (pend' := [(5, v914), (4, .pointer (some ⟨b918, 1, none⟩))]) hst (by kernel_rfl) (pkr rfl rfl (fun w hst => x_load rfl Try.isAgg22 (hst.bc1 rfl)) (pkr rfl rfl (fun w hst => x_field rfl Try.underlying51 rfl Try.sizeOf22 rfl) pk_nil)) ?_
   refine ws_e1 6 (by kernel_rfl) ?_
   refine nxe [] (by kernel_rfl) rfl rfl ?_
   clear hst
   intro w hst
   obtain ⟨t930, ht931, hm⟩ := bind_some hm
   refine we_call rfl (x_call Try.call38 rfl (vs := [p0, v914]) rfl) ?_
   refine (octet_Writer_Bytes_ref (f915.mono (rd_weak _)) hst.to1 ht931).mono ?_
   rintro _ w932 ⟨rfl, hst⟩
   refine ⟨_, rfl, ?_⟩
   replace hst := hst.of1
   refine ws_next (pend' := []) hst (by kernel_rfl) pk_nil ?_
   refine ws_nil ?_
   intro w hst
   refine blk_n (then_n (wp_region_lit ?_))
   refine wv (.int .i64 (IntKind.i64.wrap (z896 + (1:Int)))) rfl rfl rfl ?_
   refine wv (.int .i64 (IntKind.i64.wrap (z896 + (1:Int)))) rfl rfl rfl ?_
   refine wl_nil (then_n ?_)
   replace hst := hst.pull2
   replace hst := hst.pull1
   replace hst := hst.keep2
   obtain rfl := some_inj hm
   exact ⟨_, Nat.lt_succ_self _, t930, (IntKind.i64.wrap (z896 + (1:Int))), _, hx903, ((fr_upd (t := 0) (v := p0) rfl).trans ((fr_upd (t := 3) (v := .pointer (some ⟨b808, 0, none⟩)) rfl).trans ((fr_upd (t := 27) (v := r1_0) rfl).trans ((fr_upd (t := 28) (v := .int .i64 ((a1.Gots).length : Int)) rfl).trans ((fr_upd (t := 29) (v := .int .i64 (IntKind.i64.wrap (z896 + (1:Int)))) rfl).trans rfl))))), hst⟩
  ·skip
   replace hm := bif_f hc905 hm
   refine wp_iff (congrArg Value.bool hc905) ?_
   refine wp_exit (then_x (then_x ?_))
   replace hm := inr_up hm hx903
   refine blk_x (then_n ?_)
   replace hst := hst.pull1
   replace hst := hst.pull1
   replace hst := hst.keep2
   obtain rfl := some_inj hm
   exact ⟨z895, _, hx939, ((fr_upd (t := 0) (v := p0) rfl).trans ((fr_upd (t := 3) (v := .pointer (some ⟨b808, 0, none⟩)) rfl).trans rfl)), hst⟩
 ·skip
  clear hst
  rintro _ w940 ⟨z935, σ936, hm, rfl, hst⟩
  dsimp only [command_LayReply_j0] at hm
  refine wp_seq (wp_region_lit ?_)
  refine wv (p0) rfl rfl rfl ?_
  refine wv (.pointer (some ⟨b808, 4, none⟩)) rfl rfl (x_field rfl Try.underlying39 rfl Try.sizeOf37 rfl) ?_
  refine wv (r1_1) rfl rfl (x_load rfl Try.isAgg37 (hst.bc1 rfl)) ?_
  refine wv (.int .i64 ((a1.Scans).length : Int)) rfl rfl (x_len rfl Try.underlying37 (rd_sliceV f1_1)) ?_
  refine wv (.int .u64 (IntKind.u64.wrap ((a1.Scans).length : Int))) rfl rfl (by kernel_rfl) ?_
  obtain ⟨t941, ht942, hm⟩ := bind_some hm
  refine wl_call rfl rfl (x_call Try.call27 rfl (vs := [p0, .int .u64 (IntKind.u64.wrap ((a1.Scans).length : Int)), .int .i64 (4:Int)]) rfl) ?_
  refine (octet_Writer_Num_ref hst.to1 ht942).mono ?_
  rintro _ w943 ⟨rfl, hst⟩
  refine ⟨_, rfl, ?_⟩
  replace hst := hst.of1
  refine wl_nil (then_n (wp_seq (wp_region_lit ?_)))
  refine wv (.pointer (some ⟨b808, 4, none⟩)) rfl rfl (x_field rfl Try.underlying39 rfl Try.sizeOf37 rfl) ?_
  refine wv (r1_1) rfl rfl (x_load rfl Try.isAgg37 (hst.bc1 rfl)) ?_
  refine wv (.int .i64 ((a1.Scans).length : Int)) rfl rfl (x_len rfl Try.underlying37 (rd_sliceV f1_1)) ?_
  refine wv (.int .i64 (0:Int)) rfl rfl rfl ?_
  refine wl_nil (then_n (wp_block ?_))
  replace hst := hst.pull1
  replace hst := hst.sub
  obtain ⟨n1219, hm⟩ := loopO_some hm
  refine wp_loop_n (fun n a w => ∃ (z1216 : octet_Writer) (z1217 : Int) (σ1218 : Nat → Value), loopN (command_LayReply_l2 a1) n (z1216, z1217) = some r ∧ a = Fr 75 (upd (upd (upd (upd σ1218 0 (p0)) 48 (r1_1)) 49 (.int .i64 ((a1.Scans).length : Int))) 50 (.int .i64 z1217)) ∧ St w0 w I [at_octet_Writer p0 z1216] R) n1219 ⟨t941, (0:Int), _, hm, ((fr_upd (t := 0) (v := p0) rfl).trans ((fr_upd (t := 48) (v := r1_1) rfl).trans ((fr_upd (t := 49) (v := .int .i64 ((a1.Scans).length : Int)) rfl).trans ((fr_upd (t := 50) (v := .int .i64 (0:Int)) rfl).trans rfl)))), hst⟩ ?_
  rintro n1225 _ w1220 ⟨z1216, z1217, σ1218, hm, rfl, hst⟩
  obtain ⟨n1222, y1223, rfl, hm, hx1224⟩ := loopN_some hm
  dsimp only [command_LayReply_l2] at hm
  refine wp_seq (wp_region_lit ?_)
  refine wv (.bool (decide (z1217 < ((a1.Scans).length : Int)))) rfl rfl rfl ?_
  refine wl_nil (then_n (wp_seq ?_))
  refine bsplit (decide (z1217 < ((a1.Scans).length : Int))) (fun hc1226 => ?_) (fun hc1226 => ?_)
  ·skip
   replace hm := bif_t hc1226 hm
   refine wp_ift (congrArg Value.bool hc1226) ?_
   refine wp_skip (then_n (wp_seq (wp_block (wp_seq (wp_region_lit ?_)))))
   obtain ⟨x1227, hx1228, hm⟩ := bind_some hm
   obtain ⟨h1229, h1230, hi1231⟩ := geto_some hx1228
   refine wv (.pointer (some (eAddr r1_1 (z1217.toNat * 1 + 0)))) rfl rfl (x_index rfl rfl Try.underlying37 Try.sizeOf52 (rd_sliceV f1_1) h1229 h1230) ?_
   obtain ⟨cs1232, hr1233, hc1234⟩ := Rd.getF f1_1 hi1231
   obtain ⟨v1235, rfl, f1236, -⟩ := hr1233
   refine wv (v1235) rfl rfl (x_load rfl Try.isAgg52 ((hc1234 (HL.le.refl _) hst) 0 _ rfl)) ?_
   refine wv (v1235) rfl rfl rfl ?_
   refine wl_nil (then_n (wp_seq (wp_region_lit ?_)))
   refine wv (p0) rfl rfl rfl ?_
   refine wv (v1235) rfl rfl rfl ?_
   refine wv (.int .i64 ((x1227).length : Int)) rfl rfl (x_len rfl Try.underlying52 (rd_sliceV f1236)) ?_
   refine wv (.int .u64 (IntKind.u64.wrap ((x1227).length : Int))) rfl rfl (by kernel_rfl) ?_
   obtain ⟨t1238, ht1239, hm⟩ := bind_some hm
   refine wl_call rfl rfl (x_call Try.call27 rfl (vs := [p0, .int .u64 (IntKind.u64.wrap ((x1227).length : Int)), .int .i64 (4:Int)]) rfl) ?_
   refine (octet_Writer_Num_ref hst.to1 ht1239).mono ?_
   rintro _ w1240 ⟨rfl, hst⟩
   refine ⟨_, rfl, ?_⟩
   replace hst := hst.of1
   refine wl_nil (then_n (wp_seq (wp_region_lit ?_)))
   refine wv (v1235) rfl rfl rfl ?_
   refine wv (.int .i64 ((x1227).length : Int)) rfl rfl (x_len rfl Try.underlying52 (rd_sliceV f1236)) ?_
   refine wv (.int .i64 (0:Int)) rfl rfl rfl ?_
   refine wl_nil (then_n (wp_block ?_))
   obtain ⟨n1318, hm⟩ := loopO_some hm
   refine wp_loop_n (fun n a w => ∃ (z1315 : octet_Writer) (z1316 : Int) (σ1317 : Nat → Value), loopN (command_LayReply_l3 x1227 z1217) n (z1315, z1316) = some y1223 ∧ a = Fr 75 (upd (upd (upd (upd (upd (upd (upd σ1317 0 (p0)) 48 (r1_1)) 49 (.int .i64 ((a1.Scans).length : Int))) 50 (.int .i64 z1217)) 59 (v1235)) 60 (.int .i64 ((x1227).length : Int))) 61 (.int .i64 z1316)) ∧ St w0 w I [at_octet_Writer p0 z1315] R) n1318 ⟨t1238, (0:Int), _, hm, ((fr_upd (t := 0) (v := p0) rfl).trans ((fr_upd (t := 48) (v := r1_1) rfl).trans ((fr_upd (t := 49) (v := .int .i64 ((a1.Scans).length : Int)) rfl).trans ((fr_upd (t := 50) (v := .int .i64 z1217) rfl).trans ((fr_upd (t := 59) (v := v1235) rfl).trans ((fr_upd (t := 60) (v := .int .i64 ((x1227).length : Int)) rfl).trans ((fr_upd (t := 61) (v := .int .i64 (0:Int)) rfl).trans rfl))))))), hst⟩ ?_
   rintro n1324 _ w1319 ⟨z1315, z1316, σ1317, hm, rfl, hst⟩
   obtain ⟨n1321, y1322, rfl, hm, hx1323⟩ := loopN_some hm
   dsimp only [command_LayReply_l3] at hm
   refine wp_seq (wp_region_lit ?_)
   refine wv (.bool (decide (z1316 < ((x1227).length : Int)))) rfl rfl rfl ?_
   refine wl_nil (then_n (wp_seq ?_))
   refine bsplit (decide (z1316 < ((x1227).length : Int))) (fun hc1325 => ?_) (fun hc1325 => ?_)
   ·skip
    replace hm := bif_t hc1325 hm
    refine wp_ift (congrArg Value.bool hc1325) ?_
    refine wp_skip (then_n (wp_seq (wp_block (wp_seq (wp_region_lit ?_)))))
    obtain ⟨x1326, hx1327, hm⟩ := bind_some hm
    obtain ⟨h1328, h1329, hi1330⟩ := geto_some hx1327
    refine wv (.pointer (some (eAddr v1235 (z1316.toNat * 2 + 0)))) rfl rfl (x_index rfl rfl Try.underlying52 Try.sizeOf54 (rd_sliceV f1236) h1328 h1329) ?_
    obtain ⟨cs1331, hr1332, hc1333⟩ := Rd.getF f1236 hi1330
    obtain ⟨v1334, rfl, f1335, -⟩ := hr1332
    refine wv (.agg #[.float .f64 x1326.At, v1334]) rfl rfl (x_loadN (cs := [.float .f64 x1326.At, v1334]) rfl Try.isAgg54 Try.sizeOf54 (eCells (o := 0) (hc1333 (HL.le.refl _) hst) rfl)) ?_
    obtain ⟨b1338, w1339, ew1340, eb1341, hst⟩ := hst.box [.float .f64 (0:Nat), (.slice none 0 0)] 54
    refine wl_run (v := .pointer (some ⟨b1338, 0, none⟩)) (w' := w1339) rfl rfl (x_al (by kernel_rfl) ew1340 eb1341) ?_
    obtain ⟨w1343, hr1344, hst⟩ := hst.boxStore (P := Try.prog) (t := 54) (cs' := [.float .f64 x1326.At, v1334]) 0 (.agg #[.float .f64 x1326.At, v1334]) Try.sizeOf54 (Nat.le_of_ble_eq_true rfl) (ones_cons rfl (ones_cons (one_of_sliceV (rd_sliceV f1335)) ones_nil)) (by kernel_rfl)
    refine wl_unit rfl rfl (x_unit hr1344) ?_
    refine wl_nil (then_n ?_)
    refine wp_region_St hst 8 [0, 1, 2, 3, 4, 5, 6, 7] [0, 0, 2, 6, 15, 0, 32, 127] [] rfl (by kernel_rfl) (by kernel_rfl) Try.mixed (by kernel_rfl) ?_
    refine wsr (p0) 0 rfl rfl rfl (by kernel_rfl) (fun w hst => rfl) ?_
    refine wsr (.pointer (some ⟨b1338, 0, none⟩)) 1 rfl rfl rfl (by kernel_rfl) (fun w hst => x_field rfl Try.underlying54 rfl Try.sizeOf41 rfl) ?_
    refine wsr (.float .f64 x1326.At) 2 rfl rfl rfl (by kernel_rfl) (fun w hst => x_load rfl Try.isAgg41 (hst.bc0 rfl)) ?_
    refine wsr (.pointer (some ⟨b1338, 1, none⟩)) 5 rfl rfl rfl (by kernel_rfl) (fun w hst => x_field rfl Try.underlying54 rfl Try.sizeOf22 rfl) ?_
    refine wsr (v1334) 6 rfl rfl rfl (by kernel_rfl) (fun w hst => x_load rfl Try.isAgg22 (hst.bc0 rfl)) ?_
    refine ws_e1 3 (by kernel_rfl) ?_
    refine nxe [4, 7] (by kernel_rfl) rfl rfl ?_
    clear hst
    intro w hst
    obtain ⟨t1345, ht1346, hm⟩ := bind_some hm
    refine we_call rfl (x_call Try.call39 rfl (vs := [.float .f64 x1326.At]) rfl) ?_
    refine (number_Rank_ref hst.to0 ht1346).mono ?_
    rintro _ w1347 ⟨rfl, hst⟩
    refine ⟨_, rfl, ?_⟩
    replace hst := hst.of0
    refine ws_next (pend' := [(6, v1334), (5, .pointer (some ⟨b1338, 1, none⟩)), (0, p0)]) hst (by kernel_rfl) (pkr rfl rfl (fun w hst => x_load rfl Try.isAgg22 (hst.bc0 rfl)) (pkr rfl rfl (fun w hst => x_field rfl Try.underlying54 rfl Try.sizeOf22 rfl) (pkr rfl rfl (fun w hst => rfl) pk_nil))) ?_
    refine ws_e1 4 (by kernel_rfl) ?_
    refine nxe [7] (by kernel_rfl) rfl rfl ?_
    clear hst
    intro w hst
    replace hst := hst.pull1
    obtain ⟨t1350, ht1351, hm⟩ := bind_some hm
    refine we_call rfl (x_call Try.call27 rfl (vs := [p0, .int .u64 t1345, .int .i64 (8:Int)]) rfl) ?_
    refine (octet_Writer_Num_ref hst.to1 ht1351).mono ?_
    rintro _ w1352 ⟨rfl, hst⟩
    refine ⟨_, rfl, ?_⟩
    replace hst := hst.of1
    refine ws_next (pend' := [(6, v1334), (5, .pointer (some ⟨b1338, 1, none⟩))]) hst (by kernel_rfl) (pkr rfl rfl (fun w hst => x_load rfl Try.isAgg22 (hst.bc1 rfl)) (pkr rfl rfl (fun w hst => x_field rfl Try.underlying54 rfl Try.sizeOf22 rfl) pk_nil)) ?_
    refine ws_e1 7 (by kernel_rfl) ?_
    refine nxe [] (by kernel_rfl) rfl rfl ?_
    clear hst
    intro w hst
    obtain ⟨t1355, ht1356, hm⟩ := bind_some hm
    refine we_call rfl (x_call Try.call38 rfl (vs := [p0, v1334]) rfl) ?_
    refine (octet_Writer_Bytes_ref (f1335.mono (rd_weak _)) hst.to1 ht1356).mono ?_
    rintro _ w1357 ⟨rfl, hst⟩
    refine ⟨_, rfl, ?_⟩
    replace hst := hst.of1
    refine ws_next (pend' := []) hst (by kernel_rfl) pk_nil ?_
    refine ws_nil ?_
    intro w hst
    refine blk_n (then_n (wp_region_lit ?_))
    refine wv (.int .i64 (IntKind.i64.wrap (z1316 + (1:Int)))) rfl rfl rfl ?_
    refine wv (.int .i64 (IntKind.i64.wrap (z1316 + (1:Int)))) rfl rfl rfl ?_
    refine wl_nil (then_n ?_)
    replace hst := hst.keep1
    obtain rfl := some_inj hm
    exact ⟨_, Nat.lt_succ_self _, t1355, (IntKind.i64.wrap (z1316 + (1:Int))), _, hx1323, ((fr_upd (t := 0) (v := p0) rfl).trans ((fr_upd (t := 48) (v := r1_1) rfl).trans ((fr_upd (t := 49) (v := .int .i64 ((a1.Scans).length : Int)) rfl).trans ((fr_upd (t := 50) (v := .int .i64 z1217) rfl).trans ((fr_upd (t := 59) (v := v1235) rfl).trans ((fr_upd (t := 60) (v := .int .i64 ((x1227).length : Int)) rfl).trans ((fr_upd (t := 61) (v := .int .i64 (IntKind.i64.wrap (z1316 + (1:Int)))) rfl).trans rfl))))))), hst⟩
   ·skip
    replace hm := bif_f hc1325 hm
    refine wp_iff (congrArg Value.bool hc1325) ?_
    refine wp_exit (then_x (then_x ?_))
    replace hm := inr_up hm hx1323
    refine blk_x (blk_n (then_n (wp_region_lit ?_)))
    refine wv (.int .i64 (IntKind.i64.wrap (z1217 + (1:Int)))) rfl rfl rfl ?_
    refine wv (.int .i64 (IntKind.i64.wrap (z1217 + (1:Int)))) rfl rfl rfl ?_
    refine wl_nil (then_n ?_)
    replace hst := hst.keep1
    obtain rfl := some_inj hm
    exact ⟨_, Nat.lt_succ_self _, z1315, (IntKind.i64.wrap (z1217 + (1:Int))), _, hx1224, ((fr_upd (t := 0) (v := p0) rfl).trans ((fr_upd (t := 48) (v := r1_1) rfl).trans ((fr_upd (t := 49) (v := .int .i64 ((a1.Scans).length : Int)) rfl).trans ((fr_upd (t := 50) (v := .int .i64 (IntKind.i64.wrap (z1217 + (1:Int)))) rfl).trans rfl)))), hst⟩
  ·skip
   replace hm := bif_f hc1226 hm
   refine wp_iff (congrArg Value.bool hc1226) ?_
   refine wp_exit (then_x (then_x ?_))
   replace hm := inr_up hm hx1224
   refine blk_x ?_
   obtain rfl := some_inj hm
   refine post_end (vs := []) Try.results13 rvs_nil ?_
   exact ⟨rfl, hst.keep1⟩

theorem command_layRule_ref {w0 w : World} {I : HL} {R : SP} {a0 : octet_Writer} {p0 : Value} {a1 : api_Rule}  (hst : St w0 w I [at_octet_Writer p0 a0] R) {r : (octet_Writer)} (hm : command_layRule a0 a1 = some r) :
  Calls Try.prog 31 #[p0, .agg #[.int .u64 a1.ID, .int .i64 a1.From, .int .i64 a1.To, .float .f64 a1.Lo, .float .f64 a1.Hi, .int .u64 a1.Authority, .int .i64 a1.Quota]] w fun e w' => e = .returned (.tuple #[]) ∧ St w0 w' I [at_octet_Writer p0 r] R := by
 unfold command_layRule at hm
 refine calls_start (args := [p0, .agg #[.int .u64 a1.ID, .int .i64 a1.From, .int .i64 a1.To, .float .f64 a1.Lo, .float .f64 a1.Hi, .int .u64 a1.Authority, .int .i64 a1.Quota]]) Try.func31 rfl Try.ntmps31 (Nat.le_of_ble_eq_true rfl) ?_
 refine wp_seq (wp_region_lit ?_)
 obtain ⟨b338, w339, ew340, eb341, hst⟩ := hst.box [.int .u64 a1.ID, .int .i64 a1.From, .int .i64 a1.To, .float .f64 a1.Lo, .float .f64 a1.Hi, .int .u64 a1.Authority, .int .i64 a1.Quota] 43
 refine wl_run (v := .pointer (some ⟨b338, 0, none⟩)) (w' := w339) rfl rfl (x_al (by kernel_rfl) ew340 eb341) ?_
 refine wl_nil (then_n ?_)
 refine wp_region_St hst 27 [0, 1, 2, 3, 4, 5, 6, 7, 8, 9, 10, 11, 12, 13, 14, 15, 16, 17, 18, 19, 20, 21, 22, 23, 24, 25, 26] [0, 0, 2, 7, 0, 16, 48, 127, 0, 256, 768, 2047, 0, 4096, 16383, 32767, 0, 65536, 262143, 524287, 0, 1048576, 4194303, 0, 8388608, 25165824, 67108863] [] rfl (by kernel_rfl) (by kernel_rfl) Try.mixed (by kernel_rfl) ?_
 refine wsr (p0) 0 rfl rfl rfl (by kernel_rfl) (fun w hst => rfl) ?_
 refine wsr (.pointer (some ⟨b338, 0, none⟩)) 1 rfl rfl rfl (by kernel_rfl) (fun w hst => x_field rfl Try.underlying43 rfl Try.sizeOf27 rfl) ?_
 refine wsr (.int .u64 a1.ID) 2 rfl rfl rfl (by kernel_rfl) (fun w hst => x_load rfl Try.isAgg27 (hst.bc0 rfl)) ?_
 refine wsr (.pointer (some ⟨b338, 1, none⟩)) 4 rfl rfl rfl (by kernel_rfl) (fun w hst => x_field rfl Try.underlying43 rfl Try.sizeOf3 rfl) ?_
 refine wsr (.int .i64 a1.From) 5 rfl rfl rfl (by kernel_rfl) (fun w hst => x_load rfl Try.isAgg3 (hst.bc0 rfl)) ?_
 refine wsr (.int .u64 (IntKind.u64.wrap a1.From)) 6 rfl rfl rfl (by kernel_rfl) (fun w hst => by kernel_rfl) ?_
 refine wsr (.pointer (some ⟨b338, 2, none⟩)) 8 rfl rfl rfl (by kernel_rfl) (fun w hst => x_field rfl Try.underlying43 rfl Try.sizeOf3 rfl) ?_
 refine wsr (.int .i64 a1.To) 9 rfl rfl rfl (by kernel_rfl) (fun w hst => x_load rfl Try.isAgg3 (hst.bc0 rfl)) ?_
 refine wsr (.int .u64 (IntKind.u64.wrap a1.To)) 10 rfl rfl rfl (by kernel_rfl) (fun w hst => by kernel_rfl) ?_
 refine wsr (.pointer (some ⟨b338, 3, none⟩)) 12 rfl rfl rfl (by kernel_rfl) (fun w hst => x_field rfl Try.underlying43 rfl Try.sizeOf41 rfl) ?_
 refine wsr (.float .f64 a1.Lo) 13 rfl rfl rfl (by kernel_rfl) (fun w hst => x_load rfl Try.isAgg41 (hst.bc0 rfl)) ?_
 refine wsr (.pointer (some ⟨b338, 4, none⟩)) 16 rfl rfl rfl (by kernel_rfl) (fun w hst => x_field rfl Try.underlying43 rfl Try.sizeOf41 rfl) ?_
 refine wsr (.float .f64 a1.Hi) 17 rfl rfl rfl (by kernel_rfl) (fun w hst => x_load rfl Try.isAgg41 (hst.bc0 rfl)) ?_
 refine wsr (.pointer (some ⟨b338, 5, none⟩)) 20 rfl rfl rfl (by kernel_rfl) (fun w hst => x_field rfl Try.underlying43 rfl Try.sizeOf27 rfl) ?_
 refine wsr (.int .u64 a1.Authority) 21 rfl rfl rfl (by kernel_rfl) (fun w hst => x_load rfl Try.isAgg27 (hst.bc0 rfl)) ?_
 refine wsr (.pointer (some ⟨b338, 6, none⟩)) 23 rfl rfl rfl (by kernel_rfl) (fun w hst => x_field rfl Try.underlying43 rfl Try.sizeOf3 rfl) ?_
 refine wsr (.int .i64 a1.Quota) 24 rfl rfl rfl (by kernel_rfl) (fun w hst => x_load rfl Try.isAgg3 (hst.bc0 rfl)) ?_
 refine wsr (.int .u64 (IntKind.u64.wrap a1.Quota)) 25 rfl rfl rfl (by kernel_rfl) (fun w hst => by kernel_rfl) ?_
 refine ws_e1 3 (by kernel_rfl) ?_
 refine nxe [7, 11, 14, 15, 18, 19, 22, 26] (by kernel_rfl) rfl rfl ?_
 clear hst
 intro w hst
 replace hst := hst.pull1
 obtain ⟨t343, ht344, hm⟩ := bind_some hm
 refine we_call rfl (x_call Try.call27 rfl (vs := [p0, .int .u64 a1.ID, .int .i64 (8:Int)]) rfl) ?_
 refine (octet_Writer_Num_ref hst.to1 ht344).mono ?_
 rintro _ w345 ⟨rfl, hst⟩
 refine ⟨_, rfl, ?_⟩
 replace hst := hst.of1
 refine ws_next (pend' := [(25, .int .u64 (IntKind.u64.wrap a1.Quota)), (24, .int .i64 a1.Quota), (23, .pointer (some ⟨b338, 6, none⟩)), (21, .int .u64 a1.Authority), (20, .pointer (some ⟨b338, 5, none⟩)), (17, .float .f64 a1.Hi), (16, .pointer (some ⟨b338, 4, none⟩)), (13, .float .f64 a1.Lo), (12, .pointer (some ⟨b338, 3, none⟩)), (10, .int .u64 (IntKind.u64.wrap a1.To)), (9, .int .i64 a1.To), (8, .pointer (some ⟨b338, 2, none⟩)), (6, .int .u64 (IntKind.u64.wrap a1.From)), (5, .int .i64 a1.From), (4, .pointer (some ⟨b338, 1, none⟩))]) hst (by kernel_rfl) (pkr rfl rfl (fun w hst => by kernel_rfl) (pkr rfl rfl (fun w hst => x_load rfl Try.isAgg3 (hst.bc1 rfl)) (pkr rfl rfl (fun w hst => x_field rfl Try.underlying43 rfl Try.sizeOf3 rfl) (pkr rfl rfl (fun w hst => x_load rfl Try.isAgg27 (hst.bc1 rfl)) (pkr rfl rfl (fun w hst => x_field rfl Try.underlying43 rfl Try.sizeOf27 rfl) (pkr rfl rfl (fun w hst => x_load rfl Try.isAgg41 (hst.bc1 rfl)) (pkr rfl rfl (fun w hst => x_field rfl Try.underlying43 rfl Try.sizeOf41 rfl) (pkr rfl rfl (fun w hst => x_load rfl Try.isAgg41 (hst.bc1 rfl)) (pkr rfl rfl (fun w hst => x_field rfl Try.underlying43 rfl Try.sizeOf41 rfl) (pkr rfl rfl (fun w hst => by kernel_rfl) (pkr rfl rfl (fun w hst => x_load rfl Try.isAgg3 (hst.bc1 rfl)) (pkr rfl rfl (fun w hst => x_field rfl Try.underlying43 rfl Try.sizeOf3 rfl) (pkr rfl rfl (fun w hst => by kernel_rfl) (pkr rfl rfl (fun w hst => x_load rfl Try.isAgg3 (hst.bc1 rfl)) (pkr rfl rfl (fun w hst => x_field rfl Try.underlying43 rfl Try.sizeOf3 rfl) pk_nil))))))))))))))) ?_
 refine ws_e1 7 (by kernel_rfl) ?_
 refine nxe [11, 14, 15, 18, 19, 22, 26] (by kernel_rfl) rfl rfl ?_
 clear hst
 intro w hst
 obtain ⟨t348, ht349, hm⟩ := bind_some hm
 refine we_call rfl (x_call Try.call27 rfl (vs := [p0, .int .u64 (IntKind.u64.wrap a1.From), .int .i64 (1:Int)]) rfl) ?_
 refine (octet_Writer_Num_ref hst.to1 ht349).mono ?_
 rintro _ w350 ⟨rfl, hst⟩
 refine ⟨_, rfl, ?_⟩
 replace hst := hst.of1
 refine ws_next (pend' := [(25, .int .u64 (IntKind.u64.wrap a1.Quota)), (24, .int .i64 a1.Quota), (23, .pointer (some ⟨b338, 6, none⟩)), (21, .int .u64 a1.Authority), (20, .pointer (some ⟨b338, 5, none⟩)), (17, .float .f64 a1.Hi), (16, .pointer (some ⟨b338, 4, none⟩)), (13, .float .f64 a1.Lo), (12, .pointer (some ⟨b338, 3, none⟩)), (10, .int .u64 (IntKind.u64.wrap a1.To)), (9, .int .i64 a1.To), (8, .pointer (some ⟨b338, 2, none⟩))]) hst (by kernel_rfl) (pkr rfl rfl (fun w hst => by kernel_rfl) (pkr rfl rfl (fun w hst => x_load rfl Try.isAgg3 (hst.bc1 rfl)) (pkr rfl rfl (fun w hst => x_field rfl Try.underlying43 rfl Try.sizeOf3 rfl) (pkr rfl rfl (fun w hst => x_load rfl Try.isAgg27 (hst.bc1 rfl)) (pkr rfl rfl (fun w hst => x_field rfl Try.underlying43 rfl Try.sizeOf27 rfl) (pkr rfl rfl (fun w hst => x_load rfl Try.isAgg41 (hst.bc1 rfl)) (pkr rfl rfl (fun w hst => x_field rfl Try.underlying43 rfl Try.sizeOf41 rfl) (pkr rfl rfl (fun w hst => x_load rfl Try.isAgg41 (hst.bc1 rfl)) (pkr rfl rfl (fun w hst => x_field rfl Try.underlying43 rfl Try.sizeOf41 rfl) (pkr rfl rfl (fun w hst => by kernel_rfl) (pkr rfl rfl (fun w hst => x_load rfl Try.isAgg3 (hst.bc1 rfl)) (pkr rfl rfl (fun w hst => x_field rfl Try.underlying43 rfl Try.sizeOf3 rfl) pk_nil)))))))))))) ?_
 refine ws_e1 11 (by kernel_rfl) ?_
 refine nxe [14, 15, 18, 19, 22, 26] (by kernel_rfl) rfl rfl ?_
 clear hst
 intro w hst
 obtain ⟨t353, ht354, hm⟩ := bind_some hm
 refine we_call rfl (x_call Try.call27 rfl (vs := [p0, .int .u64 (IntKind.u64.wrap a1.To), .int .i64 (1:Int)]) rfl) ?_
 refine (octet_Writer_Num_ref hst.to1 ht354).mono ?_
 rintro _ w355 ⟨rfl, hst⟩
 refine ⟨_, rfl, ?_⟩
 replace hst := hst.of1
 refine ws_next (pend' := [(25, .int .u64 (IntKind.u64.wrap a1.Quota)), (24, .int .i64 a1.Quota), (23, .pointer (some ⟨b338, 6, none⟩)), (21, .int .u64 a1.Authority), (20, .pointer (some ⟨b338, 5, none⟩)), (17, .float .f64 a1.Hi), (16, .pointer (some ⟨b338, 4, none⟩)), (13, .float .f64 a1.Lo), (12, .pointer (some ⟨b338, 3, none⟩))]) hst (by kernel_rfl) (pkr rfl rfl (fun w hst => by kernel_rfl) (pkr rfl rfl (fun w hst => x_load rfl Try.isAgg3 (hst.bc1 rfl)) (pkr rfl rfl (fun w hst => x_field rfl Try.underlying43 rfl Try.sizeOf3 rfl) (pkr rfl rfl (fun w hst => x_load rfl Try.isAgg27 (hst.bc1 rfl)) (pkr rfl rfl (fun w hst => x_field rfl Try.underlying43 rfl Try.sizeOf27 rfl) (pkr rfl rfl (fun w hst => x_load rfl Try.isAgg41 (hst.bc1 rfl)) (pkr rfl rfl (fun w hst => x_field rfl Try.underlying43 rfl Try.sizeOf41 rfl) (pkr rfl rfl (fun w hst => x_load rfl Try.isAgg41 (hst.bc1 rfl)) (pkr rfl rfl (fun w hst => x_field rfl Try.underlying43 rfl Try.sizeOf41 rfl) pk_nil))))))))) ?_
 refine ws_e1 14 (by kernel_rfl) ?_
 refine nxe [15, 18, 19, 22, 26] (by kernel_rfl) rfl rfl ?_
 clear hst
 intro w hst
 obtain ⟨t358, ht359, hm⟩ := bind_some hm
 refine we_call rfl (x_call Try.call39 rfl (vs := [.float .f64 a1.Lo]) rfl) ?_
 refine (number_Rank_ref hst.to0 ht359).mono ?_
 rintro _ w360 ⟨rfl, hst⟩
 refine ⟨_, rfl, ?_⟩
 replace hst := hst.of0
 refine ws_next (pend' := [(25, .int .u64 (IntKind.u64.wrap a1.Quota)), (24, .int .i64 a1.Quota), (23, .pointer (some ⟨b338, 6, none⟩)), (21, .int .u64 a1.Authority), (20, .pointer (some ⟨b338, 5, none⟩)), (17, .float .f64 a1.Hi), (16, .pointer (some ⟨b338, 4, none⟩))]) hst (by kernel_rfl) (pkr rfl rfl (fun w hst => by kernel_rfl) (pkr rfl rfl (fun w hst => x_load rfl Try.isAgg3 (hst.bc1 rfl)) (pkr rfl rfl (fun w hst => x_field rfl Try.underlying43 rfl Try.sizeOf3 rfl) (pkr rfl rfl (fun w hst => x_load rfl Try.isAgg27 (hst.bc1 rfl)) (pkr rfl rfl (fun w hst => x_field rfl Try.underlying43 rfl Try.sizeOf27 rfl) (pkr rfl rfl (fun w hst => x_load rfl Try.isAgg41 (hst.bc1 rfl)) (pkr rfl rfl (fun w hst => x_field rfl Try.underlying43 rfl Try.sizeOf41 rfl) pk_nil))))))) ?_
 refine ws_e1 15 (by kernel_rfl) ?_
 refine nxe [18, 19, 22, 26] (by kernel_rfl) rfl rfl ?_
 clear hst
 intro w hst
 obtain ⟨t363, ht364, hm⟩ := bind_some hm
 refine we_call rfl (x_call Try.call27 rfl (vs := [p0, .int .u64 t358, .int .i64 (8:Int)]) rfl) ?_
 refine (octet_Writer_Num_ref hst.to1 ht364).mono ?_
 rintro _ w365 ⟨rfl, hst⟩
 refine ⟨_, rfl, ?_⟩
 replace hst := hst.of1
 refine ws_next (pend' := [(25, .int .u64 (IntKind.u64.wrap a1.Quota)), (24, .int .i64 a1.Quota), (23, .pointer (some ⟨b338, 6, none⟩)), (21, .int .u64 a1.Authority), (20, .pointer (some ⟨b338, 5, none⟩)), (17, .float .f64 a1.Hi), (16, .pointer (some ⟨b338, 4, none⟩))]) hst (by kernel_rfl) (pkr rfl rfl (fun w hst => by kernel_rfl) (pkr rfl rfl (fun w hst => x_load rfl Try.isAgg3 (hst.bc1 rfl)) (pkr rfl rfl (fun w hst => x_field rfl Try.underlying43 rfl Try.sizeOf3 rfl) (pkr rfl rfl (fun w hst => x_load rfl Try.isAgg27 (hst.bc1 rfl)) (pkr rfl rfl (fun w hst => x_field rfl Try.underlying43 rfl Try.sizeOf27 rfl) (pkr rfl rfl (fun w hst => x_load rfl Try.isAgg41 (hst.bc1 rfl)) (pkr rfl rfl (fun w hst => x_field rfl Try.underlying43 rfl Try.sizeOf41 rfl) pk_nil))))))) ?_
 refine ws_e1 18 (by kernel_rfl) ?_
 refine nxe [19, 22, 26] (by kernel_rfl) rfl rfl ?_
 clear hst
 intro w hst
 obtain ⟨t368, ht369, hm⟩ := bind_some hm
 refine we_call rfl (x_call Try.call39 rfl (vs := [.float .f64 a1.Hi]) rfl) ?_
 refine (number_Rank_ref hst.to0 ht369).mono ?_
 rintro _ w370 ⟨rfl, hst⟩
 refine ⟨_, rfl, ?_⟩
 replace hst := hst.of0
 refine ws_next (pend' := [(25, .int .u64 (IntKind.u64.wrap a1.Quota)), (24, .int .i64 a1.Quota), (23, .pointer (some ⟨b338, 6, none⟩)), (21, .int .u64 a1.Authority), (20, .pointer (some ⟨b338, 5, none⟩))]) hst (by kernel_rfl) (pkr rfl rfl (fun w hst => by kernel_rfl) (pkr rfl rfl (fun w hst => x_load rfl Try.isAgg3 (hst.bc1 rfl)) (pkr rfl rfl (fun w hst => x_field rfl Try.underlying43 rfl Try.sizeOf3 rfl) (pkr rfl rfl (fun w hst => x_load rfl Try.isAgg27 (hst.bc1 rfl)) (pkr rfl rfl (fun w hst => x_field rfl Try.underlying43 rfl Try.sizeOf27 rfl) pk_nil))))) ?_
 refine ws_e1 19 (by kernel_rfl) ?_
 refine nxe [22, 26] (by kernel_rfl) rfl rfl ?_
 clear hst
 intro w hst
 obtain ⟨t373, ht374, hm⟩ := bind_some hm
 refine we_call rfl (x_call Try.call27 rfl (vs := [p0, .int .u64 t368, .int .i64 (8:Int)]) rfl) ?_
 refine (octet_Writer_Num_ref hst.to1 ht374).mono ?_
 rintro _ w375 ⟨rfl, hst⟩
 refine ⟨_, rfl, ?_⟩
 replace hst := hst.of1
 refine ws_next (pend' := [(25, .int .u64 (IntKind.u64.wrap a1.Quota)), (24, .int .i64 a1.Quota), (23, .pointer (some ⟨b338, 6, none⟩)), (21, .int .u64 a1.Authority), (20, .pointer (some ⟨b338, 5, none⟩))]) hst (by kernel_rfl) (pkr rfl rfl (fun w hst => by kernel_rfl) (pkr rfl rfl (fun w hst => x_load rfl Try.isAgg3 (hst.bc1 rfl)) (pkr rfl rfl (fun w hst => x_field rfl Try.underlying43 rfl Try.sizeOf3 rfl) (pkr rfl rfl (fun w hst => x_load rfl Try.isAgg27 (hst.bc1 rfl)) (pkr rfl rfl (fun w hst => x_field rfl Try.underlying43 rfl Try.sizeOf27 rfl) pk_nil))))) ?_
 refine ws_e1 22 (by kernel_rfl) ?_
 refine nxe [26] (by kernel_rfl) rfl rfl ?_
 clear hst
 intro w hst
 obtain ⟨t378, ht379, hm⟩ := bind_some hm
 refine we_call rfl (x_call Try.call27 rfl (vs := [p0, .int .u64 a1.Authority, .int .i64 (8:Int)]) rfl) ?_
 refine (octet_Writer_Num_ref hst.to1 ht379).mono ?_
 rintro _ w380 ⟨rfl, hst⟩
 refine ⟨_, rfl, ?_⟩
 replace hst := hst.of1
 refine ws_next (pend' := [(25, .int .u64 (IntKind.u64.wrap a1.Quota)), (24, .int .i64 a1.Quota), (23, .pointer (some ⟨b338, 6, none⟩))]) hst (by kernel_rfl) (pkr rfl rfl (fun w hst => by kernel_rfl) (pkr rfl rfl (fun w hst => x_load rfl Try.isAgg3 (hst.bc1 rfl)) (pkr rfl rfl (fun w hst => x_field rfl Try.underlying43 rfl Try.sizeOf3 rfl) pk_nil))) ?_
 refine ws_e1 26 (by kernel_rfl) ?_
 refine nxe [] (by kernel_rfl) rfl rfl ?_
 clear hst
 intro w hst
 obtain ⟨t383, ht384, hm⟩ := bind_some hm
 refine we_call rfl (x_call Try.call27 rfl (vs := [p0, .int .u64 (IntKind.u64.wrap a1.Quota), .int .i64 (4:Int)]) rfl) ?_
 refine (octet_Writer_Num_ref hst.to1 ht384).mono ?_
 rintro _ w385 ⟨rfl, hst⟩
 refine ⟨_, rfl, ?_⟩
 replace hst := hst.of1
 refine ws_next (pend' := []) hst (by kernel_rfl) pk_nil ?_
 refine ws_nil ?_
 intro w hst
 obtain rfl := some_inj hm
 refine post_end (vs := []) Try.results31 rvs_nil ?_
 exact ⟨rfl, hst.keep1⟩

theorem command_Encode_ref {w0 w : World} {I : HL} {R : SP} {a0 : api_Command} {r0_0 : Value} {r0_1 : Value} {r0_2 : Value} {r0_3 : Value} {r0_4 : Value} {r0_5 : Value} {r0_6 : Value} {r0_7 : Value} (f0_0 : Rd tyF64 R I r0_0 a0.Hold.Gets) (f0_1 : Rd tyF2 R I r0_1 a0.Hold.Scans) (f0_2 : Rd tyF64 R I r0_2 a0.Hold.Puts) (f0_3 : Rd (tyInt .u8) R I r0_3 a0.Hold.Data) (f0_4 : Rd ty_api_Write R I r0_4 a0.Writes) (f0_5 : Rd ty_api_Got R I r0_5 a0.R.Gots) (f0_6 : Rd (tySl ty_api_Pair) R I r0_6 a0.R.Scans) (f0_7 : Rd ty_api_Part R I r0_7 a0.Parts) (hst : St w0 w I [] R) {r : ((List Int))} (hm : command_Encode a0 = some r) :
  Calls Try.prog 10 #[.agg #[.int .u8 a0.Kind, .int .u64 a0.ID.Session, .int .u64 a0.ID.Seq, .int .u64 a0.Epoch, .int .u64 a0.Index, .int .i64 a0.E, .int .u64 a0.Hold.ID.Session, .int .u64 a0.Hold.ID.Seq, .int .u64 a0.Hold.Epoch, r0_0, r0_1, r0_2, r0_3, r0_4, .int .i64 a0.R.E, .int .u64 a0.R.Epoch, .int .u64 a0.R.Index, r0_5, r0_6, .int .u64 a0.Shards, r0_7, .int .u64 a0.Rule.ID, .int .i64 a0.Rule.From, .int .i64 a0.Rule.To, .float .f64 a0.Rule.Lo, .float .f64 a0.Rule.Hi, .int .u64 a0.Rule.Authority, .int .i64 a0.Rule.Quota, .bool a0.On]] w fun e w' => ∃ (q0_0 : Value), e = .returned (q0_0) ∧ St w0 w' I [ownS (tyInt .u8) q0_0 r] R := by
 unfold command_Encode at hm
 refine calls_start (args := [.agg #[.int .u8 a0.Kind, .int .u64 a0.ID.Session, .int .u64 a0.ID.Seq, .int .u64 a0.Epoch, .int .u64 a0.Index, .int .i64 a0.E, .int .u64 a0.Hold.ID.Session, .int .u64 a0.Hold.ID.Seq, .int .u64 a0.Hold.Epoch, r0_0, r0_1, r0_2, r0_3, r0_4, .int .i64 a0.R.E, .int .u64 a0.R.Epoch, .int .u64 a0.R.Index, r0_5, r0_6, .int .u64 a0.Shards, r0_7, .int .u64 a0.Rule.ID, .int .i64 a0.Rule.From, .int .i64 a0.Rule.To, .float .f64 a0.Rule.Lo, .float .f64 a0.Rule.Hi, .int .u64 a0.Rule.Authority, .int .i64 a0.Rule.Quota, .bool a0.On]]) Try.func10 rfl Try.ntmps10 (Nat.le_of_ble_eq_true rfl) ?_
 refine wp_seq (wp_region_lit ?_)
 obtain ⟨b361, w362, ew363, eb364, hst⟩ := hst.box [.int .u8 a0.Kind, .int .u64 a0.ID.Session, .int .u64 a0.ID.Seq, .int .u64 a0.Epoch, .int .u64 a0.Index, .int .i64 a0.E, .int .u64 a0.Hold.ID.Session, .int .u64 a0.Hold.ID.Seq, .int .u64 a0.Hold.Epoch, r0_0, r0_1, r0_2, r0_3, r0_4, .int .i64 a0.R.E, .int .u64 a0.R.Epoch, .int .u64 a0.R.Index, r0_5, r0_6, .int .u64 a0.Shards, r0_7, .int .u64 a0.Rule.ID, .int .i64 a0.Rule.From, .int .i64 a0.Rule.To, .float .f64 a0.Rule.Lo, .float .f64 a0.Rule.Hi, .int .u64 a0.Rule.Authority, .int .i64 a0.Rule.Quota, .bool a0.On] 45
 refine wl_run (v := .pointer (some ⟨b361, 0, none⟩)) (w' := w362) rfl rfl (x_al (by kernel_rfl) ew363 eb364) ?_
 refine wv ((.slice none 0 0)) rfl rfl rfl ?_
 refine wl_nil (then_n (wp_seq (wp_region_lit ?_)))
 refine wv (.agg #[(.slice none 0 0)]) rfl rfl (by kernel_rfl) ?_
 obtain ⟨b368, w369, ew370, eb371, hst⟩ := hst.box [(.slice none 0 0)] 58
 refine wl_run (v := .pointer (some ⟨b368, 0, none⟩)) (w' := w369) rfl rfl (x_al (by kernel_rfl) ew370 eb371) ?_
 obtain ⟨b374, w375, ew376, eb377, hst⟩ := hst.box [.pointer none] 56
 refine wl_run (v := .pointer (some ⟨b374, 0, none⟩)) (w' := w375) rfl rfl (x_al (by kernel_rfl) ew376 eb377) ?_
 obtain ⟨w379, hr380, hst⟩ := hst.boxStore (P := Try.prog) (t := 56) (cs' := [.pointer (some ⟨b368, 0, none⟩)]) 0 (.pointer (some ⟨b368, 0, none⟩)) Try.sizeOf56 (Nat.le_of_ble_eq_true rfl) (ones_cons rfl ones_nil) (by kernel_rfl)
 refine wl_unit rfl rfl (x_unit hr380) ?_
 refine wl_nil (then_n (wp_seq (wp_region_lit ?_)))
 refine wv (.pointer (some ⟨b368, 0, none⟩)) rfl rfl (x_load rfl Try.isAgg56 (hst.bc0 rfl)) ?_
 refine wv (.pointer (some ⟨b361, 0, none⟩)) rfl rfl (x_field rfl Try.underlying45 rfl Try.sizeOf5 rfl) ?_
 refine wv (.int .u8 a0.Kind) rfl rfl (x_load rfl Try.isAgg5 (hst.bc2 rfl)) ?_
 refine wv (.int .u64 (IntKind.u64.wrap a0.Kind)) rfl rfl (by kernel_rfl) ?_
 replace hst := hst.own_nil (tyInt .u8)
 replace hst := hst.pull2
 replace hst := at_octet_Writer_close (pv := .pointer (some ⟨b368, 0, none⟩)) (x := ({ p := [] } : octet_Writer)) hst rfl
 obtain ⟨t381, ht382, hm⟩ := bind_some hm
 refine wl_call rfl rfl (x_call Try.call27 rfl (vs := [.pointer (some ⟨b368, 0, none⟩), .int .u64 (IntKind.u64.wrap a0.Kind), .int .i64 (1:Int)]) rfl) ?_
 refine (octet_Writer_Num_ref hst.to1 ht382).mono ?_
 rintro _ w383 ⟨rfl, hst⟩
 refine ⟨_, rfl, ?_⟩
 replace hst := hst.of1
 refine wl_nil (then_n (wp_seq (wp_region_lit ?_)))
 refine wv (.func (.func 28) #[] #[.pointer (some ⟨b374, 0, none⟩), .pointer (some ⟨b361, 0, none⟩)]) rfl rfl (by kernel_rfl) ?_
 refine wv (.func (.func 28) #[] #[.pointer (some ⟨b374, 0, none⟩), .pointer (some ⟨b361, 0, none⟩)]) rfl rfl rfl ?_
 refine wl_nil (then_n (wp_seq (wp_seq (wp_region_lit ?_))))
 refine wv (.pointer (some ⟨b361, 0, none⟩)) rfl rfl (x_field rfl Try.underlying45 rfl Try.sizeOf5 rfl) ?_
 refine wv (.int .u8 a0.Kind) rfl rfl (x_load rfl Try.isAgg5 (hst.bc2 rfl)) ?_
 refine wl_nil (then_n (wp_block (wp_seq (wp_region_lit ?_))))
 refine wv (.bool (a0.Kind == (1:Int))) rfl rfl rfl ?_
 refine wv (.bool (a0.Kind == (1:Int))) rfl rfl rfl ?_
 refine wl_nil (then_n ?_)
 refine bsplit (a0.Kind == (1:Int)) (fun hc386 => ?_) (fun hc386 => ?_)
 ·skip
  replace hm := bif_t hc386 hm
  refine wp_ift (congrArg Value.bool hc386) ?_
  refine wp_region_lit ?_
  refine wv (.pointer (some ⟨b368, 0, none⟩)) rfl rfl (x_load rfl Try.isAgg56 (hst.bc1 rfl)) ?_
  refine wv (.pointer (some ⟨b361, 3, none⟩)) rfl rfl (x_field rfl Try.underlying45 rfl Try.sizeOf27 rfl) ?_
  refine wv (.int .u64 a0.Epoch) rfl rfl (x_load rfl Try.isAgg27 (hst.bc2 rfl)) ?_
  obtain ⟨t387, ht388, hm⟩ := bind_some hm
  refine wl_call rfl rfl (x_call Try.call27 rfl (vs := [.pointer (some ⟨b368, 0, none⟩), .int .u64 a0.Epoch, .int .i64 (8:Int)]) rfl) ?_
  refine (octet_Writer_Num_ref hst.to1 ht388).mono ?_
  rintro _ w389 ⟨rfl, hst⟩
  refine ⟨_, rfl, ?_⟩
  replace hst := hst.of1
  refine wl_nil (blk_n (then_n (wp_seq (wp_region_lit ?_))))
  refine wv (.pointer (some ⟨b368, 0, none⟩)) rfl rfl (x_load rfl Try.isAgg56 (hst.bc1 rfl)) ?_
  obtain ⟨t392, ht393, hm⟩ := bind_some hm
  refine wl_call rfl rfl (x_call Try.call14 rfl (vs := [.pointer (some ⟨b368, 0, none⟩)]) rfl) ?_
  refine (octet_Writer_Done_ref hst.to1 ht393).mono ?_
  rintro _ w394 ⟨v397, rfl, hst⟩
  refine ⟨_, rfl, ?_⟩
  replace hst := hst.of1
  refine wv (v397) rfl rfl rfl ?_
  refine wl_nil (then_n (wp_ret ?_))
  obtain rfl := some_inj hm
  refine post_ret (vs := [v397]) Try.results10 (rvs_cons (rv_tmp rfl) rvs_nil) ?_
  exact ⟨v397, rfl, hst.keep1⟩
 ·skip
  replace hm := bif_f hc386 hm
  refine wp_iff (congrArg Value.bool hc386) ?_
  refine wp_seq (wp_region_lit ?_)
  refine wv (.bool (a0.Kind == (2:Int))) rfl rfl rfl ?_
  refine wv (.bool (a0.Kind == (2:Int))) rfl rfl rfl ?_
  refine wl_nil (then_n ?_)
  refine bsplit (a0.Kind == (2:Int)) (fun hc399 => ?_) (fun hc399 => ?_)
  ·skip
   replace hm := bif_t hc399 hm
   refine wp_ift (congrArg Value.bool hc399) ?_
   refine wp_region_lit ?_
   refine wv (.pointer (some ⟨b368, 0, none⟩)) rfl rfl (x_load rfl Try.isAgg56 (hst.bc1 rfl)) ?_
   refine wv (.pointer (some ⟨b361, 6, none⟩)) rfl rfl (x_field rfl Try.underlying45 rfl Try.sizeOf34 rfl) ?_
   refine wv (.agg #[.int .u64 a0.Hold.ID.Session, .int .u64 a0.Hold.ID.Seq, .int .u64 a0.Hold.Epoch, r0_0, r0_1, r0_2, r0_3]) rfl rfl (x_loadN (cs := [.int .u64 a0.Hold.ID.Session, .int .u64 a0.Hold.ID.Seq, .int .u64 a0.Hold.Epoch, r0_0, r0_1, r0_2, r0_3]) rfl Try.isAgg34 Try.sizeOf34 (hst.bcs2 6 rfl)) ?_
   obtain ⟨t400, ht401, hm⟩ := bind_some hm
   refine wl_call rfl rfl (x_call Try.call29 rfl (vs := [.pointer (some ⟨b368, 0, none⟩), .agg #[.int .u64 a0.Hold.ID.Session, .int .u64 a0.Hold.ID.Seq, .int .u64 a0.Hold.Epoch, r0_0, r0_1, r0_2, r0_3]]) rfl) ?_
   refine (locks_Lay_ref (f0_0.mono (rd_weak _)) (f0_1.mono (rd_weak _)) (f0_2.mono (rd_weak _)) (f0_3.mono (rd_weak _)) hst.to1 ht401).mono ?_
   rintro _ w402 ⟨rfl, hst⟩
   refine ⟨_, rfl, ?_⟩
   replace hst := hst.of1
   refine wl_nil (blk_n (then_n (wp_seq (wp_region_lit ?_))))
   refine wv (.pointer (some ⟨b368, 0, none⟩)) rfl rfl (x_load rfl Try.isAgg56 (hst.bc1 rfl)) ?_
   obtain ⟨t405, ht406, hm⟩ := bind_some hm
   refine wl_call rfl rfl (x_call Try.call14 rfl (vs := [.pointer (some ⟨b368, 0, none⟩)]) rfl) ?_
   refine (octet_Writer_Done_ref hst.to1 ht406).mono ?_
   rintro _ w407 ⟨v410, rfl, hst⟩
   refine ⟨_, rfl, ?_⟩
   replace hst := hst.of1
   refine wv (v410) rfl rfl rfl ?_
   refine wl_nil (then_n (wp_ret ?_))
   obtain rfl := some_inj hm
   refine post_ret (vs := [v410]) Try.results10 (rvs_cons (rv_tmp rfl) rvs_nil) ?_
   exact ⟨v410, rfl, hst.keep1⟩
  ·skip
   replace hm := bif_f hc399 hm
   refine wp_iff (congrArg Value.bool hc399) ?_
   refine wp_seq (wp_region_lit ?_)
   refine wv (.bool (a0.Kind == (3:Int))) rfl rfl rfl ?_
   refine wv (.bool (a0.Kind == (3:Int))) rfl rfl rfl ?_
   refine wl_nil (then_n ?_)
   refine bsplit (a0.Kind == (3:Int)) (fun hc412 => ?_) (fun hc412 => ?_)
   ·skip
    replace hm := bif_t hc412 hm
    refine wp_ift (congrArg Value.bool hc412) ?_
    refine wp_seq (wp_region_lit ?_)
    refine wv (.func (.func 28) #[] #[.pointer (some ⟨b374, 0, none⟩), .pointer (some ⟨b361, 0, none⟩)]) rfl rfl rfl ?_
    obtain ⟨y425, hq426, hm⟩ := bind_some hm
    refine wl_call rfl rfl (x_callv Try.call28 (caps := [.pointer (some ⟨b374, 0, none⟩), .pointer (some ⟨b361, 0, none⟩)]) rfl (vs := []) rfl) ?_
    refine Calls.mono (show Calls Try.prog 28 #[.pointer (some ⟨b374, 0, none⟩), .pointer (some ⟨b361, 0, none⟩)] _ (fun e w' => ∃ (z423 : octet_Writer), y425 = z423 ∧ e = .returned (.tuple #[]) ∧ St w0 w' I [cells b361 [.int .u8 a0.Kind, .int .u64 a0.ID.Session, .int .u64 a0.ID.Seq, .int .u64 a0.Epoch, .int .u64 a0.Index, .int .i64 a0.E, .int .u64 a0.Hold.ID.Session, .int .u64 a0.Hold.ID.Seq, .int .u64 a0.Hold.Epoch, r0_0, r0_1, r0_2, r0_3, r0_4, .int .i64 a0.R.E, .int .u64 a0.R.Epoch, .int .u64 a0.R.Index, r0_5, r0_6, .int .u64 a0.Shards, r0_7, .int .u64 a0.Rule.ID, .int .i64 a0.Rule.From, .int .i64 a0.Rule.To, .float .f64 a0.Rule.Lo, .float .f64 a0.Rule.Hi, .int .u64 a0.Rule.Authority, .int .i64 a0.Rule.Quota, .bool a0.On], at_octet_Writer (.pointer (some ⟨b368, 0, none⟩)) z423, cells b374 [.pointer (some ⟨b368, 0, none⟩)]] R) from ?_) ?_
    ·skip
     clear hm; have hm := hq426
     refine calls_start (args := [.pointer (some ⟨b374, 0, none⟩), .pointer (some ⟨b361, 0, none⟩)]) Try.func28 rfl Try.ntmps28 (Nat.le_of_ble_eq_true rfl) ?_
     refine wp_region_St hst 9 [0, 1, 2, 3, 4, 5, 6, 7, 8] [0, 0, 2, 6, 15, 0, 32, 96, 255] [] rfl (by kernel_rfl) (by kernel_rfl) Try.mixed (by kernel_rfl) ?_
     refine wsr (.pointer (some ⟨b368, 0, none⟩)) 0 rfl rfl rfl (by kernel_rfl) (fun w hst => x_load rfl Try.isAgg56 (hst.bc1 rfl)) ?_
     refine wsr (.pointer (some ⟨b361, 1, none⟩)) 1 rfl rfl rfl (by kernel_rfl) (fun w hst => x_field rfl Try.underlying45 rfl Try.sizeOf29 rfl) ?_
     refine wsr (.pointer (some ⟨b361, 1, none⟩)) 2 rfl rfl rfl (by kernel_rfl) (fun w hst => x_field rfl Try.underlying29 rfl Try.sizeOf27 rfl) ?_
     refine wsr (.int .u64 a0.ID.Session) 3 rfl rfl rfl (by kernel_rfl) (fun w hst => x_load rfl Try.isAgg27 (hst.bc2 rfl)) ?_
     refine wsr (.pointer (some ⟨b361, 1, none⟩)) 5 rfl rfl rfl (by kernel_rfl) (fun w hst => x_field rfl Try.underlying45 rfl Try.sizeOf29 rfl) ?_
     refine wsr (.pointer (some ⟨b361, 2, none⟩)) 6 rfl rfl rfl (by kernel_rfl) (fun w hst => x_field rfl Try.underlying29 rfl Try.sizeOf27 rfl) ?_
     refine wsr (.int .u64 a0.ID.Seq) 7 rfl rfl rfl (by kernel_rfl) (fun w hst => x_load rfl Try.isAgg27 (hst.bc2 rfl)) ?_
     refine ws_e1 4 (by kernel_rfl) ?_
     refine nxe [8] (by kernel_rfl) rfl rfl ?_
     clear hst
     intro w hst
     obtain ⟨t413, ht414, hm⟩ := bind_some hm
     refine we_call rfl (x_call Try.call27 rfl (vs := [.pointer (some ⟨b368, 0, none⟩), .int .u64 a0.ID.Session, .int .i64 (8:Int)]) rfl) ?_
     refine (octet_Writer_Num_ref hst.to1 ht414).mono ?_
     rintro _ w415 ⟨rfl, hst⟩
     refine ⟨_, rfl, ?_⟩
     replace hst := hst.of1
     refine ws_next (pend' := [(7, .int .u64 a0.ID.Seq), (6, .pointer (some ⟨b361, 2, none⟩)), (5, .pointer (some ⟨b361, 1, none⟩))]) hst (by kernel_rfl) (pkr rfl rfl (fun w hst => x_load rfl Try.isAgg27 (hst.bc2 rfl)) (pkr rfl rfl (fun w hst => x_field rfl Try.underlying29 rfl Try.sizeOf27 rfl) (pkr rfl rfl (fun w hst => x_field rfl Try.underlying45 rfl Try.sizeOf29 rfl) pk_nil))) ?_
     refine ws_e1 8 (by kernel_rfl) ?_
     refine nxe [] (by kernel_rfl) rfl rfl ?_
     clear hst
     intro w hst
     obtain ⟨t418, ht419, hm⟩ := bind_some hm
     refine we_call rfl (x_call Try.call27 rfl (vs := [.pointer (some ⟨b368, 0, none⟩), .int .u64 a0.ID.Seq, .int .i64 (8:Int)]) rfl) ?_
     refine (octet_Writer_Num_ref hst.to1 ht419).mono ?_
     rintro _ w420 ⟨rfl, hst⟩
     refine ⟨_, rfl, ?_⟩
     replace hst := hst.of1
     refine ws_next (pend' := []) hst (by kernel_rfl) pk_nil ?_
     refine ws_nil ?_
     intro w hst
     refine post_end (vs := []) Try.results28 rvs_nil ?_
     replace hst := hst.pull1
     replace hst := hst.pull1
     replace hst := hst.pull2
     replace hst := hst.keep3
     obtain rfl := some_inj hm
     exact ⟨t418, rfl, rfl, hst⟩
    clear hst
    rintro _ w427 ⟨z423, rfl, rfl, hst⟩
    refine ⟨_, rfl, ?_⟩
    try dsimp only at hm
    refine wl_nil (then_n (wp_seq ?_))
    refine wp_region_St hst 11 [0, 1, 2, 3, 4, 5, 6, 7, 8, 9, 10] [0, 0, 2, 6, 15, 0, 32, 127, 0, 256, 1023] [] rfl (by kernel_rfl) (by kernel_rfl) Try.mixed (by kernel_rfl) ?_
    refine wsr (.pointer (some ⟨b368, 0, none⟩)) 0 rfl rfl rfl (by kernel_rfl) (fun w hst => x_load rfl Try.isAgg56 (hst.bc2 rfl)) ?_
    refine wsr (.pointer (some ⟨b361, 5, none⟩)) 1 rfl rfl rfl (by kernel_rfl) (fun w hst => x_field rfl Try.underlying45 rfl Try.sizeOf30 rfl) ?_
    refine wsr (.int .i64 a0.E) 2 rfl rfl rfl (by kernel_rfl) (fun w hst => x_load rfl Try.isAgg30 (hst.bc0 rfl)) ?_
    refine wsr (.int .u64 (IntKind.u64.wrap a0.E)) 3 rfl rfl rfl (by kernel_rfl) (fun w hst => by kernel_rfl) ?_
    refine wsr (.pointer (some ⟨b361, 3, none⟩)) 5 rfl rfl rfl (by kernel_rfl) (fun w hst => x_field rfl Try.underlying45 rfl Try.sizeOf27 rfl) ?_
    refine wsr (.int .u64 a0.Epoch) 6 rfl rfl rfl (by kernel_rfl) (fun w hst => x_load rfl Try.isAgg27 (hst.bc0 rfl)) ?_
    refine wsr (.pointer (some ⟨b361, 4, none⟩)) 8 rfl rfl rfl (by kernel_rfl) (fun w hst => x_field rfl Try.underlying45 rfl Try.sizeOf27 rfl) ?_
    refine wsr (.int .u64 a0.Index) 9 rfl rfl rfl (by kernel_rfl) (fun w hst => x_load rfl Try.isAgg27 (hst.bc0 rfl)) ?_
    refine ws_e1 4 (by kernel_rfl) ?_
    refine nxe [7, 10] (by kernel_rfl) rfl rfl ?_
    clear hst
    intro w hst
    replace hst := hst.pull1
    obtain ⟨t428, ht429, hm⟩ := bind_some hm
    refine we_call rfl (x_call Try.call27 rfl (vs := [.pointer (some ⟨b368, 0, none⟩), .int .u64 (IntKind.u64.wrap a0.E), .int .i64 (1:Int)]) rfl) ?_
    refine (octet_Writer_Num_ref hst.to1 ht429).mono ?_
    rintro _ w430 ⟨rfl, hst⟩
    refine ⟨_, rfl, ?_⟩
    replace hst := hst.of1
    refine ws_next (pend' := [(9, .int .u64 a0.Index), (8, .pointer (some ⟨b361, 4, none⟩)), (6, .int .u64 a0.Epoch), (5, .pointer (some ⟨b361, 3, none⟩))]) hst (by kernel_rfl) (pkr rfl rfl (fun w hst => x_load rfl Try.isAgg27 (hst.bc1 rfl)) (pkr rfl rfl (fun w hst => x_field rfl Try.underlying45 rfl Try.sizeOf27 rfl) (pkr rfl rfl (fun w hst => x_load rfl Try.isAgg27 (hst.bc1 rfl)) (pkr rfl rfl (fun w hst => x_field rfl Try.underlying45 rfl Try.sizeOf27 rfl) pk_nil)))) ?_
    refine ws_e1 7 (by kernel_rfl) ?_
    refine nxe [10] (by kernel_rfl) rfl rfl ?_
    clear hst
    intro w hst
    obtain ⟨t433, ht434, hm⟩ := bind_some hm
    refine we_call rfl (x_call Try.call27 rfl (vs := [.pointer (some ⟨b368, 0, none⟩), .int .u64 a0.Epoch, .int .i64 (8:Int)]) rfl) ?_
    refine (octet_Writer_Num_ref hst.to1 ht434).mono ?_
    rintro _ w435 ⟨rfl, hst⟩
    refine ⟨_, rfl, ?_⟩
    replace hst := hst.of1
    refine ws_next (pend' := [(9, .int .u64 a0.Index), (8, .pointer (some ⟨b361, 4, none⟩))]) hst (by kernel_rfl) (pkr rfl rfl (fun w hst => x_load rfl Try.isAgg27 (hst.bc1 rfl)) (pkr rfl rfl (fun w hst => x_field rfl Try.underlying45 rfl Try.sizeOf27 rfl) pk_nil)) ?_
    refine ws_e1 10 (by kernel_rfl) ?_
    refine nxe [] (by kernel_rfl) rfl rfl ?_
    clear hst
    intro w hst
    obtain ⟨t438, ht439, hm⟩ := bind_some hm
    refine we_call rfl (x_call Try.call27 rfl (vs := [.pointer (some ⟨b368, 0, none⟩), .int .u64 a0.Index, .int .i64 (8:Int)]) rfl) ?_
    refine (octet_Writer_Num_ref hst.to1 ht439).mono ?_
    rintro _ w440 ⟨rfl, hst⟩
    refine ⟨_, rfl, ?_⟩
    replace hst := hst.of1
    refine ws_next (pend' := []) hst (by kernel_rfl) pk_nil ?_
    refine ws_nil ?_
    intro w hst
    refine then_n (wp_region_lit ?_)
    refine wv (.pointer (some ⟨b368, 0, none⟩)) rfl rfl (x_load rfl Try.isAgg56 (hst.bc2 rfl)) ?_
    refine wv (.pointer (some ⟨b361, 13, none⟩)) rfl rfl (x_field rfl Try.underlying45 rfl Try.sizeOf35 rfl) ?_
    refine wv (r0_4) rfl rfl (x_load rfl Try.isAgg35 (hst.bc1 rfl)) ?_
    obtain ⟨t443, ht444, hm⟩ := bind_some hm
    refine wl_call rfl rfl (x_call Try.call30 rfl (vs := [.pointer (some ⟨b368, 0, none⟩), r0_4]) rfl) ?_
    refine (command_writes_ref (f0_4.mono (rd_weak _)) hst.to1 ht444).mono ?_
    rintro _ w445 ⟨rfl, hst⟩
    refine ⟨_, rfl, ?_⟩
    replace hst := hst.of1
    refine wl_nil (blk_n (then_n (wp_seq (wp_region_lit ?_))))
    refine wv (.pointer (some ⟨b368, 0, none⟩)) rfl rfl (x_load rfl Try.isAgg56 (hst.bc2 rfl)) ?_
    obtain ⟨t448, ht449, hm⟩ := bind_some hm
    refine wl_call rfl rfl (x_call Try.call14 rfl (vs := [.pointer (some ⟨b368, 0, none⟩)]) rfl) ?_
    refine (octet_Writer_Done_ref hst.to1 ht449).mono ?_
    rintro _ w450 ⟨v453, rfl, hst⟩
    refine ⟨_, rfl, ?_⟩
    replace hst := hst.of1
    refine wv (v453) rfl rfl rfl ?_
    refine wl_nil (then_n (wp_ret ?_))
    obtain rfl := some_inj hm
    refine post_ret (vs := [v453]) Try.results10 (rvs_cons (rv_tmp rfl) rvs_nil) ?_
    exact ⟨v453, rfl, hst.keep1⟩
   ·skip
    replace hm := bif_f hc412 hm
    refine wp_iff (congrArg Value.bool hc412) ?_
    refine wp_seq (wp_region_lit ?_)
    refine wv (.bool (a0.Kind == (4:Int))) rfl rfl rfl ?_
    refine wv (.bool (a0.Kind == (4:Int))) rfl rfl rfl ?_
    refine wl_nil (then_n ?_)
    refine bsplit (a0.Kind == (4:Int)) (fun hc455 => ?_) (fun hc455 => ?_)
    ·skip
     replace hm := bif_t hc455 hm
     refine wp_ift (congrArg Value.bool hc455) ?_
     refine wp_seq (wp_region_lit ?_)
     refine wv (.func (.func 28) #[] #[.pointer (some ⟨b374, 0, none⟩), .pointer (some ⟨b361, 0, none⟩)]) rfl rfl rfl ?_
     obtain ⟨y468, hq469, hm⟩ := bind_some hm
     refine wl_call rfl rfl (x_callv Try.call28 (caps := [.pointer (some ⟨b374, 0, none⟩), .pointer (some ⟨b361, 0, none⟩)]) rfl (vs := []) rfl) ?_
     refine Calls.mono (show Calls Try.prog 28 #[.pointer (some ⟨b374, 0, none⟩), .pointer (some ⟨b361, 0, none⟩)] _ (fun e w' => ∃ (z466 : octet_Writer), y468 = z466 ∧ e = .returned (.tuple #[]) ∧ St w0 w' I [cells b361 [.int .u8 a0.Kind, .int .u64 a0.ID.Session, .int .u64 a0.ID.Seq, .int .u64 a0.Epoch, .int .u64 a0.Index, .int .i64 a0.E, .int .u64 a0.Hold.ID.Session, .int .u64 a0.Hold.ID.Seq, .int .u64 a0.Hold.Epoch, r0_0, r0_1, r0_2, r0_3, r0_4, .int .i64 a0.R.E, .int .u64 a0.R.Epoch, .int .u64 a0.R.Index, r0_5, r0_6, .int .u64 a0.Shards, r0_7, .int .u64 a0.Rule.ID, .int .i64 a0.Rule.From, .int .i64 a0.Rule.To, .float .f64 a0.Rule.Lo, .float .f64 a0.Rule.Hi, .int .u64 a0.Rule.Authority, .int .i64 a0.Rule.Quota, .bool a0.On], at_octet_Writer (.pointer (some ⟨b368, 0, none⟩)) z466, cells b374 [.pointer (some ⟨b368, 0, none⟩)]] R) from ?_) ?_
     ·skip
      clear hm; have hm := hq469
      refine calls_start (args := [.pointer (some ⟨b374, 0, none⟩), .pointer (some ⟨b361, 0, none⟩)]) Try.func28 rfl Try.ntmps28 (Nat.le_of_ble_eq_true rfl) ?_
      refine wp_region_St hst 9 [0, 1, 2, 3, 4, 5, 6, 7, 8] [0, 0, 2, 6, 15, 0, 32, 96, 255] [] rfl (by kernel_rfl) (by kernel_rfl) Try.mixed (by kernel_rfl) ?_
      refine wsr (.pointer (some ⟨b368, 0, none⟩)) 0 rfl rfl rfl (by kernel_rfl) (fun w hst => x_load rfl Try.isAgg56 (hst.bc1 rfl)) ?_
      refine wsr (.pointer (some ⟨b361, 1, none⟩)) 1 rfl rfl rfl (by kernel_rfl) (fun w hst => x_field rfl Try.underlying45 rfl Try.sizeOf29 rfl) ?_
      refine wsr (.pointer (some ⟨b361, 1, none⟩)) 2 rfl rfl rfl (by kernel_rfl) (fun w hst => x_field rfl Try.underlying29 rfl Try.sizeOf27 rfl) ?_
      refine wsr (.int .u64 a0.ID.Session) 3 rfl rfl rfl (by kernel_rfl) (fun w hst => x_load rfl Try.isAgg27 (hst.bc2 rfl)) ?_
      refine wsr (.pointer (some ⟨b361, 1, none⟩)) 5 rfl rfl rfl (by kernel_rfl) (fun w hst => x_field rfl Try.underlying45 rfl Try.sizeOf29 rfl) ?_
      refine wsr (.pointer (some ⟨b361, 2, none⟩)) 6 rfl rfl rfl (by kernel_rfl) (fun w hst => x_field rfl Try.underlying29 rfl Try.sizeOf27 rfl) ?_
      refine wsr (.int .u64 a0.ID.Seq) 7 rfl rfl rfl (by kernel_rfl) (fun w hst => x_load rfl Try.isAgg27 (hst.bc2 rfl)) ?_
      refine ws_e1 4 (by kernel_rfl) ?_
      refine nxe [8] (by kernel_rfl) rfl rfl ?_
      clear hst
      intro w hst
      obtain ⟨t456, ht457, hm⟩ := bind_some hm
      refine we_call rfl (x_call Try.call27 rfl (vs := [.pointer (some ⟨b368, 0, none⟩), .int .u64 a0.ID.Session, .int .i64 (8:Int)]) rfl) ?_
      refine (octet_Writer_Num_ref hst.to1 ht457).mono ?_
      rintro _ w458 ⟨rfl, hst⟩
      refine ⟨_, rfl, ?_⟩
      replace hst := hst.of1
      refine ws_next (pend' := [(7, .int .u64 a0.ID.Seq), (6, .pointer (some ⟨b361, 2, none⟩)), (5, .pointer (some ⟨b361, 1, none⟩))]) hst (by kernel_rfl) (pkr rfl rfl (fun w hst => x_load rfl Try.isAgg27 (hst.bc2 rfl)) (pkr rfl rfl (fun w hst => x_field rfl Try.underlying29 rfl Try.sizeOf27 rfl) (pkr rfl rfl (fun w hst => x_field rfl Try.underlying45 rfl Try.sizeOf29 rfl) pk_nil))) ?_
      refine ws_e1 8 (by kernel_rfl) ?_
      refine nxe [] (by kernel_rfl) rfl rfl ?_
      clear hst
      intro w hst
      obtain ⟨t461, ht462, hm⟩ := bind_some hm
      refine we_call rfl (x_call Try.call27 rfl (vs := [.pointer (some ⟨b368, 0, none⟩), .int .u64 a0.ID.Seq, .int .i64 (8:Int)]) rfl) ?_
      refine (octet_Writer_Num_ref hst.to1 ht462).mono ?_
      rintro _ w463 ⟨rfl, hst⟩
      refine ⟨_, rfl, ?_⟩
      replace hst := hst.of1
      refine ws_next (pend' := []) hst (by kernel_rfl) pk_nil ?_
      refine ws_nil ?_
      intro w hst
      refine post_end (vs := []) Try.results28 rvs_nil ?_
      replace hst := hst.pull1
      replace hst := hst.pull1
      replace hst := hst.pull2
      replace hst := hst.keep3
      obtain rfl := some_inj hm
      exact ⟨t461, rfl, rfl, hst⟩
     clear hst
     rintro _ w470 ⟨z466, rfl, rfl, hst⟩
     refine ⟨_, rfl, ?_⟩
     try dsimp only at hm
     refine wl_nil (then_n (wp_seq ?_))
     refine wp_region_St hst 12 [0, 1, 2, 3, 4, 5, 6, 7, 8, 9, 10, 11] [0, 0, 2, 7, 0, 16, 63, 0, 128, 384, 896, 2047] [] rfl (by kernel_rfl) (by kernel_rfl) Try.mixed (by kernel_rfl) ?_
     refine wsr (.pointer (some ⟨b368, 0, none⟩)) 0 rfl rfl rfl (by kernel_rfl) (fun w hst => x_load rfl Try.isAgg56 (hst.bc2 rfl)) ?_
     refine wsr (.pointer (some ⟨b361, 3, none⟩)) 1 rfl rfl rfl (by kernel_rfl) (fun w hst => x_field rfl Try.underlying45 rfl Try.sizeOf27 rfl) ?_
     refine wsr (.int .u64 a0.Epoch) 2 rfl rfl rfl (by kernel_rfl) (fun w hst => x_load rfl Try.isAgg27 (hst.bc0 rfl)) ?_
     refine wsr (.pointer (some ⟨b361, 19, none⟩)) 4 rfl rfl rfl (by kernel_rfl) (fun w hst => x_field rfl Try.underlying45 rfl Try.sizeOf27 rfl) ?_
     refine wsr (.int .u64 a0.Shards) 5 rfl rfl rfl (by kernel_rfl) (fun w hst => x_load rfl Try.isAgg27 (hst.bc0 rfl)) ?_
     refine wsr (.pointer (some ⟨b361, 20, none⟩)) 7 rfl rfl rfl (by kernel_rfl) (fun w hst => x_field rfl Try.underlying45 rfl Try.sizeOf40 rfl) ?_
     refine wsr (r0_7) 8 rfl rfl rfl (by kernel_rfl) (fun w hst => x_load rfl Try.isAgg40 (hst.bc0 rfl)) ?_
     refine wsr (.int .i64 ((a0.Parts).length : Int)) 9 rfl rfl rfl (by kernel_rfl) (fun w hst => x_len rfl Try.underlying40 (rd_sliceV f0_7)) ?_
     refine wsr (.int .u64 (IntKind.u64.wrap ((a0.Parts).length : Int))) 10 rfl rfl rfl (by kernel_rfl) (fun w hst => by kernel_rfl) ?_
     refine ws_e1 3 (by kernel_rfl) ?_
     refine nxe [6, 11] (by kernel_rfl) rfl rfl ?_
     clear hst
     intro w hst
     replace hst := hst.pull1
     obtain ⟨t471, ht472, hm⟩ := bind_some hm
     refine we_call rfl (x_call Try.call27 rfl (vs := [.pointer (some ⟨b368, 0, none⟩), .int .u64 a0.Epoch, .int .i64 (8:Int)]) rfl) ?_
     refine (octet_Writer_Num_ref hst.to1 ht472).mono ?_
     rintro _ w473 ⟨rfl, hst⟩
     refine ⟨_, rfl, ?_⟩
     replace hst := hst.of1
     refine ws_next (pend' := [(10, .int .u64 (IntKind.u64.wrap ((a0.Parts).length : Int))), (9, .int .i64 ((a0.Parts).length : Int)), (8, r0_7), (7, .pointer (some ⟨b361, 20, none⟩)), (5, .int .u64 a0.Shards), (4, .pointer (some ⟨b361, 19, none⟩))]) hst (by kernel_rfl) (pkr rfl rfl (fun w hst => by kernel_rfl) (pkr rfl rfl (fun w hst => x_len rfl Try.underlying40 (rd_sliceV f0_7)) (pkr rfl rfl (fun w hst => x_load rfl Try.isAgg40 (hst.bc1 rfl)) (pkr rfl rfl (fun w hst => x_field rfl Try.underlying45 rfl Try.sizeOf40 rfl) (pkr rfl rfl (fun w hst => x_load rfl Try.isAgg27 (hst.bc1 rfl)) (pkr rfl rfl (fun w hst => x_field rfl Try.underlying45 rfl Try.sizeOf27 rfl) pk_nil)))))) ?_
     refine ws_e1 6 (by kernel_rfl) ?_
     refine nxe [11] (by kernel_rfl) rfl rfl ?_
     clear hst
     intro w hst
     obtain ⟨t476, ht477, hm⟩ := bind_some hm
     refine we_call rfl (x_call Try.call27 rfl (vs := [.pointer (some ⟨b368, 0, none⟩), .int .u64 a0.Shards, .int .i64 (2:Int)]) rfl) ?_
     refine (octet_Writer_Num_ref hst.to1 ht477).mono ?_
     rintro _ w478 ⟨rfl, hst⟩
     refine ⟨_, rfl, ?_⟩
     replace hst := hst.of1
     refine ws_next (pend' := [(10, .int .u64 (IntKind.u64.wrap ((a0.Parts).length : Int))), (9, .int .i64 ((a0.Parts).length : Int)), (8, r0_7), (7, .pointer (some ⟨b361, 20, none⟩))]) hst (by kernel_rfl) (pkr rfl rfl (fun w hst => by kernel_rfl) (pkr rfl rfl (fun w hst => x_len rfl Try.underlying40 (rd_sliceV f0_7)) (pkr rfl rfl (fun w hst => x_load rfl Try.isAgg40 (hst.bc1 rfl)) (pkr rfl rfl (fun w hst => x_field rfl Try.underlying45 rfl Try.sizeOf40 rfl) pk_nil)))) ?_
     refine ws_e1 11 (by kernel_rfl) ?_
     refine nxe [] (by kernel_rfl) rfl rfl ?_
     clear hst
     intro w hst
     obtain ⟨t481, ht482, hm⟩ := bind_some hm
     refine we_call rfl (x_call Try.call27 rfl (vs := [.pointer (some ⟨b368, 0, none⟩), .int .u64 (IntKind.u64.wrap ((a0.Parts).length : Int)), .int .i64 (4:Int)]) rfl) ?_
     refine (octet_Writer_Num_ref hst.to1 ht482).mono ?_
     rintro _ w483 ⟨rfl, hst⟩
     refine ⟨_, rfl, ?_⟩
     replace hst := hst.of1
     refine ws_next (pend' := []) hst (by kernel_rfl) pk_nil ?_
     refine ws_nil ?_
     intro w hst
     refine then_n ?_
     obtain ⟨y591, hm, hx592⟩ := bind_some hm
     refine wp_cut (fun a w => ∃ (z588 : octet_Writer) (σ589 : Nat → Value), (command_Encode_j0 a0) z588 = some r ∧ a = Fr 121 (upd (upd σ589 1 (.pointer (some ⟨b361, 0, none⟩))) 3 (.pointer (some ⟨b374, 0, none⟩))) ∧ St w0 w I [cells b361 [.int .u8 a0.Kind, .int .u64 a0.ID.Session, .int .u64 a0.ID.Seq, .int .u64 a0.Epoch, .int .u64 a0.Index, .int .i64 a0.E, .int .u64 a0.Hold.ID.Session, .int .u64 a0.Hold.ID.Seq, .int .u64 a0.Hold.Epoch, r0_0, r0_1, r0_2, r0_3, r0_4, .int .i64 a0.R.E, .int .u64 a0.R.Epoch, .int .u64 a0.R.Index, r0_5, r0_6, .int .u64 a0.Shards, r0_7, .int .u64 a0.Rule.ID, .int .i64 a0.Rule.From, .int .i64 a0.Rule.To, .float .f64 a0.Rule.Lo, .float .f64 a0.Rule.Hi, .int .u64 a0.Rule.Authority, .int .i64 a0.Rule.Quota, .bool a0.On], cells b374 [.pointer (some ⟨b368, 0, none⟩)], at_octet_Writer (.pointer (some ⟨b368, 0, none⟩)) z588] R) ?_ ?_
     ·skip
      refine wp_seq (wp_region_lit ?_)
      refine wv (.pointer (some ⟨b361, 20, none⟩)) rfl rfl (x_field rfl Try.underlying45 rfl Try.sizeOf40 rfl) ?_
      refine wv (r0_7) rfl rfl (x_load rfl Try.isAgg40 (hst.bc1 rfl)) ?_
      refine wv (.int .i64 ((a0.Parts).length : Int)) rfl rfl (x_len rfl Try.underlying40 (rd_sliceV f0_7)) ?_
      refine wv (.int .i64 (0:Int)) rfl rfl rfl ?_
      refine wl_nil (then_n (wp_block ?_))
      obtain ⟨n551, hm⟩ := loopO_some hm
      refine wp_loop_n (fun n a w => ∃ (z548 : octet_Writer) (z549 : Int) (σ550 : Nat → Value), loopN (command_Encode_l1 a0) n (z548, z549) = some y591 ∧ a = Fr 121 (upd (upd (upd (upd (upd σ550 1 (.pointer (some ⟨b361, 0, none⟩))) 3 (.pointer (some ⟨b374, 0, none⟩))) 65 (r0_7)) 66 (.int .i64 ((a0.Parts).length : Int))) 67 (.int .i64 z549)) ∧ St w0 w I [at_octet_Writer (.pointer (some ⟨b368, 0, none⟩)) z548, cells b361 [.int .u8 a0.Kind, .int .u64 a0.ID.Session, .int .u64 a0.ID.Seq, .int .u64 a0.Epoch, .int .u64 a0.Index, .int .i64 a0.E, .int .u64 a0.Hold.ID.Session, .int .u64 a0.Hold.ID.Seq, .int .u64 a0.Hold.Epoch, r0_0, r0_1, r0_2, r0_3, r0_4, .int .i64 a0.R.E, .int .u64 a0.R.Epoch, .int .u64 a0.R.Index, r0_5, r0_6, .int .u64 a0.Shards, r0_7, .int .u64 a0.Rule.ID, .int .i64 a0.Rule.From, .int .i64 a0.Rule.To, .float .f64 a0.Rule.Lo, .float .f64 a0.Rule.Hi, .int .u64 a0.Rule.Authority, .int .i64 a0.Rule.Quota, .bool a0.On], cells b374 [.pointer (some ⟨b368, 0, none⟩)]] R) n551 ⟨t481, (0:Int), _, hm, ((fr_upd (t := 1) (v := .pointer (some ⟨b361, 0, none⟩)) rfl).trans ((fr_upd (t := 3) (v := .pointer (some ⟨b374, 0, none⟩)) rfl).trans ((fr_upd (t := 65) (v := r0_7) rfl).trans ((fr_upd (t := 66) (v := .int .i64 ((a0.Parts).length : Int)) rfl).trans ((fr_upd (t := 67) (v := .int .i64 (0:Int)) rfl).trans rfl))))), hst⟩ ?_
      rintro n557 _ w552 ⟨z548, z549, σ550, hm, rfl, hst⟩
      obtain ⟨n554, y555, rfl, hm, hx556⟩ := loopN_some hm
      dsimp only [command_Encode_l1] at hm
      refine wp_seq (wp_region_lit ?_)
      refine wv (.bool (decide (z549 < ((a0.Parts).length : Int)))) rfl rfl rfl ?_
      refine wl_nil (then_n (wp_seq ?_))
      refine bsplit (decide (z549 < ((a0.Parts).length : Int))) (fun hc558 => ?_) (fun hc558 => ?_)
      ·skip
       replace hm := bif_t hc558 hm
       refine wp_ift (congrArg Value.bool hc558) ?_
       refine wp_skip (then_n (wp_seq (wp_block (wp_seq (wp_region_lit ?_)))))
       obtain ⟨x559, hx560, hm⟩ := bind_some hm
       obtain ⟨h561, h562, hi563⟩ := geto_some hx560
       refine wv (.pointer (some (eAddr r0_7 (z549.toNat * 2 + 0)))) rfl rfl (x_index rfl rfl Try.underlying40 Try.sizeOf81 (rd_sliceV f0_7) h561 h562) ?_
       obtain ⟨cs564, hr565, hc566⟩ := Rd.getF f0_7 hi563
       obtain ⟨v567, rfl, f568, -⟩ := hr565
       refine wv (.agg #[.int .i64 x559.Shard, v567]) rfl rfl (x_loadN (cs := [.int .i64 x559.Shard, v567]) rfl Try.isAgg81 Try.sizeOf81 (eCells (o := 0) (hc566 (HL.le.refl _) hst) rfl)) ?_
       obtain ⟨b571, w572, ew573, eb574, hst⟩ := hst.box [.int .i64 (0:Int), (.slice none 0 0)] 81
       refine wl_run (v := .pointer (some ⟨b571, 0, none⟩)) (w' := w572) rfl rfl (x_al (by kernel_rfl) ew573 eb574) ?_
       obtain ⟨w576, hr577, hst⟩ := hst.boxStore (P := Try.prog) (t := 81) (cs' := [.int .i64 x559.Shard, v567]) 0 (.agg #[.int .i64 x559.Shard, v567]) Try.sizeOf81 (Nat.le_of_ble_eq_true rfl) (ones_cons rfl (ones_cons (one_of_sliceV (rd_sliceV f568)) ones_nil)) (by kernel_rfl)
       refine wl_unit rfl rfl (x_unit hr577) ?_
       refine wl_nil (then_n (wp_seq (wp_region_lit ?_)))
       refine wv (.pointer (some ⟨b368, 0, none⟩)) rfl rfl (x_load rfl Try.isAgg56 (hst.bc3 rfl)) ?_
       refine wv (.pointer (some ⟨b571, 0, none⟩)) rfl rfl (x_field rfl Try.underlying81 rfl Try.sizeOf3 rfl) ?_
       refine wv (.int .i64 x559.Shard) rfl rfl (x_load rfl Try.isAgg3 (hst.bc0 rfl)) ?_
       refine wv (.int .u64 (IntKind.u64.wrap x559.Shard)) rfl rfl (by kernel_rfl) ?_
       replace hst := hst.pull1
       obtain ⟨t578, ht579, hm⟩ := bind_some hm
       refine wl_call rfl rfl (x_call Try.call27 rfl (vs := [.pointer (some ⟨b368, 0, none⟩), .int .u64 (IntKind.u64.wrap x559.Shard), .int .i64 (1:Int)]) rfl) ?_
       refine (octet_Writer_Num_ref hst.to1 ht579).mono ?_
       rintro _ w580 ⟨rfl, hst⟩
       refine ⟨_, rfl, ?_⟩
       replace hst := hst.of1
       refine wl_nil (then_n (wp_region_lit ?_))
       refine wv (.pointer (some ⟨b368, 0, none⟩)) rfl rfl (x_load rfl Try.isAgg56 (hst.bc3 rfl)) ?_
       refine wv (.pointer (some ⟨b571, 1, none⟩)) rfl rfl (x_field rfl Try.underlying81 rfl Try.sizeOf35 rfl) ?_
       refine wv (v567) rfl rfl (x_load rfl Try.isAgg35 (hst.bc1 rfl)) ?_
       obtain ⟨t583, ht584, hm⟩ := bind_some hm
       refine wl_call rfl rfl (x_call Try.call30 rfl (vs := [.pointer (some ⟨b368, 0, none⟩), v567]) rfl) ?_
       refine (command_writes_ref (f568.mono (rd_weak _)) hst.to1 ht584).mono ?_
       rintro _ w585 ⟨rfl, hst⟩
       refine ⟨_, rfl, ?_⟩
       replace hst := hst.of1
       refine wl_nil (blk_n (then_n (wp_region_lit ?_)))
       refine wv (.int .i64 (IntKind.i64.wrap (z549 + (1:Int)))) rfl rfl rfl ?_
       refine wv (.int .i64 (IntKind.i64.wrap (z549 + (1:Int)))) rfl rfl rfl ?_
       refine wl_nil (then_n ?_)
       replace hst := hst.pull3
       replace hst := hst.pull3
       replace hst := hst.pull2
       replace hst := hst.keep3
       obtain rfl := some_inj hm
       exact ⟨_, Nat.lt_succ_self _, t583, (IntKind.i64.wrap (z549 + (1:Int))), _, hx556, ((fr_upd (t := 1) (v := .pointer (some ⟨b361, 0, none⟩)) rfl).trans ((fr_upd (t := 3) (v := .pointer (some ⟨b374, 0, none⟩)) rfl).trans ((fr_upd (t := 65) (v := r0_7) rfl).trans ((fr_upd (t := 66) (v := .int .i64 ((a0.Parts).length : Int)) rfl).trans ((fr_upd (t := 67) (v := .int .i64 (IntKind.i64.wrap (z549 + (1:Int)))) rfl).trans rfl))))), hst⟩
      ·skip
       replace hm := bif_f hc558 hm
       refine wp_iff (congrArg Value.bool hc558) ?_
       refine wp_exit (then_x (then_x ?_))
       replace hm := inr_up hm hx556
       refine blk_x (then_n ?_)
       replace hst := hst.pull2
       replace hst := hst.pull2
       replace hst := hst.keep3
       obtain rfl := some_inj hm
       exact ⟨z548, _, hx592, ((fr_upd (t := 1) (v := .pointer (some ⟨b361, 0, none⟩)) rfl).trans ((fr_upd (t := 3) (v := .pointer (some ⟨b374, 0, none⟩)) rfl).trans rfl)), hst⟩
     ·skip
      clear hst
      rintro _ w593 ⟨z588, σ589, hm, rfl, hst⟩
      dsimp only [command_Encode_j0] at hm
      refine wp_region_lit ?_
      refine wv (.pointer (some ⟨b368, 0, none⟩)) rfl rfl (x_load rfl Try.isAgg56 (hst.bc1 rfl)) ?_
      refine wv (.pointer (some ⟨b361, 14, none⟩)) rfl rfl (x_field rfl Try.underlying45 rfl Try.sizeOf39 rfl) ?_
      refine wv (.agg #[.int .i64 a0.R.E, .int .u64 a0.R.Epoch, .int .u64 a0.R.Index, r0_5, r0_6]) rfl rfl (x_loadN (cs := [.int .i64 a0.R.E, .int .u64 a0.R.Epoch, .int .u64 a0.R.Index, r0_5, r0_6]) rfl Try.isAgg39 Try.sizeOf39 (hst.bcs0 14 rfl)) ?_
      replace hst := hst.pull2
      obtain ⟨t594, ht595, hm⟩ := bind_some hm
      refine wl_call rfl rfl (x_call Try.call13 rfl (vs := [.pointer (some ⟨b368, 0, none⟩), .agg #[.int .i64 a0.R.E, .int .u64 a0.R.Epoch, .int .u64 a0.R.Index, r0_5, r0_6]]) rfl) ?_
      refine (command_LayReply_ref (f0_5.mono (rd_weak _)) (f0_6.mono (rd_weak _)) hst.to1 ht595).mono ?_
      rintro _ w596 ⟨rfl, hst⟩
      refine ⟨_, rfl, ?_⟩
      replace hst := hst.of1
      refine wl_nil (blk_n (then_n (wp_seq (wp_region_lit ?_))))
      refine wv (.pointer (some ⟨b368, 0, none⟩)) rfl rfl (x_load rfl Try.isAgg56 (hst.bc2 rfl)) ?_
      obtain ⟨t599, ht600, hm⟩ := bind_some hm
      refine wl_call rfl rfl (x_call Try.call14 rfl (vs := [.pointer (some ⟨b368, 0, none⟩)]) rfl) ?_
      refine (octet_Writer_Done_ref hst.to1 ht600).mono ?_
      rintro _ w601 ⟨v604, rfl, hst⟩
      refine ⟨_, rfl, ?_⟩
      replace hst := hst.of1
      refine wv (v604) rfl rfl rfl ?_
      refine wl_nil (then_n (wp_ret ?_))
      obtain rfl := some_inj hm
      refine post_ret (vs := [v604]) Try.results10 (rvs_cons (rv_tmp rfl) rvs_nil) ?_
      exact ⟨v604, rfl, hst.keep1⟩
    ·skip
     replace hm := bif_f hc455 hm
     refine wp_iff (congrArg Value.bool hc455) ?_
     refine wp_seq (wp_region_lit ?_)
     refine wv (.bool (a0.Kind == (5:Int))) rfl rfl rfl ?_
     refine wv (.bool (a0.Kind == (5:Int))) rfl rfl rfl ?_
     refine wl_nil (then_n ?_)
     refine bsplit (a0.Kind == (5:Int)) (fun hc606 => ?_) (fun hc606 => ?_)
     ·skip
      replace hm := bif_t hc606 hm
      refine wp_ift (congrArg Value.bool hc606) ?_
      refine wp_region_lit ?_
      refine wv (.func (.func 28) #[] #[.pointer (some ⟨b374, 0, none⟩), .pointer (some ⟨b361, 0, none⟩)]) rfl rfl rfl ?_
      obtain ⟨y619, hq620, hm⟩ := bind_some hm
      refine wl_call rfl rfl (x_callv Try.call28 (caps := [.pointer (some ⟨b374, 0, none⟩), .pointer (some ⟨b361, 0, none⟩)]) rfl (vs := []) rfl) ?_
      refine Calls.mono (show Calls Try.prog 28 #[.pointer (some ⟨b374, 0, none⟩), .pointer (some ⟨b361, 0, none⟩)] _ (fun e w' => ∃ (z617 : octet_Writer), y619 = z617 ∧ e = .returned (.tuple #[]) ∧ St w0 w' I [cells b361 [.int .u8 a0.Kind, .int .u64 a0.ID.Session, .int .u64 a0.ID.Seq, .int .u64 a0.Epoch, .int .u64 a0.Index, .int .i64 a0.E, .int .u64 a0.Hold.ID.Session, .int .u64 a0.Hold.ID.Seq, .int .u64 a0.Hold.Epoch, r0_0, r0_1, r0_2, r0_3, r0_4, .int .i64 a0.R.E, .int .u64 a0.R.Epoch, .int .u64 a0.R.Index, r0_5, r0_6, .int .u64 a0.Shards, r0_7, .int .u64 a0.Rule.ID, .int .i64 a0.Rule.From, .int .i64 a0.Rule.To, .float .f64 a0.Rule.Lo, .float .f64 a0.Rule.Hi, .int .u64 a0.Rule.Authority, .int .i64 a0.Rule.Quota, .bool a0.On], at_octet_Writer (.pointer (some ⟨b368, 0, none⟩)) z617, cells b374 [.pointer (some ⟨b368, 0, none⟩)]] R) from ?_) ?_
      ·skip
       clear hm; have hm := hq620
       refine calls_start (args := [.pointer (some ⟨b374, 0, none⟩), .pointer (some ⟨b361, 0, none⟩)]) Try.func28 rfl Try.ntmps28 (Nat.le_of_ble_eq_true rfl) ?_
       refine wp_region_St hst 9 [0, 1, 2, 3, 4, 5, 6, 7, 8] [0, 0, 2, 6, 15, 0, 32, 96, 255] [] rfl (by kernel_rfl) (by kernel_rfl) Try.mixed (by kernel_rfl) ?_
       refine wsr (.pointer (some ⟨b368, 0, none⟩)) 0 rfl rfl rfl (by kernel_rfl) (fun w hst => x_load rfl Try.isAgg56 (hst.bc1 rfl)) ?_
       refine wsr (.pointer (some ⟨b361, 1, none⟩)) 1 rfl rfl rfl (by kernel_rfl) (fun w hst => x_field rfl Try.underlying45 rfl Try.sizeOf29 rfl) ?_
       refine wsr (.pointer (some ⟨b361, 1, none⟩)) 2 rfl rfl rfl (by kernel_rfl) (fun w hst => x_field rfl Try.underlying29 rfl Try.sizeOf27 rfl) ?_
       refine wsr (.int .u64 a0.ID.Session) 3 rfl rfl rfl (by kernel_rfl) (fun w hst => x_load rfl Try.isAgg27 (hst.bc2 rfl)) ?_
       refine wsr (.pointer (some ⟨b361, 1, none⟩)) 5 rfl rfl rfl (by kernel_rfl) (fun w hst => x_field rfl Try.underlying45 rfl Try.sizeOf29 rfl) ?_
       refine wsr (.pointer (some ⟨b361, 2, none⟩)) 6 rfl rfl rfl (by kernel_rfl) (fun w hst => x_field rfl Try.underlying29 rfl Try.sizeOf27 rfl) ?_
       refine wsr (.int .u64 a0.ID.Seq) 7 rfl rfl rfl (by kernel_rfl) (fun w hst => x_load rfl Try.isAgg27 (hst.bc2 rfl)) ?_
       refine ws_e1 4 (by kernel_rfl) ?_
       refine nxe [8] (by kernel_rfl) rfl rfl ?_
       clear hst
       intro w hst
       obtain ⟨t607, ht608, hm⟩ := bind_some hm
       refine we_call rfl (x_call Try.call27 rfl (vs := [.pointer (some ⟨b368, 0, none⟩), .int .u64 a0.ID.Session, .int .i64 (8:Int)]) rfl) ?_
       refine (octet_Writer_Num_ref hst.to1 ht608).mono ?_
       rintro _ w609 ⟨rfl, hst⟩
       refine ⟨_, rfl, ?_⟩
       replace hst := hst.of1
       refine ws_next (pend' := [(7, .int .u64 a0.ID.Seq), (6, .pointer (some ⟨b361, 2, none⟩)), (5, .pointer (some ⟨b361, 1, none⟩))]) hst (by kernel_rfl) (pkr rfl rfl (fun w hst => x_load rfl Try.isAgg27 (hst.bc2 rfl)) (pkr rfl rfl (fun w hst => x_field rfl Try.underlying29 rfl Try.sizeOf27 rfl) (pkr rfl rfl (fun w hst => x_field rfl Try.underlying45 rfl Try.sizeOf29 rfl) pk_nil))) ?_
       refine ws_e1 8 (by kernel_rfl) ?_
       refine nxe [] (by kernel_rfl) rfl rfl ?_
       clear hst
       intro w hst
       obtain ⟨t612, ht613, hm⟩ := bind_some hm
       refine we_call rfl (x_call Try.call27 rfl (vs := [.pointer (some ⟨b368, 0, none⟩), .int .u64 a0.ID.Seq, .int .i64 (8:Int)]) rfl) ?_
       refine (octet_Writer_Num_ref hst.to1 ht613).mono ?_
       rintro _ w614 ⟨rfl, hst⟩
       refine ⟨_, rfl, ?_⟩
       replace hst := hst.of1
       refine ws_next (pend' := []) hst (by kernel_rfl) pk_nil ?_
       refine ws_nil ?_
       intro w hst
       refine post_end (vs := []) Try.results28 rvs_nil ?_
       replace hst := hst.pull1
       replace hst := hst.pull1
       replace hst := hst.pull2
       replace hst := hst.keep3
       obtain rfl := some_inj hm
       exact ⟨t612, rfl, rfl, hst⟩
      clear hst
      rintro _ w621 ⟨z617, rfl, rfl, hst⟩
      refine ⟨_, rfl, ?_⟩
      try dsimp only at hm
      refine wl_nil (blk_n (then_n (wp_seq (wp_region_lit ?_))))
      refine wv (.pointer (some ⟨b368, 0, none⟩)) rfl rfl (x_load rfl Try.isAgg56 (hst.bc2 rfl)) ?_
      replace hst := hst.pull1
      obtain ⟨t622, ht623, hm⟩ := bind_some hm
      refine wl_call rfl rfl (x_call Try.call14 rfl (vs := [.pointer (some ⟨b368, 0, none⟩)]) rfl) ?_
      refine (octet_Writer_Done_ref hst.to1 ht623).mono ?_
      rintro _ w624 ⟨v627, rfl, hst⟩
      refine ⟨_, rfl, ?_⟩
      replace hst := hst.of1
      refine wv (v627) rfl rfl rfl ?_
      refine wl_nil (then_n (wp_ret ?_))
      obtain rfl := some_inj hm
      refine post_ret (vs := [v627]) Try.results10 (rvs_cons (rv_tmp rfl) rvs_nil) ?_
      exact ⟨v627, rfl, hst.keep1⟩
     ·skip
      replace hm := bif_f hc606 hm
      refine wp_iff (congrArg Value.bool hc606) ?_
      refine wp_seq (wp_region_lit ?_)
      refine wv (.bool (a0.Kind == (6:Int))) rfl rfl rfl ?_
      refine wv (.bool (a0.Kind == (6:Int))) rfl rfl rfl ?_
      refine wl_nil (then_n ?_)
      refine bsplit (a0.Kind == (6:Int)) (fun hc629 => ?_) (fun hc629 => ?_)
      ·skip
       replace hm := bif_t hc629 hm
       refine wp_ift (congrArg Value.bool hc629) ?_
       refine wp_seq (wp_region_lit ?_)
       refine wv (.pointer (some ⟨b368, 0, none⟩)) rfl rfl (x_load rfl Try.isAgg56 (hst.bc1 rfl)) ?_
       refine wv (.pointer (some ⟨b361, 21, none⟩)) rfl rfl (x_field rfl Try.underlying45 rfl Try.sizeOf43 rfl) ?_
       refine wv (.agg #[.int .u64 a0.Rule.ID, .int .i64 a0.Rule.From, .int .i64 a0.Rule.To, .float .f64 a0.Rule.Lo, .float .f64 a0.Rule.Hi, .int .u64 a0.Rule.Authority, .int .i64 a0.Rule.Quota]) rfl rfl (x_loadN (cs := [.int .u64 a0.Rule.ID, .int .i64 a0.Rule.From, .int .i64 a0.Rule.To, .float .f64 a0.Rule.Lo, .float .f64 a0.Rule.Hi, .int .u64 a0.Rule.Authority, .int .i64 a0.Rule.Quota]) rfl Try.isAgg43 Try.sizeOf43 (hst.bcs2 21 rfl)) ?_
       obtain ⟨t630, ht631, hm⟩ := bind_some hm
       refine wl_call rfl rfl (x_call Try.call31 rfl (vs := [.pointer (some ⟨b368, 0, none⟩), .agg #[.int .u64 a0.Rule.ID, .int .i64 a0.Rule.From, .int .i64 a0.Rule.To, .float .f64 a0.Rule.Lo, .float .f64 a0.Rule.Hi, .int .u64 a0.Rule.Authority, .int .i64 a0.Rule.Quota]]) rfl) ?_
       refine (command_layRule_ref hst.to1 ht631).mono ?_
       rintro _ w632 ⟨rfl, hst⟩
       refine ⟨_, rfl, ?_⟩
       replace hst := hst.of1
       refine wl_nil (then_n (wp_region_lit ?_))
       refine wv (.pointer (some ⟨b368, 0, none⟩)) rfl rfl (x_load rfl Try.isAgg56 (hst.bc1 rfl)) ?_
       refine wv (.pointer (some ⟨b361, 28, none⟩)) rfl rfl (x_field rfl Try.underlying45 rfl Try.sizeOf4 rfl) ?_
       refine wv (.bool a0.On) rfl rfl (x_load rfl Try.isAgg4 (hst.bc2 rfl)) ?_
       obtain ⟨t635, ht636, hm⟩ := bind_some hm
       refine wl_call rfl rfl (x_call Try.call32 rfl (vs := [.pointer (some ⟨b368, 0, none⟩), .bool a0.On]) rfl) ?_
       refine (octet_Writer_Flag_ref hst.to1 ht636).mono ?_
       rintro _ w637 ⟨rfl, hst⟩
       refine ⟨_, rfl, ?_⟩
       replace hst := hst.of1
       refine wl_nil (blk_n (then_n (wp_seq (wp_region_lit ?_))))
       refine wv (.pointer (some ⟨b368, 0, none⟩)) rfl rfl (x_load rfl Try.isAgg56 (hst.bc1 rfl)) ?_
       obtain ⟨t640, ht641, hm⟩ := bind_some hm
       refine wl_call rfl rfl (x_call Try.call14 rfl (vs := [.pointer (some ⟨b368, 0, none⟩)]) rfl) ?_
       refine (octet_Writer_Done_ref hst.to1 ht641).mono ?_
       rintro _ w642 ⟨v645, rfl, hst⟩
       refine ⟨_, rfl, ?_⟩
       replace hst := hst.of1
       refine wv (v645) rfl rfl rfl ?_
       refine wl_nil (then_n (wp_ret ?_))
       obtain rfl := some_inj hm
       refine post_ret (vs := [v645]) Try.results10 (rvs_cons (rv_tmp rfl) rvs_nil) ?_
       exact ⟨v645, rfl, hst.keep1⟩
      ·skip
       replace hm := bif_f hc629 hm
       refine wp_iff (congrArg Value.bool hc629) ?_
       refine wp_seq (wp_region_lit ?_)
       refine wv (.bool (a0.Kind == (7:Int))) rfl rfl rfl ?_
       refine wv (.bool (a0.Kind == (7:Int))) rfl rfl rfl ?_
       refine wl_nil (then_n ?_)
       refine bsplit (a0.Kind == (7:Int)) (fun hc647 => ?_) (fun hc647 => ?_)
       ·skip
        replace hm := bif_t hc647 hm
        refine wp_ift (congrArg Value.bool hc647) ?_
        refine wp_seq (wp_region_lit ?_)
        refine wv (.func (.func 28) #[] #[.pointer (some ⟨b374, 0, none⟩), .pointer (some ⟨b361, 0, none⟩)]) rfl rfl rfl ?_
        obtain ⟨y660, hq661, hm⟩ := bind_some hm
        refine wl_call rfl rfl (x_callv Try.call28 (caps := [.pointer (some ⟨b374, 0, none⟩), .pointer (some ⟨b361, 0, none⟩)]) rfl (vs := []) rfl) ?_
        refine Calls.mono (show Calls Try.prog 28 #[.pointer (some ⟨b374, 0, none⟩), .pointer (some ⟨b361, 0, none⟩)] _ (fun e w' => ∃ (z658 : octet_Writer), y660 = z658 ∧ e = .returned (.tuple #[]) ∧ St w0 w' I [cells b361 [.int .u8 a0.Kind, .int .u64 a0.ID.Session, .int .u64 a0.ID.Seq, .int .u64 a0.Epoch, .int .u64 a0.Index, .int .i64 a0.E, .int .u64 a0.Hold.ID.Session, .int .u64 a0.Hold.ID.Seq, .int .u64 a0.Hold.Epoch, r0_0, r0_1, r0_2, r0_3, r0_4, .int .i64 a0.R.E, .int .u64 a0.R.Epoch, .int .u64 a0.R.Index, r0_5, r0_6, .int .u64 a0.Shards, r0_7, .int .u64 a0.Rule.ID, .int .i64 a0.Rule.From, .int .i64 a0.Rule.To, .float .f64 a0.Rule.Lo, .float .f64 a0.Rule.Hi, .int .u64 a0.Rule.Authority, .int .i64 a0.Rule.Quota, .bool a0.On], at_octet_Writer (.pointer (some ⟨b368, 0, none⟩)) z658, cells b374 [.pointer (some ⟨b368, 0, none⟩)]] R) from ?_) ?_
        ·skip
         clear hm; have hm := hq661
         refine calls_start (args := [.pointer (some ⟨b374, 0, none⟩), .pointer (some ⟨b361, 0, none⟩)]) Try.func28 rfl Try.ntmps28 (Nat.le_of_ble_eq_true rfl) ?_
         refine wp_region_St hst 9 [0, 1, 2, 3, 4, 5, 6, 7, 8] [0, 0, 2, 6, 15, 0, 32, 96, 255] [] rfl (by kernel_rfl) (by kernel_rfl) Try.mixed (by kernel_rfl) ?_
         refine wsr (.pointer (some ⟨b368, 0, none⟩)) 0 rfl rfl rfl (by kernel_rfl) (fun w hst => x_load rfl Try.isAgg56 (hst.bc1 rfl)) ?_
         refine wsr (.pointer (some ⟨b361, 1, none⟩)) 1 rfl rfl rfl (by kernel_rfl) (fun w hst => x_field rfl Try.underlying45 rfl Try.sizeOf29 rfl) ?_
         refine wsr (.pointer (some ⟨b361, 1, none⟩)) 2 rfl rfl rfl (by kernel_rfl) (fun w hst => x_field rfl Try.underlying29 rfl Try.sizeOf27 rfl) ?_
         refine wsr (.int .u64 a0.ID.Session) 3 rfl rfl rfl (by kernel_rfl) (fun w hst => x_load rfl Try.isAgg27 (hst.bc2 rfl)) ?_
         refine wsr (.pointer (some ⟨b361, 1, none⟩)) 5 rfl rfl rfl (by kernel_rfl) (fun w hst => x_field rfl Try.underlying45 rfl Try.sizeOf29 rfl) ?_
         refine wsr (.pointer (some ⟨b361, 2, none⟩)) 6 rfl rfl rfl (by kernel_rfl) (fun w hst => x_field rfl Try.underlying29 rfl Try.sizeOf27 rfl) ?_
         refine wsr (.int .u64 a0.ID.Seq) 7 rfl rfl rfl (by kernel_rfl) (fun w hst => x_load rfl Try.isAgg27 (hst.bc2 rfl)) ?_
         refine ws_e1 4 (by kernel_rfl) ?_
         refine nxe [8] (by kernel_rfl) rfl rfl ?_
         clear hst
         intro w hst
         obtain ⟨t648, ht649, hm⟩ := bind_some hm
         refine we_call rfl (x_call Try.call27 rfl (vs := [.pointer (some ⟨b368, 0, none⟩), .int .u64 a0.ID.Session, .int .i64 (8:Int)]) rfl) ?_
         refine (octet_Writer_Num_ref hst.to1 ht649).mono ?_
         rintro _ w650 ⟨rfl, hst⟩
         refine ⟨_, rfl, ?_⟩
         replace hst := hst.of1
         refine ws_next (pend' := [(7, .int .u64 a0.ID.Seq), (6, .pointer (some ⟨b361, 2, none⟩)), (5, .pointer (some ⟨b361, 1, none⟩))]) hst (by kernel_rfl) (pkr rfl rfl (fun w hst => x_load rfl Try.isAgg27 (hst.bc2 rfl)) (pkr rfl rfl (fun w hst => x_field rfl Try.underlying29 rfl Try.sizeOf27 rfl) (pkr rfl rfl (fun w hst => x_field rfl Try.underlying45 rfl Try.sizeOf29 rfl) pk_nil))) ?_
         refine ws_e1 8 (by kernel_rfl) ?_
         refine nxe [] (by kernel_rfl) rfl rfl ?_
         clear hst
         intro w hst
         obtain ⟨t653, ht654, hm⟩ := bind_some hm
         refine we_call rfl (x_call Try.call27 rfl (vs := [.pointer (some ⟨b368, 0, none⟩), .int .u64 a0.ID.Seq, .int .i64 (8:Int)]) rfl) ?_
         refine (octet_Writer_Num_ref hst.to1 ht654).mono ?_
         rintro _ w655 ⟨rfl, hst⟩
         refine ⟨_, rfl, ?_⟩
         replace hst := hst.of1
         refine ws_next (pend' := []) hst (by kernel_rfl) pk_nil ?_
         refine ws_nil ?_
         intro w hst
         refine post_end (vs := []) Try.results28 rvs_nil ?_
         replace hst := hst.pull1
         replace hst := hst.pull1
         replace hst := hst.pull2
         replace hst := hst.keep3
         obtain rfl := some_inj hm
         exact ⟨t653, rfl, rfl, hst⟩
        clear hst
        rintro _ w662 ⟨z658, rfl, rfl, hst⟩
        refine ⟨_, rfl, ?_⟩
        try dsimp only at hm
        refine wl_nil (then_n (wp_seq (wp_region_lit ?_)))
        refine wv (.pointer (some ⟨b368, 0, none⟩)) rfl rfl (x_load rfl Try.isAgg56 (hst.bc2 rfl)) ?_
        refine wv (.pointer (some ⟨b361, 3, none⟩)) rfl rfl (x_field rfl Try.underlying45 rfl Try.sizeOf27 rfl) ?_
        refine wv (.int .u64 a0.Epoch) rfl rfl (x_load rfl Try.isAgg27 (hst.bc0 rfl)) ?_
        replace hst := hst.pull1
        obtain ⟨t663, ht664, hm⟩ := bind_some hm
        refine wl_call rfl rfl (x_call Try.call27 rfl (vs := [.pointer (some ⟨b368, 0, none⟩), .int .u64 a0.Epoch, .int .i64 (8:Int)]) rfl) ?_
        refine (octet_Writer_Num_ref hst.to1 ht664).mono ?_
        rintro _ w665 ⟨rfl, hst⟩
        refine ⟨_, rfl, ?_⟩
        replace hst := hst.of1
        refine wl_nil (then_n (wp_seq (wp_region_lit ?_)))
        refine wv (.pointer (some ⟨b368, 0, none⟩)) rfl rfl (x_load rfl Try.isAgg56 (hst.bc2 rfl)) ?_
        refine wv (.pointer (some ⟨b361, 21, none⟩)) rfl rfl (x_field rfl Try.underlying45 rfl Try.sizeOf43 rfl) ?_
        refine wv (.agg #[.int .u64 a0.Rule.ID, .int .i64 a0.Rule.From, .int .i64 a0.Rule.To, .float .f64 a0.Rule.Lo, .float .f64 a0.Rule.Hi, .int .u64 a0.Rule.Authority, .int .i64 a0.Rule.Quota]) rfl rfl (x_loadN (cs := [.int .u64 a0.Rule.ID, .int .i64 a0.Rule.From, .int .i64 a0.Rule.To, .float .f64 a0.Rule.Lo, .float .f64 a0.Rule.Hi, .int .u64 a0.Rule.Authority, .int .i64 a0.Rule.Quota]) rfl Try.isAgg43 Try.sizeOf43 (hst.bcs1 21 rfl)) ?_
        obtain ⟨t668, ht669, hm⟩ := bind_some hm
        refine wl_call rfl rfl (x_call Try.call31 rfl (vs := [.pointer (some ⟨b368, 0, none⟩), .agg #[.int .u64 a0.Rule.ID, .int .i64 a0.Rule.From, .int .i64 a0.Rule.To, .float .f64 a0.Rule.Lo, .float .f64 a0.Rule.Hi, .int .u64 a0.Rule.Authority, .int .i64 a0.Rule.Quota]]) rfl) ?_
        refine (command_layRule_ref hst.to1 ht669).mono ?_
        rintro _ w670 ⟨rfl, hst⟩
        refine ⟨_, rfl, ?_⟩
        replace hst := hst.of1
        refine wl_nil (then_n (wp_seq (wp_region_lit ?_)))
        refine wv (.pointer (some ⟨b368, 0, none⟩)) rfl rfl (x_load rfl Try.isAgg56 (hst.bc2 rfl)) ?_
        refine wv (.pointer (some ⟨b361, 13, none⟩)) rfl rfl (x_field rfl Try.underlying45 rfl Try.sizeOf35 rfl) ?_
        refine wv (r0_4) rfl rfl (x_load rfl Try.isAgg35 (hst.bc1 rfl)) ?_
        obtain ⟨t673, ht674, hm⟩ := bind_some hm
        refine wl_call rfl rfl (x_call Try.call30 rfl (vs := [.pointer (some ⟨b368, 0, none⟩), r0_4]) rfl) ?_
        refine (command_writes_ref (f0_4.mono (rd_weak _)) hst.to1 ht674).mono ?_
        rintro _ w675 ⟨rfl, hst⟩
        refine ⟨_, rfl, ?_⟩
        replace hst := hst.of1
        refine wl_nil (then_n (wp_region_lit ?_))
        refine wv (.pointer (some ⟨b368, 0, none⟩)) rfl rfl (x_load rfl Try.isAgg56 (hst.bc2 rfl)) ?_
        refine wv (.pointer (some ⟨b361, 14, none⟩)) rfl rfl (x_field rfl Try.underlying45 rfl Try.sizeOf39 rfl) ?_
        refine wv (.agg #[.int .i64 a0.R.E, .int .u64 a0.R.Epoch, .int .u64 a0.R.Index, r0_5, r0_6]) rfl rfl (x_loadN (cs := [.int .i64 a0.R.E, .int .u64 a0.R.Epoch, .int .u64 a0.R.Index, r0_5, r0_6]) rfl Try.isAgg39 Try.sizeOf39 (hst.bcs1 14 rfl)) ?_
        obtain ⟨t678, ht679, hm⟩ := bind_some hm
        refine wl_call rfl rfl (x_call Try.call13 rfl (vs := [.pointer (some ⟨b368, 0, none⟩), .agg #[.int .i64 a0.R.E, .int .u64 a0.R.Epoch, .int .u64 a0.R.Index, r0_5, r0_6]]) rfl) ?_
        refine (command_LayReply_ref (f0_5.mono (rd_weak _)) (f0_6.mono (rd_weak _)) hst.to1 ht679).mono ?_
        rintro _ w680 ⟨rfl, hst⟩
        refine ⟨_, rfl, ?_⟩
        replace hst := hst.of1
        refine wl_nil (blk_n (then_n (wp_seq (wp_region_lit ?_))))
        refine wv (.pointer (some ⟨b368, 0, none⟩)) rfl rfl (x_load rfl Try.isAgg56 (hst.bc2 rfl)) ?_
        obtain ⟨t683, ht684, hm⟩ := bind_some hm
        refine wl_call rfl rfl (x_call Try.call14 rfl (vs := [.pointer (some ⟨b368, 0, none⟩)]) rfl) ?_
        refine (octet_Writer_Done_ref hst.to1 ht684).mono ?_
        rintro _ w685 ⟨v688, rfl, hst⟩
        refine ⟨_, rfl, ?_⟩
        replace hst := hst.of1
        refine wv (v688) rfl rfl rfl ?_
        refine wl_nil (then_n (wp_ret ?_))
        obtain rfl := some_inj hm
        refine post_ret (vs := [v688]) Try.results10 (rvs_cons (rv_tmp rfl) rvs_nil) ?_
        exact ⟨v688, rfl, hst.keep1⟩
       ·skip
        replace hm := bif_f hc647 hm
        refine wp_iff (congrArg Value.bool hc647) ?_
        refine wp_skip (blk_n (then_n (wp_seq (wp_region_lit ?_))))
        refine wv (.pointer (some ⟨b368, 0, none⟩)) rfl rfl (x_load rfl Try.isAgg56 (hst.bc1 rfl)) ?_
        obtain ⟨t690, ht691, hm⟩ := bind_some hm
        refine wl_call rfl rfl (x_call Try.call14 rfl (vs := [.pointer (some ⟨b368, 0, none⟩)]) rfl) ?_
        refine (octet_Writer_Done_ref hst.to1 ht691).mono ?_
        rintro _ w692 ⟨v695, rfl, hst⟩
        refine ⟨_, rfl, ?_⟩
        replace hst := hst.of1
        refine wv (v695) rfl rfl rfl ?_
        refine wl_nil (then_n (wp_ret ?_))
        obtain rfl := some_inj hm
        refine post_ret (vs := [v695]) Try.results10 (rvs_cons (rv_tmp rfl) rvs_nil) ?_
        exact ⟨v695, rfl, hst.keep1⟩

theorem law13_awake_ref {w0 w : World} {I : HL} {R : SP}   (hst : St w0 w I [] R) {r : (Bool)} (hm : law13_awake = some r) :
  Calls Try.prog 8 #[] w fun e w' => e = .returned (.bool r) ∧ St w0 w' I [] R := by
 unfold law13_awake at hm
 refine calls_start (args := []) Try.func8 rfl Try.ntmps8 (Nat.le_of_ble_eq_true rfl) ?_
 refine wp_seq (wp_region_lit ?_)
 refine wv (.bool false) rfl rfl rfl ?_
 refine wl_nil (then_n (wp_seq (wp_region_lit ?_)))
 refine wv (.agg #[.int .u8 (1:Int), .int .u64 (0:Int), .int .u64 (0:Int), .int .u64 (3:Int), .int .u64 (0:Int), .int .i64 (0:Int), .int .u64 (0:Int), .int .u64 (0:Int), .int .u64 (0:Int), (.slice none 0 0), (.slice none 0 0), (.slice none 0 0), (.slice none 0 0), (.slice none 0 0), .int .i64 (0:Int), .int .u64 (0:Int), .int .u64 (0:Int), (.slice none 0 0), (.slice none 0 0), .int .u64 (0:Int), (.slice none 0 0), .int .u64 (0:Int), .int .i64 (0:Int), .int .i64 (0:Int), .float .f64 (0:Nat), .float .f64 (0:Nat), .int .u64 (0:Int), .int .i64 (0:Int), .bool false]) rfl rfl (by kernel_rfl) ?_
 have f33 : Ro tyF64 I (.slice none 0 0) [] := ro_nil
 have f34 : Ro tyF2 I (.slice none 0 0) [] := ro_nil
 have f35 : Ro tyF64 I (.slice none 0 0) [] := ro_nil
 have f36 : Ro (tyInt .u8) I (.slice none 0 0) [] := ro_nil
 have f37 : Ro ty_api_Write I (.slice none 0 0) [] := ro_nil
 have f38 : Ro ty_api_Got I (.slice none 0 0) [] := ro_nil
 have f39 : Ro (tySl ty_api_Pair) I (.slice none 0 0) [] := ro_nil
 have f40 : Ro ty_api_Part I (.slice none 0 0) [] := ro_nil
 obtain ⟨t41, ht42, hm⟩ := bind_some hm
 refine wl_call rfl rfl (x_call Try.call10 rfl (vs := [.agg #[.int .u8 (1:Int), .int .u64 (0:Int), .int .u64 (0:Int), .int .u64 (3:Int), .int .u64 (0:Int), .int .i64 (0:Int), .int .u64 (0:Int), .int .u64 (0:Int), .int .u64 (0:Int), (.slice none 0 0), (.slice none 0 0), (.slice none 0 0), (.slice none 0 0), (.slice none 0 0), .int .i64 (0:Int), .int .u64 (0:Int), .int .u64 (0:Int), (.slice none 0 0), (.slice none 0 0), .int .u64 (0:Int), (.slice none 0 0), .int .u64 (0:Int), .int .i64 (0:Int), .int .i64 (0:Int), .float .f64 (0:Nat), .float .f64 (0:Nat), .int .u64 (0:Int), .int .i64 (0:Int), .bool false]]) rfl) ?_
 refine (command_Encode_ref (f33.mono ro_rd) (f34.mono ro_rd) (f35.mono ro_rd) (f36.mono ro_rd) (f37.mono ro_rd) (f38.mono ro_rd) (f39.mono ro_rd) (f40.mono ro_rd) hst.to0 ht42).mono ?_
 rintro _ w43 ⟨v46, rfl, hst⟩
 refine ⟨_, rfl, ?_⟩
 replace hst := hst.of1
 refine wv (v46) rfl rfl rfl ?_
 refine wl_nil (then_n (wp_seq (wp_region_lit ?_)))
 refine wv (v46) rfl rfl rfl ?_
 refine wv (.string (toStr t41)) rfl rfl (x_tostr Try.underlying22 Try.underlying9 Try.underlying5 rfl hst.src0) ?_
 refine wv (.bool (sEq (toStr t41) (ByteArray.mk #[1, 3, 0, 0, 0, 0, 0, 0, 0]))) rfl rfl (by kernel_rfl) ?_
 refine wv (.bool (sEq (toStr t41) (ByteArray.mk #[1, 3, 0, 0, 0, 0, 0, 0, 0]))) rfl rfl rfl ?_
 refine bsplit (sEq (toStr t41) (ByteArray.mk #[1, 3, 0, 0, 0, 0, 0, 0, 0])) (fun hc48 => ?_) (fun hc48 => ?_)
 ·skip
  replace hm := bif_t hc48 hm
  refine wv (.bool true) rfl rfl (x_pick_t hc48 rfl rfl) ?_
  refine wv (.bool true) rfl rfl rfl ?_
  refine wl_nil (then_n (wp_ret ?_))
  obtain rfl := some_inj hm
  refine post_ret (vs := [.bool true]) Try.results8 (rvs_cons (rv_tmp rfl) rvs_nil) ?_
  exact ⟨rfl, hst.keep0⟩
 ·skip
  replace hm := bif_f hc48 hm
  refine wv (.bool false) rfl rfl (x_pick_f hc48 rfl rfl) ?_
  refine wv (.bool false) rfl rfl rfl ?_
  refine wl_nil (then_n (wp_ret ?_))
  obtain rfl := some_inj hm
  refine post_ret (vs := [.bool false]) Try.results8 (rvs_cons (rv_tmp rfl) rvs_nil) ?_
  exact ⟨rfl, hst.keep0⟩

theorem ref02_Num_ref {w0 w : World} {I : HL} {R : SP} {a0 : (List Int)} {r0_0 : Value} {a1 : Int} {a2 : Int} (f0_0 : Rd (tyInt .u8) R I r0_0 a0) (hst : St w0 w I [] R) {r : ((List Int))} (hm : ref02_Num a0 a1 a2 = some r) :
  Calls Try.prog 45 #[r0_0, .int .u64 a1, .int .i64 a2] w fun e w' => ∃ (q0_0 : Value), e = .returned (q0_0) ∧ St w0 w' I [ownS (tyInt .u8) q0_0 r] R := by
 unfold ref02_Num at hm
 refine calls_start (args := [r0_0, .int .u64 a1, .int .i64 a2]) Try.func45 rfl Try.ntmps45 (Nat.le_of_ble_eq_true rfl) ?_
 refine wp_seq (wp_region_lit ?_)
 refine wv ((.slice none 0 0)) rfl rfl rfl ?_
 refine wl_nil (then_n (wp_seq (wp_region_lit ?_)))
 refine wv ((.slice none 0 0)) rfl rfl rfl ?_
 refine wl_nil (then_n (wp_seq (wp_region_lit ?_)))
 refine wv ((.slice none 0 0)) rfl rfl rfl ?_
 refine wv (r0_0) rfl rfl rfl ?_
 replace hst := hst.own_nil (tyInt .u8)
 obtain ⟨hg215, hm⟩ := gd_some hm
 obtain ⟨v216, w217, hr218, hst⟩ := run_append elem_22 Try.underlying22 hst (Src.of_rd hst f0_0 flat_int) (room_of hg215 rfl) 22
 replace hst := St.nil_app hst
 refine wl_run (v := v216) (w' := w217) rfl rfl (x_append rfl rfl hr218) ?_
 refine wv (v216) rfl rfl rfl ?_
 refine wl_nil (then_n (wp_seq (wp_seq (wp_region_lit ?_))))
 refine wv (.int .i64 (0:Int)) rfl rfl rfl ?_
 refine wl_nil (then_n (wp_block ?_))
 obtain ⟨n250, hm⟩ := loopO_some hm
 refine wp_loop_n (fun n a w => ∃ (z244 : Int) (z245 : (List Int)) (z248 : Int) (v246 : Value) (σ249 : Nat → Value), loopN (ref02_Num_l0 a2) n (z244, z245, z248) = some r ∧ a = Fr 26 (upd (upd (upd (upd σ249 1 (.int .u64 z244)) 2 (.int .i64 a2)) 7 (v246)) 8 (.int .i64 z248)) ∧ St w0 w I [ownS (tyInt .u8) v246 z245] R) n250 ⟨a1, a0, (0:Int), v216, _, hm, ((fr_upd (t := 1) (v := .int .u64 a1) rfl).trans ((fr_upd (t := 2) (v := .int .i64 a2) rfl).trans ((fr_upd (t := 7) (v := v216) rfl).trans ((fr_upd (t := 8) (v := .int .i64 (0:Int)) rfl).trans rfl)))), hst⟩ ?_
 rintro n256 _ w251 ⟨z244, z245, z248, v246, σ249, hm, rfl, hst⟩
 obtain ⟨n253, y254, rfl, hm, hx255⟩ := loopN_some hm
 dsimp only [ref02_Num_l0] at hm
 refine wp_seq (wp_seq (wp_region_lit ?_))
 refine wv (.int .i64 z248) rfl rfl rfl ?_
 refine wv (.int .i64 a2) rfl rfl rfl ?_
 refine wv (.bool (decide (z248 < a2))) rfl rfl rfl ?_
 refine wl_nil (then_n ?_)
 refine bsplit (decide (z248 < a2)) (fun hc257 => ?_) (fun hc257 => ?_)
 ·skip
  replace hm := bif_t hc257 hm
  refine wp_ift (congrArg Value.bool hc257) ?_
  refine wp_skip (then_n (wp_seq (wp_block (wp_seq (wp_region_lit ?_)))))
  refine wv (v246) rfl rfl rfl ?_
  refine wv (.int .u64 z244) rfl rfl rfl ?_
  refine wv (.int .u64 (bAnd .u64 z244 (255:Int))) rfl rfl rfl ?_
  refine wv (.int .u8 (IntKind.u8.wrap (bAnd .u64 z244 (255:Int)))) rfl rfl (by kernel_rfl) ?_
  obtain ⟨b258, w259, ew260, eb261, hst⟩ := hst.lits (E := (tyInt .u8)) (xs := [(IntKind.u8.wrap (bAnd .u64 z244 (255:Int)))]) [[.int .u8 (IntKind.u8.wrap (bAnd .u64 z244 (255:Int)))]] 5 1 rfl (Reps.cons rfl Reps.nil)
  refine wl_run (v := (.slice (some ⟨b258, 0, none⟩) 1 1)) (w' := w259) rfl rfl (x_als (by kernel_rfl) ew260 eb261) ?_
  obtain ⟨hg263, hm⟩ := gd_some hm
  replace hst := hst.pull1
  obtain ⟨v264, w265, hr266, hst⟩ := run_append elem_22 Try.underlying22 hst hst.src1 (room_of hg263 rfl) 22
  refine wl_run (v := v264) (w' := w265) rfl rfl (x_append rfl rfl hr266) ?_
  refine wv (v264) rfl rfl rfl ?_
  refine wl_nil (then_n (wp_region_lit ?_))
  refine wv (.int .u64 z244) rfl rfl rfl ?_
  refine wv (.int .u64 (iShr .u64 z244 (8:Int))) rfl rfl (x_shr (by decide) rfl rfl) ?_
  refine wv (.int .u64 (iShr .u64 z244 (8:Int))) rfl rfl rfl ?_
  refine wl_nil (blk_n (then_n (wp_region_lit ?_)))
  refine wv (.int .i64 z248) rfl rfl rfl ?_
  refine wv (.int .i64 (IntKind.i64.wrap (z248 + (1:Int)))) rfl rfl rfl ?_
  refine wv (.int .i64 (IntKind.i64.wrap (z248 + (1:Int)))) rfl rfl rfl ?_
  refine wl_nil (then_n ?_)
  replace hst := hst.keep1
  obtain rfl := some_inj hm
  exact ⟨_, Nat.lt_succ_self _, (iShr .u64 z244 (8:Int)), (z245 ++ ([(IntKind.u8.wrap (bAnd .u64 z244 (255:Int)))])), (IntKind.i64.wrap (z248 + (1:Int))), v264, _, hx255, ((fr_upd (t := 1) (v := .int .u64 (iShr .u64 z244 (8:Int))) rfl).trans ((fr_upd (t := 2) (v := .int .i64 a2) rfl).trans ((fr_upd (t := 7) (v := v264) rfl).trans ((fr_upd (t := 8) (v := .int .i64 (IntKind.i64.wrap (z248 + (1:Int)))) rfl).trans rfl)))), hst⟩
 ·skip
  replace hm := bif_f hc257 hm
  refine wp_iff (congrArg Value.bool hc257) ?_
  refine wp_exit (then_x (then_x ?_))
  replace hm := inr_up hm hx255
  refine blk_x (then_n (wp_seq (wp_region_lit ?_)))
  refine wv (v246) rfl rfl rfl ?_
  refine wv (v246) rfl rfl rfl ?_
  refine wl_nil (then_n (wp_ret ?_))
  obtain rfl := some_inj hm
  refine post_ret (vs := [v246]) Try.results45 (rvs_cons (rv_tmp rfl) rvs_nil) ?_
  exact ⟨v246, rfl, hst.keep1⟩

theorem ref12_ID_ref {w0 w : World} {I : HL} {R : SP} {a0 : (List Int)} {r0_0 : Value} {a1 : api_ID} (f0_0 : Rd (tyInt .u8) R I r0_0 a0) (hst : St w0 w I [] R) {r : ((List Int))} (hm : ref12_ID a0 a1 = some r) :
  Calls Try.prog 58 #[r0_0, .agg #[.int .u64 a1.Session, .int .u64 a1.Seq]] w fun e w' => ∃ (q0_0 : Value), e = .returned (q0_0) ∧ St w0 w' I [ownS (tyInt .u8) q0_0 r] R := by
 unfold ref12_ID at hm
 refine calls_start (args := [r0_0, .agg #[.int .u64 a1.Session, .int .u64 a1.Seq]]) Try.func58 rfl Try.ntmps58 (Nat.le_of_ble_eq_true rfl) ?_
 refine wp_seq (wp_region_lit ?_)
 obtain ⟨b212, w213, ew214, eb215, hst⟩ := hst.box [.int .u64 a1.Session, .int .u64 a1.Seq] 29
 refine wl_run (v := .pointer (some ⟨b212, 0, none⟩)) (w' := w213) rfl rfl (x_al (by kernel_rfl) ew214 eb215) ?_
 refine wv ((.slice none 0 0)) rfl rfl rfl ?_
 refine wl_nil (then_n (wp_seq ?_))
 refine wp_region_St hst 8 [0, 1, 2, 3, 4, 5, 6, 7] [0, 0, 2, 7, 0, 16, 63, 127] [] rfl (by kernel_rfl) (by kernel_rfl) Try.mixed (by kernel_rfl) ?_
 refine wsr (r0_0) 0 rfl rfl rfl (by kernel_rfl) (fun w hst => rfl) ?_
 refine wsr (.pointer (some ⟨b212, 0, none⟩)) 1 rfl rfl rfl (by kernel_rfl) (fun w hst => x_field rfl Try.underlying29 rfl Try.sizeOf27 rfl) ?_
 refine wsr (.int .u64 a1.Session) 2 rfl rfl rfl (by kernel_rfl) (fun w hst => x_load rfl Try.isAgg27 (hst.bc0 rfl)) ?_
 refine wsr (.pointer (some ⟨b212, 1, none⟩)) 4 rfl rfl rfl (by kernel_rfl) (fun w hst => x_field rfl Try.underlying29 rfl Try.sizeOf27 rfl) ?_
 refine wsr (.int .u64 a1.Seq) 5 rfl rfl rfl (by kernel_rfl) (fun w hst => x_load rfl Try.isAgg27 (hst.bc0 rfl)) ?_
 refine ws_e1 3 (by kernel_rfl) ?_
 refine nxe [6, 7] (by kernel_rfl) rfl rfl ?_
 clear hst
 intro w hst
 obtain ⟨t218, ht219, hm⟩ := bind_some hm
 refine we_call rfl (x_call Try.call45 rfl (vs := [r0_0, .int .u64 a1.Session, .int .i64 (8:Int)]) rfl) ?_
 refine (ref02_Num_ref (f0_0.mono (rd_weak _)) hst.to0 ht219).mono ?_
 rintro _ w220 ⟨v223, rfl, hst⟩
 refine ⟨_, rfl, ?_⟩
 replace hst := hst.of1
 refine ws_next (pend' := [(5, .int .u64 a1.Seq), (4, .pointer (some ⟨b212, 1, none⟩))]) hst (by kernel_rfl) (pkr rfl rfl (fun w hst => x_load rfl Try.isAgg27 (hst.bc1 rfl)) (pkr rfl rfl (fun w hst => x_field rfl Try.underlying29 rfl Try.sizeOf27 rfl) pk_nil)) ?_
 refine ws_e1 6 (by kernel_rfl) ?_
 refine nxe [7] (by kernel_rfl) rfl rfl ?_
 clear hst
 intro w hst
 obtain ⟨css225, hq226, hst⟩ := hst.own_open
 obtain ⟨t227, ht228, hm⟩ := bind_some hm
 refine we_call rfl (x_call Try.call45 rfl (vs := [v223, .int .u64 a1.Seq, .int .i64 (8:Int)]) rfl) ?_
 refine (ref02_Num_ref (hst.rdrow0 hq226) hst.to0 ht228).mono ?_
 rintro _ w229 ⟨v232, rfl, hst⟩
 refine ⟨_, rfl, ?_⟩
 replace hst := hst.of1
 replace hst := hst.pull1
 replace hst := hst.own_close hq226
 refine ws_next (pend' := []) hst (by kernel_rfl) pk_nil ?_
 refine wsr (v232) 7 rfl rfl rfl (by kernel_rfl) (fun w hst => rfl) ?_
 refine ws_nil ?_
 intro w hst
 refine then_n (wp_ret ?_)
 obtain rfl := some_inj hm
 refine post_ret (vs := [v232]) Try.results58 (rvs_cons (rv_tmp rfl) rvs_nil) ?_
 replace hst := hst.pull1
 exact ⟨v232, rfl, hst.keep1⟩

theorem ref01_Rank_ref {w0 w : World} {I : HL} {R : SP} {a0 : Nat}  (hst : St w0 w I [] R) {r : (Int)} (hm : ref01_Rank a0 = some r) :
  Calls Try.prog 48 #[.float .f64 a0] w fun e w' => e = .returned (.int .u64 r) ∧ St w0 w' I [] R := by
 unfold ref01_Rank at hm
 refine calls_start (args := [.float .f64 a0]) Try.func48 rfl Try.ntmps48 (Nat.le_of_ble_eq_true rfl) ?_
 refine wp_seq (wp_region_lit ?_)
 refine wv (.int .u64 (0:Int)) rfl rfl rfl ?_
 refine wl_nil (then_n (wp_seq (wp_region_lit ?_)))
 refine wv (.float .f64 a0) rfl rfl rfl ?_
 refine wv (.int .u64 (Int.ofNat a0)) rfl rfl (by kernel_rfl) ?_
 refine wv (.int .u64 (Int.ofNat a0)) rfl rfl rfl ?_
 refine wl_nil (then_n (wp_seq (wp_seq (wp_region_lit ?_))))
 refine wv (.float .f64 a0) rfl rfl rfl ?_
 refine wv (.float .f64 a0) rfl rfl rfl ?_
 refine wv (.bool (fNe a0 a0)) rfl rfl rfl ?_
 refine wl_nil (then_n ?_)
 refine bsplit (fNe a0 a0) (fun hc221 => ?_) (fun hc221 => ?_)
 ·skip
  replace hm := bif_t hc221 hm
  refine wp_ift (congrArg Value.bool hc221) ?_
  refine wp_seq (wp_region_lit ?_)
  refine wv (.int .u64 (18446744073709551615:Int)) rfl rfl rfl ?_
  refine wl_nil (then_n (wp_ret (then_r ?_)))
  obtain rfl := some_inj hm
  refine post_ret (vs := [.int .u64 (18446744073709551615:Int)]) Try.results48 (rvs_cons (rv_tmp rfl) rvs_nil) ?_
  exact ⟨rfl, hst.keep0⟩
 ·skip
  replace hm := bif_f hc221 hm
  refine wp_iff (congrArg Value.bool hc221) ?_
  refine wp_skip (then_n (wp_seq (wp_seq (wp_region_lit ?_))))
  refine wv (.int .u64 (Int.ofNat a0)) rfl rfl rfl ?_
  refine wv (.bool (decide ((Int.ofNat a0) ≥ (9223372036854775808:Int)))) rfl rfl rfl ?_
  refine wl_nil (then_n ?_)
  refine bsplit (decide ((Int.ofNat a0) ≥ (9223372036854775808:Int))) (fun hc222 => ?_) (fun hc222 => ?_)
  ·skip
   replace hm := bif_t hc222 hm
   refine wp_ift (congrArg Value.bool hc222) ?_
   refine wp_seq (wp_region_lit ?_)
   refine wv (.int .u64 (Int.ofNat a0)) rfl rfl rfl ?_
   refine wv (.int .u64 (IntKind.u64.wrap ((18446744073709551615:Int) - (Int.ofNat a0)))) rfl rfl rfl ?_
   refine wv (.int .u64 (IntKind.u64.wrap ((18446744073709551615:Int) - (Int.ofNat a0)))) rfl rfl rfl ?_
   refine wl_nil (then_n (wp_ret (then_r ?_)))
   obtain rfl := some_inj hm
   refine post_ret (vs := [.int .u64 (IntKind.u64.wrap ((18446744073709551615:Int) - (Int.ofNat a0)))]) Try.results48 (rvs_cons (rv_tmp rfl) rvs_nil) ?_
   exact ⟨rfl, hst.keep0⟩
  ·skip
   replace hm := bif_f hc222 hm
   refine wp_iff (congrArg Value.bool hc222) ?_
   refine wp_skip (then_n (wp_seq (wp_region_lit ?_)))
   refine wv (.int .u64 (Int.ofNat a0)) rfl rfl rfl ?_
   refine wv (.int .u64 (IntKind.u64.wrap ((Int.ofNat a0) + (9223372036854775808:Int)))) rfl rfl rfl ?_
   refine wv (.int .u64 (IntKind.u64.wrap ((Int.ofNat a0) + (9223372036854775808:Int)))) rfl rfl rfl ?_
   refine wl_nil (then_n (wp_ret ?_))
   obtain rfl := some_inj hm
   refine post_ret (vs := [.int .u64 (IntKind.u64.wrap ((Int.ofNat a0) + (9223372036854775808:Int)))]) Try.results48 (rvs_cons (rv_tmp rfl) rvs_nil) ?_
   exact ⟨rfl, hst.keep0⟩

theorem ref02_Bytes_ref {w0 w : World} {I : HL} {R : SP} {a0 : (List Int)} {r0_0 : Value} {a1 : (List Int)} {r1_0 : Value} (f0_0 : Rd (tyInt .u8) R I r0_0 a0) (f1_0 : Rd (tyInt .u8) R I r1_0 a1) (hst : St w0 w I [] R) {r : ((List Int))} (hm : ref02_Bytes a0 a1 = some r) :
  Calls Try.prog 46 #[r0_0, r1_0] w fun e w' => ∃ (q0_0 : Value), e = .returned (q0_0) ∧ St w0 w' I [ownS (tyInt .u8) q0_0 r] R := by
 unfold ref02_Bytes at hm
 refine calls_start (args := [r0_0, r1_0]) Try.func46 rfl Try.ntmps46 (Nat.le_of_ble_eq_true rfl) ?_
 refine wp_seq (wp_region_lit ?_)
 refine wv ((.slice none 0 0)) rfl rfl rfl ?_
 refine wl_nil (then_n (wp_seq (wp_region_lit ?_)))
 refine wv (r0_0) rfl rfl rfl ?_
 refine wv (r1_0) rfl rfl rfl ?_
 refine wv (.int .i64 ((a1).length : Int)) rfl rfl (x_len rfl Try.underlying22 (rd_sliceV f1_0)) ?_
 refine wv (.int .u64 (IntKind.u64.wrap ((a1).length : Int))) rfl rfl (by kernel_rfl) ?_
 obtain ⟨t542, ht543, hm⟩ := bind_some hm
 refine wl_call rfl rfl (x_call Try.call45 rfl (vs := [r0_0, .int .u64 (IntKind.u64.wrap ((a1).length : Int)), .int .i64 (4:Int)]) rfl) ?_
 refine (ref02_Num_ref (f0_0.mono (rd_weak _)) hst.to0 ht543).mono ?_
 rintro _ w544 ⟨v547, rfl, hst⟩
 refine ⟨_, rfl, ?_⟩
 replace hst := hst.of1
 refine wv (r1_0) rfl rfl rfl ?_
 obtain ⟨hg549, hm⟩ := gd_some hm
 obtain ⟨v550, w551, hr552, hst⟩ := run_append elem_22 Try.underlying22 hst (Src.of_rd hst f1_0 flat_int) (room_of hg549 rfl) 22
 refine wl_run (v := v550) (w' := w551) rfl rfl (x_append rfl rfl hr552) ?_
 refine wv (v550) rfl rfl rfl ?_
 refine wl_nil (then_n (wp_ret ?_))
 obtain rfl := some_inj hm
 refine post_ret (vs := [v550]) Try.results46 (rvs_cons (rv_tmp rfl) rvs_nil) ?_
 exact ⟨v550, rfl, hst.keep1⟩

theorem ref12_Hold_ref {w0 w : World} {I : HL} {R : SP} {a0 : (List Int)} {r0_0 : Value} {a1 : api_Hold} {r1_0 : Value} {r1_1 : Value} {r1_2 : Value} {r1_3 : Value} (f0_0 : Rd (tyInt .u8) R I r0_0 a0) (f1_0 : Rd tyF64 R I r1_0 a1.Gets) (f1_1 : Rd tyF2 R I r1_1 a1.Scans) (f1_2 : Rd tyF64 R I r1_2 a1.Puts) (f1_3 : Rd (tyInt .u8) R I r1_3 a1.Data) (hst : St w0 w I [] R) {r : ((List Int))} (hm : ref12_Hold a0 a1 = some r) :
  Calls Try.prog 57 #[r0_0, .agg #[.int .u64 a1.ID.Session, .int .u64 a1.ID.Seq, .int .u64 a1.Epoch, r1_0, r1_1, r1_2, r1_3]] w fun e w' => ∃ (q0_0 : Value), e = .returned (q0_0) ∧ St w0 w' I [ownS (tyInt .u8) q0_0 r] R := by
 unfold ref12_Hold at hm
 refine calls_start (args := [r0_0, .agg #[.int .u64 a1.ID.Session, .int .u64 a1.ID.Seq, .int .u64 a1.Epoch, r1_0, r1_1, r1_2, r1_3]]) Try.func57 rfl Try.ntmps57 (Nat.le_of_ble_eq_true rfl) ?_
 refine wp_seq (wp_region_lit ?_)
 obtain ⟨b539, w540, ew541, eb542, hst⟩ := hst.box [.int .u64 a1.ID.Session, .int .u64 a1.ID.Seq, .int .u64 a1.Epoch, r1_0, r1_1, r1_2, r1_3] 34
 refine wl_run (v := .pointer (some ⟨b539, 0, none⟩)) (w' := w540) rfl rfl (x_al (by kernel_rfl) ew541 eb542) ?_
 refine wv ((.slice none 0 0)) rfl rfl rfl ?_
 refine wl_nil (then_n (wp_seq (wp_region_lit ?_)))
 refine wv (r0_0) rfl rfl rfl ?_
 refine wv (.pointer (some ⟨b539, 0, none⟩)) rfl rfl (x_field rfl Try.underlying34 rfl Try.sizeOf29 rfl) ?_
 refine wv (.agg #[.int .u64 a1.ID.Session, .int .u64 a1.ID.Seq]) rfl rfl (x_loadN (cs := [.int .u64 a1.ID.Session, .int .u64 a1.ID.Seq]) rfl Try.isAgg29 Try.sizeOf29 (hst.bcs0 0 rfl)) ?_
 obtain ⟨t545, ht546, hm⟩ := bind_some hm
 refine wl_call rfl rfl (x_call Try.call58 rfl (vs := [r0_0, .agg #[.int .u64 a1.ID.Session, .int .u64 a1.ID.Seq]]) rfl) ?_
 refine (ref12_ID_ref (f0_0.mono (rd_weak _)) hst.to0 ht546).mono ?_
 rintro _ w547 ⟨v550, rfl, hst⟩
 refine ⟨_, rfl, ?_⟩
 replace hst := hst.of1
 refine wv (v550) rfl rfl rfl ?_
 refine wl_nil (then_n (wp_seq (wp_region_lit ?_)))
 refine wv (v550) rfl rfl rfl ?_
 refine wv (.pointer (some ⟨b539, 2, none⟩)) rfl rfl (x_field rfl Try.underlying34 rfl Try.sizeOf27 rfl) ?_
 refine wv (.int .u64 a1.Epoch) rfl rfl (x_load rfl Try.isAgg27 (hst.bc1 rfl)) ?_
 obtain ⟨css552, hq553, hst⟩ := hst.own_open
 obtain ⟨t554, ht555, hm⟩ := bind_some hm
 refine wl_call rfl rfl (x_call Try.call45 rfl (vs := [v550, .int .u64 a1.Epoch, .int .i64 (8:Int)]) rfl) ?_
 refine (ref02_Num_ref (hst.rdrow0 hq553) hst.to0 ht555).mono ?_
 rintro _ w556 ⟨v559, rfl, hst⟩
 refine ⟨_, rfl, ?_⟩
 replace hst := hst.of1
 replace hst := hst.pull1
 replace hst := hst.own_close hq553
 refine wv (v559) rfl rfl rfl ?_
 refine wl_nil (then_n (wp_seq (wp_region_lit ?_)))
 refine wv (v559) rfl rfl rfl ?_
 refine wv (.pointer (some ⟨b539, 3, none⟩)) rfl rfl (x_field rfl Try.underlying34 rfl Try.sizeOf31 rfl) ?_
 refine wv (r1_0) rfl rfl (x_load rfl Try.isAgg31 (hst.bc2 rfl)) ?_
 refine wv (.int .i64 ((a1.Gets).length : Int)) rfl rfl (x_len rfl Try.underlying31 (rd_sliceV f1_0)) ?_
 refine wv (.int .u64 (IntKind.u64.wrap ((a1.Gets).length : Int))) rfl rfl (by kernel_rfl) ?_
 replace hst := hst.pull1
 obtain ⟨css561, hq562, hst⟩ := hst.own_open
 obtain ⟨t563, ht564, hm⟩ := bind_some hm
 refine wl_call rfl rfl (x_call Try.call45 rfl (vs := [v559, .int .u64 (IntKind.u64.wrap ((a1.Gets).length : Int)), .int .i64 (4:Int)]) rfl) ?_
 refine (ref02_Num_ref (hst.rdrow0 hq562) hst.to0 ht564).mono ?_
 rintro _ w565 ⟨v568, rfl, hst⟩
 refine ⟨_, rfl, ?_⟩
 replace hst := hst.of1
 replace hst := hst.pull1
 replace hst := hst.own_close hq562
 refine wv (v568) rfl rfl rfl ?_
 refine wl_nil (then_n ?_)
 obtain ⟨y651, hm, hx652⟩ := bind_some hm
 refine wp_cut (fun a w => ∃ (z648 : (List Int)) (v647 : Value) (σ649 : Nat → Value), (ref12_Hold_j0 a1) z648 = some r ∧ a = Fr 92 (upd (upd σ649 0 (v647)) 3 (.pointer (some ⟨b539, 0, none⟩))) ∧ St w0 w I [ownS (tyInt .u8) v647 z648, cells b539 [.int .u64 a1.ID.Session, .int .u64 a1.ID.Seq, .int .u64 a1.Epoch, r1_0, r1_1, r1_2, r1_3]] R) ?_ ?_
 ·skip
  refine wp_seq (wp_region_lit ?_)
  refine wv (.int .i64 (0:Int)) rfl rfl rfl ?_
  refine wl_nil (then_n (wp_block ?_))
  replace hst := hst.sub
  replace hst := hst.pull1
  replace hst := hst.sub
  obtain ⟨n619, hm⟩ := loopO_some hm
  refine wp_loop_n (fun n a w => ∃ (z614 : (List Int)) (z617 : Int) (v615 : Value) (σ618 : Nat → Value), loopN (ref12_Hold_l1 a1) n (z614, z617) = some y651 ∧ a = Fr 92 (upd (upd (upd σ618 0 (v615)) 3 (.pointer (some ⟨b539, 0, none⟩))) 5 (.int .i64 z617)) ∧ St w0 w I [ownS (tyInt .u8) v615 z614, cells b539 [.int .u64 a1.ID.Session, .int .u64 a1.ID.Seq, .int .u64 a1.Epoch, r1_0, r1_1, r1_2, r1_3]] R) n619 ⟨t563, (0:Int), v568, _, hm, ((fr_upd (t := 0) (v := v568) rfl).trans ((fr_upd (t := 3) (v := .pointer (some ⟨b539, 0, none⟩)) rfl).trans ((fr_upd (t := 5) (v := .int .i64 (0:Int)) rfl).trans rfl))), hst⟩ ?_
  rintro n625 _ w620 ⟨z614, z617, v615, σ618, hm, rfl, hst⟩
  obtain ⟨n622, y623, rfl, hm, hx624⟩ := loopN_some hm
  dsimp only [ref12_Hold_l1] at hm
  refine wp_seq (wp_seq (wp_region_lit ?_))
  refine wv (.int .i64 z617) rfl rfl rfl ?_
  refine wv (.pointer (some ⟨b539, 3, none⟩)) rfl rfl (x_field rfl Try.underlying34 rfl Try.sizeOf31 rfl) ?_
  refine wv (r1_0) rfl rfl (x_load rfl Try.isAgg31 (hst.bc1 rfl)) ?_
  refine wv (.int .i64 ((a1.Gets).length : Int)) rfl rfl (x_len rfl Try.underlying31 (rd_sliceV f1_0)) ?_
  refine wv (.bool (decide (z617 < ((a1.Gets).length : Int)))) rfl rfl rfl ?_
  refine wl_nil (then_n ?_)
  refine bsplit (decide (z617 < ((a1.Gets).length : Int))) (fun hc626 => ?_) (fun hc626 => ?_)
  ·skip
   replace hm := bif_t hc626 hm
   refine wp_ift (congrArg Value.bool hc626) ?_
   refine wp_skip (then_n (wp_seq (wp_block (wp_region_lit ?_))))
   refine wv (v615) rfl rfl rfl ?_
   refine wv (.pointer (some ⟨b539, 3, none⟩)) rfl rfl (x_field rfl Try.underlying34 rfl Try.sizeOf31 rfl) ?_
   refine wv (r1_0) rfl rfl (x_load rfl Try.isAgg31 (hst.bc1 rfl)) ?_
   refine wv (.int .i64 z617) rfl rfl rfl ?_
   obtain ⟨x627, hx628, hm⟩ := bind_some hm
   obtain ⟨h629, h630, hi631⟩ := geto_some hx628
   refine wv (.pointer (some (eAddr r1_0 (z617.toNat * 1 + 0)))) rfl rfl (x_index rfl rfl Try.underlying31 Try.sizeOf41 (rd_sliceV f1_0) h629 h630) ?_
   refine wv (.float .f64 x627) rfl rfl (x_load rfl Try.isAgg41 (rd_load f1_0 (HL.le.refl _) hst hi631 (by rintro _ rfl; rfl))) ?_
   obtain ⟨t632, ht633, hm⟩ := bind_some hm
   refine wl_call rfl rfl (x_call Try.call48 rfl (vs := [.float .f64 x627]) rfl) ?_
   refine (ref01_Rank_ref hst.to0 ht633).mono ?_
   rintro _ w634 ⟨rfl, hst⟩
   refine ⟨_, rfl, ?_⟩
   replace hst := hst.of0
   obtain ⟨css637, hq638, hst⟩ := hst.own_open
   obtain ⟨t639, ht640, hm⟩ := bind_some hm
   refine wl_call rfl rfl (x_call Try.call45 rfl (vs := [v615, .int .u64 t632, .int .i64 (8:Int)]) rfl) ?_
   refine (ref02_Num_ref (hst.rdrow0 hq638) hst.to0 ht640).mono ?_
   rintro _ w641 ⟨v644, rfl, hst⟩
   refine ⟨_, rfl, ?_⟩
   replace hst := hst.of1
   replace hst := hst.pull1
   replace hst := hst.own_close hq638
   refine wv (v644) rfl rfl rfl ?_
   refine wl_nil (blk_n (then_n (wp_region_lit ?_)))
   refine wv (.int .i64 z617) rfl rfl rfl ?_
   refine wv (.int .i64 (IntKind.i64.wrap (z617 + (1:Int)))) rfl rfl rfl ?_
   refine wv (.int .i64 (IntKind.i64.wrap (z617 + (1:Int)))) rfl rfl rfl ?_
   refine wl_nil (then_n ?_)
   replace hst := hst.pull2
   replace hst := hst.pull2
   replace hst := hst.keep2
   obtain rfl := some_inj hm
   exact ⟨_, Nat.lt_succ_self _, t639, (IntKind.i64.wrap (z617 + (1:Int))), v644, _, hx624, ((fr_upd (t := 0) (v := v644) rfl).trans ((fr_upd (t := 3) (v := .pointer (some ⟨b539, 0, none⟩)) rfl).trans ((fr_upd (t := 5) (v := .int .i64 (IntKind.i64.wrap (z617 + (1:Int)))) rfl).trans rfl))), hst⟩
  ·skip
   replace hm := bif_f hc626 hm
   refine wp_iff (congrArg Value.bool hc626) ?_
   refine wp_exit (then_x (then_x ?_))
   replace hm := inr_up hm hx624
   refine blk_x (then_n ?_)
   replace hst := hst.pull1
   replace hst := hst.pull1
   replace hst := hst.keep2
   obtain rfl := some_inj hm
   exact ⟨z614, v615, _, hx652, ((fr_upd (t := 0) (v := v615) rfl).trans ((fr_upd (t := 3) (v := .pointer (some ⟨b539, 0, none⟩)) rfl).trans rfl)), hst⟩
 ·skip
  clear hst
  rintro _ w653 ⟨z648, v647, σ649, hm, rfl, hst⟩
  dsimp only [ref12_Hold_j0] at hm
  refine wp_seq (wp_region_lit ?_)
  refine wv (v647) rfl rfl rfl ?_
  refine wv (.pointer (some ⟨b539, 4, none⟩)) rfl rfl (x_field rfl Try.underlying34 rfl Try.sizeOf32 rfl) ?_
  refine wv (r1_1) rfl rfl (x_load rfl Try.isAgg32 (hst.bc1 rfl)) ?_
  refine wv (.int .i64 ((a1.Scans).length : Int)) rfl rfl (x_len rfl Try.underlying32 (rd_sliceV f1_1)) ?_
  refine wv (.int .u64 (IntKind.u64.wrap ((a1.Scans).length : Int))) rfl rfl (by kernel_rfl) ?_
  obtain ⟨css654, hq655, hst⟩ := hst.own_open
  obtain ⟨t656, ht657, hm⟩ := bind_some hm
  refine wl_call rfl rfl (x_call Try.call45 rfl (vs := [v647, .int .u64 (IntKind.u64.wrap ((a1.Scans).length : Int)), .int .i64 (4:Int)]) rfl) ?_
  refine (ref02_Num_ref (hst.rdrow0 hq655) hst.to0 ht657).mono ?_
  rintro _ w658 ⟨v661, rfl, hst⟩
  refine ⟨_, rfl, ?_⟩
  replace hst := hst.of1
  replace hst := hst.pull1
  replace hst := hst.own_close hq655
  refine wv (v661) rfl rfl rfl ?_
  refine wl_nil (then_n ?_)
  obtain ⟨y786, hm, hx787⟩ := bind_some hm
  refine wp_cut (fun a w => ∃ (z783 : (List Int)) (v782 : Value) (σ784 : Nat → Value), (ref12_Hold_j2 a1) z783 = some r ∧ a = Fr 92 (upd (upd σ784 0 (v782)) 3 (.pointer (some ⟨b539, 0, none⟩))) ∧ St w0 w I [ownS (tyInt .u8) v782 z783, cells b539 [.int .u64 a1.ID.Session, .int .u64 a1.ID.Seq, .int .u64 a1.Epoch, r1_0, r1_1, r1_2, r1_3]] R) ?_ ?_
  ·skip
   refine wp_seq (wp_region_lit ?_)
   refine wv (.int .i64 (0:Int)) rfl rfl rfl ?_
   refine wl_nil (then_n (wp_block ?_))
   replace hst := hst.sub
   obtain ⟨n740, hm⟩ := loopO_some hm
   refine wp_loop_n (fun n a w => ∃ (z735 : (List Int)) (z738 : Int) (v736 : Value) (σ739 : Nat → Value), loopN (ref12_Hold_l3 a1) n (z735, z738) = some y786 ∧ a = Fr 92 (upd (upd (upd σ739 0 (v736)) 3 (.pointer (some ⟨b539, 0, none⟩))) 6 (.int .i64 z738)) ∧ St w0 w I [ownS (tyInt .u8) v736 z735, cells b539 [.int .u64 a1.ID.Session, .int .u64 a1.ID.Seq, .int .u64 a1.Epoch, r1_0, r1_1, r1_2, r1_3]] R) n740 ⟨t656, (0:Int), v661, _, hm, ((fr_upd (t := 0) (v := v661) rfl).trans ((fr_upd (t := 3) (v := .pointer (some ⟨b539, 0, none⟩)) rfl).trans ((fr_upd (t := 6) (v := .int .i64 (0:Int)) rfl).trans rfl))), hst⟩ ?_
   rintro n746 _ w741 ⟨z735, z738, v736, σ739, hm, rfl, hst⟩
   obtain ⟨n743, y744, rfl, hm, hx745⟩ := loopN_some hm
   dsimp only [ref12_Hold_l3] at hm
   refine wp_seq (wp_seq (wp_region_lit ?_))
   refine wv (.int .i64 z738) rfl rfl rfl ?_
   refine wv (.pointer (some ⟨b539, 4, none⟩)) rfl rfl (x_field rfl Try.underlying34 rfl Try.sizeOf32 rfl) ?_
   refine wv (r1_1) rfl rfl (x_load rfl Try.isAgg32 (hst.bc1 rfl)) ?_
   refine wv (.int .i64 ((a1.Scans).length : Int)) rfl rfl (x_len rfl Try.underlying32 (rd_sliceV f1_1)) ?_
   refine wv (.bool (decide (z738 < ((a1.Scans).length : Int)))) rfl rfl rfl ?_
   refine wl_nil (then_n ?_)
   refine bsplit (decide (z738 < ((a1.Scans).length : Int))) (fun hc747 => ?_) (fun hc747 => ?_)
   ·skip
    replace hm := bif_t hc747 hm
    refine wp_ift (congrArg Value.bool hc747) ?_
    refine wp_skip (then_n (wp_seq (wp_block ?_)))
    refine wp_region_St hst 18 [0, 1, 2, 3, 4, 5, 6, 7, 8, 9, 10, 11, 12, 13, 14, 15, 16, 17] [0, 0, 2, 0, 14, 30, 62, 126, 255, 0, 512, 0, 3584, 7680, 15872, 32767, 65535, 131071] [17] rfl (by kernel_rfl) (by kernel_rfl) Try.mixed (by kernel_rfl) ?_
    refine wsr (v736) 0 rfl rfl rfl (by kernel_rfl) (fun w hst => rfl) ?_
    refine wsr (.pointer (some ⟨b539, 4, none⟩)) 1 rfl rfl rfl (by kernel_rfl) (fun w hst => x_field rfl Try.underlying34 rfl Try.sizeOf32 rfl) ?_
    refine wsr (r1_1) 2 rfl rfl rfl (by kernel_rfl) (fun w hst => x_load rfl Try.isAgg32 (hst.bc1 rfl)) ?_
    refine wsr (.int .i64 z738) 3 rfl rfl rfl (by kernel_rfl) (fun w hst => rfl) ?_
    obtain ⟨x748, hx749, hm⟩ := bind_some hm
    obtain ⟨h750, h751, hi752⟩ := geto_some hx749
    refine wsr (.pointer (some (eAddr r1_1 (z738.toNat * 2 + 0)))) 4 rfl rfl rfl (by kernel_rfl) (fun w hst => x_index rfl rfl Try.underlying32 Try.sizeOf111 (rd_sliceV f1_1) h750 h751) ?_
    refine wsr (.pointer (some (eAddr r1_1 (z738.toNat * 2 + 0)))) 5 rfl rfl rfl (by kernel_rfl) (fun w hst => x_index_arr_e (i := (0:Int)) rfl rfl Try.underlying111 Try.sizeOf41 (by decide) (by decide) rfl) ?_
    refine wsr (.float .f64 x748.1) 6 rfl rfl rfl (by kernel_rfl) (fun w hst => x_load rfl Try.isAgg41 (rd_load f1_1 (HL.le.refl _) hst hi752 (by rintro _ rfl; rfl))) ?_
    refine wsr (.pointer (some ⟨b539, 4, none⟩)) 9 rfl rfl rfl (by kernel_rfl) (fun w hst => x_field rfl Try.underlying34 rfl Try.sizeOf32 rfl) ?_
    refine wsr (r1_1) 10 rfl rfl rfl (by kernel_rfl) (fun w hst => x_load rfl Try.isAgg32 (hst.bc1 rfl)) ?_
    refine wsr (.int .i64 z738) 11 rfl rfl rfl (by kernel_rfl) (fun w hst => rfl) ?_
    refine wsr (.pointer (some (eAddr r1_1 (z738.toNat * 2 + 0)))) 12 rfl rfl rfl (by kernel_rfl) (fun w hst => x_index rfl rfl Try.underlying32 Try.sizeOf111 (rd_sliceV f1_1) h750 h751) ?_
    refine wsr (.pointer (some (eAddr r1_1 (z738.toNat * 2 + 1)))) 13 rfl rfl rfl (by kernel_rfl) (fun w hst => x_index_arr_e (i := (1:Int)) rfl rfl Try.underlying111 Try.sizeOf41 (by decide) (by decide) rfl) ?_
    refine wsr (.float .f64 x748.2) 14 rfl rfl rfl (by kernel_rfl) (fun w hst => x_load rfl Try.isAgg41 (rd_load f1_1 (HL.le.refl _) hst hi752 (by rintro _ rfl; rfl))) ?_
    refine ws_e1 7 (by kernel_rfl) ?_
    refine nxe [8, 15, 16, 17] (by kernel_rfl) rfl rfl ?_
    clear hst
    intro w hst
    obtain ⟨t753, ht754, hm⟩ := bind_some hm
    refine we_call rfl (x_call Try.call48 rfl (vs := [.float .f64 x748.1]) rfl) ?_
    refine (ref01_Rank_ref hst.to0 ht754).mono ?_
    rintro _ w755 ⟨rfl, hst⟩
    refine ⟨_, rfl, ?_⟩
    replace hst := hst.of0
    refine ws_next (pend' := [(14, .float .f64 x748.2), (13, .pointer (some (eAddr r1_1 (z738.toNat * 2 + 1)))), (12, .pointer (some (eAddr r1_1 (z738.toNat * 2 + 0)))), (11, .int .i64 z738), (10, r1_1), (9, .pointer (some ⟨b539, 4, none⟩)), (0, v736)]) hst (by kernel_rfl) (pkr rfl rfl (fun w hst => x_load rfl Try.isAgg41 (rd_load f1_1 (HL.le.refl _) hst hi752 (by rintro _ rfl; rfl))) (pkr rfl rfl (fun w hst => x_index_arr_e (i := (1:Int)) rfl rfl Try.underlying111 Try.sizeOf41 (by decide) (by decide) rfl) (pkr rfl rfl (fun w hst => x_index rfl rfl Try.underlying32 Try.sizeOf111 (rd_sliceV f1_1) h750 h751) (pkr rfl rfl (fun w hst => rfl) (pkr rfl rfl (fun w hst => x_load rfl Try.isAgg32 (hst.bc1 rfl)) (pkr rfl rfl (fun w hst => x_field rfl Try.underlying34 rfl Try.sizeOf32 rfl) (pkr rfl rfl (fun w hst => rfl) pk_nil))))))) ?_
    refine ws_e1 8 (by kernel_rfl) ?_
    refine nxe [15, 16, 17] (by kernel_rfl) rfl rfl ?_
    clear hst
    intro w hst
    obtain ⟨css758, hq759, hst⟩ := hst.own_open
    obtain ⟨t760, ht761, hm⟩ := bind_some hm
    refine we_call rfl (x_call Try.call45 rfl (vs := [v736, .int .u64 t753, .int .i64 (8:Int)]) rfl) ?_
    refine (ref02_Num_ref (hst.rdrow0 hq759) hst.to0 ht761).mono ?_
    rintro _ w762 ⟨v765, rfl, hst⟩
    refine ⟨_, rfl, ?_⟩
    replace hst := hst.of1
    replace hst := hst.pull1
    replace hst := hst.own_close hq759
    refine ws_next (pend' := [(14, .float .f64 x748.2), (13, .pointer (some (eAddr r1_1 (z738.toNat * 2 + 1)))), (12, .pointer (some (eAddr r1_1 (z738.toNat * 2 + 0)))), (11, .int .i64 z738), (10, r1_1), (9, .pointer (some ⟨b539, 4, none⟩))]) hst (by kernel_rfl) (pkr rfl rfl (fun w hst => x_load rfl Try.isAgg41 (rd_load f1_1 (HL.le.refl _) hst hi752 (by rintro _ rfl; rfl))) (pkr rfl rfl (fun w hst => x_index_arr_e (i := (1:Int)) rfl rfl Try.underlying111 Try.sizeOf41 (by decide) (by decide) rfl) (pkr rfl rfl (fun w hst => x_index rfl rfl Try.underlying32 Try.sizeOf111 (rd_sliceV f1_1) h750 h751) (pkr rfl rfl (fun w hst => rfl) (pkr rfl rfl (fun w hst => x_load rfl Try.isAgg32 (hst.bc2 rfl)) (pkr rfl rfl (fun w hst => x_field rfl Try.underlying34 rfl Try.sizeOf32 rfl) pk_nil)))))) ?_
    refine ws_e1 15 (by kernel_rfl) ?_
    refine nxe [16, 17] (by kernel_rfl) rfl rfl ?_
    clear hst
    intro w hst
    obtain ⟨t767, ht768, hm⟩ := bind_some hm
    refine we_call rfl (x_call Try.call48 rfl (vs := [.float .f64 x748.2]) rfl) ?_
    refine (ref01_Rank_ref hst.to0 ht768).mono ?_
    rintro _ w769 ⟨rfl, hst⟩
    refine ⟨_, rfl, ?_⟩
    replace hst := hst.of0
    refine ws_next (pend' := []) hst (by kernel_rfl) pk_nil ?_
    refine ws_e1 16 (by kernel_rfl) ?_
    refine nxe [17] (by kernel_rfl) rfl rfl ?_
    clear hst
    intro w hst
    replace hst := hst.pull1
    obtain ⟨css772, hq773, hst⟩ := hst.own_open
    obtain ⟨t774, ht775, hm⟩ := bind_some hm
    refine we_call rfl (x_call Try.call45 rfl (vs := [v765, .int .u64 t767, .int .i64 (8:Int)]) rfl) ?_
    refine (ref02_Num_ref (hst.rdrow0 hq773) hst.to0 ht775).mono ?_
    rintro _ w776 ⟨v779, rfl, hst⟩
    refine ⟨_, rfl, ?_⟩
    replace hst := hst.of1
    replace hst := hst.pull1
    replace hst := hst.own_close hq773
    refine ws_next (pend' := []) hst (by kernel_rfl) pk_nil ?_
    refine ws_e1 17 (by kernel_rfl) ?_
    refine nxe [] (by kernel_rfl) rfl rfl ?_
    clear hst
    intro w hst
    refine we_run (v := v779) (w' := w) rfl rfl ?_
    refine ws_next (pend' := []) hst (by kernel_rfl) pk_nil ?_
    refine ws_nil ?_
    intro w hst
    refine blk_n (then_n (wp_region_lit ?_))
    refine wv (.int .i64 z738) rfl rfl rfl ?_
    refine wv (.int .i64 (IntKind.i64.wrap (z738 + (1:Int)))) rfl rfl rfl ?_
    refine wv (.int .i64 (IntKind.i64.wrap (z738 + (1:Int)))) rfl rfl rfl ?_
    refine wl_nil (then_n ?_)
    replace hst := hst.pull3
    replace hst := hst.pull2
    replace hst := hst.keep2
    obtain rfl := some_inj hm
    exact ⟨_, Nat.lt_succ_self _, t774, (IntKind.i64.wrap (z738 + (1:Int))), v779, _, hx745, ((fr_upd (t := 0) (v := v779) rfl).trans ((fr_upd (t := 3) (v := .pointer (some ⟨b539, 0, none⟩)) rfl).trans ((fr_upd (t := 6) (v := .int .i64 (IntKind.i64.wrap (z738 + (1:Int)))) rfl).trans rfl))), hst⟩
   ·skip
    replace hm := bif_f hc747 hm
    refine wp_iff (congrArg Value.bool hc747) ?_
    refine wp_exit (then_x (then_x ?_))
    replace hm := inr_up hm hx745
    refine blk_x (then_n ?_)
    replace hst := hst.pull1
    replace hst := hst.pull1
    replace hst := hst.keep2
    obtain rfl := some_inj hm
    exact ⟨z735, v736, _, hx787, ((fr_upd (t := 0) (v := v736) rfl).trans ((fr_upd (t := 3) (v := .pointer (some ⟨b539, 0, none⟩)) rfl).trans rfl)), hst⟩
  ·skip
   clear hst
   rintro _ w788 ⟨z783, v782, σ784, hm, rfl, hst⟩
   dsimp only [ref12_Hold_j2] at hm
   refine wp_seq (wp_region_lit ?_)
   refine wv (v782) rfl rfl rfl ?_
   refine wv (.pointer (some ⟨b539, 5, none⟩)) rfl rfl (x_field rfl Try.underlying34 rfl Try.sizeOf31 rfl) ?_
   refine wv (r1_2) rfl rfl (x_load rfl Try.isAgg31 (hst.bc1 rfl)) ?_
   refine wv (.int .i64 ((a1.Puts).length : Int)) rfl rfl (x_len rfl Try.underlying31 (rd_sliceV f1_2)) ?_
   refine wv (.int .u64 (IntKind.u64.wrap ((a1.Puts).length : Int))) rfl rfl (by kernel_rfl) ?_
   obtain ⟨css789, hq790, hst⟩ := hst.own_open
   obtain ⟨t791, ht792, hm⟩ := bind_some hm
   refine wl_call rfl rfl (x_call Try.call45 rfl (vs := [v782, .int .u64 (IntKind.u64.wrap ((a1.Puts).length : Int)), .int .i64 (4:Int)]) rfl) ?_
   refine (ref02_Num_ref (hst.rdrow0 hq790) hst.to0 ht792).mono ?_
   rintro _ w793 ⟨v796, rfl, hst⟩
   refine ⟨_, rfl, ?_⟩
   replace hst := hst.of1
   replace hst := hst.pull1
   replace hst := hst.own_close hq790
   refine wv (v796) rfl rfl rfl ?_
   refine wl_nil (then_n ?_)
   obtain ⟨y879, hm, hx880⟩ := bind_some hm
   refine wp_cut (fun a w => ∃ (z876 : (List Int)) (v875 : Value) (σ877 : Nat → Value), (ref12_Hold_j4 a1) z876 = some r ∧ a = Fr 92 (upd (upd σ877 0 (v875)) 3 (.pointer (some ⟨b539, 0, none⟩))) ∧ St w0 w I [ownS (tyInt .u8) v875 z876, cells b539 [.int .u64 a1.ID.Session, .int .u64 a1.ID.Seq, .int .u64 a1.Epoch, r1_0, r1_1, r1_2, r1_3]] R) ?_ ?_
   ·skip
    refine wp_seq (wp_region_lit ?_)
    refine wv (.int .i64 (0:Int)) rfl rfl rfl ?_
    refine wl_nil (then_n (wp_block ?_))
    replace hst := hst.sub
    obtain ⟨n847, hm⟩ := loopO_some hm
    refine wp_loop_n (fun n a w => ∃ (z842 : (List Int)) (z845 : Int) (v843 : Value) (σ846 : Nat → Value), loopN (ref12_Hold_l5 a1) n (z842, z845) = some y879 ∧ a = Fr 92 (upd (upd (upd σ846 0 (v843)) 3 (.pointer (some ⟨b539, 0, none⟩))) 7 (.int .i64 z845)) ∧ St w0 w I [ownS (tyInt .u8) v843 z842, cells b539 [.int .u64 a1.ID.Session, .int .u64 a1.ID.Seq, .int .u64 a1.Epoch, r1_0, r1_1, r1_2, r1_3]] R) n847 ⟨t791, (0:Int), v796, _, hm, ((fr_upd (t := 0) (v := v796) rfl).trans ((fr_upd (t := 3) (v := .pointer (some ⟨b539, 0, none⟩)) rfl).trans ((fr_upd (t := 7) (v := .int .i64 (0:Int)) rfl).trans rfl))), hst⟩ ?_
    rintro n853 _ w848 ⟨z842, z845, v843, σ846, hm, rfl, hst⟩
    obtain ⟨n850, y851, rfl, hm, hx852⟩ := loopN_some hm
    dsimp only [ref12_Hold_l5] at hm
    refine wp_seq (wp_seq (wp_region_lit ?_))
    refine wv (.int .i64 z845) rfl rfl rfl ?_
    refine wv (.pointer (some ⟨b539, 5, none⟩)) rfl rfl (x_field rfl Try.underlying34 rfl Try.sizeOf31 rfl) ?_
    refine wv (r1_2) rfl rfl (x_load rfl Try.isAgg31 (hst.bc1 rfl)) ?_
    refine wv (.int .i64 ((a1.Puts).length : Int)) rfl rfl (x_len rfl Try.underlying31 (rd_sliceV f1_2)) ?_
    refine wv (.bool (decide (z845 < ((a1.Puts).length : Int)))) rfl rfl rfl ?_
    refine wl_nil (then_n ?_)
    refine bsplit (decide (z845 < ((a1.Puts).length : Int))) (fun hc854 => ?_) (fun hc854 => ?_)
    ·skip
     replace hm := bif_t hc854 hm
     refine wp_ift (congrArg Value.bool hc854) ?_
     refine wp_skip (then_n (wp_seq (wp_block (wp_region_lit ?_))))
     refine wv (v843) rfl rfl rfl ?_
     refine wv (.pointer (some ⟨b539, 5, none⟩)) rfl rfl (x_field rfl Try.underlying34 rfl Try.sizeOf31 rfl) ?_
     refine wv (r1_2) rfl rfl (x_load rfl Try.isAgg31 (hst.bc1 rfl)) ?_
     refine wv (.int .i64 z845) rfl rfl rfl ?_
     obtain ⟨x855, hx856, hm⟩ := bind_some hm
     obtain ⟨h857, h858, hi859⟩ := geto_some hx856
     refine wv (.pointer (some (eAddr r1_2 (z845.toNat * 1 + 0)))) rfl rfl (x_index rfl rfl Try.underlying31 Try.sizeOf41 (rd_sliceV f1_2) h857 h858) ?_
     refine wv (.float .f64 x855) rfl rfl (x_load rfl Try.isAgg41 (rd_load f1_2 (HL.le.refl _) hst hi859 (by rintro _ rfl; rfl))) ?_
     obtain ⟨t860, ht861, hm⟩ := bind_some hm
     refine wl_call rfl rfl (x_call Try.call48 rfl (vs := [.float .f64 x855]) rfl) ?_
     refine (ref01_Rank_ref hst.to0 ht861).mono ?_
     rintro _ w862 ⟨rfl, hst⟩
     refine ⟨_, rfl, ?_⟩
     replace hst := hst.of0
     obtain ⟨css865, hq866, hst⟩ := hst.own_open
     obtain ⟨t867, ht868, hm⟩ := bind_some hm
     refine wl_call rfl rfl (x_call Try.call45 rfl (vs := [v843, .int .u64 t860, .int .i64 (8:Int)]) rfl) ?_
     refine (ref02_Num_ref (hst.rdrow0 hq866) hst.to0 ht868).mono ?_
     rintro _ w869 ⟨v872, rfl, hst⟩
     refine ⟨_, rfl, ?_⟩
     replace hst := hst.of1
     replace hst := hst.pull1
     replace hst := hst.own_close hq866
     refine wv (v872) rfl rfl rfl ?_
     refine wl_nil (blk_n (then_n (wp_region_lit ?_)))
     refine wv (.int .i64 z845) rfl rfl rfl ?_
     refine wv (.int .i64 (IntKind.i64.wrap (z845 + (1:Int)))) rfl rfl rfl ?_
     refine wv (.int .i64 (IntKind.i64.wrap (z845 + (1:Int)))) rfl rfl rfl ?_
     refine wl_nil (then_n ?_)
     replace hst := hst.pull2
     replace hst := hst.pull2
     replace hst := hst.keep2
     obtain rfl := some_inj hm
     exact ⟨_, Nat.lt_succ_self _, t867, (IntKind.i64.wrap (z845 + (1:Int))), v872, _, hx852, ((fr_upd (t := 0) (v := v872) rfl).trans ((fr_upd (t := 3) (v := .pointer (some ⟨b539, 0, none⟩)) rfl).trans ((fr_upd (t := 7) (v := .int .i64 (IntKind.i64.wrap (z845 + (1:Int)))) rfl).trans rfl))), hst⟩
    ·skip
     replace hm := bif_f hc854 hm
     refine wp_iff (congrArg Value.bool hc854) ?_
     refine wp_exit (then_x (then_x ?_))
     replace hm := inr_up hm hx852
     refine blk_x (then_n ?_)
     replace hst := hst.pull1
     replace hst := hst.pull1
     replace hst := hst.keep2
     obtain rfl := some_inj hm
     exact ⟨z842, v843, _, hx880, ((fr_upd (t := 0) (v := v843) rfl).trans ((fr_upd (t := 3) (v := .pointer (some ⟨b539, 0, none⟩)) rfl).trans rfl)), hst⟩
   ·skip
    clear hst
    rintro _ w881 ⟨z876, v875, σ877, hm, rfl, hst⟩
    dsimp only [ref12_Hold_j4] at hm
    refine wp_seq (wp_region_lit ?_)
    refine wv (v875) rfl rfl rfl ?_
    refine wv (.pointer (some ⟨b539, 6, none⟩)) rfl rfl (x_field rfl Try.underlying34 rfl Try.sizeOf22 rfl) ?_
    refine wv (r1_3) rfl rfl (x_load rfl Try.isAgg22 (hst.bc1 rfl)) ?_
    obtain ⟨css882, hq883, hst⟩ := hst.own_open
    obtain ⟨t884, ht885, hm⟩ := bind_some hm
    refine wl_call rfl rfl (x_call Try.call46 rfl (vs := [v875, r1_3]) rfl) ?_
    refine (ref02_Bytes_ref (hst.rdrow0 hq883) (f1_3.mono (rd_weak _)) hst.to0 ht885).mono ?_
    rintro _ w886 ⟨v889, rfl, hst⟩
    refine ⟨_, rfl, ?_⟩
    replace hst := hst.of1
    replace hst := hst.pull1
    replace hst := hst.own_close hq883
    refine wv (v889) rfl rfl rfl ?_
    refine wl_nil (then_n (wp_ret ?_))
    obtain rfl := some_inj hm
    refine post_ret (vs := [v889]) Try.results57 (rvs_cons (rv_tmp rfl) rvs_nil) ?_
    replace hst := hst.pull1
    exact ⟨v889, rfl, hst.keep1⟩

theorem ref02_Flag_ref {w0 w : World} {I : HL} {R : SP} {a0 : (List Int)} {r0_0 : Value} {a1 : Bool} (f0_0 : Rd (tyInt .u8) R I r0_0 a0) (hst : St w0 w I [] R) {r : ((List Int))} (hm : ref02_Flag a0 a1 = some r) :
  Calls Try.prog 47 #[r0_0, .bool a1] w fun e w' => ∃ (q0_0 : Value), e = .returned (q0_0) ∧ St w0 w' I [ownS (tyInt .u8) q0_0 r] R := by
 unfold ref02_Flag at hm
 refine calls_start (args := [r0_0, .bool a1]) Try.func47 rfl Try.ntmps47 (Nat.le_of_ble_eq_true rfl) ?_
 refine wp_seq (wp_region_lit ?_)
 refine wv ((.slice none 0 0)) rfl rfl rfl ?_
 refine wl_nil (then_n (wp_seq (wp_seq (wp_region_lit ?_))))
 refine wv (.bool a1) rfl rfl rfl ?_
 refine wl_nil (then_n ?_)
 refine bsplit a1 (fun hc235 => ?_) (fun hc235 => ?_)
 ·skip
  replace hm := bif_t hc235 hm
  refine wp_ift (congrArg Value.bool hc235) ?_
  refine wp_seq (wp_region_lit ?_)
  refine wv (r0_0) rfl rfl rfl ?_
  obtain ⟨t236, ht237, hm⟩ := bind_some hm
  refine wl_call rfl rfl (x_call Try.call45 rfl (vs := [r0_0, .int .u64 (1:Int), .int .i64 (1:Int)]) rfl) ?_
  refine (ref02_Num_ref (f0_0.mono (rd_weak _)) hst.to0 ht237).mono ?_
  rintro _ w238 ⟨v241, rfl, hst⟩
  refine ⟨_, rfl, ?_⟩
  replace hst := hst.of1
  refine wv (v241) rfl rfl rfl ?_
  refine wl_nil (then_n (wp_ret (then_r ?_)))
  obtain rfl := some_inj hm
  refine post_ret (vs := [v241]) Try.results47 (rvs_cons (rv_tmp rfl) rvs_nil) ?_
  exact ⟨v241, rfl, hst.keep1⟩
 ·skip
  replace hm := bif_f hc235 hm
  refine wp_iff (congrArg Value.bool hc235) ?_
  refine wp_skip (then_n (wp_seq (wp_region_lit ?_)))
  refine wv (r0_0) rfl rfl rfl ?_
  obtain ⟨t243, ht244, hm⟩ := bind_some hm
  refine wl_call rfl rfl (x_call Try.call45 rfl (vs := [r0_0, .int .u64 (0:Int), .int .i64 (1:Int)]) rfl) ?_
  refine (ref02_Num_ref (f0_0.mono (rd_weak _)) hst.to0 ht244).mono ?_
  rintro _ w245 ⟨v248, rfl, hst⟩
  refine ⟨_, rfl, ?_⟩
  replace hst := hst.of1
  refine wv (v248) rfl rfl rfl ?_
  refine wl_nil (then_n (wp_ret ?_))
  obtain rfl := some_inj hm
  refine post_ret (vs := [v248]) Try.results47 (rvs_cons (rv_tmp rfl) rvs_nil) ?_
  exact ⟨v248, rfl, hst.keep1⟩

theorem ref13_Writes_ref {w0 w : World} {I : HL} {R : SP} {a0 : (List Int)} {r0_0 : Value} {a1 : (List api_Write)} {r1_0 : Value} (f0_0 : Rd (tyInt .u8) R I r0_0 a0) (f1_0 : Rd ty_api_Write R I r1_0 a1) (hst : St w0 w I [] R) {r : ((List Int))} (hm : ref13_Writes a0 a1 = some r) :
  Calls Try.prog 59 #[r0_0, r1_0] w fun e w' => ∃ (q0_0 : Value), e = .returned (q0_0) ∧ St w0 w' I [ownS (tyInt .u8) q0_0 r] R := by
 unfold ref13_Writes at hm
 refine calls_start (args := [r0_0, r1_0]) Try.func59 rfl Try.ntmps59 (Nat.le_of_ble_eq_true rfl) ?_
 refine wp_seq (wp_region_lit ?_)
 refine wv ((.slice none 0 0)) rfl rfl rfl ?_
 refine wl_nil (then_n (wp_seq (wp_region_lit ?_)))
 refine wv (r0_0) rfl rfl rfl ?_
 refine wv (r1_0) rfl rfl rfl ?_
 refine wv (.int .i64 ((a1).length : Int)) rfl rfl (x_len rfl Try.underlying35 (rd_sliceV f1_0)) ?_
 refine wv (.int .u64 (IntKind.u64.wrap ((a1).length : Int))) rfl rfl (by kernel_rfl) ?_
 obtain ⟨t366, ht367, hm⟩ := bind_some hm
 refine wl_call rfl rfl (x_call Try.call45 rfl (vs := [r0_0, .int .u64 (IntKind.u64.wrap ((a1).length : Int)), .int .i64 (4:Int)]) rfl) ?_
 refine (ref02_Num_ref (f0_0.mono (rd_weak _)) hst.to0 ht367).mono ?_
 rintro _ w368 ⟨v371, rfl, hst⟩
 refine ⟨_, rfl, ?_⟩
 replace hst := hst.of1
 refine wv (v371) rfl rfl rfl ?_
 refine wl_nil (then_n (wp_seq (wp_seq (wp_region_lit ?_))))
 refine wv (.int .i64 (0:Int)) rfl rfl rfl ?_
 refine wl_nil (then_n (wp_block ?_))
 obtain ⟨n470, hm⟩ := loopO_some hm
 refine wp_loop_n (fun n a w => ∃ (z465 : (List Int)) (z468 : Int) (v466 : Value) (σ469 : Nat → Value), loopN (ref13_Writes_l0 a1) n (z465, z468) = some r ∧ a = Fr 38 (upd (upd (upd σ469 0 (v466)) 1 (r1_0)) 5 (.int .i64 z468)) ∧ St w0 w I [ownS (tyInt .u8) v466 z465] R) n470 ⟨t366, (0:Int), v371, _, hm, ((fr_upd (t := 0) (v := v371) rfl).trans ((fr_upd (t := 1) (v := r1_0) rfl).trans ((fr_upd (t := 5) (v := .int .i64 (0:Int)) rfl).trans rfl))), hst⟩ ?_
 rintro n476 _ w471 ⟨z465, z468, v466, σ469, hm, rfl, hst⟩
 obtain ⟨n473, y474, rfl, hm, hx475⟩ := loopN_some hm
 dsimp only [ref13_Writes_l0] at hm
 refine wp_seq (wp_seq (wp_region_lit ?_))
 refine wv (.int .i64 z468) rfl rfl rfl ?_
 refine wv (r1_0) rfl rfl rfl ?_
 refine wv (.int .i64 ((a1).length : Int)) rfl rfl (x_len rfl Try.underlying35 (rd_sliceV f1_0)) ?_
 refine wv (.bool (decide (z468 < ((a1).length : Int)))) rfl rfl rfl ?_
 refine wl_nil (then_n ?_)
 refine bsplit (decide (z468 < ((a1).length : Int))) (fun hc477 => ?_) (fun hc477 => ?_)
 ·skip
  replace hm := bif_t hc477 hm
  refine wp_ift (congrArg Value.bool hc477) ?_
  refine wp_skip (then_n (wp_seq (wp_block ?_)))
  refine wp_region_St hst 21 [0, 1, 2, 3, 4, 5, 6, 7, 8, 9, 10, 11, 12, 13, 14, 15, 16, 17, 18, 19, 20] [0, 0, 0, 6, 14, 30, 62, 127, 0, 0, 768, 1792, 3840, 8191, 0, 0, 49152, 114688, 245760, 524287, 1048575] [20] rfl (by kernel_rfl) (by kernel_rfl) Try.mixed (by kernel_rfl) ?_
  refine wsr (v466) 0 rfl rfl rfl (by kernel_rfl) (fun w hst => rfl) ?_
  refine wsr (r1_0) 1 rfl rfl rfl (by kernel_rfl) (fun w hst => rfl) ?_
  refine wsr (.int .i64 z468) 2 rfl rfl rfl (by kernel_rfl) (fun w hst => rfl) ?_
  obtain ⟨x478, hx479, hm⟩ := bind_some hm
  obtain ⟨h480, h481, hi482⟩ := geto_some hx479
  refine wsr (.pointer (some (eAddr r1_0 (z468.toNat * 3 + 0)))) 3 rfl rfl rfl (by kernel_rfl) (fun w hst => x_index rfl rfl Try.underlying35 Try.sizeOf73 (rd_sliceV f1_0) h480 h481) ?_
  refine wsr (.pointer (some (eAddr r1_0 (z468.toNat * 3 + 0)))) 4 rfl rfl rfl (by kernel_rfl) (fun w hst => x_field_e rfl Try.underlying73 rfl Try.sizeOf41 rfl) ?_
  obtain ⟨cs483, hr484, hc485⟩ := Rd.getF f1_0 hi482
  obtain ⟨v486, rfl, f487, -⟩ := hr484
  refine wsr (.float .f64 x478.At) 5 rfl rfl rfl (by kernel_rfl) (fun w hst => x_load rfl Try.isAgg41 ((hc485 (HL.le.refl _) hst) 0 _ rfl)) ?_
  refine wsr (r1_0) 8 rfl rfl rfl (by kernel_rfl) (fun w hst => rfl) ?_
  refine wsr (.int .i64 z468) 9 rfl rfl rfl (by kernel_rfl) (fun w hst => rfl) ?_
  refine wsr (.pointer (some (eAddr r1_0 (z468.toNat * 3 + 0)))) 10 rfl rfl rfl (by kernel_rfl) (fun w hst => x_index rfl rfl Try.underlying35 Try.sizeOf73 (rd_sliceV f1_0) h480 h481) ?_
  refine wsr (.pointer (some (eAddr r1_0 (z468.toNat * 3 + 1)))) 11 rfl rfl rfl (by kernel_rfl) (fun w hst => x_field_e rfl Try.underlying73 rfl Try.sizeOf4 rfl) ?_
  refine wsr (.bool x478.Del) 12 rfl rfl rfl (by kernel_rfl) (fun w hst => x_load rfl Try.isAgg4 ((hc485 (HL.le.refl _) hst) 1 _ rfl)) ?_
  refine wsr (r1_0) 14 rfl rfl rfl (by kernel_rfl) (fun w hst => rfl) ?_
  refine wsr (.int .i64 z468) 15 rfl rfl rfl (by kernel_rfl) (fun w hst => rfl) ?_
  refine wsr (.pointer (some (eAddr r1_0 (z468.toNat * 3 + 0)))) 16 rfl rfl rfl (by kernel_rfl) (fun w hst => x_index rfl rfl Try.underlying35 Try.sizeOf73 (rd_sliceV f1_0) h480 h481) ?_
  refine wsr (.pointer (some (eAddr r1_0 (z468.toNat * 3 + 2)))) 17 rfl rfl rfl (by kernel_rfl) (fun w hst => x_field_e rfl Try.underlying73 rfl Try.sizeOf22 rfl) ?_
  refine wsr (v486) 18 rfl rfl rfl (by kernel_rfl) (fun w hst => x_load rfl Try.isAgg22 ((hc485 (HL.le.refl _) hst) 2 _ rfl)) ?_
  refine ws_e1 6 (by kernel_rfl) ?_
  refine nxe [7, 13, 19, 20] (by kernel_rfl) rfl rfl ?_
  clear hst
  intro w hst
  obtain ⟨t489, ht490, hm⟩ := bind_some hm
  refine we_call rfl (x_call Try.call48 rfl (vs := [.float .f64 x478.At]) rfl) ?_
  refine (ref01_Rank_ref hst.to0 ht490).mono ?_
  rintro _ w491 ⟨rfl, hst⟩
  refine ⟨_, rfl, ?_⟩
  replace hst := hst.of0
  refine ws_next (pend' := [(18, v486), (17, .pointer (some (eAddr r1_0 (z468.toNat * 3 + 2)))), (16, .pointer (some (eAddr r1_0 (z468.toNat * 3 + 0)))), (15, .int .i64 z468), (14, r1_0), (12, .bool x478.Del), (11, .pointer (some (eAddr r1_0 (z468.toNat * 3 + 1)))), (10, .pointer (some (eAddr r1_0 (z468.toNat * 3 + 0)))), (9, .int .i64 z468), (8, r1_0), (0, v466)]) hst (by kernel_rfl) (pkr rfl rfl (fun w hst => x_load rfl Try.isAgg22 ((hc485 (HL.le.refl _) hst) 2 _ rfl)) (pkr rfl rfl (fun w hst => x_field_e rfl Try.underlying73 rfl Try.sizeOf22 rfl) (pkr rfl rfl (fun w hst => x_index rfl rfl Try.underlying35 Try.sizeOf73 (rd_sliceV f1_0) h480 h481) (pkr rfl rfl (fun w hst => rfl) (pkr rfl rfl (fun w hst => rfl) (pkr rfl rfl (fun w hst => x_load rfl Try.isAgg4 ((hc485 (HL.le.refl _) hst) 1 _ rfl)) (pkr rfl rfl (fun w hst => x_field_e rfl Try.underlying73 rfl Try.sizeOf4 rfl) (pkr rfl rfl (fun w hst => x_index rfl rfl Try.underlying35 Try.sizeOf73 (rd_sliceV f1_0) h480 h481) (pkr rfl rfl (fun w hst => rfl) (pkr rfl rfl (fun w hst => rfl) (pkr rfl rfl (fun w hst => rfl) pk_nil))))))))))) ?_
  refine ws_e1 7 (by kernel_rfl) ?_
  refine nxe [13, 19, 20] (by kernel_rfl) rfl rfl ?_
  clear hst
  intro w hst
  obtain ⟨css494, hq495, hst⟩ := hst.own_open
  obtain ⟨t496, ht497, hm⟩ := bind_some hm
  refine we_call rfl (x_call Try.call45 rfl (vs := [v466, .int .u64 t489, .int .i64 (8:Int)]) rfl) ?_
  refine (ref02_Num_ref (hst.rdrow0 hq495) hst.to0 ht497).mono ?_
  rintro _ w498 ⟨v501, rfl, hst⟩
  refine ⟨_, rfl, ?_⟩
  replace hst := hst.of1
  replace hst := hst.pull1
  replace hst := hst.own_close hq495
  refine ws_next (pend' := [(18, v486), (17, .pointer (some (eAddr r1_0 (z468.toNat * 3 + 2)))), (16, .pointer (some (eAddr r1_0 (z468.toNat * 3 + 0)))), (15, .int .i64 z468), (14, r1_0), (12, .bool x478.Del), (11, .pointer (some (eAddr r1_0 (z468.toNat * 3 + 1)))), (10, .pointer (some (eAddr r1_0 (z468.toNat * 3 + 0)))), (9, .int .i64 z468), (8, r1_0)]) hst (by kernel_rfl) (pkr rfl rfl (fun w hst => x_load rfl Try.isAgg22 ((hc485 (HL.le.refl _) hst) 2 _ rfl)) (pkr rfl rfl (fun w hst => x_field_e rfl Try.underlying73 rfl Try.sizeOf22 rfl) (pkr rfl rfl (fun w hst => x_index rfl rfl Try.underlying35 Try.sizeOf73 (rd_sliceV f1_0) h480 h481) (pkr rfl rfl (fun w hst => rfl) (pkr rfl rfl (fun w hst => rfl) (pkr rfl rfl (fun w hst => x_load rfl Try.isAgg4 ((hc485 (HL.le.refl _) hst) 1 _ rfl)) (pkr rfl rfl (fun w hst => x_field_e rfl Try.underlying73 rfl Try.sizeOf4 rfl) (pkr rfl rfl (fun w hst => x_index rfl rfl Try.underlying35 Try.sizeOf73 (rd_sliceV f1_0) h480 h481) (pkr rfl rfl (fun w hst => rfl) (pkr rfl rfl (fun w hst => rfl) pk_nil)))))))))) ?_
  refine ws_e1 13 (by kernel_rfl) ?_
  refine nxe [19, 20] (by kernel_rfl) rfl rfl ?_
  clear hst
  intro w hst
  replace hst := hst.pull1
  obtain ⟨css503, hq504, hst⟩ := hst.own_open
  obtain ⟨t505, ht506, hm⟩ := bind_some hm
  refine we_call rfl (x_call Try.call47 rfl (vs := [v501, .bool x478.Del]) rfl) ?_
  refine (ref02_Flag_ref (hst.rdrow0 hq504) hst.to0 ht506).mono ?_
  rintro _ w507 ⟨v510, rfl, hst⟩
  refine ⟨_, rfl, ?_⟩
  replace hst := hst.of1
  replace hst := hst.pull1
  replace hst := hst.own_close hq504
  refine ws_next (pend' := [(18, v486), (17, .pointer (some (eAddr r1_0 (z468.toNat * 3 + 2)))), (16, .pointer (some (eAddr r1_0 (z468.toNat * 3 + 0)))), (15, .int .i64 z468), (14, r1_0)]) hst (by kernel_rfl) (pkr rfl rfl (fun w hst => x_load rfl Try.isAgg22 ((hc485 (HL.le.refl _) hst) 2 _ rfl)) (pkr rfl rfl (fun w hst => x_field_e rfl Try.underlying73 rfl Try.sizeOf22 rfl) (pkr rfl rfl (fun w hst => x_index rfl rfl Try.underlying35 Try.sizeOf73 (rd_sliceV f1_0) h480 h481) (pkr rfl rfl (fun w hst => rfl) (pkr rfl rfl (fun w hst => rfl) pk_nil))))) ?_
  refine ws_e1 19 (by kernel_rfl) ?_
  refine nxe [20] (by kernel_rfl) rfl rfl ?_
  clear hst
  intro w hst
  replace hst := hst.pull1
  obtain ⟨css512, hq513, hst⟩ := hst.own_open
  obtain ⟨t514, ht515, hm⟩ := bind_some hm
  refine we_call rfl (x_call Try.call46 rfl (vs := [v510, v486]) rfl) ?_
  refine (ref02_Bytes_ref (hst.rdrow0 hq513) (f487.mono (rd_weak _)) hst.to0 ht515).mono ?_
  rintro _ w516 ⟨v519, rfl, hst⟩
  refine ⟨_, rfl, ?_⟩
  replace hst := hst.of1
  replace hst := hst.pull1
  replace hst := hst.own_close hq513
  refine ws_next (pend' := []) hst (by kernel_rfl) pk_nil ?_
  refine ws_e1 20 (by kernel_rfl) ?_
  refine nxe [] (by kernel_rfl) rfl rfl ?_
  clear hst
  intro w hst
  refine we_run (v := v519) (w' := w) rfl rfl ?_
  refine ws_next (pend' := []) hst (by kernel_rfl) pk_nil ?_
  refine ws_nil ?_
  intro w hst
  refine blk_n (then_n (wp_region_lit ?_))
  refine wv (.int .i64 z468) rfl rfl rfl ?_
  refine wv (.int .i64 (IntKind.i64.wrap (z468 + (1:Int)))) rfl rfl rfl ?_
  refine wv (.int .i64 (IntKind.i64.wrap (z468 + (1:Int)))) rfl rfl rfl ?_
  refine wl_nil (then_n ?_)
  replace hst := hst.pull1
  replace hst := hst.keep1
  obtain rfl := some_inj hm
  exact ⟨_, Nat.lt_succ_self _, t514, (IntKind.i64.wrap (z468 + (1:Int))), v519, _, hx475, ((fr_upd (t := 0) (v := v519) rfl).trans ((fr_upd (t := 1) (v := r1_0) rfl).trans ((fr_upd (t := 5) (v := .int .i64 (IntKind.i64.wrap (z468 + (1:Int)))) rfl).trans rfl))), hst⟩
 ·skip
  replace hm := bif_f hc477 hm
  refine wp_iff (congrArg Value.bool hc477) ?_
  refine wp_exit (then_x (then_x ?_))
  replace hm := inr_up hm hx475
  refine blk_x (then_n (wp_seq (wp_region_lit ?_)))
  refine wv (v466) rfl rfl rfl ?_
  refine wv (v466) rfl rfl rfl ?_
  refine wl_nil (then_n (wp_ret ?_))
  obtain rfl := some_inj hm
  refine post_ret (vs := [v466]) Try.results59 (rvs_cons (rv_tmp rfl) rvs_nil) ?_
  exact ⟨v466, rfl, hst.keep1⟩

end Go.Proofs.Ytijcfglomdfglaa
