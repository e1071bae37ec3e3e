/- The Go functions refine their models, part 3. -/
import Derived.Test.YtldfdainhdiffaaMailJunkR2
set_option linter.unusedVariables false
set_option linter.unusedSimpArgs false
set_option maxRecDepth 100000
set_option maxHeartbeats 4000000
namespace Go.Proofs.Ytldfdainhdiffaa
open Go Go.V
attribute [local irreducible] wpList Code.wp wpQuiet Calls bodyPost Oper.wp wpS Nx PendOK YieldsIn
theorem ref12_Tape_Next_ref {w0 w : World} {I : HL} {R : SP} {a0 : ref12_Tape} {p0 : Value} {a1 : Int}  (hst : St w0 w I [at_ref12_Tape p0 a0] R) {r : (Int × ref12_Tape)} (hm : ref12_Tape_Next a0 a1 = some r) :
  Calls Try.prog 28 #[p0, .int .i64 a1] w fun e w' => e = .returned (.int .i64 r.1) ∧ St w0 w' I [at_ref12_Tape p0 r.2] R := by
 unfold ref12_Tape_Next at hm
 refine calls_start (args := [p0, .int .i64 a1]) Try.func28 rfl Try.ntmps28 (Nat.le_of_ble_eq_true rfl) ?_
 refine wp_seq (wp_region_lit ?_)
 refine wv (.int .i64 (0:Int)) rfl rfl rfl ?_
 refine wl_nil (then_n (wp_seq (wp_seq ?_)))
 obtain ⟨b181, v182, ⟨rfl, f184⟩, hst'⟩ := at_ref12_Tape_open hst
 clear hst
 have hst := hst'
 clear hst'
 refine wq_regionS hst Try.mixed (by kernel_rfl) ?_
 refine wq_run (v := .pointer (some ⟨b181, 0, none⟩)) rfl rfl (fun w hst => rfl) ?_
 refine wq_run (v := .pointer (some ⟨b181, 0, none⟩)) rfl rfl (fun w hst => rfl) ?_
 refine wq_run (v := .pointer (some ⟨b181, 1, none⟩)) rfl rfl (fun w hst => x_field rfl Try.underlying57 rfl Try.sizeOf3 rfl) ?_
 refine wq_run (v := .int .i64 a0.I) rfl rfl (fun w hst => x_load rfl Try.isAgg3 (hst.bc0 rfl)) ?_
 refine wq_run (v := .pointer (some ⟨b181, 0, none⟩)) rfl rfl (fun w hst => rfl) ?_
 refine wq_run (v := .pointer (some ⟨b181, 0, none⟩)) rfl rfl (fun w hst => rfl) ?_
 refine wq_run (v := .pointer (some ⟨b181, 0, none⟩)) rfl rfl (fun w hst => x_field rfl Try.underlying57 rfl Try.sizeOf22 rfl) ?_
 refine wq_run (v := v182) rfl rfl (fun w hst => x_load rfl Try.isAgg22 (hst.bc0 rfl)) ?_
 refine wq_run (v := .int .i64 ((a0.L).length : Int)) rfl rfl (fun w hst => x_len rfl Try.underlying22 (ro_sliceV f184)) ?_
 refine wq_run (v := .bool (decide (a0.I ≥ ((a0.L).length : Int)))) rfl rfl (fun w hst => rfl) ?_
 refine wq_nil ?_
 intro w hst
 refine then_n ?_
 refine bsplit (decide (a0.I ≥ ((a0.L).length : Int))) (fun hc185 => ?_) (fun hc185 => ?_)
 ·skip
  replace hm := bif_t hc185 hm
  refine wp_ift (congrArg Value.bool hc185) ?_
  refine wp_seq (wp_region_lit ?_)
  refine wv (.int .i64 (0:Int)) rfl rfl rfl ?_
  refine wl_nil (then_n (wp_ret (then_r ?_)))
  replace hst := at_ref12_Tape_close (pv := .pointer (some ⟨b181, 0, none⟩)) (x := a0) hst ⟨rfl, f184⟩
  obtain rfl := some_inj hm
  refine post_ret (vs := [.int .i64 (0:Int)]) Try.results28 (rvs_cons (rv_tmp rfl) rvs_nil) ?_
  exact ⟨rfl, hst.keep1⟩
 ·skip
  replace hm := bif_f hc185 hm
  refine wp_iff (congrArg Value.bool hc185) ?_
  refine wp_skip (then_n (wp_seq (wp_region_lit ?_)))
  refine wv (.pointer (some ⟨b181, 0, none⟩)) rfl rfl rfl ?_
  refine wv (.pointer (some ⟨b181, 0, none⟩)) rfl rfl rfl ?_
  refine wv (.pointer (some ⟨b181, 1, none⟩)) rfl rfl (x_field rfl Try.underlying57 rfl Try.sizeOf3 rfl) ?_
  refine wv (.int .i64 a0.I) rfl rfl (x_load rfl Try.isAgg3 (hst.bc0 rfl)) ?_
  refine wv (.int .i64 (IntKind.i64.wrap (a0.I + (1:Int)))) rfl rfl rfl ?_
  refine wv (.pointer (some ⟨b181, 0, none⟩)) rfl rfl rfl ?_
  refine wv (.pointer (some ⟨b181, 1, none⟩)) rfl rfl (x_field rfl Try.underlying57 rfl Try.sizeOf3 rfl) ?_
  obtain ⟨w186, hr187, hst⟩ := hst.boxStore (P := Try.prog) (t := 3) (cs' := [v182, .int .i64 (IntKind.i64.wrap (a0.I + (1:Int)))]) 1 (.int .i64 (IntKind.i64.wrap (a0.I + (1:Int)))) Try.sizeOf3 (Nat.le_of_ble_eq_true rfl) (ones_cons rfl ones_nil) (by kernel_rfl)
  refine wl_unit rfl rfl (x_unit hr187) ?_
  refine wl_nil (then_n (wp_seq ?_))
  refine wq_regionS hst Try.mixed (by kernel_rfl) ?_
  refine wq_run (v := .pointer (some ⟨b181, 0, none⟩)) rfl rfl (fun w hst => rfl) ?_
  refine wq_run (v := .pointer (some ⟨b181, 0, none⟩)) rfl rfl (fun w hst => rfl) ?_
  refine wq_run (v := .pointer (some ⟨b181, 0, none⟩)) rfl rfl (fun w hst => x_field rfl Try.underlying57 rfl Try.sizeOf22 rfl) ?_
  refine wq_run (v := v182) rfl rfl (fun w hst => x_load rfl Try.isAgg22 (hst.bc0 rfl)) ?_
  refine wq_run (v := .pointer (some ⟨b181, 0, none⟩)) rfl rfl (fun w hst => rfl) ?_
  refine wq_run (v := .pointer (some ⟨b181, 0, none⟩)) rfl rfl (fun w hst => rfl) ?_
  refine wq_run (v := .pointer (some ⟨b181, 1, none⟩)) rfl rfl (fun w hst => x_field rfl Try.underlying57 rfl Try.sizeOf3 rfl) ?_
  refine wq_run (v := .int .i64 (IntKind.i64.wrap (a0.I + (1:Int)))) rfl rfl (fun w hst => x_load rfl Try.isAgg3 (hst.bc0 rfl)) ?_
  refine wq_run (v := .int .i64 (IntKind.i64.wrap ((IntKind.i64.wrap (a0.I + (1:Int))) - (1:Int)))) rfl rfl (fun w hst => rfl) ?_
  obtain ⟨x188, hx189, hm⟩ := bind_some hm
  obtain ⟨h190, h191, hi192⟩ := geto_some hx189
  refine wq_run (v := .pointer (some (eAddr v182 ((IntKind.i64.wrap ((IntKind.i64.wrap (a0.I + (1:Int))) - (1:Int))).toNat * 1 + 0)))) rfl rfl (fun w hst => x_index rfl rfl Try.underlying22 Try.sizeOf5 (ro_sliceV f184) h190 h191) ?_
  refine wq_run (v := .int .u8 x188) rfl rfl (fun w hst => x_load rfl Try.isAgg5 (ro_load f184 hst hi192 (by rintro _ rfl; rfl))) ?_
  refine wq_run (v := .int .i64 (IntKind.i64.wrap x188)) rfl rfl (fun w hst => by kernel_rfl) ?_
  refine wq_run (v := .int .i64 a1) rfl rfl (fun w hst => rfl) ?_
  obtain ⟨hg193, hm⟩ := gd_some hm
  refine wq_run (v := .int .i64 (Int.tmod (IntKind.i64.wrap x188) a1)) rfl rfl (fun w hst => x_rem (not_t hg193) rfl rfl) ?_
  refine wq_run (v := .int .i64 (Int.tmod (IntKind.i64.wrap x188) a1)) rfl rfl (fun w hst => rfl) ?_
  refine wq_nil ?_
  intro w hst
  refine then_n (wp_ret ?_)
  replace hst := at_ref12_Tape_close (pv := .pointer (some ⟨b181, 0, none⟩)) (x := ({ L := a0.L, I := (IntKind.i64.wrap (a0.I + (1:Int))) } : ref12_Tape)) hst ⟨rfl, f184⟩
  obtain rfl := some_inj hm
  refine post_ret (vs := [.int .i64 (Int.tmod (IntKind.i64.wrap x188) a1)]) Try.results28 (rvs_cons (rv_tmp rfl) rvs_nil) ?_
  exact ⟨rfl, hst.keep1⟩

theorem ref12_Tape_Val_ref {w0 w : World} {I : HL} {R : SP} {a0 : ref12_Tape} {p0 : Value}  (hst : St w0 w I [at_ref12_Tape p0 a0] R) {r : ((List Int) × ref12_Tape)} (hm : ref12_Tape_Val a0 = some r) :
  Calls Try.prog 29 #[p0] w fun e w' => ∃ (q0_0 : Value), e = .returned (q0_0) ∧ St w0 w' I [ownS (tyInt .u8) q0_0 r.1, at_ref12_Tape p0 r.2] R := by
 unfold ref12_Tape_Val at hm
 refine calls_start (args := [p0]) Try.func29 rfl Try.ntmps29 (Nat.le_of_ble_eq_true rfl) ?_
 refine wp_seq (wp_region_lit ?_)
 refine wv ((.slice none 0 0)) rfl rfl rfl ?_
 refine wl_nil (then_n (wp_seq (wp_region_lit ?_)))
 refine wv ((.slice none 0 0)) rfl rfl rfl ?_
 refine wl_nil (then_n (wp_seq (wp_region_lit ?_)))
 refine wv (p0) rfl rfl rfl ?_
 obtain ⟨t350, ht351, hm⟩ := bind_some hm
 refine wl_call rfl rfl (x_call Try.call28 rfl (vs := [p0, .int .i64 (4:Int)]) rfl) ?_
 refine (ref12_Tape_Next_ref hst.to1 ht351).mono ?_
 rintro _ w352 ⟨rfl, hst⟩
 refine ⟨_, rfl, ?_⟩
 replace hst := hst.of1
 refine wv (.int .i64 t350.1) rfl rfl rfl ?_
 refine wl_nil (then_n (wp_seq (wp_seq (wp_region_lit ?_))))
 refine wv (.int .i64 (0:Int)) rfl rfl rfl ?_
 refine wl_nil (then_n (wp_block ?_))
 replace hst := hst.own_nil (tyInt .u8)
 obtain ⟨n411, hm⟩ := loopO_some hm
 refine wp_loop_n (fun n a w => ∃ (z405 : ref12_Tape) (z406 : (List Int)) (z409 : Int) (v407 : Value) (σ410 : Nat → Value), loopN (ref12_Tape_Val_l0 t350) n (z405, z406, z409) = some r ∧ a = Fr 21 (upd (upd (upd (upd σ410 0 (p0)) 3 (v407)) 4 (.int .i64 t350.1)) 5 (.int .i64 z409)) ∧ St w0 w I [ownS (tyInt .u8) v407 z406, at_ref12_Tape p0 z405] R) n411 ⟨t350.2, [], (0:Int), (.slice none 0 0), _, hm, ((fr_upd (t := 0) (v := p0) rfl).trans ((fr_upd (t := 3) (v := (.slice none 0 0)) rfl).trans ((fr_upd (t := 4) (v := .int .i64 t350.1) rfl).trans ((fr_upd (t := 5) (v := .int .i64 (0:Int)) rfl).trans rfl)))), hst⟩ ?_
 rintro n417 _ w412 ⟨z405, z406, z409, v407, σ410, hm, rfl, hst⟩
 obtain ⟨n414, y415, rfl, hm, hx416⟩ := loopN_some hm
 dsimp only [ref12_Tape_Val_l0] at hm
 refine wp_seq (wp_seq (wp_region_lit ?_))
 refine wv (.int .i64 z409) rfl rfl rfl ?_
 refine wv (.int .i64 t350.1) rfl rfl rfl ?_
 refine wv (.bool (decide (z409 < t350.1))) rfl rfl rfl ?_
 refine wl_nil (then_n ?_)
 refine bsplit (decide (z409 < t350.1)) (fun hc418 => ?_) (fun hc418 => ?_)
 ·skip
  replace hm := bif_t hc418 hm
  refine wp_ift (congrArg Value.bool hc418) ?_
  refine wp_skip (then_n (wp_seq (wp_block (wp_region_lit ?_))))
  refine wv (v407) rfl rfl rfl ?_
  refine wv (p0) rfl rfl rfl ?_
  replace hst := hst.pull1
  obtain ⟨t419, ht420, hm⟩ := bind_some hm
  refine wl_call rfl rfl (x_call Try.call28 rfl (vs := [p0, .int .i64 (26:Int)]) rfl) ?_
  refine (ref12_Tape_Next_ref hst.to1 ht420).mono ?_
  rintro _ w421 ⟨rfl, hst⟩
  refine ⟨_, rfl, ?_⟩
  replace hst := hst.of1
  refine wv (.int .i64 (IntKind.i64.wrap ((97:Int) + t419.1))) rfl rfl rfl ?_
  refine wv (.int .u8 (IntKind.u8.wrap (IntKind.i64.wrap ((97:Int) + t419.1)))) rfl rfl (by kernel_rfl) ?_
  obtain ⟨b424, w425, ew426, eb427, hst⟩ := hst.lits (E := (tyInt .u8)) (xs := [(IntKind.u8.wrap (IntKind.i64.wrap ((97:Int) + t419.1)))]) [[.int .u8 (IntKind.u8.wrap (IntKind.i64.wrap ((97:Int) + t419.1)))]] 5 1 rfl (Reps.cons rfl Reps.nil)
  refine wl_run (v := (.slice (some ⟨b424, 0, none⟩) 1 1)) (w' := w425) rfl rfl (x_als (by kernel_rfl) ew426 eb427) ?_
  obtain ⟨hg429, hm⟩ := gd_some hm
  replace hst := hst.pull2
  obtain ⟨v430, w431, hr432, hst⟩ := run_append elem_22 Try.underlying22 hst hst.src1 (room_of hg429 rfl) 22
  refine wl_run (v := v430) (w' := w431) rfl rfl (x_append rfl rfl hr432) ?_
  refine wv (v430) rfl rfl rfl ?_
  refine wl_nil (blk_n (then_n (wp_region_lit ?_)))
  refine wv (.int .i64 z409) rfl rfl rfl ?_
  refine wv (.int .i64 (IntKind.i64.wrap (z409 + (1:Int)))) rfl rfl rfl ?_
  refine wv (.int .i64 (IntKind.i64.wrap (z409 + (1:Int)))) rfl rfl rfl ?_
  refine wl_nil (then_n ?_)
  replace hst := hst.pull2
  replace hst := hst.pull1
  replace hst := hst.keep2
  obtain rfl := some_inj hm
  exact ⟨_, Nat.lt_succ_self _, t419.2, (z406 ++ ([(IntKind.u8.wrap (IntKind.i64.wrap ((97:Int) + t419.1)))])), (IntKind.i64.wrap (z409 + (1:Int))), v430, _, hx416, ((fr_upd (t := 0) (v := p0) rfl).trans ((fr_upd (t := 3) (v := v430) rfl).trans ((fr_upd (t := 4) (v := .int .i64 t350.1) rfl).trans ((fr_upd (t := 5) (v := .int .i64 (IntKind.i64.wrap (z409 + (1:Int)))) rfl).trans rfl)))), hst⟩
 ·skip
  replace hm := bif_f hc418 hm
  refine wp_iff (congrArg Value.bool hc418) ?_
  refine wp_exit (then_x (then_x ?_))
  replace hm := inr_up hm hx416
  refine blk_x (then_n (wp_seq (wp_region_lit ?_)))
  refine wv (v407) rfl rfl rfl ?_
  refine wv (v407) rfl rfl rfl ?_
  refine wl_nil (then_n (wp_ret ?_))
  obtain rfl := some_inj hm
  refine post_ret (vs := [v407]) Try.results29 (rvs_cons (rv_tmp rfl) rvs_nil) ?_
  replace hst := hst.pull1
  replace hst := hst.pull1
  exact ⟨v407, rfl, hst.keep2⟩

theorem ref12_Tape_Of_ref {w0 w : World} {I : HL} {R : SP} {a0 : ref12_Tape} {p0 : Value}  (hst : St w0 w I [at_ref12_Tape p0 a0] R) {r : (api_ID × ref12_Tape)} (hm : ref12_Tape_Of a0 = some r) :
  Calls Try.prog 32 #[p0] w fun e w' => e = .returned (.agg #[.int .u64 r.1.Session, .int .u64 r.1.Seq]) ∧ St w0 w' I [at_ref12_Tape p0 r.2] R := by
 unfold ref12_Tape_Of at hm
 refine calls_start (args := [p0]) Try.func32 rfl Try.ntmps32 (Nat.le_of_ble_eq_true rfl) ?_
 refine wp_seq (wp_region_lit ?_)
 obtain ⟨b490, w491, ew492, eb493, hst⟩ := hst.box [.int .u64 (0:Int), .int .u64 (0:Int)] 32
 refine wl_run (v := .pointer (some ⟨b490, 0, none⟩)) (w' := w491) rfl rfl (x_al (by kernel_rfl) ew492 eb493) ?_
 refine wl_nil (then_n (wp_seq (wp_region_lit ?_)))
 refine wv (p0) rfl rfl rfl ?_
 replace hst := hst.pull1
 obtain ⟨t495, ht496, hm⟩ := bind_some hm
 refine wl_call rfl rfl (x_call Try.call28 rfl (vs := [p0, .int .i64 (4:Int)]) rfl) ?_
 refine (ref12_Tape_Next_ref hst.to1 ht496).mono ?_
 rintro _ w497 ⟨rfl, hst⟩
 refine ⟨_, rfl, ?_⟩
 replace hst := hst.of1
 refine wv (.int .u64 (IntKind.u64.wrap t495.1)) rfl rfl (by kernel_rfl) ?_
 refine wv (p0) rfl rfl rfl ?_
 obtain ⟨t500, ht501, hm⟩ := bind_some hm
 refine wl_call rfl rfl (x_call Try.call28 rfl (vs := [p0, .int .i64 (4:Int)]) rfl) ?_
 refine (ref12_Tape_Next_ref hst.to1 ht501).mono ?_
 rintro _ w502 ⟨rfl, hst⟩
 refine ⟨_, rfl, ?_⟩
 replace hst := hst.of1
 refine wv (.int .i64 (IntKind.i64.wrap ((1:Int) + t500.1))) rfl rfl rfl ?_
 refine wv (.int .u64 (IntKind.u64.wrap (IntKind.i64.wrap ((1:Int) + t500.1)))) rfl rfl (by kernel_rfl) ?_
 refine wv (.agg #[.int .u64 (IntKind.u64.wrap t495.1), .int .u64 (IntKind.u64.wrap (IntKind.i64.wrap ((1:Int) + t500.1)))]) rfl rfl (by kernel_rfl) ?_
 replace hst := hst.pull1
 obtain ⟨w505, hr506, hst⟩ := hst.boxStore (P := Try.prog) (t := 32) (cs' := [.int .u64 (IntKind.u64.wrap t495.1), .int .u64 (IntKind.u64.wrap (IntKind.i64.wrap ((1:Int) + t500.1)))]) 0 (.agg #[.int .u64 (IntKind.u64.wrap t495.1), .int .u64 (IntKind.u64.wrap (IntKind.i64.wrap ((1:Int) + t500.1)))]) Try.sizeOf32 (Nat.le_of_ble_eq_true rfl) (ones_cons rfl (ones_cons rfl ones_nil)) (by kernel_rfl)
 refine wl_unit rfl rfl (x_unit hr506) ?_
 refine wl_nil (then_n (wp_ret ?_))
 obtain rfl := some_inj hm
 refine post_ret (vs := [.agg #[.int .u64 (IntKind.u64.wrap t495.1), .int .u64 (IntKind.u64.wrap (IntKind.i64.wrap ((1:Int) + t500.1)))]]) Try.results32 (rvs_cons (rv_cell (cs := [.int .u64 (IntKind.u64.wrap t495.1), .int .u64 (IntKind.u64.wrap (IntKind.i64.wrap ((1:Int) + t500.1)))]) rfl Try.isAgg32 Try.sizeOf32 (hst.bcs0 0 rfl)) rvs_nil) ?_
 replace hst := hst.pull1
 exact ⟨rfl, hst.keep1⟩

theorem ref12_small_ref {w0 w : World} {I : HL} {R : SP} {a0 : Int}  (hst : St w0 w I [] R) {r : (Nat)} (hm : ref12_small a0 = some r) :
  Calls Try.prog 70 #[.int .u8 a0] w fun e w' => e = .returned (.float .f64 r) ∧ St w0 w' I [] R := by
 unfold ref12_small at hm
 refine calls_start (args := [.int .u8 a0]) Try.func70 rfl Try.ntmps70 (Nat.le_of_ble_eq_true rfl) ?_
 refine wp_seq (wp_region_lit ?_)
 refine wv (.float .f64 (0:Nat)) rfl rfl rfl ?_
 refine wl_nil (then_n (wp_seq (wp_region_lit ?_)))
 obtain ⟨b518, w519, ew520, eb521, hst⟩ := hst.lits (E := tyF64) (xs := [(0:Nat), (4607182418800017408:Nat), (13830554455654793216:Nat), (4612811918334230528:Nat), (9094988921128908188:Nat), (18318360957983683996:Nat), (4602678819172646912:Nat), (4613937818241073152:Nat)]) [[.float .f64 (0:Nat)], [.float .f64 (4607182418800017408:Nat)], [.float .f64 (13830554455654793216:Nat)], [.float .f64 (4612811918334230528:Nat)], [.float .f64 (9094988921128908188:Nat)], [.float .f64 (18318360957983683996:Nat)], [.float .f64 (4602678819172646912:Nat)], [.float .f64 (4613937818241073152:Nat)]] 44 8 rfl (Reps.cons rfl (Reps.cons rfl (Reps.cons rfl (Reps.cons rfl (Reps.cons rfl (Reps.cons rfl (Reps.cons rfl (Reps.cons rfl Reps.nil))))))))
 refine wl_run (v := (.slice (some ⟨b518, 0, none⟩) 8 8)) (w' := w519) rfl rfl (x_als (by kernel_rfl) ew520 eb521) ?_
 refine wv ((.slice (some ⟨b518, 0, none⟩) 8 8)) rfl rfl rfl ?_
 refine wl_nil (then_n (wp_seq (wp_region_lit ?_)))
 refine wv ((.slice (some ⟨b518, 0, none⟩) 8 8)) rfl rfl rfl ?_
 refine wv (.int .u8 a0) rfl rfl rfl ?_
 refine wv (.int .u8 (Int.tmod a0 (8:Int))) rfl rfl (x_rem (by decide) rfl rfl) ?_
 obtain ⟨x523, hx524, hm⟩ := bind_some hm
 obtain ⟨h525, h526, hi527⟩ := geto_some hx524
 refine wv (.pointer (some (eAddr (.slice (some ⟨b518, 0, none⟩) 8 8) ((Int.tmod a0 (8:Int)).toNat * 1 + 0)))) rfl rfl (x_index rfl rfl Try.underlying33 Try.sizeOf44 hst.sv0 h525 h526) ?_
 refine wv (.float .f64 x523) rfl rfl (x_load rfl Try.isAgg44 (hst.ol0 hi527 (by rintro _ rfl; rfl))) ?_
 refine wv (.float .f64 x523) rfl rfl rfl ?_
 refine wl_nil (then_n (wp_ret ?_))
 obtain rfl := some_inj hm
 refine post_ret (vs := [.float .f64 x523]) Try.results70 (rvs_cons (rv_tmp rfl) rvs_nil) ?_
 exact ⟨rfl, hst.keep0⟩

theorem ref12_Tape_Float_ref {w0 w : World} {I : HL} {R : SP} {a0 : ref12_Tape} {p0 : Value}  (hst : St w0 w I [at_ref12_Tape p0 a0] R) {r : (Nat × ref12_Tape)} (hm : ref12_Tape_Float a0 = some r) :
  Calls Try.prog 59 #[p0] w fun e w' => e = .returned (.float .f64 r.1) ∧ St w0 w' I [at_ref12_Tape p0 r.2] R := by
 unfold ref12_Tape_Float at hm
 refine calls_start (args := [p0]) Try.func59 rfl Try.ntmps59 (Nat.le_of_ble_eq_true rfl) ?_
 refine wp_seq (wp_region_lit ?_)
 refine wv (.float .f64 (0:Nat)) rfl rfl rfl ?_
 refine wl_nil (then_n (wp_seq (wp_region_lit ?_)))
 refine wv (p0) rfl rfl rfl ?_
 obtain ⟨t514, ht515, hm⟩ := bind_some hm
 refine wl_call rfl rfl (x_call Try.call28 rfl (vs := [p0, .int .i64 (8:Int)]) rfl) ?_
 refine (ref12_Tape_Next_ref hst.to1 ht515).mono ?_
 rintro _ w516 ⟨rfl, hst⟩
 refine ⟨_, rfl, ?_⟩
 replace hst := hst.of1
 refine wv (.int .u8 (IntKind.u8.wrap t514.1)) rfl rfl (by kernel_rfl) ?_
 obtain ⟨t519, ht520, hm⟩ := bind_some hm
 refine wl_call rfl rfl (x_call Try.call70 rfl (vs := [.int .u8 (IntKind.u8.wrap t514.1)]) rfl) ?_
 refine (ref12_small_ref hst.to0 ht520).mono ?_
 rintro _ w521 ⟨rfl, hst⟩
 refine ⟨_, rfl, ?_⟩
 replace hst := hst.of0
 refine wv (.float .f64 t519) rfl rfl rfl ?_
 refine wl_nil (then_n (wp_ret ?_))
 obtain rfl := some_inj hm
 refine post_ret (vs := [.float .f64 t519]) Try.results59 (rvs_cons (rv_tmp rfl) rvs_nil) ?_
 exact ⟨rfl, hst.keep1⟩

theorem ref12_Tape_Hold_ref {w0 w : World} {I : HL} {R : SP} {a0 : ref12_Tape} {p0 : Value}  (hst : St w0 w I [at_ref12_Tape p0 a0] R) {r : (api_Hold × ref12_Tape)} (hm : ref12_Tape_Hold a0 = some r) :
  Calls Try.prog 30 #[p0] w fun e w' => ∃ (q0_0 : Value) (q0_1 : Value) (q0_2 : Value) (q0_3 : Value), e = .returned (.agg #[.int .u64 r.1.ID.Session, .int .u64 r.1.ID.Seq, .int .u64 r.1.Epoch, q0_0, q0_1, q0_2, q0_3]) ∧ St w0 w' I [ownS tyF64 q0_0 r.1.Gets, ownS tyF2 q0_1 r.1.Scans, ownS tyF64 q0_2 r.1.Puts, ownS (tyInt .u8) q0_3 r.1.Data, at_ref12_Tape p0 r.2] R := by
 unfold ref12_Tape_Hold at hm
 refine calls_start (args := [p0]) Try.func30 rfl Try.ntmps30 (Nat.le_of_ble_eq_true rfl) ?_
 refine wp_seq (wp_region_lit ?_)
 obtain ⟨b840, w841, ew842, eb843, hst⟩ := hst.box [.int .u64 (0:Int), .int .u64 (0:Int), .int .u64 (0:Int), (.slice none 0 0), (.slice none 0 0), (.slice none 0 0), (.slice none 0 0)] 36
 refine wl_run (v := .pointer (some ⟨b840, 0, none⟩)) (w' := w841) rfl rfl (x_al (by kernel_rfl) ew842 eb843) ?_
 refine wl_nil (then_n (wp_seq (wp_region_lit ?_)))
 refine wv (p0) rfl rfl rfl ?_
 replace hst := hst.pull1
 obtain ⟨t845, ht846, hm⟩ := bind_some hm
 refine wl_call rfl rfl (x_call Try.call32 rfl (vs := [p0]) rfl) ?_
 refine (ref12_Tape_Of_ref hst.to1 ht846).mono ?_
 rintro _ w847 ⟨rfl, hst⟩
 refine ⟨_, rfl, ?_⟩
 replace hst := hst.of1
 refine wv (p0) rfl rfl rfl ?_
 obtain ⟨t850, ht851, hm⟩ := bind_some hm
 refine wl_call rfl rfl (x_call Try.call28 rfl (vs := [p0, .int .i64 (4:Int)]) rfl) ?_
 refine (ref12_Tape_Next_ref hst.to1 ht851).mono ?_
 rintro _ w852 ⟨rfl, hst⟩
 refine ⟨_, rfl, ?_⟩
 replace hst := hst.of1
 refine wv (.int .i64 (IntKind.i64.wrap ((1:Int) + t850.1))) rfl rfl rfl ?_
 refine wv (.int .u64 (IntKind.u64.wrap (IntKind.i64.wrap ((1:Int) + t850.1)))) rfl rfl (by kernel_rfl) ?_
 refine wv (.agg #[.int .u64 t845.1.Session, .int .u64 t845.1.Seq, .int .u64 (IntKind.u64.wrap (IntKind.i64.wrap ((1:Int) + t850.1))), (.slice none 0 0), (.slice none 0 0), (.slice none 0 0), (.slice none 0 0)]) rfl rfl (by kernel_rfl) ?_
 obtain ⟨b863, w864, ew865, eb866, hst⟩ := hst.box [.int .u64 (0:Int), .int .u64 (0:Int), .int .u64 (0:Int), (.slice none 0 0), (.slice none 0 0), (.slice none 0 0), (.slice none 0 0)] 36
 refine wl_run (v := .pointer (some ⟨b863, 0, none⟩)) (w' := w864) rfl rfl (x_al (by kernel_rfl) ew865 eb866) ?_
 obtain ⟨w868, hr869, hst⟩ := hst.boxStore (P := Try.prog) (t := 36) (cs' := [.int .u64 t845.1.Session, .int .u64 t845.1.Seq, .int .u64 (IntKind.u64.wrap (IntKind.i64.wrap ((1:Int) + t850.1))), (.slice none 0 0), (.slice none 0 0), (.slice none 0 0), (.slice none 0 0)]) 0 (.agg #[.int .u64 t845.1.Session, .int .u64 t845.1.Seq, .int .u64 (IntKind.u64.wrap (IntKind.i64.wrap ((1:Int) + t850.1))), (.slice none 0 0), (.slice none 0 0), (.slice none 0 0), (.slice none 0 0)]) Try.sizeOf36 (Nat.le_of_ble_eq_true rfl) (ones_cons rfl (ones_cons rfl (ones_cons rfl (ones_cons rfl (ones_cons rfl (ones_cons rfl (ones_cons rfl ones_nil))))))) (by kernel_rfl)
 refine wl_unit rfl rfl (x_unit hr869) ?_
 refine wl_nil (then_n (wp_seq (wp_region_lit ?_)))
 refine wv (p0) rfl rfl rfl ?_
 replace hst := hst.pull1
 obtain ⟨t870, ht871, hm⟩ := bind_some hm
 refine wl_call rfl rfl (x_call Try.call28 rfl (vs := [p0, .int .i64 (3:Int)]) rfl) ?_
 refine (ref12_Tape_Next_ref hst.to1 ht871).mono ?_
 rintro _ w872 ⟨rfl, hst⟩
 refine ⟨_, rfl, ?_⟩
 replace hst := hst.of1
 refine wv (.int .i64 t870.1) rfl rfl rfl ?_
 refine wl_nil (then_n ?_)
 obtain ⟨y967, hm, hx968⟩ := bind_some hm
 refine wp_cut (fun a w => ∃ (z961 : ref12_Tape) (z964 : (List Nat)) (v963 : Value) (σ965 : Nat → Value), (ref12_Tape_Hold_j0 t845 t850) (z961, z964) = some r ∧ a = Fr 68 (upd (upd (upd σ965 0 (p0)) 2 (.pointer (some ⟨b840, 0, none⟩))) 3 (.pointer (some ⟨b863, 0, none⟩))) ∧ St w0 w I [at_ref12_Tape p0 z961, cells b840 [.int .u64 (0:Int), .int .u64 (0:Int), .int .u64 (0:Int), (.slice none 0 0), (.slice none 0 0), (.slice none 0 0), (.slice none 0 0)], cells b863 [.int .u64 t845.1.Session, .int .u64 t845.1.Seq, .int .u64 (IntKind.u64.wrap (IntKind.i64.wrap ((1:Int) + t850.1))), v963, (.slice none 0 0), (.slice none 0 0), (.slice none 0 0)], ownS tyF64 v963 z964] R) ?_ ?_
 ·skip
  refine wp_seq (wp_region_lit ?_)
  refine wv (.int .i64 (0:Int)) rfl rfl rfl ?_
  refine wl_nil (then_n (wp_block ?_))
  replace hst := hst.own_nil tyF64
  obtain ⟨n937, hm⟩ := loopO_some hm
  refine wp_loop_n (fun n a w => ∃ (z931 : (List Nat)) (z934 : ref12_Tape) (z935 : Int) (v932 : Value) (σ936 : Nat → Value), loopN (ref12_Tape_Hold_l1 t870) n (z931, z934, z935) = some y967 ∧ a = Fr 68 (upd (upd (upd (upd (upd σ936 0 (p0)) 2 (.pointer (some ⟨b840, 0, none⟩))) 3 (.pointer (some ⟨b863, 0, none⟩))) 4 (.int .i64 t870.1)) 5 (.int .i64 z935)) ∧ St w0 w I [ownS tyF64 v932 z931, at_ref12_Tape p0 z934, cells b863 [.int .u64 t845.1.Session, .int .u64 t845.1.Seq, .int .u64 (IntKind.u64.wrap (IntKind.i64.wrap ((1:Int) + t850.1))), v932, (.slice none 0 0), (.slice none 0 0), (.slice none 0 0)], cells b840 [.int .u64 (0:Int), .int .u64 (0:Int), .int .u64 (0:Int), (.slice none 0 0), (.slice none 0 0), (.slice none 0 0), (.slice none 0 0)]] R) n937 ⟨[], t870.2, (0:Int), (.slice none 0 0), _, hm, ((fr_upd (t := 0) (v := p0) rfl).trans ((fr_upd (t := 2) (v := .pointer (some ⟨b840, 0, none⟩)) rfl).trans ((fr_upd (t := 3) (v := .pointer (some ⟨b863, 0, none⟩)) rfl).trans ((fr_upd (t := 4) (v := .int .i64 t870.1) rfl).trans ((fr_upd (t := 5) (v := .int .i64 (0:Int)) rfl).trans rfl))))), hst⟩ ?_
  rintro n943 _ w938 ⟨z931, z934, z935, v932, σ936, hm, rfl, hst⟩
  obtain ⟨n940, y941, rfl, hm, hx942⟩ := loopN_some hm
  dsimp only [ref12_Tape_Hold_l1] at hm
  refine wp_seq (wp_seq (wp_region_lit ?_))
  refine wv (.int .i64 z935) rfl rfl rfl ?_
  refine wv (.int .i64 t870.1) rfl rfl rfl ?_
  refine wv (.bool (decide (z935 < t870.1))) rfl rfl rfl ?_
  refine wl_nil (then_n ?_)
  refine bsplit (decide (z935 < t870.1)) (fun hc944 => ?_) (fun hc944 => ?_)
  ·skip
   replace hm := bif_t hc944 hm
   refine wp_ift (congrArg Value.bool hc944) ?_
   refine wp_skip (then_n (wp_seq (wp_block ?_)))
   refine wp_region_St hst 8 [0, 1, 2, 3, 4, 5, 6, 7] [0, 1, 0, 4, 12, 31, 63, 127] [] rfl (by kernel_rfl) (by kernel_rfl) Try.mixed (by kernel_rfl) ?_
   refine wsr (.pointer (some ⟨b863, 3, none⟩)) 0 rfl rfl rfl (by kernel_rfl) (fun w hst => x_field rfl Try.underlying36 rfl Try.sizeOf33 rfl) ?_
   refine wsr (v932) 1 rfl rfl rfl (by kernel_rfl) (fun w hst => x_load rfl Try.isAgg33 (hst.bc2 rfl)) ?_
   refine wsr (p0) 2 rfl rfl rfl (by kernel_rfl) (fun w hst => rfl) ?_
   refine ws_e1 3 (by kernel_rfl) ?_
   refine nxe [4, 5, 6, 7] (by kernel_rfl) rfl rfl ?_
   clear hst
   intro w hst
   replace hst := hst.pull1
   obtain ⟨t945, ht946, hm⟩ := bind_some hm
   refine we_call rfl (x_call Try.call59 rfl (vs := [p0]) rfl) ?_
   refine (ref12_Tape_Float_ref hst.to1 ht946).mono ?_
   rintro _ w947 ⟨rfl, hst⟩
   refine ⟨_, rfl, ?_⟩
   replace hst := hst.of1
   refine ws_next (pend' := [(1, v932), (0, .pointer (some ⟨b863, 3, none⟩))]) hst (by kernel_rfl) (pkr rfl rfl (fun w hst => x_load rfl Try.isAgg33 (hst.bc2 rfl)) (pkr rfl rfl (fun w hst => x_field rfl Try.underlying36 rfl Try.sizeOf33 rfl) pk_nil)) ?_
   refine ws_e1 4 (by kernel_rfl) ?_
   refine nxe [5, 6, 7] (by kernel_rfl) rfl rfl ?_
   clear hst
   intro w hst
   obtain ⟨b950, w951, ew952, eb953, hst⟩ := hst.lits (E := tyF64) (xs := [t945.1]) [[.float .f64 t945.1]] 44 1 rfl (Reps.cons rfl Reps.nil)
   refine we_run (v := (.slice (some ⟨b950, 0, none⟩) 1 1)) (w' := w951) rfl (x_als (by kernel_rfl) ew952 eb953) ?_
   refine ws_next (pend' := [(1, v932), (0, .pointer (some ⟨b863, 3, none⟩))]) hst (by kernel_rfl) (pkr rfl rfl (fun w hst => x_load rfl Try.isAgg33 (hst.bc3 rfl)) (pkr rfl rfl (fun w hst => x_field rfl Try.underlying36 rfl Try.sizeOf33 rfl) pk_nil)) ?_
   refine ws_e1 5 (by kernel_rfl) ?_
   refine nxe [6, 7] (by kernel_rfl) rfl rfl ?_
   clear hst
   intro w hst
   obtain ⟨hg955, hm⟩ := gd_some hm
   replace hst := hst.pull2
   obtain ⟨v956, w957, hr958, hst⟩ := run_append elem_33 Try.underlying33 hst hst.src1 (room_of hg955 rfl) 33
   refine we_run (v := v956) (w' := w957) rfl (x_append rfl rfl hr958) ?_
   refine ws_next (pend' := []) hst (by kernel_rfl) pk_nil ?_
   refine wsr (.pointer (some ⟨b863, 3, none⟩)) 6 rfl rfl rfl (by kernel_rfl) (fun w hst => x_field rfl Try.underlying36 rfl Try.sizeOf33 rfl) ?_
   refine ws_e1 7 (by kernel_rfl) ?_
   refine nxe [] (by kernel_rfl) rfl rfl ?_
   clear hst
   intro w hst
   replace hst := hst.pull3
   obtain ⟨w959, hr960, hst⟩ := hst.boxStore1 (P := Try.prog) (t := 33) (cs' := [.int .u64 t845.1.Session, .int .u64 t845.1.Seq, .int .u64 (IntKind.u64.wrap (IntKind.i64.wrap ((1:Int) + t850.1))), v956, (.slice none 0 0), (.slice none 0 0), (.slice none 0 0)]) 3 v956 (one_of_sliceV hst.sv1) Try.sizeOf33 rfl rfl
   refine we_unit rfl (x_unit hr960) ?_
   refine ws_next (pend' := []) hst (by kernel_rfl) pk_nil ?_
   refine ws_nil ?_
   intro w hst
   refine blk_n (then_n (wp_region_lit ?_))
   refine wv (.int .i64 z935) rfl rfl rfl ?_
   refine wv (.int .i64 (IntKind.i64.wrap (z935 + (1:Int)))) rfl rfl rfl ?_
   refine wv (.int .i64 (IntKind.i64.wrap (z935 + (1:Int)))) rfl rfl rfl ?_
   refine wl_nil (then_n ?_)
   replace hst := hst.pull4
   replace hst := hst.pull1
   replace hst := hst.pull4
   replace hst := hst.pull3
   replace hst := hst.keep4
   obtain rfl := some_inj hm
   exact ⟨_, Nat.lt_succ_self _, (z931 ++ ([t945.1])), t945.2, (IntKind.i64.wrap (z935 + (1:Int))), v956, _, hx942, ((fr_upd (t := 0) (v := p0) rfl).trans ((fr_upd (t := 2) (v := .pointer (some ⟨b840, 0, none⟩)) rfl).trans ((fr_upd (t := 3) (v := .pointer (some ⟨b863, 0, none⟩)) rfl).trans ((fr_upd (t := 4) (v := .int .i64 t870.1) rfl).trans ((fr_upd (t := 5) (v := .int .i64 (IntKind.i64.wrap (z935 + (1:Int)))) rfl).trans rfl))))), hst⟩
  ·skip
   replace hm := bif_f hc944 hm
   refine wp_iff (congrArg Value.bool hc944) ?_
   refine wp_exit (then_x (then_x ?_))
   replace hm := inr_up hm hx942
   refine blk_x (then_n ?_)
   replace hst := hst.pull2
   replace hst := hst.pull3
   replace hst := hst.pull3
   replace hst := hst.keep4
   obtain rfl := some_inj hm
   exact ⟨z934, z931, v932, _, hx968, ((fr_upd (t := 0) (v := p0) rfl).trans ((fr_upd (t := 2) (v := .pointer (some ⟨b840, 0, none⟩)) rfl).trans ((fr_upd (t := 3) (v := .pointer (some ⟨b863, 0, none⟩)) rfl).trans rfl))), hst⟩
 ·skip
  clear hst
  rintro _ w969 ⟨z961, z964, v963, σ965, hm, rfl, hst⟩
  dsimp only [ref12_Tape_Hold_j0] at hm
  refine wp_seq (wp_region_lit ?_)
  refine wv (p0) rfl rfl rfl ?_
  obtain ⟨t970, ht971, hm⟩ := bind_some hm
  refine wl_call rfl rfl (x_call Try.call28 rfl (vs := [p0, .int .i64 (3:Int)]) rfl) ?_
  refine (ref12_Tape_Next_ref hst.to1 ht971).mono ?_
  rintro _ w972 ⟨rfl, hst⟩
  refine ⟨_, rfl, ?_⟩
  replace hst := hst.of1
  refine wv (.int .i64 (IntKind.i64.wrap (Int.tdiv t970.1 (2:Int)))) rfl rfl (x_quo (by decide) rfl rfl) ?_
  refine wv (.int .i64 (IntKind.i64.wrap (Int.tdiv t970.1 (2:Int)))) rfl rfl rfl ?_
  refine wl_nil (then_n ?_)
  obtain ⟨y1087, hm, hx1088⟩ := bind_some hm
  refine wp_cut (fun a w => ∃ (z1081 : ref12_Tape) (z1084 : (List (Nat × Nat))) (v1083 : Value) (σ1085 : Nat → Value), (ref12_Tape_Hold_j2 t845 t850 z964) (z1081, z1084) = some r ∧ a = Fr 68 (upd (upd (upd σ1085 0 (p0)) 2 (.pointer (some ⟨b840, 0, none⟩))) 3 (.pointer (some ⟨b863, 0, none⟩))) ∧ St w0 w I [at_ref12_Tape p0 z1081, cells b840 [.int .u64 (0:Int), .int .u64 (0:Int), .int .u64 (0:Int), (.slice none 0 0), (.slice none 0 0), (.slice none 0 0), (.slice none 0 0)], cells b863 [.int .u64 t845.1.Session, .int .u64 t845.1.Seq, .int .u64 (IntKind.u64.wrap (IntKind.i64.wrap ((1:Int) + t850.1))), v963, v1083, (.slice none 0 0), (.slice none 0 0)], ownS tyF64 v963 z964, ownS tyF2 v1083 z1084] R) ?_ ?_
  ·skip
   refine wp_seq (wp_region_lit ?_)
   refine wv (.int .i64 (0:Int)) rfl rfl rfl ?_
   refine wl_nil (then_n (wp_block ?_))
   replace hst := hst.own_nil tyF2
   obtain ⟨n1052, hm⟩ := loopO_some hm
   refine wp_loop_n (fun n a w => ∃ (z1046 : (List (Nat × Nat))) (z1049 : ref12_Tape) (z1050 : Int) (v1047 : Value) (σ1051 : Nat → Value), loopN (ref12_Tape_Hold_l3 t970) n (z1046, z1049, z1050) = some y1087 ∧ a = Fr 68 (upd (upd (upd (upd (upd σ1051 0 (p0)) 2 (.pointer (some ⟨b840, 0, none⟩))) 3 (.pointer (some ⟨b863, 0, none⟩))) 4 (.int .i64 (IntKind.i64.wrap (Int.tdiv t970.1 (2:Int))))) 6 (.int .i64 z1050)) ∧ St w0 w I [ownS tyF2 v1047 z1046, at_ref12_Tape p0 z1049, cells b840 [.int .u64 (0:Int), .int .u64 (0:Int), .int .u64 (0:Int), (.slice none 0 0), (.slice none 0 0), (.slice none 0 0), (.slice none 0 0)], cells b863 [.int .u64 t845.1.Session, .int .u64 t845.1.Seq, .int .u64 (IntKind.u64.wrap (IntKind.i64.wrap ((1:Int) + t850.1))), v963, v1047, (.slice none 0 0), (.slice none 0 0)], ownS tyF64 v963 z964] R) n1052 ⟨[], t970.2, (0:Int), (.slice none 0 0), _, hm, ((fr_upd (t := 0) (v := p0) rfl).trans ((fr_upd (t := 2) (v := .pointer (some ⟨b840, 0, none⟩)) rfl).trans ((fr_upd (t := 3) (v := .pointer (some ⟨b863, 0, none⟩)) rfl).trans ((fr_upd (t := 4) (v := .int .i64 (IntKind.i64.wrap (Int.tdiv t970.1 (2:Int)))) rfl).trans ((fr_upd (t := 6) (v := .int .i64 (0:Int)) rfl).trans rfl))))), hst⟩ ?_
   rintro n1058 _ w1053 ⟨z1046, z1049, z1050, v1047, σ1051, hm, rfl, hst⟩
   obtain ⟨n1055, y1056, rfl, hm, hx1057⟩ := loopN_some hm
   dsimp only [ref12_Tape_Hold_l3] at hm
   refine wp_seq (wp_seq (wp_region_lit ?_))
   refine wv (.int .i64 z1050) rfl rfl rfl ?_
   refine wv (.int .i64 (IntKind.i64.wrap (Int.tdiv t970.1 (2:Int)))) rfl rfl rfl ?_
   refine wv (.bool (decide (z1050 < (IntKind.i64.wrap (Int.tdiv t970.1 (2:Int)))))) rfl rfl rfl ?_
   refine wl_nil (then_n ?_)
   refine bsplit (decide (z1050 < (IntKind.i64.wrap (Int.tdiv t970.1 (2:Int))))) (fun hc1059 => ?_) (fun hc1059 => ?_)
   ·skip
    replace hm := bif_t hc1059 hm
    refine wp_ift (congrArg Value.bool hc1059) ?_
    refine wp_skip (then_n (wp_seq (wp_block ?_)))
    refine wp_region_St hst 11 [0, 1, 2, 3, 4, 5, 6, 7, 8, 9, 10] [0, 1, 0, 4, 0, 28, 60, 124, 255, 511, 1023] [] rfl (by kernel_rfl) (by kernel_rfl) Try.mixed (by kernel_rfl) ?_
    refine wsr (.pointer (some ⟨b863, 4, none⟩)) 0 rfl rfl rfl (by kernel_rfl) (fun w hst => x_field rfl Try.underlying36 rfl Try.sizeOf34 rfl) ?_
    refine wsr (v1047) 1 rfl rfl rfl (by kernel_rfl) (fun w hst => x_load rfl Try.isAgg34 (hst.bc3 rfl)) ?_
    refine wsr (p0) 2 rfl rfl rfl (by kernel_rfl) (fun w hst => rfl) ?_
    refine wsr (p0) 4 rfl rfl rfl (by kernel_rfl) (fun w hst => rfl) ?_
    refine ws_e1 3 (by kernel_rfl) ?_
    refine nxe [5, 6, 7, 8, 9, 10] (by kernel_rfl) rfl rfl ?_
    clear hst
    intro w hst
    replace hst := hst.pull1
    obtain ⟨t1060, ht1061, hm⟩ := bind_some hm
    refine we_call rfl (x_call Try.call59 rfl (vs := [p0]) rfl) ?_
    refine (ref12_Tape_Float_ref hst.to1 ht1061).mono ?_
    rintro _ w1062 ⟨rfl, hst⟩
    refine ⟨_, rfl, ?_⟩
    replace hst := hst.of1
    refine ws_next (pend' := [(4, p0), (1, v1047), (0, .pointer (some ⟨b863, 4, none⟩))]) hst (by kernel_rfl) (pkr rfl rfl (fun w hst => rfl) (pkr rfl rfl (fun w hst => x_load rfl Try.isAgg34 (hst.bc3 rfl)) (pkr rfl rfl (fun w hst => x_field rfl Try.underlying36 rfl Try.sizeOf34 rfl) pk_nil))) ?_
    refine ws_e1 5 (by kernel_rfl) ?_
    refine nxe [6, 7, 8, 9, 10] (by kernel_rfl) rfl rfl ?_
    clear hst
    intro w hst
    obtain ⟨t1065, ht1066, hm⟩ := bind_some hm
    refine we_call rfl (x_call Try.call59 rfl (vs := [p0]) rfl) ?_
    refine (ref12_Tape_Float_ref hst.to1 ht1066).mono ?_
    rintro _ w1067 ⟨rfl, hst⟩
    refine ⟨_, rfl, ?_⟩
    replace hst := hst.of1
    refine ws_next (pend' := [(1, v1047), (0, .pointer (some ⟨b863, 4, none⟩))]) hst (by kernel_rfl) (pkr rfl rfl (fun w hst => x_load rfl Try.isAgg34 (hst.bc3 rfl)) (pkr rfl rfl (fun w hst => x_field rfl Try.underlying36 rfl Try.sizeOf34 rfl) pk_nil)) ?_
    refine wsr (.agg #[.float .f64 t1060.1, .float .f64 t1065.1]) 6 rfl rfl rfl (by kernel_rfl) (fun w hst => by kernel_rfl) ?_
    refine ws_e1 7 (by kernel_rfl) ?_
    refine nxe [8, 9, 10] (by kernel_rfl) rfl rfl ?_
    clear hst
    intro w hst
    obtain ⟨b1070, w1071, ew1072, eb1073, hst⟩ := hst.lits (E := tyF2) (xs := [(t1060.1, t1065.1)]) [[.float .f64 t1060.1, .float .f64 t1065.1]] 102 1 rfl (Reps.cons rfl Reps.nil)
    refine we_run (v := (.slice (some ⟨b1070, 0, none⟩) 1 1)) (w' := w1071) rfl (x_als (by kernel_rfl) ew1072 eb1073) ?_
    refine ws_next (pend' := [(1, v1047), (0, .pointer (some ⟨b863, 4, none⟩))]) hst (by kernel_rfl) (pkr rfl rfl (fun w hst => x_load rfl Try.isAgg34 (hst.bc4 rfl)) (pkr rfl rfl (fun w hst => x_field rfl Try.underlying36 rfl Try.sizeOf34 rfl) pk_nil)) ?_
    refine ws_e1 8 (by kernel_rfl) ?_
    refine nxe [9, 10] (by kernel_rfl) rfl rfl ?_
    clear hst
    intro w hst
    obtain ⟨hg1075, hm⟩ := gd_some hm
    replace hst := hst.pull2
    obtain ⟨v1076, w1077, hr1078, hst⟩ := run_append elem_34 Try.underlying34 hst hst.src1 (room_of hg1075 rfl) 34
    refine we_run (v := v1076) (w' := w1077) rfl (x_append rfl rfl hr1078) ?_
    refine ws_next (pend' := []) hst (by kernel_rfl) pk_nil ?_
    refine wsr (.pointer (some ⟨b863, 4, none⟩)) 9 rfl rfl rfl (by kernel_rfl) (fun w hst => x_field rfl Try.underlying36 rfl Try.sizeOf34 rfl) ?_
    refine ws_e1 10 (by kernel_rfl) ?_
    refine nxe [] (by kernel_rfl) rfl rfl ?_
    clear hst
    intro w hst
    replace hst := hst.pull4
    obtain ⟨w1079, hr1080, hst⟩ := hst.boxStore1 (P := Try.prog) (t := 34) (cs' := [.int .u64 t845.1.Session, .int .u64 t845.1.Seq, .int .u64 (IntKind.u64.wrap (IntKind.i64.wrap ((1:Int) + t850.1))), v963, v1076, (.slice none 0 0), (.slice none 0 0)]) 4 v1076 (one_of_sliceV hst.sv1) Try.sizeOf34 rfl rfl
    refine we_unit rfl (x_unit hr1080) ?_
    refine ws_next (pend' := []) hst (by kernel_rfl) pk_nil ?_
    refine ws_nil ?_
    intro w hst
    refine blk_n (then_n (wp_region_lit ?_))
    refine wv (.int .i64 z1050) rfl rfl rfl ?_
    refine wv (.int .i64 (IntKind.i64.wrap (z1050 + (1:Int)))) rfl rfl rfl ?_
    refine wv (.int .i64 (IntKind.i64.wrap (z1050 + (1:Int)))) rfl rfl rfl ?_
    refine wl_nil (then_n ?_)
    replace hst := hst.pull5
    replace hst := hst.pull1
    replace hst := hst.pull5
    replace hst := hst.pull5
    replace hst := hst.pull4
    replace hst := hst.keep5
    obtain rfl := some_inj hm
    exact ⟨_, Nat.lt_succ_self _, (z1046 ++ ([(t1060.1, t1065.1)])), t1065.2, (IntKind.i64.wrap (z1050 + (1:Int))), v1076, _, hx1057, ((fr_upd (t := 0) (v := p0) rfl).trans ((fr_upd (t := 2) (v := .pointer (some ⟨b840, 0, none⟩)) rfl).trans ((fr_upd (t := 3) (v := .pointer (some ⟨b863, 0, none⟩)) rfl).trans ((fr_upd (t := 4) (v := .int .i64 (IntKind.i64.wrap (Int.tdiv t970.1 (2:Int)))) rfl).trans ((fr_upd (t := 6) (v := .int .i64 (IntKind.i64.wrap (z1050 + (1:Int)))) rfl).trans rfl))))), hst⟩
   ·skip
    replace hm := bif_f hc1059 hm
    refine wp_iff (congrArg Value.bool hc1059) ?_
    refine wp_exit (then_x (then_x ?_))
    replace hm := inr_up hm hx1057
    refine blk_x (then_n ?_)
    replace hst := hst.pull4
    replace hst := hst.pull4
    replace hst := hst.pull4
    replace hst := hst.pull4
    replace hst := hst.keep5
    obtain rfl := some_inj hm
    exact ⟨z1049, z1046, v1047, _, hx1088, ((fr_upd (t := 0) (v := p0) rfl).trans ((fr_upd (t := 2) (v := .pointer (some ⟨b840, 0, none⟩)) rfl).trans ((fr_upd (t := 3) (v := .pointer (some ⟨b863, 0, none⟩)) rfl).trans rfl))), hst⟩
  ·skip
   clear hst
   rintro _ w1089 ⟨z1081, z1084, v1083, σ1085, hm, rfl, hst⟩
   dsimp only [ref12_Tape_Hold_j2] at hm
   refine wp_seq (wp_region_lit ?_)
   refine wv (p0) rfl rfl rfl ?_
   obtain ⟨t1090, ht1091, hm⟩ := bind_some hm
   refine wl_call rfl rfl (x_call Try.call28 rfl (vs := [p0, .int .i64 (3:Int)]) rfl) ?_
   refine (ref12_Tape_Next_ref hst.to1 ht1091).mono ?_
   rintro _ w1092 ⟨rfl, hst⟩
   refine ⟨_, rfl, ?_⟩
   replace hst := hst.of1
   refine wv (.int .i64 t1090.1) rfl rfl rfl ?_
   refine wl_nil (then_n ?_)
   obtain ⟨y1187, hm, hx1188⟩ := bind_some hm
   refine wp_cut (fun a w => ∃ (z1181 : ref12_Tape) (z1184 : (List Nat)) (v1183 : Value) (σ1185 : Nat → Value), (ref12_Tape_Hold_j4 t845 t850 z964 z1084) (z1181, z1184) = some r ∧ a = Fr 68 (upd (upd (upd σ1185 0 (p0)) 2 (.pointer (some ⟨b840, 0, none⟩))) 3 (.pointer (some ⟨b863, 0, none⟩))) ∧ St w0 w I [at_ref12_Tape p0 z1181, cells b840 [.int .u64 (0:Int), .int .u64 (0:Int), .int .u64 (0:Int), (.slice none 0 0), (.slice none 0 0), (.slice none 0 0), (.slice none 0 0)], cells b863 [.int .u64 t845.1.Session, .int .u64 t845.1.Seq, .int .u64 (IntKind.u64.wrap (IntKind.i64.wrap ((1:Int) + t850.1))), v963, v1083, v1183, (.slice none 0 0)], ownS tyF64 v963 z964, ownS tyF2 v1083 z1084, ownS tyF64 v1183 z1184] R) ?_ ?_
   ·skip
    refine wp_seq (wp_region_lit ?_)
    refine wv (.int .i64 (0:Int)) rfl rfl rfl ?_
    refine wl_nil (then_n (wp_block ?_))
    replace hst := hst.own_nil tyF64
    obtain ⟨n1157, hm⟩ := loopO_some hm
    refine wp_loop_n (fun n a w => ∃ (z1151 : (List Nat)) (z1154 : ref12_Tape) (z1155 : Int) (v1152 : Value) (σ1156 : Nat → Value), loopN (ref12_Tape_Hold_l5 t1090) n (z1151, z1154, z1155) = some y1187 ∧ a = Fr 68 (upd (upd (upd (upd (upd σ1156 0 (p0)) 2 (.pointer (some ⟨b840, 0, none⟩))) 3 (.pointer (some ⟨b863, 0, none⟩))) 4 (.int .i64 t1090.1)) 7 (.int .i64 z1155)) ∧ St w0 w I [ownS tyF64 v1152 z1151, at_ref12_Tape p0 z1154, cells b840 [.int .u64 (0:Int), .int .u64 (0:Int), .int .u64 (0:Int), (.slice none 0 0), (.slice none 0 0), (.slice none 0 0), (.slice none 0 0)], cells b863 [.int .u64 t845.1.Session, .int .u64 t845.1.Seq, .int .u64 (IntKind.u64.wrap (IntKind.i64.wrap ((1:Int) + t850.1))), v963, v1083, v1152, (.slice none 0 0)], ownS tyF64 v963 z964, ownS tyF2 v1083 z1084] R) n1157 ⟨[], t1090.2, (0:Int), (.slice none 0 0), _, hm, ((fr_upd (t := 0) (v := p0) rfl).trans ((fr_upd (t := 2) (v := .pointer (some ⟨b840, 0, none⟩)) rfl).trans ((fr_upd (t := 3) (v := .pointer (some ⟨b863, 0, none⟩)) rfl).trans ((fr_upd (t := 4) (v := .int .i64 t1090.1) rfl).trans ((fr_upd (t := 7) (v := .int .i64 (0:Int)) rfl).trans rfl))))), hst⟩ ?_
    rintro n1163 _ w1158 ⟨z1151, z1154, z1155, v1152, σ1156, hm, rfl, hst⟩
    obtain ⟨n1160, y1161, rfl, hm, hx1162⟩ := loopN_some hm
    dsimp only [ref12_Tape_Hold_l5] at hm
    refine wp_seq (wp_seq (wp_region_lit ?_))
    refine wv (.int .i64 z1155) rfl rfl rfl ?_
    refine wv (.int .i64 t1090.1) rfl rfl rfl ?_
    refine wv (.bool (decide (z1155 < t1090.1))) rfl rfl rfl ?_
    refine wl_nil (then_n ?_)
    refine bsplit (decide (z1155 < t1090.1)) (fun hc1164 => ?_) (fun hc1164 => ?_)
    ·skip
     replace hm := bif_t hc1164 hm
     refine wp_ift (congrArg Value.bool hc1164) ?_
     refine wp_skip (then_n (wp_seq (wp_block ?_)))
     refine wp_region_St hst 8 [0, 1, 2, 3, 4, 5, 6, 7] [0, 1, 0, 4, 12, 31, 63, 127] [] rfl (by kernel_rfl) (by kernel_rfl) Try.mixed (by kernel_rfl) ?_
     refine wsr (.pointer (some ⟨b863, 5, none⟩)) 0 rfl rfl rfl (by kernel_rfl) (fun w hst => x_field rfl Try.underlying36 rfl Try.sizeOf33 rfl) ?_
     refine wsr (v1152) 1 rfl rfl rfl (by kernel_rfl) (fun w hst => x_load rfl Try.isAgg33 (hst.bc3 rfl)) ?_
     refine wsr (p0) 2 rfl rfl rfl (by kernel_rfl) (fun w hst => rfl) ?_
     refine ws_e1 3 (by kernel_rfl) ?_
     refine nxe [4, 5, 6, 7] (by kernel_rfl) rfl rfl ?_
     clear hst
     intro w hst
     replace hst := hst.pull1
     obtain ⟨t1165, ht1166, hm⟩ := bind_some hm
     refine we_call rfl (x_call Try.call59 rfl (vs := [p0]) rfl) ?_
     refine (ref12_Tape_Float_ref hst.to1 ht1166).mono ?_
     rintro _ w1167 ⟨rfl, hst⟩
     refine ⟨_, rfl, ?_⟩
     replace hst := hst.of1
     refine ws_next (pend' := [(1, v1152), (0, .pointer (some ⟨b863, 5, none⟩))]) hst (by kernel_rfl) (pkr rfl rfl (fun w hst => x_load rfl Try.isAgg33 (hst.bc3 rfl)) (pkr rfl rfl (fun w hst => x_field rfl Try.underlying36 rfl Try.sizeOf33 rfl) pk_nil)) ?_
     refine ws_e1 4 (by kernel_rfl) ?_
     refine nxe [5, 6, 7] (by kernel_rfl) rfl rfl ?_
     clear hst
     intro w hst
     obtain ⟨b1170, w1171, ew1172, eb1173, hst⟩ := hst.lits (E := tyF64) (xs := [t1165.1]) [[.float .f64 t1165.1]] 44 1 rfl (Reps.cons rfl Reps.nil)
     refine we_run (v := (.slice (some ⟨b1170, 0, none⟩) 1 1)) (w' := w1171) rfl (x_als (by kernel_rfl) ew1172 eb1173) ?_
     refine ws_next (pend' := [(1, v1152), (0, .pointer (some ⟨b863, 5, none⟩))]) hst (by kernel_rfl) (pkr rfl rfl (fun w hst => x_load rfl Try.isAgg33 (hst.bc4 rfl)) (pkr rfl rfl (fun w hst => x_field rfl Try.underlying36 rfl Try.sizeOf33 rfl) pk_nil)) ?_
     refine ws_e1 5 (by kernel_rfl) ?_
     refine nxe [6, 7] (by kernel_rfl) rfl rfl ?_
     clear hst
     intro w hst
     obtain ⟨hg1175, hm⟩ := gd_some hm
     replace hst := hst.pull2
     obtain ⟨v1176, w1177, hr1178, hst⟩ := run_append elem_33 Try.underlying33 hst hst.src1 (room_of hg1175 rfl) 33
     refine we_run (v := v1176) (w' := w1177) rfl (x_append rfl rfl hr1178) ?_
     refine ws_next (pend' := []) hst (by kernel_rfl) pk_nil ?_
     refine wsr (.pointer (some ⟨b863, 5, none⟩)) 6 rfl rfl rfl (by kernel_rfl) (fun w hst => x_field rfl Try.underlying36 rfl Try.sizeOf33 rfl) ?_
     refine ws_e1 7 (by kernel_rfl) ?_
     refine nxe [] (by kernel_rfl) rfl rfl ?_
     clear hst
     intro w hst
     replace hst := hst.pull4
     obtain ⟨w1179, hr1180, hst⟩ := hst.boxStore1 (P := Try.prog) (t := 33) (cs' := [.int .u64 t845.1.Session, .int .u64 t845.1.Seq, .int .u64 (IntKind.u64.wrap (IntKind.i64.wrap ((1:Int) + t850.1))), v963, v1083, v1176, (.slice none 0 0)]) 5 v1176 (one_of_sliceV hst.sv1) Try.sizeOf33 rfl rfl
     refine we_unit rfl (x_unit hr1180) ?_
     refine ws_next (pend' := []) hst (by kernel_rfl) pk_nil ?_
     refine ws_nil ?_
     intro w hst
     refine blk_n (then_n (wp_region_lit ?_))
     refine wv (.int .i64 z1155) rfl rfl rfl ?_
     refine wv (.int .i64 (IntKind.i64.wrap (z1155 + (1:Int)))) rfl rfl rfl ?_
     refine wv (.int .i64 (IntKind.i64.wrap (z1155 + (1:Int)))) rfl rfl rfl ?_
     refine wl_nil (then_n ?_)
     replace hst := hst.pull6
     replace hst := hst.pull6
     replace hst := hst.pull2
     replace hst := hst.pull6
     replace hst := hst.pull6
     replace hst := hst.pull5
     replace hst := hst.keep6
     obtain rfl := some_inj hm
     exact ⟨_, Nat.lt_succ_self _, (z1151 ++ ([t1165.1])), t1165.2, (IntKind.i64.wrap (z1155 + (1:Int))), v1176, _, hx1162, ((fr_upd (t := 0) (v := p0) rfl).trans ((fr_upd (t := 2) (v := .pointer (some ⟨b840, 0, none⟩)) rfl).trans ((fr_upd (t := 3) (v := .pointer (some ⟨b863, 0, none⟩)) rfl).trans ((fr_upd (t := 4) (v := .int .i64 t1090.1) rfl).trans ((fr_upd (t := 7) (v := .int .i64 (IntKind.i64.wrap (z1155 + (1:Int)))) rfl).trans rfl))))), hst⟩
    ·skip
     replace hm := bif_f hc1164 hm
     refine wp_iff (congrArg Value.bool hc1164) ?_
     refine wp_exit (then_x (then_x ?_))
     replace hm := inr_up hm hx1162
     refine blk_x (then_n ?_)
     replace hst := hst.pull5
     replace hst := hst.pull5
     replace hst := hst.pull5
     replace hst := hst.pull5
     replace hst := hst.pull5
     replace hst := hst.keep6
     obtain rfl := some_inj hm
     exact ⟨z1154, z1151, v1152, _, hx1188, ((fr_upd (t := 0) (v := p0) rfl).trans ((fr_upd (t := 2) (v := .pointer (some ⟨b840, 0, none⟩)) rfl).trans ((fr_upd (t := 3) (v := .pointer (some ⟨b863, 0, none⟩)) rfl).trans rfl))), hst⟩
   ·skip
    clear hst
    rintro _ w1189 ⟨z1181, z1184, v1183, σ1185, hm, rfl, hst⟩
    dsimp only [ref12_Tape_Hold_j4] at hm
    refine wp_seq (wp_seq (wp_region_lit ?_))
    refine wv (p0) rfl rfl rfl ?_
    obtain ⟨t1190, ht1191, hm⟩ := bind_some hm
    refine wl_call rfl rfl (x_call Try.call28 rfl (vs := [p0, .int .i64 (4:Int)]) rfl) ?_
    refine (ref12_Tape_Next_ref hst.to1 ht1191).mono ?_
    rintro _ w1192 ⟨rfl, hst⟩
    refine ⟨_, rfl, ?_⟩
    replace hst := hst.of1
    refine wv (.bool (t1190.1 == (0:Int))) rfl rfl rfl ?_
    refine wl_nil (then_n ?_)
    refine bsplit (t1190.1 == (0:Int)) (fun hc1195 => ?_) (fun hc1195 => ?_)
    ·skip
     replace hm := bif_t hc1195 hm
     refine wp_ift (congrArg Value.bool hc1195) ?_
     refine wp_region_lit ?_
     refine wv (p0) rfl rfl rfl ?_
     obtain ⟨t1196, ht1197, hm⟩ := bind_some hm
     refine wl_call rfl rfl (x_call Try.call29 rfl (vs := [p0]) rfl) ?_
     refine (ref12_Tape_Val_ref hst.to1 ht1197).mono ?_
     rintro _ w1198 ⟨v1201, rfl, hst⟩
     refine ⟨_, rfl, ?_⟩
     replace hst := hst.of2
     refine wv (.pointer (some ⟨b863, 6, none⟩)) rfl rfl (x_field rfl Try.underlying36 rfl Try.sizeOf22 rfl) ?_
     replace hst := hst.pull3
     obtain ⟨w1203, hr1204, hst⟩ := hst.boxStore1 (P := Try.prog) (t := 22) (cs' := [.int .u64 t845.1.Session, .int .u64 t845.1.Seq, .int .u64 (IntKind.u64.wrap (IntKind.i64.wrap ((1:Int) + t850.1))), v963, v1083, v1183, v1201]) 6 v1201 (one_of_sliceV hst.sv1) Try.sizeOf22 rfl rfl
     refine wl_unit rfl rfl (x_unit hr1204) ?_
     refine wl_nil (then_n (wp_seq (wp_region_lit ?_)))
     refine wv (.agg #[.int .u64 t845.1.Session, .int .u64 t845.1.Seq, .int .u64 (IntKind.u64.wrap (IntKind.i64.wrap ((1:Int) + t850.1))), v963, v1083, v1183, v1201]) rfl rfl (x_loadN (cs := [.int .u64 t845.1.Session, .int .u64 t845.1.Seq, .int .u64 (IntKind.u64.wrap (IntKind.i64.wrap ((1:Int) + t850.1))), v963, v1083, v1183, v1201]) rfl Try.isAgg36 Try.sizeOf36 (hst.bcs0 0 rfl)) ?_
     replace hst := hst.pull3
     obtain ⟨w1205, hr1206, hst⟩ := hst.boxStore (P := Try.prog) (t := 36) (cs' := [.int .u64 t845.1.Session, .int .u64 t845.1.Seq, .int .u64 (IntKind.u64.wrap (IntKind.i64.wrap ((1:Int) + t850.1))), v963, v1083, v1183, v1201]) 0 (.agg #[.int .u64 t845.1.Session, .int .u64 t845.1.Seq, .int .u64 (IntKind.u64.wrap (IntKind.i64.wrap ((1:Int) + t850.1))), v963, v1083, v1183, v1201]) Try.sizeOf36 (Nat.le_of_ble_eq_true rfl) (ones_cons rfl (ones_cons rfl (ones_cons rfl (ones_cons (one_of_sliceV hst.sv4) (ones_cons (one_of_sliceV hst.sv5) (ones_cons (one_of_sliceV hst.sv6) (ones_cons (one_of_sliceV hst.sv2) ones_nil))))))) (by kernel_rfl)
     refine wl_unit rfl rfl (x_unit hr1206) ?_
     refine wl_nil (then_n (wp_ret ?_))
     obtain rfl := some_inj hm
     refine post_ret (vs := [.agg #[.int .u64 t845.1.Session, .int .u64 t845.1.Seq, .int .u64 (IntKind.u64.wrap (IntKind.i64.wrap ((1:Int) + t850.1))), v963, v1083, v1183, v1201]]) Try.results30 (rvs_cons (rv_cell (cs := [.int .u64 t845.1.Session, .int .u64 t845.1.Seq, .int .u64 (IntKind.u64.wrap (IntKind.i64.wrap ((1:Int) + t850.1))), v963, v1083, v1183, v1201]) rfl Try.isAgg36 Try.sizeOf36 (hst.bcs0 0 rfl)) rvs_nil) ?_
     replace hst := hst.pull3
     replace hst := hst.pull3
     replace hst := hst.pull6
     replace hst := hst.pull6
     replace hst := hst.pull6
     exact ⟨v963, v1083, v1183, v1201, rfl, hst.keep5⟩
    ·skip
     replace hm := bif_f hc1195 hm
     refine wp_iff (congrArg Value.bool hc1195) ?_
     refine wp_skip (then_n (wp_seq (wp_region_lit ?_)))
     refine wv (.agg #[.int .u64 t845.1.Session, .int .u64 t845.1.Seq, .int .u64 (IntKind.u64.wrap (IntKind.i64.wrap ((1:Int) + t850.1))), v963, v1083, v1183, (.slice none 0 0)]) rfl rfl (x_loadN (cs := [.int .u64 t845.1.Session, .int .u64 t845.1.Seq, .int .u64 (IntKind.u64.wrap (IntKind.i64.wrap ((1:Int) + t850.1))), v963, v1083, v1183, (.slice none 0 0)]) rfl Try.isAgg36 Try.sizeOf36 (hst.bcs2 0 rfl)) ?_
     replace hst := hst.pull1
     obtain ⟨w1207, hr1208, hst⟩ := hst.boxStore (P := Try.prog) (t := 36) (cs' := [.int .u64 t845.1.Session, .int .u64 t845.1.Seq, .int .u64 (IntKind.u64.wrap (IntKind.i64.wrap ((1:Int) + t850.1))), v963, v1083, v1183, (.slice none 0 0)]) 0 (.agg #[.int .u64 t845.1.Session, .int .u64 t845.1.Seq, .int .u64 (IntKind.u64.wrap (IntKind.i64.wrap ((1:Int) + t850.1))), v963, v1083, v1183, (.slice none 0 0)]) Try.sizeOf36 (Nat.le_of_ble_eq_true rfl) (ones_cons rfl (ones_cons rfl (ones_cons rfl (ones_cons (one_of_sliceV hst.sv3) (ones_cons (one_of_sliceV hst.sv4) (ones_cons (one_of_sliceV hst.sv5) (ones_cons rfl ones_nil))))))) (by kernel_rfl)
     refine wl_unit rfl rfl (x_unit hr1208) ?_
     refine wl_nil (then_n (wp_ret ?_))
     replace hst := hst.own_nil (tyInt .u8)
     obtain rfl := some_inj hm
     refine post_ret (vs := [.agg #[.int .u64 t845.1.Session, .int .u64 t845.1.Seq, .int .u64 (IntKind.u64.wrap (IntKind.i64.wrap ((1:Int) + t850.1))), v963, v1083, v1183, (.slice none 0 0)]]) Try.results30 (rvs_cons (rv_cell (cs := [.int .u64 t845.1.Session, .int .u64 t845.1.Seq, .int .u64 (IntKind.u64.wrap (IntKind.i64.wrap ((1:Int) + t850.1))), v963, v1083, v1183, (.slice none 0 0)]) rfl Try.isAgg36 Try.sizeOf36 (hst.bcs1 0 rfl)) rvs_nil) ?_
     replace hst := hst.pull2
     replace hst := hst.pull1
     replace hst := hst.pull6
     replace hst := hst.pull6
     replace hst := hst.pull6
     exact ⟨v963, v1083, v1183, (.slice none 0 0), rfl, hst.keep5⟩

theorem ref13_OfReply_ref {w0 w : World} {I : HL} {R : SP} {a0 : ref12_Tape} {p0 : Value}  (hst : St w0 w I [at_ref12_Tape p0 a0] R) {r : (api_Reply × ref12_Tape)} (hm : ref13_OfReply a0 = some r) :
  Calls Try.prog 31 #[p0] w fun e w' => ∃ (I' : HL) (q0_0 : Value) (q0_1 : Value), e = .returned (.agg #[.int .i64 r.1.E, .int .u64 r.1.Epoch, .int .u64 r.1.Index, q0_0, q0_1]) ∧ I.le I' ∧ St w0 w' I' [ownS ty_api_Got q0_0 r.1.Gots, ownS (tySl ty_api_Pair) q0_1 r.1.Scans, at_ref12_Tape p0 r.2] R := by
 unfold ref13_OfReply at hm
 refine calls_start (args := [p0]) Try.func31 rfl Try.ntmps31 (Nat.le_of_ble_eq_true rfl) ?_
 have hI0 := HL.le.refl I
 refine wp_seq (wp_region_lit ?_)
 obtain ⟨b1437, w1438, ew1439, eb1440, hst⟩ := hst.box [.int .i64 (0:Int), .int .u64 (0:Int), .int .u64 (0:Int), (.slice none 0 0), (.slice none 0 0)] 41
 refine wl_run (v := .pointer (some ⟨b1437, 0, none⟩)) (w' := w1438) rfl rfl (x_al (by kernel_rfl) ew1439 eb1440) ?_
 refine wl_nil (then_n (wp_seq (wp_region_lit ?_)))
 obtain ⟨b1442, w1443, ew1444, eb1445, hst⟩ := hst.lits (E := (tyInt .i64)) (xs := [(0:Int), (0:Int), (0:Int), (8:Int), (9:Int), (3:Int)]) [[.int .i64 (0:Int)], [.int .i64 (0:Int)], [.int .i64 (0:Int)], [.int .i64 (8:Int)], [.int .i64 (9:Int)], [.int .i64 (3:Int)]] 37 6 rfl (Reps.cons rfl (Reps.cons rfl (Reps.cons rfl (Reps.cons rfl (Reps.cons rfl (Reps.cons rfl Reps.nil))))))
 refine wl_run (v := (.slice (some ⟨b1442, 0, none⟩) 6 6)) (w' := w1443) rfl rfl (x_als (by kernel_rfl) ew1444 eb1445) ?_
 refine wv ((.slice (some ⟨b1442, 0, none⟩) 6 6)) rfl rfl rfl ?_
 refine wl_nil (then_n (wp_seq ?_))
 obtain ⟨y1554, hm, hx1555⟩ := bind_some hm
 refine wp_mid (fun a w => ∃ (z1546 : ref12_Tape) (z1549 : Int) (z1550 : Int) (z1551 : Int) (b1548 : Nat) (σ1552 : Nat → Value), (ref13_OfReply_j0) (z1546, z1549, z1550, z1551) = some r ∧ a = Fr 72 (upd (upd (upd σ1552 0 (p0)) 2 (.pointer (some ⟨b1437, 0, none⟩))) 4 (.pointer (some ⟨b1548, 0, none⟩))) ∧ St w0 w I [at_ref12_Tape p0 z1546, cells b1437 [.int .i64 (0:Int), .int .u64 (0:Int), .int .u64 (0:Int), (.slice none 0 0), (.slice none 0 0)], cells b1548 [.int .i64 z1549, .int .u64 z1550, .int .u64 z1551, (.slice none 0 0), (.slice none 0 0)]] R) ?_ ?_
 ·skip
  refine wp_region_St hst 14 [0, 1, 2, 3, 4, 5, 6, 7, 8, 9, 10, 11, 12, 13] [0, 0, 2, 7, 15, 0, 38, 102, 0, 358, 870, 2047, 0, 8191] [] rfl (by kernel_rfl) (by kernel_rfl) Try.mixed (by kernel_rfl) ?_
  refine wsr ((.slice (some ⟨b1442, 0, none⟩) 6 6)) 0 rfl rfl rfl (by kernel_rfl) (fun w hst => rfl) ?_
  refine wsr (p0) 1 rfl rfl rfl (by kernel_rfl) (fun w hst => rfl) ?_
  refine wsr (p0) 5 rfl rfl rfl (by kernel_rfl) (fun w hst => rfl) ?_
  refine wsr (p0) 8 rfl rfl rfl (by kernel_rfl) (fun w hst => rfl) ?_
  refine ws_e2 2 12 (by kernel_rfl) ?_ ?_
  ·skip
   refine nxe [3, 4, 6, 7, 9, 10, 11, 12, 13] (by kernel_rfl) rfl rfl ?_
   clear hst
   intro w hst
   replace hst := hst.pull2
   obtain ⟨t1447, ht1448, hm⟩ := bind_some hm
   refine we_call rfl (x_call Try.call28 rfl (vs := [p0, .int .i64 (6:Int)]) rfl) ?_
   refine (ref12_Tape_Next_ref hst.to1 ht1448).mono ?_
   rintro _ w1449 ⟨rfl, hst⟩
   refine ⟨_, rfl, ?_⟩
   replace hst := hst.of1
   refine ws_next (pend' := [(8, p0), (5, p0), (0, (.slice (some ⟨b1442, 0, none⟩) 6 6))]) hst (by kernel_rfl) (pkr rfl rfl (fun w hst => rfl) (pkr rfl rfl (fun w hst => rfl) (pkr rfl rfl (fun w hst => rfl) pk_nil))) ?_
   obtain ⟨x1452, hx1453, hm⟩ := bind_some hm
   obtain ⟨h1454, h1455, hi1456⟩ := geto_some hx1453
   refine wsr (.pointer (some (eAddr (.slice (some ⟨b1442, 0, none⟩) 6 6) (t1447.1.toNat * 1 + 0)))) 3 rfl rfl rfl (by kernel_rfl) (fun w hst => x_index rfl rfl Try.underlying118 Try.sizeOf37 hst.sv1 h1454 h1455) ?_
   refine wsr (.int .i64 x1452) 4 rfl rfl rfl (by kernel_rfl) (fun w hst => x_load rfl Try.isAgg37 (hst.ol1 hi1456 (by rintro _ rfl; rfl))) ?_
   refine ws_e2 6 12 (by kernel_rfl) ?_ ?_
   ·skip
    refine nxe [7, 9, 10, 11, 12, 13] (by kernel_rfl) rfl rfl ?_
    clear hst
    intro w hst
    obtain ⟨t1457, ht1458, hm⟩ := bind_some hm
    refine we_call rfl (x_call Try.call28 rfl (vs := [p0, .int .i64 (4:Int)]) rfl) ?_
    refine (ref12_Tape_Next_ref hst.to1 ht1458).mono ?_
    rintro _ w1459 ⟨rfl, hst⟩
    refine ⟨_, rfl, ?_⟩
    replace hst := hst.of1
    refine ws_next (pend' := [(4, .int .i64 x1452), (3, .pointer (some (eAddr (.slice (some ⟨b1442, 0, none⟩) 6 6) (t1447.1.toNat * 1 + 0)))), (8, p0), (0, (.slice (some ⟨b1442, 0, none⟩) 6 6))]) hst (by kernel_rfl) (pkr rfl rfl (fun w hst => x_load rfl Try.isAgg37 (hst.ol1 hi1456 (by rintro _ rfl; rfl))) (pkr rfl rfl (fun w hst => x_index rfl rfl Try.underlying118 Try.sizeOf37 hst.sv1 h1454 h1455) (pkr rfl rfl (fun w hst => rfl) (pkr rfl rfl (fun w hst => rfl) pk_nil)))) ?_
    refine wsr (.int .u64 (IntKind.u64.wrap t1457.1)) 7 rfl rfl rfl (by kernel_rfl) (fun w hst => by kernel_rfl) ?_
    refine ws_e2 9 12 (by kernel_rfl) ?_ ?_
    ·skip
     refine nxe [10, 11, 12, 13] (by kernel_rfl) rfl rfl ?_
     clear hst
     intro w hst
     obtain ⟨t1462, ht1463, hm⟩ := bind_some hm
     refine we_call rfl (x_call Try.call28 rfl (vs := [p0, .int .i64 (9:Int)]) rfl) ?_
     refine (ref12_Tape_Next_ref hst.to1 ht1463).mono ?_
     rintro _ w1464 ⟨rfl, hst⟩
     refine ⟨_, rfl, ?_⟩
     replace hst := hst.of1
     refine ws_next (pend' := [(7, .int .u64 (IntKind.u64.wrap t1457.1)), (4, .int .i64 x1452), (3, .pointer (some (eAddr (.slice (some ⟨b1442, 0, none⟩) 6 6) (t1447.1.toNat * 1 + 0)))), (0, (.slice (some ⟨b1442, 0, none⟩) 6 6))]) hst (by kernel_rfl) (pkr rfl rfl (fun w hst => by kernel_rfl) (pkr rfl rfl (fun w hst => x_load rfl Try.isAgg37 (hst.ol1 hi1456 (by rintro _ rfl; rfl))) (pkr rfl rfl (fun w hst => x_index rfl rfl Try.underlying118 Try.sizeOf37 hst.sv1 h1454 h1455) (pkr rfl rfl (fun w hst => rfl) pk_nil)))) ?_
     refine wsr (.int .u64 (IntKind.u64.wrap t1462.1)) 10 rfl rfl rfl (by kernel_rfl) (fun w hst => by kernel_rfl) ?_
     refine wsr (.agg #[.int .i64 x1452, .int .u64 (IntKind.u64.wrap t1457.1), .int .u64 (IntKind.u64.wrap t1462.1), (.slice none 0 0), (.slice none 0 0)]) 11 rfl rfl rfl (by kernel_rfl) (fun w hst => by kernel_rfl) ?_
     refine ws_e1 12 (by kernel_rfl) ?_
     refine nxe [13] (by kernel_rfl) rfl rfl ?_
     clear hst
     intro w hst
     obtain ⟨b1471, w1472, ew1473, eb1474, hst⟩ := hst.box [.int .i64 (0:Int), .int .u64 (0:Int), .int .u64 (0:Int), (.slice none 0 0), (.slice none 0 0)] 41
     refine we_run (v := .pointer (some ⟨b1471, 0, none⟩)) (w' := w1472) rfl (x_al (by kernel_rfl) ew1473 eb1474) ?_
     refine ws_next (pend' := [(11, .agg #[.int .i64 x1452, .int .u64 (IntKind.u64.wrap t1457.1), .int .u64 (IntKind.u64.wrap t1462.1), (.slice none 0 0), (.slice none 0 0)]), (10, .int .u64 (IntKind.u64.wrap t1462.1)), (7, .int .u64 (IntKind.u64.wrap t1457.1)), (4, .int .i64 x1452), (3, .pointer (some (eAddr (.slice (some ⟨b1442, 0, none⟩) 6 6) (t1447.1.toNat * 1 + 0)))), (0, (.slice (some ⟨b1442, 0, none⟩) 6 6))]) hst (by kernel_rfl) (pkr rfl rfl (fun w hst => by kernel_rfl) (pkr rfl rfl (fun w hst => by kernel_rfl) (pkr rfl rfl (fun w hst => by kernel_rfl) (pkr rfl rfl (fun w hst => x_load rfl Try.isAgg37 (hst.ol2 hi1456 (by rintro _ rfl; rfl))) (pkr rfl rfl (fun w hst => x_index rfl rfl Try.underlying118 Try.sizeOf37 hst.sv2 h1454 h1455) (pkr rfl rfl (fun w hst => rfl) pk_nil)))))) ?_
     refine ws_e1 13 (by kernel_rfl) ?_
     refine nxe [] (by kernel_rfl) rfl rfl ?_
     clear hst
     intro w hst
     obtain ⟨w1476, hr1477, hst⟩ := hst.boxStore (P := Try.prog) (t := 41) (cs' := [.int .i64 x1452, .int .u64 (IntKind.u64.wrap t1457.1), .int .u64 (IntKind.u64.wrap t1462.1), (.slice none 0 0), (.slice none 0 0)]) 0 (.agg #[.int .i64 x1452, .int .u64 (IntKind.u64.wrap t1457.1), .int .u64 (IntKind.u64.wrap t1462.1), (.slice none 0 0), (.slice none 0 0)]) Try.sizeOf41 (Nat.le_of_ble_eq_true rfl) (ones_cons rfl (ones_cons rfl (ones_cons rfl (ones_cons rfl (ones_cons rfl ones_nil))))) (by kernel_rfl)
     refine we_unit rfl (x_unit hr1477) ?_
     refine ws_next (pend' := []) hst (by kernel_rfl) pk_nil ?_
     refine ws_nil ?_
     intro w hst
     refine ⟨rfl, ?_⟩
     replace hst := hst.pull3
     replace hst := hst.pull2
     replace hst := hst.keep3
     obtain rfl := some_inj hm
     exact ⟨t1462.2, x1452, (IntKind.u64.wrap t1457.1), (IntKind.u64.wrap t1462.1), b1471, _, hx1555, ((fr_upd (t := 0) (v := p0) rfl).trans ((fr_upd (t := 2) (v := .pointer (some ⟨b1437, 0, none⟩)) rfl).trans ((fr_upd (t := 4) (v := .pointer (some ⟨b1471, 0, none⟩)) rfl).trans rfl))), hst⟩
    ·skip
     refine nxe [9, 10, 11, 13] (by kernel_rfl) rfl rfl ?_
     clear hst
     intro w hst
     obtain ⟨b1480, w1481, ew1482, eb1483, hst⟩ := hst.box [.int .i64 (0:Int), .int .u64 (0:Int), .int .u64 (0:Int), (.slice none 0 0), (.slice none 0 0)] 41
     refine we_run (v := .pointer (some ⟨b1480, 0, none⟩)) (w' := w1481) rfl (x_al (by kernel_rfl) ew1482 eb1483) ?_
     refine ws_next (pend' := [(7, .int .u64 (IntKind.u64.wrap t1457.1)), (4, .int .i64 x1452), (3, .pointer (some (eAddr (.slice (some ⟨b1442, 0, none⟩) 6 6) (t1447.1.toNat * 1 + 0)))), (8, p0), (0, (.slice (some ⟨b1442, 0, none⟩) 6 6))]) hst (by kernel_rfl) (pkr rfl rfl (fun w hst => by kernel_rfl) (pkr rfl rfl (fun w hst => x_load rfl Try.isAgg37 (hst.ol2 hi1456 (by rintro _ rfl; rfl))) (pkr rfl rfl (fun w hst => x_index rfl rfl Try.underlying118 Try.sizeOf37 hst.sv2 h1454 h1455) (pkr rfl rfl (fun w hst => rfl) (pkr rfl rfl (fun w hst => rfl) pk_nil))))) ?_
     refine ws_e1 9 (by kernel_rfl) ?_
     refine nxe [10, 11, 13] (by kernel_rfl) rfl rfl ?_
     clear hst
     intro w hst
     replace hst := hst.pull1
     obtain ⟨t1485, ht1486, hm⟩ := bind_some hm
     refine we_call rfl (x_call Try.call28 rfl (vs := [p0, .int .i64 (9:Int)]) rfl) ?_
     refine (ref12_Tape_Next_ref hst.to1 ht1486).mono ?_
     rintro _ w1487 ⟨rfl, hst⟩
     refine ⟨_, rfl, ?_⟩
     replace hst := hst.of1
     refine ws_next (pend' := [(7, .int .u64 (IntKind.u64.wrap t1457.1)), (4, .int .i64 x1452), (3, .pointer (some (eAddr (.slice (some ⟨b1442, 0, none⟩) 6 6) (t1447.1.toNat * 1 + 0)))), (0, (.slice (some ⟨b1442, 0, none⟩) 6 6))]) hst (by kernel_rfl) (pkr rfl rfl (fun w hst => by kernel_rfl) (pkr rfl rfl (fun w hst => x_load rfl Try.isAgg37 (hst.ol2 hi1456 (by rintro _ rfl; rfl))) (pkr rfl rfl (fun w hst => x_index rfl rfl Try.underlying118 Try.sizeOf37 hst.sv2 h1454 h1455) (pkr rfl rfl (fun w hst => rfl) pk_nil)))) ?_
     refine wsr (.int .u64 (IntKind.u64.wrap t1485.1)) 10 rfl rfl rfl (by kernel_rfl) (fun w hst => by kernel_rfl) ?_
     refine wsr (.agg #[.int .i64 x1452, .int .u64 (IntKind.u64.wrap t1457.1), .int .u64 (IntKind.u64.wrap t1485.1), (.slice none 0 0), (.slice none 0 0)]) 11 rfl rfl rfl (by kernel_rfl) (fun w hst => by kernel_rfl) ?_
     refine ws_e1 13 (by kernel_rfl) ?_
     refine nxe [] (by kernel_rfl) rfl rfl ?_
     clear hst
     intro w hst
     replace hst := hst.pull1
     obtain ⟨w1492, hr1493, hst⟩ := hst.boxStore (P := Try.prog) (t := 41) (cs' := [.int .i64 x1452, .int .u64 (IntKind.u64.wrap t1457.1), .int .u64 (IntKind.u64.wrap t1485.1), (.slice none 0 0), (.slice none 0 0)]) 0 (.agg #[.int .i64 x1452, .int .u64 (IntKind.u64.wrap t1457.1), .int .u64 (IntKind.u64.wrap t1485.1), (.slice none 0 0), (.slice none 0 0)]) Try.sizeOf41 (Nat.le_of_ble_eq_true rfl) (ones_cons rfl (ones_cons rfl (ones_cons rfl (ones_cons rfl (ones_cons rfl ones_nil))))) (by kernel_rfl)
     refine we_unit rfl (x_unit hr1493) ?_
     refine ws_next (pend' := []) hst (by kernel_rfl) pk_nil ?_
     refine ws_nil ?_
     intro w hst
     refine ⟨rfl, ?_⟩
     replace hst := hst.pull3
     replace hst := hst.pull2
     replace hst := hst.keep3
     obtain rfl := some_inj hm
     exact ⟨t1485.2, x1452, (IntKind.u64.wrap t1457.1), (IntKind.u64.wrap t1485.1), b1480, _, hx1555, ((fr_upd (t := 0) (v := p0) rfl).trans ((fr_upd (t := 2) (v := .pointer (some ⟨b1437, 0, none⟩)) rfl).trans ((fr_upd (t := 4) (v := .pointer (some ⟨b1480, 0, none⟩)) rfl).trans rfl))), hst⟩
   ·skip
    refine nxe [6, 7, 9, 10, 11, 13] (by kernel_rfl) rfl rfl ?_
    clear hst
    intro w hst
    obtain ⟨b1496, w1497, ew1498, eb1499, hst⟩ := hst.box [.int .i64 (0:Int), .int .u64 (0:Int), .int .u64 (0:Int), (.slice none 0 0), (.slice none 0 0)] 41
    refine we_run (v := .pointer (some ⟨b1496, 0, none⟩)) (w' := w1497) rfl (x_al (by kernel_rfl) ew1498 eb1499) ?_
    refine ws_next (pend' := [(4, .int .i64 x1452), (3, .pointer (some (eAddr (.slice (some ⟨b1442, 0, none⟩) 6 6) (t1447.1.toNat * 1 + 0)))), (8, p0), (5, p0), (0, (.slice (some ⟨b1442, 0, none⟩) 6 6))]) hst (by kernel_rfl) (pkr rfl rfl (fun w hst => x_load rfl Try.isAgg37 (hst.ol2 hi1456 (by rintro _ rfl; rfl))) (pkr rfl rfl (fun w hst => x_index rfl rfl Try.underlying118 Try.sizeOf37 hst.sv2 h1454 h1455) (pkr rfl rfl (fun w hst => rfl) (pkr rfl rfl (fun w hst => rfl) (pkr rfl rfl (fun w hst => rfl) pk_nil))))) ?_
    refine ws_e1 6 (by kernel_rfl) ?_
    refine nxe [7, 9, 10, 11, 13] (by kernel_rfl) rfl rfl ?_
    clear hst
    intro w hst
    replace hst := hst.pull1
    obtain ⟨t1501, ht1502, hm⟩ := bind_some hm
    refine we_call rfl (x_call Try.call28 rfl (vs := [p0, .int .i64 (4:Int)]) rfl) ?_
    refine (ref12_Tape_Next_ref hst.to1 ht1502).mono ?_
    rintro _ w1503 ⟨rfl, hst⟩
    refine ⟨_, rfl, ?_⟩
    replace hst := hst.of1
    refine ws_next (pend' := [(4, .int .i64 x1452), (3, .pointer (some (eAddr (.slice (some ⟨b1442, 0, none⟩) 6 6) (t1447.1.toNat * 1 + 0)))), (8, p0), (0, (.slice (some ⟨b1442, 0, none⟩) 6 6))]) hst (by kernel_rfl) (pkr rfl rfl (fun w hst => x_load rfl Try.isAgg37 (hst.ol2 hi1456 (by rintro _ rfl; rfl))) (pkr rfl rfl (fun w hst => x_index rfl rfl Try.underlying118 Try.sizeOf37 hst.sv2 h1454 h1455) (pkr rfl rfl (fun w hst => rfl) (pkr rfl rfl (fun w hst => rfl) pk_nil)))) ?_
    refine wsr (.int .u64 (IntKind.u64.wrap t1501.1)) 7 rfl rfl rfl (by kernel_rfl) (fun w hst => by kernel_rfl) ?_
    refine ws_e1 9 (by kernel_rfl) ?_
    refine nxe [10, 11, 13] (by kernel_rfl) rfl rfl ?_
    clear hst
    intro w hst
    obtain ⟨t1506, ht1507, hm⟩ := bind_some hm
    refine we_call rfl (x_call Try.call28 rfl (vs := [p0, .int .i64 (9:Int)]) rfl) ?_
    refine (ref12_Tape_Next_ref hst.to1 ht1507).mono ?_
    rintro _ w1508 ⟨rfl, hst⟩
    refine ⟨_, rfl, ?_⟩
    replace hst := hst.of1
    refine ws_next (pend' := [(7, .int .u64 (IntKind.u64.wrap t1501.1)), (4, .int .i64 x1452), (3, .pointer (some (eAddr (.slice (some ⟨b1442, 0, none⟩) 6 6) (t1447.1.toNat * 1 + 0)))), (0, (.slice (some ⟨b1442, 0, none⟩) 6 6))]) hst (by kernel_rfl) (pkr rfl rfl (fun w hst => by kernel_rfl) (pkr rfl rfl (fun w hst => x_load rfl Try.isAgg37 (hst.ol2 hi1456 (by rintro _ rfl; rfl))) (pkr rfl rfl (fun w hst => x_index rfl rfl Try.underlying118 Try.sizeOf37 hst.sv2 h1454 h1455) (pkr rfl rfl (fun w hst => rfl) pk_nil)))) ?_
    refine wsr (.int .u64 (IntKind.u64.wrap t1506.1)) 10 rfl rfl rfl (by kernel_rfl) (fun w hst => by kernel_rfl) ?_
    refine wsr (.agg #[.int .i64 x1452, .int .u64 (IntKind.u64.wrap t1501.1), .int .u64 (IntKind.u64.wrap t1506.1), (.slice none 0 0), (.slice none 0 0)]) 11 rfl rfl rfl (by kernel_rfl) (fun w hst => by kernel_rfl) ?_
    refine ws_e1 13 (by kernel_rfl) ?_
    refine nxe [] (by kernel_rfl) rfl rfl ?_
    clear hst
    intro w hst
    replace hst := hst.pull1
    obtain ⟨w1513, hr1514, hst⟩ := hst.boxStore (P := Try.prog) (t := 41) (cs' := [.int .i64 x1452, .int .u64 (IntKind.u64.wrap t1501.1), .int .u64 (IntKind.u64.wrap t1506.1), (.slice none 0 0), (.slice none 0 0)]) 0 (.agg #[.int .i64 x1452, .int .u64 (IntKind.u64.wrap t1501.1), .int .u64 (IntKind.u64.wrap t1506.1), (.slice none 0 0), (.slice none 0 0)]) Try.sizeOf41 (Nat.le_of_ble_eq_true rfl) (ones_cons rfl (ones_cons rfl (ones_cons rfl (ones_cons rfl (ones_cons rfl ones_nil))))) (by kernel_rfl)
    refine we_unit rfl (x_unit hr1514) ?_
    refine ws_next (pend' := []) hst (by kernel_rfl) pk_nil ?_
    refine ws_nil ?_
    intro w hst
    refine ⟨rfl, ?_⟩
    replace hst := hst.pull3
    replace hst := hst.pull2
    replace hst := hst.keep3
    obtain rfl := some_inj hm
    exact ⟨t1506.2, x1452, (IntKind.u64.wrap t1501.1), (IntKind.u64.wrap t1506.1), b1496, _, hx1555, ((fr_upd (t := 0) (v := p0) rfl).trans ((fr_upd (t := 2) (v := .pointer (some ⟨b1437, 0, none⟩)) rfl).trans ((fr_upd (t := 4) (v := .pointer (some ⟨b1496, 0, none⟩)) rfl).trans rfl))), hst⟩
  ·skip
   refine nxe [2, 3, 4, 6, 7, 9, 10, 11, 13] (by kernel_rfl) rfl rfl ?_
   clear hst
   intro w hst
   obtain ⟨b1517, w1518, ew1519, eb1520, hst⟩ := hst.box [.int .i64 (0:Int), .int .u64 (0:Int), .int .u64 (0:Int), (.slice none 0 0), (.slice none 0 0)] 41
   refine we_run (v := .pointer (some ⟨b1517, 0, none⟩)) (w' := w1518) rfl (x_al (by kernel_rfl) ew1519 eb1520) ?_
   refine ws_next (pend' := [(8, p0), (5, p0), (1, p0), (0, (.slice (some ⟨b1442, 0, none⟩) 6 6))]) hst (by kernel_rfl) (pkr rfl rfl (fun w hst => rfl) (pkr rfl rfl (fun w hst => rfl) (pkr rfl rfl (fun w hst => rfl) (pkr rfl rfl (fun w hst => rfl) pk_nil)))) ?_
   refine ws_e1 2 (by kernel_rfl) ?_
   refine nxe [3, 4, 6, 7, 9, 10, 11, 13] (by kernel_rfl) rfl rfl ?_
   clear hst
   intro w hst
   replace hst := hst.pull3
   obtain ⟨t1522, ht1523, hm⟩ := bind_some hm
   refine we_call rfl (x_call Try.call28 rfl (vs := [p0, .int .i64 (6:Int)]) rfl) ?_
   refine (ref12_Tape_Next_ref hst.to1 ht1523).mono ?_
   rintro _ w1524 ⟨rfl, hst⟩
   refine ⟨_, rfl, ?_⟩
   replace hst := hst.of1
   refine ws_next (pend' := [(8, p0), (5, p0), (0, (.slice (some ⟨b1442, 0, none⟩) 6 6))]) hst (by kernel_rfl) (pkr rfl rfl (fun w hst => rfl) (pkr rfl rfl (fun w hst => rfl) (pkr rfl rfl (fun w hst => rfl) pk_nil))) ?_
   obtain ⟨x1527, hx1528, hm⟩ := bind_some hm
   obtain ⟨h1529, h1530, hi1531⟩ := geto_some hx1528
   refine wsr (.pointer (some (eAddr (.slice (some ⟨b1442, 0, none⟩) 6 6) (t1522.1.toNat * 1 + 0)))) 3 rfl rfl rfl (by kernel_rfl) (fun w hst => x_index rfl rfl Try.underlying118 Try.sizeOf37 hst.sv2 h1529 h1530) ?_
   refine wsr (.int .i64 x1527) 4 rfl rfl rfl (by kernel_rfl) (fun w hst => x_load rfl Try.isAgg37 (hst.ol2 hi1531 (by rintro _ rfl; rfl))) ?_
   refine ws_e1 6 (by kernel_rfl) ?_
   refine nxe [7, 9, 10, 11, 13] (by kernel_rfl) rfl rfl ?_
   clear hst
   intro w hst
   obtain ⟨t1532, ht1533, hm⟩ := bind_some hm
   refine we_call rfl (x_call Try.call28 rfl (vs := [p0, .int .i64 (4:Int)]) rfl) ?_
   refine (ref12_Tape_Next_ref hst.to1 ht1533).mono ?_
   rintro _ w1534 ⟨rfl, hst⟩
   refine ⟨_, rfl, ?_⟩
   replace hst := hst.of1
   refine ws_next (pend' := [(4, .int .i64 x1527), (3, .pointer (some (eAddr (.slice (some ⟨b1442, 0, none⟩) 6 6) (t1522.1.toNat * 1 + 0)))), (8, p0), (0, (.slice (some ⟨b1442, 0, none⟩) 6 6))]) hst (by kernel_rfl) (pkr rfl rfl (fun w hst => x_load rfl Try.isAgg37 (hst.ol2 hi1531 (by rintro _ rfl; rfl))) (pkr rfl rfl (fun w hst => x_index rfl rfl Try.underlying118 Try.sizeOf37 hst.sv2 h1529 h1530) (pkr rfl rfl (fun w hst => rfl) (pkr rfl rfl (fun w hst => rfl) pk_nil)))) ?_
   refine wsr (.int .u64 (IntKind.u64.wrap t1532.1)) 7 rfl rfl rfl (by kernel_rfl) (fun w hst => by kernel_rfl) ?_
   refine ws_e1 9 (by kernel_rfl) ?_
   refine nxe [10, 11, 13] (by kernel_rfl) rfl rfl ?_
   clear hst
   intro w hst
   obtain ⟨t1537, ht1538, hm⟩ := bind_some hm
   refine we_call rfl (x_call Try.call28 rfl (vs := [p0, .int .i64 (9:Int)]) rfl) ?_
   refine (ref12_Tape_Next_ref hst.to1 ht1538).mono ?_
   rintro _ w1539 ⟨rfl, hst⟩
   refine ⟨_, rfl, ?_⟩
   replace hst := hst.of1
   refine ws_next (pend' := [(7, .int .u64 (IntKind.u64.wrap t1532.1)), (4, .int .i64 x1527), (3, .pointer (some (eAddr (.slice (some ⟨b1442, 0, none⟩) 6 6) (t1522.1.toNat * 1 + 0)))), (0, (.slice (some ⟨b1442, 0, none⟩) 6 6))]) hst (by kernel_rfl) (pkr rfl rfl (fun w hst => by kernel_rfl) (pkr rfl rfl (fun w hst => x_load rfl Try.isAgg37 (hst.ol2 hi1531 (by rintro _ rfl; rfl))) (pkr rfl rfl (fun w hst => x_index rfl rfl Try.underlying118 Try.sizeOf37 hst.sv2 h1529 h1530) (pkr rfl rfl (fun w hst => rfl) pk_nil)))) ?_
   refine wsr (.int .u64 (IntKind.u64.wrap t1537.1)) 10 rfl rfl rfl (by kernel_rfl) (fun w hst => by kernel_rfl) ?_
   refine wsr (.agg #[.int .i64 x1527, .int .u64 (IntKind.u64.wrap t1532.1), .int .u64 (IntKind.u64.wrap t1537.1), (.slice none 0 0), (.slice none 0 0)]) 11 rfl rfl rfl (by kernel_rfl) (fun w hst => by kernel_rfl) ?_
   refine ws_e1 13 (by kernel_rfl) ?_
   refine nxe [] (by kernel_rfl) rfl rfl ?_
   clear hst
   intro w hst
   replace hst := hst.pull1
   obtain ⟨w1544, hr1545, hst⟩ := hst.boxStore (P := Try.prog) (t := 41) (cs' := [.int .i64 x1527, .int .u64 (IntKind.u64.wrap t1532.1), .int .u64 (IntKind.u64.wrap t1537.1), (.slice none 0 0), (.slice none 0 0)]) 0 (.agg #[.int .i64 x1527, .int .u64 (IntKind.u64.wrap t1532.1), .int .u64 (IntKind.u64.wrap t1537.1), (.slice none 0 0), (.slice none 0 0)]) Try.sizeOf41 (Nat.le_of_ble_eq_true rfl) (ones_cons rfl (ones_cons rfl (ones_cons rfl (ones_cons rfl (ones_cons rfl ones_nil))))) (by kernel_rfl)
   refine we_unit rfl (x_unit hr1545) ?_
   refine ws_next (pend' := []) hst (by kernel_rfl) pk_nil ?_
   refine ws_nil ?_
   intro w hst
   refine ⟨rfl, ?_⟩
   replace hst := hst.pull3
   replace hst := hst.pull2
   replace hst := hst.keep3
   obtain rfl := some_inj hm
   exact ⟨t1537.2, x1527, (IntKind.u64.wrap t1532.1), (IntKind.u64.wrap t1537.1), b1517, _, hx1555, ((fr_upd (t := 0) (v := p0) rfl).trans ((fr_upd (t := 2) (v := .pointer (some ⟨b1437, 0, none⟩)) rfl).trans ((fr_upd (t := 4) (v := .pointer (some ⟨b1517, 0, none⟩)) rfl).trans rfl))), hst⟩
 ·skip
  clear hst
  rintro _ w1556 ⟨z1546, z1549, z1550, z1551, b1548, σ1552, hm, rfl, hst⟩
  dsimp only [ref13_OfReply_j0] at hm
  refine then_n (wp_seq (wp_region_lit ?_))
  refine wv (p0) rfl rfl rfl ?_
  obtain ⟨t1557, ht1558, hm⟩ := bind_some hm
  refine wl_call rfl rfl (x_call Try.call28 rfl (vs := [p0, .int .i64 (3:Int)]) rfl) ?_
  refine (ref12_Tape_Next_ref hst.to1 ht1558).mono ?_
  rintro _ w1559 ⟨rfl, hst⟩
  refine ⟨_, rfl, ?_⟩
  replace hst := hst.of1
  refine wv (.int .i64 t1557.1) rfl rfl rfl ?_
  refine wl_nil (then_n ?_)
  obtain ⟨y1704, hm, hx1705⟩ := bind_some hm
  refine wp_cut (fun a w => ∃ (I1701 : HL) (z1697 : ref12_Tape) (z1700 : (List api_Got)) (v1699 : Value) (σ1702 : Nat → Value), (ref13_OfReply_j1 z1549 z1550 z1551) (z1697, z1700) = some r ∧ a = Fr 72 (upd (upd (upd σ1702 0 (p0)) 2 (.pointer (some ⟨b1437, 0, none⟩))) 4 (.pointer (some ⟨b1548, 0, none⟩))) ∧ I.le I1701 ∧ St w0 w I1701 [at_ref12_Tape p0 z1697, cells b1437 [.int .i64 (0:Int), .int .u64 (0:Int), .int .u64 (0:Int), (.slice none 0 0), (.slice none 0 0)], cells b1548 [.int .i64 z1549, .int .u64 z1550, .int .u64 z1551, v1699, (.slice none 0 0)], ownS ty_api_Got v1699 z1700] R) ?_ ?_
  ·skip
   have hL1706 := HL.le.refl I
   refine wp_seq (wp_region_lit ?_)
   refine wv (.int .i64 (0:Int)) rfl rfl rfl ?_
   refine wl_nil (then_n (wp_block ?_))
   replace hst := hst.own_nil ty_api_Got
   obtain ⟨n1661, hm⟩ := loopO_some hm
   refine wp_loop_n (fun n a w => ∃ (I1659 : HL) (z1654 : (List api_Got)) (z1657 : ref12_Tape) (z1658 : Int) (v1655 : Value) (σ1660 : Nat → Value), loopN (ref13_OfReply_l2 t1557) n (z1654, z1657, z1658) = some y1704 ∧ a = Fr 72 (upd (upd (upd (upd (upd σ1660 0 (p0)) 2 (.pointer (some ⟨b1437, 0, none⟩))) 4 (.pointer (some ⟨b1548, 0, none⟩))) 5 (.int .i64 t1557.1)) 6 (.int .i64 z1658)) ∧ I.le I1659 ∧ St w0 w I1659 [ownS ty_api_Got v1655 z1654, at_ref12_Tape p0 z1657, cells b1437 [.int .i64 (0:Int), .int .u64 (0:Int), .int .u64 (0:Int), (.slice none 0 0), (.slice none 0 0)], cells b1548 [.int .i64 z1549, .int .u64 z1550, .int .u64 z1551, v1655, (.slice none 0 0)]] R) n1661 ⟨_, [], t1557.2, (0:Int), (.slice none 0 0), _, hm, ((fr_upd (t := 0) (v := p0) rfl).trans ((fr_upd (t := 2) (v := .pointer (some ⟨b1437, 0, none⟩)) rfl).trans ((fr_upd (t := 4) (v := .pointer (some ⟨b1548, 0, none⟩)) rfl).trans ((fr_upd (t := 5) (v := .int .i64 t1557.1) rfl).trans ((fr_upd (t := 6) (v := .int .i64 (0:Int)) rfl).trans rfl))))), (HL.le.refl _), hst⟩ ?_
   rintro n1667 _ w1662 ⟨I1659, z1654, z1657, z1658, v1655, σ1660, hm, rfl, hL1663, hst⟩
   obtain ⟨n1664, y1665, rfl, hm, hx1666⟩ := loopN_some hm
   dsimp only [ref13_OfReply_l2] at hm
   replace hI0 := hI0.trans hL1663
   replace hL1706 := hL1706.trans hL1663
   refine wp_seq (wp_seq (wp_region_lit ?_))
   refine wv (.int .i64 z1658) rfl rfl rfl ?_
   refine wv (.int .i64 t1557.1) rfl rfl rfl ?_
   refine wv (.bool (decide (z1658 < t1557.1))) rfl rfl rfl ?_
   refine wl_nil (then_n ?_)
   refine bsplit (decide (z1658 < t1557.1)) (fun hc1668 => ?_) (fun hc1668 => ?_)
   ·skip
    replace hm := bif_t hc1668 hm
    refine wp_ift (congrArg Value.bool hc1668) ?_
    refine wp_skip (then_n (wp_seq (wp_block ?_)))
    refine wp_region_St hst 12 [0, 1, 2, 3, 4, 5, 6, 7, 8, 9, 10, 11] [0, 1, 0, 4, 12, 0, 44, 124, 252, 511, 1023, 2047] [] rfl (by kernel_rfl) (by kernel_rfl) Try.mixed (by kernel_rfl) ?_
    refine wsr (.pointer (some ⟨b1548, 3, none⟩)) 0 rfl rfl rfl (by kernel_rfl) (fun w hst => x_field rfl Try.underlying41 rfl Try.sizeOf38 rfl) ?_
    refine wsr (v1655) 1 rfl rfl rfl (by kernel_rfl) (fun w hst => x_load rfl Try.isAgg38 (hst.bc3 rfl)) ?_
    refine wsr (p0) 2 rfl rfl rfl (by kernel_rfl) (fun w hst => rfl) ?_
    refine wsr (p0) 5 rfl rfl rfl (by kernel_rfl) (fun w hst => rfl) ?_
    refine ws_e1 3 (by kernel_rfl) ?_
    refine nxe [4, 6, 7, 8, 9, 10, 11] (by kernel_rfl) rfl rfl ?_
    clear hst
    intro w hst
    replace hst := hst.pull1
    obtain ⟨t1669, ht1670, hm⟩ := bind_some hm
    refine we_call rfl (x_call Try.call28 rfl (vs := [p0, .int .i64 (2:Int)]) rfl) ?_
    refine (ref12_Tape_Next_ref hst.to1 ht1670).mono ?_
    rintro _ w1671 ⟨rfl, hst⟩
    refine ⟨_, rfl, ?_⟩
    replace hst := hst.of1
    refine ws_next (pend' := [(5, p0), (1, v1655), (0, .pointer (some ⟨b1548, 3, none⟩))]) hst (by kernel_rfl) (pkr rfl rfl (fun w hst => rfl) (pkr rfl rfl (fun w hst => x_load rfl Try.isAgg38 (hst.bc3 rfl)) (pkr rfl rfl (fun w hst => x_field rfl Try.underlying41 rfl Try.sizeOf38 rfl) pk_nil))) ?_
    refine wsr (.bool (t1669.1 == (0:Int))) 4 rfl rfl rfl (by kernel_rfl) (fun w hst => rfl) ?_
    refine ws_e1 6 (by kernel_rfl) ?_
    refine nxe [7, 8, 9, 10, 11] (by kernel_rfl) rfl rfl ?_
    clear hst
    intro w hst
    obtain ⟨t1674, ht1675, hm⟩ := bind_some hm
    refine we_call rfl (x_call Try.call29 rfl (vs := [p0]) rfl) ?_
    refine (ref12_Tape_Val_ref hst.to1 ht1675).mono ?_
    rintro _ w1676 ⟨v1679, rfl, hst⟩
    refine ⟨_, rfl, ?_⟩
    replace hst := hst.of2
    refine ws_next (pend' := [(4, .bool (t1669.1 == (0:Int))), (1, v1655), (0, .pointer (some ⟨b1548, 3, none⟩))]) hst (by kernel_rfl) (pkr rfl rfl (fun w hst => rfl) (pkr rfl rfl (fun w hst => x_load rfl Try.isAgg38 (hst.bc4 rfl)) (pkr rfl rfl (fun w hst => x_field rfl Try.underlying41 rfl Try.sizeOf38 rfl) pk_nil))) ?_
    refine wsr (.agg #[.bool (t1669.1 == (0:Int)), v1679]) 7 rfl rfl rfl (by kernel_rfl) (fun w hst => by obtain ⟨_, _, hv_, _⟩ := hst.sv0; rw [hv_]; kernel_rfl) ?_
    refine ws_e1 8 (by kernel_rfl) ?_
    refine nxe [9, 10, 11] (by kernel_rfl) rfl rfl ?_
    clear hst
    intro w hst
    obtain ⟨I1683, hI1684, f1685, hst⟩ := hst.own_fix
    replace hI0 := hI0.trans hI1684
    replace hL1706 := hL1706.trans hI1684
    replace hL1663 := hL1663.trans hI1684
    obtain ⟨b1686, w1687, ew1688, eb1689, hst⟩ := hst.lits (E := ty_api_Got) (xs := [({ Has := (t1669.1 == (0:Int)), Val := t1674.1 } : api_Got)]) [[.bool (t1669.1 == (0:Int)), v1679]] 104 1 rfl (Reps.cons ⟨_, rfl, f1685, one_of_sliceV (ro_sliceV f1685)⟩ Reps.nil)
    refine we_run (v := (.slice (some ⟨b1686, 0, none⟩) 1 1)) (w' := w1687) rfl (x_als (by kernel_rfl) ew1688 eb1689) ?_
    refine ws_next (pend' := [(1, v1655), (0, .pointer (some ⟨b1548, 3, none⟩))]) hst (by kernel_rfl) (pkr rfl rfl (fun w hst => x_load rfl Try.isAgg38 (hst.bc4 rfl)) (pkr rfl rfl (fun w hst => x_field rfl Try.underlying41 rfl Try.sizeOf38 rfl) pk_nil)) ?_
    refine ws_e1 9 (by kernel_rfl) ?_
    refine nxe [10, 11] (by kernel_rfl) rfl rfl ?_
    clear hst
    intro w hst
    obtain ⟨hg1691, hm⟩ := gd_some hm
    replace hst := hst.pull2
    obtain ⟨v1692, w1693, hr1694, hst⟩ := run_append elem_38 Try.underlying38 hst hst.src1 (room_of hg1691 rfl) 38
    refine we_run (v := v1692) (w' := w1693) rfl (x_append rfl rfl hr1694) ?_
    refine ws_next (pend' := []) hst (by kernel_rfl) pk_nil ?_
    refine wsr (.pointer (some ⟨b1548, 3, none⟩)) 10 rfl rfl rfl (by kernel_rfl) (fun w hst => x_field rfl Try.underlying41 rfl Try.sizeOf38 rfl) ?_
    refine ws_e1 11 (by kernel_rfl) ?_
    refine nxe [] (by kernel_rfl) rfl rfl ?_
    clear hst
    intro w hst
    replace hst := hst.pull4
    obtain ⟨w1695, hr1696, hst⟩ := hst.boxStore1 (P := Try.prog) (t := 38) (cs' := [.int .i64 z1549, .int .u64 z1550, .int .u64 z1551, v1692, (.slice none 0 0)]) 3 v1692 (one_of_sliceV hst.sv1) Try.sizeOf38 rfl rfl
    refine we_unit rfl (x_unit hr1696) ?_
    refine ws_next (pend' := []) hst (by kernel_rfl) pk_nil ?_
    refine ws_nil ?_
    intro w hst
    refine blk_n (then_n (wp_region_lit ?_))
    refine wv (.int .i64 z1658) rfl rfl rfl ?_
    refine wv (.int .i64 (IntKind.i64.wrap (z1658 + (1:Int)))) rfl rfl rfl ?_
    refine wv (.int .i64 (IntKind.i64.wrap (z1658 + (1:Int)))) rfl rfl rfl ?_
    refine wl_nil (then_n ?_)
    replace hst := hst.pull4
    replace hst := hst.pull4
    replace hst := hst.pull3
    replace hst := hst.keep4
    obtain rfl := some_inj hm
    exact ⟨_, Nat.lt_succ_self _, _, (z1654 ++ ([({ Has := (t1669.1 == (0:Int)), Val := t1674.1 } : api_Got)])), t1674.2, (IntKind.i64.wrap (z1658 + (1:Int))), v1692, _, hx1666, ((fr_upd (t := 0) (v := p0) rfl).trans ((fr_upd (t := 2) (v := .pointer (some ⟨b1437, 0, none⟩)) rfl).trans ((fr_upd (t := 4) (v := .pointer (some ⟨b1548, 0, none⟩)) rfl).trans ((fr_upd (t := 5) (v := .int .i64 t1557.1) rfl).trans ((fr_upd (t := 6) (v := .int .i64 (IntKind.i64.wrap (z1658 + (1:Int)))) rfl).trans rfl))))), hL1663, hst⟩
   ·skip
    replace hm := bif_f hc1668 hm
    refine wp_iff (congrArg Value.bool hc1668) ?_
    refine wp_exit (then_x (then_x ?_))
    replace hm := inr_up hm hx1666
    refine blk_x (then_n ?_)
    replace hst := hst.pull3
    replace hst := hst.pull3
    replace hst := hst.pull3
    replace hst := hst.keep4
    obtain rfl := some_inj hm
    exact ⟨_, z1657, z1654, v1655, _, hx1705, ((fr_upd (t := 0) (v := p0) rfl).trans ((fr_upd (t := 2) (v := .pointer (some ⟨b1437, 0, none⟩)) rfl).trans ((fr_upd (t := 4) (v := .pointer (some ⟨b1548, 0, none⟩)) rfl).trans rfl))), hL1706, hst⟩
  ·skip
   clear hst
   rintro _ w1707 ⟨I1701, z1697, z1700, v1699, σ1702, hm, rfl, hL1703, hst⟩
   dsimp only [ref13_OfReply_j1] at hm
   replace hI0 := hI0.trans hL1703
   refine wp_seq (wp_region_lit ?_)
   refine wv (p0) rfl rfl rfl ?_
   obtain ⟨t1708, ht1709, hm⟩ := bind_some hm
   refine wl_call rfl rfl (x_call Try.call28 rfl (vs := [p0, .int .i64 (3:Int)]) rfl) ?_
   refine (ref12_Tape_Next_ref hst.to1 ht1709).mono ?_
   rintro _ w1710 ⟨rfl, hst⟩
   refine ⟨_, rfl, ?_⟩
   replace hst := hst.of1
   refine wv (.int .i64 (IntKind.i64.wrap (Int.tdiv t1708.1 (2:Int)))) rfl rfl (x_quo (by decide) rfl rfl) ?_
   refine wv (.int .i64 (IntKind.i64.wrap (Int.tdiv t1708.1 (2:Int)))) rfl rfl rfl ?_
   refine wl_nil (then_n (wp_seq (wp_seq (wp_region_lit ?_))))
   refine wv (.int .i64 (0:Int)) rfl rfl rfl ?_
   refine wl_nil (then_n (wp_block ?_))
   replace hst := hst.own_nil (tySl ty_api_Pair)
   obtain ⟨n2205, hm⟩ := loopO_some hm
   refine wp_loop_n (fun n a w => ∃ (I2203 : HL) (z2198 : (List (List api_Pair))) (z2201 : ref12_Tape) (z2202 : Int) (v2199 : Value) (σ2204 : Nat → Value), loopN (ref13_OfReply_l3 t1708 z1549 z1550 z1551 z1700) n (z2198, z2201, z2202) = some r ∧ a = Fr 72 (upd (upd (upd (upd (upd σ2204 0 (p0)) 2 (.pointer (some ⟨b1437, 0, none⟩))) 4 (.pointer (some ⟨b1548, 0, none⟩))) 5 (.int .i64 (IntKind.i64.wrap (Int.tdiv t1708.1 (2:Int))))) 7 (.int .i64 z2202)) ∧ I1701.le I2203 ∧ St w0 w I2203 [ownS (tySl ty_api_Pair) v2199 z2198, at_ref12_Tape p0 z2201, cells b1437 [.int .i64 (0:Int), .int .u64 (0:Int), .int .u64 (0:Int), (.slice none 0 0), (.slice none 0 0)], cells b1548 [.int .i64 z1549, .int .u64 z1550, .int .u64 z1551, v1699, v2199], ownS ty_api_Got v1699 z1700] R) n2205 ⟨_, [], t1708.2, (0:Int), (.slice none 0 0), _, hm, ((fr_upd (t := 0) (v := p0) rfl).trans ((fr_upd (t := 2) (v := .pointer (some ⟨b1437, 0, none⟩)) rfl).trans ((fr_upd (t := 4) (v := .pointer (some ⟨b1548, 0, none⟩)) rfl).trans ((fr_upd (t := 5) (v := .int .i64 (IntKind.i64.wrap (Int.tdiv t1708.1 (2:Int)))) rfl).trans ((fr_upd (t := 7) (v := .int .i64 (0:Int)) rfl).trans rfl))))), (HL.le.refl _), hst⟩ ?_
   rintro n2211 _ w2206 ⟨I2203, z2198, z2201, z2202, v2199, σ2204, hm, rfl, hL2207, hst⟩
   obtain ⟨n2208, y2209, rfl, hm, hx2210⟩ := loopN_some hm
   dsimp only [ref13_OfReply_l3] at hm
   replace hI0 := hI0.trans hL2207
   refine wp_seq (wp_seq (wp_region_lit ?_))
   refine wv (.int .i64 z2202) rfl rfl rfl ?_
   refine wv (.int .i64 (IntKind.i64.wrap (Int.tdiv t1708.1 (2:Int)))) rfl rfl rfl ?_
   refine wv (.bool (decide (z2202 < (IntKind.i64.wrap (Int.tdiv t1708.1 (2:Int)))))) rfl rfl rfl ?_
   refine wl_nil (then_n ?_)
   refine bsplit (decide (z2202 < (IntKind.i64.wrap (Int.tdiv t1708.1 (2:Int))))) (fun hc2212 => ?_) (fun hc2212 => ?_)
   ·skip
    replace hm := bif_t hc2212 hm
    refine wp_ift (congrArg Value.bool hc2212) ?_
    refine wp_skip (then_n (wp_seq (wp_block (wp_seq (wp_region_lit ?_)))))
    refine wv ((.slice none 0 0)) rfl rfl rfl ?_
    refine wl_nil (then_n (wp_seq (wp_region_lit ?_)))
    refine wv (p0) rfl rfl rfl ?_
    replace hst := hst.pull1
    obtain ⟨t2214, ht2215, hm⟩ := bind_some hm
    refine wl_call rfl rfl (x_call Try.call28 rfl (vs := [p0, .int .i64 (3:Int)]) rfl) ?_
    refine (ref12_Tape_Next_ref hst.to1 ht2215).mono ?_
    rintro _ w2216 ⟨rfl, hst⟩
    refine ⟨_, rfl, ?_⟩
    replace hst := hst.of1
    refine wv (.int .i64 t2214.1) rfl rfl rfl ?_
    refine wl_nil (then_n ?_)
    obtain ⟨y2353, hm, hx2354⟩ := bind_some hm
    refine wp_cut (fun a w => ∃ (I2350 : HL) (z2346 : ref12_Tape) (z2349 : (List api_Pair)) (v2348 : Value) (σ2351 : Nat → Value), (ref13_OfReply_j4 z2198 z2202) (z2346, z2349) = some y2209 ∧ a = Fr 72 (upd (upd (upd (upd (upd (upd σ2351 0 (p0)) 2 (.pointer (some ⟨b1437, 0, none⟩))) 4 (.pointer (some ⟨b1548, 0, none⟩))) 5 (.int .i64 (IntKind.i64.wrap (Int.tdiv t1708.1 (2:Int))))) 7 (.int .i64 z2202)) 8 (v2348)) ∧ I2203.le I2350 ∧ St w0 w I2350 [at_ref12_Tape p0 z2346, cells b1437 [.int .i64 (0:Int), .int .u64 (0:Int), .int .u64 (0:Int), (.slice none 0 0), (.slice none 0 0)], cells b1548 [.int .i64 z1549, .int .u64 z1550, .int .u64 z1551, v1699, v2199], ownS ty_api_Got v1699 z1700, ownS (tySl ty_api_Pair) v2199 z2198, ownS ty_api_Pair v2348 z2349] R) ?_ ?_
    ·skip
     have hL2355 := HL.le.refl I2203
     refine wp_seq (wp_region_lit ?_)
     refine wv (.int .i64 (0:Int)) rfl rfl rfl ?_
     refine wl_nil (then_n (wp_block ?_))
     replace hst := hst.own_nil ty_api_Pair
     obtain ⟨n2312, hm⟩ := loopO_some hm
     refine wp_loop_n (fun n a w => ∃ (I2310 : HL) (z2305 : ref12_Tape) (z2306 : Int) (z2307 : (List api_Pair)) (v2308 : Value) (σ2311 : Nat → Value), loopN (ref13_OfReply_l5 t2214) n (z2305, z2306, z2307) = some y2353 ∧ a = Fr 72 (upd (upd (upd (upd (upd (upd (upd (upd σ2311 0 (p0)) 2 (.pointer (some ⟨b1437, 0, none⟩))) 4 (.pointer (some ⟨b1548, 0, none⟩))) 5 (.int .i64 (IntKind.i64.wrap (Int.tdiv t1708.1 (2:Int))))) 7 (.int .i64 z2202)) 8 (v2308)) 9 (.int .i64 t2214.1)) 10 (.int .i64 z2306)) ∧ I2203.le I2310 ∧ St w0 w I2310 [ownS ty_api_Pair v2308 z2307, at_ref12_Tape p0 z2305, ownS (tySl ty_api_Pair) v2199 z2198, cells b1437 [.int .i64 (0:Int), .int .u64 (0:Int), .int .u64 (0:Int), (.slice none 0 0), (.slice none 0 0)], cells b1548 [.int .i64 z1549, .int .u64 z1550, .int .u64 z1551, v1699, v2199], ownS ty_api_Got v1699 z1700] R) n2312 ⟨_, t2214.2, (0:Int), [], (.slice none 0 0), _, hm, ((fr_upd (t := 0) (v := p0) rfl).trans ((fr_upd (t := 2) (v := .pointer (some ⟨b1437, 0, none⟩)) rfl).trans ((fr_upd (t := 4) (v := .pointer (some ⟨b1548, 0, none⟩)) rfl).trans ((fr_upd (t := 5) (v := .int .i64 (IntKind.i64.wrap (Int.tdiv t1708.1 (2:Int)))) rfl).trans ((fr_upd (t := 7) (v := .int .i64 z2202) rfl).trans ((fr_upd (t := 8) (v := (.slice none 0 0)) rfl).trans ((fr_upd (t := 9) (v := .int .i64 t2214.1) rfl).trans ((fr_upd (t := 10) (v := .int .i64 (0:Int)) rfl).trans rfl)))))))), (HL.le.refl _), hst⟩ ?_
     rintro n2318 _ w2313 ⟨I2310, z2305, z2306, z2307, v2308, σ2311, hm, rfl, hL2314, hst⟩
     obtain ⟨n2315, y2316, rfl, hm, hx2317⟩ := loopN_some hm
     dsimp only [ref13_OfReply_l5] at hm
     replace hI0 := hI0.trans hL2314
     replace hL2207 := hL2207.trans hL2314
     replace hL2355 := hL2355.trans hL2314
     refine wp_seq (wp_seq (wp_region_lit ?_))
     refine wv (.int .i64 z2306) rfl rfl rfl ?_
     refine wv (.int .i64 t2214.1) rfl rfl rfl ?_
     refine wv (.bool (decide (z2306 < t2214.1))) rfl rfl rfl ?_
     refine wl_nil (then_n ?_)
     refine bsplit (decide (z2306 < t2214.1)) (fun hc2319 => ?_) (fun hc2319 => ?_)
     ·skip
      replace hm := bif_t hc2319 hm
      refine wp_ift (congrArg Value.bool hc2319) ?_
      refine wp_skip (then_n (wp_seq (wp_block (wp_region_lit ?_))))
      refine wv (v2308) rfl rfl rfl ?_
      refine wv (p0) rfl rfl rfl ?_
      replace hst := hst.pull1
      obtain ⟨t2320, ht2321, hm⟩ := bind_some hm
      refine wl_call rfl rfl (x_call Try.call59 rfl (vs := [p0]) rfl) ?_
      refine (ref12_Tape_Float_ref hst.to1 ht2321).mono ?_
      rintro _ w2322 ⟨rfl, hst⟩
      refine ⟨_, rfl, ?_⟩
      replace hst := hst.of1
      refine wv (p0) rfl rfl rfl ?_
      obtain ⟨t2325, ht2326, hm⟩ := bind_some hm
      refine wl_call rfl rfl (x_call Try.call29 rfl (vs := [p0]) rfl) ?_
      refine (ref12_Tape_Val_ref hst.to1 ht2326).mono ?_
      rintro _ w2327 ⟨v2330, rfl, hst⟩
      refine ⟨_, rfl, ?_⟩
      replace hst := hst.of2
      refine wv (.agg #[.float .f64 t2320.1, v2330]) rfl rfl (by obtain ⟨_, _, hv_, _⟩ := hst.sv0; rw [hv_]; kernel_rfl) ?_
      obtain ⟨I2334, hI2335, f2336, hst⟩ := hst.own_fix
      replace hI0 := hI0.trans hI2335
      replace hL2207 := hL2207.trans hI2335
      replace hL2355 := hL2355.trans hI2335
      replace hL2314 := hL2314.trans hI2335
      obtain ⟨b2337, w2338, ew2339, eb2340, hst⟩ := hst.lits (E := ty_api_Pair) (xs := [({ At := t2320.1, Val := t2325.1 } : api_Pair)]) [[.float .f64 t2320.1, v2330]] 107 1 rfl (Reps.cons ⟨_, rfl, f2336, one_of_sliceV (ro_sliceV f2336)⟩ Reps.nil)
      refine wl_run (v := (.slice (some ⟨b2337, 0, none⟩) 1 1)) (w' := w2338) rfl rfl (x_als (by kernel_rfl) ew2339 eb2340) ?_
      obtain ⟨hg2342, hm⟩ := gd_some hm
      replace hst := hst.pull2
      obtain ⟨v2343, w2344, hr2345, hst⟩ := run_append elem_105 Try.underlying105 hst hst.src1 (room_of hg2342 rfl) 105
      refine wl_run (v := v2343) (w' := w2344) rfl rfl (x_append rfl rfl hr2345) ?_
      refine wv (v2343) rfl rfl rfl ?_
      refine wl_nil (blk_n (then_n (wp_region_lit ?_)))
      refine wv (.int .i64 z2306) rfl rfl rfl ?_
      refine wv (.int .i64 (IntKind.i64.wrap (z2306 + (1:Int)))) rfl rfl rfl ?_
      refine wv (.int .i64 (IntKind.i64.wrap (z2306 + (1:Int)))) rfl rfl rfl ?_
      refine wl_nil (then_n ?_)
      replace hst := hst.pull6
      replace hst := hst.pull6
      replace hst := hst.pull6
      replace hst := hst.pull6
      replace hst := hst.pull6
      replace hst := hst.pull5
      replace hst := hst.keep6
      obtain rfl := some_inj hm
      exact ⟨_, Nat.lt_succ_self _, _, t2325.2, (IntKind.i64.wrap (z2306 + (1:Int))), (z2307 ++ ([({ At := t2320.1, Val := t2325.1 } : api_Pair)])), v2343, _, hx2317, ((fr_upd (t := 0) (v := p0) rfl).trans ((fr_upd (t := 2) (v := .pointer (some ⟨b1437, 0, none⟩)) rfl).trans ((fr_upd (t := 4) (v := .pointer (some ⟨b1548, 0, none⟩)) rfl).trans ((fr_upd (t := 5) (v := .int .i64 (IntKind.i64.wrap (Int.tdiv t1708.1 (2:Int)))) rfl).trans ((fr_upd (t := 7) (v := .int .i64 z2202) rfl).trans ((fr_upd (t := 8) (v := v2343) rfl).trans ((fr_upd (t := 9) (v := .int .i64 t2214.1) rfl).trans ((fr_upd (t := 10) (v := .int .i64 (IntKind.i64.wrap (z2306 + (1:Int)))) rfl).trans rfl)))))))), hL2314, hst⟩
     ·skip
      replace hm := bif_f hc2319 hm
      refine wp_iff (congrArg Value.bool hc2319) ?_
      refine wp_exit (then_x (then_x ?_))
      replace hm := inr_up hm hx2317
      refine blk_x (then_n ?_)
      replace hst := hst.pull2
      replace hst := hst.pull5
      replace hst := hst.pull5
      replace hst := hst.pull5
      replace hst := hst.pull5
      replace hst := hst.keep6
      obtain rfl := some_inj hm
      exact ⟨_, z2305, z2307, v2308, _, hx2354, ((fr_upd (t := 0) (v := p0) rfl).trans ((fr_upd (t := 2) (v := .pointer (some ⟨b1437, 0, none⟩)) rfl).trans ((fr_upd (t := 4) (v := .pointer (some ⟨b1548, 0, none⟩)) rfl).trans ((fr_upd (t := 5) (v := .int .i64 (IntKind.i64.wrap (Int.tdiv t1708.1 (2:Int)))) rfl).trans ((fr_upd (t := 7) (v := .int .i64 z2202) rfl).trans ((fr_upd (t := 8) (v := v2308) rfl).trans rfl)))))), hL2355, hst⟩
    ·skip
     clear hst
     rintro _ w2356 ⟨I2350, z2346, z2349, v2348, σ2351, hm, rfl, hL2352, hst⟩
     dsimp only [ref13_OfReply_j4] at hm
     replace hI0 := hI0.trans hL2352
     replace hL2207 := hL2207.trans hL2352
     refine wp_region_lit ?_
     refine wv (.pointer (some ⟨b1548, 4, none⟩)) rfl rfl (x_field rfl Try.underlying41 rfl Try.sizeOf39 rfl) ?_
     refine wv (v2199) rfl rfl (x_load rfl Try.isAgg39 (hst.bc2 rfl)) ?_
     refine wv (v2348) rfl rfl rfl ?_
     replace hst := hst.pull5
     obtain ⟨I2358, hI2359, f2360, hst⟩ := hst.own_fix
     replace hI0 := hI0.trans hI2359
     replace hL2207 := hL2207.trans hI2359
     obtain ⟨b2361, w2362, ew2363, eb2364, hst⟩ := hst.lits (E := (tySl ty_api_Pair)) (xs := [z2349]) [[v2348]] 105 1 rfl (Reps.cons ⟨_, rfl, f2360, one_of_sliceV (ro_sliceV f2360)⟩ Reps.nil)
     refine wl_run (v := (.slice (some ⟨b2361, 0, none⟩) 1 1)) (w' := w2362) rfl rfl (x_als (by obtain ⟨_, _, hv_, _⟩ := (ro_sliceV f2360); rw [hv_]; kernel_rfl) ew2363 eb2364) ?_
     obtain ⟨hg2366, hm⟩ := gd_some hm
     replace hst := hst.pull5
     obtain ⟨v2367, w2368, hr2369, hst⟩ := run_append elem_39 Try.underlying39 hst hst.src1 (room_of hg2366 rfl) 39
     refine wl_run (v := v2367) (w' := w2368) rfl rfl (x_append rfl rfl hr2369) ?_
     refine wv (.pointer (some ⟨b1548, 4, none⟩)) rfl rfl (x_field rfl Try.underlying41 rfl Try.sizeOf39 rfl) ?_
     replace hst := hst.pull4
     obtain ⟨w2370, hr2371, hst⟩ := hst.boxStore1 (P := Try.prog) (t := 39) (cs' := [.int .i64 z1549, .int .u64 z1550, .int .u64 z1551, v1699, v2367]) 4 v2367 (one_of_sliceV hst.sv1) Try.sizeOf39 rfl rfl
     refine wl_unit rfl rfl (x_unit hr2371) ?_
     refine wl_nil (blk_n (then_n (wp_region_lit ?_)))
     refine wv (.int .i64 z2202) rfl rfl rfl ?_
     refine wv (.int .i64 (IntKind.i64.wrap (z2202 + (1:Int)))) rfl rfl rfl ?_
     refine wv (.int .i64 (IntKind.i64.wrap (z2202 + (1:Int)))) rfl rfl rfl ?_
     refine wl_nil (then_n ?_)
     replace hst := hst.pull5
     replace hst := hst.pull1
     replace hst := hst.pull5
     replace hst := hst.pull5
     replace hst := hst.pull4
     replace hst := hst.keep5
     obtain rfl := some_inj hm
     exact ⟨_, Nat.lt_succ_self _, _, (z2198 ++ ([z2349])), z2346, (IntKind.i64.wrap (z2202 + (1:Int))), v2367, _, hx2210, ((fr_upd (t := 0) (v := p0) rfl).trans ((fr_upd (t := 2) (v := .pointer (some ⟨b1437, 0, none⟩)) rfl).trans ((fr_upd (t := 4) (v := .pointer (some ⟨b1548, 0, none⟩)) rfl).trans ((fr_upd (t := 5) (v := .int .i64 (IntKind.i64.wrap (Int.tdiv t1708.1 (2:Int)))) rfl).trans ((fr_upd (t := 7) (v := .int .i64 (IntKind.i64.wrap (z2202 + (1:Int)))) rfl).trans rfl))))), hL2207, hst⟩
   ·skip
    replace hm := bif_f hc2212 hm
    refine wp_iff (congrArg Value.bool hc2212) ?_
    refine wp_exit (then_x (then_x ?_))
    replace hm := inr_up hm hx2210
    refine blk_x (then_n (wp_seq (wp_region_lit ?_)))
    refine wv (.agg #[.int .i64 z1549, .int .u64 z1550, .int .u64 z1551, v1699, v2199]) rfl rfl (x_loadN (cs := [.int .i64 z1549, .int .u64 z1550, .int .u64 z1551, v1699, v2199]) rfl Try.isAgg41 Try.sizeOf41 (hst.bcs3 0 rfl)) ?_
    replace hst := hst.pull2
    obtain ⟨w2372, hr2373, hst⟩ := hst.boxStore (P := Try.prog) (t := 41) (cs' := [.int .i64 z1549, .int .u64 z1550, .int .u64 z1551, v1699, v2199]) 0 (.agg #[.int .i64 z1549, .int .u64 z1550, .int .u64 z1551, v1699, v2199]) Try.sizeOf41 (Nat.le_of_ble_eq_true rfl) (ones_cons rfl (ones_cons rfl (ones_cons rfl (ones_cons (one_of_sliceV hst.sv4) (ones_cons (one_of_sliceV hst.sv1) ones_nil))))) (by kernel_rfl)
    refine wl_unit rfl rfl (x_unit hr2373) ?_
    refine wl_nil (then_n (wp_ret ?_))
    obtain rfl := some_inj hm
    refine post_ret (vs := [.agg #[.int .i64 z1549, .int .u64 z1550, .int .u64 z1551, v1699, v2199]]) Try.results31 (rvs_cons (rv_cell (cs := [.int .i64 z1549, .int .u64 z1550, .int .u64 z1551, v1699, v2199]) rfl Try.isAgg41 Try.sizeOf41 (hst.bcs0 0 rfl)) rvs_nil) ?_
    replace hst := hst.pull2
    replace hst := hst.pull2
    replace hst := hst.pull4
    exact ⟨_, v1699, v2199, rfl, hI0, hst.keep3⟩

theorem ref13_OfWrites_ref {w0 w : World} {I : HL} {R : SP} {a0 : ref12_Tape} {p0 : Value}  (hst : St w0 w I [at_ref12_Tape p0 a0] R) {r : ((List api_Write) × ref12_Tape)} (hm : ref13_OfWrites a0 = some r) :
  Calls Try.prog 33 #[p0] w fun e w' => ∃ (I' : HL) (q0_0 : Value), e = .returned (q0_0) ∧ I.le I' ∧ St w0 w' I' [ownS ty_api_Write q0_0 r.1, at_ref12_Tape p0 r.2] R := by
 unfold ref13_OfWrites at hm
 refine calls_start (args := [p0]) Try.func33 rfl Try.ntmps33 (Nat.le_of_ble_eq_true rfl) ?_
 have hI0 := HL.le.refl I
 refine wp_seq (wp_region_lit ?_)
 refine wv ((.slice none 0 0)) rfl rfl rfl ?_
 refine wl_nil (then_n (wp_seq (wp_region_lit ?_)))
 refine wv ((.slice none 0 0)) rfl rfl rfl ?_
 refine wl_nil (then_n (wp_seq (wp_region_lit ?_)))
 refine wv (p0) rfl rfl rfl ?_
 obtain ⟨t766, ht767, hm⟩ := bind_some hm
 refine wl_call rfl rfl (x_call Try.call28 rfl (vs := [p0, .int .i64 (3:Int)]) rfl) ?_
 refine (ref12_Tape_Next_ref hst.to1 ht767).mono ?_
 rintro _ w768 ⟨rfl, hst⟩
 refine ⟨_, rfl, ?_⟩
 replace hst := hst.of1
 refine wv (.int .i64 t766.1) rfl rfl rfl ?_
 refine wl_nil (then_n (wp_seq (wp_seq (wp_region_lit ?_))))
 refine wv (.int .i64 (0:Int)) rfl rfl rfl ?_
 refine wl_nil (then_n (wp_block ?_))
 replace hst := hst.own_nil ty_api_Write
 obtain ⟨n939, hm⟩ := loopO_some hm
 refine wp_loop_n (fun n a w => ∃ (I937 : HL) (z932 : ref12_Tape) (z933 : (List api_Write)) (z936 : Int) (v934 : Value) (σ938 : Nat → Value), loopN (ref13_OfWrites_l0 t766) n (z932, z933, z936) = some r ∧ a = Fr 31 (upd (upd (upd (upd σ938 0 (p0)) 3 (v934)) 4 (.int .i64 t766.1)) 5 (.int .i64 z936)) ∧ I.le I937 ∧ St w0 w I937 [ownS ty_api_Write v934 z933, at_ref12_Tape p0 z932] R) n939 ⟨_, t766.2, [], (0:Int), (.slice none 0 0), _, hm, ((fr_upd (t := 0) (v := p0) rfl).trans ((fr_upd (t := 3) (v := (.slice none 0 0)) rfl).trans ((fr_upd (t := 4) (v := .int .i64 t766.1) rfl).trans ((fr_upd (t := 5) (v := .int .i64 (0:Int)) rfl).trans rfl)))), (HL.le.refl _), hst⟩ ?_
 rintro n945 _ w940 ⟨I937, z932, z933, z936, v934, σ938, hm, rfl, hL941, hst⟩
 obtain ⟨n942, y943, rfl, hm, hx944⟩ := loopN_some hm
 dsimp only [ref13_OfWrites_l0] at hm
 replace hI0 := hI0.trans hL941
 refine wp_seq (wp_seq (wp_region_lit ?_))
 refine wv (.int .i64 z936) rfl rfl rfl ?_
 refine wv (.int .i64 t766.1) rfl rfl rfl ?_
 refine wv (.bool (decide (z936 < t766.1))) rfl rfl rfl ?_
 refine wl_nil (then_n ?_)
 refine bsplit (decide (z936 < t766.1)) (fun hc946 => ?_) (fun hc946 => ?_)
 ·skip
  replace hm := bif_t hc946 hm
  refine wp_ift (congrArg Value.bool hc946) ?_
  refine wp_skip (then_n (wp_seq (wp_block (wp_seq (wp_region_lit ?_)))))
  refine wv (p0) rfl rfl rfl ?_
  replace hst := hst.pull1
  obtain ⟨t947, ht948, hm⟩ := bind_some hm
  refine wl_call rfl rfl (x_call Try.call59 rfl (vs := [p0]) rfl) ?_
  refine (ref12_Tape_Float_ref hst.to1 ht948).mono ?_
  rintro _ w949 ⟨rfl, hst⟩
  refine ⟨_, rfl, ?_⟩
  replace hst := hst.of1
  refine wv (p0) rfl rfl rfl ?_
  obtain ⟨t952, ht953, hm⟩ := bind_some hm
  refine wl_call rfl rfl (x_call Try.call28 rfl (vs := [p0, .int .i64 (4:Int)]) rfl) ?_
  refine (ref12_Tape_Next_ref hst.to1 ht953).mono ?_
  rintro _ w954 ⟨rfl, hst⟩
  refine ⟨_, rfl, ?_⟩
  replace hst := hst.of1
  refine wv (.bool (t952.1 == (0:Int))) rfl rfl rfl ?_
  refine wv (.agg #[.float .f64 t947.1, .bool (t952.1 == (0:Int)), (.slice none 0 0)]) rfl rfl (by kernel_rfl) ?_
  obtain ⟨b959, w960, ew961, eb962, hst⟩ := hst.box [.float .f64 (0:Nat), .bool false, (.slice none 0 0)] 120
  refine wl_run (v := .pointer (some ⟨b959, 0, none⟩)) (w' := w960) rfl rfl (x_al (by kernel_rfl) ew961 eb962) ?_
  obtain ⟨w964, hr965, hst⟩ := hst.boxStore (P := Try.prog) (t := 120) (cs' := [.float .f64 t947.1, .bool (t952.1 == (0:Int)), (.slice none 0 0)]) 0 (.agg #[.float .f64 t947.1, .bool (t952.1 == (0:Int)), (.slice none 0 0)]) Try.sizeOf120 (Nat.le_of_ble_eq_true rfl) (ones_cons rfl (ones_cons rfl (ones_cons rfl ones_nil))) (by kernel_rfl)
  refine wl_unit rfl rfl (x_unit hr965) ?_
  refine wl_nil (then_n ?_)
  obtain ⟨y982, hm, hx983⟩ := bind_some hm
  refine wp_cut (fun a w => ∃ (z976 : ref12_Tape) (z979 : (List Int)) (v978 : Value) (σ980 : Nat → Value), (ref13_OfWrites_j1 z933 t947 t952 z936) (z976, z979) = some y943 ∧ a = Fr 31 (upd (upd (upd (upd (upd σ980 0 (p0)) 3 (v934)) 4 (.int .i64 t766.1)) 5 (.int .i64 z936)) 6 (.pointer (some ⟨b959, 0, none⟩))) ∧ St w0 w I937 [at_ref12_Tape p0 z976, ownS ty_api_Write v934 z933, cells b959 [.float .f64 t947.1, .bool (t952.1 == (0:Int)), v978], ownS (tyInt .u8) v978 z979] R) ?_ ?_
  ·skip
   refine wp_seq (wp_region_lit ?_)
   refine wv (.pointer (some ⟨b959, 1, none⟩)) rfl rfl (x_field rfl Try.underlying120 rfl Try.sizeOf4 rfl) ?_
   refine wv (.bool (t952.1 == (0:Int))) rfl rfl (x_load rfl Try.isAgg4 (hst.bc0 rfl)) ?_
   refine wv (.bool (!(t952.1 == (0:Int)))) rfl rfl rfl ?_
   refine wl_nil (then_n ?_)
   refine bsplit (!(t952.1 == (0:Int))) (fun hc966 => ?_) (fun hc966 => ?_)
   ·skip
    replace hm := bif_t hc966 hm
    refine wp_ift (congrArg Value.bool hc966) ?_
    refine wp_region_lit ?_
    refine wv (p0) rfl rfl rfl ?_
    replace hst := hst.pull1
    obtain ⟨t967, ht968, hm⟩ := bind_some hm
    refine wl_call rfl rfl (x_call Try.call29 rfl (vs := [p0]) rfl) ?_
    refine (ref12_Tape_Val_ref hst.to1 ht968).mono ?_
    rintro _ w969 ⟨v972, rfl, hst⟩
    refine ⟨_, rfl, ?_⟩
    replace hst := hst.of2
    refine wv (.pointer (some ⟨b959, 2, none⟩)) rfl rfl (x_field rfl Try.underlying120 rfl Try.sizeOf22 rfl) ?_
    replace hst := hst.pull2
    obtain ⟨w974, hr975, hst⟩ := hst.boxStore1 (P := Try.prog) (t := 22) (cs' := [.float .f64 t947.1, .bool (t952.1 == (0:Int)), v972]) 2 v972 (one_of_sliceV hst.sv1) Try.sizeOf22 rfl rfl
    refine wl_unit rfl rfl (x_unit hr975) ?_
    refine wl_nil (then_n ?_)
    replace hst := hst.pull1
    replace hst := hst.pull1
    replace hst := hst.pull3
    replace hst := hst.pull3
    replace hst := hst.keep4
    obtain rfl := some_inj hm
    exact ⟨t967.2, t967.1, v972, _, hx983, ((fr_upd (t := 0) (v := p0) rfl).trans ((fr_upd (t := 3) (v := v934) rfl).trans ((fr_upd (t := 4) (v := .int .i64 t766.1) rfl).trans ((fr_upd (t := 5) (v := .int .i64 z936) rfl).trans ((fr_upd (t := 6) (v := .pointer (some ⟨b959, 0, none⟩)) rfl).trans rfl))))), hst⟩
   ·skip
    replace hm := bif_f hc966 hm
    refine wp_iff (congrArg Value.bool hc966) ?_
    refine wp_skip (then_n ?_)
    replace hst := hst.own_nil (tyInt .u8)
    replace hst := hst.pull1
    replace hst := hst.pull3
    replace hst := hst.pull3
    replace hst := hst.keep4
    obtain rfl := some_inj hm
    exact ⟨t952.2, ([]), (.slice none 0 0), _, hx983, ((fr_upd (t := 0) (v := p0) rfl).trans ((fr_upd (t := 3) (v := v934) rfl).trans ((fr_upd (t := 4) (v := .int .i64 t766.1) rfl).trans ((fr_upd (t := 5) (v := .int .i64 z936) rfl).trans ((fr_upd (t := 6) (v := .pointer (some ⟨b959, 0, none⟩)) rfl).trans rfl))))), hst⟩
  ·skip
   clear hst
   rintro _ w984 ⟨z976, z979, v978, σ980, hm, rfl, hst⟩
   dsimp only [ref13_OfWrites_j1] at hm
   refine wp_region_lit ?_
   refine wv (v934) rfl rfl rfl ?_
   refine wv (.agg #[.float .f64 t947.1, .bool (t952.1 == (0:Int)), v978]) rfl rfl (x_loadN (cs := [.float .f64 t947.1, .bool (t952.1 == (0:Int)), v978]) rfl Try.isAgg120 Try.sizeOf120 (hst.bcs2 0 rfl)) ?_
   replace hst := hst.pull3
   obtain ⟨I986, hI987, f988, hst⟩ := hst.own_fix
   replace hI0 := hI0.trans hI987
   replace hL941 := hL941.trans hI987
   obtain ⟨b989, w990, ew991, eb992, hst⟩ := hst.lits (E := ty_api_Write) (xs := [({ At := t947.1, Del := (t952.1 == (0:Int)), Val := z979 } : api_Write)]) [[.float .f64 t947.1, .bool (t952.1 == (0:Int)), v978]] 120 1 rfl (Reps.cons ⟨_, rfl, f988, one_of_sliceV (ro_sliceV f988)⟩ Reps.nil)
   refine wl_run (v := (.slice (some ⟨b989, 0, none⟩) 1 1)) (w' := w990) rfl rfl (x_als (by kernel_rfl) ew991 eb992) ?_
   obtain ⟨hg994, hm⟩ := gd_some hm
   replace hst := hst.pull2
   obtain ⟨v995, w996, hr997, hst⟩ := run_append elem_42 Try.underlying42 hst hst.src1 (room_of hg994 rfl) 42
   refine wl_run (v := v995) (w' := w996) rfl rfl (x_append rfl rfl hr997) ?_
   refine wv (v995) rfl rfl rfl ?_
   refine wl_nil (blk_n (then_n (wp_region_lit ?_)))
   refine wv (.int .i64 z936) rfl rfl rfl ?_
   refine wv (.int .i64 (IntKind.i64.wrap (z936 + (1:Int)))) rfl rfl rfl ?_
   refine wv (.int .i64 (IntKind.i64.wrap (z936 + (1:Int)))) rfl rfl rfl ?_
   refine wl_nil (then_n ?_)
   replace hst := hst.pull2
   replace hst := hst.pull1
   replace hst := hst.keep2
   obtain rfl := some_inj hm
   exact ⟨_, Nat.lt_succ_self _, _, z976, (z933 ++ ([({ At := t947.1, Del := (t952.1 == (0:Int)), Val := z979 } : api_Write)])), (IntKind.i64.wrap (z936 + (1:Int))), v995, _, hx944, ((fr_upd (t := 0) (v := p0) rfl).trans ((fr_upd (t := 3) (v := v995) rfl).trans ((fr_upd (t := 4) (v := .int .i64 t766.1) rfl).trans ((fr_upd (t := 5) (v := .int .i64 (IntKind.i64.wrap (z936 + (1:Int)))) rfl).trans rfl)))), hL941, hst⟩
 ·skip
  replace hm := bif_f hc946 hm
  refine wp_iff (congrArg Value.bool hc946) ?_
  refine wp_exit (then_x (then_x ?_))
  replace hm := inr_up hm hx944
  refine blk_x (then_n (wp_seq (wp_region_lit ?_)))
  refine wv (v934) rfl rfl rfl ?_
  refine wv (v934) rfl rfl rfl ?_
  refine wl_nil (then_n (wp_ret ?_))
  obtain rfl := some_inj hm
  refine post_ret (vs := [v934]) Try.results33 (rvs_cons (rv_tmp rfl) rvs_nil) ?_
  replace hst := hst.pull1
  replace hst := hst.pull1
  exact ⟨_, v934, rfl, hI0, hst.keep2⟩

theorem law17_make1_ref {w0 w : World} {I : HL} {R : SP} {a0 : ref12_Tape} {p0 : Value}  (hst : St w0 w I [at_ref12_Tape p0 a0] R) {r : (api_Mail × ref12_Tape)} (hm : law17_make1 a0 = some r) :
  Calls Try.prog 9 #[p0] w fun e w' => ∃ (I' : HL) (q0_0 : Value) (q0_1 : Value) (q0_2 : Value) (q0_3 : Value) (q0_4 : Value) (q0_5 : Value) (q0_6 : Value) (q0_7 : Value) (q0_8 : Value) (q0_9 : Value) (q0_10 : Value) (q0_11 : Value) (q0_12 : Value) (q0_13 : Value) (q0_14 : Value) (q0_15 : Value), e = .returned (.agg #[.int .u8 r.1.Kind, .int .u8 r.1.M.Kind, .int .i64 r.1.M.From, .int .i64 r.1.M.To, .int .u64 r.1.M.Term, .int .u64 r.1.M.Index, .int .u64 r.1.M.LogTerm, .int .u64 r.1.M.Commit, .bool r.1.M.OK, q0_0, .int .u64 r.1.M.S.Index, .int .u64 r.1.M.S.Term, .int .u64 r.1.M.S.Voters, q0_1, .int .u64 r.1.H.ID.Session, .int .u64 r.1.H.ID.Seq, .int .u64 r.1.H.Epoch, q0_2, q0_3, q0_4, q0_5, .int .u64 r.1.ID.Session, .int .u64 r.1.ID.Seq, .int .i64 r.1.R.E, .int .u64 r.1.R.Epoch, .int .u64 r.1.R.Index, q0_6, q0_7, .int .u8 r.1.C.Kind, .int .u64 r.1.C.ID.Session, .int .u64 r.1.C.ID.Seq, .int .u64 r.1.C.Epoch, .int .u64 r.1.C.Index, .int .i64 r.1.C.E, .int .u64 r.1.C.Hold.ID.Session, .int .u64 r.1.C.Hold.ID.Seq, .int .u64 r.1.C.Hold.Epoch, q0_8, q0_9, q0_10, q0_11, q0_12, .int .i64 r.1.C.R.E, .int .u64 r.1.C.R.Epoch, .int .u64 r.1.C.R.Index, q0_13, q0_14, .int .u64 r.1.C.Shards, q0_15, .int .u64 r.1.C.Rule.ID, .int .i64 r.1.C.Rule.From, .int .i64 r.1.C.Rule.To, .float .f64 r.1.C.Rule.Lo, .float .f64 r.1.C.Rule.Hi, .int .u64 r.1.C.Rule.Authority, .int .i64 r.1.C.Rule.Quota, .bool r.1.C.On]) ∧ I.le I' ∧ St w0 w' I' [ownS ty_api_Entry q0_0 r.1.M.Entries, ownS (tyInt .u8) q0_1 r.1.M.S.Data, ownS tyF64 q0_2 r.1.H.Gets, ownS tyF2 q0_3 r.1.H.Scans, ownS tyF64 q0_4 r.1.H.Puts, ownS (tyInt .u8) q0_5 r.1.H.Data, ownS ty_api_Got q0_6 r.1.R.Gots, ownS (tySl ty_api_Pair) q0_7 r.1.R.Scans, ownS tyF64 q0_8 r.1.C.Hold.Gets, ownS tyF2 q0_9 r.1.C.Hold.Scans, ownS tyF64 q0_10 r.1.C.Hold.Puts, ownS (tyInt .u8) q0_11 r.1.C.Hold.Data, ownS ty_api_Write q0_12 r.1.C.Writes, ownS ty_api_Got q0_13 r.1.C.R.Gots, ownS (tySl ty_api_Pair) q0_14 r.1.C.R.Scans, ownS ty_api_Part q0_15 r.1.C.Parts, at_ref12_Tape p0 r.2] R := by
 unfold law17_make1 at hm
 refine calls_start (args := [p0]) Try.func9 rfl Try.ntmps9 (Nat.le_of_ble_eq_true rfl) ?_
 have hI0 := HL.le.refl I
 refine wp_seq (wp_region_lit ?_)
 obtain ⟨b576, w577, ew578, eb579, hst⟩ := hst.box [.int .u8 (0:Int), .int .u8 (0:Int), .int .i64 (0:Int), .int .i64 (0:Int), .int .u64 (0:Int), .int .u64 (0:Int), .int .u64 (0:Int), .int .u64 (0:Int), .bool false, (.slice none 0 0), .int .u64 (0:Int), .int .u64 (0:Int), .int .u64 (0:Int), (.slice none 0 0), .int .u64 (0:Int), .int .u64 (0:Int), .int .u64 (0:Int), (.slice none 0 0), (.slice none 0 0), (.slice none 0 0), (.slice none 0 0), .int .u64 (0:Int), .int .u64 (0:Int), .int .i64 (0:Int), .int .u64 (0:Int), .int .u64 (0:Int), (.slice none 0 0), (.slice none 0 0), .int .u8 (0:Int), .int .u64 (0:Int), .int .u64 (0:Int), .int .u64 (0:Int), .int .u64 (0:Int), .int .i64 (0:Int), .int .u64 (0:Int), .int .u64 (0:Int), .int .u64 (0:Int), (.slice none 0 0), (.slice none 0 0), (.slice none 0 0), (.slice none 0 0), (.slice none 0 0), .int .i64 (0:Int), .int .u64 (0:Int), .int .u64 (0:Int), (.slice none 0 0), (.slice none 0 0), .int .u64 (0:Int), (.slice none 0 0), .int .u64 (0:Int), .int .i64 (0:Int), .int .i64 (0:Int), .float .f64 (0:Nat), .float .f64 (0:Nat), .int .u64 (0:Int), .int .i64 (0:Int), .bool false] 50
 refine wl_run (v := .pointer (some ⟨b576, 0, none⟩)) (w' := w577) rfl rfl (x_al (by kernel_rfl) ew578 eb579) ?_
 refine wl_nil (then_n (wp_seq (wp_region_lit ?_)))
 refine wv (p0) rfl rfl rfl ?_
 replace hst := hst.pull1
 obtain ⟨t581, ht582, hm⟩ := bind_some hm
 refine wl_call rfl rfl (x_call Try.call28 rfl (vs := [p0, .int .i64 (6:Int)]) rfl) ?_
 refine (ref12_Tape_Next_ref hst.to1 ht582).mono ?_
 rintro _ w583 ⟨rfl, hst⟩
 refine ⟨_, rfl, ?_⟩
 replace hst := hst.of1
 refine wv (.int .i64 (IntKind.i64.wrap ((1:Int) + t581.1))) rfl rfl rfl ?_
 refine wv (.int .u8 (IntKind.u8.wrap (IntKind.i64.wrap ((1:Int) + t581.1)))) rfl rfl (by kernel_rfl) ?_
 refine wv (.agg #[.int .u8 (IntKind.u8.wrap (IntKind.i64.wrap ((1:Int) + t581.1))), .int .u8 (0:Int), .int .i64 (0:Int), .int .i64 (0:Int), .int .u64 (0:Int), .int .u64 (0:Int), .int .u64 (0:Int), .int .u64 (0:Int), .bool false, (.slice none 0 0), .int .u64 (0:Int), .int .u64 (0:Int), .int .u64 (0:Int), (.slice none 0 0), .int .u64 (0:Int), .int .u64 (0:Int), .int .u64 (0:Int), (.slice none 0 0), (.slice none 0 0), (.slice none 0 0), (.slice none 0 0), .int .u64 (0:Int), .int .u64 (0:Int), .int .i64 (0:Int), .int .u64 (0:Int), .int .u64 (0:Int), (.slice none 0 0), (.slice none 0 0), .int .u8 (0:Int), .int .u64 (0:Int), .int .u64 (0:Int), .int .u64 (0:Int), .int .u64 (0:Int), .int .i64 (0:Int), .int .u64 (0:Int), .int .u64 (0:Int), .int .u64 (0:Int), (.slice none 0 0), (.slice none 0 0), (.slice none 0 0), (.slice none 0 0), (.slice none 0 0), .int .i64 (0:Int), .int .u64 (0:Int), .int .u64 (0:Int), (.slice none 0 0), (.slice none 0 0), .int .u64 (0:Int), (.slice none 0 0), .int .u64 (0:Int), .int .i64 (0:Int), .int .i64 (0:Int), .float .f64 (0:Nat), .float .f64 (0:Nat), .int .u64 (0:Int), .int .i64 (0:Int), .bool false]) rfl rfl (by kernel_rfl) ?_
 obtain ⟨b618, w619, ew620, eb621, hst⟩ := hst.box [.int .u8 (0:Int), .int .u8 (0:Int), .int .i64 (0:Int), .int .i64 (0:Int), .int .u64 (0:Int), .int .u64 (0:Int), .int .u64 (0:Int), .int .u64 (0:Int), .bool false, (.slice none 0 0), .int .u64 (0:Int), .int .u64 (0:Int), .int .u64 (0:Int), (.slice none 0 0), .int .u64 (0:Int), .int .u64 (0:Int), .int .u64 (0:Int), (.slice none 0 0), (.slice none 0 0), (.slice none 0 0), (.slice none 0 0), .int .u64 (0:Int), .int .u64 (0:Int), .int .i64 (0:Int), .int .u64 (0:Int), .int .u64 (0:Int), (.slice none 0 0), (.slice none 0 0), .int .u8 (0:Int), .int .u64 (0:Int), .int .u64 (0:Int), .int .u64 (0:Int), .int .u64 (0:Int), .int .i64 (0:Int), .int .u64 (0:Int), .int .u64 (0:Int), .int .u64 (0:Int), (.slice none 0 0), (.slice none 0 0), (.slice none 0 0), (.slice none 0 0), (.slice none 0 0), .int .i64 (0:Int), .int .u64 (0:Int), .int .u64 (0:Int), (.slice none 0 0), (.slice none 0 0), .int .u64 (0:Int), (.slice none 0 0), .int .u64 (0:Int), .int .i64 (0:Int), .int .i64 (0:Int), .float .f64 (0:Nat), .float .f64 (0:Nat), .int .u64 (0:Int), .int .i64 (0:Int), .bool false] 50
 refine wl_run (v := .pointer (some ⟨b618, 0, none⟩)) (w' := w619) rfl rfl (x_al (by kernel_rfl) ew620 eb621) ?_
 obtain ⟨w623, hr624, hst⟩ := hst.boxStore (P := Try.prog) (t := 50) (cs' := [.int .u8 (IntKind.u8.wrap (IntKind.i64.wrap ((1:Int) + t581.1))), .int .u8 (0:Int), .int .i64 (0:Int), .int .i64 (0:Int), .int .u64 (0:Int), .int .u64 (0:Int), .int .u64 (0:Int), .int .u64 (0:Int), .bool false, (.slice none 0 0), .int .u64 (0:Int), .int .u64 (0:Int), .int .u64 (0:Int), (.slice none 0 0), .int .u64 (0:Int), .int .u64 (0:Int), .int .u64 (0:Int), (.slice none 0 0), (.slice none 0 0), (.slice none 0 0), (.slice none 0 0), .int .u64 (0:Int), .int .u64 (0:Int), .int .i64 (0:Int), .int .u64 (0:Int), .int .u64 (0:Int), (.slice none 0 0), (.slice none 0 0), .int .u8 (0:Int), .int .u64 (0:Int), .int .u64 (0:Int), .int .u64 (0:Int), .int .u64 (0:Int), .int .i64 (0:Int), .int .u64 (0:Int), .int .u64 (0:Int), .int .u64 (0:Int), (.slice none 0 0), (.slice none 0 0), (.slice none 0 0), (.slice none 0 0), (.slice none 0 0), .int .i64 (0:Int), .int .u64 (0:Int), .int .u64 (0:Int), (.slice none 0 0), (.slice none 0 0), .int .u64 (0:Int), (.slice none 0 0), .int .u64 (0:Int), .int .i64 (0:Int), .int .i64 (0:Int), .float .f64 (0:Nat), .float .f64 (0:Nat), .int .u64 (0:Int), .int .i64 (0:Int), .bool false]) 0 (.agg #[.int .u8 (IntKind.u8.wrap (IntKind.i64.wrap ((1:Int) + t581.1))), .int .u8 (0:Int), .int .i64 (0:Int), .int .i64 (0:Int), .int .u64 (0:Int), .int .u64 (0:Int), .int .u64 (0:Int), .int .u64 (0:Int), .bool false, (.slice none 0 0), .int .u64 (0:Int), .int .u64 (0:Int), .int .u64 (0:Int), (.slice none 0 0), .int .u64 (0:Int), .int .u64 (0:Int), .int .u64 (0:Int), (.slice none 0 0), (.slice none 0 0), (.slice none 0 0), (.slice none 0 0), .int .u64 (0:Int), .int .u64 (0:Int), .int .i64 (0:Int), .int .u64 (0:Int), .int .u64 (0:Int), (.slice none 0 0), (.slice none 0 0), .int .u8 (0:Int), .int .u64 (0:Int), .int .u64 (0:Int), .int .u64 (0:Int), .int .u64 (0:Int), .int .i64 (0:Int), .int .u64 (0:Int), .int .u64 (0:Int), .int .u64 (0:Int), (.slice none 0 0), (.slice none 0 0), (.slice none 0 0), (.slice none 0 0), (.slice none 0 0), .int .i64 (0:Int), .int .u64 (0:Int), .int .u64 (0:Int), (.slice none 0 0), (.slice none 0 0), .int .u64 (0:Int), (.slice none 0 0), .int .u64 (0:Int), .int .i64 (0:Int), .int .i64 (0:Int), .float .f64 (0:Nat), .float .f64 (0:Nat), .int .u64 (0:Int), .int .i64 (0:Int), .bool false]) Try.sizeOf50 (Nat.le_of_ble_eq_true rfl) (ones_cons rfl (ones_cons rfl (ones_cons rfl (ones_cons rfl (ones_cons rfl (ones_cons rfl (ones_cons rfl (ones_cons rfl (ones_cons rfl (ones_cons rfl (ones_cons rfl (ones_cons rfl (ones_cons rfl (ones_cons rfl (ones_cons rfl (ones_cons rfl (ones_cons rfl (ones_cons rfl (ones_cons rfl (ones_cons rfl (ones_cons rfl (ones_cons rfl (ones_cons rfl (ones_cons rfl (ones_cons rfl (ones_cons rfl (ones_cons rfl (ones_cons rfl (ones_cons rfl (ones_cons rfl (ones_cons rfl (ones_cons rfl (ones_cons rfl (ones_cons rfl (ones_cons rfl (ones_cons rfl (ones_cons rfl (ones_cons rfl (ones_cons rfl (ones_cons rfl (ones_cons rfl (ones_cons rfl (ones_cons rfl (ones_cons rfl (ones_cons rfl (ones_cons rfl (ones_cons rfl (ones_cons rfl (ones_cons rfl (ones_cons rfl (ones_cons rfl (ones_cons rfl (ones_cons rfl (ones_cons rfl (ones_cons rfl (ones_cons rfl (ones_cons rfl ones_nil))))))))))))))))))))))))))))))))))))))))))))))))))))))))) (by kernel_rfl)
 refine wl_unit rfl rfl (x_unit hr624) ?_
 refine wl_nil (then_n (wp_seq (wp_seq (wp_region_lit ?_))))
 refine wv (.pointer (some ⟨b618, 0, none⟩)) rfl rfl (x_field rfl Try.underlying50 rfl Try.sizeOf5 rfl) ?_
 refine wv (.int .u8 (IntKind.u8.wrap (IntKind.i64.wrap ((1:Int) + t581.1)))) rfl rfl (x_load rfl Try.isAgg5 (hst.bc0 rfl)) ?_
 refine wl_nil (then_n (wp_block (wp_seq (wp_region_lit ?_))))
 refine wv (.bool ((IntKind.u8.wrap (IntKind.i64.wrap ((1:Int) + t581.1))) == (1:Int))) rfl rfl rfl ?_
 refine wv (.bool ((IntKind.u8.wrap (IntKind.i64.wrap ((1:Int) + t581.1))) == (1:Int))) rfl rfl rfl ?_
 refine wl_nil (then_n ?_)
 refine bsplit ((IntKind.u8.wrap (IntKind.i64.wrap ((1:Int) + t581.1))) == (1:Int)) (fun hc625 => ?_) (fun hc625 => ?_)
 ·skip
  replace hm := bif_t hc625 hm
  refine wp_ift (congrArg Value.bool hc625) ?_
  refine wp_seq (wp_region_lit ?_)
  refine wv (p0) rfl rfl rfl ?_
  replace hst := hst.pull1
  obtain ⟨t626, ht627, hm⟩ := bind_some hm
  refine wl_call rfl rfl (x_call Try.call28 rfl (vs := [p0, .int .i64 (7:Int)]) rfl) ?_
  refine (ref12_Tape_Next_ref hst.to1 ht627).mono ?_
  rintro _ w628 ⟨rfl, hst⟩
  refine ⟨_, rfl, ?_⟩
  replace hst := hst.of1
  refine wv (.int .i64 (IntKind.i64.wrap ((1:Int) + t626.1))) rfl rfl rfl ?_
  refine wv (.int .u8 (IntKind.u8.wrap (IntKind.i64.wrap ((1:Int) + t626.1)))) rfl rfl (by kernel_rfl) ?_
  refine wv (p0) rfl rfl rfl ?_
  obtain ⟨t631, ht632, hm⟩ := bind_some hm
  refine wl_call rfl rfl (x_call Try.call28 rfl (vs := [p0, .int .i64 (5:Int)]) rfl) ?_
  refine (ref12_Tape_Next_ref hst.to1 ht632).mono ?_
  rintro _ w633 ⟨rfl, hst⟩
  refine ⟨_, rfl, ?_⟩
  replace hst := hst.of1
  refine wv (p0) rfl rfl rfl ?_
  obtain ⟨t636, ht637, hm⟩ := bind_some hm
  refine wl_call rfl rfl (x_call Try.call28 rfl (vs := [p0, .int .i64 (5:Int)]) rfl) ?_
  refine (ref12_Tape_Next_ref hst.to1 ht637).mono ?_
  rintro _ w638 ⟨rfl, hst⟩
  refine ⟨_, rfl, ?_⟩
  replace hst := hst.of1
  refine wv (p0) rfl rfl rfl ?_
  obtain ⟨t641, ht642, hm⟩ := bind_some hm
  refine wl_call rfl rfl (x_call Try.call28 rfl (vs := [p0, .int .i64 (250:Int)]) rfl) ?_
  refine (ref12_Tape_Next_ref hst.to1 ht642).mono ?_
  rintro _ w643 ⟨rfl, hst⟩
  refine ⟨_, rfl, ?_⟩
  replace hst := hst.of1
  refine wv (.int .u64 (IntKind.u64.wrap t641.1)) rfl rfl (by kernel_rfl) ?_
  refine wv (p0) rfl rfl rfl ?_
  obtain ⟨t646, ht647, hm⟩ := bind_some hm
  refine wl_call rfl rfl (x_call Try.call28 rfl (vs := [p0, .int .i64 (250:Int)]) rfl) ?_
  refine (ref12_Tape_Next_ref hst.to1 ht647).mono ?_
  rintro _ w648 ⟨rfl, hst⟩
  refine ⟨_, rfl, ?_⟩
  replace hst := hst.of1
  refine wv (.int .u64 (IntKind.u64.wrap t646.1)) rfl rfl (by kernel_rfl) ?_
  refine wv (p0) rfl rfl rfl ?_
  obtain ⟨t651, ht652, hm⟩ := bind_some hm
  refine wl_call rfl rfl (x_call Try.call28 rfl (vs := [p0, .int .i64 (9:Int)]) rfl) ?_
  refine (ref12_Tape_Next_ref hst.to1 ht652).mono ?_
  rintro _ w653 ⟨rfl, hst⟩
  refine ⟨_, rfl, ?_⟩
  replace hst := hst.of1
  refine wv (.int .u64 (IntKind.u64.wrap t651.1)) rfl rfl (by kernel_rfl) ?_
  refine wv (p0) rfl rfl rfl ?_
  obtain ⟨t656, ht657, hm⟩ := bind_some hm
  refine wl_call rfl rfl (x_call Try.call28 rfl (vs := [p0, .int .i64 (99:Int)]) rfl) ?_
  refine (ref12_Tape_Next_ref hst.to1 ht657).mono ?_
  rintro _ w658 ⟨rfl, hst⟩
  refine ⟨_, rfl, ?_⟩
  replace hst := hst.of1
  refine wv (.int .u64 (IntKind.u64.wrap t656.1)) rfl rfl (by kernel_rfl) ?_
  refine wv (p0) rfl rfl rfl ?_
  obtain ⟨t661, ht662, hm⟩ := bind_some hm
  refine wl_call rfl rfl (x_call Try.call28 rfl (vs := [p0, .int .i64 (2:Int)]) rfl) ?_
  refine (ref12_Tape_Next_ref hst.to1 ht662).mono ?_
  rintro _ w663 ⟨rfl, hst⟩
  refine ⟨_, rfl, ?_⟩
  replace hst := hst.of1
  refine wv (.bool (t661.1 == (0:Int))) rfl rfl rfl ?_
  refine wv (.agg #[.int .u8 (IntKind.u8.wrap (IntKind.i64.wrap ((1:Int) + t626.1))), .int .i64 t631.1, .int .i64 t636.1, .int .u64 (IntKind.u64.wrap t641.1), .int .u64 (IntKind.u64.wrap t646.1), .int .u64 (IntKind.u64.wrap t651.1), .int .u64 (IntKind.u64.wrap t656.1), .bool (t661.1 == (0:Int)), (.slice none 0 0), .int .u64 (0:Int), .int .u64 (0:Int), .int .u64 (0:Int), (.slice none 0 0)]) rfl rfl (by kernel_rfl) ?_
  refine wv (.pointer (some ⟨b618, 1, none⟩)) rfl rfl (x_field rfl Try.underlying50 rfl Try.sizeOf30 rfl) ?_
  replace hst := hst.pull1
  obtain ⟨w668, hr669, hst⟩ := hst.boxStore (P := Try.prog) (t := 30) (cs' := [.int .u8 (IntKind.u8.wrap (IntKind.i64.wrap ((1:Int) + t581.1))), .int .u8 (IntKind.u8.wrap (IntKind.i64.wrap ((1:Int) + t626.1))), .int .i64 t631.1, .int .i64 t636.1, .int .u64 (IntKind.u64.wrap t641.1), .int .u64 (IntKind.u64.wrap t646.1), .int .u64 (IntKind.u64.wrap t651.1), .int .u64 (IntKind.u64.wrap t656.1), .bool (t661.1 == (0:Int)), (.slice none 0 0), .int .u64 (0:Int), .int .u64 (0:Int), .int .u64 (0:Int), (.slice none 0 0), .int .u64 (0:Int), .int .u64 (0:Int), .int .u64 (0:Int), (.slice none 0 0), (.slice none 0 0), (.slice none 0 0), (.slice none 0 0), .int .u64 (0:Int), .int .u64 (0:Int), .int .i64 (0:Int), .int .u64 (0:Int), .int .u64 (0:Int), (.slice none 0 0), (.slice none 0 0), .int .u8 (0:Int), .int .u64 (0:Int), .int .u64 (0:Int), .int .u64 (0:Int), .int .u64 (0:Int), .int .i64 (0:Int), .int .u64 (0:Int), .int .u64 (0:Int), .int .u64 (0:Int), (.slice none 0 0), (.slice none 0 0), (.slice none 0 0), (.slice none 0 0), (.slice none 0 0), .int .i64 (0:Int), .int .u64 (0:Int), .int .u64 (0:Int), (.slice none 0 0), (.slice none 0 0), .int .u64 (0:Int), (.slice none 0 0), .int .u64 (0:Int), .int .i64 (0:Int), .int .i64 (0:Int), .float .f64 (0:Nat), .float .f64 (0:Nat), .int .u64 (0:Int), .int .i64 (0:Int), .bool false]) 1 (.agg #[.int .u8 (IntKind.u8.wrap (IntKind.i64.wrap ((1:Int) + t626.1))), .int .i64 t631.1, .int .i64 t636.1, .int .u64 (IntKind.u64.wrap t641.1), .int .u64 (IntKind.u64.wrap t646.1), .int .u64 (IntKind.u64.wrap t651.1), .int .u64 (IntKind.u64.wrap t656.1), .bool (t661.1 == (0:Int)), (.slice none 0 0), .int .u64 (0:Int), .int .u64 (0:Int), .int .u64 (0:Int), (.slice none 0 0)]) Try.sizeOf30 (Nat.le_of_ble_eq_true rfl) (ones_cons rfl (ones_cons rfl (ones_cons rfl (ones_cons rfl (ones_cons rfl (ones_cons rfl (ones_cons rfl (ones_cons rfl (ones_cons rfl (ones_cons rfl (ones_cons rfl (ones_cons rfl (ones_cons rfl ones_nil))))))))))))) (by kernel_rfl)
  refine wl_unit rfl rfl (x_unit hr669) ?_
  refine wl_nil (then_n (wp_seq (wp_region_lit ?_)))
  refine wv (p0) rfl rfl rfl ?_
  replace hst := hst.pull1
  obtain ⟨t670, ht671, hm⟩ := bind_some hm
  refine wl_call rfl rfl (x_call Try.call28 rfl (vs := [p0, .int .i64 (4:Int)]) rfl) ?_
  refine (ref12_Tape_Next_ref hst.to1 ht671).mono ?_
  rintro _ w672 ⟨rfl, hst⟩
  refine ⟨_, rfl, ?_⟩
  replace hst := hst.of1
  refine wv (.int .i64 t670.1) rfl rfl rfl ?_
  refine wl_nil (then_n ?_)
  obtain ⟨y837, hm, hx838⟩ := bind_some hm
  refine wp_cut (fun a w => ∃ (I834 : HL) (z830 : ref12_Tape) (z833 : (List api_Entry)) (v832 : Value) (σ835 : Nat → Value), (law17_make1_j0 t581 t626 t631 t636 t641 t646 t651 t656 t661) (z830, z833) = some r ∧ a = Fr 115 (upd (upd (upd σ835 0 (p0)) 2 (.pointer (some ⟨b576, 0, none⟩))) 3 (.pointer (some ⟨b618, 0, none⟩))) ∧ I.le I834 ∧ St w0 w I834 [at_ref12_Tape p0 z830, cells b576 [.int .u8 (0:Int), .int .u8 (0:Int), .int .i64 (0:Int), .int .i64 (0:Int), .int .u64 (0:Int), .int .u64 (0:Int), .int .u64 (0:Int), .int .u64 (0:Int), .bool false, (.slice none 0 0), .int .u64 (0:Int), .int .u64 (0:Int), .int .u64 (0:Int), (.slice none 0 0), .int .u64 (0:Int), .int .u64 (0:Int), .int .u64 (0:Int), (.slice none 0 0), (.slice none 0 0), (.slice none 0 0), (.slice none 0 0), .int .u64 (0:Int), .int .u64 (0:Int), .int .i64 (0:Int), .int .u64 (0:Int), .int .u64 (0:Int), (.slice none 0 0), (.slice none 0 0), .int .u8 (0:Int), .int .u64 (0:Int), .int .u64 (0:Int), .int .u64 (0:Int), .int .u64 (0:Int), .int .i64 (0:Int), .int .u64 (0:Int), .int .u64 (0:Int), .int .u64 (0:Int), (.slice none 0 0), (.slice none 0 0), (.slice none 0 0), (.slice none 0 0), (.slice none 0 0), .int .i64 (0:Int), .int .u64 (0:Int), .int .u64 (0:Int), (.slice none 0 0), (.slice none 0 0), .int .u64 (0:Int), (.slice none 0 0), .int .u64 (0:Int), .int .i64 (0:Int), .int .i64 (0:Int), .float .f64 (0:Nat), .float .f64 (0:Nat), .int .u64 (0:Int), .int .i64 (0:Int), .bool false], cells b618 [.int .u8 (IntKind.u8.wrap (IntKind.i64.wrap ((1:Int) + t581.1))), .int .u8 (IntKind.u8.wrap (IntKind.i64.wrap ((1:Int) + t626.1))), .int .i64 t631.1, .int .i64 t636.1, .int .u64 (IntKind.u64.wrap t641.1), .int .u64 (IntKind.u64.wrap t646.1), .int .u64 (IntKind.u64.wrap t651.1), .int .u64 (IntKind.u64.wrap t656.1), .bool (t661.1 == (0:Int)), v832, .int .u64 (0:Int), .int .u64 (0:Int), .int .u64 (0:Int), (.slice none 0 0), .int .u64 (0:Int), .int .u64 (0:Int), .int .u64 (0:Int), (.slice none 0 0), (.slice none 0 0), (.slice none 0 0), (.slice none 0 0), .int .u64 (0:Int), .int .u64 (0:Int), .int .i64 (0:Int), .int .u64 (0:Int), .int .u64 (0:Int), (.slice none 0 0), (.slice none 0 0), .int .u8 (0:Int), .int .u64 (0:Int), .int .u64 (0:Int), .int .u64 (0:Int), .int .u64 (0:Int), .int .i64 (0:Int), .int .u64 (0:Int), .int .u64 (0:Int), .int .u64 (0:Int), (.slice none 0 0), (.slice none 0 0), (.slice none 0 0), (.slice none 0 0), (.slice none 0 0), .int .i64 (0:Int), .int .u64 (0:Int), .int .u64 (0:Int), (.slice none 0 0), (.slice none 0 0), .int .u64 (0:Int), (.slice none 0 0), .int .u64 (0:Int), .int .i64 (0:Int), .int .i64 (0:Int), .float .f64 (0:Nat), .float .f64 (0:Nat), .int .u64 (0:Int), .int .i64 (0:Int), .bool false], ownS ty_api_Entry v832 z833] R) ?_ ?_
  ·skip
   have hL839 := HL.le.refl I
   refine wp_seq (wp_region_lit ?_)
   refine wv (.int .i64 (0:Int)) rfl rfl rfl ?_
   refine wl_nil (then_n (wp_block ?_))
   replace hst := hst.own_nil ty_api_Entry
   obtain ⟨n789, hm⟩ := loopO_some hm
   refine wp_loop_n (fun n a w => ∃ (I787 : HL) (z782 : (List api_Entry)) (z785 : ref12_Tape) (z786 : Int) (v783 : Value) (σ788 : Nat → Value), loopN (law17_make1_l1 t670) n (z782, z785, z786) = some y837 ∧ a = Fr 115 (upd (upd (upd (upd (upd σ788 0 (p0)) 2 (.pointer (some ⟨b576, 0, none⟩))) 3 (.pointer (some ⟨b618, 0, none⟩))) 4 (.int .i64 t670.1)) 5 (.int .i64 z786)) ∧ I.le I787 ∧ St w0 w I787 [ownS ty_api_Entry v783 z782, at_ref12_Tape p0 z785, cells b618 [.int .u8 (IntKind.u8.wrap (IntKind.i64.wrap ((1:Int) + t581.1))), .int .u8 (IntKind.u8.wrap (IntKind.i64.wrap ((1:Int) + t626.1))), .int .i64 t631.1, .int .i64 t636.1, .int .u64 (IntKind.u64.wrap t641.1), .int .u64 (IntKind.u64.wrap t646.1), .int .u64 (IntKind.u64.wrap t651.1), .int .u64 (IntKind.u64.wrap t656.1), .bool (t661.1 == (0:Int)), v783, .int .u64 (0:Int), .int .u64 (0:Int), .int .u64 (0:Int), (.slice none 0 0), .int .u64 (0:Int), .int .u64 (0:Int), .int .u64 (0:Int), (.slice none 0 0), (.slice none 0 0), (.slice none 0 0), (.slice none 0 0), .int .u64 (0:Int), .int .u64 (0:Int), .int .i64 (0:Int), .int .u64 (0:Int), .int .u64 (0:Int), (.slice none 0 0), (.slice none 0 0), .int .u8 (0:Int), .int .u64 (0:Int), .int .u64 (0:Int), .int .u64 (0:Int), .int .u64 (0:Int), .int .i64 (0:Int), .int .u64 (0:Int), .int .u64 (0:Int), .int .u64 (0:Int), (.slice none 0 0), (.slice none 0 0), (.slice none 0 0), (.slice none 0 0), (.slice none 0 0), .int .i64 (0:Int), .int .u64 (0:Int), .int .u64 (0:Int), (.slice none 0 0), (.slice none 0 0), .int .u64 (0:Int), (.slice none 0 0), .int .u64 (0:Int), .int .i64 (0:Int), .int .i64 (0:Int), .float .f64 (0:Nat), .float .f64 (0:Nat), .int .u64 (0:Int), .int .i64 (0:Int), .bool false], cells b576 [.int .u8 (0:Int), .int .u8 (0:Int), .int .i64 (0:Int), .int .i64 (0:Int), .int .u64 (0:Int), .int .u64 (0:Int), .int .u64 (0:Int), .int .u64 (0:Int), .bool false, (.slice none 0 0), .int .u64 (0:Int), .int .u64 (0:Int), .int .u64 (0:Int), (.slice none 0 0), .int .u64 (0:Int), .int .u64 (0:Int), .int .u64 (0:Int), (.slice none 0 0), (.slice none 0 0), (.slice none 0 0), (.slice none 0 0), .int .u64 (0:Int), .int .u64 (0:Int), .int .i64 (0:Int), .int .u64 (0:Int), .int .u64 (0:Int), (.slice none 0 0), (.slice none 0 0), .int .u8 (0:Int), .int .u64 (0:Int), .int .u64 (0:Int), .int .u64 (0:Int), .int .u64 (0:Int), .int .i64 (0:Int), .int .u64 (0:Int), .int .u64 (0:Int), .int .u64 (0:Int), (.slice none 0 0), (.slice none 0 0), (.slice none 0 0), (.slice none 0 0), (.slice none 0 0), .int .i64 (0:Int), .int .u64 (0:Int), .int .u64 (0:Int), (.slice none 0 0), (.slice none 0 0), .int .u64 (0:Int), (.slice none 0 0), .int .u64 (0:Int), .int .i64 (0:Int), .int .i64 (0:Int), .float .f64 (0:Nat), .float .f64 (0:Nat), .int .u64 (0:Int), .int .i64 (0:Int), .bool false]] R) n789 ⟨_, [], t670.2, (0:Int), (.slice none 0 0), _, hm, ((fr_upd (t := 0) (v := p0) rfl).trans ((fr_upd (t := 2) (v := .pointer (some ⟨b576, 0, none⟩)) rfl).trans ((fr_upd (t := 3) (v := .pointer (some ⟨b618, 0, none⟩)) rfl).trans ((fr_upd (t := 4) (v := .int .i64 t670.1) rfl).trans ((fr_upd (t := 5) (v := .int .i64 (0:Int)) rfl).trans rfl))))), (HL.le.refl _), hst⟩ ?_
   rintro n795 _ w790 ⟨I787, z782, z785, z786, v783, σ788, hm, rfl, hL791, hst⟩
   obtain ⟨n792, y793, rfl, hm, hx794⟩ := loopN_some hm
   dsimp only [law17_make1_l1] at hm
   replace hI0 := hI0.trans hL791
   replace hL839 := hL839.trans hL791
   refine wp_seq (wp_seq (wp_region_lit ?_))
   refine wv (.int .i64 z786) rfl rfl rfl ?_
   refine wv (.int .i64 t670.1) rfl rfl rfl ?_
   refine wv (.bool (decide (z786 < t670.1))) rfl rfl rfl ?_
   refine wl_nil (then_n ?_)
   refine bsplit (decide (z786 < t670.1)) (fun hc796 => ?_) (fun hc796 => ?_)
   ·skip
    replace hm := bif_t hc796 hm
    refine wp_ift (congrArg Value.bool hc796) ?_
    refine wp_skip (then_n (wp_seq (wp_block ?_)))
    refine wp_region_St hst 19 [0, 1, 2, 3, 4, 5, 6, 7, 8, 9, 10, 11, 12, 13, 14, 15, 16, 17, 18] [0, 1, 3, 0, 8, 0, 32, 96, 0, 352, 864, 0, 2912, 8184, 16376, 32767, 65535, 131071, 262143] [] rfl (by kernel_rfl) (by kernel_rfl) Try.mixed (by kernel_rfl) ?_
    refine wsr (.pointer (some ⟨b618, 1, none⟩)) 0 rfl rfl rfl (by kernel_rfl) (fun w hst => x_field rfl Try.underlying50 rfl Try.sizeOf30 rfl) ?_
    refine wsr (.pointer (some ⟨b618, 9, none⟩)) 1 rfl rfl rfl (by kernel_rfl) (fun w hst => x_field rfl Try.underlying30 rfl Try.sizeOf26 rfl) ?_
    refine wsr (v783) 2 rfl rfl rfl (by kernel_rfl) (fun w hst => x_load rfl Try.isAgg26 (hst.bc2 rfl)) ?_
    refine wsr (.int .i64 z786) 3 rfl rfl rfl (by kernel_rfl) (fun w hst => rfl) ?_
    refine wsr (.int .u64 (IntKind.u64.wrap z786)) 4 rfl rfl rfl (by kernel_rfl) (fun w hst => by kernel_rfl) ?_
    refine wsr (p0) 5 rfl rfl rfl (by kernel_rfl) (fun w hst => rfl) ?_
    refine wsr (p0) 8 rfl rfl rfl (by kernel_rfl) (fun w hst => rfl) ?_
    refine wsr (p0) 11 rfl rfl rfl (by kernel_rfl) (fun w hst => rfl) ?_
    refine ws_e1 6 (by kernel_rfl) ?_
    refine nxe [7, 9, 10, 12, 13, 14, 15, 16, 17, 18] (by kernel_rfl) rfl rfl ?_
    clear hst
    intro w hst
    replace hst := hst.pull1
    obtain ⟨t797, ht798, hm⟩ := bind_some hm
    refine we_call rfl (x_call Try.call28 rfl (vs := [p0, .int .i64 (9:Int)]) rfl) ?_
    refine (ref12_Tape_Next_ref hst.to1 ht798).mono ?_
    rintro _ w799 ⟨rfl, hst⟩
    refine ⟨_, rfl, ?_⟩
    replace hst := hst.of1
    refine ws_next (pend' := [(11, p0), (8, p0), (4, .int .u64 (IntKind.u64.wrap z786)), (3, .int .i64 z786), (2, v783), (1, .pointer (some ⟨b618, 9, none⟩)), (0, .pointer (some ⟨b618, 1, none⟩))]) hst (by kernel_rfl) (pkr rfl rfl (fun w hst => rfl) (pkr rfl rfl (fun w hst => rfl) (pkr rfl rfl (fun w hst => by kernel_rfl) (pkr rfl rfl (fun w hst => rfl) (pkr rfl rfl (fun w hst => x_load rfl Try.isAgg26 (hst.bc2 rfl)) (pkr rfl rfl (fun w hst => x_field rfl Try.underlying30 rfl Try.sizeOf26 rfl) (pkr rfl rfl (fun w hst => x_field rfl Try.underlying50 rfl Try.sizeOf30 rfl) pk_nil))))))) ?_
    refine wsr (.int .u64 (IntKind.u64.wrap t797.1)) 7 rfl rfl rfl (by kernel_rfl) (fun w hst => by kernel_rfl) ?_
    refine ws_e1 9 (by kernel_rfl) ?_
    refine nxe [10, 12, 13, 14, 15, 16, 17, 18] (by kernel_rfl) rfl rfl ?_
    clear hst
    intro w hst
    obtain ⟨t802, ht803, hm⟩ := bind_some hm
    refine we_call rfl (x_call Try.call28 rfl (vs := [p0, .int .i64 (2:Int)]) rfl) ?_
    refine (ref12_Tape_Next_ref hst.to1 ht803).mono ?_
    rintro _ w804 ⟨rfl, hst⟩
    refine ⟨_, rfl, ?_⟩
    replace hst := hst.of1
    refine ws_next (pend' := [(7, .int .u64 (IntKind.u64.wrap t797.1)), (11, p0), (4, .int .u64 (IntKind.u64.wrap z786)), (3, .int .i64 z786), (2, v783), (1, .pointer (some ⟨b618, 9, none⟩)), (0, .pointer (some ⟨b618, 1, none⟩))]) hst (by kernel_rfl) (pkr rfl rfl (fun w hst => by kernel_rfl) (pkr rfl rfl (fun w hst => rfl) (pkr rfl rfl (fun w hst => by kernel_rfl) (pkr rfl rfl (fun w hst => rfl) (pkr rfl rfl (fun w hst => x_load rfl Try.isAgg26 (hst.bc2 rfl)) (pkr rfl rfl (fun w hst => x_field rfl Try.underlying30 rfl Try.sizeOf26 rfl) (pkr rfl rfl (fun w hst => x_field rfl Try.underlying50 rfl Try.sizeOf30 rfl) pk_nil))))))) ?_
    refine wsr (.int .u8 (IntKind.u8.wrap t802.1)) 10 rfl rfl rfl (by kernel_rfl) (fun w hst => by kernel_rfl) ?_
    refine ws_e1 12 (by kernel_rfl) ?_
    refine nxe [13, 14, 15, 16, 17, 18] (by kernel_rfl) rfl rfl ?_
    clear hst
    intro w hst
    obtain ⟨t807, ht808, hm⟩ := bind_some hm
    refine we_call rfl (x_call Try.call29 rfl (vs := [p0]) rfl) ?_
    refine (ref12_Tape_Val_ref hst.to1 ht808).mono ?_
    rintro _ w809 ⟨v812, rfl, hst⟩
    refine ⟨_, rfl, ?_⟩
    replace hst := hst.of2
    refine ws_next (pend' := [(10, .int .u8 (IntKind.u8.wrap t802.1)), (7, .int .u64 (IntKind.u64.wrap t797.1)), (4, .int .u64 (IntKind.u64.wrap z786)), (3, .int .i64 z786), (2, v783), (1, .pointer (some ⟨b618, 9, none⟩)), (0, .pointer (some ⟨b618, 1, none⟩))]) hst (by kernel_rfl) (pkr rfl rfl (fun w hst => by kernel_rfl) (pkr rfl rfl (fun w hst => by kernel_rfl) (pkr rfl rfl (fun w hst => by kernel_rfl) (pkr rfl rfl (fun w hst => rfl) (pkr rfl rfl (fun w hst => x_load rfl Try.isAgg26 (hst.bc3 rfl)) (pkr rfl rfl (fun w hst => x_field rfl Try.underlying30 rfl Try.sizeOf26 rfl) (pkr rfl rfl (fun w hst => x_field rfl Try.underlying50 rfl Try.sizeOf30 rfl) pk_nil))))))) ?_
    refine wsr (.agg #[.int .u64 (IntKind.u64.wrap z786), .int .u64 (IntKind.u64.wrap t797.1), .int .u8 (IntKind.u8.wrap t802.1), v812]) 13 rfl rfl rfl (by kernel_rfl) (fun w hst => by obtain ⟨_, _, hv_, _⟩ := hst.sv0; rw [hv_]; kernel_rfl) ?_
    refine ws_e1 14 (by kernel_rfl) ?_
    refine nxe [15, 16, 17, 18] (by kernel_rfl) rfl rfl ?_
    clear hst
    intro w hst
    obtain ⟨I816, hI817, f818, hst⟩ := hst.own_fix
    replace hI0 := hI0.trans hI817
    replace hL839 := hL839.trans hI817
    replace hL791 := hL791.trans hI817
    obtain ⟨b819, w820, ew821, eb822, hst⟩ := hst.lits (E := ty_api_Entry) (xs := [({ Index := (IntKind.u64.wrap z786), Term := (IntKind.u64.wrap t797.1), Kind := (IntKind.u8.wrap t802.1), Data := t807.1 } : api_Entry)]) [[.int .u64 (IntKind.u64.wrap z786), .int .u64 (IntKind.u64.wrap t797.1), .int .u8 (IntKind.u8.wrap t802.1), v812]] 84 1 rfl (Reps.cons ⟨_, rfl, f818, one_of_sliceV (ro_sliceV f818)⟩ Reps.nil)
    refine we_run (v := (.slice (some ⟨b819, 0, none⟩) 1 1)) (w' := w820) rfl (x_als (by kernel_rfl) ew821 eb822) ?_
    refine ws_next (pend' := [(2, v783), (1, .pointer (some ⟨b618, 9, none⟩)), (0, .pointer (some ⟨b618, 1, none⟩))]) hst (by kernel_rfl) (pkr rfl rfl (fun w hst => x_load rfl Try.isAgg26 (hst.bc3 rfl)) (pkr rfl rfl (fun w hst => x_field rfl Try.underlying30 rfl Try.sizeOf26 rfl) (pkr rfl rfl (fun w hst => x_field rfl Try.underlying50 rfl Try.sizeOf30 rfl) pk_nil))) ?_
    refine ws_e1 15 (by kernel_rfl) ?_
    refine nxe [16, 17, 18] (by kernel_rfl) rfl rfl ?_
    clear hst
    intro w hst
    obtain ⟨hg824, hm⟩ := gd_some hm
    replace hst := hst.pull2
    obtain ⟨v825, w826, hr827, hst⟩ := run_append elem_26 Try.underlying26 hst hst.src1 (room_of hg824 rfl) 26
    refine we_run (v := v825) (w' := w826) rfl (x_append rfl rfl hr827) ?_
    refine ws_next (pend' := []) hst (by kernel_rfl) pk_nil ?_
    refine wsr (.pointer (some ⟨b618, 1, none⟩)) 16 rfl rfl rfl (by kernel_rfl) (fun w hst => x_field rfl Try.underlying50 rfl Try.sizeOf30 rfl) ?_
    refine wsr (.pointer (some ⟨b618, 9, none⟩)) 17 rfl rfl rfl (by kernel_rfl) (fun w hst => x_field rfl Try.underlying30 rfl Try.sizeOf26 rfl) ?_
    refine ws_e1 18 (by kernel_rfl) ?_
    refine nxe [] (by kernel_rfl) rfl rfl ?_
    clear hst
    intro w hst
    replace hst := hst.pull3
    obtain ⟨w828, hr829, hst⟩ := hst.boxStore1 (P := Try.prog) (t := 26) (cs' := [.int .u8 (IntKind.u8.wrap (IntKind.i64.wrap ((1:Int) + t581.1))), .int .u8 (IntKind.u8.wrap (IntKind.i64.wrap ((1:Int) + t626.1))), .int .i64 t631.1, .int .i64 t636.1, .int .u64 (IntKind.u64.wrap t641.1), .int .u64 (IntKind.u64.wrap t646.1), .int .u64 (IntKind.u64.wrap t651.1), .int .u64 (IntKind.u64.wrap t656.1), .bool (t661.1 == (0:Int)), v825, .int .u64 (0:Int), .int .u64 (0:Int), .int .u64 (0:Int), (.slice none 0 0), .int .u64 (0:Int), .int .u64 (0:Int), .int .u64 (0:Int), (.slice none 0 0), (.slice none 0 0), (.slice none 0 0), (.slice none 0 0), .int .u64 (0:Int), .int .u64 (0:Int), .int .i64 (0:Int), .int .u64 (0:Int), .int .u64 (0:Int), (.slice none 0 0), (.slice none 0 0), .int .u8 (0:Int), .int .u64 (0:Int), .int .u64 (0:Int), .int .u64 (0:Int), .int .u64 (0:Int), .int .i64 (0:Int), .int .u64 (0:Int), .int .u64 (0:Int), .int .u64 (0:Int), (.slice none 0 0), (.slice none 0 0), (.slice none 0 0), (.slice none 0 0), (.slice none 0 0), .int .i64 (0:Int), .int .u64 (0:Int), .int .u64 (0:Int), (.slice none 0 0), (.slice none 0 0), .int .u64 (0:Int), (.slice none 0 0), .int .u64 (0:Int), .int .i64 (0:Int), .int .i64 (0:Int), .float .f64 (0:Nat), .float .f64 (0:Nat), .int .u64 (0:Int), .int .i64 (0:Int), .bool false]) 9 v825 (one_of_sliceV hst.sv1) Try.sizeOf26 rfl rfl
    refine we_unit rfl (x_unit hr829) ?_
    refine ws_next (pend' := []) hst (by kernel_rfl) pk_nil ?_
    refine ws_nil ?_
    intro w hst
    refine blk_n (then_n (wp_region_lit ?_))
    refine wv (.int .i64 z786) rfl rfl rfl ?_
    refine wv (.int .i64 (IntKind.i64.wrap (z786 + (1:Int)))) rfl rfl rfl ?_
    refine wv (.int .i64 (IntKind.i64.wrap (z786 + (1:Int)))) rfl rfl rfl ?_
    refine wl_nil (then_n ?_)
    replace hst := hst.pull4
    replace hst := hst.pull1
    replace hst := hst.pull4
    replace hst := hst.pull3
    replace hst := hst.keep4
    obtain rfl := some_inj hm
    exact ⟨_, Nat.lt_succ_self _, _, (z782 ++ ([({ Index := (IntKind.u64.wrap z786), Term := (IntKind.u64.wrap t797.1), Kind := (IntKind.u8.wrap t802.1), Data := t807.1 } : api_Entry)])), t807.2, (IntKind.i64.wrap (z786 + (1:Int))), v825, _, hx794, ((fr_upd (t := 0) (v := p0) rfl).trans ((fr_upd (t := 2) (v := .pointer (some ⟨b576, 0, none⟩)) rfl).trans ((fr_upd (t := 3) (v := .pointer (some ⟨b618, 0, none⟩)) rfl).trans ((fr_upd (t := 4) (v := .int .i64 t670.1) rfl).trans ((fr_upd (t := 5) (v := .int .i64 (IntKind.i64.wrap (z786 + (1:Int)))) rfl).trans rfl))))), hL791, hst⟩
   ·skip
    replace hm := bif_f hc796 hm
    refine wp_iff (congrArg Value.bool hc796) ?_
    refine wp_exit (then_x (then_x ?_))
    replace hm := inr_up hm hx794
    refine blk_x (then_n ?_)
    replace hst := hst.pull2
    replace hst := hst.pull3
    replace hst := hst.pull3
    replace hst := hst.keep4
    obtain rfl := some_inj hm
    exact ⟨_, z785, z782, v783, _, hx838, ((fr_upd (t := 0) (v := p0) rfl).trans ((fr_upd (t := 2) (v := .pointer (some ⟨b576, 0, none⟩)) rfl).trans ((fr_upd (t := 3) (v := .pointer (some ⟨b618, 0, none⟩)) rfl).trans rfl))), hL839, hst⟩
  ·skip
   clear hst
   rintro _ w840 ⟨I834, z830, z833, v832, σ835, hm, rfl, hL836, hst⟩
   dsimp only [law17_make1_j0] at hm
   replace hI0 := hI0.trans hL836
   refine wp_region_lit ?_
   refine wv (p0) rfl rfl rfl ?_
   obtain ⟨t841, ht842, hm⟩ := bind_some hm
   refine wl_call rfl rfl (x_call Try.call28 rfl (vs := [p0, .int .i64 (9:Int)]) rfl) ?_
   refine (ref12_Tape_Next_ref hst.to1 ht842).mono ?_
   rintro _ w843 ⟨rfl, hst⟩
   refine ⟨_, rfl, ?_⟩
   replace hst := hst.of1
   refine wv (.int .u64 (IntKind.u64.wrap t841.1)) rfl rfl (by kernel_rfl) ?_
   refine wv (p0) rfl rfl rfl ?_
   obtain ⟨t846, ht847, hm⟩ := bind_some hm
   refine wl_call rfl rfl (x_call Try.call28 rfl (vs := [p0, .int .i64 (9:Int)]) rfl) ?_
   refine (ref12_Tape_Next_ref hst.to1 ht847).mono ?_
   rintro _ w848 ⟨rfl, hst⟩
   refine ⟨_, rfl, ?_⟩
   replace hst := hst.of1
   refine wv (.int .u64 (IntKind.u64.wrap t846.1)) rfl rfl (by kernel_rfl) ?_
   refine wv (p0) rfl rfl rfl ?_
   obtain ⟨t851, ht852, hm⟩ := bind_some hm
   refine wl_call rfl rfl (x_call Try.call28 rfl (vs := [p0, .int .i64 (9:Int)]) rfl) ?_
   refine (ref12_Tape_Next_ref hst.to1 ht852).mono ?_
   rintro _ w853 ⟨rfl, hst⟩
   refine ⟨_, rfl, ?_⟩
   replace hst := hst.of1
   refine wv (.int .u64 (IntKind.u64.wrap t851.1)) rfl rfl (by kernel_rfl) ?_
   refine wv (p0) rfl rfl rfl ?_
   obtain ⟨t856, ht857, hm⟩ := bind_some hm
   refine wl_call rfl rfl (x_call Try.call29 rfl (vs := [p0]) rfl) ?_
   refine (ref12_Tape_Val_ref hst.to1 ht857).mono ?_
   rintro _ w858 ⟨v861, rfl, hst⟩
   refine ⟨_, rfl, ?_⟩
   replace hst := hst.of2
   refine wv (.agg #[.int .u64 (IntKind.u64.wrap t841.1), .int .u64 (IntKind.u64.wrap t846.1), .int .u64 (IntKind.u64.wrap t851.1), v861]) rfl rfl (by obtain ⟨_, _, hv_, _⟩ := hst.sv0; rw [hv_]; kernel_rfl) ?_
   refine wv (.pointer (some ⟨b618, 1, none⟩)) rfl rfl (x_field rfl Try.underlying50 rfl Try.sizeOf30 rfl) ?_
   refine wv (.pointer (some ⟨b618, 10, none⟩)) rfl rfl (x_field rfl Try.underlying30 rfl Try.sizeOf28 rfl) ?_
   replace hst := hst.pull3
   obtain ⟨w864, hr865, hst⟩ := hst.boxStore (P := Try.prog) (t := 28) (cs' := [.int .u8 (IntKind.u8.wrap (IntKind.i64.wrap ((1:Int) + t581.1))), .int .u8 (IntKind.u8.wrap (IntKind.i64.wrap ((1:Int) + t626.1))), .int .i64 t631.1, .int .i64 t636.1, .int .u64 (IntKind.u64.wrap t641.1), .int .u64 (IntKind.u64.wrap t646.1), .int .u64 (IntKind.u64.wrap t651.1), .int .u64 (IntKind.u64.wrap t656.1), .bool (t661.1 == (0:Int)), v832, .int .u64 (IntKind.u64.wrap t841.1), .int .u64 (IntKind.u64.wrap t846.1), .int .u64 (IntKind.u64.wrap t851.1), v861, .int .u64 (0:Int), .int .u64 (0:Int), .int .u64 (0:Int), (.slice none 0 0), (.slice none 0 0), (.slice none 0 0), (.slice none 0 0), .int .u64 (0:Int), .int .u64 (0:Int), .int .i64 (0:Int), .int .u64 (0:Int), .int .u64 (0:Int), (.slice none 0 0), (.slice none 0 0), .int .u8 (0:Int), .int .u64 (0:Int), .int .u64 (0:Int), .int .u64 (0:Int), .int .u64 (0:Int), .int .i64 (0:Int), .int .u64 (0:Int), .int .u64 (0:Int), .int .u64 (0:Int), (.slice none 0 0), (.slice none 0 0), (.slice none 0 0), (.slice none 0 0), (.slice none 0 0), .int .i64 (0:Int), .int .u64 (0:Int), .int .u64 (0:Int), (.slice none 0 0), (.slice none 0 0), .int .u64 (0:Int), (.slice none 0 0), .int .u64 (0:Int), .int .i64 (0:Int), .int .i64 (0:Int), .float .f64 (0:Nat), .float .f64 (0:Nat), .int .u64 (0:Int), .int .i64 (0:Int), .bool false]) 10 (.agg #[.int .u64 (IntKind.u64.wrap t841.1), .int .u64 (IntKind.u64.wrap t846.1), .int .u64 (IntKind.u64.wrap t851.1), v861]) Try.sizeOf28 (Nat.le_of_ble_eq_true rfl) (ones_cons rfl (ones_cons rfl (ones_cons rfl (ones_cons (one_of_sliceV hst.sv1) ones_nil)))) (by kernel_rfl)
   refine wl_unit rfl rfl (x_unit hr865) ?_
   refine wl_nil (blk_n (then_n (wp_seq (wp_region_lit ?_))))
   refine wv (.agg #[.int .u8 (IntKind.u8.wrap (IntKind.i64.wrap ((1:Int) + t581.1))), .int .u8 (IntKind.u8.wrap (IntKind.i64.wrap ((1:Int) + t626.1))), .int .i64 t631.1, .int .i64 t636.1, .int .u64 (IntKind.u64.wrap t641.1), .int .u64 (IntKind.u64.wrap t646.1), .int .u64 (IntKind.u64.wrap t651.1), .int .u64 (IntKind.u64.wrap t656.1), .bool (t661.1 == (0:Int)), v832, .int .u64 (IntKind.u64.wrap t841.1), .int .u64 (IntKind.u64.wrap t846.1), .int .u64 (IntKind.u64.wrap t851.1), v861, .int .u64 (0:Int), .int .u64 (0:Int), .int .u64 (0:Int), (.slice none 0 0), (.slice none 0 0), (.slice none 0 0), (.slice none 0 0), .int .u64 (0:Int), .int .u64 (0:Int), .int .i64 (0:Int), .int .u64 (0:Int), .int .u64 (0:Int), (.slice none 0 0), (.slice none 0 0), .int .u8 (0:Int), .int .u64 (0:Int), .int .u64 (0:Int), .int .u64 (0:Int), .int .u64 (0:Int), .int .i64 (0:Int), .int .u64 (0:Int), .int .u64 (0:Int), .int .u64 (0:Int), (.slice none 0 0), (.slice none 0 0), (.slice none 0 0), (.slice none 0 0), (.slice none 0 0), .int .i64 (0:Int), .int .u64 (0:Int), .int .u64 (0:Int), (.slice none 0 0), (.slice none 0 0), .int .u64 (0:Int), (.slice none 0 0), .int .u64 (0:Int), .int .i64 (0:Int), .int .i64 (0:Int), .float .f64 (0:Nat), .float .f64 (0:Nat), .int .u64 (0:Int), .int .i64 (0:Int), .bool false]) rfl rfl (x_loadN (cs := [.int .u8 (IntKind.u8.wrap (IntKind.i64.wrap ((1:Int) + t581.1))), .int .u8 (IntKind.u8.wrap (IntKind.i64.wrap ((1:Int) + t626.1))), .int .i64 t631.1, .int .i64 t636.1, .int .u64 (IntKind.u64.wrap t641.1), .int .u64 (IntKind.u64.wrap t646.1), .int .u64 (IntKind.u64.wrap t651.1), .int .u64 (IntKind.u64.wrap t656.1), .bool (t661.1 == (0:Int)), v832, .int .u64 (IntKind.u64.wrap t841.1), .int .u64 (IntKind.u64.wrap t846.1), .int .u64 (IntKind.u64.wrap t851.1), v861, .int .u64 (0:Int), .int .u64 (0:Int), .int .u64 (0:Int), (.slice none 0 0), (.slice none 0 0), (.slice none 0 0), (.slice none 0 0), .int .u64 (0:Int), .int .u64 (0:Int), .int .i64 (0:Int), .int .u64 (0:Int), .int .u64 (0:Int), (.slice none 0 0), (.slice none 0 0), .int .u8 (0:Int), .int .u64 (0:Int), .int .u64 (0:Int), .int .u64 (0:Int), .int .u64 (0:Int), .int .i64 (0:Int), .int .u64 (0:Int), .int .u64 (0:Int), .int .u64 (0:Int), (.slice none 0 0), (.slice none 0 0), (.slice none 0 0), (.slice none 0 0), (.slice none 0 0), .int .i64 (0:Int), .int .u64 (0:Int), .int .u64 (0:Int), (.slice none 0 0), (.slice none 0 0), .int .u64 (0:Int), (.slice none 0 0), .int .u64 (0:Int), .int .i64 (0:Int), .int .i64 (0:Int), .float .f64 (0:Nat), .float .f64 (0:Nat), .int .u64 (0:Int), .int .i64 (0:Int), .bool false]) rfl Try.isAgg50 Try.sizeOf50 (hst.bcs0 0 rfl)) ?_
   replace hst := hst.pull3
   obtain ⟨w866, hr867, hst⟩ := hst.boxStore (P := Try.prog) (t := 50) (cs' := [.int .u8 (IntKind.u8.wrap (IntKind.i64.wrap ((1:Int) + t581.1))), .int .u8 (IntKind.u8.wrap (IntKind.i64.wrap ((1:Int) + t626.1))), .int .i64 t631.1, .int .i64 t636.1, .int .u64 (IntKind.u64.wrap t641.1), .int .u64 (IntKind.u64.wrap t646.1), .int .u64 (IntKind.u64.wrap t651.1), .int .u64 (IntKind.u64.wrap t656.1), .bool (t661.1 == (0:Int)), v832, .int .u64 (IntKind.u64.wrap t841.1), .int .u64 (IntKind.u64.wrap t846.1), .int .u64 (IntKind.u64.wrap t851.1), v861, .int .u64 (0:Int), .int .u64 (0:Int), .int .u64 (0:Int), (.slice none 0 0), (.slice none 0 0), (.slice none 0 0), (.slice none 0 0), .int .u64 (0:Int), .int .u64 (0:Int), .int .i64 (0:Int), .int .u64 (0:Int), .int .u64 (0:Int), (.slice none 0 0), (.slice none 0 0), .int .u8 (0:Int), .int .u64 (0:Int), .int .u64 (0:Int), .int .u64 (0:Int), .int .u64 (0:Int), .int .i64 (0:Int), .int .u64 (0:Int), .int .u64 (0:Int), .int .u64 (0:Int), (.slice none 0 0), (.slice none 0 0), (.slice none 0 0), (.slice none 0 0), (.slice none 0 0), .int .i64 (0:Int), .int .u64 (0:Int), .int .u64 (0:Int), (.slice none 0 0), (.slice none 0 0), .int .u64 (0:Int), (.slice none 0 0), .int .u64 (0:Int), .int .i64 (0:Int), .int .i64 (0:Int), .float .f64 (0:Nat), .float .f64 (0:Nat), .int .u64 (0:Int), .int .i64 (0:Int), .bool false]) 0 (.agg #[.int .u8 (IntKind.u8.wrap (IntKind.i64.wrap ((1:Int) + t581.1))), .int .u8 (IntKind.u8.wrap (IntKind.i64.wrap ((1:Int) + t626.1))), .int .i64 t631.1, .int .i64 t636.1, .int .u64 (IntKind.u64.wrap t641.1), .int .u64 (IntKind.u64.wrap t646.1), .int .u64 (IntKind.u64.wrap t651.1), .int .u64 (IntKind.u64.wrap t656.1), .bool (t661.1 == (0:Int)), v832, .int .u64 (IntKind.u64.wrap t841.1), .int .u64 (IntKind.u64.wrap t846.1), .int .u64 (IntKind.u64.wrap t851.1), v861, .int .u64 (0:Int), .int .u64 (0:Int), .int .u64 (0:Int), (.slice none 0 0), (.slice none 0 0), (.slice none 0 0), (.slice none 0 0), .int .u64 (0:Int), .int .u64 (0:Int), .int .i64 (0:Int), .int .u64 (0:Int), .int .u64 (0:Int), (.slice none 0 0), (.slice none 0 0), .int .u8 (0:Int), .int .u64 (0:Int), .int .u64 (0:Int), .int .u64 (0:Int), .int .u64 (0:Int), .int .i64 (0:Int), .int .u64 (0:Int), .int .u64 (0:Int), .int .u64 (0:Int), (.slice none 0 0), (.slice none 0 0), (.slice none 0 0), (.slice none 0 0), (.slice none 0 0), .int .i64 (0:Int), .int .u64 (0:Int), .int .u64 (0:Int), (.slice none 0 0), (.slice none 0 0), .int .u64 (0:Int), (.slice none 0 0), .int .u64 (0:Int), .int .i64 (0:Int), .int .i64 (0:Int), .float .f64 (0:Nat), .float .f64 (0:Nat), .int .u64 (0:Int), .int .i64 (0:Int), .bool false]) Try.sizeOf50 (Nat.le_of_ble_eq_true rfl) (ones_cons rfl (ones_cons rfl (ones_cons rfl (ones_cons rfl (ones_cons rfl (ones_cons rfl (ones_cons rfl (ones_cons rfl (ones_cons rfl (ones_cons (one_of_sliceV hst.sv4) (ones_cons rfl (ones_cons rfl (ones_cons rfl (ones_cons (one_of_sliceV hst.sv2) (ones_cons rfl (ones_cons rfl (ones_cons rfl (ones_cons rfl (ones_cons rfl (ones_cons rfl (ones_cons rfl (ones_cons rfl (ones_cons rfl (ones_cons rfl (ones_cons rfl (ones_cons rfl (ones_cons rfl (ones_cons rfl (ones_cons rfl (ones_cons rfl (ones_cons rfl (ones_cons rfl (ones_cons rfl (ones_cons rfl (ones_cons rfl (ones_cons rfl (ones_cons rfl (ones_cons rfl (ones_cons rfl (ones_cons rfl (ones_cons rfl (ones_cons rfl (ones_cons rfl (ones_cons rfl (ones_cons rfl (ones_cons rfl (ones_cons rfl (ones_cons rfl (ones_cons rfl (ones_cons rfl (ones_cons rfl (ones_cons rfl (ones_cons rfl (ones_cons rfl (ones_cons rfl (ones_cons rfl (ones_cons rfl ones_nil))))))))))))))))))))))))))))))))))))))))))))))))))))))))) (by kernel_rfl)
   refine wl_unit rfl rfl (x_unit hr867) ?_
   refine wl_nil (then_n (wp_ret ?_))
   replace hst := hst.own_nil tyF64
   replace hst := hst.own_nil tyF2
   replace hst := hst.own_nil tyF64
   replace hst := hst.own_nil (tyInt .u8)
   replace hst := hst.own_nil ty_api_Got
   replace hst := hst.own_nil (tySl ty_api_Pair)
   replace hst := hst.own_nil tyF64
   replace hst := hst.own_nil tyF2
   replace hst := hst.own_nil tyF64
   replace hst := hst.own_nil (tyInt .u8)
   replace hst := hst.own_nil ty_api_Write
   replace hst := hst.own_nil ty_api_Got
   replace hst := hst.own_nil (tySl ty_api_Pair)
   replace hst := hst.own_nil ty_api_Part
   obtain rfl := some_inj hm
   refine post_ret (vs := [.agg #[.int .u8 (IntKind.u8.wrap (IntKind.i64.wrap ((1:Int) + t581.1))), .int .u8 (IntKind.u8.wrap (IntKind.i64.wrap ((1:Int) + t626.1))), .int .i64 t631.1, .int .i64 t636.1, .int .u64 (IntKind.u64.wrap t641.1), .int .u64 (IntKind.u64.wrap t646.1), .int .u64 (IntKind.u64.wrap t651.1), .int .u64 (IntKind.u64.wrap t656.1), .bool (t661.1 == (0:Int)), v832, .int .u64 (IntKind.u64.wrap t841.1), .int .u64 (IntKind.u64.wrap t846.1), .int .u64 (IntKind.u64.wrap t851.1), v861, .int .u64 (0:Int), .int .u64 (0:Int), .int .u64 (0:Int), (.slice none 0 0), (.slice none 0 0), (.slice none 0 0), (.slice none 0 0), .int .u64 (0:Int), .int .u64 (0:Int), .int .i64 (0:Int), .int .u64 (0:Int), .int .u64 (0:Int), (.slice none 0 0), (.slice none 0 0), .int .u8 (0:Int), .int .u64 (0:Int), .int .u64 (0:Int), .int .u64 (0:Int), .int .u64 (0:Int), .int .i64 (0:Int), .int .u64 (0:Int), .int .u64 (0:Int), .int .u64 (0:Int), (.slice none 0 0), (.slice none 0 0), (.slice none 0 0), (.slice none 0 0), (.slice none 0 0), .int .i64 (0:Int), .int .u64 (0:Int), .int .u64 (0:Int), (.slice none 0 0), (.slice none 0 0), .int .u64 (0:Int), (.slice none 0 0), .int .u64 (0:Int), .int .i64 (0:Int), .int .i64 (0:Int), .float .f64 (0:Nat), .float .f64 (0:Nat), .int .u64 (0:Int), .int .i64 (0:Int), .bool false]]) Try.results9 (rvs_cons (rv_cell (cs := [.int .u8 (IntKind.u8.wrap (IntKind.i64.wrap ((1:Int) + t581.1))), .int .u8 (IntKind.u8.wrap (IntKind.i64.wrap ((1:Int) + t626.1))), .int .i64 t631.1, .int .i64 t636.1, .int .u64 (IntKind.u64.wrap t641.1), .int .u64 (IntKind.u64.wrap t646.1), .int .u64 (IntKind.u64.wrap t651.1), .int .u64 (IntKind.u64.wrap t656.1), .bool (t661.1 == (0:Int)), v832, .int .u64 (IntKind.u64.wrap t841.1), .int .u64 (IntKind.u64.wrap t846.1), .int .u64 (IntKind.u64.wrap t851.1), v861, .int .u64 (0:Int), .int .u64 (0:Int), .int .u64 (0:Int), (.slice none 0 0), (.slice none 0 0), (.slice none 0 0), (.slice none 0 0), .int .u64 (0:Int), .int .u64 (0:Int), .int .i64 (0:Int), .int .u64 (0:Int), .int .u64 (0:Int), (.slice none 0 0), (.slice none 0 0), .int .u8 (0:Int), .int .u64 (0:Int), .int .u64 (0:Int), .int .u64 (0:Int), .int .u64 (0:Int), .int .i64 (0:Int), .int .u64 (0:Int), .int .u64 (0:Int), .int .u64 (0:Int), (.slice none 0 0), (.slice none 0 0), (.slice none 0 0), (.slice none 0 0), (.slice none 0 0), .int .i64 (0:Int), .int .u64 (0:Int), .int .u64 (0:Int), (.slice none 0 0), (.slice none 0 0), .int .u64 (0:Int), (.slice none 0 0), .int .u64 (0:Int), .int .i64 (0:Int), .int .i64 (0:Int), .float .f64 (0:Nat), .float .f64 (0:Nat), .int .u64 (0:Int), .int .i64 (0:Int), .bool false]) rfl Try.isAgg50 Try.sizeOf50 (hst.bcs14 0 rfl)) rvs_nil) ?_
   replace hst := hst.pull17
   replace hst := hst.pull1
   replace hst := hst.pull2
   replace hst := hst.pull3
   replace hst := hst.pull4
   replace hst := hst.pull5
   replace hst := hst.pull6
   replace hst := hst.pull7
   replace hst := hst.pull8
   replace hst := hst.pull9
   replace hst := hst.pull10
   replace hst := hst.pull11
   replace hst := hst.pull12
   replace hst := hst.pull13
   replace hst := hst.pull14
   replace hst := hst.pull17
   replace hst := hst.pull18
   exact ⟨_, v832, v861, (.slice none 0 0), (.slice none 0 0), (.slice none 0 0), (.slice none 0 0), (.slice none 0 0), (.slice none 0 0), (.slice none 0 0), (.slice none 0 0), (.slice none 0 0), (.slice none 0 0), (.slice none 0 0), (.slice none 0 0), (.slice none 0 0), (.slice none 0 0), rfl, hI0, hst.keep17⟩
 ·skip
  replace hm := bif_f hc625 hm
  refine wp_iff (congrArg Value.bool hc625) ?_
  obtain ⟨y872, hm, hx873⟩ := bind_some hm
  refine wp_cut (fun a w => ∃ (z869 : Bool) (σ870 : Nat → Value), (law17_make1_j2 t581) z869 = some r ∧ a = Fr 115 (upd (upd (upd (upd (upd σ870 0 (p0)) 2 (.pointer (some ⟨b576, 0, none⟩))) 3 (.pointer (some ⟨b618, 0, none⟩))) 12 (.int .u8 (IntKind.u8.wrap (IntKind.i64.wrap ((1:Int) + t581.1))))) 79 (.bool z869)) ∧ St w0 w I [at_ref12_Tape p0 t581.2, cells b576 [.int .u8 (0:Int), .int .u8 (0:Int), .int .i64 (0:Int), .int .i64 (0:Int), .int .u64 (0:Int), .int .u64 (0:Int), .int .u64 (0:Int), .int .u64 (0:Int), .bool false, (.slice none 0 0), .int .u64 (0:Int), .int .u64 (0:Int), .int .u64 (0:Int), (.slice none 0 0), .int .u64 (0:Int), .int .u64 (0:Int), .int .u64 (0:Int), (.slice none 0 0), (.slice none 0 0), (.slice none 0 0), (.slice none 0 0), .int .u64 (0:Int), .int .u64 (0:Int), .int .i64 (0:Int), .int .u64 (0:Int), .int .u64 (0:Int), (.slice none 0 0), (.slice none 0 0), .int .u8 (0:Int), .int .u64 (0:Int), .int .u64 (0:Int), .int .u64 (0:Int), .int .u64 (0:Int), .int .i64 (0:Int), .int .u64 (0:Int), .int .u64 (0:Int), .int .u64 (0:Int), (.slice none 0 0), (.slice none 0 0), (.slice none 0 0), (.slice none 0 0), (.slice none 0 0), .int .i64 (0:Int), .int .u64 (0:Int), .int .u64 (0:Int), (.slice none 0 0), (.slice none 0 0), .int .u64 (0:Int), (.slice none 0 0), .int .u64 (0:Int), .int .i64 (0:Int), .int .i64 (0:Int), .float .f64 (0:Nat), .float .f64 (0:Nat), .int .u64 (0:Int), .int .i64 (0:Int), .bool false], cells b618 [.int .u8 (IntKind.u8.wrap (IntKind.i64.wrap ((1:Int) + t581.1))), .int .u8 (0:Int), .int .i64 (0:Int), .int .i64 (0:Int), .int .u64 (0:Int), .int .u64 (0:Int), .int .u64 (0:Int), .int .u64 (0:Int), .bool false, (.slice none 0 0), .int .u64 (0:Int), .int .u64 (0:Int), .int .u64 (0:Int), (.slice none 0 0), .int .u64 (0:Int), .int .u64 (0:Int), .int .u64 (0:Int), (.slice none 0 0), (.slice none 0 0), (.slice none 0 0), (.slice none 0 0), .int .u64 (0:Int), .int .u64 (0:Int), .int .i64 (0:Int), .int .u64 (0:Int), .int .u64 (0:Int), (.slice none 0 0), (.slice none 0 0), .int .u8 (0:Int), .int .u64 (0:Int), .int .u64 (0:Int), .int .u64 (0:Int), .int .u64 (0:Int), .int .i64 (0:Int), .int .u64 (0:Int), .int .u64 (0:Int), .int .u64 (0:Int), (.slice none 0 0), (.slice none 0 0), (.slice none 0 0), (.slice none 0 0), (.slice none 0 0), .int .i64 (0:Int), .int .u64 (0:Int), .int .u64 (0:Int), (.slice none 0 0), (.slice none 0 0), .int .u64 (0:Int), (.slice none 0 0), .int .u64 (0:Int), .int .i64 (0:Int), .int .i64 (0:Int), .float .f64 (0:Nat), .float .f64 (0:Nat), .int .u64 (0:Int), .int .i64 (0:Int), .bool false]] R) ?_ ?_
  ·skip
   refine wp_seq (wp_region_lit ?_)
   refine wv (.bool ((IntKind.u8.wrap (IntKind.i64.wrap ((1:Int) + t581.1))) == (2:Int))) rfl rfl rfl ?_
   refine wv (.bool ((IntKind.u8.wrap (IntKind.i64.wrap ((1:Int) + t581.1))) == (2:Int))) rfl rfl rfl ?_
   refine wl_nil (then_n ?_)
   refine bsplit ((IntKind.u8.wrap (IntKind.i64.wrap ((1:Int) + t581.1))) == (2:Int)) (fun hc868 => ?_) (fun hc868 => ?_)
   ·skip
    replace hm := bif_t hc868 hm
    refine wp_ift (congrArg Value.bool hc868) ?_
    refine wp_skip (then_n ?_)
    replace hst := hst.pull2
    replace hst := hst.pull2
    replace hst := hst.keep3
    obtain rfl := some_inj hm
    exact ⟨((IntKind.u8.wrap (IntKind.i64.wrap ((1:Int) + t581.1))) == (2:Int)), _, hx873, ((fr_upd (t := 0) (v := p0) rfl).trans ((fr_upd (t := 2) (v := .pointer (some ⟨b576, 0, none⟩)) rfl).trans ((fr_upd (t := 3) (v := .pointer (some ⟨b618, 0, none⟩)) rfl).trans ((fr_upd (t := 12) (v := .int .u8 (IntKind.u8.wrap (IntKind.i64.wrap ((1:Int) + t581.1)))) rfl).trans ((fr_upd (t := 79) (v := .bool ((IntKind.u8.wrap (IntKind.i64.wrap ((1:Int) + t581.1))) == (2:Int))) rfl).trans rfl))))), hst⟩
   ·skip
    replace hm := bif_f hc868 hm
    refine wp_iff (congrArg Value.bool hc868) ?_
    refine wp_region_lit ?_
    refine wv (.bool ((IntKind.u8.wrap (IntKind.i64.wrap ((1:Int) + t581.1))) == (6:Int))) rfl rfl rfl ?_
    refine wv (.bool ((IntKind.u8.wrap (IntKind.i64.wrap ((1:Int) + t581.1))) == (6:Int))) rfl rfl rfl ?_
    refine wl_nil (then_n ?_)
    replace hst := hst.pull2
    replace hst := hst.pull2
    replace hst := hst.keep3
    obtain rfl := some_inj hm
    exact ⟨((IntKind.u8.wrap (IntKind.i64.wrap ((1:Int) + t581.1))) == (6:Int)), _, hx873, ((fr_upd (t := 0) (v := p0) rfl).trans ((fr_upd (t := 2) (v := .pointer (some ⟨b576, 0, none⟩)) rfl).trans ((fr_upd (t := 3) (v := .pointer (some ⟨b618, 0, none⟩)) rfl).trans ((fr_upd (t := 12) (v := .int .u8 (IntKind.u8.wrap (IntKind.i64.wrap ((1:Int) + t581.1)))) rfl).trans ((fr_upd (t := 79) (v := .bool ((IntKind.u8.wrap (IntKind.i64.wrap ((1:Int) + t581.1))) == (6:Int))) rfl).trans rfl))))), hst⟩
  ·skip
   clear hst
   rintro _ w874 ⟨z869, σ870, hm, rfl, hst⟩
   dsimp only [law17_make1_j2] at hm
   refine bsplit z869 (fun hc875 => ?_) (fun hc875 => ?_)
   ·skip
    replace hm := bif_t hc875 hm
    refine wp_ift (congrArg Value.bool hc875) ?_
    refine wp_region_lit ?_
    refine wv (p0) rfl rfl rfl ?_
    obtain ⟨t876, ht877, hm⟩ := bind_some hm
    refine wl_call rfl rfl (x_call Try.call30 rfl (vs := [p0]) rfl) ?_
    refine (ref12_Tape_Hold_ref hst.to1 ht877).mono ?_
    rintro _ w878 ⟨v881, v883, v885, v887, rfl, hst⟩
    refine ⟨_, rfl, ?_⟩
    replace hst := hst.of5
    refine wv (.pointer (some ⟨b618, 14, none⟩)) rfl rfl (x_field rfl Try.underlying50 rfl Try.sizeOf36 rfl) ?_
    replace hst := hst.pull6
    obtain ⟨w889, hr890, hst⟩ := hst.boxStore (P := Try.prog) (t := 36) (cs' := [.int .u8 (IntKind.u8.wrap (IntKind.i64.wrap ((1:Int) + t581.1))), .int .u8 (0:Int), .int .i64 (0:Int), .int .i64 (0:Int), .int .u64 (0:Int), .int .u64 (0:Int), .int .u64 (0:Int), .int .u64 (0:Int), .bool false, (.slice none 0 0), .int .u64 (0:Int), .int .u64 (0:Int), .int .u64 (0:Int), (.slice none 0 0), .int .u64 t876.1.ID.Session, .int .u64 t876.1.ID.Seq, .int .u64 t876.1.Epoch, v881, v883, v885, v887, .int .u64 (0:Int), .int .u64 (0:Int), .int .i64 (0:Int), .int .u64 (0:Int), .int .u64 (0:Int), (.slice none 0 0), (.slice none 0 0), .int .u8 (0:Int), .int .u64 (0:Int), .int .u64 (0:Int), .int .u64 (0:Int), .int .u64 (0:Int), .int .i64 (0:Int), .int .u64 (0:Int), .int .u64 (0:Int), .int .u64 (0:Int), (.slice none 0 0), (.slice none 0 0), (.slice none 0 0), (.slice none 0 0), (.slice none 0 0), .int .i64 (0:Int), .int .u64 (0:Int), .int .u64 (0:Int), (.slice none 0 0), (.slice none 0 0), .int .u64 (0:Int), (.slice none 0 0), .int .u64 (0:Int), .int .i64 (0:Int), .int .i64 (0:Int), .float .f64 (0:Nat), .float .f64 (0:Nat), .int .u64 (0:Int), .int .i64 (0:Int), .bool false]) 14 (.agg #[.int .u64 t876.1.ID.Session, .int .u64 t876.1.ID.Seq, .int .u64 t876.1.Epoch, v881, v883, v885, v887]) Try.sizeOf36 (Nat.le_of_ble_eq_true rfl) (ones_cons rfl (ones_cons rfl (ones_cons rfl (ones_cons (one_of_sliceV hst.sv1) (ones_cons (one_of_sliceV hst.sv2) (ones_cons (one_of_sliceV hst.sv3) (ones_cons (one_of_sliceV hst.sv4) ones_nil))))))) (by kernel_rfl)
    refine wl_unit rfl rfl (x_unit hr890) ?_
    refine wl_nil (blk_n (then_n (wp_seq (wp_region_lit ?_))))
    refine wv (.agg #[.int .u8 (IntKind.u8.wrap (IntKind.i64.wrap ((1:Int) + t581.1))), .int .u8 (0:Int), .int .i64 (0:Int), .int .i64 (0:Int), .int .u64 (0:Int), .int .u64 (0:Int), .int .u64 (0:Int), .int .u64 (0:Int), .bool false, (.slice none 0 0), .int .u64 (0:Int), .int .u64 (0:Int), .int .u64 (0:Int), (.slice none 0 0), .int .u64 t876.1.ID.Session, .int .u64 t876.1.ID.Seq, .int .u64 t876.1.Epoch, v881, v883, v885, v887, .int .u64 (0:Int), .int .u64 (0:Int), .int .i64 (0:Int), .int .u64 (0:Int), .int .u64 (0:Int), (.slice none 0 0), (.slice none 0 0), .int .u8 (0:Int), .int .u64 (0:Int), .int .u64 (0:Int), .int .u64 (0:Int), .int .u64 (0:Int), .int .i64 (0:Int), .int .u64 (0:Int), .int .u64 (0:Int), .int .u64 (0:Int), (.slice none 0 0), (.slice none 0 0), (.slice none 0 0), (.slice none 0 0), (.slice none 0 0), .int .i64 (0:Int), .int .u64 (0:Int), .int .u64 (0:Int), (.slice none 0 0), (.slice none 0 0), .int .u64 (0:Int), (.slice none 0 0), .int .u64 (0:Int), .int .i64 (0:Int), .int .i64 (0:Int), .float .f64 (0:Nat), .float .f64 (0:Nat), .int .u64 (0:Int), .int .i64 (0:Int), .bool false]) rfl rfl (x_loadN (cs := [.int .u8 (IntKind.u8.wrap (IntKind.i64.wrap ((1:Int) + t581.1))), .int .u8 (0:Int), .int .i64 (0:Int), .int .i64 (0:Int), .int .u64 (0:Int), .int .u64 (0:Int), .int .u64 (0:Int), .int .u64 (0:Int), .bool false, (.slice none 0 0), .int .u64 (0:Int), .int .u64 (0:Int), .int .u64 (0:Int), (.slice none 0 0), .int .u64 t876.1.ID.Session, .int .u64 t876.1.ID.Seq, .int .u64 t876.1.Epoch, v881, v883, v885, v887, .int .u64 (0:Int), .int .u64 (0:Int), .int .i64 (0:Int), .int .u64 (0:Int), .int .u64 (0:Int), (.slice none 0 0), (.slice none 0 0), .int .u8 (0:Int), .int .u64 (0:Int), .int .u64 (0:Int), .int .u64 (0:Int), .int .u64 (0:Int), .int .i64 (0:Int), .int .u64 (0:Int), .int .u64 (0:Int), .int .u64 (0:Int), (.slice none 0 0), (.slice none 0 0), (.slice none 0 0), (.slice none 0 0), (.slice none 0 0), .int .i64 (0:Int), .int .u64 (0:Int), .int .u64 (0:Int), (.slice none 0 0), (.slice none 0 0), .int .u64 (0:Int), (.slice none 0 0), .int .u64 (0:Int), .int .i64 (0:Int), .int .i64 (0:Int), .float .f64 (0:Nat), .float .f64 (0:Nat), .int .u64 (0:Int), .int .i64 (0:Int), .bool false]) rfl Try.isAgg50 Try.sizeOf50 (hst.bcs0 0 rfl)) ?_
    replace hst := hst.pull6
    obtain ⟨w891, hr892, hst⟩ := hst.boxStore (P := Try.prog) (t := 50) (cs' := [.int .u8 (IntKind.u8.wrap (IntKind.i64.wrap ((1:Int) + t581.1))), .int .u8 (0:Int), .int .i64 (0:Int), .int .i64 (0:Int), .int .u64 (0:Int), .int .u64 (0:Int), .int .u64 (0:Int), .int .u64 (0:Int), .bool false, (.slice none 0 0), .int .u64 (0:Int), .int .u64 (0:Int), .int .u64 (0:Int), (.slice none 0 0), .int .u64 t876.1.ID.Session, .int .u64 t876.1.ID.Seq, .int .u64 t876.1.Epoch, v881, v883, v885, v887, .int .u64 (0:Int), .int .u64 (0:Int), .int .i64 (0:Int), .int .u64 (0:Int), .int .u64 (0:Int), (.slice none 0 0), (.slice none 0 0), .int .u8 (0:Int), .int .u64 (0:Int), .int .u64 (0:Int), .int .u64 (0:Int), .int .u64 (0:Int), .int .i64 (0:Int), .int .u64 (0:Int), .int .u64 (0:Int), .int .u64 (0:Int), (.slice none 0 0), (.slice none 0 0), (.slice none 0 0), (.slice none 0 0), (.slice none 0 0), .int .i64 (0:Int), .int .u64 (0:Int), .int .u64 (0:Int), (.slice none 0 0), (.slice none 0 0), .int .u64 (0:Int), (.slice none 0 0), .int .u64 (0:Int), .int .i64 (0:Int), .int .i64 (0:Int), .float .f64 (0:Nat), .float .f64 (0:Nat), .int .u64 (0:Int), .int .i64 (0:Int), .bool false]) 0 (.agg #[.int .u8 (IntKind.u8.wrap (IntKind.i64.wrap ((1:Int) + t581.1))), .int .u8 (0:Int), .int .i64 (0:Int), .int .i64 (0:Int), .int .u64 (0:Int), .int .u64 (0:Int), .int .u64 (0:Int), .int .u64 (0:Int), .bool false, (.slice none 0 0), .int .u64 (0:Int), .int .u64 (0:Int), .int .u64 (0:Int), (.slice none 0 0), .int .u64 t876.1.ID.Session, .int .u64 t876.1.ID.Seq, .int .u64 t876.1.Epoch, v881, v883, v885, v887, .int .u64 (0:Int), .int .u64 (0:Int), .int .i64 (0:Int), .int .u64 (0:Int), .int .u64 (0:Int), (.slice none 0 0), (.slice none 0 0), .int .u8 (0:Int), .int .u64 (0:Int), .int .u64 (0:Int), .int .u64 (0:Int), .int .u64 (0:Int), .int .i64 (0:Int), .int .u64 (0:Int), .int .u64 (0:Int), .int .u64 (0:Int), (.slice none 0 0), (.slice none 0 0), (.slice none 0 0), (.slice none 0 0), (.slice none 0 0), .int .i64 (0:Int), .int .u64 (0:Int), .int .u64 (0:Int), (.slice none 0 0), (.slice none 0 0), .int .u64 (0:Int), (.slice none 0 0), .int .u64 (0:Int), .int .i64 (0:Int), .int .i64 (0:Int), .float .f64 (0:Nat), .float .f64 (0:Nat), .int .u64 (0:Int), .int .i64 (0:Int), .bool false]) Try.sizeOf50 (Nat.le_of_ble_eq_true rfl) (ones_cons rfl (ones_cons rfl (ones_cons rfl (ones_cons rfl (ones_cons rfl (ones_cons rfl (ones_cons rfl (ones_cons rfl (ones_cons rfl (ones_cons rfl (ones_cons rfl (ones_cons rfl (ones_cons rfl (ones_cons rfl (ones_cons rfl (ones_cons rfl (ones_cons rfl (ones_cons (one_of_sliceV hst.sv2) (ones_cons (one_of_sliceV hst.sv3) (ones_cons (one_of_sliceV hst.sv4) (ones_cons (one_of_sliceV hst.sv5) (ones_cons rfl (ones_cons rfl (ones_cons rfl (ones_cons rfl (ones_cons rfl (ones_cons rfl (ones_cons rfl (ones_cons rfl (ones_cons rfl (ones_cons rfl (ones_cons rfl (ones_cons rfl (ones_cons rfl (ones_cons rfl (ones_cons rfl (ones_cons rfl (ones_cons rfl (ones_cons rfl (ones_cons rfl (ones_cons rfl (ones_cons rfl (ones_cons rfl (ones_cons rfl (ones_cons rfl (ones_cons rfl (ones_cons rfl (ones_cons rfl (ones_cons rfl (ones_cons rfl (ones_cons rfl (ones_cons rfl (ones_cons rfl (ones_cons rfl (ones_cons rfl (ones_cons rfl (ones_cons rfl ones_nil))))))))))))))))))))))))))))))))))))))))))))))))))))))))) (by kernel_rfl)
    refine wl_unit rfl rfl (x_unit hr892) ?_
    refine wl_nil (then_n (wp_ret ?_))
    replace hst := hst.own_nil ty_api_Entry
    replace hst := hst.own_nil (tyInt .u8)
    replace hst := hst.own_nil ty_api_Got
    replace hst := hst.own_nil (tySl ty_api_Pair)
    replace hst := hst.own_nil tyF64
    replace hst := hst.own_nil tyF2
    replace hst := hst.own_nil tyF64
    replace hst := hst.own_nil (tyInt .u8)
    replace hst := hst.own_nil ty_api_Write
    replace hst := hst.own_nil ty_api_Got
    replace hst := hst.own_nil (tySl ty_api_Pair)
    replace hst := hst.own_nil ty_api_Part
    obtain rfl := some_inj hm
    refine post_ret (vs := [.agg #[.int .u8 (IntKind.u8.wrap (IntKind.i64.wrap ((1:Int) + t581.1))), .int .u8 (0:Int), .int .i64 (0:Int), .int .i64 (0:Int), .int .u64 (0:Int), .int .u64 (0:Int), .int .u64 (0:Int), .int .u64 (0:Int), .bool false, (.slice none 0 0), .int .u64 (0:Int), .int .u64 (0:Int), .int .u64 (0:Int), (.slice none 0 0), .int .u64 t876.1.ID.Session, .int .u64 t876.1.ID.Seq, .int .u64 t876.1.Epoch, v881, v883, v885, v887, .int .u64 (0:Int), .int .u64 (0:Int), .int .i64 (0:Int), .int .u64 (0:Int), .int .u64 (0:Int), (.slice none 0 0), (.slice none 0 0), .int .u8 (0:Int), .int .u64 (0:Int), .int .u64 (0:Int), .int .u64 (0:Int), .int .u64 (0:Int), .int .i64 (0:Int), .int .u64 (0:Int), .int .u64 (0:Int), .int .u64 (0:Int), (.slice none 0 0), (.slice none 0 0), (.slice none 0 0), (.slice none 0 0), (.slice none 0 0), .int .i64 (0:Int), .int .u64 (0:Int), .int .u64 (0:Int), (.slice none 0 0), (.slice none 0 0), .int .u64 (0:Int), (.slice none 0 0), .int .u64 (0:Int), .int .i64 (0:Int), .int .i64 (0:Int), .float .f64 (0:Nat), .float .f64 (0:Nat), .int .u64 (0:Int), .int .i64 (0:Int), .bool false]]) Try.results9 (rvs_cons (rv_cell (cs := [.int .u8 (IntKind.u8.wrap (IntKind.i64.wrap ((1:Int) + t581.1))), .int .u8 (0:Int), .int .i64 (0:Int), .int .i64 (0:Int), .int .u64 (0:Int), .int .u64 (0:Int), .int .u64 (0:Int), .int .u64 (0:Int), .bool false, (.slice none 0 0), .int .u64 (0:Int), .int .u64 (0:Int), .int .u64 (0:Int), (.slice none 0 0), .int .u64 t876.1.ID.Session, .int .u64 t876.1.ID.Seq, .int .u64 t876.1.Epoch, v881, v883, v885, v887, .int .u64 (0:Int), .int .u64 (0:Int), .int .i64 (0:Int), .int .u64 (0:Int), .int .u64 (0:Int), (.slice none 0 0), (.slice none 0 0), .int .u8 (0:Int), .int .u64 (0:Int), .int .u64 (0:Int), .int .u64 (0:Int), .int .u64 (0:Int), .int .i64 (0:Int), .int .u64 (0:Int), .int .u64 (0:Int), .int .u64 (0:Int), (.slice none 0 0), (.slice none 0 0), (.slice none 0 0), (.slice none 0 0), (.slice none 0 0), .int .i64 (0:Int), .int .u64 (0:Int), .int .u64 (0:Int), (.slice none 0 0), (.slice none 0 0), .int .u64 (0:Int), (.slice none 0 0), .int .u64 (0:Int), .int .i64 (0:Int), .int .i64 (0:Int), .float .f64 (0:Nat), .float .f64 (0:Nat), .int .u64 (0:Int), .int .i64 (0:Int), .bool false]) rfl Try.isAgg50 Try.sizeOf50 (hst.bcs12 0 rfl)) rvs_nil) ?_
    replace hst := hst.pull18
    replace hst := hst.pull1
    replace hst := hst.pull2
    replace hst := hst.pull3
    replace hst := hst.pull4
    replace hst := hst.pull5
    replace hst := hst.pull6
    replace hst := hst.pull7
    replace hst := hst.pull8
    replace hst := hst.pull9
    replace hst := hst.pull10
    replace hst := hst.pull18
    replace hst := hst.pull18
    replace hst := hst.pull18
    replace hst := hst.pull18
    replace hst := hst.pull15
    replace hst := hst.pull16
    exact ⟨_, (.slice none 0 0), (.slice none 0 0), v881, v883, v885, v887, (.slice none 0 0), (.slice none 0 0), (.slice none 0 0), (.slice none 0 0), (.slice none 0 0), (.slice none 0 0), (.slice none 0 0), (.slice none 0 0), (.slice none 0 0), (.slice none 0 0), rfl, hI0, hst.keep17⟩
   ·skip
    replace hm := bif_f hc875 hm
    refine wp_iff (congrArg Value.bool hc875) ?_
    refine wp_seq (wp_region_lit ?_)
    refine wv (.bool ((IntKind.u8.wrap (IntKind.i64.wrap ((1:Int) + t581.1))) == (3:Int))) rfl rfl rfl ?_
    refine wv (.bool ((IntKind.u8.wrap (IntKind.i64.wrap ((1:Int) + t581.1))) == (3:Int))) rfl rfl rfl ?_
    refine wl_nil (then_n ?_)
    refine bsplit ((IntKind.u8.wrap (IntKind.i64.wrap ((1:Int) + t581.1))) == (3:Int)) (fun hc893 => ?_) (fun hc893 => ?_)
    ·skip
     replace hm := bif_t hc893 hm
     refine wp_ift (congrArg Value.bool hc893) ?_
     refine wp_seq (wp_region_lit ?_)
     refine wv (p0) rfl rfl rfl ?_
     obtain ⟨t894, ht895, hm⟩ := bind_some hm
     refine wl_call rfl rfl (x_call Try.call30 rfl (vs := [p0]) rfl) ?_
     refine (ref12_Tape_Hold_ref hst.to1 ht895).mono ?_
     rintro _ w896 ⟨v899, v901, v903, v905, rfl, hst⟩
     refine ⟨_, rfl, ?_⟩
     replace hst := hst.of5
     refine wv (.pointer (some ⟨b618, 14, none⟩)) rfl rfl (x_field rfl Try.underlying50 rfl Try.sizeOf36 rfl) ?_
     replace hst := hst.pull6
     obtain ⟨w907, hr908, hst⟩ := hst.boxStore (P := Try.prog) (t := 36) (cs' := [.int .u8 (IntKind.u8.wrap (IntKind.i64.wrap ((1:Int) + t581.1))), .int .u8 (0:Int), .int .i64 (0:Int), .int .i64 (0:Int), .int .u64 (0:Int), .int .u64 (0:Int), .int .u64 (0:Int), .int .u64 (0:Int), .bool false, (.slice none 0 0), .int .u64 (0:Int), .int .u64 (0:Int), .int .u64 (0:Int), (.slice none 0 0), .int .u64 t894.1.ID.Session, .int .u64 t894.1.ID.Seq, .int .u64 t894.1.Epoch, v899, v901, v903, v905, .int .u64 (0:Int), .int .u64 (0:Int), .int .i64 (0:Int), .int .u64 (0:Int), .int .u64 (0:Int), (.slice none 0 0), (.slice none 0 0), .int .u8 (0:Int), .int .u64 (0:Int), .int .u64 (0:Int), .int .u64 (0:Int), .int .u64 (0:Int), .int .i64 (0:Int), .int .u64 (0:Int), .int .u64 (0:Int), .int .u64 (0:Int), (.slice none 0 0), (.slice none 0 0), (.slice none 0 0), (.slice none 0 0), (.slice none 0 0), .int .i64 (0:Int), .int .u64 (0:Int), .int .u64 (0:Int), (.slice none 0 0), (.slice none 0 0), .int .u64 (0:Int), (.slice none 0 0), .int .u64 (0:Int), .int .i64 (0:Int), .int .i64 (0:Int), .float .f64 (0:Nat), .float .f64 (0:Nat), .int .u64 (0:Int), .int .i64 (0:Int), .bool false]) 14 (.agg #[.int .u64 t894.1.ID.Session, .int .u64 t894.1.ID.Seq, .int .u64 t894.1.Epoch, v899, v901, v903, v905]) Try.sizeOf36 (Nat.le_of_ble_eq_true rfl) (ones_cons rfl (ones_cons rfl (ones_cons rfl (ones_cons (one_of_sliceV hst.sv1) (ones_cons (one_of_sliceV hst.sv2) (ones_cons (one_of_sliceV hst.sv3) (ones_cons (one_of_sliceV hst.sv4) ones_nil))))))) (by kernel_rfl)
     refine wl_unit rfl rfl (x_unit hr908) ?_
     refine wl_nil (then_n (wp_region_lit ?_))
     refine wv (p0) rfl rfl rfl ?_
     replace hst := hst.pull5
     obtain ⟨t909, ht910, hm⟩ := bind_some hm
     refine wl_call rfl rfl (x_call Try.call31 rfl (vs := [p0]) rfl) ?_
     refine (ref13_OfReply_ref hst.to1 ht910).mono ?_
     rintro _ w911 ⟨I912, v914, v916, rfl, hI913, hst⟩
     refine ⟨_, rfl, ?_⟩
     replace hst := hst.of3
     replace hI0 := hI0.trans hI913
     refine wv (.pointer (some ⟨b618, 23, none⟩)) rfl rfl (x_field rfl Try.underlying50 rfl Try.sizeOf41 rfl) ?_
     replace hst := hst.pull3
     obtain ⟨w918, hr919, hst⟩ := hst.boxStore (P := Try.prog) (t := 41) (cs' := [.int .u8 (IntKind.u8.wrap (IntKind.i64.wrap ((1:Int) + t581.1))), .int .u8 (0:Int), .int .i64 (0:Int), .int .i64 (0:Int), .int .u64 (0:Int), .int .u64 (0:Int), .int .u64 (0:Int), .int .u64 (0:Int), .bool false, (.slice none 0 0), .int .u64 (0:Int), .int .u64 (0:Int), .int .u64 (0:Int), (.slice none 0 0), .int .u64 t894.1.ID.Session, .int .u64 t894.1.ID.Seq, .int .u64 t894.1.Epoch, v899, v901, v903, v905, .int .u64 (0:Int), .int .u64 (0:Int), .int .i64 t909.1.E, .int .u64 t909.1.Epoch, .int .u64 t909.1.Index, v914, v916, .int .u8 (0:Int), .int .u64 (0:Int), .int .u64 (0:Int), .int .u64 (0:Int), .int .u64 (0:Int), .int .i64 (0:Int), .int .u64 (0:Int), .int .u64 (0:Int), .int .u64 (0:Int), (.slice none 0 0), (.slice none 0 0), (.slice none 0 0), (.slice none 0 0), (.slice none 0 0), .int .i64 (0:Int), .int .u64 (0:Int), .int .u64 (0:Int), (.slice none 0 0), (.slice none 0 0), .int .u64 (0:Int), (.slice none 0 0), .int .u64 (0:Int), .int .i64 (0:Int), .int .i64 (0:Int), .float .f64 (0:Nat), .float .f64 (0:Nat), .int .u64 (0:Int), .int .i64 (0:Int), .bool false]) 23 (.agg #[.int .i64 t909.1.E, .int .u64 t909.1.Epoch, .int .u64 t909.1.Index, v914, v916]) Try.sizeOf41 (Nat.le_of_ble_eq_true rfl) (ones_cons rfl (ones_cons rfl (ones_cons rfl (ones_cons (one_of_sliceV hst.sv1) (ones_cons (one_of_sliceV hst.sv2) ones_nil))))) (by kernel_rfl)
     refine wl_unit rfl rfl (x_unit hr919) ?_
     refine wl_nil (blk_n (then_n (wp_seq (wp_region_lit ?_))))
     refine wv (.agg #[.int .u8 (IntKind.u8.wrap (IntKind.i64.wrap ((1:Int) + t581.1))), .int .u8 (0:Int), .int .i64 (0:Int), .int .i64 (0:Int), .int .u64 (0:Int), .int .u64 (0:Int), .int .u64 (0:Int), .int .u64 (0:Int), .bool false, (.slice none 0 0), .int .u64 (0:Int), .int .u64 (0:Int), .int .u64 (0:Int), (.slice none 0 0), .int .u64 t894.1.ID.Session, .int .u64 t894.1.ID.Seq, .int .u64 t894.1.Epoch, v899, v901, v903, v905, .int .u64 (0:Int), .int .u64 (0:Int), .int .i64 t909.1.E, .int .u64 t909.1.Epoch, .int .u64 t909.1.Index, v914, v916, .int .u8 (0:Int), .int .u64 (0:Int), .int .u64 (0:Int), .int .u64 (0:Int), .int .u64 (0:Int), .int .i64 (0:Int), .int .u64 (0:Int), .int .u64 (0:Int), .int .u64 (0:Int), (.slice none 0 0), (.slice none 0 0), (.slice none 0 0), (.slice none 0 0), (.slice none 0 0), .int .i64 (0:Int), .int .u64 (0:Int), .int .u64 (0:Int), (.slice none 0 0), (.slice none 0 0), .int .u64 (0:Int), (.slice none 0 0), .int .u64 (0:Int), .int .i64 (0:Int), .int .i64 (0:Int), .float .f64 (0:Nat), .float .f64 (0:Nat), .int .u64 (0:Int), .int .i64 (0:Int), .bool false]) rfl rfl (x_loadN (cs := [.int .u8 (IntKind.u8.wrap (IntKind.i64.wrap ((1:Int) + t581.1))), .int .u8 (0:Int), .int .i64 (0:Int), .int .i64 (0:Int), .int .u64 (0:Int), .int .u64 (0:Int), .int .u64 (0:Int), .int .u64 (0:Int), .bool false, (.slice none 0 0), .int .u64 (0:Int), .int .u64 (0:Int), .int .u64 (0:Int), (.slice none 0 0), .int .u64 t894.1.ID.Session, .int .u64 t894.1.ID.Seq, .int .u64 t894.1.Epoch, v899, v901, v903, v905, .int .u64 (0:Int), .int .u64 (0:Int), .int .i64 t909.1.E, .int .u64 t909.1.Epoch, .int .u64 t909.1.Index, v914, v916, .int .u8 (0:Int), .int .u64 (0:Int), .int .u64 (0:Int), .int .u64 (0:Int), .int .u64 (0:Int), .int .i64 (0:Int), .int .u64 (0:Int), .int .u64 (0:Int), .int .u64 (0:Int), (.slice none 0 0), (.slice none 0 0), (.slice none 0 0), (.slice none 0 0), (.slice none 0 0), .int .i64 (0:Int), .int .u64 (0:Int), .int .u64 (0:Int), (.slice none 0 0), (.slice none 0 0), .int .u64 (0:Int), (.slice none 0 0), .int .u64 (0:Int), .int .i64 (0:Int), .int .i64 (0:Int), .float .f64 (0:Nat), .float .f64 (0:Nat), .int .u64 (0:Int), .int .i64 (0:Int), .bool false]) rfl Try.isAgg50 Try.sizeOf50 (hst.bcs0 0 rfl)) ?_
     replace hst := hst.pull8
     obtain ⟨w920, hr921, hst⟩ := hst.boxStore (P := Try.prog) (t := 50) (cs' := [.int .u8 (IntKind.u8.wrap (IntKind.i64.wrap ((1:Int) + t581.1))), .int .u8 (0:Int), .int .i64 (0:Int), .int .i64 (0:Int), .int .u64 (0:Int), .int .u64 (0:Int), .int .u64 (0:Int), .int .u64 (0:Int), .bool false, (.slice none 0 0), .int .u64 (0:Int), .int .u64 (0:Int), .int .u64 (0:Int), (.slice none 0 0), .int .u64 t894.1.ID.Session, .int .u64 t894.1.ID.Seq, .int .u64 t894.1.Epoch, v899, v901, v903, v905, .int .u64 (0:Int), .int .u64 (0:Int), .int .i64 t909.1.E, .int .u64 t909.1.Epoch, .int .u64 t909.1.Index, v914, v916, .int .u8 (0:Int), .int .u64 (0:Int), .int .u64 (0:Int), .int .u64 (0:Int), .int .u64 (0:Int), .int .i64 (0:Int), .int .u64 (0:Int), .int .u64 (0:Int), .int .u64 (0:Int), (.slice none 0 0), (.slice none 0 0), (.slice none 0 0), (.slice none 0 0), (.slice none 0 0), .int .i64 (0:Int), .int .u64 (0:Int), .int .u64 (0:Int), (.slice none 0 0), (.slice none 0 0), .int .u64 (0:Int), (.slice none 0 0), .int .u64 (0:Int), .int .i64 (0:Int), .int .i64 (0:Int), .float .f64 (0:Nat), .float .f64 (0:Nat), .int .u64 (0:Int), .int .i64 (0:Int), .bool false]) 0 (.agg #[.int .u8 (IntKind.u8.wrap (IntKind.i64.wrap ((1:Int) + t581.1))), .int .u8 (0:Int), .int .i64 (0:Int), .int .i64 (0:Int), .int .u64 (0:Int), .int .u64 (0:Int), .int .u64 (0:Int), .int .u64 (0:Int), .bool false, (.slice none 0 0), .int .u64 (0:Int), .int .u64 (0:Int), .int .u64 (0:Int), (.slice none 0 0), .int .u64 t894.1.ID.Session, .int .u64 t894.1.ID.Seq, .int .u64 t894.1.Epoch, v899, v901, v903, v905, .int .u64 (0:Int), .int .u64 (0:Int), .int .i64 t909.1.E, .int .u64 t909.1.Epoch, .int .u64 t909.1.Index, v914, v916, .int .u8 (0:Int), .int .u64 (0:Int), .int .u64 (0:Int), .int .u64 (0:Int), .int .u64 (0:Int), .int .i64 (0:Int), .int .u64 (0:Int), .int .u64 (0:Int), .int .u64 (0:Int), (.slice none 0 0), (.slice none 0 0), (.slice none 0 0), (.slice none 0 0), (.slice none 0 0), .int .i64 (0:Int), .int .u64 (0:Int), .int .u64 (0:Int), (.slice none 0 0), (.slice none 0 0), .int .u64 (0:Int), (.slice none 0 0), .int .u64 (0:Int), .int .i64 (0:Int), .int .i64 (0:Int), .float .f64 (0:Nat), .float .f64 (0:Nat), .int .u64 (0:Int), .int .i64 (0:Int), .bool false]) Try.sizeOf50 (Nat.le_of_ble_eq_true rfl) (ones_cons rfl (ones_cons rfl (ones_cons rfl (ones_cons rfl (ones_cons rfl (ones_cons rfl (ones_cons rfl (ones_cons rfl (ones_cons rfl (ones_cons rfl (ones_cons rfl (ones_cons rfl (ones_cons rfl (ones_cons rfl (ones_cons rfl (ones_cons rfl (ones_cons rfl (ones_cons (one_of_sliceV hst.sv5) (ones_cons (one_of_sliceV hst.sv6) (ones_cons (one_of_sliceV hst.sv7) (ones_cons (one_of_sliceV hst.sv8) (ones_cons rfl (ones_cons rfl (ones_cons rfl (ones_cons rfl (ones_cons rfl (ones_cons (one_of_sliceV hst.sv2) (ones_cons (one_of_sliceV hst.sv3) (ones_cons rfl (ones_cons rfl (ones_cons rfl (ones_cons rfl (ones_cons rfl (ones_cons rfl (ones_cons rfl (ones_cons rfl (ones_cons rfl (ones_cons rfl (ones_cons rfl (ones_cons rfl (ones_cons rfl (ones_cons rfl (ones_cons rfl (ones_cons rfl (ones_cons rfl (ones_cons rfl (ones_cons rfl (ones_cons rfl (ones_cons rfl (ones_cons rfl (ones_cons rfl (ones_cons rfl (ones_cons rfl (ones_cons rfl (ones_cons rfl (ones_cons rfl (ones_cons rfl ones_nil))))))))))))))))))))))))))))))))))))))))))))))))))))))))) (by kernel_rfl)
     refine wl_unit rfl rfl (x_unit hr921) ?_
     refine wl_nil (then_n (wp_ret ?_))
     replace hst := hst.own_nil ty_api_Entry
     replace hst := hst.own_nil (tyInt .u8)
     replace hst := hst.own_nil tyF64
     replace hst := hst.own_nil tyF2
     replace hst := hst.own_nil tyF64
     replace hst := hst.own_nil (tyInt .u8)
     replace hst := hst.own_nil ty_api_Write
     replace hst := hst.own_nil ty_api_Got
     replace hst := hst.own_nil (tySl ty_api_Pair)
     replace hst := hst.own_nil ty_api_Part
     obtain rfl := some_inj hm
     refine post_ret (vs := [.agg #[.int .u8 (IntKind.u8.wrap (IntKind.i64.wrap ((1:Int) + t581.1))), .int .u8 (0:Int), .int .i64 (0:Int), .int .i64 (0:Int), .int .u64 (0:Int), .int .u64 (0:Int), .int .u64 (0:Int), .int .u64 (0:Int), .bool false, (.slice none 0 0), .int .u64 (0:Int), .int .u64 (0:Int), .int .u64 (0:Int), (.slice none 0 0), .int .u64 t894.1.ID.Session, .int .u64 t894.1.ID.Seq, .int .u64 t894.1.Epoch, v899, v901, v903, v905, .int .u64 (0:Int), .int .u64 (0:Int), .int .i64 t909.1.E, .int .u64 t909.1.Epoch, .int .u64 t909.1.Index, v914, v916, .int .u8 (0:Int), .int .u64 (0:Int), .int .u64 (0:Int), .int .u64 (0:Int), .int .u64 (0:Int), .int .i64 (0:Int), .int .u64 (0:Int), .int .u64 (0:Int), .int .u64 (0:Int), (.slice none 0 0), (.slice none 0 0), (.slice none 0 0), (.slice none 0 0), (.slice none 0 0), .int .i64 (0:Int), .int .u64 (0:Int), .int .u64 (0:Int), (.slice none 0 0), (.slice none 0 0), .int .u64 (0:Int), (.slice none 0 0), .int .u64 (0:Int), .int .i64 (0:Int), .int .i64 (0:Int), .float .f64 (0:Nat), .float .f64 (0:Nat), .int .u64 (0:Int), .int .i64 (0:Int), .bool false]]) Try.results9 (rvs_cons (rv_cell (cs := [.int .u8 (IntKind.u8.wrap (IntKind.i64.wrap ((1:Int) + t581.1))), .int .u8 (0:Int), .int .i64 (0:Int), .int .i64 (0:Int), .int .u64 (0:Int), .int .u64 (0:Int), .int .u64 (0:Int), .int .u64 (0:Int), .bool false, (.slice none 0 0), .int .u64 (0:Int), .int .u64 (0:Int), .int .u64 (0:Int), (.slice none 0 0), .int .u64 t894.1.ID.Session, .int .u64 t894.1.ID.Seq, .int .u64 t894.1.Epoch, v899, v901, v903, v905, .int .u64 (0:Int), .int .u64 (0:Int), .int .i64 t909.1.E, .int .u64 t909.1.Epoch, .int .u64 t909.1.Index, v914, v916, .int .u8 (0:Int), .int .u64 (0:Int), .int .u64 (0:Int), .int .u64 (0:Int), .int .u64 (0:Int), .int .i64 (0:Int), .int .u64 (0:Int), .int .u64 (0:Int), .int .u64 (0:Int), (.slice none 0 0), (.slice none 0 0), (.slice none 0 0), (.slice none 0 0), (.slice none 0 0), .int .i64 (0:Int), .int .u64 (0:Int), .int .u64 (0:Int), (.slice none 0 0), (.slice none 0 0), .int .u64 (0:Int), (.slice none 0 0), .int .u64 (0:Int), .int .i64 (0:Int), .int .i64 (0:Int), .float .f64 (0:Nat), .float .f64 (0:Nat), .int .u64 (0:Int), .int .i64 (0:Int), .bool false]) rfl Try.isAgg50 Try.sizeOf50 (hst.bcs10 0 rfl)) rvs_nil) ?_
     replace hst := hst.pull14
     replace hst := hst.pull1
     replace hst := hst.pull2
     replace hst := hst.pull3
     replace hst := hst.pull4
     replace hst := hst.pull5
     replace hst := hst.pull6
     replace hst := hst.pull7
     replace hst := hst.pull8
     replace hst := hst.pull14
     replace hst := hst.pull14
     replace hst := hst.pull18
     replace hst := hst.pull18
     replace hst := hst.pull18
     replace hst := hst.pull18
     replace hst := hst.pull15
     replace hst := hst.pull16
     exact ⟨_, (.slice none 0 0), (.slice none 0 0), v899, v901, v903, v905, v914, v916, (.slice none 0 0), (.slice none 0 0), (.slice none 0 0), (.slice none 0 0), (.slice none 0 0), (.slice none 0 0), (.slice none 0 0), (.slice none 0 0), rfl, hI0, hst.keep17⟩
    ·skip
     replace hm := bif_f hc893 hm
     refine wp_iff (congrArg Value.bool hc893) ?_
     refine wp_seq (wp_region_lit ?_)
     refine wv (.bool ((IntKind.u8.wrap (IntKind.i64.wrap ((1:Int) + t581.1))) == (4:Int))) rfl rfl rfl ?_
     refine wv (.bool ((IntKind.u8.wrap (IntKind.i64.wrap ((1:Int) + t581.1))) == (4:Int))) rfl rfl rfl ?_
     refine wl_nil (then_n ?_)
     refine bsplit ((IntKind.u8.wrap (IntKind.i64.wrap ((1:Int) + t581.1))) == (4:Int)) (fun hc922 => ?_) (fun hc922 => ?_)
     ·skip
      replace hm := bif_t hc922 hm
      refine wp_ift (congrArg Value.bool hc922) ?_
      refine wp_region_lit ?_
      refine wv (p0) rfl rfl rfl ?_
      obtain ⟨t923, ht924, hm⟩ := bind_some hm
      refine wl_call rfl rfl (x_call Try.call32 rfl (vs := [p0]) rfl) ?_
      refine (ref12_Tape_Of_ref hst.to1 ht924).mono ?_
      rintro _ w925 ⟨rfl, hst⟩
      refine ⟨_, rfl, ?_⟩
      replace hst := hst.of1
      refine wv (p0) rfl rfl rfl ?_
      obtain ⟨t928, ht929, hm⟩ := bind_some hm
      refine wl_call rfl rfl (x_call Try.call28 rfl (vs := [p0, .int .i64 (9:Int)]) rfl) ?_
      refine (ref12_Tape_Next_ref hst.to1 ht929).mono ?_
      rintro _ w930 ⟨rfl, hst⟩
      refine ⟨_, rfl, ?_⟩
      replace hst := hst.of1
      refine wv (p0) rfl rfl rfl ?_
      obtain ⟨t933, ht934, hm⟩ := bind_some hm
      refine wl_call rfl rfl (x_call Try.call28 rfl (vs := [p0, .int .i64 (9:Int)]) rfl) ?_
      refine (ref12_Tape_Next_ref hst.to1 ht934).mono ?_
      rintro _ w935 ⟨rfl, hst⟩
      refine ⟨_, rfl, ?_⟩
      replace hst := hst.of1
      refine wv (.int .u64 (IntKind.u64.wrap t933.1)) rfl rfl (by kernel_rfl) ?_
      refine wv (p0) rfl rfl rfl ?_
      obtain ⟨t938, ht939, hm⟩ := bind_some hm
      refine wl_call rfl rfl (x_call Try.call28 rfl (vs := [p0, .int .i64 (9:Int)]) rfl) ?_
      refine (ref12_Tape_Next_ref hst.to1 ht939).mono ?_
      rintro _ w940 ⟨rfl, hst⟩
      refine ⟨_, rfl, ?_⟩
      replace hst := hst.of1
      refine wv (.int .u64 (IntKind.u64.wrap t938.1)) rfl rfl (by kernel_rfl) ?_
      refine wv (p0) rfl rfl rfl ?_
      obtain ⟨t943, ht944, hm⟩ := bind_some hm
      refine wl_call rfl rfl (x_call Try.call33 rfl (vs := [p0]) rfl) ?_
      refine (ref13_OfWrites_ref hst.to1 ht944).mono ?_
      rintro _ w945 ⟨I946, v948, rfl, hI947, hst⟩
      refine ⟨_, rfl, ?_⟩
      replace hst := hst.of2
      replace hI0 := hI0.trans hI947
      refine wv (.agg #[.int .u8 (3:Int), .int .u64 t923.1.Session, .int .u64 t923.1.Seq, .int .u64 (IntKind.u64.wrap t933.1), .int .u64 (IntKind.u64.wrap t938.1), .int .i64 t928.1, .int .u64 (0:Int), .int .u64 (0:Int), .int .u64 (0:Int), (.slice none 0 0), (.slice none 0 0), (.slice none 0 0), (.slice none 0 0), v948, .int .i64 (0:Int), .int .u64 (0:Int), .int .u64 (0:Int), (.slice none 0 0), (.slice none 0 0), .int .u64 (0:Int), (.slice none 0 0), .int .u64 (0:Int), .int .i64 (0:Int), .int .i64 (0:Int), .float .f64 (0:Nat), .float .f64 (0:Nat), .int .u64 (0:Int), .int .i64 (0:Int), .bool false]) rfl rfl (by obtain ⟨_, _, hv_, _⟩ := hst.sv0; rw [hv_]; kernel_rfl) ?_
      refine wv (.pointer (some ⟨b618, 28, none⟩)) rfl rfl (x_field rfl Try.underlying50 rfl Try.sizeOf48 rfl) ?_
      replace hst := hst.pull3
      obtain ⟨w958, hr959, hst⟩ := hst.boxStore (P := Try.prog) (t := 48) (cs' := [.int .u8 (IntKind.u8.wrap (IntKind.i64.wrap ((1:Int) + t581.1))), .int .u8 (0:Int), .int .i64 (0:Int), .int .i64 (0:Int), .int .u64 (0:Int), .int .u64 (0:Int), .int .u64 (0:Int), .int .u64 (0:Int), .bool false, (.slice none 0 0), .int .u64 (0:Int), .int .u64 (0:Int), .int .u64 (0:Int), (.slice none 0 0), .int .u64 (0:Int), .int .u64 (0:Int), .int .u64 (0:Int), (.slice none 0 0), (.slice none 0 0), (.slice none 0 0), (.slice none 0 0), .int .u64 (0:Int), .int .u64 (0:Int), .int .i64 (0:Int), .int .u64 (0:Int), .int .u64 (0:Int), (.slice none 0 0), (.slice none 0 0), .int .u8 (3:Int), .int .u64 t923.1.Session, .int .u64 t923.1.Seq, .int .u64 (IntKind.u64.wrap t933.1), .int .u64 (IntKind.u64.wrap t938.1), .int .i64 t928.1, .int .u64 (0:Int), .int .u64 (0:Int), .int .u64 (0:Int), (.slice none 0 0), (.slice none 0 0), (.slice none 0 0), (.slice none 0 0), v948, .int .i64 (0:Int), .int .u64 (0:Int), .int .u64 (0:Int), (.slice none 0 0), (.slice none 0 0), .int .u64 (0:Int), (.slice none 0 0), .int .u64 (0:Int), .int .i64 (0:Int), .int .i64 (0:Int), .float .f64 (0:Nat), .float .f64 (0:Nat), .int .u64 (0:Int), .int .i64 (0:Int), .bool false]) 28 (.agg #[.int .u8 (3:Int), .int .u64 t923.1.Session, .int .u64 t923.1.Seq, .int .u64 (IntKind.u64.wrap t933.1), .int .u64 (IntKind.u64.wrap t938.1), .int .i64 t928.1, .int .u64 (0:Int), .int .u64 (0:Int), .int .u64 (0:Int), (.slice none 0 0), (.slice none 0 0), (.slice none 0 0), (.slice none 0 0), v948, .int .i64 (0:Int), .int .u64 (0:Int), .int .u64 (0:Int), (.slice none 0 0), (.slice none 0 0), .int .u64 (0:Int), (.slice none 0 0), .int .u64 (0:Int), .int .i64 (0:Int), .int .i64 (0:Int), .float .f64 (0:Nat), .float .f64 (0:Nat), .int .u64 (0:Int), .int .i64 (0:Int), .bool false]) Try.sizeOf48 (Nat.le_of_ble_eq_true rfl) (ones_cons rfl (ones_cons rfl (ones_cons rfl (ones_cons rfl (ones_cons rfl (ones_cons rfl (ones_cons rfl (ones_cons rfl (ones_cons rfl (ones_cons rfl (ones_cons rfl (ones_cons rfl (ones_cons rfl (ones_cons (one_of_sliceV hst.sv1) (ones_cons rfl (ones_cons rfl (ones_cons rfl (ones_cons rfl (ones_cons rfl (ones_cons rfl (ones_cons rfl (ones_cons rfl (ones_cons rfl (ones_cons rfl (ones_cons rfl (ones_cons rfl (ones_cons rfl (ones_cons rfl (ones_cons rfl ones_nil))))))))))))))))))))))))))))) (by kernel_rfl)
      refine wl_unit rfl rfl (x_unit hr959) ?_
      refine wl_nil (blk_n (then_n (wp_seq (wp_region_lit ?_))))
      refine wv (.agg #[.int .u8 (IntKind.u8.wrap (IntKind.i64.wrap ((1:Int) + t581.1))), .int .u8 (0:Int), .int .i64 (0:Int), .int .i64 (0:Int), .int .u64 (0:Int), .int .u64 (0:Int), .int .u64 (0:Int), .int .u64 (0:Int), .bool false, (.slice none 0 0), .int .u64 (0:Int), .int .u64 (0:Int), .int .u64 (0:Int), (.slice none 0 0), .int .u64 (0:Int), .int .u64 (0:Int), .int .u64 (0:Int), (.slice none 0 0), (.slice none 0 0), (.slice none 0 0), (.slice none 0 0), .int .u64 (0:Int), .int .u64 (0:Int), .int .i64 (0:Int), .int .u64 (0:Int), .int .u64 (0:Int), (.slice none 0 0), (.slice none 0 0), .int .u8 (3:Int), .int .u64 t923.1.Session, .int .u64 t923.1.Seq, .int .u64 (IntKind.u64.wrap t933.1), .int .u64 (IntKind.u64.wrap t938.1), .int .i64 t928.1, .int .u64 (0:Int), .int .u64 (0:Int), .int .u64 (0:Int), (.slice none 0 0), (.slice none 0 0), (.slice none 0 0), (.slice none 0 0), v948, .int .i64 (0:Int), .int .u64 (0:Int), .int .u64 (0:Int), (.slice none 0 0), (.slice none 0 0), .int .u64 (0:Int), (.slice none 0 0), .int .u64 (0:Int), .int .i64 (0:Int), .int .i64 (0:Int), .float .f64 (0:Nat), .float .f64 (0:Nat), .int .u64 (0:Int), .int .i64 (0:Int), .bool false]) rfl rfl (x_loadN (cs := [.int .u8 (IntKind.u8.wrap (IntKind.i64.wrap ((1:Int) + t581.1))), .int .u8 (0:Int), .int .i64 (0:Int), .int .i64 (0:Int), .int .u64 (0:Int), .int .u64 (0:Int), .int .u64 (0:Int), .int .u64 (0:Int), .bool false, (.slice none 0 0), .int .u64 (0:Int), .int .u64 (0:Int), .int .u64 (0:Int), (.slice none 0 0), .int .u64 (0:Int), .int .u64 (0:Int), .int .u64 (0:Int), (.slice none 0 0), (.slice none 0 0), (.slice none 0 0), (.slice none 0 0), .int .u64 (0:Int), .int .u64 (0:Int), .int .i64 (0:Int), .int .u64 (0:Int), .int .u64 (0:Int), (.slice none 0 0), (.slice none 0 0), .int .u8 (3:Int), .int .u64 t923.1.Session, .int .u64 t923.1.Seq, .int .u64 (IntKind.u64.wrap t933.1), .int .u64 (IntKind.u64.wrap t938.1), .int .i64 t928.1, .int .u64 (0:Int), .int .u64 (0:Int), .int .u64 (0:Int), (.slice none 0 0), (.slice none 0 0), (.slice none 0 0), (.slice none 0 0), v948, .int .i64 (0:Int), .int .u64 (0:Int), .int .u64 (0:Int), (.slice none 0 0), (.slice none 0 0), .int .u64 (0:Int), (.slice none 0 0), .int .u64 (0:Int), .int .i64 (0:Int), .int .i64 (0:Int), .float .f64 (0:Nat), .float .f64 (0:Nat), .int .u64 (0:Int), .int .i64 (0:Int), .bool false]) rfl Try.isAgg50 Try.sizeOf50 (hst.bcs0 0 rfl)) ?_
      replace hst := hst.pull3
      obtain ⟨w960, hr961, hst⟩ := hst.boxStore (P := Try.prog) (t := 50) (cs' := [.int .u8 (IntKind.u8.wrap (IntKind.i64.wrap ((1:Int) + t581.1))), .int .u8 (0:Int), .int .i64 (0:Int), .int .i64 (0:Int), .int .u64 (0:Int), .int .u64 (0:Int), .int .u64 (0:Int), .int .u64 (0:Int), .bool false, (.slice none 0 0), .int .u64 (0:Int), .int .u64 (0:Int), .int .u64 (0:Int), (.slice none 0 0), .int .u64 (0:Int), .int .u64 (0:Int), .int .u64 (0:Int), (.slice none 0 0), (.slice none 0 0), (.slice none 0 0), (.slice none 0 0), .int .u64 (0:Int), .int .u64 (0:Int), .int .i64 (0:Int), .int .u64 (0:Int), .int .u64 (0:Int), (.slice none 0 0), (.slice none 0 0), .int .u8 (3:Int), .int .u64 t923.1.Session, .int .u64 t923.1.Seq, .int .u64 (IntKind.u64.wrap t933.1), .int .u64 (IntKind.u64.wrap t938.1), .int .i64 t928.1, .int .u64 (0:Int), .int .u64 (0:Int), .int .u64 (0:Int), (.slice none 0 0), (.slice none 0 0), (.slice none 0 0), (.slice none 0 0), v948, .int .i64 (0:Int), .int .u64 (0:Int), .int .u64 (0:Int), (.slice none 0 0), (.slice none 0 0), .int .u64 (0:Int), (.slice none 0 0), .int .u64 (0:Int), .int .i64 (0:Int), .int .i64 (0:Int), .float .f64 (0:Nat), .float .f64 (0:Nat), .int .u64 (0:Int), .int .i64 (0:Int), .bool false]) 0 (.agg #[.int .u8 (IntKind.u8.wrap (IntKind.i64.wrap ((1:Int) + t581.1))), .int .u8 (0:Int), .int .i64 (0:Int), .int .i64 (0:Int), .int .u64 (0:Int), .int .u64 (0:Int), .int .u64 (0:Int), .int .u64 (0:Int), .bool false, (.slice none 0 0), .int .u64 (0:Int), .int .u64 (0:Int), .int .u64 (0:Int), (.slice none 0 0), .int .u64 (0:Int), .int .u64 (0:Int), .int .u64 (0:Int), (.slice none 0 0), (.slice none 0 0), (.slice none 0 0), (.slice none 0 0), .int .u64 (0:Int), .int .u64 (0:Int), .int .i64 (0:Int), .int .u64 (0:Int), .int .u64 (0:Int), (.slice none 0 0), (.slice none 0 0), .int .u8 (3:Int), .int .u64 t923.1.Session, .int .u64 t923.1.Seq, .int .u64 (IntKind.u64.wrap t933.1), .int .u64 (IntKind.u64.wrap t938.1), .int .i64 t928.1, .int .u64 (0:Int), .int .u64 (0:Int), .int .u64 (0:Int), (.slice none 0 0), (.slice none 0 0), (.slice none 0 0), (.slice none 0 0), v948, .int .i64 (0:Int), .int .u64 (0:Int), .int .u64 (0:Int), (.slice none 0 0), (.slice none 0 0), .int .u64 (0:Int), (.slice none 0 0), .int .u64 (0:Int), .int .i64 (0:Int), .int .i64 (0:Int), .float .f64 (0:Nat), .float .f64 (0:Nat), .int .u64 (0:Int), .int .i64 (0:Int), .bool false]) Try.sizeOf50 (Nat.le_of_ble_eq_true rfl) (ones_cons rfl (ones_cons rfl (ones_cons rfl (ones_cons rfl (ones_cons rfl (ones_cons rfl (ones_cons rfl (ones_cons rfl (ones_cons rfl (ones_cons rfl (ones_cons rfl (ones_cons rfl (ones_cons rfl (ones_cons rfl (ones_cons rfl (ones_cons rfl (ones_cons rfl (ones_cons rfl (ones_cons rfl (ones_cons rfl (ones_cons rfl (ones_cons rfl (ones_cons rfl (ones_cons rfl (ones_cons rfl (ones_cons rfl (ones_cons rfl (ones_cons rfl (ones_cons rfl (ones_cons rfl (ones_cons rfl (ones_cons rfl (ones_cons rfl (ones_cons rfl (ones_cons rfl (ones_cons rfl (ones_cons rfl (ones_cons rfl (ones_cons rfl (ones_cons rfl (ones_cons rfl (ones_cons (one_of_sliceV hst.sv2) (ones_cons rfl (ones_cons rfl (ones_cons rfl (ones_cons rfl (ones_cons rfl (ones_cons rfl (ones_cons rfl (ones_cons rfl (ones_cons rfl (ones_cons rfl (ones_cons rfl (ones_cons rfl (ones_cons rfl (ones_cons rfl (ones_cons rfl ones_nil))))))))))))))))))))))))))))))))))))))))))))))))))))))))) (by kernel_rfl)
      refine wl_unit rfl rfl (x_unit hr961) ?_
      refine wl_nil (then_n (wp_ret ?_))
      replace hst := hst.own_nil ty_api_Entry
      replace hst := hst.own_nil (tyInt .u8)
      replace hst := hst.own_nil tyF64
      replace hst := hst.own_nil tyF2
      replace hst := hst.own_nil tyF64
      replace hst := hst.own_nil (tyInt .u8)
      replace hst := hst.own_nil ty_api_Got
      replace hst := hst.own_nil (tySl ty_api_Pair)
      replace hst := hst.own_nil tyF64
      replace hst := hst.own_nil tyF2
      replace hst := hst.own_nil tyF64
      replace hst := hst.own_nil (tyInt .u8)
      replace hst := hst.own_nil ty_api_Got
      replace hst := hst.own_nil (tySl ty_api_Pair)
      replace hst := hst.own_nil ty_api_Part
      obtain rfl := some_inj hm
      refine post_ret (vs := [.agg #[.int .u8 (IntKind.u8.wrap (IntKind.i64.wrap ((1:Int) + t581.1))), .int .u8 (0:Int), .int .i64 (0:Int), .int .i64 (0:Int), .int .u64 (0:Int), .int .u64 (0:Int), .int .u64 (0:Int), .int .u64 (0:Int), .bool false, (.slice none 0 0), .int .u64 (0:Int), .int .u64 (0:Int), .int .u64 (0:Int), (.slice none 0 0), .int .u64 (0:Int), .int .u64 (0:Int), .int .u64 (0:Int), (.slice none 0 0), (.slice none 0 0), (.slice none 0 0), (.slice none 0 0), .int .u64 (0:Int), .int .u64 (0:Int), .int .i64 (0:Int), .int .u64 (0:Int), .int .u64 (0:Int), (.slice none 0 0), (.slice none 0 0), .int .u8 (3:Int), .int .u64 t923.1.Session, .int .u64 t923.1.Seq, .int .u64 (IntKind.u64.wrap t933.1), .int .u64 (IntKind.u64.wrap t938.1), .int .i64 t928.1, .int .u64 (0:Int), .int .u64 (0:Int), .int .u64 (0:Int), (.slice none 0 0), (.slice none 0 0), (.slice none 0 0), (.slice none 0 0), v948, .int .i64 (0:Int), .int .u64 (0:Int), .int .u64 (0:Int), (.slice none 0 0), (.slice none 0 0), .int .u64 (0:Int), (.slice none 0 0), .int .u64 (0:Int), .int .i64 (0:Int), .int .i64 (0:Int), .float .f64 (0:Nat), .float .f64 (0:Nat), .int .u64 (0:Int), .int .i64 (0:Int), .bool false]]) Try.results9 (rvs_cons (rv_cell (cs := [.int .u8 (IntKind.u8.wrap (IntKind.i64.wrap ((1:Int) + t581.1))), .int .u8 (0:Int), .int .i64 (0:Int), .int .i64 (0:Int), .int .u64 (0:Int), .int .u64 (0:Int), .int .u64 (0:Int), .int .u64 (0:Int), .bool false, (.slice none 0 0), .int .u64 (0:Int), .int .u64 (0:Int), .int .u64 (0:Int), (.slice none 0 0), .int .u64 (0:Int), .int .u64 (0:Int), .int .u64 (0:Int), (.slice none 0 0), (.slice none 0 0), (.slice none 0 0), (.slice none 0 0), .int .u64 (0:Int), .int .u64 (0:Int), .int .i64 (0:Int), .int .u64 (0:Int), .int .u64 (0:Int), (.slice none 0 0), (.slice none 0 0), .int .u8 (3:Int), .int .u64 t923.1.Session, .int .u64 t923.1.Seq, .int .u64 (IntKind.u64.wrap t933.1), .int .u64 (IntKind.u64.wrap t938.1), .int .i64 t928.1, .int .u64 (0:Int), .int .u64 (0:Int), .int .u64 (0:Int), (.slice none 0 0), (.slice none 0 0), (.slice none 0 0), (.slice none 0 0), v948, .int .i64 (0:Int), .int .u64 (0:Int), .int .u64 (0:Int), (.slice none 0 0), (.slice none 0 0), .int .u64 (0:Int), (.slice none 0 0), .int .u64 (0:Int), .int .i64 (0:Int), .int .i64 (0:Int), .float .f64 (0:Nat), .float .f64 (0:Nat), .int .u64 (0:Int), .int .i64 (0:Int), .bool false]) rfl Try.isAgg50 Try.sizeOf50 (hst.bcs15 0 rfl)) rvs_nil) ?_
      replace hst := hst.pull18
      replace hst := hst.pull1
      replace hst := hst.pull2
      replace hst := hst.pull3
      replace hst := hst.pull18
      replace hst := hst.pull5
      replace hst := hst.pull6
      replace hst := hst.pull7
      replace hst := hst.pull8
      replace hst := hst.pull9
      replace hst := hst.pull10
      replace hst := hst.pull11
      replace hst := hst.pull12
      replace hst := hst.pull13
      replace hst := hst.pull14
      replace hst := hst.pull15
      replace hst := hst.pull16
      exact ⟨_, (.slice none 0 0), (.slice none 0 0), (.slice none 0 0), (.slice none 0 0), (.slice none 0 0), (.slice none 0 0), (.slice none 0 0), (.slice none 0 0), (.slice none 0 0), (.slice none 0 0), (.slice none 0 0), (.slice none 0 0), v948, (.slice none 0 0), (.slice none 0 0), (.slice none 0 0), rfl, hI0, hst.keep17⟩
     ·skip
      replace hm := bif_f hc922 hm
      refine wp_iff (congrArg Value.bool hc922) ?_
      refine wp_seq (wp_region_lit ?_)
      refine wv (.bool ((IntKind.u8.wrap (IntKind.i64.wrap ((1:Int) + t581.1))) == (5:Int))) rfl rfl rfl ?_
      refine wv (.bool ((IntKind.u8.wrap (IntKind.i64.wrap ((1:Int) + t581.1))) == (5:Int))) rfl rfl rfl ?_
      refine wl_nil (then_n ?_)
      refine bsplit ((IntKind.u8.wrap (IntKind.i64.wrap ((1:Int) + t581.1))) == (5:Int)) (fun hc962 => ?_) (fun hc962 => ?_)
      ·skip
       replace hm := bif_t hc962 hm
       refine wp_ift (congrArg Value.bool hc962) ?_
       refine wp_region_lit ?_
       refine wv (p0) rfl rfl rfl ?_
       obtain ⟨t963, ht964, hm⟩ := bind_some hm
       refine wl_call rfl rfl (x_call Try.call32 rfl (vs := [p0]) rfl) ?_
       refine (ref12_Tape_Of_ref hst.to1 ht964).mono ?_
       rintro _ w965 ⟨rfl, hst⟩
       refine ⟨_, rfl, ?_⟩
       replace hst := hst.of1
       refine wv (.pointer (some ⟨b618, 21, none⟩)) rfl rfl (x_field rfl Try.underlying50 rfl Try.sizeOf32 rfl) ?_
       replace hst := hst.pull2
       obtain ⟨w968, hr969, hst⟩ := hst.boxStore (P := Try.prog) (t := 32) (cs' := [.int .u8 (IntKind.u8.wrap (IntKind.i64.wrap ((1:Int) + t581.1))), .int .u8 (0:Int), .int .i64 (0:Int), .int .i64 (0:Int), .int .u64 (0:Int), .int .u64 (0:Int), .int .u64 (0:Int), .int .u64 (0:Int), .bool false, (.slice none 0 0), .int .u64 (0:Int), .int .u64 (0:Int), .int .u64 (0:Int), (.slice none 0 0), .int .u64 (0:Int), .int .u64 (0:Int), .int .u64 (0:Int), (.slice none 0 0), (.slice none 0 0), (.slice none 0 0), (.slice none 0 0), .int .u64 t963.1.Session, .int .u64 t963.1.Seq, .int .i64 (0:Int), .int .u64 (0:Int), .int .u64 (0:Int), (.slice none 0 0), (.slice none 0 0), .int .u8 (0:Int), .int .u64 (0:Int), .int .u64 (0:Int), .int .u64 (0:Int), .int .u64 (0:Int), .int .i64 (0:Int), .int .u64 (0:Int), .int .u64 (0:Int), .int .u64 (0:Int), (.slice none 0 0), (.slice none 0 0), (.slice none 0 0), (.slice none 0 0), (.slice none 0 0), .int .i64 (0:Int), .int .u64 (0:Int), .int .u64 (0:Int), (.slice none 0 0), (.slice none 0 0), .int .u64 (0:Int), (.slice none 0 0), .int .u64 (0:Int), .int .i64 (0:Int), .int .i64 (0:Int), .float .f64 (0:Nat), .float .f64 (0:Nat), .int .u64 (0:Int), .int .i64 (0:Int), .bool false]) 21 (.agg #[.int .u64 t963.1.Session, .int .u64 t963.1.Seq]) Try.sizeOf32 (Nat.le_of_ble_eq_true rfl) (ones_cons rfl (ones_cons rfl ones_nil)) (by kernel_rfl)
       refine wl_unit rfl rfl (x_unit hr969) ?_
       refine wl_nil (blk_n (then_n (wp_seq (wp_region_lit ?_))))
       refine wv (.agg #[.int .u8 (IntKind.u8.wrap (IntKind.i64.wrap ((1:Int) + t581.1))), .int .u8 (0:Int), .int .i64 (0:Int), .int .i64 (0:Int), .int .u64 (0:Int), .int .u64 (0:Int), .int .u64 (0:Int), .int .u64 (0:Int), .bool false, (.slice none 0 0), .int .u64 (0:Int), .int .u64 (0:Int), .int .u64 (0:Int), (.slice none 0 0), .int .u64 (0:Int), .int .u64 (0:Int), .int .u64 (0:Int), (.slice none 0 0), (.slice none 0 0), (.slice none 0 0), (.slice none 0 0), .int .u64 t963.1.Session, .int .u64 t963.1.Seq, .int .i64 (0:Int), .int .u64 (0:Int), .int .u64 (0:Int), (.slice none 0 0), (.slice none 0 0), .int .u8 (0:Int), .int .u64 (0:Int), .int .u64 (0:Int), .int .u64 (0:Int), .int .u64 (0:Int), .int .i64 (0:Int), .int .u64 (0:Int), .int .u64 (0:Int), .int .u64 (0:Int), (.slice none 0 0), (.slice none 0 0), (.slice none 0 0), (.slice none 0 0), (.slice none 0 0), .int .i64 (0:Int), .int .u64 (0:Int), .int .u64 (0:Int), (.slice none 0 0), (.slice none 0 0), .int .u64 (0:Int), (.slice none 0 0), .int .u64 (0:Int), .int .i64 (0:Int), .int .i64 (0:Int), .float .f64 (0:Nat), .float .f64 (0:Nat), .int .u64 (0:Int), .int .i64 (0:Int), .bool false]) rfl rfl (x_loadN (cs := [.int .u8 (IntKind.u8.wrap (IntKind.i64.wrap ((1:Int) + t581.1))), .int .u8 (0:Int), .int .i64 (0:Int), .int .i64 (0:Int), .int .u64 (0:Int), .int .u64 (0:Int), .int .u64 (0:Int), .int .u64 (0:Int), .bool false, (.slice none 0 0), .int .u64 (0:Int), .int .u64 (0:Int), .int .u64 (0:Int), (.slice none 0 0), .int .u64 (0:Int), .int .u64 (0:Int), .int .u64 (0:Int), (.slice none 0 0), (.slice none 0 0), (.slice none 0 0), (.slice none 0 0), .int .u64 t963.1.Session, .int .u64 t963.1.Seq, .int .i64 (0:Int), .int .u64 (0:Int), .int .u64 (0:Int), (.slice none 0 0), (.slice none 0 0), .int .u8 (0:Int), .int .u64 (0:Int), .int .u64 (0:Int), .int .u64 (0:Int), .int .u64 (0:Int), .int .i64 (0:Int), .int .u64 (0:Int), .int .u64 (0:Int), .int .u64 (0:Int), (.slice none 0 0), (.slice none 0 0), (.slice none 0 0), (.slice none 0 0), (.slice none 0 0), .int .i64 (0:Int), .int .u64 (0:Int), .int .u64 (0:Int), (.slice none 0 0), (.slice none 0 0), .int .u64 (0:Int), (.slice none 0 0), .int .u64 (0:Int), .int .i64 (0:Int), .int .i64 (0:Int), .float .f64 (0:Nat), .float .f64 (0:Nat), .int .u64 (0:Int), .int .i64 (0:Int), .bool false]) rfl Try.isAgg50 Try.sizeOf50 (hst.bcs0 0 rfl)) ?_
       replace hst := hst.pull2
       obtain ⟨w970, hr971, hst⟩ := hst.boxStore (P := Try.prog) (t := 50) (cs' := [.int .u8 (IntKind.u8.wrap (IntKind.i64.wrap ((1:Int) + t581.1))), .int .u8 (0:Int), .int .i64 (0:Int), .int .i64 (0:Int), .int .u64 (0:Int), .int .u64 (0:Int), .int .u64 (0:Int), .int .u64 (0:Int), .bool false, (.slice none 0 0), .int .u64 (0:Int), .int .u64 (0:Int), .int .u64 (0:Int), (.slice none 0 0), .int .u64 (0:Int), .int .u64 (0:Int), .int .u64 (0:Int), (.slice none 0 0), (.slice none 0 0), (.slice none 0 0), (.slice none 0 0), .int .u64 t963.1.Session, .int .u64 t963.1.Seq, .int .i64 (0:Int), .int .u64 (0:Int), .int .u64 (0:Int), (.slice none 0 0), (.slice none 0 0), .int .u8 (0:Int), .int .u64 (0:Int), .int .u64 (0:Int), .int .u64 (0:Int), .int .u64 (0:Int), .int .i64 (0:Int), .int .u64 (0:Int), .int .u64 (0:Int), .int .u64 (0:Int), (.slice none 0 0), (.slice none 0 0), (.slice none 0 0), (.slice none 0 0), (.slice none 0 0), .int .i64 (0:Int), .int .u64 (0:Int), .int .u64 (0:Int), (.slice none 0 0), (.slice none 0 0), .int .u64 (0:Int), (.slice none 0 0), .int .u64 (0:Int), .int .i64 (0:Int), .int .i64 (0:Int), .float .f64 (0:Nat), .float .f64 (0:Nat), .int .u64 (0:Int), .int .i64 (0:Int), .bool false]) 0 (.agg #[.int .u8 (IntKind.u8.wrap (IntKind.i64.wrap ((1:Int) + t581.1))), .int .u8 (0:Int), .int .i64 (0:Int), .int .i64 (0:Int), .int .u64 (0:Int), .int .u64 (0:Int), .int .u64 (0:Int), .int .u64 (0:Int), .bool false, (.slice none 0 0), .int .u64 (0:Int), .int .u64 (0:Int), .int .u64 (0:Int), (.slice none 0 0), .int .u64 (0:Int), .int .u64 (0:Int), .int .u64 (0:Int), (.slice none 0 0), (.slice none 0 0), (.slice none 0 0), (.slice none 0 0), .int .u64 t963.1.Session, .int .u64 t963.1.Seq, .int .i64 (0:Int), .int .u64 (0:Int), .int .u64 (0:Int), (.slice none 0 0), (.slice none 0 0), .int .u8 (0:Int), .int .u64 (0:Int), .int .u64 (0:Int), .int .u64 (0:Int), .int .u64 (0:Int), .int .i64 (0:Int), .int .u64 (0:Int), .int .u64 (0:Int), .int .u64 (0:Int), (.slice none 0 0), (.slice none 0 0), (.slice none 0 0), (.slice none 0 0), (.slice none 0 0), .int .i64 (0:Int), .int .u64 (0:Int), .int .u64 (0:Int), (.slice none 0 0), (.slice none 0 0), .int .u64 (0:Int), (.slice none 0 0), .int .u64 (0:Int), .int .i64 (0:Int), .int .i64 (0:Int), .float .f64 (0:Nat), .float .f64 (0:Nat), .int .u64 (0:Int), .int .i64 (0:Int), .bool false]) Try.sizeOf50 (Nat.le_of_ble_eq_true rfl) (ones_cons rfl (ones_cons rfl (ones_cons rfl (ones_cons rfl (ones_cons rfl (ones_cons rfl (ones_cons rfl (ones_cons rfl (ones_cons rfl (ones_cons rfl (ones_cons rfl (ones_cons rfl (ones_cons rfl (ones_cons rfl (ones_cons rfl (ones_cons rfl (ones_cons rfl (ones_cons rfl (ones_cons rfl (ones_cons rfl (ones_cons rfl (ones_cons rfl (ones_cons rfl (ones_cons rfl (ones_cons rfl (ones_cons rfl (ones_cons rfl (ones_cons rfl (ones_cons rfl (ones_cons rfl (ones_cons rfl (ones_cons rfl (ones_cons rfl (ones_cons rfl (ones_cons rfl (ones_cons rfl (ones_cons rfl (ones_cons rfl (ones_cons rfl (ones_cons rfl (ones_cons rfl (ones_cons rfl (ones_cons rfl (ones_cons rfl (ones_cons rfl (ones_cons rfl (ones_cons rfl (ones_cons rfl (ones_cons rfl (ones_cons rfl (ones_cons rfl (ones_cons rfl (ones_cons rfl (ones_cons rfl (ones_cons rfl (ones_cons rfl (ones_cons rfl ones_nil))))))))))))))))))))))))))))))))))))))))))))))))))))))))) (by kernel_rfl)
       refine wl_unit rfl rfl (x_unit hr971) ?_
       refine wl_nil (then_n (wp_ret ?_))
       replace hst := hst.own_nil ty_api_Entry
       replace hst := hst.own_nil (tyInt .u8)
       replace hst := hst.own_nil tyF64
       replace hst := hst.own_nil tyF2
       replace hst := hst.own_nil tyF64
       replace hst := hst.own_nil (tyInt .u8)
       replace hst := hst.own_nil ty_api_Got
       replace hst := hst.own_nil (tySl ty_api_Pair)
       replace hst := hst.own_nil tyF64
       replace hst := hst.own_nil tyF2
       replace hst := hst.own_nil tyF64
       replace hst := hst.own_nil (tyInt .u8)
       replace hst := hst.own_nil ty_api_Write
       replace hst := hst.own_nil ty_api_Got
       replace hst := hst.own_nil (tySl ty_api_Pair)
       replace hst := hst.own_nil ty_api_Part
       obtain rfl := some_inj hm
       refine post_ret (vs := [.agg #[.int .u8 (IntKind.u8.wrap (IntKind.i64.wrap ((1:Int) + t581.1))), .int .u8 (0:Int), .int .i64 (0:Int), .int .i64 (0:Int), .int .u64 (0:Int), .int .u64 (0:Int), .int .u64 (0:Int), .int .u64 (0:Int), .bool false, (.slice none 0 0), .int .u64 (0:Int), .int .u64 (0:Int), .int .u64 (0:Int), (.slice none 0 0), .int .u64 (0:Int), .int .u64 (0:Int), .int .u64 (0:Int), (.slice none 0 0), (.slice none 0 0), (.slice none 0 0), (.slice none 0 0), .int .u64 t963.1.Session, .int .u64 t963.1.Seq, .int .i64 (0:Int), .int .u64 (0:Int), .int .u64 (0:Int), (.slice none 0 0), (.slice none 0 0), .int .u8 (0:Int), .int .u64 (0:Int), .int .u64 (0:Int), .int .u64 (0:Int), .int .u64 (0:Int), .int .i64 (0:Int), .int .u64 (0:Int), .int .u64 (0:Int), .int .u64 (0:Int), (.slice none 0 0), (.slice none 0 0), (.slice none 0 0), (.slice none 0 0), (.slice none 0 0), .int .i64 (0:Int), .int .u64 (0:Int), .int .u64 (0:Int), (.slice none 0 0), (.slice none 0 0), .int .u64 (0:Int), (.slice none 0 0), .int .u64 (0:Int), .int .i64 (0:Int), .int .i64 (0:Int), .float .f64 (0:Nat), .float .f64 (0:Nat), .int .u64 (0:Int), .int .i64 (0:Int), .bool false]]) Try.results9 (rvs_cons (rv_cell (cs := [.int .u8 (IntKind.u8.wrap (IntKind.i64.wrap ((1:Int) + t581.1))), .int .u8 (0:Int), .int .i64 (0:Int), .int .i64 (0:Int), .int .u64 (0:Int), .int .u64 (0:Int), .int .u64 (0:Int), .int .u64 (0:Int), .bool false, (.slice none 0 0), .int .u64 (0:Int), .int .u64 (0:Int), .int .u64 (0:Int), (.slice none 0 0), .int .u64 (0:Int), .int .u64 (0:Int), .int .u64 (0:Int), (.slice none 0 0), (.slice none 0 0), (.slice none 0 0), (.slice none 0 0), .int .u64 t963.1.Session, .int .u64 t963.1.Seq, .int .i64 (0:Int), .int .u64 (0:Int), .int .u64 (0:Int), (.slice none 0 0), (.slice none 0 0), .int .u8 (0:Int), .int .u64 (0:Int), .int .u64 (0:Int), .int .u64 (0:Int), .int .u64 (0:Int), .int .i64 (0:Int), .int .u64 (0:Int), .int .u64 (0:Int), .int .u64 (0:Int), (.slice none 0 0), (.slice none 0 0), (.slice none 0 0), (.slice none 0 0), (.slice none 0 0), .int .i64 (0:Int), .int .u64 (0:Int), .int .u64 (0:Int), (.slice none 0 0), (.slice none 0 0), .int .u64 (0:Int), (.slice none 0 0), .int .u64 (0:Int), .int .i64 (0:Int), .int .i64 (0:Int), .float .f64 (0:Nat), .float .f64 (0:Nat), .int .u64 (0:Int), .int .i64 (0:Int), .bool false]) rfl Try.isAgg50 Try.sizeOf50 (hst.bcs16 0 rfl)) rvs_nil) ?_
       replace hst := hst.pull18
       replace hst := hst.pull1
       replace hst := hst.pull2
       replace hst := hst.pull3
       replace hst := hst.pull4
       replace hst := hst.pull5
       replace hst := hst.pull6
       replace hst := hst.pull7
       replace hst := hst.pull8
       replace hst := hst.pull9
       replace hst := hst.pull10
       replace hst := hst.pull11
       replace hst := hst.pull12
       replace hst := hst.pull13
       replace hst := hst.pull14
       replace hst := hst.pull15
       replace hst := hst.pull16
       exact ⟨_, (.slice none 0 0), (.slice none 0 0), (.slice none 0 0), (.slice none 0 0), (.slice none 0 0), (.slice none 0 0), (.slice none 0 0), (.slice none 0 0), (.slice none 0 0), (.slice none 0 0), (.slice none 0 0), (.slice none 0 0), (.slice none 0 0), (.slice none 0 0), (.slice none 0 0), (.slice none 0 0), rfl, hI0, hst.keep17⟩
      ·skip
       replace hm := bif_f hc962 hm
       refine wp_iff (congrArg Value.bool hc962) ?_
       refine wp_skip (blk_n (then_n (wp_seq (wp_region_lit ?_))))
       refine wv (.agg #[.int .u8 (IntKind.u8.wrap (IntKind.i64.wrap ((1:Int) + t581.1))), .int .u8 (0:Int), .int .i64 (0:Int), .int .i64 (0:Int), .int .u64 (0:Int), .int .u64 (0:Int), .int .u64 (0:Int), .int .u64 (0:Int), .bool false, (.slice none 0 0), .int .u64 (0:Int), .int .u64 (0:Int), .int .u64 (0:Int), (.slice none 0 0), .int .u64 (0:Int), .int .u64 (0:Int), .int .u64 (0:Int), (.slice none 0 0), (.slice none 0 0), (.slice none 0 0), (.slice none 0 0), .int .u64 (0:Int), .int .u64 (0:Int), .int .i64 (0:Int), .int .u64 (0:Int), .int .u64 (0:Int), (.slice none 0 0), (.slice none 0 0), .int .u8 (0:Int), .int .u64 (0:Int), .int .u64 (0:Int), .int .u64 (0:Int), .int .u64 (0:Int), .int .i64 (0:Int), .int .u64 (0:Int), .int .u64 (0:Int), .int .u64 (0:Int), (.slice none 0 0), (.slice none 0 0), (.slice none 0 0), (.slice none 0 0), (.slice none 0 0), .int .i64 (0:Int), .int .u64 (0:Int), .int .u64 (0:Int), (.slice none 0 0), (.slice none 0 0), .int .u64 (0:Int), (.slice none 0 0), .int .u64 (0:Int), .int .i64 (0:Int), .int .i64 (0:Int), .float .f64 (0:Nat), .float .f64 (0:Nat), .int .u64 (0:Int), .int .i64 (0:Int), .bool false]) rfl rfl (x_loadN (cs := [.int .u8 (IntKind.u8.wrap (IntKind.i64.wrap ((1:Int) + t581.1))), .int .u8 (0:Int), .int .i64 (0:Int), .int .i64 (0:Int), .int .u64 (0:Int), .int .u64 (0:Int), .int .u64 (0:Int), .int .u64 (0:Int), .bool false, (.slice none 0 0), .int .u64 (0:Int), .int .u64 (0:Int), .int .u64 (0:Int), (.slice none 0 0), .int .u64 (0:Int), .int .u64 (0:Int), .int .u64 (0:Int), (.slice none 0 0), (.slice none 0 0), (.slice none 0 0), (.slice none 0 0), .int .u64 (0:Int), .int .u64 (0:Int), .int .i64 (0:Int), .int .u64 (0:Int), .int .u64 (0:Int), (.slice none 0 0), (.slice none 0 0), .int .u8 (0:Int), .int .u64 (0:Int), .int .u64 (0:Int), .int .u64 (0:Int), .int .u64 (0:Int), .int .i64 (0:Int), .int .u64 (0:Int), .int .u64 (0:Int), .int .u64 (0:Int), (.slice none 0 0), (.slice none 0 0), (.slice none 0 0), (.slice none 0 0), (.slice none 0 0), .int .i64 (0:Int), .int .u64 (0:Int), .int .u64 (0:Int), (.slice none 0 0), (.slice none 0 0), .int .u64 (0:Int), (.slice none 0 0), .int .u64 (0:Int), .int .i64 (0:Int), .int .i64 (0:Int), .float .f64 (0:Nat), .float .f64 (0:Nat), .int .u64 (0:Int), .int .i64 (0:Int), .bool false]) rfl Try.isAgg50 Try.sizeOf50 (hst.bcs2 0 rfl)) ?_
       replace hst := hst.pull1
       obtain ⟨w972, hr973, hst⟩ := hst.boxStore (P := Try.prog) (t := 50) (cs' := [.int .u8 (IntKind.u8.wrap (IntKind.i64.wrap ((1:Int) + t581.1))), .int .u8 (0:Int), .int .i64 (0:Int), .int .i64 (0:Int), .int .u64 (0:Int), .int .u64 (0:Int), .int .u64 (0:Int), .int .u64 (0:Int), .bool false, (.slice none 0 0), .int .u64 (0:Int), .int .u64 (0:Int), .int .u64 (0:Int), (.slice none 0 0), .int .u64 (0:Int), .int .u64 (0:Int), .int .u64 (0:Int), (.slice none 0 0), (.slice none 0 0), (.slice none 0 0), (.slice none 0 0), .int .u64 (0:Int), .int .u64 (0:Int), .int .i64 (0:Int), .int .u64 (0:Int), .int .u64 (0:Int), (.slice none 0 0), (.slice none 0 0), .int .u8 (0:Int), .int .u64 (0:Int), .int .u64 (0:Int), .int .u64 (0:Int), .int .u64 (0:Int), .int .i64 (0:Int), .int .u64 (0:Int), .int .u64 (0:Int), .int .u64 (0:Int), (.slice none 0 0), (.slice none 0 0), (.slice none 0 0), (.slice none 0 0), (.slice none 0 0), .int .i64 (0:Int), .int .u64 (0:Int), .int .u64 (0:Int), (.slice none 0 0), (.slice none 0 0), .int .u64 (0:Int), (.slice none 0 0), .int .u64 (0:Int), .int .i64 (0:Int), .int .i64 (0:Int), .float .f64 (0:Nat), .float .f64 (0:Nat), .int .u64 (0:Int), .int .i64 (0:Int), .bool false]) 0 (.agg #[.int .u8 (IntKind.u8.wrap (IntKind.i64.wrap ((1:Int) + t581.1))), .int .u8 (0:Int), .int .i64 (0:Int), .int .i64 (0:Int), .int .u64 (0:Int), .int .u64 (0:Int), .int .u64 (0:Int), .int .u64 (0:Int), .bool false, (.slice none 0 0), .int .u64 (0:Int), .int .u64 (0:Int), .int .u64 (0:Int), (.slice none 0 0), .int .u64 (0:Int), .int .u64 (0:Int), .int .u64 (0:Int), (.slice none 0 0), (.slice none 0 0), (.slice none 0 0), (.slice none 0 0), .int .u64 (0:Int), .int .u64 (0:Int), .int .i64 (0:Int), .int .u64 (0:Int), .int .u64 (0:Int), (.slice none 0 0), (.slice none 0 0), .int .u8 (0:Int), .int .u64 (0:Int), .int .u64 (0:Int), .int .u64 (0:Int), .int .u64 (0:Int), .int .i64 (0:Int), .int .u64 (0:Int), .int .u64 (0:Int), .int .u64 (0:Int), (.slice none 0 0), (.slice none 0 0), (.slice none 0 0), (.slice none 0 0), (.slice none 0 0), .int .i64 (0:Int), .int .u64 (0:Int), .int .u64 (0:Int), (.slice none 0 0), (.slice none 0 0), .int .u64 (0:Int), (.slice none 0 0), .int .u64 (0:Int), .int .i64 (0:Int), .int .i64 (0:Int), .float .f64 (0:Nat), .float .f64 (0:Nat), .int .u64 (0:Int), .int .i64 (0:Int), .bool false]) Try.sizeOf50 (Nat.le_of_ble_eq_true rfl) (ones_cons rfl (ones_cons rfl (ones_cons rfl (ones_cons rfl (ones_cons rfl (ones_cons rfl (ones_cons rfl (ones_cons rfl (ones_cons rfl (ones_cons rfl (ones_cons rfl (ones_cons rfl (ones_cons rfl (ones_cons rfl (ones_cons rfl (ones_cons rfl (ones_cons rfl (ones_cons rfl (ones_cons rfl (ones_cons rfl (ones_cons rfl (ones_cons rfl (ones_cons rfl (ones_cons rfl (ones_cons rfl (ones_cons rfl (ones_cons rfl (ones_cons rfl (ones_cons rfl (ones_cons rfl (ones_cons rfl (ones_cons rfl (ones_cons rfl (ones_cons rfl (ones_cons rfl (ones_cons rfl (ones_cons rfl (ones_cons rfl (ones_cons rfl (ones_cons rfl (ones_cons rfl (ones_cons rfl (ones_cons rfl (ones_cons rfl (ones_cons rfl (ones_cons rfl (ones_cons rfl (ones_cons rfl (ones_cons rfl (ones_cons rfl (ones_cons rfl (ones_cons rfl (ones_cons rfl (ones_cons rfl (ones_cons rfl (ones_cons rfl (ones_cons rfl ones_nil))))))))))))))))))))))))))))))))))))))))))))))))))))))))) (by kernel_rfl)
       refine wl_unit rfl rfl (x_unit hr973) ?_
       refine wl_nil (then_n (wp_ret ?_))
       replace hst := hst.own_nil ty_api_Entry
       replace hst := hst.own_nil (tyInt .u8)
       replace hst := hst.own_nil tyF64
       replace hst := hst.own_nil tyF2
       replace hst := hst.own_nil tyF64
       replace hst := hst.own_nil (tyInt .u8)
       replace hst := hst.own_nil ty_api_Got
       replace hst := hst.own_nil (tySl ty_api_Pair)
       replace hst := hst.own_nil tyF64
       replace hst := hst.own_nil tyF2
       replace hst := hst.own_nil tyF64
       replace hst := hst.own_nil (tyInt .u8)
       replace hst := hst.own_nil ty_api_Write
       replace hst := hst.own_nil ty_api_Got
       replace hst := hst.own_nil (tySl ty_api_Pair)
       replace hst := hst.own_nil ty_api_Part
       obtain rfl := some_inj hm
       refine post_ret (vs := [.agg #[.int .u8 (IntKind.u8.wrap (IntKind.i64.wrap ((1:Int) + t581.1))), .int .u8 (0:Int), .int .i64 (0:Int), .int .i64 (0:Int), .int .u64 (0:Int), .int .u64 (0:Int), .int .u64 (0:Int), .int .u64 (0:Int), .bool false, (.slice none 0 0), .int .u64 (0:Int), .int .u64 (0:Int), .int .u64 (0:Int), (.slice none 0 0), .int .u64 (0:Int), .int .u64 (0:Int), .int .u64 (0:Int), (.slice none 0 0), (.slice none 0 0), (.slice none 0 0), (.slice none 0 0), .int .u64 (0:Int), .int .u64 (0:Int), .int .i64 (0:Int), .int .u64 (0:Int), .int .u64 (0:Int), (.slice none 0 0), (.slice none 0 0), .int .u8 (0:Int), .int .u64 (0:Int), .int .u64 (0:Int), .int .u64 (0:Int), .int .u64 (0:Int), .int .i64 (0:Int), .int .u64 (0:Int), .int .u64 (0:Int), .int .u64 (0:Int), (.slice none 0 0), (.slice none 0 0), (.slice none 0 0), (.slice none 0 0), (.slice none 0 0), .int .i64 (0:Int), .int .u64 (0:Int), .int .u64 (0:Int), (.slice none 0 0), (.slice none 0 0), .int .u64 (0:Int), (.slice none 0 0), .int .u64 (0:Int), .int .i64 (0:Int), .int .i64 (0:Int), .float .f64 (0:Nat), .float .f64 (0:Nat), .int .u64 (0:Int), .int .i64 (0:Int), .bool false]]) Try.results9 (rvs_cons (rv_cell (cs := [.int .u8 (IntKind.u8.wrap (IntKind.i64.wrap ((1:Int) + t581.1))), .int .u8 (0:Int), .int .i64 (0:Int), .int .i64 (0:Int), .int .u64 (0:Int), .int .u64 (0:Int), .int .u64 (0:Int), .int .u64 (0:Int), .bool false, (.slice none 0 0), .int .u64 (0:Int), .int .u64 (0:Int), .int .u64 (0:Int), (.slice none 0 0), .int .u64 (0:Int), .int .u64 (0:Int), .int .u64 (0:Int), (.slice none 0 0), (.slice none 0 0), (.slice none 0 0), (.slice none 0 0), .int .u64 (0:Int), .int .u64 (0:Int), .int .i64 (0:Int), .int .u64 (0:Int), .int .u64 (0:Int), (.slice none 0 0), (.slice none 0 0), .int .u8 (0:Int), .int .u64 (0:Int), .int .u64 (0:Int), .int .u64 (0:Int), .int .u64 (0:Int), .int .i64 (0:Int), .int .u64 (0:Int), .int .u64 (0:Int), .int .u64 (0:Int), (.slice none 0 0), (.slice none 0 0), (.slice none 0 0), (.slice none 0 0), (.slice none 0 0), .int .i64 (0:Int), .int .u64 (0:Int), .int .u64 (0:Int), (.slice none 0 0), (.slice none 0 0), .int .u64 (0:Int), (.slice none 0 0), .int .u64 (0:Int), .int .i64 (0:Int), .int .i64 (0:Int), .float .f64 (0:Nat), .float .f64 (0:Nat), .int .u64 (0:Int), .int .i64 (0:Int), .bool false]) rfl Try.isAgg50 Try.sizeOf50 (hst.bcs16 0 rfl)) rvs_nil) ?_
       replace hst := hst.pull17
       replace hst := hst.pull1
       replace hst := hst.pull2
       replace hst := hst.pull3
       replace hst := hst.pull4
       replace hst := hst.pull5
       replace hst := hst.pull6
       replace hst := hst.pull7
       replace hst := hst.pull8
       replace hst := hst.pull9
       replace hst := hst.pull10
       replace hst := hst.pull11
       replace hst := hst.pull12
       replace hst := hst.pull13
       replace hst := hst.pull14
       replace hst := hst.pull15
       replace hst := hst.pull16
       exact ⟨_, (.slice none 0 0), (.slice none 0 0), (.slice none 0 0), (.slice none 0 0), (.slice none 0 0), (.slice none 0 0), (.slice none 0 0), (.slice none 0 0), (.slice none 0 0), (.slice none 0 0), (.slice none 0 0), (.slice none 0 0), (.slice none 0 0), (.slice none 0 0), (.slice none 0 0), (.slice none 0 0), rfl, hI0, hst.keep17⟩

end Go.Proofs.Ytldfdainhdiffaa
