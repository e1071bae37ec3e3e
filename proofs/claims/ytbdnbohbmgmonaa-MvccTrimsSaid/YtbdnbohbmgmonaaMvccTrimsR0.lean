/- The Go functions refine their models, part 0. -/
import Derived.Test.YtbdnbohbmgmonaaMvccTrimsT
set_option linter.unusedVariables false
set_option linter.unusedSimpArgs false
set_option maxRecDepth 100000
set_option maxHeartbeats 4000000
namespace Go.Proofs.Ytbdnbohbmgmonaa
open Go Go.V
open _root_.Go.Proofs.Try IntKind
attribute [local irreducible] wpList Code.wp wpQuiet Calls bodyPost Oper.wp wpS Nx PendOK YieldsIn
theorem mvcc_New_ref {w0 w : World} {I : HL} {R : SP}   (hst : St w0 w I [] R) {r : (mvcc_Store)} (hm : mvcc_New = some r) :
  Calls prog 21 #[] w fun e w' => ∃ (q0 : Value), e = .returned (q0) ∧ St w0 w' I [at_mvcc_Store q0 r] R := by {
 unfold mvcc_New at hm
 refine calls_start (args := []) func21 z ntmps21 (Nat.le_of_ble_eq_true z) ?_
 refine wp_seq (wrl (wv (.pointer none) z z z (wl_nil (tn (wp_seq (wrl (wv (.agg #[Zs]) z z (by kernel_rfl) ?_)))))))
 obtain ⟨b12, w13, ew14, eb15, hst⟩ := hst.box [Zs] 79
 refine wl_run (v := Pt b12 0) (w' := w13) z z (x_al (by kernel_rfl) ew14 eb15) ?_
 refine wv (Pt b12 0) z z z (wl_nil (tn (wp_ret ?_)))
 replace hst := hst.nest_nil nest_mvcc_row
 replace hst := hst.pull1
 replace hst := at_mvcc_Store_close (pv := Pt b12 0) (x := ({ rows := [] } : mvcc_Store)) hst z
 obtain rfl := some_inj hm
 refine post_ret (vs := [Pt b12 0]) results21 (rvs_cons (rv_tmp z) rvs_nil) ?_
 exact ⟨.pointer (some ⟨b12, 0, none⟩), z, hst.keep1⟩
}

theorem law11_at_ref {w0 w : World} {I : HL} {R : SP} {a0 : law11_Ver} {r0_0 : Value} (f0_0 : Rd (tyInt .u8) R I r0_0 a0.V) (hst : St w0 w I [] R) {r : (Nat)} (hm : law11_at a0 = some r) :
  Calls prog 28 #[.agg #[U1 a0.At, F6 a0.X, U1 a0.E, U1 a0.I, .bool a0.Del, r0_0]] w fun e w' => e = .returned (.float .f64 r) ∧ St w0 w' I [] R := by {
 unfold law11_at at hm
 refine calls_start (args := [.agg #[U1 a0.At, F6 a0.X, U1 a0.E, U1 a0.I, .bool a0.Del, r0_0]]) func28 z ntmps28 (Nat.le_of_ble_eq_true z) ?_
 refine wp_seq (wrl ?_)
 obtain ⟨b44, w45, ew46, eb47, hst⟩ := hst.box [U1 a0.At, F6 a0.X, U1 a0.E, U1 a0.I, .bool a0.Del, r0_0] 64
 refine wl_run (v := Pt b44 0) (w' := w45) z z (x_al (by kernel_rfl) ew46 eb47) ?_
 refine wv (.float .f64 (0:Nat)) z z z (wl_nil (tn (wp_seq (wrl ?_))))
 obtain ⟨b49, w50, ew51, eb52, hst⟩ := hst.lits (E := tyF64) (xs := [(0:Nat), (4607182418800017408:Nat), (13830554455654793216:Nat), (4602678819172646912:Nat)]) [[Zf], [F6 (4607182418800017408:Nat)], [F6 (13830554455654793216:Nat)], [F6 (4602678819172646912:Nat)]] 23 4 z (Reps.cons z (Reps.cons z (Reps.cons z (Reps.cons z Reps.nil))))
 refine wl_run (v := (.slice (some ⟨b49, 0, none⟩) 4 4)) (w' := w50) z z (x_als (by kernel_rfl) ew51 eb52) ?_
 refine wv ((.slice (some ⟨b49, 0, none⟩) 4 4)) z z z (wl_nil (tn (wp_seq (wp_seq (wrl (wv (Pt b44 0) z z (x_field z underlying64 z sizeOf5 z) (wv (.int .u8 a0.At) z z (x_load z isAgg5 (hst.bc1 z)) (wv (.int .u8 (Int.tmod a0.At (6:Int))) z z (x_rem (by decide) z z) (wv (.bool (decide ((Int.tmod a0.At (6:Int)) < (4:Int)))) z z z (wl_nil (tn ?_)))))))))))
 refine bsplit (decide ((Int.tmod a0.At (6:Int)) < (4:Int))) (fun hc54 => ?_) (fun hc54 => ?_)
 {
 replace hm := bif_t hc54 hm
 refine wp_ift (cvb hc54) ?_
 refine wp_seq (wrl (wv ((.slice (some ⟨b49, 0, none⟩) 4 4)) z z z (wv (Pt b44 0) z z (x_field z underlying64 z sizeOf5 z) (wv (.int .u8 a0.At) z z (x_load z isAgg5 (hst.bc1 z)) (wv (.int .u8 (Int.tmod a0.At (6:Int))) z z (x_rem (by decide) z z) ?_)))))
 obtain ⟨x55, hx56, hm⟩ := bind_some hm
 obtain ⟨h57, h58, hi59⟩ := geto_some hx56
 refine wv (.pointer (some (eAddr (.slice (some ⟨b49, 0, none⟩) 4 4) ((Int.tmod a0.At (6:Int)).toNat * 1 + 0)))) z z (x_index z z underlying44 sizeOf23 hst.sv0 h57 h58) (wv (.float .f64 x55) z z (x_load z isAgg23 (hst.ol0 hi59 (by rintro _ rfl; rfl))) (wv (.float .f64 x55) z z z (wl_nil (tn (wp_ret (then_r ?_))))))
 obtain rfl := some_inj hm
 refine post_ret (vs := [F6 x55]) results28 (rvs_cons (rv_tmp z) rvs_nil) ?_
 exact ⟨z, hst.keep0⟩
}
 {
 replace hm := bif_f hc54 hm
 refine wp_iff (cvb hc54) ?_
 refine wp_skip (tn (wp_seq (wrl ?_)))
 refine wv (Pt b44 1) z z (x_field z underlying64 z sizeOf23 z) (wv (.float .f64 a0.X) z z (x_load z isAgg23 (hst.bc1 z)) (wv (.float .f64 a0.X) z z z (wl_nil (tn (wp_ret ?_)))))
 obtain rfl := some_inj hm
 refine post_ret (vs := [F6 a0.X]) results28 (rvs_cons (rv_tmp z) rvs_nil) ?_
 exact ⟨z, hst.keep0⟩
}
}

theorem slices_Clone_byte_byte_ref {w0 w : World} {I : HL} {R : SP} {a0 : (List Int)} {r0_0 : Value} (f0_0 : Rd (tyInt .u8) R I r0_0 a0) (hst : St w0 w I [] R) {r : (List Int)} (hm : slices_Clone_byte_byte a0 = some r) :
  Calls prog 41 #[r0_0] w fun e w' => ∃ (q0_0 : Value), e = .returned (q0_0) ∧ St w0 w' I [ownS (tyInt .u8) q0_0 r] R := by {
 unfold slices_Clone_byte_byte at hm
 obtain ⟨hg, hm⟩ := gd_some hm
 obtain rfl := some_inj hm
 have hsv := rd_sliceV f0_0
 refine calls_start (args := [r0_0]) func41 z ntmps41 (Nat.le_of_ble_eq_true z) ?_
 refine wp_seq (wrl (wv ((.slice none 0 0)) z z z (wl_nil (tn (wp_seq (wp_seq (wrl (wv (r0_0) z z z (wv (.bool (isNil r0_0)) z z (x_slnil z hsv z underlying32) (wl_nil (tn ?_)))))))))))
 refine bsplit (isNil r0_0) (fun hc78 => ?_) (fun hc78 => ?_)
 {
 refine wp_ift (cvb hc78) ?_
 refine wp_seq (wrl (wv ((.slice none 0 0)) z z z (wl_nil (tn (wp_ret (then_r ?_))))))
 refine post_ret (vs := [Zs]) results41 (rvs_cons (rv_tmp z) rvs_nil) ?_
 obtain rfl := List.eq_nil_of_length_eq_zero (isNil_len hsv hc78)
 exact ⟨_, z, (hst.own_nil (tyInt .u8)).keep1⟩
}
 {
 refine wp_iff (cvb hc78) ?_
 refine wp_skip (tn (wp_seq (wrl ?_)))
 obtain ⟨b, w1, ew, eb, hst⟩ := hst.lits (E := (tyInt .u8)) (xs := []) [] 5 0 z Reps.nil
 refine wl_run (v := (.slice (some ⟨b, 0, none⟩) 0 0)) (w' := w1) z z (x_als (by kernel_rfl) ew eb) ?_
 refine wv (r0_0) z z z ?_
 obtain ⟨v2, w2, hr, hst⟩ := run_append elem_32 underlying32 hst (Src.of_rd hst f0_0 flat_int) (room_of hg z) 32
 refine wl_run (v := v2) (w' := w2) z z (x_append z z hr) ?_
 refine wv (v2) z z z (wl_nil (tn (wp_ret ?_)))
 refine post_ret (vs := [v2]) results41 (rvs_cons (rv_tmp z) rvs_nil) ?_
 rw [List.nil_append] at hst
 exact ⟨_, z, hst.keep1⟩
}
}

theorem math_IsNaN_ref {w0 w : World} {I : HL} {R : SP} {a0 : Nat}  (hst : St w0 w I [] R) {r : (Bool)} (hm : math_IsNaN a0 = some r) :
  Calls prog 59 #[F6 a0] w fun e w' => e = .returned (.bool r) ∧ St w0 w' I [] R := by {
 unfold math_IsNaN at hm
 refine calls_start (args := [F6 a0]) func59 z ntmps59 (Nat.le_of_ble_eq_true z) ?_
 refine wp_seq (wrl (wv (.bool false) z z z (wl_nil (tn (wp_seq (wrl (wv (.float .f64 a0) z z z (wv (.float .f64 a0) z z z (wv (.bool (fNe a0 a0)) z z z (wv (.bool (fNe a0 a0)) z z z (wl_nil (tn (wp_ret ?_)))))))))))))
 obtain rfl := some_inj hm
 refine post_ret (vs := [.bool (fNe a0 a0)]) results59 (rvs_cons (rv_tmp z) rvs_nil) ?_
 exact ⟨z, hst.keep0⟩
}

theorem number_Rank_ref {w0 w : World} {I : HL} {R : SP} {a0 : Nat}  (hst : St w0 w I [] R) {r : (Int)} (hm : number_Rank a0 = some r) :
  Calls prog 32 #[F6 a0] w fun e w' => e = .returned (.int .u64 r) ∧ St w0 w' I [] R := by {
 unfold number_Rank at hm
 refine calls_start (args := [F6 a0]) func32 z ntmps32 (Nat.le_of_ble_eq_true z) ?_
 refine wp_seq (wrl (wv (.int .u64 (0:Int)) z z z (wl_nil (tn (wp_seq (wp_seq (wrl (wv (.float .f64 a0) z z z ?_))))))))
 obtain ⟨t106, ht107, hm⟩ := bind_some hm
 refine wc call59 [F6 a0] z z z ?_
 refine (math_IsNaN_ref hst.to0 ht107).mono ?_
 rintro _ w108 ⟨rfl, hst⟩
 refine ⟨_, z, ?_⟩
 replace hst := hst.of0
 refine wl_nil (tn ?_)
 refine bsplit t106 (fun hc111 => ?_) (fun hc111 => ?_)
 {
 replace hm := bif_t hc111 hm
 refine wp_ift (cvb hc111) ?_
 refine wp_seq (wrl (wv (.int .u64 (18446744073709551615:Int)) z z z (wl_nil (tn (wp_ret (then_r ?_))))))
 obtain rfl := some_inj hm
 refine post_ret (vs := [U6 (18446744073709551615:Int)]) results32 (rvs_cons (rv_tmp z) rvs_nil) ?_
 exact ⟨z, hst.keep0⟩
}
 {
 replace hm := bif_f hc111 hm
 refine wp_iff (cvb hc111) ?_
 refine wp_skip (tn (wp_seq (wrl ?_)))
 refine wv (.float .f64 a0) z z z (wv (.int .u64 (Int.ofNat a0)) z z (by kernel_rfl) (wv (.int .u64 (Int.ofNat a0)) z z z (wl_nil (tn (wp_seq (wp_seq (wrl (wv (.int .u64 (Int.ofNat a0)) z z z (wv (.int .u64 (iShr .u64 (Int.ofNat a0) (63:Int))) z z (x_shr (by decide) z z) (wv (.bool ((iShr .u64 (Int.ofNat a0) (63:Int)) == (1:Int))) z z z (wl_nil (tn ?_))))))))))))
 refine bsplit ((iShr .u64 (Int.ofNat a0) (63:Int)) == (1:Int)) (fun hc112 => ?_) (fun hc112 => ?_)
 {
 replace hm := bif_t hc112 hm
 refine wp_ift (cvb hc112) ?_
 refine wp_seq (wrl (wv (.int .u64 (Int.ofNat a0)) z z z (wv (.int .u64 (bXor .u64 ((18446744073709551615):Int) (Int.ofNat a0))) z z (by kernel_rfl) (wv (.int .u64 (bXor .u64 ((18446744073709551615):Int) (Int.ofNat a0))) z z z (wl_nil (tn (wp_ret (then_r ?_))))))))
 obtain rfl := some_inj hm
 refine post_ret (vs := [U6 (bXor .u64 ((18446744073709551615):Int) (Int.ofNat a0))]) results32 (rvs_cons (rv_tmp z) rvs_nil) ?_
 exact ⟨z, hst.keep0⟩
}
 {
 replace hm := bif_f hc112 hm
 refine wp_iff (cvb hc112) ?_
 refine wp_skip (tn (wp_seq (wrl ?_)))
 refine wv (.int .u64 (Int.ofNat a0)) z z z (wv (.int .u64 (bOr .u64 (Int.ofNat a0) (9223372036854775808:Int))) z z z (wv (.int .u64 (bOr .u64 (Int.ofNat a0) (9223372036854775808:Int))) z z z (wl_nil (tn (wp_ret ?_)))))
 obtain rfl := some_inj hm
 refine post_ret (vs := [U6 (bOr .u64 (Int.ofNat a0) (9223372036854775808:Int))]) results32 (rvs_cons (rv_tmp z) rvs_nil) ?_
 exact ⟨z, hst.keep0⟩
}
}
}

theorem mvcc_Store_find_ref {w0 w : World} {I : HL} {R : SP} {a0 : (Option mvcc_Store)} {p0 : Value} {a1 : Int}  (hst : St w0 w I [objO at_mvcc_Store p0 a0] R) {r : (Int × Bool)} (hm : mvcc_Store_find a0 a1 = some r) :
  Calls prog 31 #[p0, U6 a1] w fun e w' => e = .returned (.tuple #[I6 r.1, .bool r.2]) ∧ St w0 w' I [objO at_mvcc_Store p0 a0] R := by {
 rcases a0 with _ | o0
 {
 obtain ⟨rfl, hst'⟩ := objO_none hst
 clear hst
 have hst := hst'
 clear hst'
 dsimp only [mvcc_Store_find] at hm
 refine calls_start (args := [.pointer none, U6 a1]) func31 z ntmps31 (Nat.le_of_ble_eq_true z) ?_
 refine wp_seq (wrl ?_)
 obtain ⟨b188, w189, ew190, eb191, hst⟩ := hst.box [.pointer none] 25
 refine wl_run (v := Pt b188 0) (w' := w189) z z (x_al (by kernel_rfl) ew190 eb191) ?_
 obtain ⟨b193, w194, ew195, eb196, hst⟩ := hst.box [U6 a1] 24
 refine wl_run (v := Pt b193 0) (w' := w194) z z (x_al (by kernel_rfl) ew195 eb196) ?_
 refine wv (.int .i64 (0:Int)) z z z (wv (.bool false) z z z (wl_nil (tn (wp_seq (wp_seq (wrl (wv (.pointer none) z z (x_load z isAgg25 (hst.bc1 z)) (wv (.bool true) z z (by kernel_rfl) (wl_nil (tn ?_))))))))))
 refine wp_ift z ?_
 refine wp_seq (wrl (wv (.int .i64 (0:Int)) z z z (wv (.bool false) z z z (wl_nil (tn (wp_ret (then_r ?_)))))))
 replace hst := hst.objO_nil at_mvcc_Store
 obtain rfl := some_inj hm
 refine post_ret (vs := [Zi, .bool false]) results31 (rvs_cons (rv_tmp z) (rvs_cons (rv_tmp z) rvs_nil)) ?_
 exact ⟨z, hst.keep1⟩
}
 {
 replace hst := objO_get hst
 dsimp only [mvcc_Store_find] at hm
 refine calls_start (args := [p0, U6 a1]) func31 z ntmps31 (Nat.le_of_ble_eq_true z) ?_
 refine wp_seq (wrl ?_)
 obtain ⟨b198, v199, rfl, hst'⟩ := at_mvcc_Store_open hst
 clear hst
 have hst := hst'
 clear hst'
 obtain ⟨b201, w202, ew203, eb204, hst⟩ := hst.box [Pt b198 0] 25
 refine wl_run (v := Pt b201 0) (w' := w202) z z (x_al (by kernel_rfl) ew203 eb204) ?_
 obtain ⟨b206, w207, ew208, eb209, hst⟩ := hst.box [U6 a1] 24
 refine wl_run (v := Pt b206 0) (w' := w207) z z (x_al (by kernel_rfl) ew208 eb209) ?_
 refine wv (.int .i64 (0:Int)) z z z (wv (.bool false) z z z (wl_nil (tn (wp_seq (wp_seq (wrl (wv (Pt b198 0) z z (x_load z isAgg25 (hst.bc1 z)) (wv (.bool false) z z (by kernel_rfl) (wl_nil (tn ?_))))))))))
 refine wp_iff z ?_
 refine wp_skip (tn (wp_seq (wrl ?_)))
 refine wv (Pt b198 0) z z (x_load z isAgg25 (hst.bc1 z)) (wv (Pt b198 0) z z z (wv (Pt b198 0) z z (x_field z underlying79 z sizeOf77 z) (wv (v199) z z (x_load z isAgg77 (hst.bc2 z)) (wv (.int .i64 ((o0.rows).length : Int)) z z (x_len z underlying77 (hst.nestsv 3 z)) (wv (.func (.func 58) #[] #[Pt b201 0, Pt b206 0]) z z (by kernel_rfl) ?_)))))
 obtain ⟨y261, hq262, hm⟩ := bind_some hm
 refine wl_call z z (x_callv call38 (caps := []) z (vs := [I6 ((o0.rows).length : Int), .func (.func 58) #[] #[Pt b201 0, Pt b206 0]]) z) ?_
 refine Calls.mono (show Calls prog 38 #[I6 ((o0.rows).length : Int), .func (.func 58) #[] #[Pt b201 0, Pt b206 0]] _ (fun e w' => ∃ (z259 : Int), z259 = y261 ∧ e = .returned (.int .i64 z259) ∧ St w0 w' I [cells b198 [v199], ownN nest_mvcc_row v199 o0.rows, cells b201 [Pt b198 0], cells b206 [U6 a1]] R) from ?_) ?_
 {
 clear hm; have hm := hq262
 refine calls_start (args := [I6 ((o0.rows).length : Int), .func (.func 58) #[] #[Pt b201 0, Pt b206 0]]) func38 z ntmps38 (Nat.le_of_ble_eq_true z) ?_
 refine wp_seq (wrl (wv (.int .i64 (0:Int)) z z z (wl_nil (tn (wp_seq (wrl (wv (.int .i64 ((o0.rows).length : Int)) z z z (wv (.int .i64 (0:Int)) z z z (wv (.int .i64 ((o0.rows).length : Int)) z z z (wl_nil (tn (wp_seq (wp_block ?_)))))))))))))
 obtain ⟨n240, hm⟩ := loopO_some hm
 refine wp_loop_n (fun n a w => ∃ (z237 : Int) (z238 : Int) (σ239 : Nat → Value), loopN (mvcc_Store_find_l0 o0 a1) n (z237, z238) = some y261 ∧ a = Fr 26 (upd (upd (upd σ239 1 (.func (.func 58) #[] #[Pt b201 0, Pt b206 0])) 5 (.int .i64 z237)) 6 (.int .i64 z238)) ∧ St w0 w I [cells b206 [U6 a1], cells b201 [Pt b198 0], cells b198 [v199], ownN nest_mvcc_row v199 o0.rows] R) n240 ⟨(0:Int), ((o0.rows).length : Int), _, hm, (fu 1 (.func (.func 58) #[] #[Pt b201 0, Pt b206 0]) z (fu 5 (.int .i64 (0:Int)) z (fu 6 (.int .i64 ((o0.rows).length : Int)) z z))), hst⟩ ?_
 rintro n246 _ w241 ⟨z237, z238, σ239, hm, rfl, hst⟩
 obtain ⟨n243, y244, rfl, hm, hx245⟩ := loopN_some hm
 dsimp only [mvcc_Store_find_l0] at hm
 refine wp_seq (wp_seq (wrl (wv (.int .i64 z237) z z z (wv (.int .i64 z238) z z z (wv (.bool (decide (z237 < z238))) z z z (wl_nil (tn ?_)))))))
 refine bsplit (decide (z237 < z238)) (fun hc247 => ?_) (fun hc247 => ?_)
 {
 replace hm := bif_t hc247 hm
 refine wp_ift (cvb hc247) ?_
 refine wp_skip (tn (wp_block (wp_seq (wrl ?_))))
 refine wv (.int .i64 z237) z z z (wv (.int .i64 z238) z z z (wv (.int .i64 (i64.wrap (z237 + z238))) z z z (wv (.int .u64 (u64.wrap (i64.wrap (z237 + z238)))) z z (by kernel_rfl) (wv (.int .u64 (iShr .u64 (u64.wrap (i64.wrap (z237 + z238))) (1:Int))) z z (x_shr (by decide) z z) (wv (.int .i64 (i64.wrap (iShr .u64 (u64.wrap (i64.wrap (z237 + z238))) (1:Int)))) z z (by kernel_rfl) (wv (.int .i64 (i64.wrap (iShr .u64 (u64.wrap (i64.wrap (z237 + z238))) (1:Int)))) z z z (wl_nil (tn (wp_seq (wrl (wv (.func (.func 58) #[] #[Pt b201 0, Pt b206 0]) z z z (wv (.int .i64 (i64.wrap (iShr .u64 (u64.wrap (i64.wrap (z237 + z238))) (1:Int)))) z z z ?_))))))))))))
 obtain ⟨y255, hq256, hm⟩ := bind_some hm
 refine wl_call z z (x_callv call58 (caps := [Pt b201 0, Pt b206 0]) z (vs := [I6 (i64.wrap (iShr .u64 (u64.wrap (i64.wrap (z237 + z238))) (1:Int)))]) z) ?_
 refine Calls.mono (show Calls prog 58 #[I6 (i64.wrap (iShr .u64 (u64.wrap (i64.wrap (z237 + z238))) (1:Int))), Pt b201 0, Pt b206 0] _ (fun e w' => ∃ (z253 : Bool), z253 = y255 ∧ e = .returned (.bool z253) ∧ St w0 w' I [cells b198 [v199], ownN nest_mvcc_row v199 o0.rows, cells b201 [Pt b198 0], cells b206 [U6 a1]] R) from ?_) ?_
 {
 clear hm; have hm := hq256
 refine calls_start (args := [I6 (i64.wrap (iShr .u64 (u64.wrap (i64.wrap (z237 + z238))) (1:Int))), Pt b201 0, Pt b206 0]) func58 z ntmps58 (Nat.le_of_ble_eq_true z) ?_
 refine wp_seq (wrl (wv (.bool false) z z z (wl_nil (tn (wp_seq ?_)))))
 refine wq_regionS hst Try.mixed (by kernel_rfl) ?_
 refine wq_run (v := Pt b198 0) z z (fun w hst => x_load z isAgg25 (hst.bc1 z)) ?_
 refine wq_run (v := Pt b198 0) z z (fun w hst => z) ?_
 refine wq_run (v := Pt b198 0) z z (fun w hst => x_field z underlying79 z sizeOf77 z) ?_
 refine wq_run (v := v199) z z (fun w hst => x_load z isAgg77 (hst.bc2 z)) ?_
 refine wq_run (v := .int .i64 (i64.wrap (iShr .u64 (u64.wrap (i64.wrap (z237 + z238))) (1:Int)))) z z (fun w hst => z) ?_
 obtain ⟨x248, hx249, hm⟩ := bind_some hm
 obtain ⟨h250, h251, hi252⟩ := geto_some hx249
 refine wq_run (v := .pointer (some (eAddr v199 ((i64.wrap (iShr .u64 (u64.wrap (i64.wrap (z237 + z238))) (1:Int))).toNat * 2 + 0)))) z z (fun w hst => x_index z z underlying77 sizeOf76 (hst.nestsv 3 z) h250 h251) ?_
 refine wq_run (v := .pointer (some (eAddr v199 ((i64.wrap (iShr .u64 (u64.wrap (i64.wrap (z237 + z238))) (1:Int))).toNat * 2 + 0)))) z z (fun w hst => x_field_e z underlying76 z sizeOf24 z) ?_
 refine wq_run (v := .int .u64 x248.rank) z z (fun w hst => x_load z isAgg24 (hst.nestc (N := nest_mvcc_row) (i := (i64.wrap (iShr .u64 (u64.wrap (i64.wrap (z237 + z238))) (1:Int))).toNat) (o := 0) 3 z hi252 (fun _ => z))) ?_
 refine wq_run (v := .int .u64 a1) z z (fun w hst => x_load z isAgg24 (hst.bc0 z)) ?_
 refine wq_run (v := .bool (decide (x248.rank ≥ a1))) z z (fun w hst => z) ?_
 refine wq_run (v := .bool (decide (x248.rank ≥ a1))) z z (fun w hst => z) ?_
 refine wq_nil ?_
 intro w hst
 refine tn (wp_ret ?_)
 refine post_ret (vs := [.bool (decide (x248.rank ≥ a1))]) results58 (rvs_cons (rv_tmp z) rvs_nil) ?_
 replace hst := hst.pull1.pull3.pull3.keep4
 obtain rfl := some_inj hm
 exact ⟨(decide (x248.rank ≥ a1)), z, z, hst⟩
}
 clear hst
 rintro _ w257 ⟨z253, rfl, rfl, hst⟩
 refine ⟨_, z, ?_⟩
 try dsimp only at hm
 refine wv (.bool (!z253)) z z z (wl_nil (tn ?_))
 refine bsplit (!z253) (fun hc258 => ?_) (fun hc258 => ?_)
 {
 replace hm := bif_t hc258 hm
 refine wp_ift (cvb hc258) ?_
 refine wrl (wv (.int .i64 (i64.wrap (iShr .u64 (u64.wrap (i64.wrap (z237 + z238))) (1:Int)))) z z z (wv (.int .i64 (i64.wrap ((i64.wrap (iShr .u64 (u64.wrap (i64.wrap (z237 + z238))) (1:Int))) + (1:Int)))) z z z (wv (.int .i64 (i64.wrap ((i64.wrap (iShr .u64 (u64.wrap (i64.wrap (z237 + z238))) (1:Int))) + (1:Int)))) z z z (wl_nil (blk_n (tn ?_))))))
 replace hst := hst.pull1.pull1.pull2.pull3.keep4
 obtain rfl := some_inj hm
 exact ⟨_, Nat.lt_succ_self _, (i64.wrap ((i64.wrap (iShr .u64 (u64.wrap (i64.wrap (z237 + z238))) (1:Int))) + (1:Int))), z238, _, hx245, (fu 1 (.func (.func 58) #[] #[Pt b201 0, Pt b206 0]) z (fu 5 (.int .i64 (i64.wrap ((i64.wrap (iShr .u64 (u64.wrap (i64.wrap (z237 + z238))) (1:Int))) + (1:Int)))) z (fu 6 (.int .i64 z238) z z))), hst⟩
}
 {
 replace hm := bif_f hc258 hm
 refine wp_iff (cvb hc258) ?_
 refine wrl (wv (.int .i64 (i64.wrap (iShr .u64 (u64.wrap (i64.wrap (z237 + z238))) (1:Int)))) z z z (wv (.int .i64 (i64.wrap (iShr .u64 (u64.wrap (i64.wrap (z237 + z238))) (1:Int)))) z z z (wl_nil (blk_n (tn ?_)))))
 replace hst := hst.pull1.pull1.pull2.pull3.keep4
 obtain rfl := some_inj hm
 exact ⟨_, Nat.lt_succ_self _, z237, (i64.wrap (iShr .u64 (u64.wrap (i64.wrap (z237 + z238))) (1:Int))), _, hx245, (fu 1 (.func (.func 58) #[] #[Pt b201 0, Pt b206 0]) z (fu 5 (.int .i64 z237) z (fu 6 (.int .i64 (i64.wrap (iShr .u64 (u64.wrap (i64.wrap (z237 + z238))) (1:Int)))) z z))), hst⟩
}
}
 {
 replace hm := bif_f hc247 hm
 refine wp_iff (cvb hc247) ?_
 refine wp_exit (then_x (then_x ?_))
 replace hm := inr_up hm hx245
 refine blk_x (tn (wp_seq (wrl ?_)))
 refine wv (.int .i64 z237) z z z (wv (.int .i64 z237) z z z (wl_nil (tn (wp_ret ?_))))
 refine post_ret (vs := [I6 z237]) results38 (rvs_cons (rv_tmp z) rvs_nil) ?_
 replace hst := hst.pull1.pull3.pull3.keep4
 obtain rfl := some_inj hm
 exact ⟨z237, z, z, hst⟩
}
}
 clear hst
 rintro _ w263 ⟨z259, rfl, rfl, hst⟩
 refine ⟨_, z, ?_⟩
 try dsimp only at hm
 refine wv (.int .i64 z259) z z z (wl_nil (tn (wp_seq ?_)))
 refine wq_regionS hst Try.mixed (by kernel_rfl) ?_
 refine wq_run (v := .int .i64 z259) z z (fun w hst => z) ?_
 refine wq_run (v := .int .i64 z259) z z (fun w hst => z) ?_
 refine wq_run (v := Pt b198 0) z z (fun w hst => x_load z isAgg25 (hst.bc2 z)) ?_
 refine wq_run (v := Pt b198 0) z z (fun w hst => z) ?_
 refine wq_run (v := Pt b198 0) z z (fun w hst => x_field z underlying79 z sizeOf77 z) ?_
 refine wq_run (v := v199) z z (fun w hst => x_load z isAgg77 (hst.bc0 z)) ?_
 refine wq_run (v := .int .i64 ((o0.rows).length : Int)) z z (fun w hst => x_len z underlying77 (hst.nestsv 1 z)) ?_
 refine wq_run (v := .bool (decide (z259 < ((o0.rows).length : Int)))) z z (fun w hst => z) ?_
 refine wq_run (v := .bool (decide (z259 < ((o0.rows).length : Int)))) z z (fun w hst => z) ?_
 refine bsplit (decide (z259 < ((o0.rows).length : Int))) (fun hc264 => ?_) (fun hc264 => ?_)
 {
 replace hm := bif_t hc264 hm
 refine wq_run (v := Pt b198 0) ((wanted_eq z z z (cvb hc264)).trans z) z (fun w hst => x_load z isAgg25 (hst.bc2 z)) ?_
 refine wq_run (v := Pt b198 0) ((wanted_eq z z z (cvb hc264)).trans z) z (fun w hst => z) ?_
 refine wq_run (v := Pt b198 0) ((wanted_eq z z z (cvb hc264)).trans z) z (fun w hst => x_field z underlying79 z sizeOf77 z) ?_
 refine wq_run (v := v199) ((wanted_eq z z z (cvb hc264)).trans z) z (fun w hst => x_load z isAgg77 (hst.bc0 z)) ?_
 refine wq_run (v := .int .i64 z259) ((wanted_eq z z z (cvb hc264)).trans z) z (fun w hst => z) ?_
 obtain ⟨x265, hx266, hm⟩ := bind_some hm
 obtain ⟨h267, h268, hi269⟩ := geto_some hx266
 refine wq_run (v := .pointer (some (eAddr v199 (z259.toNat * 2 + 0)))) ((wanted_eq z z z (cvb hc264)).trans z) z (fun w hst => x_index z z underlying77 sizeOf76 (hst.nestsv 1 z) h267 h268) ?_
 refine wq_run (v := .pointer (some (eAddr v199 (z259.toNat * 2 + 0)))) ((wanted_eq z z z (cvb hc264)).trans z) z (fun w hst => x_field_e z underlying76 z sizeOf24 z) ?_
 refine wq_run (v := .int .u64 x265.rank) ((wanted_eq z z z (cvb hc264)).trans z) z (fun w hst => x_load z isAgg24 (hst.nestc (N := nest_mvcc_row) (i := z259.toNat) (o := 0) 1 z hi269 (fun _ => z))) ?_
 refine wq_run (v := .int .u64 a1) ((wanted_eq z z z (cvb hc264)).trans z) z (fun w hst => x_load z isAgg24 (hst.bc3 z)) ?_
 refine wq_run (v := .bool (x265.rank == a1)) ((wanted_eq z z z (cvb hc264)).trans z) z (fun w hst => z) ?_
 refine wq_run (v := .bool (x265.rank == a1)) z z (fun w hst => x_pick_t hc264 z z) ?_
 refine wq_run (v := .int .i64 z259) z z (fun w hst => z) ?_
 refine wq_run (v := .bool (x265.rank == a1)) z z (fun w hst => z) ?_
 refine wq_nil ?_
 intro w hst
 refine tn (wp_ret ?_)
 replace hst := hst.pull1.pull1
 replace hst := at_mvcc_Store_close (pv := Pt b198 0) (x := o0) hst z
 replace hst := objO_some hst
 obtain rfl := some_inj hm
 refine post_ret (vs := [I6 z259, .bool (x265.rank == a1)]) results31 (rvs_cons (rv_tmp z) (rvs_cons (rv_tmp z) rvs_nil)) ?_
 exact ⟨z, hst.keep1⟩
}
 {
 replace hm := bif_f hc264 hm
 refine wq_off ((wanted_eq z z z (cvb hc264)).trans z) z ?_
 refine wq_off ((wanted_eq z z z (cvb hc264)).trans z) z ?_
 refine wq_off ((wanted_eq z z z (cvb hc264)).trans z) z ?_
 refine wq_off ((wanted_eq z z z (cvb hc264)).trans z) z ?_
 refine wq_off ((wanted_eq z z z (cvb hc264)).trans z) z ?_
 refine wq_off ((wanted_eq z z z (cvb hc264)).trans z) z ?_
 refine wq_off ((wanted_eq z z z (cvb hc264)).trans z) z ?_
 refine wq_off ((wanted_eq z z z (cvb hc264)).trans z) z ?_
 refine wq_off ((wanted_eq z z z (cvb hc264)).trans z) z ?_
 refine wq_off ((wanted_eq z z z (cvb hc264)).trans z) z ?_
 refine wq_run (v := .bool false) z z (fun w hst => x_pick_f hc264 z z) ?_
 refine wq_run (v := .int .i64 z259) z z (fun w hst => z) ?_
 refine wq_run (v := .bool false) z z (fun w hst => z) ?_
 refine wq_nil ?_
 intro w hst
 refine tn (wp_ret ?_)
 replace hst := hst.pull1.pull1
 replace hst := at_mvcc_Store_close (pv := Pt b198 0) (x := o0) hst z
 replace hst := objO_some hst
 obtain rfl := some_inj hm
 refine post_ret (vs := [I6 z259, .bool false]) results31 (rvs_cons (rv_tmp z) (rvs_cons (rv_tmp z) rvs_nil)) ?_
 exact ⟨z, hst.keep1⟩
}
}
}

theorem slices_Insert_mvcc_row_mvcc_row_raw_ref {w0 w : World} {I : HL} {R : SP} {a0 : (List (List Value))} {r0_0 : Value} {a1 : Int} {a2 : (List (List Value))} {r2_0 : Value} (hst : St w0 w I [ownS (tyRaw 2) r0_0 a0, ownS (tyRaw 2) r2_0 a2] R) {r : (List (List Value))} (hm : slices_Insert_mvcc_row_mvcc_row_raw a0 a1 a2 = some r) :
  Calls prog 42 #[r0_0, I6 a1, r2_0] w fun e w' => ∃ (q0_0 : Value), e = .returned (q0_0) ∧ St w0 w' I [ownS (tyRaw 2) q0_0 r] R := by {
 unfold slices_Insert_mvcc_row_mvcc_row_raw at hm
 obtain ⟨hg, hm⟩ := gd_some hm
 obtain rfl := some_inj hm
 obtain ⟨hi0, hi1, hrm⟩ := insOK_of hg
 obtain ⟨k, rfl⟩ := Int.eq_ofNat_of_zero_le hi0
 have hsm := room_sum hrm
 have hk : k ≤ a0.length := by omega
 have hs : ∀ w : World, (sizeOf 76).run prog w = .ok (tyRaw 2).sz w := sizeOf76
 have hs0 : 0 < (tyRaw 2).sz := Nat.le_of_ble_eq_true rfl
 have hov : ∀ (args : Array Value) (w : World), (callFunc 64 args).run prog w = (Extern.SlicesOverlaps.overlaps #[77, 77] #[4] args >>= fun v => (pure (.value v) : Sem Next)).run prog w := by intro args w; kernel_rfl
 obtain ⟨css, hr, hst⟩ := hst.own_open
 replace hst := hst.pull1
 obtain ⟨dss, hq, hst⟩ := hst.own_open
 replace hst := hst.pull1
 obtain ⟨n, hn⟩ : ∃ n, css.length = n := ⟨_, rfl⟩
 obtain ⟨m, hm'⟩ : ∃ m, dss.length = m := ⟨_, rfl⟩
 have hln : a0.length = n := hr.1.trans hn
 have hlm : a2.length = m := hq.1.trans hm'
 rw [hln] at hsm hk
 rw [hlm] at hsm
 have hsv : SliceV r0_0 n := by have := hst.row_form.2; rwa [hn] at this
 have hsq : SliceV r2_0 m := by have := hst.pull1.row_form.2; rwa [hm'] at this
 have hoc := hr.ones
 have hoq := hq.ones
 have hw1 := wrap_add (a := n) (b := m) (by omega)
 have hw2 := wrap_add (a := k) (b := m) (by omega)
 have hw3 := wrap_sub (a := n + m) (b := k) (by omega) (by omega)
 have hrb := room_of (b := 32) hrm rfl
 rw [hln, hlm] at hrb
 refine calls_start (args := [r0_0, I6 (k : Int), r2_0]) func42 z ntmps42 (Nat.le_of_ble_eq_true z) ?_
 refine wp_seq (wrl (wv ((.slice none 0 0)) z z z (wl_nil (tn (wp_seq (wrl (wv (r0_0) z z z (wv (.int .i64 (k : Int)) z z z (wv ((slcV (tyRaw 2).sz r0_0 k n)) z z (x_slice (lo := (k : Nat)) (hi := (n : Nat)) underlying77 hs z hsv (by omega) (by omega) (by omega) .i64 .i64 (.inl z) (.inr ⟨z, z⟩)) (wl_nil (tn (wp_seq (wrl (wv (r2_0) z z z (wv (.int .i64 (m : Int)) z z (x_len z underlying77 hsq) (wv (.int .i64 (m : Int)) z z z (wl_nil (tn (wp_seq (wp_seq (wrl (wv (.int .i64 (m : Int)) z z z (wv (.bool ((m : Int) == (0:Int))) z z z ?_)))))))))))))))))))))))
 refine wl_nil (tn ?_)
 refine bsplit ((m : Int) == (0:Int)) (fun hc110 => ?_) (fun hc110 => ?_)
 {
 refine wp_ift (cvb hc110) ?_
 refine wp_seq (wrl (wv (r0_0) z z z (wv (r0_0) z z z (wl_nil (tn (wp_ret (then_r ?_)))))))
 refine post_ret (vs := [r0_0]) results42 (rvs_cons (rv_tmp z) rvs_nil) ?_
 rw [ins_nil (by rw [hlm]; exact hc110)]
 exact ⟨_, z, (hst.own_close hr).keep1⟩
}
 {
 refine wp_iff (cvb hc110) ?_
 have hm0 : m ≠ 0 := fun h => by rw [h] at hc110; cases hc110
 have hq0 : dss ≠ [] := fun h => hm0 (by rw [← hm', h]; rfl)
 refine wp_skip (tn (wp_seq (wrl ?_)))
 refine wv (r0_0) z z z (wv (.int .i64 (n : Int)) z z (x_len z underlying77 hsv) (wv (.int .i64 (n : Int)) z z z (wl_nil (tn (wp_seq (wp_seq (wrl (wv (.int .i64 (k : Int)) z z z (wv (.int .i64 (n : Int)) z z z (wv (.bool ((k : Int) == (n : Int))) z z z (wl_nil (tn ?_))))))))))))
 refine bsplit ((k : Int) == (n : Int)) (fun hc111 => ?_) (fun hc111 => ?_)
 {
 refine wp_ift (cvb hc111) ?_
 refine wp_seq (wrl (wv (r0_0) z z z (wv (r2_0) z z z ?_)))
 replace hst := (hst.own_close hr).pull1.own_close hq
 replace hst := hst.pull1
 obtain ⟨v2, w2, hra, hst⟩ := run_append elemN_77 underlying77 hst hst.src1 (room_of hrm z) 77
 refine wl_run (v := v2) (w' := w2) z z (x_append z z hra) ?_
 refine wv (v2) z z z (wl_nil (tn (wp_ret (then_r ?_))))
 refine post_ret (vs := [v2]) results42 (rvs_cons (rv_tmp z) rvs_nil) ?_
 rw [ins_end (by rw [hln]; exact hc111)]
 exact ⟨_, z, hst.keep1⟩
}
 {
 refine wp_iff (cvb hc111) ?_
 have hkn : k ≠ n := fun h => by rw [h] at hc111; simp at hc111
 have hn0 : 0 < n := by omega
 have hc0 : css ≠ [] := fun h => by rw [h] at hn; simp at hn; omega
 refine wp_skip (tn (wp_seq (wp_seq (wrl ?_))))
 refine wv (.int .i64 (n : Int)) z z z (wv (.int .i64 (m : Int)) z z z (wv (.int .i64 ((n + m : Nat) : Int)) z z (ok_cast hw1 z) (wv (r0_0) z z z (wv (.int .i64 (sCap r0_0 : Int)) z z (x_cap z underlying77 hsv) (wv (.bool (decide (((n + m : Nat) : Int) > (sCap r0_0 : Int)))) z z z (wl_nil (tn ?_)))))))
 refine bsplit (decide (((n + m : Nat) : Int) > (sCap r0_0 : Int))) (fun hc112 => ?_) (fun hc112 => ?_)
 {
 refine wp_ift (cvb hc112) ?_
 refine wp_seq (wrl (wv (r0_0) z z z (wv (.int .i64 (k : Int)) z z z (wv ((slcV (tyRaw 2).sz r0_0 0 k)) z z (x_slice (lo := (0 : Nat)) (hi := (k : Nat)) underlying77 hs z hsv (by omega) (by omega) (by omega) .i64 .i64 (.inr ⟨z, z⟩) (.inl z)) (wv (.int .i64 (n : Int)) z z z (wv (.int .i64 (m : Int)) z z z (wv (.int .i64 ((n + m : Nat) : Int)) z z (ok_cast hw1 z) (wv (.int .i64 (k : Int)) z z z (wv (.int .i64 ((n + m - k : Nat) : Int)) z z (ok_cast hw3 z) ?_)))))))))
 obtain ⟨v2, w2, hra, hs2, zss, hzl, hst⟩ := run_app0 elemN_77 underlying3 hst k (n + m - k) (by omega) (by have := of_decide_eq_true hc112; omega) (by rw [show k + (n + m - k) = n + m by omega]; exact hrb) hs0 77
 rw [show k + (n + m - k) = n + m by omega] at hs2
 refine wl_run (v := v2) (w' := w2) z z (x_append z z hra) ?_
 refine wv (v2) z z z (wl_nil (tn (wp_seq (wrl (wv (v2) z z z (wv (.int .i64 (k : Int)) z z z (wv ((slcV (tyRaw 2).sz v2 k (n + m))) z z (x_slice (lo := (k : Nat)) (hi := ((n + m) : Nat)) underlying77 hs z hs2 (by omega) (by omega) (by omega) .i64 .i64 (.inl z) (.inr ⟨z, z⟩)) (wv (r2_0) z z z ?_))))))))
 obtain ⟨w113, hr114, hst⟩ := run_copyRows (P := prog) (t2 := 77) (ty := 3) underlying77 hs hst hst.pull2 k m (N := n + m) (by first | omega | (simp only [List.length_append, List.length_take, List.length_drop]; omega)) (by first | omega | (simp only [List.length_append, List.length_take, List.length_drop]; omega)) (by omega) (by first | omega | (simp only [List.length_append, List.length_take, List.length_drop]; omega)) (ones_take hoq _)
 refine wl_run (v := .int .i64 (m : Nat)) (w' := w113) z z (x_copy z z hr114) ?_
 refine wl_nil (tn (wp_seq ?_))
 refine wp_region_St hst 9 [0, 1, 2, 3, 4, 5, 6, 7, 8] [0, 0, 0, 6, 15, 0, 0, 96, 255] [] z (by kernel_rfl) (by kernel_rfl) Try.mixed (by kernel_rfl) ?_
 refine wsr (v2) 0 z z z (by kernel_rfl) (fun w hst => z) (wsr (.int .i64 (k : Int)) 1 z z z (by kernel_rfl) (fun w hst => z) (wsr (.int .i64 (m : Int)) 2 z z z (by kernel_rfl) (fun w hst => z) (wsr (.int .i64 ((k + m : Nat) : Int)) 3 z z z (by kernel_rfl) (fun w hst => ok_cast hw2 z) (wsr ((slcV (tyRaw 2).sz v2 (k + m) (n + m))) 4 z z z (by kernel_rfl) (fun w hst => x_slice (lo := ((k + m) : Nat)) (hi := ((n + m) : Nat)) underlying77 hs z hs2 (by omega) (by omega) (by omega) .i64 .i64 (.inl z) (.inr ⟨z, z⟩)) (wsr (r0_0) 5 z z z (by kernel_rfl) (fun w hst => z) (wsr (.int .i64 (k : Int)) 6 z z z (by kernel_rfl) (fun w hst => z) (wsr ((slcV (tyRaw 2).sz r0_0 k n)) 7 z z z (by kernel_rfl) (fun w hst => x_slice (lo := (k : Nat)) (hi := (n : Nat)) underlying77 hs z hsv (by omega) (by omega) (by omega) .i64 .i64 (.inl z) (.inr ⟨z, z⟩)) ?_)))))))
 refine ws_e1 8 (by kernel_rfl) ?_
 refine nxe [] (by kernel_rfl) z z ?_
 clear hst
 intro w hst
 obtain ⟨w115, hr116, hst⟩ := run_copyRows (P := prog) (t2 := 77) (ty := 3) underlying77 hs hst (hst.pull1.row_part (l := k) (h := n) hk (by omega)) (k + m) (n - k) (N := n + m) (by first | omega | (simp only [List.length_append, List.length_take, List.length_drop]; omega)) (by first | omega | (simp only [List.length_append, List.length_take, List.length_drop]; omega)) (by omega) (by first | omega | (simp only [List.length_append, List.length_take, List.length_drop]; omega)) (ones_take (ones_drop (ones_take hoc _) _) _)
 refine we_run (v := .int .i64 ((n - k) : Nat)) (w' := w115) z (x_copy z z hr116) ?_
 refine ws_next (pend' := []) hst (by kernel_rfl) pk_nil ?_
 refine ws_nil ?_
 intro w hst
 refine tn (wp_seq (wrl (wv (v2) z z z (wv (v2) z z z (wl_nil (tn (wp_ret (then_r ?_))))))))
 refine post_ret (vs := [v2]) results42 (rvs_cons (rv_tmp z) rvs_nil) ?_
 rw [grow_rows hn hm' hk hzl] at hst
 exact ⟨_, z, (hst.own_close ((hr.take k).app (hq.app (hr.drop k)))).keep1⟩
}
 {
 refine wp_iff (cvb hc112) ?_
 have hup : n + m ≤ sCap r0_0 := by have := of_decide_eq_false hc112; omega
 obtain ⟨ess, hel, hem, hst'⟩ := hst.row_up (n + m) (by omega) hup hc0
 rw [show n + m - css.length = m by omega] at hel
 have hs2 : SliceV (upV r0_0 (n + m)) (n + m) := by have := hst'.row_form.2; rwa [List.length_append, hn, hel] at this
 clear hst
 have hst := hst'
 clear hst'
 refine wp_skip (tn (wp_seq (wrl ?_)))
 refine wv (r0_0) z z z (wv (.int .i64 (n : Int)) z z z (wv (.int .i64 (m : Int)) z z z (wv (.int .i64 ((n + m : Nat) : Int)) z z (ok_cast hw1 z) (wv ((upV r0_0 (n + m))) z z (x_sliceUp underlying77 hs z hsv z hup hn0) (wv ((upV r0_0 (n + m))) z z z (wl_nil (tn (wp_seq (wp_seq (wrl (wv (r2_0) z z z (wv ((upV r0_0 (n + m))) z z z (wv (.int .i64 (k : Int)) z z z (wv (.int .i64 (m : Int)) z z z (wv (.int .i64 ((k + m : Nat) : Int)) z z (ok_cast hw2 z) (wv ((slcV (tyRaw 2).sz (upV r0_0 (n + m)) (k + m) (n + m))) z z (x_slice (lo := ((k + m) : Nat)) (hi := ((n + m) : Nat)) underlying77 hs z hs2 (by omega) (by omega) (by omega) .i64 .i64 (.inl z) (.inr ⟨z, z⟩)) ?_))))))))))))))))
 refine wv (.bool false) z z (x_ext z z z (hov _) (run_overlaps z underlying77 hs hst.pull1 (k + m) (N := n + m) (by rw [List.length_append]; omega) (by omega) hq0 hs0)) (wv (.bool true) z z z (wl_nil (tn ?_)))
 refine wp_ift z ?_
 refine wp_seq ?_
 refine wp_region_St hst 9 [0, 1, 2, 3, 4, 5, 6, 7, 8] [0, 0, 0, 6, 15, 0, 0, 96, 255] [] z (by kernel_rfl) (by kernel_rfl) Try.mixed (by kernel_rfl) ?_
 refine wsr ((upV r0_0 (n + m))) 0 z z z (by kernel_rfl) (fun w hst => z) (wsr (.int .i64 (k : Int)) 1 z z z (by kernel_rfl) (fun w hst => z) (wsr (.int .i64 (m : Int)) 2 z z z (by kernel_rfl) (fun w hst => z) (wsr (.int .i64 ((k + m : Nat) : Int)) 3 z z z (by kernel_rfl) (fun w hst => ok_cast hw2 z) (wsr ((slcV (tyRaw 2).sz (upV r0_0 (n + m)) (k + m) (n + m))) 4 z z z (by kernel_rfl) (fun w hst => x_slice (lo := ((k + m) : Nat)) (hi := ((n + m) : Nat)) underlying77 hs z hs2 (by omega) (by omega) (by omega) .i64 .i64 (.inl z) (.inr ⟨z, z⟩)) (wsr ((upV r0_0 (n + m))) 5 z z z (by kernel_rfl) (fun w hst => z) (wsr (.int .i64 (k : Int)) 6 z z z (by kernel_rfl) (fun w hst => z) (wsr ((slcV (tyRaw 2).sz (upV r0_0 (n + m)) k (n + m))) 7 z z z (by kernel_rfl) (fun w hst => x_slice (lo := (k : Nat)) (hi := ((n + m) : Nat)) underlying77 hs z hs2 (by omega) (by omega) (by omega) .i64 .i64 (.inl z) (.inr ⟨z, z⟩)) ?_)))))))
 refine ws_e1 8 (by kernel_rfl) ?_
 refine nxe [] (by kernel_rfl) z z ?_
 clear hst
 intro w hst
 obtain ⟨w117, hr118, hst⟩ := run_copyRows (P := prog) (t2 := 77) (ty := 3) underlying77 hs hst (hst.row_part (l := k) (h := n + m) (by omega) (by rw [List.length_append]; omega)) (k + m) (n - k) (N := n + m) (by first | omega | (simp only [List.length_append, List.length_take, List.length_drop]; omega)) (by first | omega | (simp only [List.length_append, List.length_take, List.length_drop]; omega)) (by omega) (by first | omega | (simp only [List.length_append, List.length_take, List.length_drop]; omega)) (by rw [stay_src hn hm' hk hel]; exact ones_drop hoc _)
 refine we_run (v := .int .i64 ((n - k) : Nat)) (w' := w117) z (x_copy z z hr118) ?_
 refine ws_next (pend' := []) hst (by kernel_rfl) pk_nil ?_
 refine ws_nil ?_
 intro w hst
 refine tn (wp_seq (wrl (wv ((upV r0_0 (n + m))) z z z (wv (.int .i64 (k : Int)) z z z (wv ((slcV (tyRaw 2).sz (upV r0_0 (n + m)) k (n + m))) z z (x_slice (lo := (k : Nat)) (hi := ((n + m) : Nat)) underlying77 hs z hs2 (by omega) (by omega) (by omega) .i64 .i64 (.inl z) (.inr ⟨z, z⟩)) (wv (r2_0) z z z ?_))))))
 obtain ⟨w119, hr120, hst⟩ := run_copyRows (P := prog) (t2 := 77) (ty := 3) underlying77 hs hst hst.pull1 k m (N := n + m) (by first | omega | (simp only [List.length_append, List.length_take, List.length_drop]; omega)) (by first | omega | (simp only [List.length_append, List.length_take, List.length_drop]; omega)) (by omega) (by first | omega | (simp only [List.length_append, List.length_take, List.length_drop]; omega)) (ones_take hoq _)
 refine wl_run (v := .int .i64 (m : Nat)) (w' := w119) z z (x_copy z z hr120) ?_
 refine wl_nil (tn (wp_seq (wrl (wv ((upV r0_0 (n + m))) z z z (wv ((upV r0_0 (n + m))) z z z (wl_nil (tn (wp_ret (then_r ?_)))))))))
 refine post_ret (vs := [(upV r0_0 (n + m))]) results42 (rvs_cons (rv_tmp z) rvs_nil) ?_
 rw [stay_rows hn hm' hk hel] at hst
 exact ⟨_, z, (hst.own_close ((hr.take k).app (hq.app (hr.drop k)))).keep1⟩
}
}
}
}

theorem slices_Insert_mvcc_row_mvcc_row_ref {w0 w : World} {I : HL} {R : SP} {a0 : (List mvcc_row)} {r0_0 : Value} {a1 : Int} {a2 : (List mvcc_row)} {r2_0 : Value} (hst : St w0 w I [ownN nest_mvcc_row r0_0 a0, ownN nest_mvcc_row r2_0 a2] R) {r : (List mvcc_row)} (hm : slices_Insert_mvcc_row_mvcc_row a0 a1 a2 = some r) :
  Calls prog 42 #[r0_0, I6 a1, r2_0] w fun e w' => ∃ (q0_0 : Value), e = .returned (q0_0) ∧ St w0 w' I [ownN nest_mvcc_row q0_0 r] R := by {
 unfold slices_Insert_mvcc_row_mvcc_row at hm
 obtain ⟨hg, hm⟩ := gd_some hm
 obtain rfl := some_inj hm
 obtain ⟨vs, us, h1, k1, hst⟩ := hst.nest_two
 refine Calls.mono (slices_Insert_mvcc_row_mvcc_row_raw_ref hst.to2 (r := ins (nest_mvcc_row.cs a0 vs) a1 (nest_mvcc_row.cs a2 us)) (by unfold slices_Insert_mvcc_row_mvcc_row_raw; rw [insOK_cs h1 k1, hg]; rfl)) ?_
 rintro _ w' ⟨q, rfl, hst'⟩
 exact ⟨_, z, (hst'.of1.nest_ins h1 k1).keep1⟩
}

theorem mvcc_ahead_ref {w0 w : World} {I : HL} {R : SP} {a0 : mvcc_Version} {r0_0 : Value} {a1 : Int} {a2 : Int} (f0_0 : Rd (tyInt .u8) R I r0_0 a0.Val) (hst : St w0 w I [] R) {r : (Bool)} (hm : mvcc_ahead a0 a1 a2 = some r) :
  Calls prog 44 #[.agg #[U6 a0.Epoch, U6 a0.Index, .bool a0.Del, r0_0], U6 a1, U6 a2] w fun e w' => e = .returned (.bool r) ∧ St w0 w' I [] R := by {
 unfold mvcc_ahead at hm
 refine calls_start (args := [.agg #[U6 a0.Epoch, U6 a0.Index, .bool a0.Del, r0_0], U6 a1, U6 a2]) func44 z ntmps44 (Nat.le_of_ble_eq_true z) ?_
 refine wp_seq (wrl ?_)
 obtain ⟨b171, w172, ew173, eb174, hst⟩ := hst.box [U6 a0.Epoch, U6 a0.Index, .bool a0.Del, r0_0] 52
 refine wl_run (v := Pt b171 0) (w' := w172) z z (x_al (by kernel_rfl) ew173 eb174) ?_
 refine wv (.bool false) z z z (wl_nil (tn (wp_seq (wrl (wv (Pt b171 0) z z (x_field z underlying52 z sizeOf24 z) (wv (.int .u64 a0.Epoch) z z (x_load z isAgg24 (hst.bc0 z)) (wv (.int .u64 a1) z z z (wv (.bool (decide (a0.Epoch < a1))) z z z (wv (.bool (decide (a0.Epoch < a1))) z z z ?_)))))))))
 refine bsplit (decide (a0.Epoch < a1)) (fun hc176 => ?_) (fun hc176 => ?_)
 {
 replace hm := bif_t hc176 hm
 refine wo hc176 z z z z z z (wo hc176 z z z z z z (wo hc176 z z z z z z (wo hc176 z z z z z z (wo hc176 z z z z z z (wl_off (wanted_undef z z z z) z (wl_off (wanted_undef z z z z) z (wl_off (wanted_undef z z z z) z (wl_off (wanted_undef z z z z) z (wo hc176 z z z z z z (wv (.bool true) z z (x_pick_t hc176 z z) (wv (.bool true) z z z (wl_nil (tn (wp_ret ?_))))))))))))))
 obtain rfl := some_inj hm
 refine post_ret (vs := [.bool true]) results44 (rvs_cons (rv_tmp z) rvs_nil) ?_
 exact ⟨z, hst.keep0⟩
}
 {
 replace hm := bif_f hc176 hm
 refine wv (Pt b171 0) ((wanted_eq z z z (cvb hc176)).trans z) z (x_field z underlying52 z sizeOf24 z) (wv (.int .u64 a0.Epoch) ((wanted_eq z z z (cvb hc176)).trans z) z (x_load z isAgg24 (hst.bc0 z)) (wv (.int .u64 a1) ((wanted_eq z z z (cvb hc176)).trans z) z z (wv (.bool (a0.Epoch == a1)) ((wanted_eq z z z (cvb hc176)).trans z) z z (wv (.bool (a0.Epoch == a1)) ((wanted_eq z z z (cvb hc176)).trans z) z z ?_))))
 refine bsplit (a0.Epoch == a1) (fun hc177 => ?_) (fun hc177 => ?_)
 {
 replace hm := bif_t hc177 hm
 refine wv (Pt b171 1) ((wanted_eq z z z (cvb hc177)).trans z) z (x_field z underlying52 z sizeOf24 z) (wv (.int .u64 a0.Index) ((wanted_eq z z z (cvb hc177)).trans z) z (x_load z isAgg24 (hst.bc0 z)) (wv (.int .u64 a2) ((wanted_eq z z z (cvb hc177)).trans z) z z (wv (.bool (decide (a0.Index < a2))) ((wanted_eq z z z (cvb hc177)).trans z) z z (wv (.bool (decide (a0.Index < a2))) ((wanted_eq z z z (cvb hc176)).trans z) z (x_pick_t hc177 z z) (wv (.bool (decide (a0.Index < a2))) z z (x_pick_f hc176 z z) (wv (.bool (decide (a0.Index < a2))) z z z (wl_nil (tn (wp_ret ?_)))))))))
 obtain rfl := some_inj hm
 refine post_ret (vs := [.bool (decide (a0.Index < a2))]) results44 (rvs_cons (rv_tmp z) rvs_nil) ?_
 exact ⟨z, hst.keep0⟩
}
 {
 replace hm := bif_f hc177 hm
 refine wo hc177 z z z z z z (wo hc177 z z z z z z (wo hc177 z z z z z z (wo hc177 z z z z z z (wv (.bool false) ((wanted_eq z z z (cvb hc176)).trans z) z (x_pick_f hc177 z z) (wv (.bool false) z z (x_pick_f hc176 z z) (wv (.bool false) z z z (wl_nil (tn (wp_ret ?_)))))))))
 obtain rfl := some_inj hm
 refine post_ret (vs := [.bool false]) results44 (rvs_cons (rv_tmp z) rvs_nil) ?_
 exact ⟨z, hst.keep0⟩
}
}
}

theorem slices_Insert_mvcc_Version_mvcc_Version_ref {w0 w : World} {I : HL} {R : SP} {a0 : (List mvcc_Version)} {r0_0 : Value} {a1 : Int} {a2 : (List mvcc_Version)} {r2_0 : Value} (hst : St w0 w I [ownS ty_mvcc_Version r0_0 a0, ownS ty_mvcc_Version r2_0 a2] R) {r : (List mvcc_Version)} (hm : slices_Insert_mvcc_Version_mvcc_Version a0 a1 a2 = some r) :
  Calls prog 45 #[r0_0, I6 a1, r2_0] w fun e w' => ∃ (q0_0 : Value), e = .returned (q0_0) ∧ St w0 w' I [ownS ty_mvcc_Version q0_0 r] R := by {
 unfold slices_Insert_mvcc_Version_mvcc_Version at hm
 obtain ⟨hg, hm⟩ := gd_some hm
 obtain rfl := some_inj hm
 obtain ⟨hi0, hi1, hrm⟩ := insOK_of hg
 obtain ⟨k, rfl⟩ := Int.eq_ofNat_of_zero_le hi0
 have hsm := room_sum hrm
 have hk : k ≤ a0.length := by omega
 have hs : ∀ w : World, (sizeOf 52).run prog w = .ok ty_mvcc_Version.sz w := sizeOf52
 have hs0 : 0 < ty_mvcc_Version.sz := Nat.le_of_ble_eq_true rfl
 have hov : ∀ (args : Array Value) (w : World), (callFunc 66 args).run prog w = (Extern.SlicesOverlaps.overlaps #[53, 53] #[4] args >>= fun v => (pure (.value v) : Sem Next)).run prog w := by intro args w; kernel_rfl
 obtain ⟨css, hr, hst⟩ := hst.own_open
 replace hst := hst.pull1
 obtain ⟨dss, hq, hst⟩ := hst.own_open
 replace hst := hst.pull1
 obtain ⟨n, hn⟩ : ∃ n, css.length = n := ⟨_, rfl⟩
 obtain ⟨m, hm'⟩ : ∃ m, dss.length = m := ⟨_, rfl⟩
 have hln : a0.length = n := hr.1.trans hn
 have hlm : a2.length = m := hq.1.trans hm'
 rw [hln] at hsm hk
 rw [hlm] at hsm
 have hsv : SliceV r0_0 n := by have := hst.row_form.2; rwa [hn] at this
 have hsq : SliceV r2_0 m := by have := hst.pull1.row_form.2; rwa [hm'] at this
 have hoc := hr.ones
 have hoq := hq.ones
 have hw1 := wrap_add (a := n) (b := m) (by omega)
 have hw2 := wrap_add (a := k) (b := m) (by omega)
 have hw3 := wrap_sub (a := n + m) (b := k) (by omega) (by omega)
 have hrb := room_of (b := 48) hrm rfl
 rw [hln, hlm] at hrb
 refine calls_start (args := [r0_0, I6 (k : Int), r2_0]) func45 z ntmps45 (Nat.le_of_ble_eq_true z) ?_
 refine wp_seq (wrl (wv ((.slice none 0 0)) z z z (wl_nil (tn (wp_seq (wrl (wv (r0_0) z z z (wv (.int .i64 (k : Int)) z z z (wv ((slcV ty_mvcc_Version.sz r0_0 k n)) z z (x_slice (lo := (k : Nat)) (hi := (n : Nat)) underlying53 hs z hsv (by omega) (by omega) (by omega) .i64 .i64 (.inl z) (.inr ⟨z, z⟩)) (wl_nil (tn (wp_seq (wrl (wv (r2_0) z z z (wv (.int .i64 (m : Int)) z z (x_len z underlying53 hsq) (wv (.int .i64 (m : Int)) z z z (wl_nil (tn (wp_seq (wp_seq (wrl (wv (.int .i64 (m : Int)) z z z (wv (.bool ((m : Int) == (0:Int))) z z z ?_)))))))))))))))))))))))
 refine wl_nil (tn ?_)
 refine bsplit ((m : Int) == (0:Int)) (fun hc283 => ?_) (fun hc283 => ?_)
 {
 refine wp_ift (cvb hc283) ?_
 refine wp_seq (wrl (wv (r0_0) z z z (wv (r0_0) z z z (wl_nil (tn (wp_ret (then_r ?_)))))))
 refine post_ret (vs := [r0_0]) results45 (rvs_cons (rv_tmp z) rvs_nil) ?_
 rw [ins_nil (by rw [hlm]; exact hc283)]
 exact ⟨_, z, (hst.own_close hr).keep1⟩
}
 {
 refine wp_iff (cvb hc283) ?_
 have hm0 : m ≠ 0 := fun h => by rw [h] at hc283; cases hc283
 have hq0 : dss ≠ [] := fun h => hm0 (by rw [← hm', h]; rfl)
 refine wp_skip (tn (wp_seq (wrl ?_)))
 refine wv (r0_0) z z z (wv (.int .i64 (n : Int)) z z (x_len z underlying53 hsv) (wv (.int .i64 (n : Int)) z z z (wl_nil (tn (wp_seq (wp_seq (wrl (wv (.int .i64 (k : Int)) z z z (wv (.int .i64 (n : Int)) z z z (wv (.bool ((k : Int) == (n : Int))) z z z (wl_nil (tn ?_))))))))))))
 refine bsplit ((k : Int) == (n : Int)) (fun hc284 => ?_) (fun hc284 => ?_)
 {
 refine wp_ift (cvb hc284) ?_
 refine wp_seq (wrl (wv (r0_0) z z z (wv (r2_0) z z z ?_)))
 replace hst := (hst.own_close hr).pull1.own_close hq
 replace hst := hst.pull1
 obtain ⟨v2, w2, hra, hst⟩ := run_append elem_53 underlying53 hst hst.src1 (room_of hrm z) 53
 refine wl_run (v := v2) (w' := w2) z z (x_append z z hra) ?_
 refine wv (v2) z z z (wl_nil (tn (wp_ret (then_r ?_))))
 refine post_ret (vs := [v2]) results45 (rvs_cons (rv_tmp z) rvs_nil) ?_
 rw [ins_end (by rw [hln]; exact hc284)]
 exact ⟨_, z, hst.keep1⟩
}
 {
 refine wp_iff (cvb hc284) ?_
 have hkn : k ≠ n := fun h => by rw [h] at hc284; simp at hc284
 have hn0 : 0 < n := by omega
 have hc0 : css ≠ [] := fun h => by rw [h] at hn; simp at hn; omega
 refine wp_skip (tn (wp_seq (wp_seq (wrl ?_))))
 refine wv (.int .i64 (n : Int)) z z z (wv (.int .i64 (m : Int)) z z z (wv (.int .i64 ((n + m : Nat) : Int)) z z (ok_cast hw1 z) (wv (r0_0) z z z (wv (.int .i64 (sCap r0_0 : Int)) z z (x_cap z underlying53 hsv) (wv (.bool (decide (((n + m : Nat) : Int) > (sCap r0_0 : Int)))) z z z (wl_nil (tn ?_)))))))
 refine bsplit (decide (((n + m : Nat) : Int) > (sCap r0_0 : Int))) (fun hc285 => ?_) (fun hc285 => ?_)
 {
 refine wp_ift (cvb hc285) ?_
 refine wp_seq (wrl (wv (r0_0) z z z (wv (.int .i64 (k : Int)) z z z (wv ((slcV ty_mvcc_Version.sz r0_0 0 k)) z z (x_slice (lo := (0 : Nat)) (hi := (k : Nat)) underlying53 hs z hsv (by omega) (by omega) (by omega) .i64 .i64 (.inr ⟨z, z⟩) (.inl z)) (wv (.int .i64 (n : Int)) z z z (wv (.int .i64 (m : Int)) z z z (wv (.int .i64 ((n + m : Nat) : Int)) z z (ok_cast hw1 z) (wv (.int .i64 (k : Int)) z z z (wv (.int .i64 ((n + m - k : Nat) : Int)) z z (ok_cast hw3 z) ?_)))))))))
 obtain ⟨v2, w2, hra, hs2, zss, hzl, hst⟩ := run_app0 elem_53 underlying3 hst k (n + m - k) (by omega) (by have := of_decide_eq_true hc285; omega) (by rw [show k + (n + m - k) = n + m by omega]; exact hrb) hs0 53
 rw [show k + (n + m - k) = n + m by omega] at hs2
 refine wl_run (v := v2) (w' := w2) z z (x_append z z hra) ?_
 refine wv (v2) z z z (wl_nil (tn (wp_seq (wrl (wv (v2) z z z (wv (.int .i64 (k : Int)) z z z (wv ((slcV ty_mvcc_Version.sz v2 k (n + m))) z z (x_slice (lo := (k : Nat)) (hi := ((n + m) : Nat)) underlying53 hs z hs2 (by omega) (by omega) (by omega) .i64 .i64 (.inl z) (.inr ⟨z, z⟩)) (wv (r2_0) z z z ?_))))))))
 obtain ⟨w286, hr287, hst⟩ := run_copyRows (P := prog) (t2 := 53) (ty := 3) underlying53 hs hst hst.pull2 k m (N := n + m) (by first | omega | (simp only [List.length_append, List.length_take, List.length_drop]; omega)) (by first | omega | (simp only [List.length_append, List.length_take, List.length_drop]; omega)) (by omega) (by first | omega | (simp only [List.length_append, List.length_take, List.length_drop]; omega)) (ones_take hoq _)
 refine wl_run (v := .int .i64 (m : Nat)) (w' := w286) z z (x_copy z z hr287) ?_
 refine wl_nil (tn (wp_seq ?_))
 refine wp_region_St hst 9 [0, 1, 2, 3, 4, 5, 6, 7, 8] [0, 0, 0, 6, 15, 0, 0, 96, 255] [] z (by kernel_rfl) (by kernel_rfl) Try.mixed (by kernel_rfl) ?_
 refine wsr (v2) 0 z z z (by kernel_rfl) (fun w hst => z) (wsr (.int .i64 (k : Int)) 1 z z z (by kernel_rfl) (fun w hst => z) (wsr (.int .i64 (m : Int)) 2 z z z (by kernel_rfl) (fun w hst => z) (wsr (.int .i64 ((k + m : Nat) : Int)) 3 z z z (by kernel_rfl) (fun w hst => ok_cast hw2 z) (wsr ((slcV ty_mvcc_Version.sz v2 (k + m) (n + m))) 4 z z z (by kernel_rfl) (fun w hst => x_slice (lo := ((k + m) : Nat)) (hi := ((n + m) : Nat)) underlying53 hs z hs2 (by omega) (by omega) (by omega) .i64 .i64 (.inl z) (.inr ⟨z, z⟩)) (wsr (r0_0) 5 z z z (by kernel_rfl) (fun w hst => z) (wsr (.int .i64 (k : Int)) 6 z z z (by kernel_rfl) (fun w hst => z) (wsr ((slcV ty_mvcc_Version.sz r0_0 k n)) 7 z z z (by kernel_rfl) (fun w hst => x_slice (lo := (k : Nat)) (hi := (n : Nat)) underlying53 hs z hsv (by omega) (by omega) (by omega) .i64 .i64 (.inl z) (.inr ⟨z, z⟩)) ?_)))))))
 refine ws_e1 8 (by kernel_rfl) ?_
 refine nxe [] (by kernel_rfl) z z ?_
 clear hst
 intro w hst
 obtain ⟨w288, hr289, hst⟩ := run_copyRows (P := prog) (t2 := 53) (ty := 3) underlying53 hs hst (hst.pull1.row_part (l := k) (h := n) hk (by omega)) (k + m) (n - k) (N := n + m) (by first | omega | (simp only [List.length_append, List.length_take, List.length_drop]; omega)) (by first | omega | (simp only [List.length_append, List.length_take, List.length_drop]; omega)) (by omega) (by first | omega | (simp only [List.length_append, List.length_take, List.length_drop]; omega)) (ones_take (ones_drop (ones_take hoc _) _) _)
 refine we_run (v := .int .i64 ((n - k) : Nat)) (w' := w288) z (x_copy z z hr289) ?_
 refine ws_next (pend' := []) hst (by kernel_rfl) pk_nil ?_
 refine ws_nil ?_
 intro w hst
 refine tn (wp_seq (wrl (wv (v2) z z z (wv (v2) z z z (wl_nil (tn (wp_ret (then_r ?_))))))))
 refine post_ret (vs := [v2]) results45 (rvs_cons (rv_tmp z) rvs_nil) ?_
 rw [grow_rows hn hm' hk hzl] at hst
 exact ⟨_, z, (hst.own_close ((hr.take k).app (hq.app (hr.drop k)))).keep1⟩
}
 {
 refine wp_iff (cvb hc285) ?_
 have hup : n + m ≤ sCap r0_0 := by have := of_decide_eq_false hc285; omega
 obtain ⟨ess, hel, hem, hst'⟩ := hst.row_up (n + m) (by omega) hup hc0
 rw [show n + m - css.length = m by omega] at hel
 have hs2 : SliceV (upV r0_0 (n + m)) (n + m) := by have := hst'.row_form.2; rwa [List.length_append, hn, hel] at this
 clear hst
 have hst := hst'
 clear hst'
 refine wp_skip (tn (wp_seq (wrl ?_)))
 refine wv (r0_0) z z z (wv (.int .i64 (n : Int)) z z z (wv (.int .i64 (m : Int)) z z z (wv (.int .i64 ((n + m : Nat) : Int)) z z (ok_cast hw1 z) (wv ((upV r0_0 (n + m))) z z (x_sliceUp underlying53 hs z hsv z hup hn0) (wv ((upV r0_0 (n + m))) z z z (wl_nil (tn (wp_seq (wp_seq (wrl (wv (r2_0) z z z (wv ((upV r0_0 (n + m))) z z z (wv (.int .i64 (k : Int)) z z z (wv (.int .i64 (m : Int)) z z z (wv (.int .i64 ((k + m : Nat) : Int)) z z (ok_cast hw2 z) (wv ((slcV ty_mvcc_Version.sz (upV r0_0 (n + m)) (k + m) (n + m))) z z (x_slice (lo := ((k + m) : Nat)) (hi := ((n + m) : Nat)) underlying53 hs z hs2 (by omega) (by omega) (by omega) .i64 .i64 (.inl z) (.inr ⟨z, z⟩)) ?_))))))))))))))))
 refine wv (.bool false) z z (x_ext z z z (hov _) (run_overlaps z underlying53 hs hst.pull1 (k + m) (N := n + m) (by rw [List.length_append]; omega) (by omega) hq0 hs0)) (wv (.bool true) z z z (wl_nil (tn ?_)))
 refine wp_ift z ?_
 refine wp_seq ?_
 refine wp_region_St hst 9 [0, 1, 2, 3, 4, 5, 6, 7, 8] [0, 0, 0, 6, 15, 0, 0, 96, 255] [] z (by kernel_rfl) (by kernel_rfl) Try.mixed (by kernel_rfl) ?_
 refine wsr ((upV r0_0 (n + m))) 0 z z z (by kernel_rfl) (fun w hst => z) (wsr (.int .i64 (k : Int)) 1 z z z (by kernel_rfl) (fun w hst => z) (wsr (.int .i64 (m : Int)) 2 z z z (by kernel_rfl) (fun w hst => z) (wsr (.int .i64 ((k + m : Nat) : Int)) 3 z z z (by kernel_rfl) (fun w hst => ok_cast hw2 z) (wsr ((slcV ty_mvcc_Version.sz (upV r0_0 (n + m)) (k + m) (n + m))) 4 z z z (by kernel_rfl) (fun w hst => x_slice (lo := ((k + m) : Nat)) (hi := ((n + m) : Nat)) underlying53 hs z hs2 (by omega) (by omega) (by omega) .i64 .i64 (.inl z) (.inr ⟨z, z⟩)) (wsr ((upV r0_0 (n + m))) 5 z z z (by kernel_rfl) (fun w hst => z) (wsr (.int .i64 (k : Int)) 6 z z z (by kernel_rfl) (fun w hst => z) (wsr ((slcV ty_mvcc_Version.sz (upV r0_0 (n + m)) k (n + m))) 7 z z z (by kernel_rfl) (fun w hst => x_slice (lo := (k : Nat)) (hi := ((n + m) : Nat)) underlying53 hs z hs2 (by omega) (by omega) (by omega) .i64 .i64 (.inl z) (.inr ⟨z, z⟩)) ?_)))))))
 refine ws_e1 8 (by kernel_rfl) ?_
 refine nxe [] (by kernel_rfl) z z ?_
 clear hst
 intro w hst
 obtain ⟨w290, hr291, hst⟩ := run_copyRows (P := prog) (t2 := 53) (ty := 3) underlying53 hs hst (hst.row_part (l := k) (h := n + m) (by omega) (by rw [List.length_append]; omega)) (k + m) (n - k) (N := n + m) (by first | omega | (simp only [List.length_append, List.length_take, List.length_drop]; omega)) (by first | omega | (simp only [List.length_append, List.length_take, List.length_drop]; omega)) (by omega) (by first | omega | (simp only [List.length_append, List.length_take, List.length_drop]; omega)) (by rw [stay_src hn hm' hk hel]; exact ones_drop hoc _)
 refine we_run (v := .int .i64 ((n - k) : Nat)) (w' := w290) z (x_copy z z hr291) ?_
 refine ws_next (pend' := []) hst (by kernel_rfl) pk_nil ?_
 refine ws_nil ?_
 intro w hst
 refine tn (wp_seq (wrl (wv ((upV r0_0 (n + m))) z z z (wv (.int .i64 (k : Int)) z z z (wv ((slcV ty_mvcc_Version.sz (upV r0_0 (n + m)) k (n + m))) z z (x_slice (lo := (k : Nat)) (hi := ((n + m) : Nat)) underlying53 hs z hs2 (by omega) (by omega) (by omega) .i64 .i64 (.inl z) (.inr ⟨z, z⟩)) (wv (r2_0) z z z ?_))))))
 obtain ⟨w292, hr293, hst⟩ := run_copyRows (P := prog) (t2 := 53) (ty := 3) underlying53 hs hst hst.pull1 k m (N := n + m) (by first | omega | (simp only [List.length_append, List.length_take, List.length_drop]; omega)) (by first | omega | (simp only [List.length_append, List.length_take, List.length_drop]; omega)) (by omega) (by first | omega | (simp only [List.length_append, List.length_take, List.length_drop]; omega)) (ones_take hoq _)
 refine wl_run (v := .int .i64 (m : Nat)) (w' := w292) z z (x_copy z z hr293) ?_
 refine wl_nil (tn (wp_seq (wrl (wv ((upV r0_0 (n + m))) z z z (wv ((upV r0_0 (n + m))) z z z (wl_nil (tn (wp_ret (then_r ?_)))))))))
 refine post_ret (vs := [(upV r0_0 (n + m))]) results45 (rvs_cons (rv_tmp z) rvs_nil) ?_
 rw [stay_rows hn hm' hk hel] at hst
 exact ⟨_, z, (hst.own_close ((hr.take k).app (hq.app (hr.drop k)))).keep1⟩
}
}
}
}

theorem mvcc_Store_Put_ref {w0 w : World} {I : HL} {R : SP} {a0 : (Option mvcc_Store)} {p0 : Value} {a1 : Nat} {a2 : mvcc_Version} {r2_0 : Value} (f2_0 : Rd (tyInt .u8) R I r2_0 a2.Val) (hst : St w0 w I [objO at_mvcc_Store p0 a0] R) {r : ((Option mvcc_Store))} (hm : mvcc_Store_Put a0 a1 a2 = some r) :
  Calls prog 22 #[p0, F6 a1, .agg #[U6 a2.Epoch, U6 a2.Index, .bool a2.Del, r2_0]] w fun e w' => ∃ (I' : HL), e = .returned (.tuple #[]) ∧ I.le I' ∧ St w0 w' I' [objO at_mvcc_Store p0 r] R := by {
 rcases a0 with _ | o0
 {
 obtain ⟨rfl, hst'⟩ := objO_none hst
 clear hst
 have hst := hst'
 clear hst'
 dsimp only [mvcc_Store_Put] at hm
 refine calls_start (args := [.pointer none, F6 a1, .agg #[U6 a2.Epoch, U6 a2.Index, .bool a2.Del, r2_0]]) func22 z ntmps22 (Nat.le_of_ble_eq_true z) ?_
 have hI0 := HL.le.refl I
 refine wp_seq (wrl ?_)
 obtain ⟨b303, w304, ew305, eb306, hst⟩ := hst.box [U6 a2.Epoch, U6 a2.Index, .bool a2.Del, r2_0] 52
 refine wl_run (v := Pt b303 0) (w' := w304) z z (x_al (by kernel_rfl) ew305 eb306) ?_
 refine wl_nil (tn (wp_seq (wp_seq (wrl (wv (.pointer none) z z z (wv (.bool true) z z (by kernel_rfl) (wl_nil (tn ?_))))))))
 refine wp_ift z ?_
 refine wp_ret (then_r ?_)
 replace hst := hst.objO_nil at_mvcc_Store
 obtain rfl := some_inj hm
 refine post_ret (vs := []) results22 rvs_nil ?_
 exact ⟨_, z, hI0, hst.keep1⟩
}
 {
 replace hst := objO_get hst
 dsimp only [mvcc_Store_Put] at hm
 refine calls_start (args := [p0, F6 a1, .agg #[U6 a2.Epoch, U6 a2.Index, .bool a2.Del, r2_0]]) func22 z ntmps22 (Nat.le_of_ble_eq_true z) ?_
 have hI0 := HL.le.refl I
 refine wp_seq (wrl ?_)
 obtain ⟨b308, w309, ew310, eb311, hst⟩ := hst.box [U6 a2.Epoch, U6 a2.Index, .bool a2.Del, r2_0] 52
 refine wl_run (v := Pt b308 0) (w' := w309) z z (x_al (by kernel_rfl) ew310 eb311) ?_
 refine wl_nil (tn (wp_seq (wp_seq (wrl (wv (p0) z z z ?_)))))
 replace hst := hst.pull1
 obtain ⟨b313, v314, rfl, hst'⟩ := at_mvcc_Store_open hst
 clear hst
 have hst := hst'
 clear hst'
 refine wv (.bool false) z z (by kernel_rfl) (wl_nil (tn ?_))
 refine wp_iff z ?_
 refine wp_skip (tn (wp_seq (wrl ?_)))
 refine wv (Pt b308 3) z z (x_field z underlying52 z sizeOf32 z) (wv (r2_0) z z (x_load z isAgg32 (hst.bc2 z)) ?_)
 obtain ⟨t316, ht317, hm⟩ := bind_some hm
 refine wc call41 [r2_0] z z z ?_
 refine (slices_Clone_byte_byte_ref (f2_0.mono (rd_weak _)) hst.to0 ht317).mono ?_
 rintro _ w318 ⟨v321, rfl, hst⟩
 refine ⟨_, z, ?_⟩
 replace hst := hst.of1
 refine wv (Pt b308 3) z z (x_field z underlying52 z sizeOf32 z) ?_
 replace hst := hst.pull3
 obtain ⟨w323, hr324, hst⟩ := hst.boxStore1 (P := prog) (t := 32) (cs' := [U6 a2.Epoch, U6 a2.Index, .bool a2.Del, v321]) 3 v321 (one_of_sliceV hst.sv1) sizeOf32 z z
 refine wl_unit z z (x_unit hr324) ?_
 refine wl_nil (tn ?_)
 obtain ⟨y334, hm, hx335⟩ := bind_some hm
 refine wp_cut (fun a w => ∃ (z331 : (List Int)) (v330 : Value) (σ332 : Nat → Value), (mvcc_Store_Put_j0 a1 o0 a2) z331 = some r ∧ a = Fr 93 (upd (upd (upd σ332 0 (Pt b313 0)) 1 (.float .f64 a1)) 5 (Pt b308 0)) ∧ St w0 w I [at_mvcc_Store (Pt b313 0) o0, cells b308 [U6 a2.Epoch, U6 a2.Index, .bool a2.Del, v330], ownS (tyInt .u8) v330 z331] R) ?_ ?_
 {
 refine wp_seq (wrl (wv (Pt b308 2) z z (x_field z underlying52 z sizeOf4 z) (wv (.bool a2.Del) z z (x_load z isAgg4 (hst.bc0 z)) (wl_nil (tn ?_)))))
 refine bsplit a2.Del (fun hc325 => ?_) (fun hc325 => ?_)
 {
 replace hm := bif_t hc325 hm
 refine wp_ift (cvb hc325) ?_
 refine wrl (wv (Pt b308 3) z z (x_field z underlying52 z sizeOf32 z) ?_)
 obtain ⟨w327, hr328, hst⟩ := hst.by_ [U6 a2.Epoch, U6 a2.Index, .bool a2.Del, Zs] 3 ((.slice none 0 0)) sizeOf32 z (oC z oN) (by kernel_rfl)
 refine wl_unit z z (x_unit hr328) ?_
 refine wl_nil (tn ?_)
 replace hst := hst.own_nil (tyInt .u8)
 replace hst := hst.pull4.pull4
 replace hst := at_mvcc_Store_close (pv := Pt b313 0) (x := o0) hst z
 replace hst := hst.pull1.pull2.pull2.keep3
 obtain rfl := some_inj hm
 exact ⟨([]), Zs, _, hx335, (fu 0 (Pt b313 0) z (fu 1 (.float .f64 a1) z (fu 5 (Pt b308 0) z z))), hst⟩
}
 {
 replace hm := bif_f hc325 hm
 refine wp_iff (cvb hc325) ?_
 refine wp_skip (tn ?_)
 replace hst := hst.pull3.pull3
 replace hst := at_mvcc_Store_close (pv := Pt b313 0) (x := o0) hst z
 replace hst := hst.pull2.pull2.pull2.keep3
 obtain rfl := some_inj hm
 exact ⟨t316, v321, _, hx335, (fu 0 (Pt b313 0) z (fu 1 (.float .f64 a1) z (fu 5 (Pt b308 0) z z))), hst⟩
}
}
 {
 clear hst
 rintro _ w336 ⟨z331, v330, σ332, hm, rfl, hst⟩
 dsimp only [mvcc_Store_Put_j0] at hm
 refine wp_seq (wrl (wv (Pt b313 0) z z z (wv (.float .f64 a1) z z z ?_)))
 obtain ⟨t337, ht338, hm⟩ := bind_some hm
 refine wc call32 [F6 a1] z z z ?_
 refine (number_Rank_ref hst.to0 ht338).mono ?_
 rintro _ w339 ⟨rfl, hst⟩
 refine ⟨_, z, ?_⟩
 replace hst := hst.of0
 replace hst := objO_some hst
 obtain ⟨t342, ht343, hm⟩ := bind_some hm
 refine wc call31 [Pt b313 0, U6 t337] z z z ?_
 refine (mvcc_Store_find_ref hst.to1 ht343).mono ?_
 rintro _ w344 ⟨rfl, hst⟩
 refine ⟨_, z, ?_⟩
 replace hst := hst.of1
 replace hst := objO_get hst
 refine wv (.tuple #[I6 t342.1, .bool t342.2]) z z z (wv (.int .i64 t342.1) z z z (wv (.bool t342.2) z z z (wv (.int .i64 t342.1) z z z (wv (.bool t342.2) z z z (wl_nil (tn ?_))))))
 obtain ⟨y376, hm, hx377⟩ := bind_some hm
 refine wp_cut (fun a w => ∃ (z373 : mvcc_Store) (σ374 : Nat → Value), (mvcc_Store_Put_j1 t342 a2 z331) z373 = some r ∧ a = Fr 93 (upd (upd (upd σ374 0 (Pt b313 0)) 5 (Pt b308 0)) 6 (.int .i64 t342.1)) ∧ St w0 w I [at_mvcc_Store (Pt b313 0) z373, cells b308 [U6 a2.Epoch, U6 a2.Index, .bool a2.Del, v330], ownS (tyInt .u8) v330 z331] R) ?_ ?_
 {
 refine wp_seq (wrl (wv (.bool t342.2) z z z (wv (.bool (!t342.2)) z z z (wl_nil (tn ?_)))))
 refine bsplit (!t342.2) (fun hc347 => ?_) (fun hc347 => ?_)
 {
 replace hm := bif_t hc347 hm
 refine wp_ift (cvb hc347) ?_
 obtain ⟨b348, v349, e351, hst'⟩ := at_mvcc_Store_open hst
 clear hst
 have e351 := ptr_inj e351
 subst e351
 have hst := hst'
 clear hst'
 refine wp_region_St hst 14 [0, 1, 2, 3, 4, 5, 6, 7, 8, 9, 10, 11, 12, 13] [0, 0, 2, 6, 14, 0, 0, 64, 192, 448, 1022, 2047, 4095, 8191] [] z (by kernel_rfl) (by kernel_rfl) Try.mixed (by kernel_rfl) ?_
 refine wsr (Pt b313 0) 0 z z z (by kernel_rfl) (fun w hst => z) (wsr (Pt b313 0) 1 z z z (by kernel_rfl) (fun w hst => z) (wsr (Pt b313 0) 2 z z z (by kernel_rfl) (fun w hst => z) (wsr (Pt b313 0) 3 z z z (by kernel_rfl) (fun w hst => x_field z underlying79 z sizeOf77 z) (wsr (v349) 4 z z z (by kernel_rfl) (fun w hst => x_load z isAgg77 (hst.bc0 z)) (wsr (.int .i64 t342.1) 5 z z z (by kernel_rfl) (fun w hst => z) (wsr (.float .f64 a1) 6 z z z (by kernel_rfl) (fun w hst => z) ?_))))))
 refine ws_e1 7 (by kernel_rfl) ?_
 refine nxe [8, 9, 10, 11, 12, 13] (by kernel_rfl) z z ?_
 clear hst
 intro w hst
 obtain ⟨t352, ht353, hm⟩ := bind_some hm
 refine wec call32 [F6 a1] z z ?_
 refine (number_Rank_ref hst.to0 ht353).mono ?_
 rintro _ w354 ⟨rfl, hst⟩
 refine ⟨_, z, ?_⟩
 replace hst := hst.of0
 refine ws_next (pend' := [(5, I6 t342.1), (4, v349), (3, Pt b313 0), (2, Pt b313 0), (1, Pt b313 0), (0, Pt b313 0)]) hst (by kernel_rfl) (pkr z z (fun w hst => z) (pkr z z (fun w hst => x_load z isAgg77 (hst.bc0 z)) (pkr z z (fun w hst => x_field z underlying79 z sizeOf77 z) (pkr z z (fun w hst => z) (pkr z z (fun w hst => z) (pkr z z (fun w hst => z) pk_nil)))))) ?_
 refine wsr (.agg #[U6 t352, Zs]) 8 z z z (by kernel_rfl) (fun w hst => by kernel_rfl) ?_
 refine ws_e1 9 (by kernel_rfl) ?_
 refine nxe [10, 11, 12, 13] (by kernel_rfl) z z ?_
 clear hst
 intro w hst
 replace hst := hst.own_nil ty_mvcc_Version
 obtain ⟨b359, w360, ew361, eb362, hst⟩ := hst.nest_one (N := nest_mvcc_row) (x := ({ rank := t352, l := [] } : mvcc_row)) 76
 refine we_run (v := (.slice (some ⟨b359, 0, none⟩) 1 1)) (w' := w360) z (x_als (by kernel_rfl) ew361 eb362) ?_
 refine ws_next (pend' := [(5, I6 t342.1), (4, v349), (3, Pt b313 0), (2, Pt b313 0), (1, Pt b313 0), (0, Pt b313 0)]) hst (by kernel_rfl) (pkr z z (fun w hst => z) (pkr z z (fun w hst => x_load z isAgg77 (hst.bc1 z)) (pkr z z (fun w hst => x_field z underlying79 z sizeOf77 z) (pkr z z (fun w hst => z) (pkr z z (fun w hst => z) (pkr z z (fun w hst => z) pk_nil)))))) ?_
 refine ws_e1 10 (by kernel_rfl) ?_
 refine nxe [11, 12, 13] (by kernel_rfl) z z ?_
 clear hst
 intro w hst
 replace hst := hst.pull2
 obtain ⟨t364, ht365, hm⟩ := bind_some hm
 refine wec call42 [v349, I6 t342.1, (.slice (some ⟨b359, 0, none⟩) 1 1)] z z ?_
 refine (slices_Insert_mvcc_row_mvcc_row_ref hst.to2 ht365).mono ?_
 rintro _ w366 ⟨v369, rfl, hst⟩
 refine ⟨_, z, ?_⟩
 replace hst := hst.of1
 refine ws_next (pend' := [(0, Pt b313 0)]) hst (by kernel_rfl) (pkr z z (fun w hst => z) pk_nil) ?_
 refine wsr (Pt b313 0) 11 z z z (by kernel_rfl) (fun w hst => z) (wsr (Pt b313 0) 12 z z z (by kernel_rfl) (fun w hst => x_field z underlying79 z sizeOf77 z) ?_)
 refine ws_e1 13 (by kernel_rfl) ?_
 refine nxe [] (by kernel_rfl) z z ?_
 clear hst
 intro w hst
 replace hst := hst.pull1
 obtain ⟨w371, hr372, hst⟩ := hst.boxStore1 (P := prog) (t := 77) (cs' := [v369]) 0 v369 (one_of_sliceV (hst.nestsv 1 z)) sizeOf77 z z
 refine we_unit z (x_unit hr372) ?_
 refine ws_next (pend' := []) hst (by kernel_rfl) pk_nil ?_
 refine ws_nil ?_
 intro w hst
 refine tn ?_
 replace hst := hst.pull1.pull1
 replace hst := at_mvcc_Store_close (pv := Pt b313 0) (x := ({ rows := t364 } : mvcc_Store)) hst z
 replace hst := hst.pull2.pull2.pull2.keep3
 obtain rfl := some_inj hm
 exact ⟨({ rows := t364 } : mvcc_Store), _, hx377, (fu 0 (Pt b313 0) z (fu 5 (Pt b308 0) z (fu 6 (.int .i64 t342.1) z z))), hst⟩
}
 {
 replace hm := bif_f hc347 hm
 refine wp_iff (cvb hc347) ?_
 refine wp_skip (tn ?_)
 replace hst := hst.pull2.pull2.pull2.keep3
 obtain rfl := some_inj hm
 exact ⟨o0, _, hx377, (fu 0 (Pt b313 0) z (fu 5 (Pt b308 0) z (fu 6 (.int .i64 t342.1) z z))), hst⟩
}
}
 {
 clear hst
 rintro _ w378 ⟨z373, σ374, hm, rfl, hst⟩
 dsimp only [mvcc_Store_Put_j1] at hm
 refine wp_seq (wrl (wv (Pt b313 0) z z z ?_))
 obtain ⟨b379, v380, e382, hst'⟩ := at_mvcc_Store_open hst
 clear hst
 have e382 := ptr_inj e382
 subst e382
 have hst := hst'
 clear hst'
 refine wv (Pt b313 0) z z z (wv (Pt b313 0) z z (x_field z underlying79 z sizeOf77 z) (wv (v380) z z (x_load z isAgg77 (hst.bc0 z)) (wv (.int .i64 t342.1) z z z ?_)))
 obtain ⟨x383, hx384, hm⟩ := bind_some hm
 obtain ⟨h385, h386, hi387⟩ := geto_some hx384
 refine wv (.pointer (some (eAddr v380 (t342.1.toNat * 2 + 0)))) z z (x_index z z underlying77 sizeOf76 (hst.nestsv 1 z) h385 h386) (wv (.pointer (some (eAddr v380 (t342.1.toNat * 2 + 1)))) z z (x_field_e z underlying76 z sizeOf53 z) ?_)
 replace hst := hst.pull1
 obtain ⟨v388, hst⟩ := hst.nest_focus hi387
 refine wv (v388) z z (x_load z isAgg53 ((hst.holeall (N := nest_mvcc_row) (i := t342.1.toNat) 1 z hi387) 1 _ z)) ?_
 obtain ⟨b391, w392, ew393, eb394, hst⟩ := hst.box [Zs] 53
 refine wl_run (v := Pt b391 0) (w' := w392) z z (x_al (by kernel_rfl) ew393 eb394) ?_
 obtain ⟨w397, hr398, hst⟩ := hst.boxStore1 (P := prog) (t := 53) (cs' := [v388]) 0 v388 (one_of_sliceV hst.sv1) sizeOf53 z z
 refine wl_unit z z (x_unit hr398) ?_
 refine wl_nil (tn (wp_seq (wrl (wv (v388) z z (x_load z isAgg53 (hst.bc0 z)) (wv (.int .i64 ((x383.l).length : Int)) z z (x_len z underlying53 hst.sv1) (wv (.func (.func 43) #[] #[Pt b391 0, Pt b308 0]) z z (by kernel_rfl) ?_))))))
 obtain ⟨y488, hq489, hm⟩ := bind_some hm
 refine wl_call z z (x_callv call38 (caps := []) z (vs := [I6 ((x383.l).length : Int), .func (.func 43) #[] #[Pt b391 0, Pt b308 0]]) z) ?_
 refine Calls.mono (show Calls prog 38 #[I6 ((x383.l).length : Int), .func (.func 43) #[] #[Pt b391 0, Pt b308 0]] _ (fun e w' => ∃ (z486 : Int), z486 = y488 ∧ e = .returned (.int .i64 z486) ∧ St w0 w' I [cells b313 [v380], ownS ty_mvcc_Version v388 x383.l, holeN nest_mvcc_row v380 z373.rows t342.1.toNat v388, cells b308 [U6 a2.Epoch, U6 a2.Index, .bool a2.Del, v330], ownS (tyInt .u8) v330 z331, cells b391 [v388]] R) from ?_) ?_
 {
 clear hm; have hm := hq489
 refine calls_start (args := [I6 ((x383.l).length : Int), .func (.func 43) #[] #[Pt b391 0, Pt b308 0]]) func38 z ntmps38 (Nat.le_of_ble_eq_true z) ?_
 refine wp_seq (wrl (wv (.int .i64 (0:Int)) z z z (wl_nil (tn (wp_seq (wrl (wv (.int .i64 ((x383.l).length : Int)) z z z (wv (.int .i64 (0:Int)) z z z (wv (.int .i64 ((x383.l).length : Int)) z z z (wl_nil (tn (wp_seq (wp_block ?_)))))))))))))
 obtain ⟨n454, hm⟩ := loopO_some hm
 refine wp_loop_n (fun n a w => ∃ (z451 : Int) (z452 : Int) (σ453 : Nat → Value), loopN (mvcc_Store_Put_l2 x383 a2) n (z451, z452) = some y488 ∧ a = Fr 26 (upd (upd (upd σ453 1 (.func (.func 43) #[] #[Pt b391 0, Pt b308 0])) 5 (.int .i64 z451)) 6 (.int .i64 z452)) ∧ St w0 w I [cells b391 [v388], ownS ty_mvcc_Version v388 x383.l, holeN nest_mvcc_row v380 z373.rows t342.1.toNat v388, cells b313 [v380], cells b308 [U6 a2.Epoch, U6 a2.Index, .bool a2.Del, v330], ownS (tyInt .u8) v330 z331] R) n454 ⟨(0:Int), ((x383.l).length : Int), _, hm, (fu 1 (.func (.func 43) #[] #[Pt b391 0, Pt b308 0]) z (fu 5 (.int .i64 (0:Int)) z (fu 6 (.int .i64 ((x383.l).length : Int)) z z))), hst⟩ ?_
 rintro n460 _ w455 ⟨z451, z452, σ453, hm, rfl, hst⟩
 obtain ⟨n457, y458, rfl, hm, hx459⟩ := loopN_some hm
 dsimp only [mvcc_Store_Put_l2] at hm
 refine wp_seq (wp_seq (wrl (wv (.int .i64 z451) z z z (wv (.int .i64 z452) z z z (wv (.bool (decide (z451 < z452))) z z z (wl_nil (tn ?_)))))))
 refine bsplit (decide (z451 < z452)) (fun hc461 => ?_) (fun hc461 => ?_)
 {
 replace hm := bif_t hc461 hm
 refine wp_ift (cvb hc461) ?_
 refine wp_skip (tn (wp_block (wp_seq (wrl ?_))))
 refine wv (.int .i64 z451) z z z (wv (.int .i64 z452) z z z (wv (.int .i64 (i64.wrap (z451 + z452))) z z z (wv (.int .u64 (u64.wrap (i64.wrap (z451 + z452)))) z z (by kernel_rfl) (wv (.int .u64 (iShr .u64 (u64.wrap (i64.wrap (z451 + z452))) (1:Int))) z z (x_shr (by decide) z z) (wv (.int .i64 (i64.wrap (iShr .u64 (u64.wrap (i64.wrap (z451 + z452))) (1:Int)))) z z (by kernel_rfl) (wv (.int .i64 (i64.wrap (iShr .u64 (u64.wrap (i64.wrap (z451 + z452))) (1:Int)))) z z z (wl_nil (tn (wp_seq (wrl (wv (.func (.func 43) #[] #[Pt b391 0, Pt b308 0]) z z z (wv (.int .i64 (i64.wrap (iShr .u64 (u64.wrap (i64.wrap (z451 + z452))) (1:Int)))) z z z ?_))))))))))))
 obtain ⟨y482, hq483, hm⟩ := bind_some hm
 refine wl_call z z (x_callv call43 (caps := [Pt b391 0, Pt b308 0]) z (vs := [I6 (i64.wrap (iShr .u64 (u64.wrap (i64.wrap (z451 + z452))) (1:Int)))]) z) ?_
 refine Calls.mono (show Calls prog 43 #[I6 (i64.wrap (iShr .u64 (u64.wrap (i64.wrap (z451 + z452))) (1:Int))), Pt b391 0, Pt b308 0] _ (fun e w' => ∃ (z480 : Bool), z480 = y482 ∧ e = .returned (.bool z480) ∧ St w0 w' I [cells b313 [v380], ownS ty_mvcc_Version v388 x383.l, holeN nest_mvcc_row v380 z373.rows t342.1.toNat v388, cells b308 [U6 a2.Epoch, U6 a2.Index, .bool a2.Del, v330], ownS (tyInt .u8) v330 z331, cells b391 [v388]] R) from ?_) ?_
 {
 clear hm; have hm := hq483
 refine calls_start (args := [I6 (i64.wrap (iShr .u64 (u64.wrap (i64.wrap (z451 + z452))) (1:Int))), Pt b391 0, Pt b308 0]) func43 z ntmps43 (Nat.le_of_ble_eq_true z) ?_
 refine wp_seq (wrl (wv (.bool false) z z z (wl_nil (tn (wp_seq ?_)))))
 replace hst := hst.pull1
 obtain ⟨css462, hq463, hst⟩ := hst.own_open
 refine wp_region_St hst 11 [0, 1, 2, 3, 4, 5, 6, 7, 8, 9, 10] [0, 0, 3, 7, 0, 16, 0, 64, 255, 511, 1023] [] z (by kernel_rfl) (by kernel_rfl) Try.mixed (by kernel_rfl) ?_
 refine wsr (v388) 0 z z z (by kernel_rfl) (fun w hst => x_load z isAgg53 (hst.bc1 z)) (wsr (.int .i64 (i64.wrap (iShr .u64 (u64.wrap (i64.wrap (z451 + z452))) (1:Int)))) 1 z z z (by kernel_rfl) (fun w hst => z) ?_)
 obtain ⟨x464, hx465, hm⟩ := bind_some hm
 obtain ⟨h466, h467, hi468⟩ := geto_some hx465
 refine wsr (.pointer (some (eAddr v388 ((i64.wrap (iShr .u64 (u64.wrap (i64.wrap (z451 + z452))) (1:Int))).toNat * 4 + 0)))) 2 z z z (by kernel_rfl) (fun w hst => x_index z z underlying53 sizeOf52 (hst.rsv 0 z hq463) h466 h467) ?_
 obtain ⟨cs469, hc471, hr470⟩ := Reps.get hq463 hi468
 obtain ⟨v472, rfl, f473, -⟩ := hr470
 refine wsr (.agg #[U6 x464.Epoch, U6 x464.Index, .bool x464.Del, v472]) 3 z z z (by kernel_rfl) (fun w hst => x_loadN (cs := [U6 x464.Epoch, U6 x464.Index, .bool x464.Del, v472]) z isAgg52 sizeOf52 (eCells (o := 0) (hst.rcell 0 z hc471) z)) (wsr (Pt b308 0) 4 z z z (by kernel_rfl) (fun w hst => x_field z underlying52 z sizeOf24 z) (wsr (.int .u64 a2.Epoch) 5 z z z (by kernel_rfl) (fun w hst => x_load z isAgg24 (hst.bc4 z)) (wsr (Pt b308 1) 6 z z z (by kernel_rfl) (fun w hst => x_field z underlying52 z sizeOf24 z) (wsr (.int .u64 a2.Index) 7 z z z (by kernel_rfl) (fun w hst => x_load z isAgg24 (hst.bc4 z)) ?_))))
 refine ws_e1 8 (by kernel_rfl) ?_
 refine nxe [9, 10] (by kernel_rfl) z z ?_
 clear hst
 intro w hst
 obtain ⟨t475, ht476, hm⟩ := bind_some hm
 refine wec call44 [.agg #[U6 x464.Epoch, U6 x464.Index, .bool x464.Del, v472], U6 a2.Epoch, U6 a2.Index] z z ?_
 refine (mvcc_ahead_ref (f473.mono ro_rd) hst.to0 ht476).mono ?_
 rintro _ w477 ⟨rfl, hst⟩
 refine ⟨_, z, ?_⟩
 replace hst := hst.of0
 refine ws_next (pend' := []) hst (by kernel_rfl) pk_nil ?_
 refine wsr (.bool (!t475)) 9 z z z (by kernel_rfl) (fun w hst => z) (wsr (.bool (!t475)) 10 z z z (by kernel_rfl) (fun w hst => z) ?_)
 refine ws_nil ?_
 intro w hst
 replace hst := hst.own_close hq463
 refine tn (wp_ret ?_)
 refine post_ret (vs := [.bool (!t475)]) results43 (rvs_cons (rv_tmp z) rvs_nil) ?_
 replace hst := hst.pull1.pull5.pull5.pull4.pull4.pull5.keep6
 obtain rfl := some_inj hm
 exact ⟨(!t475), z, z, hst⟩
}
 clear hst
 rintro _ w484 ⟨z480, rfl, rfl, hst⟩
 refine ⟨_, z, ?_⟩
 try dsimp only at hm
 refine wv (.bool (!z480)) z z z (wl_nil (tn ?_))
 refine bsplit (!z480) (fun hc485 => ?_) (fun hc485 => ?_)
 {
 replace hm := bif_t hc485 hm
 refine wp_ift (cvb hc485) ?_
 refine wrl (wv (.int .i64 (i64.wrap (iShr .u64 (u64.wrap (i64.wrap (z451 + z452))) (1:Int)))) z z z (wv (.int .i64 (i64.wrap ((i64.wrap (iShr .u64 (u64.wrap (i64.wrap (z451 + z452))) (1:Int))) + (1:Int)))) z z z (wv (.int .i64 (i64.wrap ((i64.wrap (iShr .u64 (u64.wrap (i64.wrap (z451 + z452))) (1:Int))) + (1:Int)))) z z z (wl_nil (blk_n (tn ?_))))))
 replace hst := hst.pull4.pull4.pull2.pull4.pull4.pull5.keep6
 obtain rfl := some_inj hm
 exact ⟨_, Nat.lt_succ_self _, (i64.wrap ((i64.wrap (iShr .u64 (u64.wrap (i64.wrap (z451 + z452))) (1:Int))) + (1:Int))), z452, _, hx459, (fu 1 (.func (.func 43) #[] #[Pt b391 0, Pt b308 0]) z (fu 5 (.int .i64 (i64.wrap ((i64.wrap (iShr .u64 (u64.wrap (i64.wrap (z451 + z452))) (1:Int))) + (1:Int)))) z (fu 6 (.int .i64 z452) z z))), hst⟩
}
 {
 replace hm := bif_f hc485 hm
 refine wp_iff (cvb hc485) ?_
 refine wrl (wv (.int .i64 (i64.wrap (iShr .u64 (u64.wrap (i64.wrap (z451 + z452))) (1:Int)))) z z z (wv (.int .i64 (i64.wrap (iShr .u64 (u64.wrap (i64.wrap (z451 + z452))) (1:Int)))) z z z (wl_nil (blk_n (tn ?_)))))
 replace hst := hst.pull4.pull4.pull2.pull4.pull4.pull5.keep6
 obtain rfl := some_inj hm
 exact ⟨_, Nat.lt_succ_self _, z451, (i64.wrap (iShr .u64 (u64.wrap (i64.wrap (z451 + z452))) (1:Int))), _, hx459, (fu 1 (.func (.func 43) #[] #[Pt b391 0, Pt b308 0]) z (fu 5 (.int .i64 z451) z (fu 6 (.int .i64 (i64.wrap (iShr .u64 (u64.wrap (i64.wrap (z451 + z452))) (1:Int)))) z z))), hst⟩
}
}
 {
 replace hm := bif_f hc461 hm
 refine wp_iff (cvb hc461) ?_
 refine wp_exit (then_x (then_x ?_))
 replace hm := inr_up hm hx459
 refine blk_x (tn (wp_seq (wrl ?_)))
 refine wv (.int .i64 z451) z z z (wv (.int .i64 z451) z z z (wl_nil (tn (wp_ret ?_))))
 refine post_ret (vs := [I6 z451]) results38 (rvs_cons (rv_tmp z) rvs_nil) ?_
 replace hst := hst.pull5.pull5.pull4.pull4.pull5.keep6
 obtain rfl := some_inj hm
 exact ⟨z451, z, z, hst⟩
}
}
 clear hst
 rintro _ w490 ⟨z486, rfl, rfl, hst⟩
 refine ⟨_, z, ?_⟩
 try dsimp only at hm
 refine wv (.int .i64 z486) z z z (wl_nil (tn ?_))
 obtain ⟨y517, hm, hx518⟩ := joinO_some hm
 refine wp_cut (fun a w => ∃ (I514 : HL) (σ515 : Nat → Value), (mvcc_Store_Put_j3 x383 z486 a2 z331 z373 t342) () = some r ∧ a = Fr 93 (upd (upd (upd (upd (upd σ515 0 (Pt b313 0)) 5 (Pt b308 0)) 6 (.int .i64 t342.1)) 8 (Pt b391 0)) 9 (.int .i64 z486)) ∧ I.le I514 ∧ St w0 w I514 [cells b313 [v380], ownS ty_mvcc_Version v388 x383.l, holeN nest_mvcc_row v380 z373.rows t342.1.toNat v388, cells b308 [U6 a2.Epoch, U6 a2.Index, .bool a2.Del, v330], ownS (tyInt .u8) v330 z331, cells b391 [v388]] R) ?_ ?_
 {
 have hL519 := HL.le.refl I
 refine wp_seq ?_
 replace hst := hst.pull1
 obtain ⟨css491, hq492, hst⟩ := hst.own_open
 refine wq_regionS hst Try.mixed (by kernel_rfl) ?_
 refine wq_run (v := .int .i64 z486) z z (fun w hst => z) ?_
 refine wq_run (v := v388) z z (fun w hst => x_load z isAgg53 (hst.bc5 z)) ?_
 refine wq_run (v := .int .i64 ((x383.l).length : Int)) z z (fun w hst => x_len z underlying53 (hst.rsv 0 z hq492)) ?_
 refine wq_run (v := .bool (decide (z486 < ((x383.l).length : Int)))) z z (fun w hst => z) ?_
 refine wq_run (v := .bool (decide (z486 < ((x383.l).length : Int)))) z z (fun w hst => z) ?_
 refine bsplit (decide (z486 < ((x383.l).length : Int))) (fun hc493 => ?_) (fun hc493 => ?_)
 {
 replace hm := bif_t hc493 hm
 refine wq_run (v := v388) ((wanted_eq z z z (cvb hc493)).trans z) z (fun w hst => x_load z isAgg53 (hst.bc5 z)) ?_
 refine wq_run (v := .int .i64 z486) ((wanted_eq z z z (cvb hc493)).trans z) z (fun w hst => z) ?_
 obtain ⟨x494, hx495, hm⟩ := bind_some hm
 obtain ⟨h496, h497, hi498⟩ := geto_some hx495
 refine wq_run (v := .pointer (some (eAddr v388 (z486.toNat * 4 + 0)))) ((wanted_eq z z z (cvb hc493)).trans z) z (fun w hst => x_index z z underlying53 sizeOf52 (hst.rsv 0 z hq492) h496 h497) ?_
 refine wq_run (v := .pointer (some (eAddr v388 (z486.toNat * 4 + 0)))) ((wanted_eq z z z (cvb hc493)).trans z) z (fun w hst => x_field_e z underlying52 z sizeOf24 z) ?_
 obtain ⟨cs499, hc501, hr500⟩ := Reps.get hq492 hi498
 obtain ⟨v502, rfl, f503, -⟩ := hr500
 refine wq_run (v := .int .u64 x494.Epoch) ((wanted_eq z z z (cvb hc493)).trans z) z (fun w hst => x_load z isAgg24 ((hst.rcell 0 z hc501) 0 _ z)) ?_
 refine wq_run (v := Pt b308 0) ((wanted_eq z z z (cvb hc493)).trans z) z (fun w hst => x_field z underlying52 z sizeOf24 z) ?_
 refine wq_run (v := .int .u64 a2.Epoch) ((wanted_eq z z z (cvb hc493)).trans z) z (fun w hst => x_load z isAgg24 (hst.bc3 z)) ?_
 refine wq_run (v := .bool (x494.Epoch == a2.Epoch)) ((wanted_eq z z z (cvb hc493)).trans z) z (fun w hst => z) ?_
 refine wq_run (v := .bool (x494.Epoch == a2.Epoch)) z z (fun w hst => x_pick_t hc493 z z) ?_
 refine wq_run (v := .bool (x494.Epoch == a2.Epoch)) z z (fun w hst => z) ?_
 refine bsplit (x494.Epoch == a2.Epoch) (fun hc505 => ?_) (fun hc505 => ?_)
 {
 replace hm := bif_t hc505 hm
 refine wq_run (v := v388) ((wanted_eq z z z (cvb hc505)).trans z) z (fun w hst => x_load z isAgg53 (hst.bc5 z)) ?_
 refine wq_run (v := .int .i64 z486) ((wanted_eq z z z (cvb hc505)).trans z) z (fun w hst => z) ?_
 refine wq_run (v := .pointer (some (eAddr v388 (z486.toNat * 4 + 0)))) ((wanted_eq z z z (cvb hc505)).trans z) z (fun w hst => x_index z z underlying53 sizeOf52 (hst.rsv 0 z hq492) h496 h497) ?_
 refine wq_run (v := .pointer (some (eAddr v388 (z486.toNat * 4 + 1)))) ((wanted_eq z z z (cvb hc505)).trans z) z (fun w hst => x_field_e z underlying52 z sizeOf24 z) ?_
 refine wq_run (v := .int .u64 x494.Index) ((wanted_eq z z z (cvb hc505)).trans z) z (fun w hst => x_load z isAgg24 ((hst.rcell 0 z hc501) 1 _ z)) ?_
 refine wq_run (v := Pt b308 1) ((wanted_eq z z z (cvb hc505)).trans z) z (fun w hst => x_field z underlying52 z sizeOf24 z) ?_
 refine wq_run (v := .int .u64 a2.Index) ((wanted_eq z z z (cvb hc505)).trans z) z (fun w hst => x_load z isAgg24 (hst.bc3 z)) ?_
 refine wq_run (v := .bool (x494.Index == a2.Index)) ((wanted_eq z z z (cvb hc505)).trans z) z (fun w hst => z) ?_
 refine wq_run (v := .bool (x494.Index == a2.Index)) z z (fun w hst => x_pick_t hc505 z z) ?_
 refine wq_nil ?_
 intro w hst
 replace hst := hst.own_close hq492
 refine tn ?_
 refine bsplit (x494.Index == a2.Index) (fun hc506 => ?_) (fun hc506 => ?_)
 {
 replace hm := bif_t hc506 hm
 refine wp_ift (cvb hc506) ?_
 refine wp_seq (wrl (wv (v388) z z (x_load z isAgg53 (hst.bc5 z)) (wv (.int .i64 z486) z z z (wv (.agg #[U6 a2.Epoch, U6 a2.Index, .bool a2.Del, v330]) z z (x_loadN (cs := [U6 a2.Epoch, U6 a2.Index, .bool a2.Del, v330]) z isAgg52 sizeOf52 (hst.bcs3 0 z)) (wv (.pointer (some (eAddr v388 (z486.toNat * 4 + 0)))) z z (x_index z z underlying53 sizeOf52 hst.sv0 h496 h497) ?_)))))
 replace hst := hst.pull4
 obtain ⟨I507, hI508, f509, hst⟩ := hst.own_fix
 replace f2_0 := f2_0.mono (rd_le hI508)
 replace f503 := f503.mono (ro_le hI508)
 replace hI0 := hI0.trans hI508
 replace hL519 := hL519.trans hI508
 obtain ⟨w510, hr511, hst⟩ := hst.own_store (P := prog) (t := 52) (y := ({ Epoch := a2.Epoch, Index := a2.Index, Del := a2.Del, Val := z331 } : mvcc_Version)) hi498 0 (.agg #[U6 a2.Epoch, U6 a2.Index, .bool a2.Del, v330]) sizeOf52 (Nat.le_of_ble_eq_true z) (oC z (oC z (oC z (oC (one_of_sliceV (ro_sliceV f509)) oN)))) (fun cs h => ⟨_, setMany_all (ty_mvcc_Version.len h) z, f509, one_of_sliceV (ro_sliceV f509)⟩)
 have hi512 := set_get hi498 ({ Epoch := a2.Epoch, Index := a2.Index, Del := a2.Del, Val := z331 } : mvcc_Version)
 have h513 := set_lt h497 z486.toNat ({ Epoch := a2.Epoch, Index := a2.Index, Del := a2.Del, Val := z331 } : mvcc_Version)
 refine wl_unit z z (x_unit hr511) ?_
 refine wl_nil (tn (wp_ret (then_r ?_)))
 replace hm := inr_up hm hx518
 replace hst := hst.pull2.pull1
 replace hst := St.nest_close (N := nest_mvcc_row) hst hi387
 replace hst := hst.pull1
 replace hst := at_mvcc_Store_close (pv := Pt b313 0) (x := ({ rows := (z373.rows.set t342.1.toNat ({ rank := x383.rank, l := (x383.l.set z486.toNat ({ Epoch := a2.Epoch, Index := a2.Index, Del := a2.Del, Val := z331 } : mvcc_Version)) } : mvcc_row)) } : mvcc_Store)) hst z
 replace hst := objO_some hst
 obtain rfl := some_inj hm
 refine post_ret (vs := []) results22 rvs_nil ?_
 exact ⟨_, z, hI0, hst.keep1⟩
}
 {
 replace hm := bif_f hc506 hm
 refine wp_iff (cvb hc506) ?_
 refine wp_skip (tn ?_)
 replace hst := hst.pull5.pull5.pull5.pull5.pull4.pull5.keep6
 obtain rfl := some_inj hm
 exact ⟨_, _, hx518, (fu 0 (Pt b313 0) z (fu 5 (Pt b308 0) z (fu 6 (.int .i64 t342.1) z (fu 8 (Pt b391 0) z (fu 9 (.int .i64 z486) z z))))), hL519, hst⟩
}
}
 {
 replace hm := bif_f hc505 hm
 refine wq_off ((wanted_eq z z z (cvb hc505)).trans z) z ?_
 refine wq_off ((wanted_eq z z z (cvb hc505)).trans z) z ?_
 refine wq_off ((wanted_eq z z z (cvb hc505)).trans z) z ?_
 refine wq_off ((wanted_eq z z z (cvb hc505)).trans z) z ?_
 refine wq_off ((wanted_eq z z z (cvb hc505)).trans z) z ?_
 refine wq_off ((wanted_eq z z z (cvb hc505)).trans z) z ?_
 refine wq_off ((wanted_eq z z z (cvb hc505)).trans z) z ?_
 refine wq_off ((wanted_eq z z z (cvb hc505)).trans z) z ?_
 refine wq_run (v := .bool false) z z (fun w hst => x_pick_f hc505 z z) ?_
 refine wq_nil ?_
 intro w hst
 replace hst := hst.own_close hq492
 refine tn ?_
 refine wp_iff z ?_
 refine wp_skip (tn ?_)
 replace hst := hst.pull5.pull5.pull5.pull5.pull4.pull5.keep6
 obtain rfl := some_inj hm
 exact ⟨_, _, hx518, (fu 0 (Pt b313 0) z (fu 5 (Pt b308 0) z (fu 6 (.int .i64 t342.1) z (fu 8 (Pt b391 0) z (fu 9 (.int .i64 z486) z z))))), hL519, hst⟩
}
}
 {
 replace hm := bif_f hc493 hm
 refine wq_off ((wanted_eq z z z (cvb hc493)).trans z) z ?_
 refine wq_off ((wanted_eq z z z (cvb hc493)).trans z) z ?_
 refine wq_off ((wanted_eq z z z (cvb hc493)).trans z) z ?_
 refine wq_off ((wanted_eq z z z (cvb hc493)).trans z) z ?_
 refine wq_off ((wanted_eq z z z (cvb hc493)).trans z) z ?_
 refine wq_off ((wanted_eq z z z (cvb hc493)).trans z) z ?_
 refine wq_off ((wanted_eq z z z (cvb hc493)).trans z) z ?_
 refine wq_off ((wanted_eq z z z (cvb hc493)).trans z) z ?_
 refine wq_run (v := .bool false) z z (fun w hst => x_pick_f hc493 z z) ?_
 refine wq_run (v := .bool false) z z (fun w hst => z) ?_
 refine wq_off ((wanted_eq z z z z).trans z) z ?_
 refine wq_off ((wanted_eq z z z z).trans z) z ?_
 refine wq_off ((wanted_eq z z z z).trans z) z ?_
 refine wq_off ((wanted_eq z z z z).trans z) z ?_
 refine wq_off ((wanted_eq z z z z).trans z) z ?_
 refine wq_off ((wanted_eq z z z z).trans z) z ?_
 refine wq_off ((wanted_eq z z z z).trans z) z ?_
 refine wq_off ((wanted_eq z z z z).trans z) z ?_
 refine wq_run (v := .bool false) z z (fun w hst => x_pick_f z z z) ?_
 refine wq_nil ?_
 intro w hst
 replace hst := hst.own_close hq492
 refine tn ?_
 refine wp_iff z ?_
 refine wp_skip (tn ?_)
 replace hst := hst.pull5.pull5.pull5.pull5.pull4.pull5.keep6
 obtain rfl := some_inj hm
 exact ⟨_, _, hx518, (fu 0 (Pt b313 0) z (fu 5 (Pt b308 0) z (fu 6 (.int .i64 t342.1) z (fu 8 (Pt b391 0) z (fu 9 (.int .i64 z486) z z))))), hL519, hst⟩
}
}
 {
 clear hst
 rintro _ w520 ⟨I514, σ515, hm, rfl, hL516, hst⟩
 dsimp only [mvcc_Store_Put_j3] at hm
 replace f2_0 := f2_0.mono (rd_le hL516)
 replace hI0 := hI0.trans hL516
 refine wp_region_St hst 13 [0, 1, 2, 3, 4, 5, 6, 7, 8, 9, 10, 11, 12] [0, 1, 3, 7, 0, 0, 0, 0, 128, 480, 1023, 2047, 4095] [] z (by kernel_rfl) (by kernel_rfl) Try.mixed (by kernel_rfl) ?_
 refine wsr (Pt b313 0) 0 z z z (by kernel_rfl) (fun w hst => z) (wsr (Pt b313 0) 1 z z z (by kernel_rfl) (fun w hst => z) (wsr (Pt b313 0) 2 z z z (by kernel_rfl) (fun w hst => x_field z underlying79 z sizeOf77 z) (wsr (v380) 3 z z z (by kernel_rfl) (fun w hst => x_load z isAgg77 (hst.bc0 z)) (wsr (.int .i64 t342.1) 4 z z z (by kernel_rfl) (fun w hst => z) (wsr (v388) 5 z z z (by kernel_rfl) (fun w hst => x_load z isAgg53 (hst.bc5 z)) (wsr (.int .i64 z486) 6 z z z (by kernel_rfl) (fun w hst => z) (wsr (.agg #[U6 a2.Epoch, U6 a2.Index, .bool a2.Del, v330]) 7 z z z (by kernel_rfl) (fun w hst => x_loadN (cs := [U6 a2.Epoch, U6 a2.Index, .bool a2.Del, v330]) z isAgg52 sizeOf52 (hst.bcs3 0 z)) ?_)))))))
 refine ws_e1 8 (by kernel_rfl) ?_
 refine nxe [9, 10, 11, 12] (by kernel_rfl) z z ?_
 clear hst
 intro w hst
 replace hst := hst.pull4
 obtain ⟨I522, hI523, f524, hst⟩ := hst.own_fix
 replace f2_0 := f2_0.mono (rd_le hI523)
 replace hI0 := hI0.trans hI523
 obtain ⟨b525, w526, ew527, eb528, hst⟩ := hst.lits (E := ty_mvcc_Version) (xs := [({ Epoch := a2.Epoch, Index := a2.Index, Del := a2.Del, Val := z331 } : mvcc_Version)]) [[U6 a2.Epoch, U6 a2.Index, .bool a2.Del, v330]] 52 1 z (Reps.cons ⟨_, z, f524, one_of_sliceV (ro_sliceV f524)⟩ Reps.nil)
 refine we_run (v := (.slice (some ⟨b525, 0, none⟩) 1 1)) (w' := w526) z (x_als (by kernel_rfl) ew527 eb528) ?_
 refine ws_next (pend' := [(6, I6 z486), (5, v388), (4, I6 t342.1), (3, v380), (2, Pt b313 0), (1, Pt b313 0), (0, Pt b313 0)]) hst (by kernel_rfl) (pkr z z (fun w hst => z) (pkr z z (fun w hst => x_load z isAgg53 (hst.bc5 z)) (pkr z z (fun w hst => z) (pkr z z (fun w hst => x_load z isAgg77 (hst.bc1 z)) (pkr z z (fun w hst => x_field z underlying79 z sizeOf77 z) (pkr z z (fun w hst => z) (pkr z z (fun w hst => z) pk_nil))))))) ?_
 refine ws_e1 9 (by kernel_rfl) ?_
 refine nxe [10, 11, 12] (by kernel_rfl) z z ?_
 clear hst
 intro w hst
 replace hst := hst.pull2
 obtain ⟨t530, ht531, hm⟩ := bind_some hm
 refine wec call45 [v388, I6 z486, (.slice (some ⟨b525, 0, none⟩) 1 1)] z z ?_
 refine (slices_Insert_mvcc_Version_mvcc_Version_ref hst.to2 ht531).mono ?_
 rintro _ w532 ⟨v535, rfl, hst⟩
 refine ⟨_, z, ?_⟩
 replace hst := hst.of1
 refine ws_next (pend' := [(4, I6 t342.1), (3, v380), (2, Pt b313 0), (1, Pt b313 0), (0, Pt b313 0)]) hst (by kernel_rfl) (pkr z z (fun w hst => z) (pkr z z (fun w hst => x_load z isAgg77 (hst.bc1 z)) (pkr z z (fun w hst => x_field z underlying79 z sizeOf77 z) (pkr z z (fun w hst => z) (pkr z z (fun w hst => z) pk_nil))))) ?_
 refine wsr (.pointer (some (eAddr v380 (t342.1.toNat * 2 + 0)))) 10 z z z (by kernel_rfl) (fun w hst => x_index z z underlying77 sizeOf76 (hst.holesv 2 z) h385 h386) (wsr (.pointer (some (eAddr v380 (t342.1.toNat * 2 + 1)))) 11 z z z (by kernel_rfl) (fun w hst => x_field_e z underlying76 z sizeOf53 z) ?_)
 refine ws_e1 12 (by kernel_rfl) ?_
 refine nxe [] (by kernel_rfl) z z ?_
 clear hst
 intro w hst
 replace hst := hst.pull2
 obtain ⟨w537, hr538, hst⟩ := hst.hole_store (P := prog) (t := 53) hi387 hst.sv1 sizeOf53
 refine we_unit z (x_unit hr538) ?_
 refine ws_next (pend' := []) hst (by kernel_rfl) pk_nil ?_
 refine ws_nil ?_
 intro w hst
 replace hst := hst.pull1
 replace hst := St.nest_close (N := nest_mvcc_row) hst hi387
 replace hst := hst.pull1
 replace hst := at_mvcc_Store_close (pv := Pt b313 0) (x := ({ rows := (z373.rows.set t342.1.toNat ({ rank := x383.rank, l := t530 } : mvcc_row)) } : mvcc_Store)) hst z
 replace hst := objO_some hst
 obtain rfl := some_inj hm
 refine post_end (vs := []) results22 rvs_nil ?_
 exact ⟨_, z, hI0, hst.keep1⟩
}
}
}
}
}

theorem math_Signbit_ref {w0 w : World} {I : HL} {R : SP} {a0 : Nat}  (hst : St w0 w I [] R) {r : (Bool)} (hm : math_Signbit a0 = some r) :
  Calls prog 63 #[F6 a0] w fun e w' => e = .returned (.bool r) ∧ St w0 w' I [] R := by {
 unfold math_Signbit at hm
 refine calls_start (args := [F6 a0]) func63 z ntmps63 (Nat.le_of_ble_eq_true z) ?_
 refine wp_seq (wrl (wv (.bool false) z z z (wl_nil (tn (wp_seq (wrl (wv (.float .f64 a0) z z z (wv (.int .u64 (Int.ofNat a0)) z z (by kernel_rfl) (wv (.int .i64 (i64.wrap (Int.ofNat a0))) z z (by kernel_rfl) (wv (.bool (decide ((i64.wrap (Int.ofNat a0)) < (0:Int)))) z z z (wv (.bool (decide ((i64.wrap (Int.ofNat a0)) < (0:Int)))) z z z (wl_nil (tn (wp_ret ?_))))))))))))))
 obtain rfl := some_inj hm
 refine post_ret (vs := [.bool (decide ((i64.wrap (Int.ofNat a0)) < (0:Int)))]) results63 (rvs_cons (rv_tmp z) rvs_nil) ?_
 exact ⟨z, hst.keep0⟩
}

theorem ref01_Ahead_ref {w0 w : World} {I : HL} {R : SP} {a0 : Nat} {a1 : Nat}  (hst : St w0 w I [] R) {r : (Bool)} (hm : ref01_Ahead a0 a1 = some r) :
  Calls prog 37 #[F6 a0, F6 a1] w fun e w' => e = .returned (.bool r) ∧ St w0 w' I [] R := by {
 unfold ref01_Ahead at hm
 refine calls_start (args := [F6 a0, F6 a1]) func37 z ntmps37 (Nat.le_of_ble_eq_true z) ?_
 refine wp_seq (wrl (wv (.bool false) z z z (wl_nil (tn (wp_seq (wp_seq (wrl (wv (.float .f64 a0) z z z (wv (.float .f64 a0) z z z (wv (.bool (fNe a0 a0)) z z z (wl_nil (tn ?_))))))))))))
 refine bsplit (fNe a0 a0) (fun hc100 => ?_) (fun hc100 => ?_)
 {
 replace hm := bif_t hc100 hm
 refine wp_ift (cvb hc100) ?_
 refine wp_seq (wrl (wv (.bool false) z z z (wl_nil (tn (wp_ret (then_r ?_))))))
 obtain rfl := some_inj hm
 refine post_ret (vs := [.bool false]) results37 (rvs_cons (rv_tmp z) rvs_nil) ?_
 exact ⟨z, hst.keep0⟩
}
 {
 replace hm := bif_f hc100 hm
 refine wp_iff (cvb hc100) ?_
 refine wp_skip (tn (wp_seq (wp_seq (wrl ?_))))
 refine wv (.float .f64 a1) z z z (wv (.float .f64 a1) z z z (wv (.bool (fNe a1 a1)) z z z (wl_nil (tn ?_))))
 refine bsplit (fNe a1 a1) (fun hc101 => ?_) (fun hc101 => ?_)
 {
 replace hm := bif_t hc101 hm
 refine wp_ift (cvb hc101) ?_
 refine wp_seq (wrl (wv (.bool true) z z z (wl_nil (tn (wp_ret (then_r ?_))))))
 obtain rfl := some_inj hm
 refine post_ret (vs := [.bool true]) results37 (rvs_cons (rv_tmp z) rvs_nil) ?_
 exact ⟨z, hst.keep0⟩
}
 {
 replace hm := bif_f hc101 hm
 refine wp_iff (cvb hc101) ?_
 refine wp_skip (tn ?_)
 obtain ⟨y117, hm, hx118⟩ := joinO_some hm
 refine wp_cut (fun a w => ∃ (σ115 : Nat → Value), (ref01_Ahead_j0 a0 a1) () = some r ∧ a = Fr 27 (upd (upd σ115 0 (.float .f64 a0)) 1 (.float .f64 a1)) ∧ St w0 w I [] R) ?_ ?_
 {
 refine wp_seq (wrl (wv (.float .f64 a0) z z z (wv (.bool (fEq a0 (0:Nat))) z z z (wv (.bool (fEq a0 (0:Nat))) z z z ?_))))
 refine bsplit (fEq a0 (0:Nat)) (fun hc102 => ?_) (fun hc102 => ?_)
 {
 replace hm := bif_t hc102 hm
 refine wv (.float .f64 a1) ((wanted_eq z z z (cvb hc102)).trans z) z z (wv (.bool (fEq a1 (0:Nat))) ((wanted_eq z z z (cvb hc102)).trans z) z z (wv (.bool (fEq a1 (0:Nat))) z z (x_pick_t hc102 z z) (wl_nil (tn ?_))))
 refine bsplit (fEq a1 (0:Nat)) (fun hc103 => ?_) (fun hc103 => ?_)
 {
 replace hm := bif_t hc103 hm
 refine wp_ift (cvb hc103) ?_
 refine wp_seq (wrl (wv (.float .f64 a0) z z z ?_))
 obtain ⟨t104, ht105, hm⟩ := bind_some hm
 refine wc call63 [F6 a0] z z z ?_
 refine (math_Signbit_ref hst.to0 ht105).mono ?_
 rintro _ w106 ⟨rfl, hst⟩
 refine ⟨_, z, ?_⟩
 replace hst := hst.of0
 refine wv (.bool t104) z z z ?_
 refine bsplit t104 (fun hc109 => ?_) (fun hc109 => ?_)
 {
 replace hm := bif_t hc109 hm
 refine wv (.float .f64 a1) ((wanted_eq z z z (cvb hc109)).trans z) z z ?_
 obtain ⟨t110, ht111, hm⟩ := bind_some hm
 refine wl_call ((wanted_eq z z z (cvb hc109)).trans z) z (x_call call63 z (vs := [F6 a1]) z) ?_
 refine (math_Signbit_ref hst.to0 ht111).mono ?_
 rintro _ w112 ⟨rfl, hst⟩
 refine ⟨_, z, ?_⟩
 replace hst := hst.of0
 refine wv (.bool (!t110)) ((wanted_eq z z z (cvb hc109)).trans z) z z (wv (.bool (!t110)) z z (x_pick_t hc109 z z) (wv (.bool (!t110)) z z z (wl_nil (tn (wp_ret (then_r ?_))))))
 replace hm := inr_up hm hx118
 obtain rfl := some_inj hm
 refine post_ret (vs := [.bool (!t110)]) results37 (rvs_cons (rv_tmp z) rvs_nil) ?_
 exact ⟨z, hst.keep0⟩
}
 {
 replace hm := bif_f hc109 hm
 refine wo hc109 z z z z z z (wo hc109 z z z z z z (wo hc109 z z z z z z (wv (.bool false) z z (x_pick_f hc109 z z) (wv (.bool false) z z z (wl_nil (tn (wp_ret (then_r ?_))))))))
 replace hm := inr_up hm hx118
 obtain rfl := some_inj hm
 refine post_ret (vs := [.bool false]) results37 (rvs_cons (rv_tmp z) rvs_nil) ?_
 exact ⟨z, hst.keep0⟩
}
}
 {
 replace hm := bif_f hc103 hm
 refine wp_iff (cvb hc103) ?_
 refine wp_skip (tn ?_)
 replace hst := hst.keep0
 obtain rfl := some_inj hm
 exact ⟨_, hx118, (fu 0 (.float .f64 a0) z (fu 1 (.float .f64 a1) z z)), hst⟩
}
}
 {
 replace hm := bif_f hc102 hm
 refine wo hc102 z z z z z z (wo hc102 z z z z z z (wv (.bool false) z z (x_pick_f hc102 z z) (wl_nil (tn ?_))))
 refine wp_iff z ?_
 refine wp_skip (tn ?_)
 replace hst := hst.keep0
 obtain rfl := some_inj hm
 exact ⟨_, hx118, (fu 0 (.float .f64 a0) z (fu 1 (.float .f64 a1) z z)), hst⟩
}
}
 {
 clear hst
 rintro _ w119 ⟨σ115, hm, rfl, hst⟩
 dsimp only [ref01_Ahead_j0] at hm
 refine wp_seq (wrl (wv (.float .f64 a0) z z z (wv (.float .f64 a1) z z z (wv (.bool (fLt a0 a1)) z z z (wv (.bool (fLt a0 a1)) z z z (wl_nil (tn (wp_ret ?_))))))))
 obtain rfl := some_inj hm
 refine post_ret (vs := [.bool (fLt a0 a1)]) results37 (rvs_cons (rv_tmp z) rvs_nil) ?_
 exact ⟨z, hst.keep0⟩
}
}
}
}

theorem ref01_Same_ref {w0 w : World} {I : HL} {R : SP} {a0 : Nat} {a1 : Nat}  (hst : St w0 w I [] R) {r : (Bool)} (hm : ref01_Same a0 a1 = some r) :
  Calls prog 30 #[F6 a0, F6 a1] w fun e w' => e = .returned (.bool r) ∧ St w0 w' I [] R := by {
 unfold ref01_Same at hm
 refine calls_start (args := [F6 a0, F6 a1]) func30 z ntmps30 (Nat.le_of_ble_eq_true z) ?_
 refine wp_seq (wrl (wv (.bool false) z z z (wl_nil (tn (wp_seq (wrl (wv (.float .f64 a0) z z z (wv (.float .f64 a1) z z z ?_))))))))
 obtain ⟨t91, ht92, hm⟩ := bind_some hm
 refine wc call37 [F6 a0, F6 a1] z z z ?_
 refine (ref01_Ahead_ref hst.to0 ht92).mono ?_
 rintro _ w93 ⟨rfl, hst⟩
 refine ⟨_, z, ?_⟩
 replace hst := hst.of0
 refine wv (.bool (!t91)) z z z (wv (.bool (!t91)) z z z ?_)
 refine bsplit (!t91) (fun hc96 => ?_) (fun hc96 => ?_)
 {
 replace hm := bif_t hc96 hm
 refine wv (.float .f64 a1) ((wanted_eq z z z (cvb hc96)).trans z) z z (wv (.float .f64 a0) ((wanted_eq z z z (cvb hc96)).trans z) z z ?_)
 obtain ⟨t97, ht98, hm⟩ := bind_some hm
 refine wl_call ((wanted_eq z z z (cvb hc96)).trans z) z (x_call call37 z (vs := [F6 a1, F6 a0]) z) ?_
 refine (ref01_Ahead_ref hst.to0 ht98).mono ?_
 rintro _ w99 ⟨rfl, hst⟩
 refine ⟨_, z, ?_⟩
 replace hst := hst.of0
 refine wv (.bool (!t97)) ((wanted_eq z z z (cvb hc96)).trans z) z z (wv (.bool (!t97)) z z (x_pick_t hc96 z z) (wv (.bool (!t97)) z z z (wl_nil (tn (wp_ret ?_)))))
 obtain rfl := some_inj hm
 refine post_ret (vs := [.bool (!t97)]) results30 (rvs_cons (rv_tmp z) rvs_nil) ?_
 exact ⟨z, hst.keep0⟩
}
 {
 replace hm := bif_f hc96 hm
 refine wo hc96 z z z z z z (wo hc96 z z z z z z (wo hc96 z z z z z z (wo hc96 z z z z z z (wv (.bool false) z z (x_pick_f hc96 z z) (wv (.bool false) z z z (wl_nil (tn (wp_ret ?_))))))))
 obtain rfl := some_inj hm
 refine post_ret (vs := [.bool false]) results30 (rvs_cons (rv_tmp z) rvs_nil) ?_
 exact ⟨z, hst.keep0⟩
}
}

theorem ref11_Put_ref {w0 w : World} {I : HL} {R : SP} {a0 : (List ref11_Version)} {r0_0 : Value} {a1 : ref11_Version} {r1_0 : Value} (f0_0 : Ro ty_ref11_Version I r0_0 a0) (f1_0 : Ro (tyInt .u8) I r1_0 a1.Val) (hst : St w0 w I [] R) {r : ((List ref11_Version))} (hm : ref11_Put a0 a1 = some r) :
  Calls prog 29 #[r0_0, .agg #[F6 a1.At, U6 a1.Epoch, U6 a1.Index, .bool a1.Del, r1_0]] w fun e w' => ∃ (q0_0 : Value), e = .returned (q0_0) ∧ St w0 w' I [ownS ty_ref11_Version q0_0 r] R := by {
 unfold ref11_Put at hm
 refine calls_start (args := [r0_0, .agg #[F6 a1.At, U6 a1.Epoch, U6 a1.Index, .bool a1.Del, r1_0]]) func29 z ntmps29 (Nat.le_of_ble_eq_true z) ?_
 refine wp_seq (wrl ?_)
 obtain ⟨b389, w390, ew391, eb392, hst⟩ := hst.box [F6 a1.At, U6 a1.Epoch, U6 a1.Index, .bool a1.Del, r1_0] 67
 refine wl_run (v := Pt b389 0) (w' := w390) z z (x_al (by kernel_rfl) ew391 eb392) ?_
 refine wv ((.slice none 0 0)) z z z (wl_nil (tn (wp_seq (wrl (wv ((.slice none 0 0)) z z z (wl_nil (tn ?_)))))))
 obtain ⟨y677, hm, hx678⟩ := bind_some hm
 refine wp_cut (fun a w => ∃ (z674 : (List ref11_Version)) (v673 : Value) (σ675 : Nat → Value), (ref11_Put_j0 a1) z674 = some r ∧ a = Fr 56 (upd (upd σ675 3 (Pt b389 0)) 5 (v673)) ∧ St w0 w I [cells b389 [F6 a1.At, U6 a1.Epoch, U6 a1.Index, .bool a1.Del, r1_0], ownS ty_ref11_Version v673 z674] R) ?_ ?_
 {
 refine wp_seq (wrl (wv (.int .i64 (0:Int)) z z z (wl_nil (tn (wp_block ?_)))))
 replace hst := hst.own_nil ty_ref11_Version
 obtain ⟨n600, hm⟩ := loopO_some hm
 refine wp_loop_n (fun n a w => ∃ (z595 : (List ref11_Version)) (z598 : Int) (v596 : Value) (σ599 : Nat → Value), loopN (ref11_Put_l1 a0 a1) n (z595, z598) = some y677 ∧ a = Fr 56 (upd (upd (upd (upd σ599 0 (r0_0)) 3 (Pt b389 0)) 5 (v596)) 6 (.int .i64 z598)) ∧ St w0 w I [ownS ty_ref11_Version v596 z595, cells b389 [F6 a1.At, U6 a1.Epoch, U6 a1.Index, .bool a1.Del, r1_0]] R) n600 ⟨[], (0:Int), Zs, _, hm, (fu 0 r0_0 z (fu 3 (Pt b389 0) z (fu 5 (.slice none 0 0) z (fu 6 (.int .i64 (0:Int)) z z)))), hst⟩ ?_
 rintro n606 _ w601 ⟨z595, z598, v596, σ599, hm, rfl, hst⟩
 obtain ⟨n603, y604, rfl, hm, hx605⟩ := loopN_some hm
 dsimp only [ref11_Put_l1] at hm
 refine wp_seq (wp_seq (wrl (wv (.int .i64 z598) z z z (wv (r0_0) z z z (wv (.int .i64 ((a0).length : Int)) z z (x_len z underlying26 (ro_sliceV f0_0)) (wv (.bool (decide (z598 < ((a0).length : Int)))) z z z (wl_nil (tn ?_))))))))
 refine bsplit (decide (z598 < ((a0).length : Int))) (fun hc607 => ?_) (fun hc607 => ?_)
 {
 replace hm := bif_t hc607 hm
 refine wp_ift (cvb hc607) ?_
 refine wp_skip (tn (wp_seq (wp_block (wp_seq ?_))))
 refine wp_region_St hst 29 [0, 1, 2, 3, 4, 5, 6, 7, 8, 9, 10, 11, 12, 13, 14, 15, 16, 17, 18, 19, 20, 21, 22, 23, 24, 25, 26, 27, 28] [0, 0, 3, 7, 15, 0, 32, 127, 255, 511, 1023, 1023, 4095, 8191, 16383, 1023, 33791, 131071, 262143, 524287, 1048575, 1048575, 4194303, 8388607, 16777215, 1048575, 34603007, 134217727, 268435455] [] z (by kernel_rfl) (by kernel_rfl) Try.mixed (by kernel_rfl) ?_
 refine wsr (r0_0) 0 z z z (by kernel_rfl) (fun w hst => z) (wsr (.int .i64 z598) 1 z z z (by kernel_rfl) (fun w hst => z) ?_)
 obtain ⟨x608, hx609, hm⟩ := bind_some hm
 obtain ⟨h610, h611, hi612⟩ := geto_some hx609
 refine wsr (.pointer (some (eAddr r0_0 (z598.toNat * 5 + 0)))) 2 z z z (by kernel_rfl) (fun w hst => x_index z z underlying26 sizeOf67 (ro_sliceV f0_0) h610 h611) (wsr (.pointer (some (eAddr r0_0 (z598.toNat * 5 + 0)))) 3 z z z (by kernel_rfl) (fun w hst => x_field_e z underlying67 z sizeOf23 z) ?_)
 obtain ⟨cs613, hr614, hc615⟩ := Ro.getF f0_0 hi612
 obtain ⟨v616, rfl, f617, -⟩ := hr614
 refine wsr (.float .f64 x608.At) 4 z z z (by kernel_rfl) (fun w hst => x_load z isAgg23 ((hc615 (HL.le.refl _) hst) 0 _ z)) (wsr (Pt b389 0) 5 z z z (by kernel_rfl) (fun w hst => x_field z underlying67 z sizeOf23 z) (wsr (.float .f64 a1.At) 6 z z z (by kernel_rfl) (fun w hst => x_load z isAgg23 (hst.bc1 z)) ?_))
 refine ws_e1 7 (by kernel_rfl) ?_
 refine nxe [8, 9, 10, 11, 12, 13, 14, 15, 16, 17, 18, 19, 20, 21, 22, 23, 24, 25, 26, 27, 28] (by kernel_rfl) z z ?_
 clear hst
 intro w hst
 obtain ⟨t619, ht620, hm⟩ := bind_some hm
 refine wec call30 [F6 x608.At, F6 a1.At] z z ?_
 refine (ref01_Same_ref hst.to0 ht620).mono ?_
 rintro _ w621 ⟨rfl, hst⟩
 refine ⟨_, z, ?_⟩
 replace hst := hst.of0
 refine ws_next (pend' := []) hst (by kernel_rfl) pk_nil ?_
 refine wsr (.bool (!t619)) 8 z z z (by kernel_rfl) (fun w hst => z) (wsr (.bool (!t619)) 9 z z z (by kernel_rfl) (fun w hst => z) ?_)
 refine bsplit (!t619) (fun hc624 => ?_) (fun hc624 => ?_)
 {
 replace hm := bif_t hc624 hm
 refine ws_q (v := undef) 10 [11, 12, 13, 14, 15, 16, 17, 18, 19, 20, 21, 22, 23, 24, 25, 26, 27, 28] (by kernel_rfl) z z (yi_off ((wanted_eq z z z (cvb hc624)).trans z)) (ws_q (v := undef) 11 [12, 13, 14, 15, 16, 17, 18, 19, 20, 21, 22, 23, 24, 25, 26, 27, 28] (by kernel_rfl) z z (yi_off ((wanted_eq z z z (cvb hc624)).trans z)) (ws_q (v := undef) 12 [13, 14, 15, 16, 17, 18, 19, 20, 21, 22, 23, 24, 25, 26, 27, 28] (by kernel_rfl) z z (yi_off ((wanted_eq z z z (cvb hc624)).trans z)) (ws_q (v := undef) 13 [14, 15, 16, 17, 18, 19, 20, 21, 22, 23, 24, 25, 26, 27, 28] (by kernel_rfl) z z (yi_off ((wanted_eq z z z (cvb hc624)).trans z)) (ws_q (v := undef) 14 [15, 16, 17, 18, 19, 20, 21, 22, 23, 24, 25, 26, 27, 28] (by kernel_rfl) z z (yi_off ((wanted_eq z z z (cvb hc624)).trans z)) (ws_q (v := undef) 15 [16, 17, 18, 19, 20, 21, 22, 23, 24, 25, 26, 27, 28] (by kernel_rfl) z z (yi_off ((wanted_eq z z z (cvb hc624)).trans z)) (ws_q (v := undef) 16 [17, 18, 19, 20, 21, 22, 23, 24, 25, 26, 27, 28] (by kernel_rfl) z z (yi_off ((wanted_eq z z z (cvb hc624)).trans z)) (ws_q (v := undef) 17 [18, 19, 20, 21, 22, 23, 24, 25, 26, 27, 28] (by kernel_rfl) z z (yi_off ((wanted_eq z z z (cvb hc624)).trans z)) (wsr (.bool true) 18 z z z (by kernel_rfl) (fun w hst => x_pick_t hc624 z z) (wsr (.bool true) 19 z z z (by kernel_rfl) (fun w hst => z) (ws_q (v := undef) 20 [21, 22, 23, 24, 25, 26, 27, 28] (by kernel_rfl) z z (yi_off ((wanted_eq z z z z).trans z)) (ws_q (v := undef) 21 [22, 23, 24, 25, 26, 27, 28] (by kernel_rfl) z z (yi_off ((wanted_eq z z z z).trans z)) (ws_q (v := undef) 22 [23, 24, 25, 26, 27, 28] (by kernel_rfl) z z (yi_off ((wanted_eq z z z z).trans z)) ?_))))))))))))
 refine ws_q (v := undef) 23 [24, 25, 26, 27, 28] (by kernel_rfl) z z (yi_off ((wanted_eq z z z z).trans z)) (ws_q (v := undef) 24 [25, 26, 27, 28] (by kernel_rfl) z z (yi_off ((wanted_eq z z z z).trans z)) (ws_q (v := undef) 25 [26, 27, 28] (by kernel_rfl) z z (yi_off ((wanted_eq z z z z).trans z)) (ws_q (v := undef) 26 [27, 28] (by kernel_rfl) z z (yi_off ((wanted_eq z z z z).trans z)) (ws_q (v := undef) 27 [28] (by kernel_rfl) z z (yi_off ((wanted_eq z z z z).trans z)) (wsr (.bool true) 28 z z z (by kernel_rfl) (fun w hst => x_pick_t z z z) ?_)))))
 refine ws_nil ?_
 intro w hst
 refine tn ?_
 refine wp_ift z ?_
 refine wrl (wv (v596) z z z (wv (r0_0) z z z (wv (.int .i64 z598) z z z (wv (.pointer (some (eAddr r0_0 (z598.toNat * 5 + 0)))) z z (x_index z z underlying26 sizeOf67 (ro_sliceV f0_0) h610 h611) ?_))))
 obtain ⟨cs625, hr626, hc627⟩ := Ro.getF f0_0 hi612
 obtain ⟨v628, rfl, f629, -⟩ := hr626
 refine wv (.agg #[F6 x608.At, U6 x608.Epoch, U6 x608.Index, .bool x608.Del, v628]) z z (x_loadN (cs := [F6 x608.At, U6 x608.Epoch, U6 x608.Index, .bool x608.Del, v628]) z isAgg67 sizeOf67 (eCells (o := 0) (hc627 (HL.le.refl _) hst) z)) ?_
 obtain ⟨b632, w633, ew634, eb635, hst⟩ := hst.lits (E := ty_ref11_Version) (xs := [x608]) [[F6 x608.At, U6 x608.Epoch, U6 x608.Index, .bool x608.Del, v628]] 67 1 z (Reps.cons ⟨_, z, f629, one_of_sliceV (ro_sliceV f629)⟩ Reps.nil)
 refine wl_run (v := (.slice (some ⟨b632, 0, none⟩) 1 1)) (w' := w633) z z (x_als (by kernel_rfl) ew634 eb635) ?_
 obtain ⟨hg637, hm⟩ := gd_some hm
 replace hst := hst.pull1
 obtain ⟨v638, w639, hr640, hst⟩ := run_append elem_26 underlying26 hst hst.src1 (room_of hg637 z) 26
 refine wl_run (v := v638) (w' := w639) z z (x_append z z hr640) ?_
 refine wv (v638) z z z (wl_nil (blk_n (tn (wrl (wv (.int .i64 z598) z z z (wv (.int .i64 (i64.wrap (z598 + (1:Int)))) z z z (wv (.int .i64 (i64.wrap (z598 + (1:Int)))) z z z (wl_nil (tn ?_)))))))))
 replace hst := hst.pull2.pull1.keep2
 obtain rfl := some_inj hm
 exact ⟨_, Nat.lt_succ_self _, (z595 ++ ([x608])), (i64.wrap (z598 + (1:Int))), v638, _, hx605, (fu 0 r0_0 z (fu 3 (Pt b389 0) z (fu 5 v638 z (fu 6 (.int .i64 (i64.wrap (z598 + (1:Int)))) z z)))), hst⟩
}
 {
 replace hm := bif_f hc624 hm
 refine ws_q (v := r0_0) 10 [11, 12, 13, 14, 15, 16, 17, 18, 19, 20, 21, 22, 23, 24, 25, 26, 27, 28] (by kernel_rfl) z z (yi_run ((wanted_eq z z z (cvb hc624)).trans z) (fun w hst => z)) (ws_q (v := .int .i64 z598) 11 [12, 13, 14, 15, 16, 17, 18, 19, 20, 21, 22, 23, 24, 25, 26, 27, 28] (by kernel_rfl) z z (yi_run ((wanted_eq z z z (cvb hc624)).trans z) (fun w hst => z)) (ws_q (v := .pointer (some (eAddr r0_0 (z598.toNat * 5 + 0)))) 12 [13, 14, 15, 16, 17, 18, 19, 20, 21, 22, 23, 24, 25, 26, 27, 28] (by kernel_rfl) z z (yi_run ((wanted_eq z z z (cvb hc624)).trans z) (fun w hst => x_index z z underlying26 sizeOf67 (ro_sliceV f0_0) h610 h611)) (ws_q (v := .pointer (some (eAddr r0_0 (z598.toNat * 5 + 1)))) 13 [14, 15, 16, 17, 18, 19, 20, 21, 22, 23, 24, 25, 26, 27, 28] (by kernel_rfl) z z (yi_run ((wanted_eq z z z (cvb hc624)).trans z) (fun w hst => x_field_e z underlying67 z sizeOf24 z)) ?_)))
 obtain ⟨cs642, hr643, hc644⟩ := Ro.getF f0_0 hi612
 obtain ⟨v645, rfl, f646, -⟩ := hr643
 refine ws_q (v := .int .u64 x608.Epoch) 14 [15, 16, 17, 18, 19, 20, 21, 22, 23, 24, 25, 26, 27, 28] (by kernel_rfl) z z (yi_run ((wanted_eq z z z (cvb hc624)).trans z) (fun w hst => x_load z isAgg24 ((hc644 (HL.le.refl _) hst) 1 _ z))) (ws_q (v := Pt b389 1) 15 [16, 17, 18, 19, 20, 21, 22, 23, 24, 25, 26, 27, 28] (by kernel_rfl) z z (yi_run ((wanted_eq z z z (cvb hc624)).trans z) (fun w hst => x_field z underlying67 z sizeOf24 z)) (ws_q (v := .int .u64 a1.Epoch) 16 [17, 18, 19, 20, 21, 22, 23, 24, 25, 26, 27, 28] (by kernel_rfl) z z (yi_run ((wanted_eq z z z (cvb hc624)).trans z) (fun w hst => x_load z isAgg24 (hst.bc1 z))) (ws_q (v := .bool (x608.Epoch != a1.Epoch)) 17 [18, 19, 20, 21, 22, 23, 24, 25, 26, 27, 28] (by kernel_rfl) z z (yi_run ((wanted_eq z z z (cvb hc624)).trans z) (fun w hst => z)) (wsr (.bool (x608.Epoch != a1.Epoch)) 18 z z z (by kernel_rfl) (fun w hst => x_pick_f hc624 z z) (wsr (.bool (x608.Epoch != a1.Epoch)) 19 z z z (by kernel_rfl) (fun w hst => z) ?_)))))
 refine bsplit (x608.Epoch != a1.Epoch) (fun hc648 => ?_) (fun hc648 => ?_)
 {
 replace hm := bif_t hc648 hm
 refine ws_q (v := undef) 20 [21, 22, 23, 24, 25, 26, 27, 28] (by kernel_rfl) z z (yi_off ((wanted_eq z z z (cvb hc648)).trans z)) (ws_q (v := undef) 21 [22, 23, 24, 25, 26, 27, 28] (by kernel_rfl) z z (yi_off ((wanted_eq z z z (cvb hc648)).trans z)) (ws_q (v := undef) 22 [23, 24, 25, 26, 27, 28] (by kernel_rfl) z z (yi_off ((wanted_eq z z z (cvb hc648)).trans z)) (ws_q (v := undef) 23 [24, 25, 26, 27, 28] (by kernel_rfl) z z (yi_off ((wanted_eq z z z (cvb hc648)).trans z)) (ws_q (v := undef) 24 [25, 26, 27, 28] (by kernel_rfl) z z (yi_off ((wanted_eq z z z (cvb hc648)).trans z)) (ws_q (v := undef) 25 [26, 27, 28] (by kernel_rfl) z z (yi_off ((wanted_eq z z z (cvb hc648)).trans z)) (ws_q (v := undef) 26 [27, 28] (by kernel_rfl) z z (yi_off ((wanted_eq z z z (cvb hc648)).trans z)) (ws_q (v := undef) 27 [28] (by kernel_rfl) z z (yi_off ((wanted_eq z z z (cvb hc648)).trans z)) (wsr (.bool true) 28 z z z (by kernel_rfl) (fun w hst => x_pick_t hc648 z z) ?_))))))))
 refine ws_nil ?_
 intro w hst
 refine tn ?_
 refine wp_ift z ?_
 refine wrl (wv (v596) z z z (wv (r0_0) z z z (wv (.int .i64 z598) z z z (wv (.pointer (some (eAddr r0_0 (z598.toNat * 5 + 0)))) z z (x_index z z underlying26 sizeOf67 (ro_sliceV f0_0) h610 h611) (wv (.agg #[F6 x608.At, U6 x608.Epoch, U6 x608.Index, .bool x608.Del, v645]) z z (x_loadN (cs := [F6 x608.At, U6 x608.Epoch, U6 x608.Index, .bool x608.Del, v645]) z isAgg67 sizeOf67 (eCells (o := 0) (hc644 (HL.le.refl _) hst) z)) ?_)))))
 obtain ⟨b650, w651, ew652, eb653, hst⟩ := hst.lits (E := ty_ref11_Version) (xs := [x608]) [[F6 x608.At, U6 x608.Epoch, U6 x608.Index, .bool x608.Del, v645]] 67 1 z (Reps.cons ⟨_, z, f646, one_of_sliceV (ro_sliceV f646)⟩ Reps.nil)
 refine wl_run (v := (.slice (some ⟨b650, 0, none⟩) 1 1)) (w' := w651) z z (x_als (by kernel_rfl) ew652 eb653) ?_
 obtain ⟨hg655, hm⟩ := gd_some hm
 replace hst := hst.pull1
 obtain ⟨v656, w657, hr658, hst⟩ := run_append elem_26 underlying26 hst hst.src1 (room_of hg655 z) 26
 refine wl_run (v := v656) (w' := w657) z z (x_append z z hr658) ?_
 refine wv (v656) z z z (wl_nil (blk_n (tn (wrl (wv (.int .i64 z598) z z z (wv (.int .i64 (i64.wrap (z598 + (1:Int)))) z z z (wv (.int .i64 (i64.wrap (z598 + (1:Int)))) z z z (wl_nil (tn ?_)))))))))
 replace hst := hst.pull2.pull1.keep2
 obtain rfl := some_inj hm
 exact ⟨_, Nat.lt_succ_self _, (z595 ++ ([x608])), (i64.wrap (z598 + (1:Int))), v656, _, hx605, (fu 0 r0_0 z (fu 3 (Pt b389 0) z (fu 5 v656 z (fu 6 (.int .i64 (i64.wrap (z598 + (1:Int)))) z z)))), hst⟩
}
 {
 replace hm := bif_f hc648 hm
 refine ws_q (v := r0_0) 20 [21, 22, 23, 24, 25, 26, 27, 28] (by kernel_rfl) z z (yi_run ((wanted_eq z z z (cvb hc648)).trans z) (fun w hst => z)) (ws_q (v := .int .i64 z598) 21 [22, 23, 24, 25, 26, 27, 28] (by kernel_rfl) z z (yi_run ((wanted_eq z z z (cvb hc648)).trans z) (fun w hst => z)) (ws_q (v := .pointer (some (eAddr r0_0 (z598.toNat * 5 + 0)))) 22 [23, 24, 25, 26, 27, 28] (by kernel_rfl) z z (yi_run ((wanted_eq z z z (cvb hc648)).trans z) (fun w hst => x_index z z underlying26 sizeOf67 (ro_sliceV f0_0) h610 h611)) (ws_q (v := .pointer (some (eAddr r0_0 (z598.toNat * 5 + 2)))) 23 [24, 25, 26, 27, 28] (by kernel_rfl) z z (yi_run ((wanted_eq z z z (cvb hc648)).trans z) (fun w hst => x_field_e z underlying67 z sizeOf24 z)) (ws_q (v := .int .u64 x608.Index) 24 [25, 26, 27, 28] (by kernel_rfl) z z (yi_run ((wanted_eq z z z (cvb hc648)).trans z) (fun w hst => x_load z isAgg24 ((hc644 (HL.le.refl _) hst) 2 _ z))) (ws_q (v := Pt b389 2) 25 [26, 27, 28] (by kernel_rfl) z z (yi_run ((wanted_eq z z z (cvb hc648)).trans z) (fun w hst => x_field z underlying67 z sizeOf24 z)) (ws_q (v := .int .u64 a1.Index) 26 [27, 28] (by kernel_rfl) z z (yi_run ((wanted_eq z z z (cvb hc648)).trans z) (fun w hst => x_load z isAgg24 (hst.bc1 z))) (ws_q (v := .bool (x608.Index != a1.Index)) 27 [28] (by kernel_rfl) z z (yi_run ((wanted_eq z z z (cvb hc648)).trans z) (fun w hst => z)) (wsr (.bool (x608.Index != a1.Index)) 28 z z z (by kernel_rfl) (fun w hst => x_pick_f hc648 z z) ?_))))))))
 refine ws_nil ?_
 intro w hst
 refine tn ?_
 refine bsplit (x608.Index != a1.Index) (fun hc660 => ?_) (fun hc660 => ?_)
 {
 replace hm := bif_t hc660 hm
 refine wp_ift (cvb hc660) ?_
 refine wrl (wv (v596) z z z (wv (r0_0) z z z (wv (.int .i64 z598) z z z (wv (.pointer (some (eAddr r0_0 (z598.toNat * 5 + 0)))) z z (x_index z z underlying26 sizeOf67 (ro_sliceV f0_0) h610 h611) (wv (.agg #[F6 x608.At, U6 x608.Epoch, U6 x608.Index, .bool x608.Del, v645]) z z (x_loadN (cs := [F6 x608.At, U6 x608.Epoch, U6 x608.Index, .bool x608.Del, v645]) z isAgg67 sizeOf67 (eCells (o := 0) (hc644 (HL.le.refl _) hst) z)) ?_)))))
 obtain ⟨b662, w663, ew664, eb665, hst⟩ := hst.lits (E := ty_ref11_Version) (xs := [x608]) [[F6 x608.At, U6 x608.Epoch, U6 x608.Index, .bool x608.Del, v645]] 67 1 z (Reps.cons ⟨_, z, f646, one_of_sliceV (ro_sliceV f646)⟩ Reps.nil)
 refine wl_run (v := (.slice (some ⟨b662, 0, none⟩) 1 1)) (w' := w663) z z (x_als (by kernel_rfl) ew664 eb665) ?_
 obtain ⟨hg667, hm⟩ := gd_some hm
 replace hst := hst.pull1
 obtain ⟨v668, w669, hr670, hst⟩ := run_append elem_26 underlying26 hst hst.src1 (room_of hg667 z) 26
 refine wl_run (v := v668) (w' := w669) z z (x_append z z hr670) ?_
 refine wv (v668) z z z (wl_nil (blk_n (tn (wrl (wv (.int .i64 z598) z z z (wv (.int .i64 (i64.wrap (z598 + (1:Int)))) z z z (wv (.int .i64 (i64.wrap (z598 + (1:Int)))) z z z (wl_nil (tn ?_)))))))))
 replace hst := hst.pull2.pull1.keep2
 obtain rfl := some_inj hm
 exact ⟨_, Nat.lt_succ_self _, (z595 ++ ([x608])), (i64.wrap (z598 + (1:Int))), v668, _, hx605, (fu 0 r0_0 z (fu 3 (Pt b389 0) z (fu 5 v668 z (fu 6 (.int .i64 (i64.wrap (z598 + (1:Int)))) z z)))), hst⟩
}
 {
 replace hm := bif_f hc660 hm
 refine wp_iff (cvb hc660) ?_
 refine wp_skip (blk_n (tn (wrl ?_)))
 refine wv (.int .i64 z598) z z z (wv (.int .i64 (i64.wrap (z598 + (1:Int)))) z z z (wv (.int .i64 (i64.wrap (z598 + (1:Int)))) z z z (wl_nil (tn ?_))))
 replace hst := hst.pull1.pull1.keep2
 obtain rfl := some_inj hm
 exact ⟨_, Nat.lt_succ_self _, z595, (i64.wrap (z598 + (1:Int))), v596, _, hx605, (fu 0 r0_0 z (fu 3 (Pt b389 0) z (fu 5 v596 z (fu 6 (.int .i64 (i64.wrap (z598 + (1:Int)))) z z)))), hst⟩
}
}
}
}
 {
 replace hm := bif_f hc607 hm
 refine wp_iff (cvb hc607) ?_
 refine wp_exit (then_x (then_x ?_))
 replace hm := inr_up hm hx605
 refine blk_x (tn ?_)
 replace hst := hst.pull1.keep2
 obtain rfl := some_inj hm
 exact ⟨z595, v596, _, hx678, (fu 3 (Pt b389 0) z (fu 5 v596 z z)), hst⟩
}
}
 {
 clear hst
 rintro _ w679 ⟨z674, v673, σ675, hm, rfl, hst⟩
 dsimp only [ref11_Put_j0] at hm
 obtain ⟨y690, hm, hx691⟩ := bind_some hm
 refine wp_cut (fun a w => ∃ (z686 : (List Int)) (v685 : Value) (σ688 : Nat → Value), (ref11_Put_j2 z674 a1) z686 = some r ∧ a = Fr 56 (upd (upd σ688 3 (Pt b389 0)) 5 (v673)) ∧ Ro (tyInt .u8) I v685 z686 ∧ St w0 w I [cells b389 [F6 a1.At, U6 a1.Epoch, U6 a1.Index, .bool a1.Del, v685], ownS ty_ref11_Version v673 z674] R) ?_ ?_
 {
 refine wp_seq (wrl (wv (Pt b389 3) z z (x_field z underlying67 z sizeOf4 z) (wv (.bool a1.Del) z z (x_load z isAgg4 (hst.bc0 z)) (wl_nil (tn ?_)))))
 refine bsplit a1.Del (fun hc680 => ?_) (fun hc680 => ?_)
 {
 replace hm := bif_t hc680 hm
 refine wp_ift (cvb hc680) ?_
 refine wrl (wv (Pt b389 4) z z (x_field z underlying67 z sizeOf32 z) ?_)
 obtain ⟨w682, hr683, hst⟩ := hst.by_ [F6 a1.At, U6 a1.Epoch, U6 a1.Index, .bool a1.Del, Zs] 4 ((.slice none 0 0)) sizeOf32 z (oC z oN) (by kernel_rfl)
 refine wl_unit z z (x_unit hr683) ?_
 refine wl_nil (tn ?_)
 have f684 : Ro (tyInt .u8) I (.slice none 0 0) [] := ro_nil
 replace hst := hst.pull1.pull1.keep2
 obtain rfl := some_inj hm
 exact ⟨([]), Zs, _, hx691, (fu 3 (Pt b389 0) z (fu 5 v673 z z)), f684, hst⟩
}
 {
 replace hm := bif_f hc680 hm
 refine wp_iff (cvb hc680) ?_
 refine wp_skip (tn ?_)
 replace hst := hst.pull1.pull1.keep2
 obtain rfl := some_inj hm
 exact ⟨a1.Val, r1_0, _, hx691, (fu 3 (Pt b389 0) z (fu 5 v673 z z)), f1_0, hst⟩
}
}
 {
 clear hst
 rintro _ w692 ⟨z686, v685, σ688, hm, rfl, f687, hst⟩
 dsimp only [ref11_Put_j2] at hm
 refine wp_seq (wrl (wv (v673) z z z (wv (.agg #[F6 a1.At, U6 a1.Epoch, U6 a1.Index, .bool a1.Del, v685]) z z (x_loadN (cs := [F6 a1.At, U6 a1.Epoch, U6 a1.Index, .bool a1.Del, v685]) z isAgg67 sizeOf67 (hst.bcs0 0 z)) ?_)))
 obtain ⟨b694, w695, ew696, eb697, hst⟩ := hst.lits (E := ty_ref11_Version) (xs := [({ At := a1.At, Epoch := a1.Epoch, Index := a1.Index, Del := a1.Del, Val := z686 } : ref11_Version)]) [[F6 a1.At, U6 a1.Epoch, U6 a1.Index, .bool a1.Del, v685]] 67 1 z (Reps.cons ⟨_, z, f687, one_of_sliceV (ro_sliceV f687)⟩ Reps.nil)
 refine wl_run (v := (.slice (some ⟨b694, 0, none⟩) 1 1)) (w' := w695) z z (x_als (by kernel_rfl) ew696 eb697) ?_
 obtain ⟨hg699, hm⟩ := gd_some hm
 replace hst := hst.pull2
 obtain ⟨v700, w701, hr702, hst⟩ := run_append elem_26 underlying26 hst hst.src1 (room_of hg699 z) 26
 refine wl_run (v := v700) (w' := w701) z z (x_append z z hr702) ?_
 refine wv (v700) z z z (wl_nil (tn (wp_ret ?_)))
 obtain rfl := some_inj hm
 refine post_ret (vs := [v700]) results29 (rvs_cons (rv_tmp z) rvs_nil) ?_
 exact ⟨v700, z, hst.keep1⟩
}
}
}

theorem law11_fill_ref {w0 w : World} {I : HL} {R : SP} {a0 : (List law11_Ver)} {r0_0 : Value} (f0_0 : Ro ty_law11_Ver I r0_0 a0) (hst : St w0 w I [] R) {r : (mvcc_Store × (List ref11_Version) × Bool)} (hm : law11_fill a0 = some r) :
  Calls prog 9 #[r0_0] w fun e w' => ∃ (I' : HL) (q0 : Value) (q1_0 : Value), e = .returned (.tuple #[q0, q1_0, .bool r.2.2]) ∧ I.le I' ∧ St w0 w' I' [at_mvcc_Store q0 r.1, ownS ty_ref11_Version q1_0 r.2.1] R := by {
 unfold law11_fill at hm
 refine calls_start (args := [r0_0]) func9 z ntmps9 (Nat.le_of_ble_eq_true z) ?_
 have hI0 := HL.le.refl I
 refine wp_seq (wrl (wv (.pointer none) z z z (wv ((.slice none 0 0)) z z z (wv (.bool false) z z z (wl_nil (tn (wp_seq (wrl ?_))))))))
 obtain ⟨t311, ht312, hm⟩ := bind_some hm
 refine wc call21 [] z z z ?_
 refine (mvcc_New_ref hst.to0 ht312).mono ?_
 rintro _ w313 ⟨v316, rfl, hst⟩
 refine ⟨_, z, ?_⟩
 replace hst := hst.of1
 refine wv (v316) z z z (wl_nil (tn (wp_seq (wrl (wv ((.slice none 0 0)) z z z (wl_nil (tn (wp_seq (wp_seq (wrl (wv (r0_0) z z z (wv (.int .i64 ((a0).length : Int)) z z (x_len z underlying22 (ro_sliceV f0_0)) (wv (.bool (decide (((a0).length : Int) > (60:Int)))) z z z (wl_nil (tn ?_)))))))))))))))
 refine bsplit (decide (((a0).length : Int) > (60:Int))) (fun hc319 => ?_) (fun hc319 => ?_)
 {
 replace hm := bif_t hc319 hm
 refine wp_ift (cvb hc319) ?_
 refine wp_seq (wrl (wv (v316) z z z (wv ((.slice none 0 0)) z z z (wv (v316) z z z (wv ((.slice none 0 0)) z z z (wv (.bool false) z z z (wl_nil (tn (wp_ret (then_r ?_))))))))))
 replace hst := hst.own_nil ty_ref11_Version
 obtain rfl := some_inj hm
 refine post_ret (vs := [v316, Zs, .bool false]) results9 (rvs_cons (rv_tmp z) (rvs_cons (rv_tmp z) (rvs_cons (rv_tmp z) rvs_nil))) ?_
 replace hst := hst.pull1
 exact ⟨_, v316, Zs, z, hI0, hst.keep2⟩
}
 {
 replace hm := bif_f hc319 hm
 refine wp_iff (cvb hc319) ?_
 refine wp_skip (tn ?_)
 obtain ⟨y612, hm, hx613⟩ := joinO_some hm
 refine wp_cut (fun a w => ∃ (I609 : HL) (z605 : mvcc_Store) (z608 : (List ref11_Version)) (v607 : Value) (σ610 : Nat → Value), (law11_fill_j0) (z605, z608) = some r ∧ a = Fr 78 (upd (upd σ610 5 (v316)) 6 (v607)) ∧ I.le I609 ∧ St w0 w I609 [at_mvcc_Store v316 z605, ownS ty_ref11_Version v607 z608] R) ?_ ?_
 {
 have hL614 := HL.le.refl I
 refine wp_seq (wrl (wv (.int .i64 (0:Int)) z z z (wl_nil (tn (wp_block ?_)))))
 replace hst := hst.own_nil ty_ref11_Version
 obtain ⟨n531, hm⟩ := loopO_some hm
 refine wp_loop_n (fun n a w => ∃ (I529 : HL) (z524 : mvcc_Store) (z525 : (List ref11_Version)) (z528 : Int) (v526 : Value) (σ530 : Nat → Value), loopN (law11_fill_l1 a0) n (z524, z525, z528) = some y612 ∧ a = Fr 78 (upd (upd (upd (upd σ530 0 (r0_0)) 5 (v316)) 6 (v526)) 7 (.int .i64 z528)) ∧ I.le I529 ∧ St w0 w I529 [ownS ty_ref11_Version v526 z525, at_mvcc_Store v316 z524] R) n531 ⟨_, t311, [], (0:Int), Zs, _, hm, (fu 0 r0_0 z (fu 5 v316 z (fu 6 (.slice none 0 0) z (fu 7 (.int .i64 (0:Int)) z z)))), (HL.le.refl _), hst⟩ ?_
 rintro n537 _ w532 ⟨I529, z524, z525, z528, v526, σ530, hm, rfl, hL533, hst⟩
 obtain ⟨n534, y535, rfl, hm, hx536⟩ := loopN_some hm
 dsimp only [law11_fill_l1] at hm
 replace f0_0 := f0_0.mono (ro_le hL533)
 replace hI0 := hI0.trans hL533
 replace hL614 := hL614.trans hL533
 refine wp_seq (wp_seq (wrl (wv (.int .i64 z528) z z z (wv (r0_0) z z z (wv (.int .i64 ((a0).length : Int)) z z (x_len z underlying22 (ro_sliceV f0_0)) (wv (.bool (decide (z528 < ((a0).length : Int)))) z z z (wl_nil (tn ?_))))))))
 refine bsplit (decide (z528 < ((a0).length : Int))) (fun hc538 => ?_) (fun hc538 => ?_)
 {
 replace hm := bif_t hc538 hm
 refine wp_ift (cvb hc538) ?_
 refine wp_skip (tn (wp_seq (wp_block (wp_seq (wp_seq (wrl ?_))))))
 refine wv (r0_0) z z z (wv (.int .i64 z528) z z z ?_)
 obtain ⟨x539, hx540, hm⟩ := bind_some hm
 obtain ⟨h541, h542, hi543⟩ := geto_some hx540
 refine wv (.pointer (some (eAddr r0_0 (z528.toNat * 6 + 0)))) z z (x_index z z underlying22 sizeOf64 (ro_sliceV f0_0) h541 h542) (wv (.pointer (some (eAddr r0_0 (z528.toNat * 6 + 5)))) z z (x_field_e z underlying64 z sizeOf32 z) ?_)
 obtain ⟨cs544, hr545, hc546⟩ := Ro.getF f0_0 hi543
 obtain ⟨v547, rfl, f548, -⟩ := hr545
 refine wv (v547) z z (x_load z isAgg32 ((hc546 (HL.le.refl _) hst) 5 _ z)) (wv (.int .i64 ((x539.V).length : Int)) z z (x_len z underlying32 (ro_sliceV f548)) (wv (.bool (decide (((x539.V).length : Int) > (100:Int)))) z z z (wl_nil (tn ?_))))
 refine bsplit (decide (((x539.V).length : Int) > (100:Int))) (fun hc550 => ?_) (fun hc550 => ?_)
 {
 replace hm := bif_t hc550 hm
 refine wp_ift (cvb hc550) ?_
 refine wp_seq (wrl (wv (v316) z z z (wv (v526) z z z (wv (v316) z z z (wv (v526) z z z (wv (.bool false) z z z (wl_nil (tn (wp_ret (then_r (blk_r (then_r (then_r ?_)))))))))))))
 replace hm := inr_up hm hx536
 refine blk_r (then_r ?_)
 replace hm := inr_up hm hx613
 obtain rfl := some_inj hm
 refine post_ret (vs := [v316, v526, .bool false]) results9 (rvs_cons (rv_tmp z) (rvs_cons (rv_tmp z) (rvs_cons (rv_tmp z) rvs_nil))) ?_
 replace hst := hst.pull1
 exact ⟨_, v316, v526, z, hI0, hst.keep2⟩
}
 {
 replace hm := bif_f hc550 hm
 refine wp_iff (cvb hc550) ?_
 refine wp_skip (tn (wp_seq ?_))
 obtain ⟨y584, hm, hx585⟩ := bind_some hm
 refine wp_mid (fun a w => ∃ (z581 : Nat) (b580 : Nat) (σ582 : Nat → Value), (law11_fill_j2 z524 x539 z525 z528) z581 = some y535 ∧ a = Fr 78 (upd (upd (upd (upd (upd σ582 0 (r0_0)) 5 (v316)) 6 (v526)) 7 (.int .i64 z528)) 8 (Pt b580 0)) ∧ St w0 w I529 [at_mvcc_Store v316 z524, ownS ty_ref11_Version v526 z525, cells b580 [F6 z581, U6 (u64.wrap (Int.tmod x539.E (8:Int))), U6 (u64.wrap (Int.tmod x539.I (5:Int))), .bool x539.Del, v547]] R) ?_ ?_
 {
 refine wp_region_St hst 32 [0, 1, 2, 3, 4, 5, 6, 7, 8, 9, 10, 11, 12, 13, 14, 15, 16, 17, 18, 19, 20, 21, 22, 23, 24, 25, 26, 27, 28, 29, 30, 31] [0, 0, 3, 7, 15, 0, 0, 96, 224, 480, 992, 2016, 0, 0, 12288, 28672, 61440, 126976, 258048, 0, 0, 1572864, 3670016, 7864320, 0, 0, 50331648, 117440512, 251658240, 536870911, 0, 2147483647] [] z (by kernel_rfl) (by kernel_rfl) Try.mixed (by kernel_rfl) ?_
 refine wsr (r0_0) 0 z z z (by kernel_rfl) (fun w hst => z) (wsr (.int .i64 z528) 1 z z z (by kernel_rfl) (fun w hst => z) (wsr (.pointer (some (eAddr r0_0 (z528.toNat * 6 + 0)))) 2 z z z (by kernel_rfl) (fun w hst => x_index z z underlying22 sizeOf64 (ro_sliceV f0_0) h541 h542) (wsr (.agg #[U1 x539.At, F6 x539.X, U1 x539.E, U1 x539.I, .bool x539.Del, v547]) 3 z z z (by kernel_rfl) (fun w hst => x_loadN (cs := [U1 x539.At, F6 x539.X, U1 x539.E, U1 x539.I, .bool x539.Del, v547]) z isAgg64 sizeOf64 (eCells (o := 0) (hc546 (HL.le.refl _) hst) z)) (wsr (r0_0) 5 z z z (by kernel_rfl) (fun w hst => z) (wsr (.int .i64 z528) 6 z z z (by kernel_rfl) (fun w hst => z) (wsr (.pointer (some (eAddr r0_0 (z528.toNat * 6 + 0)))) 7 z z z (by kernel_rfl) (fun w hst => x_index z z underlying22 sizeOf64 (ro_sliceV f0_0) h541 h542) (wsr (.pointer (some (eAddr r0_0 (z528.toNat * 6 + 2)))) 8 z z z (by kernel_rfl) (fun w hst => x_field_e z underlying64 z sizeOf5 z) (wsr (.int .u8 x539.E) 9 z z z (by kernel_rfl) (fun w hst => x_load z isAgg5 ((hc546 (HL.le.refl _) hst) 2 _ z)) (wsr (.int .u8 (Int.tmod x539.E (8:Int))) 10 z z z (by kernel_rfl) (fun w hst => x_rem (by decide) z z) (wsr (.int .u64 (u64.wrap (Int.tmod x539.E (8:Int)))) 11 z z z (by kernel_rfl) (fun w hst => by kernel_rfl) (wsr (r0_0) 12 z z z (by kernel_rfl) (fun w hst => z) (wsr (.int .i64 z528) 13 z z z (by kernel_rfl) (fun w hst => z) ?_))))))))))))
 refine wsr (.pointer (some (eAddr r0_0 (z528.toNat * 6 + 0)))) 14 z z z (by kernel_rfl) (fun w hst => x_index z z underlying22 sizeOf64 (ro_sliceV f0_0) h541 h542) (wsr (.pointer (some (eAddr r0_0 (z528.toNat * 6 + 3)))) 15 z z z (by kernel_rfl) (fun w hst => x_field_e z underlying64 z sizeOf5 z) (wsr (.int .u8 x539.I) 16 z z z (by kernel_rfl) (fun w hst => x_load z isAgg5 ((hc546 (HL.le.refl _) hst) 3 _ z)) (wsr (.int .u8 (Int.tmod x539.I (5:Int))) 17 z z z (by kernel_rfl) (fun w hst => x_rem (by decide) z z) (wsr (.int .u64 (u64.wrap (Int.tmod x539.I (5:Int)))) 18 z z z (by kernel_rfl) (fun w hst => by kernel_rfl) (wsr (r0_0) 19 z z z (by kernel_rfl) (fun w hst => z) (wsr (.int .i64 z528) 20 z z z (by kernel_rfl) (fun w hst => z) (wsr (.pointer (some (eAddr r0_0 (z528.toNat * 6 + 0)))) 21 z z z (by kernel_rfl) (fun w hst => x_index z z underlying22 sizeOf64 (ro_sliceV f0_0) h541 h542) (wsr (.pointer (some (eAddr r0_0 (z528.toNat * 6 + 4)))) 22 z z z (by kernel_rfl) (fun w hst => x_field_e z underlying64 z sizeOf4 z) (wsr (.bool x539.Del) 23 z z z (by kernel_rfl) (fun w hst => x_load z isAgg4 ((hc546 (HL.le.refl _) hst) 4 _ z)) (wsr (r0_0) 24 z z z (by kernel_rfl) (fun w hst => z) (wsr (.int .i64 z528) 25 z z z (by kernel_rfl) (fun w hst => z) (wsr (.pointer (some (eAddr r0_0 (z528.toNat * 6 + 0)))) 26 z z z (by kernel_rfl) (fun w hst => x_index z z underlying22 sizeOf64 (ro_sliceV f0_0) h541 h542) ?_))))))))))))
 refine wsr (.pointer (some (eAddr r0_0 (z528.toNat * 6 + 5)))) 27 z z z (by kernel_rfl) (fun w hst => x_field_e z underlying64 z sizeOf32 z) (wsr (v547) 28 z z z (by kernel_rfl) (fun w hst => x_load z isAgg32 ((hc546 (HL.le.refl _) hst) 5 _ z)) ?_)
 refine ws_e2 4 30 (by kernel_rfl) ?_ ?_
 {
 refine nxe [29, 30, 31] (by kernel_rfl) z z ?_
 clear hst
 intro w hst
 obtain ⟨t551, ht552, hm⟩ := bind_some hm
 refine wec call28 [.agg #[U1 x539.At, F6 x539.X, U1 x539.E, U1 x539.I, .bool x539.Del, v547]] z z ?_
 refine (law11_at_ref (f548.mono ro_rd) hst.to0 ht552).mono ?_
 rintro _ w553 ⟨rfl, hst⟩
 refine ⟨_, z, ?_⟩
 replace hst := hst.of0
 refine ws_next (pend' := [(28, v547), (27, .pointer (some (eAddr r0_0 (z528.toNat * 6 + 5)))), (26, .pointer (some (eAddr r0_0 (z528.toNat * 6 + 0)))), (25, I6 z528), (24, r0_0), (23, .bool x539.Del), (22, .pointer (some (eAddr r0_0 (z528.toNat * 6 + 4)))), (21, .pointer (some (eAddr r0_0 (z528.toNat * 6 + 0)))), (20, I6 z528), (19, r0_0), (18, U6 (u64.wrap (Int.tmod x539.I (5:Int)))), (17, U1 (Int.tmod x539.I (5:Int))), (16, U1 x539.I), (15, .pointer (some (eAddr r0_0 (z528.toNat * 6 + 3)))), (14, .pointer (some (eAddr r0_0 (z528.toNat * 6 + 0)))), (13, I6 z528), (12, r0_0), (11, U6 (u64.wrap (Int.tmod x539.E (8:Int)))), (10, U1 (Int.tmod x539.E (8:Int))), (9, U1 x539.E), (8, .pointer (some (eAddr r0_0 (z528.toNat * 6 + 2)))), (7, .pointer (some (eAddr r0_0 (z528.toNat * 6 + 0)))), (6, I6 z528), (5, r0_0)]) hst (by kernel_rfl) (pkr z z (fun w hst => x_load z isAgg32 ((hc546 (HL.le.refl _) hst) 5 _ z)) (pkr z z (fun w hst => x_field_e z underlying64 z sizeOf32 z) (pkr z z (fun w hst => x_index z z underlying22 sizeOf64 (ro_sliceV f0_0) h541 h542) (pkr z z (fun w hst => z) (pkr z z (fun w hst => z) (pkr z z (fun w hst => x_load z isAgg4 ((hc546 (HL.le.refl _) hst) 4 _ z)) (pkr z z (fun w hst => x_field_e z underlying64 z sizeOf4 z) (pkr z z (fun w hst => x_index z z underlying22 sizeOf64 (ro_sliceV f0_0) h541 h542) (pkr z z (fun w hst => z) (pkr z z (fun w hst => z) (pkr z z (fun w hst => by kernel_rfl) (pkr z z (fun w hst => x_rem (by decide) z z) (pkr z z (fun w hst => x_load z isAgg5 ((hc546 (HL.le.refl _) hst) 3 _ z)) (pkr z z (fun w hst => x_field_e z underlying64 z sizeOf5 z) (pkr z z (fun w hst => x_index z z underlying22 sizeOf64 (ro_sliceV f0_0) h541 h542) (pkr z z (fun w hst => z) (pkr z z (fun w hst => z) (pkr z z (fun w hst => by kernel_rfl) (pkr z z (fun w hst => x_rem (by decide) z z) (pkr z z (fun w hst => x_load z isAgg5 ((hc546 (HL.le.refl _) hst) 2 _ z)) (pkr z z (fun w hst => x_field_e z underlying64 z sizeOf5 z) (pkr z z (fun w hst => x_index z z underlying22 sizeOf64 (ro_sliceV f0_0) h541 h542) (pkr z z (fun w hst => z) (pkr z z (fun w hst => z) pk_nil)))))))))))))))))))))))) ?_
 refine wsr (.agg #[F6 t551, U6 (u64.wrap (Int.tmod x539.E (8:Int))), U6 (u64.wrap (Int.tmod x539.I (5:Int))), .bool x539.Del, v547]) 29 rfl rfl rfl (by kernel_rfl) (fun w hst => by obtain ⟨_, _, hv_, _⟩ := (ro_sliceV f548); rw [hv_]; kernel_rfl) ?_
 refine ws_e1 30 (by kernel_rfl) ?_
 refine nxe [31] (by kernel_rfl) z z ?_
 clear hst
 intro w hst
 obtain ⟨b558, w559, ew560, eb561, hst⟩ := hst.box [Zf, Zu, Zu, .bool false, Zs] 67
 refine we_run (v := Pt b558 0) (w' := w559) z (x_al (by kernel_rfl) ew560 eb561) ?_
 refine ws_next (pend' := [(29, .agg #[F6 t551, U6 (u64.wrap (Int.tmod x539.E (8:Int))), U6 (u64.wrap (Int.tmod x539.I (5:Int))), .bool x539.Del, v547]), (28, v547), (27, .pointer (some (eAddr r0_0 (z528.toNat * 6 + 5)))), (26, .pointer (some (eAddr r0_0 (z528.toNat * 6 + 0)))), (25, I6 z528), (24, r0_0), (23, .bool x539.Del), (22, .pointer (some (eAddr r0_0 (z528.toNat * 6 + 4)))), (21, .pointer (some (eAddr r0_0 (z528.toNat * 6 + 0)))), (20, I6 z528), (19, r0_0), (18, U6 (u64.wrap (Int.tmod x539.I (5:Int)))), (17, U1 (Int.tmod x539.I (5:Int))), (16, U1 x539.I), (15, .pointer (some (eAddr r0_0 (z528.toNat * 6 + 3)))), (14, .pointer (some (eAddr r0_0 (z528.toNat * 6 + 0)))), (13, I6 z528), (12, r0_0), (11, U6 (u64.wrap (Int.tmod x539.E (8:Int)))), (10, U1 (Int.tmod x539.E (8:Int))), (9, U1 x539.E), (8, .pointer (some (eAddr r0_0 (z528.toNat * 6 + 2)))), (7, .pointer (some (eAddr r0_0 (z528.toNat * 6 + 0)))), (6, I6 z528), (5, r0_0)]) hst (by kernel_rfl) (pkr rfl rfl (fun w hst => by obtain ⟨_, _, hv_, _⟩ := (ro_sliceV f548); rw [hv_]; kernel_rfl) (pkr rfl rfl (fun w hst => x_load rfl isAgg32 ((hc546 (HL.le.refl _) hst) 5 _ rfl)) (pkr rfl rfl (fun w hst => x_field_e rfl underlying64 rfl sizeOf32 rfl) (pkr rfl rfl (fun w hst => x_index rfl rfl underlying22 sizeOf64 (ro_sliceV f0_0) h541 h542) (pkr rfl rfl (fun w hst => rfl) (pkr rfl rfl (fun w hst => rfl) (pkr rfl rfl (fun w hst => x_load rfl isAgg4 ((hc546 (HL.le.refl _) hst) 4 _ rfl)) (pkr rfl rfl (fun w hst => x_field_e rfl underlying64 rfl sizeOf4 rfl) (pkr rfl rfl (fun w hst => x_index rfl rfl underlying22 sizeOf64 (ro_sliceV f0_0) h541 h542) (pkr rfl rfl (fun w hst => rfl) (pkr rfl rfl (fun w hst => rfl) (pkr rfl rfl (fun w hst => by kernel_rfl) (pkr rfl rfl (fun w hst => x_rem (by decide) rfl rfl) (pkr rfl rfl (fun w hst => x_load rfl isAgg5 ((hc546 (HL.le.refl _) hst) 3 _ rfl)) (pkr rfl rfl (fun w hst => x_field_e rfl underlying64 rfl sizeOf5 rfl) (pkr rfl rfl (fun w hst => x_index rfl rfl underlying22 sizeOf64 (ro_sliceV f0_0) h541 h542) (pkr rfl rfl (fun w hst => rfl) (pkr rfl rfl (fun w hst => rfl) (pkr rfl rfl (fun w hst => by kernel_rfl) (pkr rfl rfl (fun w hst => x_rem (by decide) rfl rfl) (pkr rfl rfl (fun w hst => x_load rfl isAgg5 ((hc546 (HL.le.refl _) hst) 2 _ rfl)) (pkr rfl rfl (fun w hst => x_field_e rfl underlying64 rfl sizeOf5 rfl) (pkr rfl rfl (fun w hst => x_index rfl rfl underlying22 sizeOf64 (ro_sliceV f0_0) h541 h542) (pkr rfl rfl (fun w hst => rfl) (pkr rfl rfl (fun w hst => rfl) pk_nil))))))))))))))))))))))))) ?_
 refine ws_e1 31 (by kernel_rfl) ?_
 refine nxe [] (by kernel_rfl) z z ?_
 clear hst
 intro w hst
 obtain ⟨w563, hr564, hst⟩ := hst.bx [F6 t551, U6 (u64.wrap (Int.tmod x539.E (8:Int))), U6 (u64.wrap (Int.tmod x539.I (5:Int))), .bool x539.Del, v547] sizeOf67 z (oC z (oC z (oC z (oC z (oC (one_of_sliceV (ro_sliceV f548)) oN))))) (by kernel_rfl)
 refine we_unit z (x_unit hr564) ?_
 refine ws_next (pend' := []) hst (by kernel_rfl) pk_nil ?_
 refine ws_nil ?_
 intro w hst
 refine ⟨z, ?_⟩
 replace hst := hst.pull1.pull2.keep3
 obtain rfl := some_inj hm
 exact ⟨t551, b558, _, hx585, (fu 0 r0_0 z (fu 5 v316 z (fu 6 v526 z (fu 7 (.int .i64 z528) z (fu 8 (Pt b558 0) z z))))), hst⟩
}
 {
 refine nxe [4, 29, 31] (by kernel_rfl) z z ?_
 clear hst
 intro w hst
 obtain ⟨b566, w567, ew568, eb569, hst⟩ := hst.box [Zf, Zu, Zu, .bool false, Zs] 67
 refine we_run (v := Pt b566 0) (w' := w567) z (x_al (by kernel_rfl) ew568 eb569) ?_
 refine ws_next (pend' := [(28, v547), (27, .pointer (some (eAddr r0_0 (z528.toNat * 6 + 5)))), (26, .pointer (some (eAddr r0_0 (z528.toNat * 6 + 0)))), (25, I6 z528), (24, r0_0), (23, .bool x539.Del), (22, .pointer (some (eAddr r0_0 (z528.toNat * 6 + 4)))), (21, .pointer (some (eAddr r0_0 (z528.toNat * 6 + 0)))), (20, I6 z528), (19, r0_0), (18, U6 (u64.wrap (Int.tmod x539.I (5:Int)))), (17, U1 (Int.tmod x539.I (5:Int))), (16, U1 x539.I), (15, .pointer (some (eAddr r0_0 (z528.toNat * 6 + 3)))), (14, .pointer (some (eAddr r0_0 (z528.toNat * 6 + 0)))), (13, I6 z528), (12, r0_0), (11, U6 (u64.wrap (Int.tmod x539.E (8:Int)))), (10, U1 (Int.tmod x539.E (8:Int))), (9, U1 x539.E), (8, .pointer (some (eAddr r0_0 (z528.toNat * 6 + 2)))), (7, .pointer (some (eAddr r0_0 (z528.toNat * 6 + 0)))), (6, I6 z528), (5, r0_0), (3, .agg #[U1 x539.At, F6 x539.X, U1 x539.E, U1 x539.I, .bool x539.Del, v547]), (2, .pointer (some (eAddr r0_0 (z528.toNat * 6 + 0)))), (1, I6 z528), (0, r0_0)]) hst (by kernel_rfl) (pkr z z (fun w hst => x_load z isAgg32 ((hc546 (HL.le.refl _) hst) 5 _ z)) (pkr z z (fun w hst => x_field_e z underlying64 z sizeOf32 z) (pkr z z (fun w hst => x_index z z underlying22 sizeOf64 (ro_sliceV f0_0) h541 h542) (pkr z z (fun w hst => z) (pkr z z (fun w hst => z) (pkr z z (fun w hst => x_load z isAgg4 ((hc546 (HL.le.refl _) hst) 4 _ z)) (pkr z z (fun w hst => x_field_e z underlying64 z sizeOf4 z) (pkr z z (fun w hst => x_index z z underlying22 sizeOf64 (ro_sliceV f0_0) h541 h542) (pkr z z (fun w hst => z) (pkr z z (fun w hst => z) (pkr z z (fun w hst => by kernel_rfl) (pkr z z (fun w hst => x_rem (by decide) z z) (pkr z z (fun w hst => x_load z isAgg5 ((hc546 (HL.le.refl _) hst) 3 _ z)) (pkr z z (fun w hst => x_field_e z underlying64 z sizeOf5 z) (pkr z z (fun w hst => x_index z z underlying22 sizeOf64 (ro_sliceV f0_0) h541 h542) (pkr z z (fun w hst => z) (pkr z z (fun w hst => z) (pkr z z (fun w hst => by kernel_rfl) (pkr z z (fun w hst => x_rem (by decide) z z) (pkr z z (fun w hst => x_load z isAgg5 ((hc546 (HL.le.refl _) hst) 2 _ z)) (pkr z z (fun w hst => x_field_e z underlying64 z sizeOf5 z) (pkr z z (fun w hst => x_index z z underlying22 sizeOf64 (ro_sliceV f0_0) h541 h542) (pkr z z (fun w hst => z) (pkr z z (fun w hst => z) (pkr z z (fun w hst => x_loadN (cs := [U1 x539.At, F6 x539.X, U1 x539.E, U1 x539.I, .bool x539.Del, v547]) z isAgg64 sizeOf64 (eCells (o := 0) (hc546 (HL.le.refl _) hst) z)) (pkr z z (fun w hst => x_index z z underlying22 sizeOf64 (ro_sliceV f0_0) h541 h542) (pkr z z (fun w hst => z) (pkr z z (fun w hst => z) pk_nil)))))))))))))))))))))))))))) ?_
 refine ws_e1 4 (by kernel_rfl) ?_
 refine nxe [29, 31] (by kernel_rfl) z z ?_
 clear hst
 intro w hst
 obtain ⟨t571, ht572, hm⟩ := bind_some hm
 refine wec call28 [.agg #[U1 x539.At, F6 x539.X, U1 x539.E, U1 x539.I, .bool x539.Del, v547]] z z ?_
 refine (law11_at_ref (f548.mono ro_rd) hst.to0 ht572).mono ?_
 rintro _ w573 ⟨rfl, hst⟩
 refine ⟨_, z, ?_⟩
 replace hst := hst.of0
 refine ws_next (pend' := [(28, v547), (27, .pointer (some (eAddr r0_0 (z528.toNat * 6 + 5)))), (26, .pointer (some (eAddr r0_0 (z528.toNat * 6 + 0)))), (25, I6 z528), (24, r0_0), (23, .bool x539.Del), (22, .pointer (some (eAddr r0_0 (z528.toNat * 6 + 4)))), (21, .pointer (some (eAddr r0_0 (z528.toNat * 6 + 0)))), (20, I6 z528), (19, r0_0), (18, U6 (u64.wrap (Int.tmod x539.I (5:Int)))), (17, U1 (Int.tmod x539.I (5:Int))), (16, U1 x539.I), (15, .pointer (some (eAddr r0_0 (z528.toNat * 6 + 3)))), (14, .pointer (some (eAddr r0_0 (z528.toNat * 6 + 0)))), (13, I6 z528), (12, r0_0), (11, U6 (u64.wrap (Int.tmod x539.E (8:Int)))), (10, U1 (Int.tmod x539.E (8:Int))), (9, U1 x539.E), (8, .pointer (some (eAddr r0_0 (z528.toNat * 6 + 2)))), (7, .pointer (some (eAddr r0_0 (z528.toNat * 6 + 0)))), (6, I6 z528), (5, r0_0)]) hst (by kernel_rfl) (pkr z z (fun w hst => x_load z isAgg32 ((hc546 (HL.le.refl _) hst) 5 _ z)) (pkr z z (fun w hst => x_field_e z underlying64 z sizeOf32 z) (pkr z z (fun w hst => x_index z z underlying22 sizeOf64 (ro_sliceV f0_0) h541 h542) (pkr z z (fun w hst => z) (pkr z z (fun w hst => z) (pkr z z (fun w hst => x_load z isAgg4 ((hc546 (HL.le.refl _) hst) 4 _ z)) (pkr z z (fun w hst => x_field_e z underlying64 z sizeOf4 z) (pkr z z (fun w hst => x_index z z underlying22 sizeOf64 (ro_sliceV f0_0) h541 h542) (pkr z z (fun w hst => z) (pkr z z (fun w hst => z) (pkr z z (fun w hst => by kernel_rfl) (pkr z z (fun w hst => x_rem (by decide) z z) (pkr z z (fun w hst => x_load z isAgg5 ((hc546 (HL.le.refl _) hst) 3 _ z)) (pkr z z (fun w hst => x_field_e z underlying64 z sizeOf5 z) (pkr z z (fun w hst => x_index z z underlying22 sizeOf64 (ro_sliceV f0_0) h541 h542) (pkr z z (fun w hst => z) (pkr z z (fun w hst => z) (pkr z z (fun w hst => by kernel_rfl) (pkr z z (fun w hst => x_rem (by decide) z z) (pkr z z (fun w hst => x_load z isAgg5 ((hc546 (HL.le.refl _) hst) 2 _ z)) (pkr z z (fun w hst => x_field_e z underlying64 z sizeOf5 z) (pkr z z (fun w hst => x_index z z underlying22 sizeOf64 (ro_sliceV f0_0) h541 h542) (pkr z z (fun w hst => z) (pkr z z (fun w hst => z) pk_nil)))))))))))))))))))))))) ?_
 refine wsr (.agg #[F6 t571, U6 (u64.wrap (Int.tmod x539.E (8:Int))), U6 (u64.wrap (Int.tmod x539.I (5:Int))), .bool x539.Del, v547]) 29 rfl rfl rfl (by kernel_rfl) (fun w hst => by obtain ⟨_, _, hv_, _⟩ := (ro_sliceV f548); rw [hv_]; kernel_rfl) ?_
 refine ws_e1 31 (by kernel_rfl) ?_
 refine nxe [] (by kernel_rfl) z z ?_
 clear hst
 intro w hst
 obtain ⟨w577, hr578, hst⟩ := hst.bx [F6 t571, U6 (u64.wrap (Int.tmod x539.E (8:Int))), U6 (u64.wrap (Int.tmod x539.I (5:Int))), .bool x539.Del, v547] sizeOf67 z (oC z (oC z (oC z (oC z (oC (one_of_sliceV (ro_sliceV f548)) oN))))) (by kernel_rfl)
 refine we_unit z (x_unit hr578) ?_
 refine ws_next (pend' := []) hst (by kernel_rfl) pk_nil ?_
 refine ws_nil ?_
 intro w hst
 refine ⟨z, ?_⟩
 replace hst := hst.pull1.pull2.keep3
 obtain rfl := some_inj hm
 exact ⟨t571, b566, _, hx585, (fu 0 r0_0 z (fu 5 v316 z (fu 6 v526 z (fu 7 (.int .i64 z528) z (fu 8 (Pt b566 0) z z))))), hst⟩
}
}
 {
 clear hst
 rintro _ w586 ⟨z581, b580, σ582, hm, rfl, hst⟩
 dsimp only [law11_fill_j2] at hm
 refine tn (wp_seq (wrl (wv (v316) z z z (wv (Pt b580 0) z z (x_field z underlying67 z sizeOf23 z) (wv (.float .f64 z581) z z (x_load z isAgg23 (hst.bc2 z)) (wv (Pt b580 1) z z (x_field z underlying67 z sizeOf24 z) (wv (.int .u64 (u64.wrap (Int.tmod x539.E (8:Int)))) z z (x_load z isAgg24 (hst.bc2 z)) (wv (Pt b580 2) z z (x_field z underlying67 z sizeOf24 z) (wv (.int .u64 (u64.wrap (Int.tmod x539.I (5:Int)))) z z (x_load z isAgg24 (hst.bc2 z)) (wv (Pt b580 3) z z (x_field z underlying67 z sizeOf4 z) (wv (.bool x539.Del) z z (x_load z isAgg4 (hst.bc2 z)) (wv (Pt b580 4) z z (x_field z underlying67 z sizeOf32 z) (wv (v547) z z (x_load z isAgg32 (hst.bc2 z)) (wv (.agg #[U6 (u64.wrap (Int.tmod x539.E (8:Int))), U6 (u64.wrap (Int.tmod x539.I (5:Int))), .bool x539.Del, v547]) z z (by obtain ⟨_, _, hv_, _⟩ := (ro_sliceV f548); rw [hv_]; kernel_rfl) ?_))))))))))))))
 replace hst := objO_some hst
 obtain ⟨t588, ht589, hm⟩ := bind_some hm
 refine wc call22 [v316, F6 z581, .agg #[U6 (u64.wrap (Int.tmod x539.E (8:Int))), U6 (u64.wrap (Int.tmod x539.I (5:Int))), .bool x539.Del, v547]] z z z ?_
 refine (mvcc_Store_Put_ref (a2 := ({ Epoch := (u64.wrap (Int.tmod x539.E (8:Int))), Index := (u64.wrap (Int.tmod x539.I (5:Int))), Del := x539.Del, Val := x539.V } : mvcc_Version)) (f548.mono ro_rd) hst.to1 ht589).mono ?_
 rintro _ w590 ⟨I591, rfl, hI592, hst⟩
 refine ⟨_, z, ?_⟩
 replace hst := hst.of1
 replace f0_0 := f0_0.mono (ro_le hI592)
 replace f548 := f548.mono (ro_le hI592)
 replace hI0 := hI0.trans hI592
 replace hL614 := hL614.trans hI592
 replace hL533 := hL533.trans hI592
 rcases he594 : t588 with _ | y593
 · rw [he594] at hm; cases hm
 rw [he594] at hm hst; dsimp only at hm; replace hst := objO_get hst
 refine wl_nil (tn (wrl (wv (v526) z z z (wv (.agg #[F6 z581, U6 (u64.wrap (Int.tmod x539.E (8:Int))), U6 (u64.wrap (Int.tmod x539.I (5:Int))), .bool x539.Del, v547]) z z (x_loadN (cs := [F6 z581, U6 (u64.wrap (Int.tmod x539.E (8:Int))), U6 (u64.wrap (Int.tmod x539.I (5:Int))), .bool x539.Del, v547]) z isAgg67 sizeOf67 (hst.bcs2 0 z)) ?_))))
 replace hst := hst.pull1
 obtain ⟨I595, hI596, f597, hst⟩ := hst.own_fix
 replace f0_0 := f0_0.mono (ro_le hI596)
 replace f548 := f548.mono (ro_le hI596)
 replace hI0 := hI0.trans hI596
 replace hL614 := hL614.trans hI596
 replace hL533 := hL533.trans hI596
 obtain ⟨t598, ht599, hm⟩ := bind_some hm
 refine wc call29 [v526, .agg #[F6 z581, U6 (u64.wrap (Int.tmod x539.E (8:Int))), U6 (u64.wrap (Int.tmod x539.I (5:Int))), .bool x539.Del, v547]] z z z ?_
 refine (ref11_Put_ref (a1 := ({ At := z581, Epoch := (u64.wrap (Int.tmod x539.E (8:Int))), Index := (u64.wrap (Int.tmod x539.I (5:Int))), Del := x539.Del, Val := x539.V } : ref11_Version)) f597 f548 hst.to0 ht599).mono ?_
 rintro _ w600 ⟨v603, rfl, hst⟩
 refine ⟨_, z, ?_⟩
 replace hst := hst.of1
 refine wv (v603) z z z (wl_nil (blk_n (tn (wrl (wv (.int .i64 z528) z z z (wv (.int .i64 (i64.wrap (z528 + (1:Int)))) z z z (wv (.int .i64 (i64.wrap (z528 + (1:Int)))) z z z (wl_nil (tn ?_)))))))))
 replace hst := hst.pull1.pull1.keep2
 obtain rfl := some_inj hm
 exact ⟨_, Nat.lt_succ_self _, _, y593, t598, (i64.wrap (z528 + (1:Int))), v603, _, hx536, (fu 0 r0_0 z (fu 5 v316 z (fu 6 v603 z (fu 7 (.int .i64 (i64.wrap (z528 + (1:Int)))) z z)))), hL533, hst⟩
}
}
}
 {
 replace hm := bif_f hc538 hm
 refine wp_iff (cvb hc538) ?_
 refine wp_exit (then_x (then_x ?_))
 replace hm := inr_up hm hx536
 refine blk_x (tn ?_)
 replace hst := hst.pull1.keep2
 obtain rfl := some_inj hm
 exact ⟨_, z524, z525, v526, _, hx613, (fu 5 v316 z (fu 6 v526 z z)), hL614, hst⟩
}
}
 {
 clear hst
 rintro _ w615 ⟨I609, z605, z608, v607, σ610, hm, rfl, hL611, hst⟩
 dsimp only [law11_fill_j0] at hm
 replace f0_0 := f0_0.mono (ro_le hL611)
 replace hI0 := hI0.trans hL611
 refine wp_seq (wrl (wv (v316) z z z (wv (v607) z z z (wv (v316) z z z (wv (v607) z z z (wv (.bool true) z z z (wl_nil (tn (wp_ret ?_)))))))))
 obtain rfl := some_inj hm
 refine post_ret (vs := [v316, v607, .bool true]) results9 (rvs_cons (rv_tmp z) (rvs_cons (rv_tmp z) (rvs_cons (rv_tmp z) rvs_nil))) ?_
 replace hst := hst.pull1.pull1
 exact ⟨_, v316, v607, z, hI0, hst.keep2⟩
}
}
}

theorem mvcc_read_ref {w0 w : World} {I : HL} {R : SP} {a0 : (List mvcc_Version)} {r0_0 : Value} {a1 : Int} (f0_0 : Rd ty_mvcc_Version R I r0_0 a0) (hst : St w0 w I [] R) {r : (api_Got)} (hm : mvcc_read a0 a1 = some r) :
  Calls prog 33 #[r0_0, U6 a1] w fun e w' => ∃ (q0_0 : Value), e = .returned (.agg #[.bool r.Has, q0_0]) ∧ St w0 w' I [ownS (tyInt .u8) q0_0 r.Val] R := by {
 unfold mvcc_read at hm
 refine calls_start (args := [r0_0, U6 a1]) func33 z ntmps33 (Nat.le_of_ble_eq_true z) ?_
 refine wp_seq (wrl ?_)
 have hv223 := (rd_sliceV f0_0)
 obtain ⟨b217, w218, ew219, eb220, hst⟩ := hst.box [r0_0] 53
 refine wl_run (v := Pt b217 0) (w' := w218) z z (x_al (by obtain ⟨_, _, hv_, _⟩ := hv223; rw [hv_]; kernel_rfl) ew219 eb220) ?_
 obtain ⟨b224, w225, ew226, eb227, hst⟩ := hst.box [U6 a1] 24
 refine wl_run (v := Pt b224 0) (w' := w225) z z (x_al (by kernel_rfl) ew226 eb227) ?_
 obtain ⟨b230, w231, ew232, eb233, hst⟩ := hst.box [.bool false, Zs] 34
 refine wl_run (v := Pt b230 0) (w' := w231) z z (x_al (by kernel_rfl) ew232 eb233) ?_
 refine wl_nil (tn (wp_seq (wrl (wv (r0_0) z z (x_load z isAgg53 (hst.bc2 z)) (wv (.int .i64 ((a0).length : Int)) z z (x_len z underlying53 (rd_sliceV f0_0)) (wv (.func (.func 61) #[] #[Pt b217 0, Pt b224 0]) z z (by kernel_rfl) ?_))))))
 obtain ⟨y303, hq304, hm⟩ := bind_some hm
 refine wl_call z z (x_callv call38 (caps := []) z (vs := [I6 ((a0).length : Int), .func (.func 61) #[] #[Pt b217 0, Pt b224 0]]) z) ?_
 refine Calls.mono (show Calls prog 38 #[I6 ((a0).length : Int), .func (.func 61) #[] #[Pt b217 0, Pt b224 0]] _ (fun e w' => ∃ (z301 : Int), z301 = y303 ∧ e = .returned (.int .i64 z301) ∧ St w0 w' I [cells b217 [r0_0], cells b224 [U6 a1], cells b230 [.bool false, Zs]] R) from ?_) ?_
 {
 clear hm; have hm := hq304
 refine calls_start (args := [I6 ((a0).length : Int), .func (.func 61) #[] #[Pt b217 0, Pt b224 0]]) func38 z ntmps38 (Nat.le_of_ble_eq_true z) ?_
 refine wp_seq (wrl (wv (.int .i64 (0:Int)) z z z (wl_nil (tn (wp_seq (wrl (wv (.int .i64 ((a0).length : Int)) z z z (wv (.int .i64 (0:Int)) z z z (wv (.int .i64 ((a0).length : Int)) z z z (wl_nil (tn (wp_seq (wp_block ?_)))))))))))))
 obtain ⟨n276, hm⟩ := loopO_some hm
 refine wp_loop_n (fun n a w => ∃ (z273 : Int) (z274 : Int) (σ275 : Nat → Value), loopN (mvcc_read_l0 a0 a1) n (z273, z274) = some y303 ∧ a = Fr 26 (upd (upd (upd σ275 1 (.func (.func 61) #[] #[Pt b217 0, Pt b224 0])) 5 (.int .i64 z273)) 6 (.int .i64 z274)) ∧ St w0 w I [cells b230 [.bool false, Zs], cells b224 [U6 a1], cells b217 [r0_0]] R) n276 ⟨(0:Int), ((a0).length : Int), _, hm, (fu 1 (.func (.func 61) #[] #[Pt b217 0, Pt b224 0]) z (fu 5 (.int .i64 (0:Int)) z (fu 6 (.int .i64 ((a0).length : Int)) z z))), hst⟩ ?_
 rintro n282 _ w277 ⟨z273, z274, σ275, hm, rfl, hst⟩
 obtain ⟨n279, y280, rfl, hm, hx281⟩ := loopN_some hm
 dsimp only [mvcc_read_l0] at hm
 refine wp_seq (wp_seq (wrl (wv (.int .i64 z273) z z z (wv (.int .i64 z274) z z z (wv (.bool (decide (z273 < z274))) z z z (wl_nil (tn ?_)))))))
 refine bsplit (decide (z273 < z274)) (fun hc283 => ?_) (fun hc283 => ?_)
 {
 replace hm := bif_t hc283 hm
 refine wp_ift (cvb hc283) ?_
 refine wp_skip (tn (wp_block (wp_seq (wrl ?_))))
 refine wv (.int .i64 z273) z z z (wv (.int .i64 z274) z z z (wv (.int .i64 (i64.wrap (z273 + z274))) z z z (wv (.int .u64 (u64.wrap (i64.wrap (z273 + z274)))) z z (by kernel_rfl) (wv (.int .u64 (iShr .u64 (u64.wrap (i64.wrap (z273 + z274))) (1:Int))) z z (x_shr (by decide) z z) (wv (.int .i64 (i64.wrap (iShr .u64 (u64.wrap (i64.wrap (z273 + z274))) (1:Int)))) z z (by kernel_rfl) (wv (.int .i64 (i64.wrap (iShr .u64 (u64.wrap (i64.wrap (z273 + z274))) (1:Int)))) z z z (wl_nil (tn (wp_seq (wrl (wv (.func (.func 61) #[] #[Pt b217 0, Pt b224 0]) z z z (wv (.int .i64 (i64.wrap (iShr .u64 (u64.wrap (i64.wrap (z273 + z274))) (1:Int)))) z z z ?_))))))))))))
 obtain ⟨y297, hq298, hm⟩ := bind_some hm
 refine wl_call z z (x_callv call61 (caps := [Pt b217 0, Pt b224 0]) z (vs := [I6 (i64.wrap (iShr .u64 (u64.wrap (i64.wrap (z273 + z274))) (1:Int)))]) z) ?_
 refine Calls.mono (show Calls prog 61 #[I6 (i64.wrap (iShr .u64 (u64.wrap (i64.wrap (z273 + z274))) (1:Int))), Pt b217 0, Pt b224 0] _ (fun e w' => ∃ (z295 : Bool), z295 = y297 ∧ e = .returned (.bool z295) ∧ St w0 w' I [cells b217 [r0_0], cells b224 [U6 a1], cells b230 [.bool false, Zs]] R) from ?_) ?_
 {
 clear hm; have hm := hq298
 refine calls_start (args := [I6 (i64.wrap (iShr .u64 (u64.wrap (i64.wrap (z273 + z274))) (1:Int))), Pt b217 0, Pt b224 0]) func61 z ntmps61 (Nat.le_of_ble_eq_true z) ?_
 refine wp_seq (wrl (wv (.bool false) z z z (wl_nil (tn (wp_seq ?_)))))
 refine wq_regionS hst Try.mixed (by kernel_rfl) ?_
 refine wq_run (v := r0_0) z z (fun w hst => x_load z isAgg53 (hst.bc2 z)) ?_
 refine wq_run (v := .int .i64 (i64.wrap (iShr .u64 (u64.wrap (i64.wrap (z273 + z274))) (1:Int)))) z z (fun w hst => z) ?_
 obtain ⟨x284, hx285, hm⟩ := bind_some hm
 obtain ⟨h286, h287, hi288⟩ := geto_some hx285
 refine wq_run (v := .pointer (some (eAddr r0_0 ((i64.wrap (iShr .u64 (u64.wrap (i64.wrap (z273 + z274))) (1:Int))).toNat * 4 + 0)))) z z (fun w hst => x_index z z underlying53 sizeOf52 (rd_sliceV f0_0) h286 h287) ?_
 refine wq_run (v := .pointer (some (eAddr r0_0 ((i64.wrap (iShr .u64 (u64.wrap (i64.wrap (z273 + z274))) (1:Int))).toNat * 4 + 0)))) z z (fun w hst => x_field_e z underlying52 z sizeOf24 z) ?_
 obtain ⟨cs289, hr290, hc291⟩ := Rd.getF f0_0 hi288
 obtain ⟨v292, rfl, f293, -⟩ := hr290
 refine wq_run (v := .int .u64 x284.Epoch) z z (fun w hst => x_load z isAgg24 ((hc291 (HL.le.refl _) hst) 0 _ z)) ?_
 refine wq_run (v := .int .u64 a1) z z (fun w hst => x_load z isAgg24 (hst.bc1 z)) ?_
 refine wq_run (v := .bool (decide (x284.Epoch > a1))) z z (fun w hst => z) ?_
 refine wq_run (v := .bool (decide (x284.Epoch > a1))) z z (fun w hst => z) ?_
 refine wq_nil ?_
 intro w hst
 refine tn (wp_ret ?_)
 refine post_ret (vs := [.bool (decide (x284.Epoch > a1))]) results61 (rvs_cons (rv_tmp z) rvs_nil) ?_
 replace hst := hst.pull1.pull2.keep3
 obtain rfl := some_inj hm
 exact ⟨(decide (x284.Epoch > a1)), z, z, hst⟩
}
 clear hst
 rintro _ w299 ⟨z295, rfl, rfl, hst⟩
 refine ⟨_, z, ?_⟩
 try dsimp only at hm
 refine wv (.bool (!z295)) z z z (wl_nil (tn ?_))
 refine bsplit (!z295) (fun hc300 => ?_) (fun hc300 => ?_)
 {
 replace hm := bif_t hc300 hm
 refine wp_ift (cvb hc300) ?_
 refine wrl (wv (.int .i64 (i64.wrap (iShr .u64 (u64.wrap (i64.wrap (z273 + z274))) (1:Int)))) z z z (wv (.int .i64 (i64.wrap ((i64.wrap (iShr .u64 (u64.wrap (i64.wrap (z273 + z274))) (1:Int))) + (1:Int)))) z z z (wv (.int .i64 (i64.wrap ((i64.wrap (iShr .u64 (u64.wrap (i64.wrap (z273 + z274))) (1:Int))) + (1:Int)))) z z z (wl_nil (blk_n (tn ?_))))))
 replace hst := hst.pull1.pull2.keep3
 obtain rfl := some_inj hm
 exact ⟨_, Nat.lt_succ_self _, (i64.wrap ((i64.wrap (iShr .u64 (u64.wrap (i64.wrap (z273 + z274))) (1:Int))) + (1:Int))), z274, _, hx281, (fu 1 (.func (.func 61) #[] #[Pt b217 0, Pt b224 0]) z (fu 5 (.int .i64 (i64.wrap ((i64.wrap (iShr .u64 (u64.wrap (i64.wrap (z273 + z274))) (1:Int))) + (1:Int)))) z (fu 6 (.int .i64 z274) z z))), hst⟩
}
 {
 replace hm := bif_f hc300 hm
 refine wp_iff (cvb hc300) ?_
 refine wrl (wv (.int .i64 (i64.wrap (iShr .u64 (u64.wrap (i64.wrap (z273 + z274))) (1:Int)))) z z z (wv (.int .i64 (i64.wrap (iShr .u64 (u64.wrap (i64.wrap (z273 + z274))) (1:Int)))) z z z (wl_nil (blk_n (tn ?_)))))
 replace hst := hst.pull1.pull2.keep3
 obtain rfl := some_inj hm
 exact ⟨_, Nat.lt_succ_self _, z273, (i64.wrap (iShr .u64 (u64.wrap (i64.wrap (z273 + z274))) (1:Int))), _, hx281, (fu 1 (.func (.func 61) #[] #[Pt b217 0, Pt b224 0]) z (fu 5 (.int .i64 z273) z (fu 6 (.int .i64 (i64.wrap (iShr .u64 (u64.wrap (i64.wrap (z273 + z274))) (1:Int)))) z z))), hst⟩
}
}
 {
 replace hm := bif_f hc283 hm
 refine wp_iff (cvb hc283) ?_
 refine wp_exit (then_x (then_x ?_))
 replace hm := inr_up hm hx281
 refine blk_x (tn (wp_seq (wrl ?_)))
 refine wv (.int .i64 z273) z z z (wv (.int .i64 z273) z z z (wl_nil (tn (wp_ret ?_))))
 refine post_ret (vs := [I6 z273]) results38 (rvs_cons (rv_tmp z) rvs_nil) ?_
 replace hst := hst.pull1.pull2.keep3
 obtain rfl := some_inj hm
 exact ⟨z273, z, z, hst⟩
}
}
 clear hst
 rintro _ w305 ⟨z301, rfl, rfl, hst⟩
 refine ⟨_, z, ?_⟩
 try dsimp only at hm
 refine wv (.int .i64 z301) z z z (wl_nil (tn (wp_seq (wp_seq (wrl (wv (.int .i64 z301) z z z (wv (.bool (z301 == (0:Int))) z z z (wv (.bool (z301 == (0:Int))) z z z ?_))))))))
 refine bsplit (z301 == (0:Int)) (fun hc306 => ?_) (fun hc306 => ?_)
 {
 replace hm := bif_t hc306 hm
 refine wo hc306 z z z z z z (wo hc306 z z z z z z (wo hc306 z z z z z z (wo hc306 z z z z z z (wo hc306 z z z z z z (wo hc306 z z z z z z (wv (.bool true) z z (x_pick_t hc306 z z) (wl_nil (tn ?_))))))))
 refine wp_ift z ?_
 refine wp_seq (wrl (wv (.agg #[.bool false, Zs]) z z (by kernel_rfl) ?_))
 replace hst := hst.pull2
 obtain ⟨w308, hr309, hst⟩ := hst.bx [.bool false, Zs] sizeOf34 z (oC z (oC z oN)) (by kernel_rfl)
 refine wl_unit z z (x_unit hr309) ?_
 refine wl_nil (tn (wp_ret (then_r ?_)))
 replace hst := hst.own_nil (tyInt .u8)
 obtain rfl := some_inj hm
 refine post_ret (vs := [.agg #[.bool false, Zs]]) results33 (rvs_cons (rv_cell (cs := [.bool false, Zs]) z isAgg34 sizeOf34 (hst.bcs1 0 z)) rvs_nil) ?_
 exact ⟨(.slice none 0 0), z, hst.keep1⟩
}
 {
 replace hm := bif_f hc306 hm
 refine wv (r0_0) ((wanted_eq z z z (cvb hc306)).trans z) z (x_load z isAgg53 (hst.bc0 z)) (wv (.int .i64 z301) ((wanted_eq z z z (cvb hc306)).trans z) z z (wv (.int .i64 (i64.wrap (z301 - (1:Int)))) ((wanted_eq z z z (cvb hc306)).trans z) z z ?_))
 obtain ⟨x310, hx311, hm⟩ := bind_some hm
 obtain ⟨h312, h313, hi314⟩ := geto_some hx311
 refine wv (.pointer (some (eAddr r0_0 ((i64.wrap (z301 - (1:Int))).toNat * 4 + 0)))) ((wanted_eq z z z (cvb hc306)).trans z) z (x_index z z underlying53 sizeOf52 (rd_sliceV f0_0) h312 h313) (wv (.pointer (some (eAddr r0_0 ((i64.wrap (z301 - (1:Int))).toNat * 4 + 2)))) ((wanted_eq z z z (cvb hc306)).trans z) z (x_field_e z underlying52 z sizeOf4 z) ?_)
 obtain ⟨cs315, hr316, hc317⟩ := Rd.getF f0_0 hi314
 obtain ⟨v318, rfl, f319, -⟩ := hr316
 refine wv (.bool x310.Del) ((wanted_eq z z z (cvb hc306)).trans z) z (x_load z isAgg4 ((hc317 (HL.le.refl _) hst) 2 _ z)) (wv (.bool x310.Del) z z (x_pick_f hc306 z z) (wl_nil (tn ?_)))
 refine bsplit x310.Del (fun hc321 => ?_) (fun hc321 => ?_)
 {
 replace hm := bif_t hc321 hm
 refine wp_ift (cvb hc321) ?_
 refine wp_seq (wrl (wv (.agg #[.bool false, Zs]) z z (by kernel_rfl) ?_))
 replace hst := hst.pull2
 obtain ⟨w323, hr324, hst⟩ := hst.bx [.bool false, Zs] sizeOf34 z (oC z (oC z oN)) (by kernel_rfl)
 refine wl_unit z z (x_unit hr324) ?_
 refine wl_nil (tn (wp_ret (then_r ?_)))
 replace hst := hst.own_nil (tyInt .u8)
 obtain rfl := some_inj hm
 refine post_ret (vs := [.agg #[.bool false, Zs]]) results33 (rvs_cons (rv_cell (cs := [.bool false, Zs]) z isAgg34 sizeOf34 (hst.bcs1 0 z)) rvs_nil) ?_
 exact ⟨(.slice none 0 0), z, hst.keep1⟩
}
 {
 replace hm := bif_f hc321 hm
 refine wp_iff (cvb hc321) ?_
 refine wp_skip (tn (wp_seq (wrl ?_)))
 refine wv (r0_0) z z (x_load z isAgg53 (hst.bc0 z)) (wv (.int .i64 z301) z z z (wv (.int .i64 (i64.wrap (z301 - (1:Int)))) z z z (wv (.pointer (some (eAddr r0_0 ((i64.wrap (z301 - (1:Int))).toNat * 4 + 0)))) z z (x_index z z underlying53 sizeOf52 (rd_sliceV f0_0) h312 h313) (wv (.pointer (some (eAddr r0_0 ((i64.wrap (z301 - (1:Int))).toNat * 4 + 3)))) z z (x_field_e z underlying52 z sizeOf32 z) (wv (v318) z z (x_load z isAgg32 ((hc317 (HL.le.refl _) hst) 3 _ z)) ?_)))))
 obtain ⟨t325, ht326, hm⟩ := bind_some hm
 refine wc call41 [v318] z z z ?_
 refine (slices_Clone_byte_byte_ref (f319.mono (rd_weak _)) hst.to0 ht326).mono ?_
 rintro _ w327 ⟨v330, rfl, hst⟩
 refine ⟨_, z, ?_⟩
 replace hst := hst.of1
 refine wv (.agg #[.bool true, v330]) z z (by obtain ⟨_, _, hv_, _⟩ := hst.sv0; rw [hv_]; kernel_rfl) ?_
 replace hst := hst.pull3
 obtain ⟨w333, hr334, hst⟩ := hst.bx [.bool true, v330] sizeOf34 z (oC z (oC (one_of_sliceV hst.sv1) oN)) (by kernel_rfl)
 refine wl_unit z z (x_unit hr334) ?_
 refine wl_nil (tn (wp_ret ?_))
 obtain rfl := some_inj hm
 refine post_ret (vs := [.agg #[.bool true, v330]]) results33 (rvs_cons (rv_cell (cs := [.bool true, v330]) z isAgg34 sizeOf34 (hst.bcs0 0 z)) rvs_nil) ?_
 replace hst := hst.pull1
 exact ⟨v330, z, hst.keep1⟩
}
}
}

theorem mvcc_Store_Get_ref {w0 w : World} {I : HL} {R : SP} {a0 : (Option mvcc_Store)} {p0 : Value} {a1 : Nat} {a2 : Int}  (hst : St w0 w I [objO at_mvcc_Store p0 a0] R) {r : (api_Got)} (hm : mvcc_Store_Get a0 a1 a2 = some r) :
  Calls prog 13 #[p0, F6 a1, U6 a2] w fun e w' => ∃ (q0_0 : Value), e = .returned (.agg #[.bool r.Has, q0_0]) ∧ St w0 w' I [ownS (tyInt .u8) q0_0 r.Val, objO at_mvcc_Store p0 a0] R := by {
 rcases a0 with _ | o0
 {
 obtain ⟨rfl, hst'⟩ := objO_none hst
 clear hst
 have hst := hst'
 clear hst'
 dsimp only [mvcc_Store_Get] at hm
 refine calls_start (args := [.pointer none, F6 a1, U6 a2]) func13 z ntmps13 (Nat.le_of_ble_eq_true z) ?_
 refine wp_seq (wrl ?_)
 obtain ⟨b110, w111, ew112, eb113, hst⟩ := hst.box [.bool false, Zs] 34
 refine wl_run (v := Pt b110 0) (w' := w111) z z (x_al (by kernel_rfl) ew112 eb113) ?_
 refine wl_nil (tn (wp_seq (wrl (wv (.pointer none) z z z (wv (.float .f64 a1) z z z ?_)))))
 obtain ⟨t115, ht116, hm⟩ := bind_some hm
 refine wc call32 [F6 a1] z z z ?_
 refine (number_Rank_ref hst.to0 ht116).mono ?_
 rintro _ w117 ⟨rfl, hst⟩
 refine ⟨_, z, ?_⟩
 replace hst := hst.of0.objO_nil at_mvcc_Store
 obtain ⟨t121, ht122, hm⟩ := bind_some hm
 refine wc call31 [.pointer none, U6 t115] z z z ?_
 refine (mvcc_Store_find_ref hst.to1 ht122).mono ?_
 rintro _ w123 ⟨rfl, hst⟩
 refine ⟨_, z, ?_⟩
 replace hst := hst.of1
 refine wv (.tuple #[I6 t121.1, .bool t121.2]) z z z (wv (.int .i64 t121.1) z z z (wv (.bool t121.2) z z z (wv (.int .i64 t121.1) z z z (wv (.bool t121.2) z z z (wl_nil (tn (wp_seq (wp_seq (wrl (wv (.bool t121.2) z z z (wv (.bool (!t121.2)) z z z (wl_nil (tn ?_)))))))))))))
 refine bsplit (!t121.2) (fun hc126 => ?_) (fun hc126 => ?_)
 {
 replace hm := bif_t hc126 hm
 refine wp_ift (cvb hc126) ?_
 refine wp_seq (wrl (wv (.agg #[.bool false, Zs]) z z (by kernel_rfl) ?_))
 replace hst := hst.pull1
 obtain ⟨w128, hr129, hst⟩ := hst.bx [.bool false, Zs] sizeOf34 z (oC z (oC z oN)) (by kernel_rfl)
 refine wl_unit z z (x_unit hr129) ?_
 refine wl_nil (tn (wp_ret (then_r ?_)))
 replace hst := hst.own_nil (tyInt .u8)
 replace hst := hst.objO_nil at_mvcc_Store
 obtain rfl := some_inj hm
 refine post_ret (vs := [.agg #[.bool false, Zs]]) results13 (rvs_cons (rv_cell (cs := [.bool false, Zs]) z isAgg34 sizeOf34 (hst.bcs2 0 z)) rvs_nil) ?_
 replace hst := hst.pull1
 exact ⟨(.slice none 0 0), z, hst.keep2⟩
}
 {
 replace hm := bif_f hc126 hm
 refine wp_iff (cvb hc126) ?_
 refine wp_skip (tn (wp_seq (wrl ?_)))
 refine wv (.pointer none) z z z ?_
 cases hm
}
}
 {
 replace hst := objO_get hst
 dsimp only [mvcc_Store_Get] at hm
 refine calls_start (args := [p0, F6 a1, U6 a2]) func13 z ntmps13 (Nat.le_of_ble_eq_true z) ?_
 refine wp_seq (wrl ?_)
 obtain ⟨b131, w132, ew133, eb134, hst⟩ := hst.box [.bool false, Zs] 34
 refine wl_run (v := Pt b131 0) (w' := w132) z z (x_al (by kernel_rfl) ew133 eb134) ?_
 refine wl_nil (tn (wp_seq (wrl (wv (p0) z z z (wv (.float .f64 a1) z z z ?_)))))
 obtain ⟨t136, ht137, hm⟩ := bind_some hm
 refine wc call32 [F6 a1] z z z ?_
 refine (number_Rank_ref hst.to0 ht137).mono ?_
 rintro _ w138 ⟨rfl, hst⟩
 refine ⟨_, z, ?_⟩
 replace hst := hst.of0.pull1
 replace hst := objO_some hst
 obtain ⟨t141, ht142, hm⟩ := bind_some hm
 refine wc call31 [p0, U6 t136] z z z ?_
 refine (mvcc_Store_find_ref hst.to1 ht142).mono ?_
 rintro _ w143 ⟨rfl, hst⟩
 refine ⟨_, z, ?_⟩
 replace hst := hst.of1
 replace hst := objO_get hst
 refine wv (.tuple #[I6 t141.1, .bool t141.2]) z z z (wv (.int .i64 t141.1) z z z (wv (.bool t141.2) z z z (wv (.int .i64 t141.1) z z z (wv (.bool t141.2) z z z (wl_nil (tn (wp_seq (wp_seq (wrl (wv (.bool t141.2) z z z (wv (.bool (!t141.2)) z z z (wl_nil (tn ?_)))))))))))))
 refine bsplit (!t141.2) (fun hc146 => ?_) (fun hc146 => ?_)
 {
 replace hm := bif_t hc146 hm
 refine wp_ift (cvb hc146) ?_
 refine wp_seq (wrl (wv (.agg #[.bool false, Zs]) z z (by kernel_rfl) ?_))
 replace hst := hst.pull1
 obtain ⟨w148, hr149, hst⟩ := hst.bx [.bool false, Zs] sizeOf34 z (oC z (oC z oN)) (by kernel_rfl)
 refine wl_unit z z (x_unit hr149) ?_
 refine wl_nil (tn (wp_ret (then_r ?_)))
 replace hst := hst.own_nil (tyInt .u8)
 replace hst := hst.pull2
 replace hst := objO_some hst
 obtain rfl := some_inj hm
 refine post_ret (vs := [.agg #[.bool false, Zs]]) results13 (rvs_cons (rv_cell (cs := [.bool false, Zs]) z isAgg34 sizeOf34 (hst.bcs2 0 z)) rvs_nil) ?_
 replace hst := hst.pull1
 exact ⟨(.slice none 0 0), z, hst.keep2⟩
}
 {
 replace hm := bif_f hc146 hm
 refine wp_iff (cvb hc146) ?_
 refine wp_skip (tn (wp_seq (wrl ?_)))
 refine wv (p0) z z z ?_
 obtain ⟨b150, v151, rfl, hst'⟩ := at_mvcc_Store_open hst
 clear hst
 have hst := hst'
 clear hst'
 refine wv (Pt b150 0) z z z (wv (Pt b150 0) z z (x_field z underlying79 z sizeOf77 z) (wv (v151) z z (x_load z isAgg77 (hst.bc0 z)) (wv (.int .i64 t141.1) z z z ?_)))
 obtain ⟨x153, hx154, hm⟩ := bind_some hm
 obtain ⟨h155, h156, hi157⟩ := geto_some hx154
 refine wv (.pointer (some (eAddr v151 (t141.1.toNat * 2 + 0)))) z z (x_index z z underlying77 sizeOf76 (hst.nestsv 1 z) h155 h156) (wv (.pointer (some (eAddr v151 (t141.1.toNat * 2 + 1)))) z z (x_field_e z underlying76 z sizeOf53 z) ?_)
 replace hst := hst.pull1
 obtain ⟨v158, hst⟩ := hst.nest_focus hi157
 refine wv (v158) z z (x_load z isAgg53 ((hst.holeall (N := nest_mvcc_row) (i := t141.1.toNat) 1 z hi157) 1 _ z)) (wv (.int .u64 a2) z z z ?_)
 obtain ⟨css160, hq161, hst⟩ := hst.own_open
 obtain ⟨t162, ht163, hm⟩ := bind_some hm
 refine wc call33 [v158, U6 a2] z z z ?_
 refine (mvcc_read_ref (hst.rdrow0 hq161) hst.to0 ht163).mono ?_
 rintro _ w164 ⟨v167, rfl, hst⟩
 refine ⟨_, z, ?_⟩
 replace hst := hst.of1.pull1.own_close hq161
 replace hst := hst.pull4
 obtain ⟨w169, hr170, hst⟩ := hst.bx [.bool t162.Has, v167] sizeOf34 z (oC z (oC (one_of_sliceV hst.sv2) oN)) (by kernel_rfl)
 refine wl_unit z z (x_unit hr170) ?_
 refine wl_nil (tn (wp_ret ?_))
 replace hst := hst.pull3.pull2
 replace hst := St.nest_close0 (N := nest_mvcc_row) hst hi157
 replace hst := hst.pull3
 replace hst := at_mvcc_Store_close (pv := Pt b150 0) (x := o0) hst z
 replace hst := objO_some hst
 obtain rfl := some_inj hm
 refine post_ret (vs := [.agg #[.bool t162.Has, v167]]) results13 (rvs_cons (rv_cell (cs := [.bool t162.Has, v167]) z isAgg34 sizeOf34 (hst.bcs1 0 z)) rvs_nil) ?_
 replace hst := hst.pull2
 exact ⟨v167, z, hst.keep2⟩
}
}
}

theorem mvcc_Store_Size_ref {w0 w : World} {I : HL} {R : SP} {a0 : (Option mvcc_Store)} {p0 : Value}  (hst : St w0 w I [objO at_mvcc_Store p0 a0] R) {r : (Int)} (hm : mvcc_Store_Size a0 = some r) :
  Calls prog 25 #[p0] w fun e w' => e = .returned (.int .i64 r) ∧ St w0 w' I [objO at_mvcc_Store p0 a0] R := by {
 rcases a0 with _ | o0
 {
 obtain ⟨rfl, hst'⟩ := objO_none hst
 clear hst
 have hst := hst'
 clear hst'
 dsimp only [mvcc_Store_Size] at hm
 refine calls_start (args := [.pointer none]) func25 z ntmps25 (Nat.le_of_ble_eq_true z) ?_
 refine wp_seq (wrl (wv (.int .i64 (0:Int)) z z z (wl_nil (tn (wp_seq (wp_seq (wrl (wv (.pointer none) z z z (wv (.bool true) z z (by kernel_rfl) (wl_nil (tn ?_)))))))))))
 refine wp_ift z ?_
 refine wp_seq (wrl (wv (.int .i64 (0:Int)) z z z (wl_nil (tn (wp_ret (then_r ?_))))))
 replace hst := hst.objO_nil at_mvcc_Store
 obtain rfl := some_inj hm
 refine post_ret (vs := [Zi]) results25 (rvs_cons (rv_tmp z) rvs_nil) ?_
 exact ⟨z, hst.keep1⟩
}
 {
 replace hst := objO_get hst
 dsimp only [mvcc_Store_Size] at hm
 refine calls_start (args := [p0]) func25 z ntmps25 (Nat.le_of_ble_eq_true z) ?_
 refine wp_seq (wrl (wv (.int .i64 (0:Int)) z z z (wl_nil (tn (wp_seq (wp_seq (wrl (wv (p0) z z z ?_))))))))
 obtain ⟨b126, v127, rfl, hst'⟩ := at_mvcc_Store_open hst
 clear hst
 have hst := hst'
 clear hst'
 refine wv (.bool false) z z (by kernel_rfl) (wl_nil (tn ?_))
 refine wp_iff z ?_
 refine wp_skip (tn (wp_seq (wrl ?_)))
 refine wv (.int .i64 (0:Int)) z z z (wl_nil (tn (wp_seq (wp_seq (wrl (wv (Pt b126 0) z z z (wv (Pt b126 0) z z z (wv (Pt b126 0) z z (x_field z underlying79 z sizeOf77 z) (wv (v127) z z (x_load z isAgg77 (hst.bc0 z)) (wv (.int .i64 ((o0.rows).length : Int)) z z (x_len z underlying77 (hst.nestsv 1 z)) (wv (.int .i64 (0:Int)) z z z (wl_nil (tn (wp_block ?_))))))))))))))
 obtain ⟨n166, hm⟩ := loopO_some hm
 refine wp_loop_n (fun n a w => ∃ (z163 : Int) (z164 : Int) (σ165 : Nat → Value), loopN (mvcc_Store_Size_l0 o0) n (z163, z164) = some r ∧ a = Fr 24 (upd (upd (upd (upd σ165 3 (.int .i64 z164)) 11 (v127)) 12 (.int .i64 ((o0.rows).length : Int))) 13 (.int .i64 z163)) ∧ St w0 w I [cells b126 [v127], ownN nest_mvcc_row v127 o0.rows] R) n166 ⟨(0:Int), (0:Int), _, hm, (fu 3 (.int .i64 (0:Int)) z (fu 11 v127 z (fu 12 (.int .i64 ((o0.rows).length : Int)) z (fu 13 (.int .i64 (0:Int)) z z)))), hst⟩ ?_
 rintro n172 _ w167 ⟨z163, z164, σ165, hm, rfl, hst⟩
 obtain ⟨n169, y170, rfl, hm, hx171⟩ := loopN_some hm
 dsimp only [mvcc_Store_Size_l0] at hm
 refine wp_seq (wrl (wv (.bool (decide (z163 < ((o0.rows).length : Int)))) z z z (wl_nil (tn (wp_seq ?_)))))
 refine bsplit (decide (z163 < ((o0.rows).length : Int))) (fun hc173 => ?_) (fun hc173 => ?_)
 {
 replace hm := bif_t hc173 hm
 refine wp_ift (cvb hc173) ?_
 refine wp_skip (tn (wp_seq (wp_block (wp_seq (wrl ?_)))))
 obtain ⟨x174, hx175, hm⟩ := bind_some hm
 obtain ⟨h176, h177, hi178⟩ := geto_some hx175
 refine wv (.pointer (some (eAddr v127 (z163.toNat * 2 + 0)))) z z (x_index z z underlying77 sizeOf76 (hst.nestsv 1 z) h176 h177) ?_
 replace hst := hst.pull1
 obtain ⟨v179, hst⟩ := hst.nest_focus hi178
 refine wv (.agg #[U6 x174.rank, v179]) z z (x_loadN (cs := [U6 x174.rank, v179]) z isAgg76 sizeOf76 (eCells (o := 0) (hst.holeall (N := nest_mvcc_row) (i := z163.toNat) 1 z hi178) z)) ?_
 obtain ⟨b182, w183, ew184, eb185, hst⟩ := hst.box [Zu, Zs] 76
 refine wl_run (v := Pt b182 0) (w' := w183) z z (x_al (by kernel_rfl) ew184 eb185) ?_
 obtain ⟨w187, hr188, hst⟩ := hst.bx [U6 x174.rank, v179] sizeOf76 z (oC z (oC (one_of_sliceV hst.sv1) oN)) (by kernel_rfl)
 refine wl_unit z z (x_unit hr188) ?_
 refine wl_nil (tn (wrl (wv (.int .i64 z164) z z z (wv (Pt b182 1) z z (x_field z underlying76 z sizeOf53 z) (wv (v179) z z (x_load z isAgg53 (hst.bc0 z)) (wv (.int .i64 ((x174.l).length : Int)) z z (x_len z underlying53 hst.sv1) (wv (.int .i64 (i64.wrap (z164 + ((x174.l).length : Int)))) z z z (wv (.int .i64 (i64.wrap (z164 + ((x174.l).length : Int)))) z z z (wl_nil (blk_n (tn (wrl (wv (.int .i64 (i64.wrap (z163 + (1:Int)))) z z z (wv (.int .i64 (i64.wrap (z163 + (1:Int)))) z z z (wl_nil (tn ?_))))))))))))))))
 replace hst := hst.pull2.pull2
 replace hst := St.nest_close0 (N := nest_mvcc_row) hst hi178
 replace hst := hst.pull2.keep2
 obtain rfl := some_inj hm
 exact ⟨_, Nat.lt_succ_self _, (i64.wrap (z163 + (1:Int))), (i64.wrap (z164 + ((x174.l).length : Int))), _, hx171, (fu 3 (.int .i64 (i64.wrap (z164 + ((x174.l).length : Int)))) z (fu 11 v127 z (fu 12 (.int .i64 ((o0.rows).length : Int)) z (fu 13 (.int .i64 (i64.wrap (z163 + (1:Int)))) z z)))), hst⟩
}
 {
 replace hm := bif_f hc173 hm
 refine wp_iff (cvb hc173) ?_
 refine wp_exit (then_x (then_x ?_))
 replace hm := inr_up hm hx171
 refine blk_x (tn (wp_seq (wrl ?_)))
 refine wv (.int .i64 z164) z z z (wv (.int .i64 z164) z z z (wl_nil (tn (wp_ret ?_))))
 replace hst := hst.pull1.pull1
 replace hst := at_mvcc_Store_close (pv := Pt b126 0) (x := o0) hst z
 replace hst := objO_some hst
 obtain rfl := some_inj hm
 refine post_ret (vs := [I6 z164]) results25 (rvs_cons (rv_tmp z) rvs_nil) ?_
 exact ⟨z, hst.keep1⟩
}
}
}

end Go.Proofs.Ytbdnbohbmgmonaa
