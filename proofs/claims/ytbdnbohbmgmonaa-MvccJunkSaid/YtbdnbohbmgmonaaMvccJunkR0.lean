/- The Go functions refine their models, part 0. -/
import Derived.Test.YtbdnbohbmgmonaaMvccJunkT
set_option linter.unusedVariables false
set_option linter.unusedSimpArgs false
set_option maxRecDepth 100000
set_option maxHeartbeats 4000000
namespace Go.Proofs.Ytbdnbohbmgmonaa
open Go Go.V
open _root_.Go.Proofs.Try IntKind
attribute [local irreducible] wpList Code.wp wpQuiet Calls bodyPost Oper.wp wpS Nx PendOK YieldsIn
theorem mvcc_New_ref {w0 w : World} {I : HL} {R : SP}   (hst : St w0 w I [] R) {r : (mvcc_Store)} (hm : mvcc_New = some r) :
  Calls prog 21 #[] w fun e w' => ∃ (q0 : Value), e = .returned (q0) ∧ St w0 w' I [at_mvcc_Store q0 r] R := by {
 unfold mvcc_New at hm
 refine calls_start (args := []) func21 z ntmps21 (Nat.le_of_ble_eq_true z) ?_
 refine wp_seq (wrl (wv (.pointer none) z z z (wl_nil (tn (wp_seq (wrl (wv (.agg #[Zs]) z z (by kernel_rfl) ?_)))))))
 obtain ⟨b13, w14, ew15, eb16, hst⟩ := hst.box [Zs] 79
 refine wl_run (v := Pt b13 0) (w' := w14) z z (x_al (by kernel_rfl) ew15 eb16) ?_
 refine wv (Pt b13 0) z z z (wl_nil (tn (wp_ret ?_)))
 replace hst := hst.nest_nil nest_mvcc_row
 replace hst := hst.pull1
 replace hst := at_mvcc_Store_close (pv := Pt b13 0) (x := ({ rows := [] } : mvcc_Store)) hst z
 obtain rfl := some_inj hm
 refine post_ret (vs := [Pt b13 0]) results21 (rvs_cons (rv_tmp z) rvs_nil) ?_
 exact ⟨.pointer (some ⟨b13, 0, none⟩), z, hst.keep1⟩
}

theorem law11_at_ref {w0 w : World} {I : HL} {R : SP} {a0 : law11_Ver} {r0_0 : Value} (f0_0 : Rd (tyInt .u8) R I r0_0 a0.V) (hst : St w0 w I [] R) {r : (Nat)} (hm : law11_at a0 = some r) :
  Calls prog 28 #[.agg #[U1 a0.At, F6 a0.X, U1 a0.E, U1 a0.I, .bool a0.Del, r0_0]] w fun e w' => e = .returned (.float .f64 r) ∧ St w0 w' I [] R := by {
 unfold law11_at at hm
 refine calls_start (args := [.agg #[U1 a0.At, F6 a0.X, U1 a0.E, U1 a0.I, .bool a0.Del, r0_0]]) func28 z ntmps28 (Nat.le_of_ble_eq_true z) ?_
 refine wp_seq (wrl ?_)
 obtain ⟨b45, w46, ew47, eb48, hst⟩ := hst.box [U1 a0.At, F6 a0.X, U1 a0.E, U1 a0.I, .bool a0.Del, r0_0] 64
 refine wl_run (v := Pt b45 0) (w' := w46) z z (x_al (by kernel_rfl) ew47 eb48) ?_
 refine wv (.float .f64 (0:Nat)) z z z (wl_nil (tn (wp_seq (wrl ?_))))
 obtain ⟨b50, w51, ew52, eb53, hst⟩ := hst.lits (E := tyF64) (xs := [(0:Nat), (4607182418800017408:Nat), (13830554455654793216:Nat), (4602678819172646912:Nat)]) [[Zf], [F6 (4607182418800017408:Nat)], [F6 (13830554455654793216:Nat)], [F6 (4602678819172646912:Nat)]] 23 4 z (Reps.cons z (Reps.cons z (Reps.cons z (Reps.cons z Reps.nil))))
 refine wl_run (v := (.slice (some ⟨b50, 0, none⟩) 4 4)) (w' := w51) z z (x_als (by kernel_rfl) ew52 eb53) ?_
 refine wv ((.slice (some ⟨b50, 0, none⟩) 4 4)) z z z (wl_nil (tn (wp_seq (wp_seq (wrl (wv (Pt b45 0) z z (x_field z underlying64 z sizeOf5 z) (wv (.int .u8 a0.At) z z (x_load z isAgg5 (hst.bc1 z)) (wv (.int .u8 (Int.tmod a0.At (6:Int))) z z (x_rem (by decide) z z) (wv (.bool (decide ((Int.tmod a0.At (6:Int)) < (4:Int)))) z z z (wl_nil (tn ?_)))))))))))
 refine bsplit (decide ((Int.tmod a0.At (6:Int)) < (4:Int))) (fun hc55 => ?_) (fun hc55 => ?_)
 {
 replace hm := bif_t hc55 hm
 refine wp_ift (cvb hc55) ?_
 refine wp_seq (wrl (wv ((.slice (some ⟨b50, 0, none⟩) 4 4)) z z z (wv (Pt b45 0) z z (x_field z underlying64 z sizeOf5 z) (wv (.int .u8 a0.At) z z (x_load z isAgg5 (hst.bc1 z)) (wv (.int .u8 (Int.tmod a0.At (6:Int))) z z (x_rem (by decide) z z) ?_)))))
 obtain ⟨x56, hx57, hm⟩ := bind_some hm
 obtain ⟨h58, h59, hi60⟩ := geto_some hx57
 refine wv (.pointer (some (eAddr (.slice (some ⟨b50, 0, none⟩) 4 4) ((Int.tmod a0.At (6:Int)).toNat * 1 + 0)))) z z (x_index z z underlying44 sizeOf23 hst.sv0 h58 h59) (wv (.float .f64 x56) z z (x_load z isAgg23 (hst.ol0 hi60 (by rintro _ rfl; rfl))) (wv (.float .f64 x56) z z z (wl_nil (tn (wp_ret (then_r ?_))))))
 obtain rfl := some_inj hm
 refine post_ret (vs := [F6 x56]) results28 (rvs_cons (rv_tmp z) rvs_nil) ?_
 exact ⟨z, hst.keep0⟩
}
 {
 replace hm := bif_f hc55 hm
 refine wp_iff (cvb hc55) ?_
 refine wp_skip (tn (wp_seq (wrl ?_)))
 refine wv (Pt b45 1) z z (x_field z underlying64 z sizeOf23 z) (wv (.float .f64 a0.X) z z (x_load z isAgg23 (hst.bc1 z)) (wv (.float .f64 a0.X) z z z (wl_nil (tn (wp_ret ?_)))))
 obtain rfl := some_inj hm
 refine post_ret (vs := [F6 a0.X]) results28 (rvs_cons (rv_tmp z) rvs_nil) ?_
 exact ⟨z, hst.keep0⟩
}
}

theorem slices_Clone_byte_byte_ref {w0 w : World} {I : HL} {R : SP} {a0 : (List Int)} {r0_0 : Value} (f0_0 : Rd (tyInt .u8) R I r0_0 a0) (hst : St w0 w I [] R) {r : (List Int)} (hm : slices_Clone_byte_byte a0 = some r) :
  Calls prog 41 #[r0_0] w fun e w' => ∃ (q0_0 : Value), e = .returned (q0_0) ∧ St w0 w' I [ownS (tyInt .u8) q0_0 r] R := by {
 unfold slices_Clone_byte_byte at hm
 obtain ⟨hg, hm⟩ := gd_some hm
 obtain rfl := some_inj hm
 have hsv := rd_sliceV f0_0
 refine calls_start (args := [r0_0]) func41 z ntmps41 (Nat.le_of_ble_eq_true z) ?_
 refine wp_seq (wrl (wv ((.slice none 0 0)) z z z (wl_nil (tn (wp_seq (wp_seq (wrl (wv (r0_0) z z z (wv (.bool (isNil r0_0)) z z (x_slnil z hsv z underlying32) (wl_nil (tn ?_)))))))))))
 refine bsplit (isNil r0_0) (fun hc79 => ?_) (fun hc79 => ?_)
 {
 refine wp_ift (cvb hc79) ?_
 refine wp_seq (wrl (wv ((.slice none 0 0)) z z z (wl_nil (tn (wp_ret (then_r ?_))))))
 refine post_ret (vs := [Zs]) results41 (rvs_cons (rv_tmp z) rvs_nil) ?_
 obtain rfl := List.eq_nil_of_length_eq_zero (isNil_len hsv hc79)
 exact ⟨_, z, (hst.own_nil (tyInt .u8)).keep1⟩
}
 {
 refine wp_iff (cvb hc79) ?_
 refine wp_skip (tn (wp_seq (wrl ?_)))
 obtain ⟨b, w1, ew, eb, hst⟩ := hst.lits (E := (tyInt .u8)) (xs := []) [] 5 0 z Reps.nil
 refine wl_run (v := (.slice (some ⟨b, 0, none⟩) 0 0)) (w' := w1) z z (x_als (by kernel_rfl) ew eb) ?_
 refine wv (r0_0) z z z ?_
 obtain ⟨v2, w2, hr, hst⟩ := run_append elem_32 underlying32 hst (Src.of_rd hst f0_0 flat_int) (room_of hg z) 32
 refine wl_run (v := v2) (w' := w2) z z (x_append z z hr) ?_
 refine wv (v2) z z z (wl_nil (tn (wp_ret ?_)))
 refine post_ret (vs := [v2]) results41 (rvs_cons (rv_tmp z) rvs_nil) ?_
 rw [List.nil_append] at hst
 exact ⟨_, z, hst.keep1⟩
}
}

theorem math_IsNaN_ref {w0 w : World} {I : HL} {R : SP} {a0 : Nat}  (hst : St w0 w I [] R) {r : (Bool)} (hm : math_IsNaN a0 = some r) :
  Calls prog 59 #[F6 a0] w fun e w' => e = .returned (.bool r) ∧ St w0 w' I [] R := by {
 unfold math_IsNaN at hm
 refine calls_start (args := [F6 a0]) func59 z ntmps59 (Nat.le_of_ble_eq_true z) ?_
 refine wp_seq (wrl (wv (.bool false) z z z (wl_nil (tn (wp_seq (wrl (wv (.float .f64 a0) z z z (wv (.float .f64 a0) z z z (wv (.bool (fNe a0 a0)) z z z (wv (.bool (fNe a0 a0)) z z z (wl_nil (tn (wp_ret ?_)))))))))))))
 obtain rfl := some_inj hm
 refine post_ret (vs := [.bool (fNe a0 a0)]) results59 (rvs_cons (rv_tmp z) rvs_nil) ?_
 exact ⟨z, hst.keep0⟩
}

theorem number_Rank_ref {w0 w : World} {I : HL} {R : SP} {a0 : Nat}  (hst : St w0 w I [] R) {r : (Int)} (hm : number_Rank a0 = some r) :
  Calls prog 32 #[F6 a0] w fun e w' => e = .returned (.int .u64 r) ∧ St w0 w' I [] R := by {
 unfold number_Rank at hm
 refine calls_start (args := [F6 a0]) func32 z ntmps32 (Nat.le_of_ble_eq_true z) ?_
 refine wp_seq (wrl (wv (.int .u64 (0:Int)) z z z (wl_nil (tn (wp_seq (wp_seq (wrl (wv (.float .f64 a0) z z z ?_))))))))
 obtain ⟨t107, ht108, hm⟩ := bind_some hm
 refine wc call59 [F6 a0] z z z ?_
 refine (math_IsNaN_ref hst.to0 ht108).mono ?_
 rintro _ w109 ⟨rfl, hst⟩
 refine ⟨_, z, ?_⟩
 replace hst := hst.of0
 refine wl_nil (tn ?_)
 refine bsplit t107 (fun hc112 => ?_) (fun hc112 => ?_)
 {
 replace hm := bif_t hc112 hm
 refine wp_ift (cvb hc112) ?_
 refine wp_seq (wrl (wv (.int .u64 (18446744073709551615:Int)) z z z (wl_nil (tn (wp_ret (then_r ?_))))))
 obtain rfl := some_inj hm
 refine post_ret (vs := [U6 (18446744073709551615:Int)]) results32 (rvs_cons (rv_tmp z) rvs_nil) ?_
 exact ⟨z, hst.keep0⟩
}
 {
 replace hm := bif_f hc112 hm
 refine wp_iff (cvb hc112) ?_
 refine wp_skip (tn (wp_seq (wrl ?_)))
 refine wv (.float .f64 a0) z z z (wv (.int .u64 (Int.ofNat a0)) z z (by kernel_rfl) (wv (.int .u64 (Int.ofNat a0)) z z z (wl_nil (tn (wp_seq (wp_seq (wrl (wv (.int .u64 (Int.ofNat a0)) z z z (wv (.int .u64 (iShr .u64 (Int.ofNat a0) (63:Int))) z z (x_shr (by decide) z z) (wv (.bool ((iShr .u64 (Int.ofNat a0) (63:Int)) == (1:Int))) z z z (wl_nil (tn ?_))))))))))))
 refine bsplit ((iShr .u64 (Int.ofNat a0) (63:Int)) == (1:Int)) (fun hc113 => ?_) (fun hc113 => ?_)
 {
 replace hm := bif_t hc113 hm
 refine wp_ift (cvb hc113) ?_
 refine wp_seq (wrl (wv (.int .u64 (Int.ofNat a0)) z z z (wv (.int .u64 (bXor .u64 ((18446744073709551615):Int) (Int.ofNat a0))) z z (by kernel_rfl) (wv (.int .u64 (bXor .u64 ((18446744073709551615):Int) (Int.ofNat a0))) z z z (wl_nil (tn (wp_ret (then_r ?_))))))))
 obtain rfl := some_inj hm
 refine post_ret (vs := [U6 (bXor .u64 ((18446744073709551615):Int) (Int.ofNat a0))]) results32 (rvs_cons (rv_tmp z) rvs_nil) ?_
 exact ⟨z, hst.keep0⟩
}
 {
 replace hm := bif_f hc113 hm
 refine wp_iff (cvb hc113) ?_
 refine wp_skip (tn (wp_seq (wrl ?_)))
 refine wv (.int .u64 (Int.ofNat a0)) z z z (wv (.int .u64 (bOr .u64 (Int.ofNat a0) (9223372036854775808:Int))) z z z (wv (.int .u64 (bOr .u64 (Int.ofNat a0) (9223372036854775808:Int))) z z z (wl_nil (tn (wp_ret ?_)))))
 obtain rfl := some_inj hm
 refine post_ret (vs := [U6 (bOr .u64 (Int.ofNat a0) (9223372036854775808:Int))]) results32 (rvs_cons (rv_tmp z) rvs_nil) ?_
 exact ⟨z, hst.keep0⟩
}
}
}

theorem mvcc_Store_find_ref {w0 w : World} {I : HL} {R : SP} {a0 : (Option mvcc_Store)} {p0 : Value} {a1 : Int}  (hst : St w0 w I [objO at_mvcc_Store p0 a0] R) {r : (Int × Bool)} (hm : mvcc_Store_find a0 a1 = some r) :
  Calls prog 31 #[p0, U6 a1] w fun e w' => e = .returned (.tuple #[I6 r.1, .bool r.2]) ∧ St w0 w' I [objO at_mvcc_Store p0 a0] R := by {
 rcases a0 with _ | o0
 {
 obtain ⟨rfl, hst'⟩ := objO_none hst
 clear hst
 have hst := hst'
 clear hst'
 dsimp only [mvcc_Store_find] at hm
 refine calls_start (args := [.pointer none, U6 a1]) func31 z ntmps31 (Nat.le_of_ble_eq_true z) ?_
 refine wp_seq (wrl ?_)
 obtain ⟨b189, w190, ew191, eb192, hst⟩ := hst.box [.pointer none] 25
 refine wl_run (v := Pt b189 0) (w' := w190) z z (x_al (by kernel_rfl) ew191 eb192) ?_
 obtain ⟨b194, w195, ew196, eb197, hst⟩ := hst.box [U6 a1] 24
 refine wl_run (v := Pt b194 0) (w' := w195) z z (x_al (by kernel_rfl) ew196 eb197) ?_
 refine wv (.int .i64 (0:Int)) z z z (wv (.bool false) z z z (wl_nil (tn (wp_seq (wp_seq (wrl (wv (.pointer none) z z (x_load z isAgg25 (hst.bc1 z)) (wv (.bool true) z z (by kernel_rfl) (wl_nil (tn ?_))))))))))
 refine wp_ift z ?_
 refine wp_seq (wrl (wv (.int .i64 (0:Int)) z z z (wv (.bool false) z z z (wl_nil (tn (wp_ret (then_r ?_)))))))
 replace hst := hst.objO_nil at_mvcc_Store
 obtain rfl := some_inj hm
 refine post_ret (vs := [Zi, .bool false]) results31 (rvs_cons (rv_tmp z) (rvs_cons (rv_tmp z) rvs_nil)) ?_
 exact ⟨z, hst.keep1⟩
}
 {
 replace hst := objO_get hst
 dsimp only [mvcc_Store_find] at hm
 refine calls_start (args := [p0, U6 a1]) func31 z ntmps31 (Nat.le_of_ble_eq_true z) ?_
 refine wp_seq (wrl ?_)
 obtain ⟨b199, v200, rfl, hst'⟩ := at_mvcc_Store_open hst
 clear hst
 have hst := hst'
 clear hst'
 obtain ⟨b202, w203, ew204, eb205, hst⟩ := hst.box [Pt b199 0] 25
 refine wl_run (v := Pt b202 0) (w' := w203) z z (x_al (by kernel_rfl) ew204 eb205) ?_
 obtain ⟨b207, w208, ew209, eb210, hst⟩ := hst.box [U6 a1] 24
 refine wl_run (v := Pt b207 0) (w' := w208) z z (x_al (by kernel_rfl) ew209 eb210) ?_
 refine wv (.int .i64 (0:Int)) z z z (wv (.bool false) z z z (wl_nil (tn (wp_seq (wp_seq (wrl (wv (Pt b199 0) z z (x_load z isAgg25 (hst.bc1 z)) (wv (.bool false) z z (by kernel_rfl) (wl_nil (tn ?_))))))))))
 refine wp_iff z ?_
 refine wp_skip (tn (wp_seq (wrl ?_)))
 refine wv (Pt b199 0) z z (x_load z isAgg25 (hst.bc1 z)) (wv (Pt b199 0) z z z (wv (Pt b199 0) z z (x_field z underlying79 z sizeOf77 z) (wv (v200) z z (x_load z isAgg77 (hst.bc2 z)) (wv (.int .i64 ((o0.rows).length : Int)) z z (x_len z underlying77 (hst.nestsv 3 z)) (wv (.func (.func 58) #[] #[Pt b202 0, Pt b207 0]) z z (by kernel_rfl) ?_)))))
 obtain ⟨y262, hq263, hm⟩ := bind_some hm
 refine wl_call z z (x_callv call38 (caps := []) z (vs := [I6 ((o0.rows).length : Int), .func (.func 58) #[] #[Pt b202 0, Pt b207 0]]) z) ?_
 refine Calls.mono (show Calls prog 38 #[I6 ((o0.rows).length : Int), .func (.func 58) #[] #[Pt b202 0, Pt b207 0]] _ (fun e w' => ∃ (z260 : Int), z260 = y262 ∧ e = .returned (.int .i64 z260) ∧ St w0 w' I [cells b199 [v200], ownN nest_mvcc_row v200 o0.rows, cells b202 [Pt b199 0], cells b207 [U6 a1]] R) from ?_) ?_
 {
 clear hm; have hm := hq263
 refine calls_start (args := [I6 ((o0.rows).length : Int), .func (.func 58) #[] #[Pt b202 0, Pt b207 0]]) func38 z ntmps38 (Nat.le_of_ble_eq_true z) ?_
 refine wp_seq (wrl (wv (.int .i64 (0:Int)) z z z (wl_nil (tn (wp_seq (wrl (wv (.int .i64 ((o0.rows).length : Int)) z z z (wv (.int .i64 (0:Int)) z z z (wv (.int .i64 ((o0.rows).length : Int)) z z z (wl_nil (tn (wp_seq (wp_block ?_)))))))))))))
 obtain ⟨n241, hm⟩ := loopO_some hm
 refine wp_loop_n (fun n a w => ∃ (z238 : Int) (z239 : Int) (σ240 : Nat → Value), loopN (mvcc_Store_find_l0 o0 a1) n (z238, z239) = some y262 ∧ a = Fr 26 (upd (upd (upd σ240 1 (.func (.func 58) #[] #[Pt b202 0, Pt b207 0])) 5 (.int .i64 z238)) 6 (.int .i64 z239)) ∧ St w0 w I [cells b207 [U6 a1], cells b202 [Pt b199 0], cells b199 [v200], ownN nest_mvcc_row v200 o0.rows] R) n241 ⟨(0:Int), ((o0.rows).length : Int), _, hm, (fu 1 (.func (.func 58) #[] #[Pt b202 0, Pt b207 0]) z (fu 5 (.int .i64 (0:Int)) z (fu 6 (.int .i64 ((o0.rows).length : Int)) z z))), hst⟩ ?_
 rintro n247 _ w242 ⟨z238, z239, σ240, hm, rfl, hst⟩
 obtain ⟨n244, y245, rfl, hm, hx246⟩ := loopN_some hm
 dsimp only [mvcc_Store_find_l0] at hm
 refine wp_seq (wp_seq (wrl (wv (.int .i64 z238) z z z (wv (.int .i64 z239) z z z (wv (.bool (decide (z238 < z239))) z z z (wl_nil (tn ?_)))))))
 refine bsplit (decide (z238 < z239)) (fun hc248 => ?_) (fun hc248 => ?_)
 {
 replace hm := bif_t hc248 hm
 refine wp_ift (cvb hc248) ?_
 refine wp_skip (tn (wp_block (wp_seq (wrl ?_))))
 refine wv (.int .i64 z238) z z z (wv (.int .i64 z239) z z z (wv (.int .i64 (i64.wrap (z238 + z239))) z z z (wv (.int .u64 (u64.wrap (i64.wrap (z238 + z239)))) z z (by kernel_rfl) (wv (.int .u64 (iShr .u64 (u64.wrap (i64.wrap (z238 + z239))) (1:Int))) z z (x_shr (by decide) z z) (wv (.int .i64 (i64.wrap (iShr .u64 (u64.wrap (i64.wrap (z238 + z239))) (1:Int)))) z z (by kernel_rfl) (wv (.int .i64 (i64.wrap (iShr .u64 (u64.wrap (i64.wrap (z238 + z239))) (1:Int)))) z z z (wl_nil (tn (wp_seq (wrl (wv (.func (.func 58) #[] #[Pt b202 0, Pt b207 0]) z z z (wv (.int .i64 (i64.wrap (iShr .u64 (u64.wrap (i64.wrap (z238 + z239))) (1:Int)))) z z z ?_))))))))))))
 obtain ⟨y256, hq257, hm⟩ := bind_some hm
 refine wl_call z z (x_callv call58 (caps := [Pt b202 0, Pt b207 0]) z (vs := [I6 (i64.wrap (iShr .u64 (u64.wrap (i64.wrap (z238 + z239))) (1:Int)))]) z) ?_
 refine Calls.mono (show Calls prog 58 #[I6 (i64.wrap (iShr .u64 (u64.wrap (i64.wrap (z238 + z239))) (1:Int))), Pt b202 0, Pt b207 0] _ (fun e w' => ∃ (z254 : Bool), z254 = y256 ∧ e = .returned (.bool z254) ∧ St w0 w' I [cells b199 [v200], ownN nest_mvcc_row v200 o0.rows, cells b202 [Pt b199 0], cells b207 [U6 a1]] R) from ?_) ?_
 {
 clear hm; have hm := hq257
 refine calls_start (args := [I6 (i64.wrap (iShr .u64 (u64.wrap (i64.wrap (z238 + z239))) (1:Int))), Pt b202 0, Pt b207 0]) func58 z ntmps58 (Nat.le_of_ble_eq_true z) ?_
 refine wp_seq (wrl (wv (.bool false) z z z (wl_nil (tn (wp_seq ?_)))))
 refine wq_regionS hst Try.mixed (by kernel_rfl) ?_
 refine wq_run (v := Pt b199 0) z z (fun w hst => x_load z isAgg25 (hst.bc1 z)) ?_
 refine wq_run (v := Pt b199 0) z z (fun w hst => z) ?_
 refine wq_run (v := Pt b199 0) z z (fun w hst => x_field z underlying79 z sizeOf77 z) ?_
 refine wq_run (v := v200) z z (fun w hst => x_load z isAgg77 (hst.bc2 z)) ?_
 refine wq_run (v := .int .i64 (i64.wrap (iShr .u64 (u64.wrap (i64.wrap (z238 + z239))) (1:Int)))) z z (fun w hst => z) ?_
 obtain ⟨x249, hx250, hm⟩ := bind_some hm
 obtain ⟨h251, h252, hi253⟩ := geto_some hx250
 refine wq_run (v := .pointer (some (eAddr v200 ((i64.wrap (iShr .u64 (u64.wrap (i64.wrap (z238 + z239))) (1:Int))).toNat * 2 + 0)))) z z (fun w hst => x_index z z underlying77 sizeOf76 (hst.nestsv 3 z) h251 h252) ?_
 refine wq_run (v := .pointer (some (eAddr v200 ((i64.wrap (iShr .u64 (u64.wrap (i64.wrap (z238 + z239))) (1:Int))).toNat * 2 + 0)))) z z (fun w hst => x_field_e z underlying76 z sizeOf24 z) ?_
 refine wq_run (v := .int .u64 x249.rank) z z (fun w hst => x_load z isAgg24 (hst.nestc (N := nest_mvcc_row) (i := (i64.wrap (iShr .u64 (u64.wrap (i64.wrap (z238 + z239))) (1:Int))).toNat) (o := 0) 3 z hi253 (fun _ => z))) ?_
 refine wq_run (v := .int .u64 a1) z z (fun w hst => x_load z isAgg24 (hst.bc0 z)) ?_
 refine wq_run (v := .bool (decide (x249.rank ≥ a1))) z z (fun w hst => z) ?_
 refine wq_run (v := .bool (decide (x249.rank ≥ a1))) z z (fun w hst => z) ?_
 refine wq_nil ?_
 intro w hst
 refine tn (wp_ret ?_)
 refine post_ret (vs := [.bool (decide (x249.rank ≥ a1))]) results58 (rvs_cons (rv_tmp z) rvs_nil) ?_
 replace hst := hst.pull1.pull3.pull3.keep4
 obtain rfl := some_inj hm
 exact ⟨(decide (x249.rank ≥ a1)), z, z, hst⟩
}
 clear hst
 rintro _ w258 ⟨z254, rfl, rfl, hst⟩
 refine ⟨_, z, ?_⟩
 try dsimp only at hm
 refine wv (.bool (!z254)) z z z (wl_nil (tn ?_))
 refine bsplit (!z254) (fun hc259 => ?_) (fun hc259 => ?_)
 {
 replace hm := bif_t hc259 hm
 refine wp_ift (cvb hc259) ?_
 refine wrl (wv (.int .i64 (i64.wrap (iShr .u64 (u64.wrap (i64.wrap (z238 + z239))) (1:Int)))) z z z (wv (.int .i64 (i64.wrap ((i64.wrap (iShr .u64 (u64.wrap (i64.wrap (z238 + z239))) (1:Int))) + (1:Int)))) z z z (wv (.int .i64 (i64.wrap ((i64.wrap (iShr .u64 (u64.wrap (i64.wrap (z238 + z239))) (1:Int))) + (1:Int)))) z z z (wl_nil (blk_n (tn ?_))))))
 replace hst := hst.pull1.pull1.pull2.pull3.keep4
 obtain rfl := some_inj hm
 exact ⟨_, Nat.lt_succ_self _, (i64.wrap ((i64.wrap (iShr .u64 (u64.wrap (i64.wrap (z238 + z239))) (1:Int))) + (1:Int))), z239, _, hx246, (fu 1 (.func (.func 58) #[] #[Pt b202 0, Pt b207 0]) z (fu 5 (.int .i64 (i64.wrap ((i64.wrap (iShr .u64 (u64.wrap (i64.wrap (z238 + z239))) (1:Int))) + (1:Int)))) z (fu 6 (.int .i64 z239) z z))), hst⟩
}
 {
 replace hm := bif_f hc259 hm
 refine wp_iff (cvb hc259) ?_
 refine wrl (wv (.int .i64 (i64.wrap (iShr .u64 (u64.wrap (i64.wrap (z238 + z239))) (1:Int)))) z z z (wv (.int .i64 (i64.wrap (iShr .u64 (u64.wrap (i64.wrap (z238 + z239))) (1:Int)))) z z z (wl_nil (blk_n (tn ?_)))))
 replace hst := hst.pull1.pull1.pull2.pull3.keep4
 obtain rfl := some_inj hm
 exact ⟨_, Nat.lt_succ_self _, z238, (i64.wrap (iShr .u64 (u64.wrap (i64.wrap (z238 + z239))) (1:Int))), _, hx246, (fu 1 (.func (.func 58) #[] #[Pt b202 0, Pt b207 0]) z (fu 5 (.int .i64 z238) z (fu 6 (.int .i64 (i64.wrap (iShr .u64 (u64.wrap (i64.wrap (z238 + z239))) (1:Int)))) z z))), hst⟩
}
}
 {
 replace hm := bif_f hc248 hm
 refine wp_iff (cvb hc248) ?_
 refine wp_exit (then_x (then_x ?_))
 replace hm := inr_up hm hx246
 refine blk_x (tn (wp_seq (wrl ?_)))
 refine wv (.int .i64 z238) z z z (wv (.int .i64 z238) z z z (wl_nil (tn (wp_ret ?_))))
 refine post_ret (vs := [I6 z238]) results38 (rvs_cons (rv_tmp z) rvs_nil) ?_
 replace hst := hst.pull1.pull3.pull3.keep4
 obtain rfl := some_inj hm
 exact ⟨z238, z, z, hst⟩
}
}
 clear hst
 rintro _ w264 ⟨z260, rfl, rfl, hst⟩
 refine ⟨_, z, ?_⟩
 try dsimp only at hm
 refine wv (.int .i64 z260) z z z (wl_nil (tn (wp_seq ?_)))
 refine wq_regionS hst Try.mixed (by kernel_rfl) ?_
 refine wq_run (v := .int .i64 z260) z z (fun w hst => z) ?_
 refine wq_run (v := .int .i64 z260) z z (fun w hst => z) ?_
 refine wq_run (v := Pt b199 0) z z (fun w hst => x_load z isAgg25 (hst.bc2 z)) ?_
 refine wq_run (v := Pt b199 0) z z (fun w hst => z) ?_
 refine wq_run (v := Pt b199 0) z z (fun w hst => x_field z underlying79 z sizeOf77 z) ?_
 refine wq_run (v := v200) z z (fun w hst => x_load z isAgg77 (hst.bc0 z)) ?_
 refine wq_run (v := .int .i64 ((o0.rows).length : Int)) z z (fun w hst => x_len z underlying77 (hst.nestsv 1 z)) ?_
 refine wq_run (v := .bool (decide (z260 < ((o0.rows).length : Int)))) z z (fun w hst => z) ?_
 refine wq_run (v := .bool (decide (z260 < ((o0.rows).length : Int)))) z z (fun w hst => z) ?_
 refine bsplit (decide (z260 < ((o0.rows).length : Int))) (fun hc265 => ?_) (fun hc265 => ?_)
 {
 replace hm := bif_t hc265 hm
 refine wq_run (v := Pt b199 0) ((wanted_eq z z z (cvb hc265)).trans z) z (fun w hst => x_load z isAgg25 (hst.bc2 z)) ?_
 refine wq_run (v := Pt b199 0) ((wanted_eq z z z (cvb hc265)).trans z) z (fun w hst => z) ?_
 refine wq_run (v := Pt b199 0) ((wanted_eq z z z (cvb hc265)).trans z) z (fun w hst => x_field z underlying79 z sizeOf77 z) ?_
 refine wq_run (v := v200) ((wanted_eq z z z (cvb hc265)).trans z) z (fun w hst => x_load z isAgg77 (hst.bc0 z)) ?_
 refine wq_run (v := .int .i64 z260) ((wanted_eq z z z (cvb hc265)).trans z) z (fun w hst => z) ?_
 obtain ⟨x266, hx267, hm⟩ := bind_some hm
 obtain ⟨h268, h269, hi270⟩ := geto_some hx267
 refine wq_run (v := .pointer (some (eAddr v200 (z260.toNat * 2 + 0)))) ((wanted_eq z z z (cvb hc265)).trans z) z (fun w hst => x_index z z underlying77 sizeOf76 (hst.nestsv 1 z) h268 h269) ?_
 refine wq_run (v := .pointer (some (eAddr v200 (z260.toNat * 2 + 0)))) ((wanted_eq z z z (cvb hc265)).trans z) z (fun w hst => x_field_e z underlying76 z sizeOf24 z) ?_
 refine wq_run (v := .int .u64 x266.rank) ((wanted_eq z z z (cvb hc265)).trans z) z (fun w hst => x_load z isAgg24 (hst.nestc (N := nest_mvcc_row) (i := z260.toNat) (o := 0) 1 z hi270 (fun _ => z))) ?_
 refine wq_run (v := .int .u64 a1) ((wanted_eq z z z (cvb hc265)).trans z) z (fun w hst => x_load z isAgg24 (hst.bc3 z)) ?_
 refine wq_run (v := .bool (x266.rank == a1)) ((wanted_eq z z z (cvb hc265)).trans z) z (fun w hst => z) ?_
 refine wq_run (v := .bool (x266.rank == a1)) z z (fun w hst => x_pick_t hc265 z z) ?_
 refine wq_run (v := .int .i64 z260) z z (fun w hst => z) ?_
 refine wq_run (v := .bool (x266.rank == a1)) z z (fun w hst => z) ?_
 refine wq_nil ?_
 intro w hst
 refine tn (wp_ret ?_)
 replace hst := hst.pull1.pull1
 replace hst := at_mvcc_Store_close (pv := Pt b199 0) (x := o0) hst z
 replace hst := objO_some hst
 obtain rfl := some_inj hm
 refine post_ret (vs := [I6 z260, .bool (x266.rank == a1)]) results31 (rvs_cons (rv_tmp z) (rvs_cons (rv_tmp z) rvs_nil)) ?_
 exact ⟨z, hst.keep1⟩
}
 {
 replace hm := bif_f hc265 hm
 refine wq_off ((wanted_eq z z z (cvb hc265)).trans z) z ?_
 refine wq_off ((wanted_eq z z z (cvb hc265)).trans z) z ?_
 refine wq_off ((wanted_eq z z z (cvb hc265)).trans z) z ?_
 refine wq_off ((wanted_eq z z z (cvb hc265)).trans z) z ?_
 refine wq_off ((wanted_eq z z z (cvb hc265)).trans z) z ?_
 refine wq_off ((wanted_eq z z z (cvb hc265)).trans z) z ?_
 refine wq_off ((wanted_eq z z z (cvb hc265)).trans z) z ?_
 refine wq_off ((wanted_eq z z z (cvb hc265)).trans z) z ?_
 refine wq_off ((wanted_eq z z z (cvb hc265)).trans z) z ?_
 refine wq_off ((wanted_eq z z z (cvb hc265)).trans z) z ?_
 refine wq_run (v := .bool false) z z (fun w hst => x_pick_f hc265 z z) ?_
 refine wq_run (v := .int .i64 z260) z z (fun w hst => z) ?_
 refine wq_run (v := .bool false) z z (fun w hst => z) ?_
 refine wq_nil ?_
 intro w hst
 refine tn (wp_ret ?_)
 replace hst := hst.pull1.pull1
 replace hst := at_mvcc_Store_close (pv := Pt b199 0) (x := o0) hst z
 replace hst := objO_some hst
 obtain rfl := some_inj hm
 refine post_ret (vs := [I6 z260, .bool false]) results31 (rvs_cons (rv_tmp z) (rvs_cons (rv_tmp z) rvs_nil)) ?_
 exact ⟨z, hst.keep1⟩
}
}
}

theorem slices_Insert_mvcc_row_mvcc_row_raw_ref {w0 w : World} {I : HL} {R : SP} {a0 : (List (List Value))} {r0_0 : Value} {a1 : Int} {a2 : (List (List Value))} {r2_0 : Value} (hst : St w0 w I [ownS (tyRaw 2) r0_0 a0, ownS (tyRaw 2) r2_0 a2] R) {r : (List (List Value))} (hm : slices_Insert_mvcc_row_mvcc_row_raw a0 a1 a2 = some r) :
  Calls prog 42 #[r0_0, I6 a1, r2_0] w fun e w' => ∃ (q0_0 : Value), e = .returned (q0_0) ∧ St w0 w' I [ownS (tyRaw 2) q0_0 r] R := by {
 unfold slices_Insert_mvcc_row_mvcc_row_raw at hm
 obtain ⟨hg, hm⟩ := gd_some hm
 obtain rfl := some_inj hm
 obtain ⟨hi0, hi1, hrm⟩ := insOK_of hg
 obtain ⟨k, rfl⟩ := Int.eq_ofNat_of_zero_le hi0
 have hsm := room_sum hrm
 have hk : k ≤ a0.length := by omega
 have hs : ∀ w : World, (sizeOf 76).run prog w = .ok (tyRaw 2).sz w := sizeOf76
 have hs0 : 0 < (tyRaw 2).sz := Nat.le_of_ble_eq_true rfl
 have hov : ∀ (args : Array Value) (w : World), (callFunc 64 args).run prog w = (Extern.SlicesOverlaps.overlaps #[77, 77] #[4] args >>= fun v => (pure (.value v) : Sem Next)).run prog w := by intro args w; kernel_rfl
 obtain ⟨css, hr, hst⟩ := hst.own_open
 replace hst := hst.pull1
 obtain ⟨dss, hq, hst⟩ := hst.own_open
 replace hst := hst.pull1
 obtain ⟨n, hn⟩ : ∃ n, css.length = n := ⟨_, rfl⟩
 obtain ⟨m, hm'⟩ : ∃ m, dss.length = m := ⟨_, rfl⟩
 have hln : a0.length = n := hr.1.trans hn
 have hlm : a2.length = m := hq.1.trans hm'
 rw [hln] at hsm hk
 rw [hlm] at hsm
 have hsv : SliceV r0_0 n := by have := hst.row_form.2; rwa [hn] at this
 have hsq : SliceV r2_0 m := by have := hst.pull1.row_form.2; rwa [hm'] at this
 have hoc := hr.ones
 have hoq := hq.ones
 have hw1 := wrap_add (a := n) (b := m) (by omega)
 have hw2 := wrap_add (a := k) (b := m) (by omega)
 have hw3 := wrap_sub (a := n + m) (b := k) (by omega) (by omega)
 have hrb := room_of (b := 32) hrm rfl
 rw [hln, hlm] at hrb
 refine calls_start (args := [r0_0, I6 (k : Int), r2_0]) func42 z ntmps42 (Nat.le_of_ble_eq_true z) ?_
 refine wp_seq (wrl (wv ((.slice none 0 0)) z z z (wl_nil (tn (wp_seq (wrl (wv (r0_0) z z z (wv (.int .i64 (k : Int)) z z z (wv ((slcV (tyRaw 2).sz r0_0 k n)) z z (x_slice (lo := (k : Nat)) (hi := (n : Nat)) underlying77 hs z hsv (by omega) (by omega) (by omega) .i64 .i64 (.inl z) (.inr ⟨z, z⟩)) (wl_nil (tn (wp_seq (wrl (wv (r2_0) z z z (wv (.int .i64 (m : Int)) z z (x_len z underlying77 hsq) (wv (.int .i64 (m : Int)) z z z (wl_nil (tn (wp_seq (wp_seq (wrl (wv (.int .i64 (m : Int)) z z z (wv (.bool ((m : Int) == (0:Int))) z z z ?_)))))))))))))))))))))))
 refine wl_nil (tn ?_)
 refine bsplit ((m : Int) == (0:Int)) (fun hc111 => ?_) (fun hc111 => ?_)
 {
 refine wp_ift (cvb hc111) ?_
 refine wp_seq (wrl (wv (r0_0) z z z (wv (r0_0) z z z (wl_nil (tn (wp_ret (then_r ?_)))))))
 refine post_ret (vs := [r0_0]) results42 (rvs_cons (rv_tmp z) rvs_nil) ?_
 rw [ins_nil (by rw [hlm]; exact hc111)]
 exact ⟨_, z, (hst.own_close hr).keep1⟩
}
 {
 refine wp_iff (cvb hc111) ?_
 have hm0 : m ≠ 0 := fun h => by rw [h] at hc111; cases hc111
 have hq0 : dss ≠ [] := fun h => hm0 (by rw [← hm', h]; rfl)
 refine wp_skip (tn (wp_seq (wrl ?_)))
 refine wv (r0_0) z z z (wv (.int .i64 (n : Int)) z z (x_len z underlying77 hsv) (wv (.int .i64 (n : Int)) z z z (wl_nil (tn (wp_seq (wp_seq (wrl (wv (.int .i64 (k : Int)) z z z (wv (.int .i64 (n : Int)) z z z (wv (.bool ((k : Int) == (n : Int))) z z z (wl_nil (tn ?_))))))))))))
 refine bsplit ((k : Int) == (n : Int)) (fun hc112 => ?_) (fun hc112 => ?_)
 {
 refine wp_ift (cvb hc112) ?_
 refine wp_seq (wrl (wv (r0_0) z z z (wv (r2_0) z z z ?_)))
 replace hst := (hst.own_close hr).pull1.own_close hq
 replace hst := hst.pull1
 obtain ⟨v2, w2, hra, hst⟩ := run_append elemN_77 underlying77 hst hst.src1 (room_of hrm z) 77
 refine wl_run (v := v2) (w' := w2) z z (x_append z z hra) ?_
 refine wv (v2) z z z (wl_nil (tn (wp_ret (then_r ?_))))
 refine post_ret (vs := [v2]) results42 (rvs_cons (rv_tmp z) rvs_nil) ?_
 rw [ins_end (by rw [hln]; exact hc112)]
 exact ⟨_, z, hst.keep1⟩
}
 {
 refine wp_iff (cvb hc112) ?_
 have hkn : k ≠ n := fun h => by rw [h] at hc112; simp at hc112
 have hn0 : 0 < n := by omega
 have hc0 : css ≠ [] := fun h => by rw [h] at hn; simp at hn; omega
 refine wp_skip (tn (wp_seq (wp_seq (wrl ?_))))
 refine wv (.int .i64 (n : Int)) z z z (wv (.int .i64 (m : Int)) z z z (wv (.int .i64 ((n + m : Nat) : Int)) z z (ok_cast hw1 z) (wv (r0_0) z z z (wv (.int .i64 (sCap r0_0 : Int)) z z (x_cap z underlying77 hsv) (wv (.bool (decide (((n + m : Nat) : Int) > (sCap r0_0 : Int)))) z z z (wl_nil (tn ?_)))))))
 refine bsplit (decide (((n + m : Nat) : Int) > (sCap r0_0 : Int))) (fun hc113 => ?_) (fun hc113 => ?_)
 {
 refine wp_ift (cvb hc113) ?_
 refine wp_seq (wrl (wv (r0_0) z z z (wv (.int .i64 (k : Int)) z z z (wv ((slcV (tyRaw 2).sz r0_0 0 k)) z z (x_slice (lo := (0 : Nat)) (hi := (k : Nat)) underlying77 hs z hsv (by omega) (by omega) (by omega) .i64 .i64 (.inr ⟨z, z⟩) (.inl z)) (wv (.int .i64 (n : Int)) z z z (wv (.int .i64 (m : Int)) z z z (wv (.int .i64 ((n + m : Nat) : Int)) z z (ok_cast hw1 z) (wv (.int .i64 (k : Int)) z z z (wv (.int .i64 ((n + m - k : Nat) : Int)) z z (ok_cast hw3 z) ?_)))))))))
 obtain ⟨v2, w2, hra, hs2, zss, hzl, hst⟩ := run_app0 elemN_77 underlying3 hst k (n + m - k) (by omega) (by have := of_decide_eq_true hc113; omega) (by rw [show k + (n + m - k) = n + m by omega]; exact hrb) hs0 77
 rw [show k + (n + m - k) = n + m by omega] at hs2
 refine wl_run (v := v2) (w' := w2) z z (x_append z z hra) ?_
 refine wv (v2) z z z (wl_nil (tn (wp_seq (wrl (wv (v2) z z z (wv (.int .i64 (k : Int)) z z z (wv ((slcV (tyRaw 2).sz v2 k (n + m))) z z (x_slice (lo := (k : Nat)) (hi := ((n + m) : Nat)) underlying77 hs z hs2 (by omega) (by omega) (by omega) .i64 .i64 (.inl z) (.inr ⟨z, z⟩)) (wv (r2_0) z z z ?_))))))))
 obtain ⟨w114, hr115, hst⟩ := run_copyRows (P := prog) (t2 := 77) (ty := 3) underlying77 hs hst hst.pull2 k m (N := n + m) (by first | omega | (simp only [List.length_append, List.length_take, List.length_drop]; omega)) (by first | omega | (simp only [List.length_append, List.length_take, List.length_drop]; omega)) (by omega) (by first | omega | (simp only [List.length_append, List.length_take, List.length_drop]; omega)) (ones_take hoq _)
 refine wl_run (v := .int .i64 (m : Nat)) (w' := w114) z z (x_copy z z hr115) ?_
 refine wl_nil (tn (wp_seq ?_))
 refine wp_region_St hst 9 [0, 1, 2, 3, 4, 5, 6, 7, 8] [0, 0, 0, 6, 15, 0, 0, 96, 255] [] z (by kernel_rfl) (by kernel_rfl) Try.mixed (by kernel_rfl) ?_
 refine wsr (v2) 0 z z z (by kernel_rfl) (fun w hst => z) (wsr (.int .i64 (k : Int)) 1 z z z (by kernel_rfl) (fun w hst => z) (wsr (.int .i64 (m : Int)) 2 z z z (by kernel_rfl) (fun w hst => z) (wsr (.int .i64 ((k + m : Nat) : Int)) 3 z z z (by kernel_rfl) (fun w hst => ok_cast hw2 z) (wsr ((slcV (tyRaw 2).sz v2 (k + m) (n + m))) 4 z z z (by kernel_rfl) (fun w hst => x_slice (lo := ((k + m) : Nat)) (hi := ((n + m) : Nat)) underlying77 hs z hs2 (by omega) (by omega) (by omega) .i64 .i64 (.inl z) (.inr ⟨z, z⟩)) (wsr (r0_0) 5 z z z (by kernel_rfl) (fun w hst => z) (wsr (.int .i64 (k : Int)) 6 z z z (by kernel_rfl) (fun w hst => z) (wsr ((slcV (tyRaw 2).sz r0_0 k n)) 7 z z z (by kernel_rfl) (fun w hst => x_slice (lo := (k : Nat)) (hi := (n : Nat)) underlying77 hs z hsv (by omega) (by omega) (by omega) .i64 .i64 (.inl z) (.inr ⟨z, z⟩)) ?_)))))))
 refine ws_e1 8 (by kernel_rfl) ?_
 refine nxe [] (by kernel_rfl) z z ?_
 clear hst
 intro w hst
 obtain ⟨w116, hr117, hst⟩ := run_copyRows (P := prog) (t2 := 77) (ty := 3) underlying77 hs hst (hst.pull1.row_part (l := k) (h := n) hk (by omega)) (k + m) (n - k) (N := n + m) (by first | omega | (simp only [List.length_append, List.length_take, List.length_drop]; omega)) (by first | omega | (simp only [List.length_append, List.length_take, List.length_drop]; omega)) (by omega) (by first | omega | (simp only [List.length_append, List.length_take, List.length_drop]; omega)) (ones_take (ones_drop (ones_take hoc _) _) _)
 refine we_run (v := .int .i64 ((n - k) : Nat)) (w' := w116) z (x_copy z z hr117) ?_
 refine ws_next (pend' := []) hst (by kernel_rfl) pk_nil ?_
 refine ws_nil ?_
 intro w hst
 refine tn (wp_seq (wrl (wv (v2) z z z (wv (v2) z z z (wl_nil (tn (wp_ret (then_r ?_))))))))
 refine post_ret (vs := [v2]) results42 (rvs_cons (rv_tmp z) rvs_nil) ?_
 rw [grow_rows hn hm' hk hzl] at hst
 exact ⟨_, z, (hst.own_close ((hr.take k).app (hq.app (hr.drop k)))).keep1⟩
}
 {
 refine wp_iff (cvb hc113) ?_
 have hup : n + m ≤ sCap r0_0 := by have := of_decide_eq_false hc113; omega
 obtain ⟨ess, hel, hem, hst'⟩ := hst.row_up (n + m) (by omega) hup hc0
 rw [show n + m - css.length = m by omega] at hel
 have hs2 : SliceV (upV r0_0 (n + m)) (n + m) := by have := hst'.row_form.2; rwa [List.length_append, hn, hel] at this
 clear hst
 have hst := hst'
 clear hst'
 refine wp_skip (tn (wp_seq (wrl ?_)))
 refine wv (r0_0) z z z (wv (.int .i64 (n : Int)) z z z (wv (.int .i64 (m : Int)) z z z (wv (.int .i64 ((n + m : Nat) : Int)) z z (ok_cast hw1 z) (wv ((upV r0_0 (n + m))) z z (x_sliceUp underlying77 hs z hsv z hup hn0) (wv ((upV r0_0 (n + m))) z z z (wl_nil (tn (wp_seq (wp_seq (wrl (wv (r2_0) z z z (wv ((upV r0_0 (n + m))) z z z (wv (.int .i64 (k : Int)) z z z (wv (.int .i64 (m : Int)) z z z (wv (.int .i64 ((k + m : Nat) : Int)) z z (ok_cast hw2 z) (wv ((slcV (tyRaw 2).sz (upV r0_0 (n + m)) (k + m) (n + m))) z z (x_slice (lo := ((k + m) : Nat)) (hi := ((n + m) : Nat)) underlying77 hs z hs2 (by omega) (by omega) (by omega) .i64 .i64 (.inl z) (.inr ⟨z, z⟩)) ?_))))))))))))))))
 refine wv (.bool false) z z (x_ext z z z (hov _) (run_overlaps z underlying77 hs hst.pull1 (k + m) (N := n + m) (by rw [List.length_append]; omega) (by omega) hq0 hs0)) (wv (.bool true) z z z (wl_nil (tn ?_)))
 refine wp_ift z ?_
 refine wp_seq ?_
 refine wp_region_St hst 9 [0, 1, 2, 3, 4, 5, 6, 7, 8] [0, 0, 0, 6, 15, 0, 0, 96, 255] [] z (by kernel_rfl) (by kernel_rfl) Try.mixed (by kernel_rfl) ?_
 refine wsr ((upV r0_0 (n + m))) 0 z z z (by kernel_rfl) (fun w hst => z) (wsr (.int .i64 (k : Int)) 1 z z z (by kernel_rfl) (fun w hst => z) (wsr (.int .i64 (m : Int)) 2 z z z (by kernel_rfl) (fun w hst => z) (wsr (.int .i64 ((k + m : Nat) : Int)) 3 z z z (by kernel_rfl) (fun w hst => ok_cast hw2 z) (wsr ((slcV (tyRaw 2).sz (upV r0_0 (n + m)) (k + m) (n + m))) 4 z z z (by kernel_rfl) (fun w hst => x_slice (lo := ((k + m) : Nat)) (hi := ((n + m) : Nat)) underlying77 hs z hs2 (by omega) (by omega) (by omega) .i64 .i64 (.inl z) (.inr ⟨z, z⟩)) (wsr ((upV r0_0 (n + m))) 5 z z z (by kernel_rfl) (fun w hst => z) (wsr (.int .i64 (k : Int)) 6 z z z (by kernel_rfl) (fun w hst => z) (wsr ((slcV (tyRaw 2).sz (upV r0_0 (n + m)) k (n + m))) 7 z z z (by kernel_rfl) (fun w hst => x_slice (lo := (k : Nat)) (hi := ((n + m) : Nat)) underlying77 hs z hs2 (by omega) (by omega) (by omega) .i64 .i64 (.inl z) (.inr ⟨z, z⟩)) ?_)))))))
 refine ws_e1 8 (by kernel_rfl) ?_
 refine nxe [] (by kernel_rfl) z z ?_
 clear hst
 intro w hst
 obtain ⟨w118, hr119, hst⟩ := run_copyRows (P := prog) (t2 := 77) (ty := 3) underlying77 hs hst (hst.row_part (l := k) (h := n + m) (by omega) (by rw [List.length_append]; omega)) (k + m) (n - k) (N := n + m) (by first | omega | (simp only [List.length_append, List.length_take, List.length_drop]; omega)) (by first | omega | (simp only [List.length_append, List.length_take, List.length_drop]; omega)) (by omega) (by first | omega | (simp only [List.length_append, List.length_take, List.length_drop]; omega)) (by rw [stay_src hn hm' hk hel]; exact ones_drop hoc _)
 refine we_run (v := .int .i64 ((n - k) : Nat)) (w' := w118) z (x_copy z z hr119) ?_
 refine ws_next (pend' := []) hst (by kernel_rfl) pk_nil ?_
 refine ws_nil ?_
 intro w hst
 refine tn (wp_seq (wrl (wv ((upV r0_0 (n + m))) z z z (wv (.int .i64 (k : Int)) z z z (wv ((slcV (tyRaw 2).sz (upV r0_0 (n + m)) k (n + m))) z z (x_slice (lo := (k : Nat)) (hi := ((n + m) : Nat)) underlying77 hs z hs2 (by omega) (by omega) (by omega) .i64 .i64 (.inl z) (.inr ⟨z, z⟩)) (wv (r2_0) z z z ?_))))))
 obtain ⟨w120, hr121, hst⟩ := run_copyRows (P := prog) (t2 := 77) (ty := 3) underlying77 hs hst hst.pull1 k m (N := n + m) (by first | omega | (simp only [List.length_append, List.length_take, List.length_drop]; omega)) (by first | omega | (simp only [List.length_append, List.length_take, List.length_drop]; omega)) (by omega) (by first | omega | (simp only [List.length_append, List.length_take, List.length_drop]; omega)) (ones_take hoq _)
 refine wl_run (v := .int .i64 (m : Nat)) (w' := w120) z z (x_copy z z hr121) ?_
 refine wl_nil (tn (wp_seq (wrl (wv ((upV r0_0 (n + m))) z z z (wv ((upV r0_0 (n + m))) z z z (wl_nil (tn (wp_ret (then_r ?_)))))))))
 refine post_ret (vs := [(upV r0_0 (n + m))]) results42 (rvs_cons (rv_tmp z) rvs_nil) ?_
 rw [stay_rows hn hm' hk hel] at hst
 exact ⟨_, z, (hst.own_close ((hr.take k).app (hq.app (hr.drop k)))).keep1⟩
}
}
}
}

theorem slices_Insert_mvcc_row_mvcc_row_ref {w0 w : World} {I : HL} {R : SP} {a0 : (List mvcc_row)} {r0_0 : Value} {a1 : Int} {a2 : (List mvcc_row)} {r2_0 : Value} (hst : St w0 w I [ownN nest_mvcc_row r0_0 a0, ownN nest_mvcc_row r2_0 a2] R) {r : (List mvcc_row)} (hm : slices_Insert_mvcc_row_mvcc_row a0 a1 a2 = some r) :
  Calls prog 42 #[r0_0, I6 a1, r2_0] w fun e w' => ∃ (q0_0 : Value), e = .returned (q0_0) ∧ St w0 w' I [ownN nest_mvcc_row q0_0 r] R := by {
 unfold slices_Insert_mvcc_row_mvcc_row at hm
 obtain ⟨hg, hm⟩ := gd_some hm
 obtain rfl := some_inj hm
 obtain ⟨vs, us, h1, k1, hst⟩ := hst.nest_two
 refine Calls.mono (slices_Insert_mvcc_row_mvcc_row_raw_ref hst.to2 (r := ins (nest_mvcc_row.cs a0 vs) a1 (nest_mvcc_row.cs a2 us)) (by unfold slices_Insert_mvcc_row_mvcc_row_raw; rw [insOK_cs h1 k1, hg]; rfl)) ?_
 rintro _ w' ⟨q, rfl, hst'⟩
 exact ⟨_, z, (hst'.of1.nest_ins h1 k1).keep1⟩
}

theorem mvcc_ahead_ref {w0 w : World} {I : HL} {R : SP} {a0 : mvcc_Version} {r0_0 : Value} {a1 : Int} {a2 : Int} (f0_0 : Rd (tyInt .u8) R I r0_0 a0.Val) (hst : St w0 w I [] R) {r : (Bool)} (hm : mvcc_ahead a0 a1 a2 = some r) :
  Calls prog 44 #[.agg #[U6 a0.Epoch, U6 a0.Index, .bool a0.Del, r0_0], U6 a1, U6 a2] w fun e w' => e = .returned (.bool r) ∧ St w0 w' I [] R := by {
 unfold mvcc_ahead at hm
 refine calls_start (args := [.agg #[U6 a0.Epoch, U6 a0.Index, .bool a0.Del, r0_0], U6 a1, U6 a2]) func44 z ntmps44 (Nat.le_of_ble_eq_true z) ?_
 refine wp_seq (wrl ?_)
 obtain ⟨b172, w173, ew174, eb175, hst⟩ := hst.box [U6 a0.Epoch, U6 a0.Index, .bool a0.Del, r0_0] 52
 refine wl_run (v := Pt b172 0) (w' := w173) z z (x_al (by kernel_rfl) ew174 eb175) ?_
 refine wv (.bool false) z z z (wl_nil (tn (wp_seq (wrl (wv (Pt b172 0) z z (x_field z underlying52 z sizeOf24 z) (wv (.int .u64 a0.Epoch) z z (x_load z isAgg24 (hst.bc0 z)) (wv (.int .u64 a1) z z z (wv (.bool (decide (a0.Epoch < a1))) z z z (wv (.bool (decide (a0.Epoch < a1))) z z z ?_)))))))))
 refine bsplit (decide (a0.Epoch < a1)) (fun hc177 => ?_) (fun hc177 => ?_)
 {
 replace hm := bif_t hc177 hm
 refine wo hc177 z z z z z z (wo hc177 z z z z z z (wo hc177 z z z z z z (wo hc177 z z z z z z (wo hc177 z z z z z z (wl_off (wanted_undef z z z z) z (wl_off (wanted_undef z z z z) z (wl_off (wanted_undef z z z z) z (wl_off (wanted_undef z z z z) z (wo hc177 z z z z z z (wv (.bool true) z z (x_pick_t hc177 z z) (wv (.bool true) z z z (wl_nil (tn (wp_ret ?_))))))))))))))
 obtain rfl := some_inj hm
 refine post_ret (vs := [.bool true]) results44 (rvs_cons (rv_tmp z) rvs_nil) ?_
 exact ⟨z, hst.keep0⟩
}
 {
 replace hm := bif_f hc177 hm
 refine wv (Pt b172 0) ((wanted_eq z z z (cvb hc177)).trans z) z (x_field z underlying52 z sizeOf24 z) (wv (.int .u64 a0.Epoch) ((wanted_eq z z z (cvb hc177)).trans z) z (x_load z isAgg24 (hst.bc0 z)) (wv (.int .u64 a1) ((wanted_eq z z z (cvb hc177)).trans z) z z (wv (.bool (a0.Epoch == a1)) ((wanted_eq z z z (cvb hc177)).trans z) z z (wv (.bool (a0.Epoch == a1)) ((wanted_eq z z z (cvb hc177)).trans z) z z ?_))))
 refine bsplit (a0.Epoch == a1) (fun hc178 => ?_) (fun hc178 => ?_)
 {
 replace hm := bif_t hc178 hm
 refine wv (Pt b172 1) ((wanted_eq z z z (cvb hc178)).trans z) z (x_field z underlying52 z sizeOf24 z) (wv (.int .u64 a0.Index) ((wanted_eq z z z (cvb hc178)).trans z) z (x_load z isAgg24 (hst.bc0 z)) (wv (.int .u64 a2) ((wanted_eq z z z (cvb hc178)).trans z) z z (wv (.bool (decide (a0.Index < a2))) ((wanted_eq z z z (cvb hc178)).trans z) z z (wv (.bool (decide (a0.Index < a2))) ((wanted_eq z z z (cvb hc177)).trans z) z (x_pick_t hc178 z z) (wv (.bool (decide (a0.Index < a2))) z z (x_pick_f hc177 z z) (wv (.bool (decide (a0.Index < a2))) z z z (wl_nil (tn (wp_ret ?_)))))))))
 obtain rfl := some_inj hm
 refine post_ret (vs := [.bool (decide (a0.Index < a2))]) results44 (rvs_cons (rv_tmp z) rvs_nil) ?_
 exact ⟨z, hst.keep0⟩
}
 {
 replace hm := bif_f hc178 hm
 refine wo hc178 z z z z z z (wo hc178 z z z z z z (wo hc178 z z z z z z (wo hc178 z z z z z z (wv (.bool false) ((wanted_eq z z z (cvb hc177)).trans z) z (x_pick_f hc178 z z) (wv (.bool false) z z (x_pick_f hc177 z z) (wv (.bool false) z z z (wl_nil (tn (wp_ret ?_)))))))))
 obtain rfl := some_inj hm
 refine post_ret (vs := [.bool false]) results44 (rvs_cons (rv_tmp z) rvs_nil) ?_
 exact ⟨z, hst.keep0⟩
}
}
}

theorem slices_Insert_mvcc_Version_mvcc_Version_ref {w0 w : World} {I : HL} {R : SP} {a0 : (List mvcc_Version)} {r0_0 : Value} {a1 : Int} {a2 : (List mvcc_Version)} {r2_0 : Value} (hst : St w0 w I [ownS ty_mvcc_Version r0_0 a0, ownS ty_mvcc_Version r2_0 a2] R) {r : (List mvcc_Version)} (hm : slices_Insert_mvcc_Version_mvcc_Version a0 a1 a2 = some r) :
  Calls prog 45 #[r0_0, I6 a1, r2_0] w fun e w' => ∃ (q0_0 : Value), e = .returned (q0_0) ∧ St w0 w' I [ownS ty_mvcc_Version q0_0 r] R := by {
 unfold slices_Insert_mvcc_Version_mvcc_Version at hm
 obtain ⟨hg, hm⟩ := gd_some hm
 obtain rfl := some_inj hm
 obtain ⟨hi0, hi1, hrm⟩ := insOK_of hg
 obtain ⟨k, rfl⟩ := Int.eq_ofNat_of_zero_le hi0
 have hsm := room_sum hrm
 have hk : k ≤ a0.length := by omega
 have hs : ∀ w : World, (sizeOf 52).run prog w = .ok ty_mvcc_Version.sz w := sizeOf52
 have hs0 : 0 < ty_mvcc_Version.sz := Nat.le_of_ble_eq_true rfl
 have hov : ∀ (args : Array Value) (w : World), (callFunc 66 args).run prog w = (Extern.SlicesOverlaps.overlaps #[53, 53] #[4] args >>= fun v => (pure (.value v) : Sem Next)).run prog w := by intro args w; kernel_rfl
 obtain ⟨css, hr, hst⟩ := hst.own_open
 replace hst := hst.pull1
 obtain ⟨dss, hq, hst⟩ := hst.own_open
 replace hst := hst.pull1
 obtain ⟨n, hn⟩ : ∃ n, css.length = n := ⟨_, rfl⟩
 obtain ⟨m, hm'⟩ : ∃ m, dss.length = m := ⟨_, rfl⟩
 have hln : a0.length = n := hr.1.trans hn
 have hlm : a2.length = m := hq.1.trans hm'
 rw [hln] at hsm hk
 rw [hlm] at hsm
 have hsv : SliceV r0_0 n := by have := hst.row_form.2; rwa [hn] at this
 have hsq : SliceV r2_0 m := by have := hst.pull1.row_form.2; rwa [hm'] at this
 have hoc := hr.ones
 have hoq := hq.ones
 have hw1 := wrap_add (a := n) (b := m) (by omega)
 have hw2 := wrap_add (a := k) (b := m) (by omega)
 have hw3 := wrap_sub (a := n + m) (b := k) (by omega) (by omega)
 have hrb := room_of (b := 48) hrm rfl
 rw [hln, hlm] at hrb
 refine calls_start (args := [r0_0, I6 (k : Int), r2_0]) func45 z ntmps45 (Nat.le_of_ble_eq_true z) ?_
 refine wp_seq (wrl (wv ((.slice none 0 0)) z z z (wl_nil (tn (wp_seq (wrl (wv (r0_0) z z z (wv (.int .i64 (k : Int)) z z z (wv ((slcV ty_mvcc_Version.sz r0_0 k n)) z z (x_slice (lo := (k : Nat)) (hi := (n : Nat)) underlying53 hs z hsv (by omega) (by omega) (by omega) .i64 .i64 (.inl z) (.inr ⟨z, z⟩)) (wl_nil (tn (wp_seq (wrl (wv (r2_0) z z z (wv (.int .i64 (m : Int)) z z (x_len z underlying53 hsq) (wv (.int .i64 (m : Int)) z z z (wl_nil (tn (wp_seq (wp_seq (wrl (wv (.int .i64 (m : Int)) z z z (wv (.bool ((m : Int) == (0:Int))) z z z ?_)))))))))))))))))))))))
 refine wl_nil (tn ?_)
 refine bsplit ((m : Int) == (0:Int)) (fun hc284 => ?_) (fun hc284 => ?_)
 {
 refine wp_ift (cvb hc284) ?_
 refine wp_seq (wrl (wv (r0_0) z z z (wv (r0_0) z z z (wl_nil (tn (wp_ret (then_r ?_)))))))
 refine post_ret (vs := [r0_0]) results45 (rvs_cons (rv_tmp z) rvs_nil) ?_
 rw [ins_nil (by rw [hlm]; exact hc284)]
 exact ⟨_, z, (hst.own_close hr).keep1⟩
}
 {
 refine wp_iff (cvb hc284) ?_
 have hm0 : m ≠ 0 := fun h => by rw [h] at hc284; cases hc284
 have hq0 : dss ≠ [] := fun h => hm0 (by rw [← hm', h]; rfl)
 refine wp_skip (tn (wp_seq (wrl ?_)))
 refine wv (r0_0) z z z (wv (.int .i64 (n : Int)) z z (x_len z underlying53 hsv) (wv (.int .i64 (n : Int)) z z z (wl_nil (tn (wp_seq (wp_seq (wrl (wv (.int .i64 (k : Int)) z z z (wv (.int .i64 (n : Int)) z z z (wv (.bool ((k : Int) == (n : Int))) z z z (wl_nil (tn ?_))))))))))))
 refine bsplit ((k : Int) == (n : Int)) (fun hc285 => ?_) (fun hc285 => ?_)
 {
 refine wp_ift (cvb hc285) ?_
 refine wp_seq (wrl (wv (r0_0) z z z (wv (r2_0) z z z ?_)))
 replace hst := (hst.own_close hr).pull1.own_close hq
 replace hst := hst.pull1
 obtain ⟨v2, w2, hra, hst⟩ := run_append elem_53 underlying53 hst hst.src1 (room_of hrm z) 53
 refine wl_run (v := v2) (w' := w2) z z (x_append z z hra) ?_
 refine wv (v2) z z z (wl_nil (tn (wp_ret (then_r ?_))))
 refine post_ret (vs := [v2]) results45 (rvs_cons (rv_tmp z) rvs_nil) ?_
 rw [ins_end (by rw [hln]; exact hc285)]
 exact ⟨_, z, hst.keep1⟩
}
 {
 refine wp_iff (cvb hc285) ?_
 have hkn : k ≠ n := fun h => by rw [h] at hc285; simp at hc285
 have hn0 : 0 < n := by omega
 have hc0 : css ≠ [] := fun h => by rw [h] at hn; simp at hn; omega
 refine wp_skip (tn (wp_seq (wp_seq (wrl ?_))))
 refine wv (.int .i64 (n : Int)) z z z (wv (.int .i64 (m : Int)) z z z (wv (.int .i64 ((n + m : Nat) : Int)) z z (ok_cast hw1 z) (wv (r0_0) z z z (wv (.int .i64 (sCap r0_0 : Int)) z z (x_cap z underlying53 hsv) (wv (.bool (decide (((n + m : Nat) : Int) > (sCap r0_0 : Int)))) z z z (wl_nil (tn ?_)))))))
 refine bsplit (decide (((n + m : Nat) : Int) > (sCap r0_0 : Int))) (fun hc286 => ?_) (fun hc286 => ?_)
 {
 refine wp_ift (cvb hc286) ?_
 refine wp_seq (wrl (wv (r0_0) z z z (wv (.int .i64 (k : Int)) z z z (wv ((slcV ty_mvcc_Version.sz r0_0 0 k)) z z (x_slice (lo := (0 : Nat)) (hi := (k : Nat)) underlying53 hs z hsv (by omega) (by omega) (by omega) .i64 .i64 (.inr ⟨z, z⟩) (.inl z)) (wv (.int .i64 (n : Int)) z z z (wv (.int .i64 (m : Int)) z z z (wv (.int .i64 ((n + m : Nat) : Int)) z z (ok_cast hw1 z) (wv (.int .i64 (k : Int)) z z z (wv (.int .i64 ((n + m - k : Nat) : Int)) z z (ok_cast hw3 z) ?_)))))))))
 obtain ⟨v2, w2, hra, hs2, zss, hzl, hst⟩ := run_app0 elem_53 underlying3 hst k (n + m - k) (by omega) (by have := of_decide_eq_true hc286; omega) (by rw [show k + (n + m - k) = n + m by omega]; exact hrb) hs0 53
 rw [show k + (n + m - k) = n + m by omega] at hs2
 refine wl_run (v := v2) (w' := w2) z z (x_append z z hra) ?_
 refine wv (v2) z z z (wl_nil (tn (wp_seq (wrl (wv (v2) z z z (wv (.int .i64 (k : Int)) z z z (wv ((slcV ty_mvcc_Version.sz v2 k (n + m))) z z (x_slice (lo := (k : Nat)) (hi := ((n + m) : Nat)) underlying53 hs z hs2 (by omega) (by omega) (by omega) .i64 .i64 (.inl z) (.inr ⟨z, z⟩)) (wv (r2_0) z z z ?_))))))))
 obtain ⟨w287, hr288, hst⟩ := run_copyRows (P := prog) (t2 := 53) (ty := 3) underlying53 hs hst hst.pull2 k m (N := n + m) (by first | omega | (simp only [List.length_append, List.length_take, List.length_drop]; omega)) (by first | omega | (simp only [List.length_append, List.length_take, List.length_drop]; omega)) (by omega) (by first | omega | (simp only [List.length_append, List.length_take, List.length_drop]; omega)) (ones_take hoq _)
 refine wl_run (v := .int .i64 (m : Nat)) (w' := w287) z z (x_copy z z hr288) ?_
 refine wl_nil (tn (wp_seq ?_))
 refine wp_region_St hst 9 [0, 1, 2, 3, 4, 5, 6, 7, 8] [0, 0, 0, 6, 15, 0, 0, 96, 255] [] z (by kernel_rfl) (by kernel_rfl) Try.mixed (by kernel_rfl) ?_
 refine wsr (v2) 0 z z z (by kernel_rfl) (fun w hst => z) (wsr (.int .i64 (k : Int)) 1 z z z (by kernel_rfl) (fun w hst => z) (wsr (.int .i64 (m : Int)) 2 z z z (by kernel_rfl) (fun w hst => z) (wsr (.int .i64 ((k + m : Nat) : Int)) 3 z z z (by kernel_rfl) (fun w hst => ok_cast hw2 z) (wsr ((slcV ty_mvcc_Version.sz v2 (k + m) (n + m))) 4 z z z (by kernel_rfl) (fun w hst => x_slice (lo := ((k + m) : Nat)) (hi := ((n + m) : Nat)) underlying53 hs z hs2 (by omega) (by omega) (by omega) .i64 .i64 (.inl z) (.inr ⟨z, z⟩)) (wsr (r0_0) 5 z z z (by kernel_rfl) (fun w hst => z) (wsr (.int .i64 (k : Int)) 6 z z z (by kernel_rfl) (fun w hst => z) (wsr ((slcV ty_mvcc_Version.sz r0_0 k n)) 7 z z z (by kernel_rfl) (fun w hst => x_slice (lo := (k : Nat)) (hi := (n : Nat)) underlying53 hs z hsv (by omega) (by omega) (by omega) .i64 .i64 (.inl z) (.inr ⟨z, z⟩)) ?_)))))))
 refine ws_e1 8 (by kernel_rfl) ?_
 refine nxe [] (by kernel_rfl) z z ?_
 clear hst
 intro w hst
 obtain ⟨w289, hr290, hst⟩ := run_copyRows (P := prog) (t2 := 53) (ty := 3) underlying53 hs hst (hst.pull1.row_part (l := k) (h := n) hk (by omega)) (k + m) (n - k) (N := n + m) (by first | omega | (simp only [List.length_append, List.length_take, List.length_drop]; omega)) (by first | omega | (simp only [List.length_append, List.length_take, List.length_drop]; omega)) (by omega) (by first | omega | (simp only [List.length_append, List.length_take, List.length_drop]; omega)) (ones_take (ones_drop (ones_take hoc _) _) _)
 refine we_run (v := .int .i64 ((n - k) : Nat)) (w' := w289) z (x_copy z z hr290) ?_
 refine ws_next (pend' := []) hst (by kernel_rfl) pk_nil ?_
 refine ws_nil ?_
 intro w hst
 refine tn (wp_seq (wrl (wv (v2) z z z (wv (v2) z z z (wl_nil (tn (wp_ret (then_r ?_))))))))
 refine post_ret (vs := [v2]) results45 (rvs_cons (rv_tmp z) rvs_nil) ?_
 rw [grow_rows hn hm' hk hzl] at hst
 exact ⟨_, z, (hst.own_close ((hr.take k).app (hq.app (hr.drop k)))).keep1⟩
}
 {
 refine wp_iff (cvb hc286) ?_
 have hup : n + m ≤ sCap r0_0 := by have := of_decide_eq_false hc286; omega
 obtain ⟨ess, hel, hem, hst'⟩ := hst.row_up (n + m) (by omega) hup hc0
 rw [show n + m - css.length = m by omega] at hel
 have hs2 : SliceV (upV r0_0 (n + m)) (n + m) := by have := hst'.row_form.2; rwa [List.length_append, hn, hel] at this
 clear hst
 have hst := hst'
 clear hst'
 refine wp_skip (tn (wp_seq (wrl ?_)))
 refine wv (r0_0) z z z (wv (.int .i64 (n : Int)) z z z (wv (.int .i64 (m : Int)) z z z (wv (.int .i64 ((n + m : Nat) : Int)) z z (ok_cast hw1 z) (wv ((upV r0_0 (n + m))) z z (x_sliceUp underlying53 hs z hsv z hup hn0) (wv ((upV r0_0 (n + m))) z z z (wl_nil (tn (wp_seq (wp_seq (wrl (wv (r2_0) z z z (wv ((upV r0_0 (n + m))) z z z (wv (.int .i64 (k : Int)) z z z (wv (.int .i64 (m : Int)) z z z (wv (.int .i64 ((k + m : Nat) : Int)) z z (ok_cast hw2 z) (wv ((slcV ty_mvcc_Version.sz (upV r0_0 (n + m)) (k + m) (n + m))) z z (x_slice (lo := ((k + m) : Nat)) (hi := ((n + m) : Nat)) underlying53 hs z hs2 (by omega) (by omega) (by omega) .i64 .i64 (.inl z) (.inr ⟨z, z⟩)) ?_))))))))))))))))
 refine wv (.bool false) z z (x_ext z z z (hov _) (run_overlaps z underlying53 hs hst.pull1 (k + m) (N := n + m) (by rw [List.length_append]; omega) (by omega) hq0 hs0)) (wv (.bool true) z z z (wl_nil (tn ?_)))
 refine wp_ift z ?_
 refine wp_seq ?_
 refine wp_region_St hst 9 [0, 1, 2, 3, 4, 5, 6, 7, 8] [0, 0, 0, 6, 15, 0, 0, 96, 255] [] z (by kernel_rfl) (by kernel_rfl) Try.mixed (by kernel_rfl) ?_
 refine wsr ((upV r0_0 (n + m))) 0 z z z (by kernel_rfl) (fun w hst => z) (wsr (.int .i64 (k : Int)) 1 z z z (by kernel_rfl) (fun w hst => z) (wsr (.int .i64 (m : Int)) 2 z z z (by kernel_rfl) (fun w hst => z) (wsr (.int .i64 ((k + m : Nat) : Int)) 3 z z z (by kernel_rfl) (fun w hst => ok_cast hw2 z) (wsr ((slcV ty_mvcc_Version.sz (upV r0_0 (n + m)) (k + m) (n + m))) 4 z z z (by kernel_rfl) (fun w hst => x_slice (lo := ((k + m) : Nat)) (hi := ((n + m) : Nat)) underlying53 hs z hs2 (by omega) (by omega) (by omega) .i64 .i64 (.inl z) (.inr ⟨z, z⟩)) (wsr ((upV r0_0 (n + m))) 5 z z z (by kernel_rfl) (fun w hst => z) (wsr (.int .i64 (k : Int)) 6 z z z (by kernel_rfl) (fun w hst => z) (wsr ((slcV ty_mvcc_Version.sz (upV r0_0 (n + m)) k (n + m))) 7 z z z (by kernel_rfl) (fun w hst => x_slice (lo := (k : Nat)) (hi := ((n + m) : Nat)) underlying53 hs z hs2 (by omega) (by omega) (by omega) .i64 .i64 (.inl z) (.inr ⟨z, z⟩)) ?_)))))))
 refine ws_e1 8 (by kernel_rfl) ?_
 refine nxe [] (by kernel_rfl) z z ?_
 clear hst
 intro w hst
 obtain ⟨w291, hr292, hst⟩ := run_copyRows (P := prog) (t2 := 53) (ty := 3) underlying53 hs hst (hst.row_part (l := k) (h := n + m) (by omega) (by rw [List.length_append]; omega)) (k + m) (n - k) (N := n + m) (by first | omega | (simp only [List.length_append, List.length_take, List.length_drop]; omega)) (by first | omega | (simp only [List.length_append, List.length_take, List.length_drop]; omega)) (by omega) (by first | omega | (simp only [List.length_append, List.length_take, List.length_drop]; omega)) (by rw [stay_src hn hm' hk hel]; exact ones_drop hoc _)
 refine we_run (v := .int .i64 ((n - k) : Nat)) (w' := w291) z (x_copy z z hr292) ?_
 refine ws_next (pend' := []) hst (by kernel_rfl) pk_nil ?_
 refine ws_nil ?_
 intro w hst
 refine tn (wp_seq (wrl (wv ((upV r0_0 (n + m))) z z z (wv (.int .i64 (k : Int)) z z z (wv ((slcV ty_mvcc_Version.sz (upV r0_0 (n + m)) k (n + m))) z z (x_slice (lo := (k : Nat)) (hi := ((n + m) : Nat)) underlying53 hs z hs2 (by omega) (by omega) (by omega) .i64 .i64 (.inl z) (.inr ⟨z, z⟩)) (wv (r2_0) z z z ?_))))))
 obtain ⟨w293, hr294, hst⟩ := run_copyRows (P := prog) (t2 := 53) (ty := 3) underlying53 hs hst hst.pull1 k m (N := n + m) (by first | omega | (simp only [List.length_append, List.length_take, List.length_drop]; omega)) (by first | omega | (simp only [List.length_append, List.length_take, List.length_drop]; omega)) (by omega) (by first | omega | (simp only [List.length_append, List.length_take, List.length_drop]; omega)) (ones_take hoq _)
 refine wl_run (v := .int .i64 (m : Nat)) (w' := w293) z z (x_copy z z hr294) ?_
 refine wl_nil (tn (wp_seq (wrl (wv ((upV r0_0 (n + m))) z z z (wv ((upV r0_0 (n + m))) z z z (wl_nil (tn (wp_ret (then_r ?_)))))))))
 refine post_ret (vs := [(upV r0_0 (n + m))]) results45 (rvs_cons (rv_tmp z) rvs_nil) ?_
 rw [stay_rows hn hm' hk hel] at hst
 exact ⟨_, z, (hst.own_close ((hr.take k).app (hq.app (hr.drop k)))).keep1⟩
}
}
}
}

theorem mvcc_Store_Put_ref {w0 w : World} {I : HL} {R : SP} {a0 : (Option mvcc_Store)} {p0 : Value} {a1 : Nat} {a2 : mvcc_Version} {r2_0 : Value} (f2_0 : Rd (tyInt .u8) R I r2_0 a2.Val) (hst : St w0 w I [objO at_mvcc_Store p0 a0] R) {r : ((Option mvcc_Store))} (hm : mvcc_Store_Put a0 a1 a2 = some r) :
  Calls prog 22 #[p0, F6 a1, .agg #[U6 a2.Epoch, U6 a2.Index, .bool a2.Del, r2_0]] w fun e w' => ∃ (I' : HL), e = .returned (.tuple #[]) ∧ I.le I' ∧ St w0 w' I' [objO at_mvcc_Store p0 r] R := by {
 rcases a0 with _ | o0
 {
 obtain ⟨rfl, hst'⟩ := objO_none hst
 clear hst
 have hst := hst'
 clear hst'
 dsimp only [mvcc_Store_Put] at hm
 refine calls_start (args := [.pointer none, F6 a1, .agg #[U6 a2.Epoch, U6 a2.Index, .bool a2.Del, r2_0]]) func22 z ntmps22 (Nat.le_of_ble_eq_true z) ?_
 have hI0 := HL.le.refl I
 refine wp_seq (wrl ?_)
 obtain ⟨b304, w305, ew306, eb307, hst⟩ := hst.box [U6 a2.Epoch, U6 a2.Index, .bool a2.Del, r2_0] 52
 refine wl_run (v := Pt b304 0) (w' := w305) z z (x_al (by kernel_rfl) ew306 eb307) ?_
 refine wl_nil (tn (wp_seq (wp_seq (wrl (wv (.pointer none) z z z (wv (.bool true) z z (by kernel_rfl) (wl_nil (tn ?_))))))))
 refine wp_ift z ?_
 refine wp_ret (then_r ?_)
 replace hst := hst.objO_nil at_mvcc_Store
 obtain rfl := some_inj hm
 refine post_ret (vs := []) results22 rvs_nil ?_
 exact ⟨_, z, hI0, hst.keep1⟩
}
 {
 replace hst := objO_get hst
 dsimp only [mvcc_Store_Put] at hm
 refine calls_start (args := [p0, F6 a1, .agg #[U6 a2.Epoch, U6 a2.Index, .bool a2.Del, r2_0]]) func22 z ntmps22 (Nat.le_of_ble_eq_true z) ?_
 have hI0 := HL.le.refl I
 refine wp_seq (wrl ?_)
 obtain ⟨b309, w310, ew311, eb312, hst⟩ := hst.box [U6 a2.Epoch, U6 a2.Index, .bool a2.Del, r2_0] 52
 refine wl_run (v := Pt b309 0) (w' := w310) z z (x_al (by kernel_rfl) ew311 eb312) ?_
 refine wl_nil (tn (wp_seq (wp_seq (wrl (wv (p0) z z z ?_)))))
 replace hst := hst.pull1
 obtain ⟨b314, v315, rfl, hst'⟩ := at_mvcc_Store_open hst
 clear hst
 have hst := hst'
 clear hst'
 refine wv (.bool false) z z (by kernel_rfl) (wl_nil (tn ?_))
 refine wp_iff z ?_
 refine wp_skip (tn (wp_seq (wrl ?_)))
 refine wv (Pt b309 3) z z (x_field z underlying52 z sizeOf32 z) (wv (r2_0) z z (x_load z isAgg32 (hst.bc2 z)) ?_)
 obtain ⟨t317, ht318, hm⟩ := bind_some hm
 refine wc call41 [r2_0] z z z ?_
 refine (slices_Clone_byte_byte_ref (f2_0.mono (rd_weak _)) hst.to0 ht318).mono ?_
 rintro _ w319 ⟨v322, rfl, hst⟩
 refine ⟨_, z, ?_⟩
 replace hst := hst.of1
 refine wv (Pt b309 3) z z (x_field z underlying52 z sizeOf32 z) ?_
 replace hst := hst.pull3
 obtain ⟨w324, hr325, hst⟩ := hst.boxStore1 (P := prog) (t := 32) (cs' := [U6 a2.Epoch, U6 a2.Index, .bool a2.Del, v322]) 3 v322 (one_of_sliceV hst.sv1) sizeOf32 z z
 refine wl_unit z z (x_unit hr325) ?_
 refine wl_nil (tn ?_)
 obtain ⟨y335, hm, hx336⟩ := bind_some hm
 refine wp_cut (fun a w => ∃ (z332 : (List Int)) (v331 : Value) (σ333 : Nat → Value), (mvcc_Store_Put_j0 a1 o0 a2) z332 = some r ∧ a = Fr 93 (upd (upd (upd σ333 0 (Pt b314 0)) 1 (.float .f64 a1)) 5 (Pt b309 0)) ∧ St w0 w I [at_mvcc_Store (Pt b314 0) o0, cells b309 [U6 a2.Epoch, U6 a2.Index, .bool a2.Del, v331], ownS (tyInt .u8) v331 z332] R) ?_ ?_
 {
 refine wp_seq (wrl (wv (Pt b309 2) z z (x_field z underlying52 z sizeOf4 z) (wv (.bool a2.Del) z z (x_load z isAgg4 (hst.bc0 z)) (wl_nil (tn ?_)))))
 refine bsplit a2.Del (fun hc326 => ?_) (fun hc326 => ?_)
 {
 replace hm := bif_t hc326 hm
 refine wp_ift (cvb hc326) ?_
 refine wrl (wv (Pt b309 3) z z (x_field z underlying52 z sizeOf32 z) ?_)
 obtain ⟨w328, hr329, hst⟩ := hst.by_ [U6 a2.Epoch, U6 a2.Index, .bool a2.Del, Zs] 3 ((.slice none 0 0)) sizeOf32 z (oC z oN) (by kernel_rfl)
 refine wl_unit z z (x_unit hr329) ?_
 refine wl_nil (tn ?_)
 replace hst := hst.own_nil (tyInt .u8)
 replace hst := hst.pull4.pull4
 replace hst := at_mvcc_Store_close (pv := Pt b314 0) (x := o0) hst z
 replace hst := hst.pull1.pull2.pull2.keep3
 obtain rfl := some_inj hm
 exact ⟨([]), Zs, _, hx336, (fu 0 (Pt b314 0) z (fu 1 (.float .f64 a1) z (fu 5 (Pt b309 0) z z))), hst⟩
}
 {
 replace hm := bif_f hc326 hm
 refine wp_iff (cvb hc326) ?_
 refine wp_skip (tn ?_)
 replace hst := hst.pull3.pull3
 replace hst := at_mvcc_Store_close (pv := Pt b314 0) (x := o0) hst z
 replace hst := hst.pull2.pull2.pull2.keep3
 obtain rfl := some_inj hm
 exact ⟨t317, v322, _, hx336, (fu 0 (Pt b314 0) z (fu 1 (.float .f64 a1) z (fu 5 (Pt b309 0) z z))), hst⟩
}
}
 {
 clear hst
 rintro _ w337 ⟨z332, v331, σ333, hm, rfl, hst⟩
 dsimp only [mvcc_Store_Put_j0] at hm
 refine wp_seq (wrl (wv (Pt b314 0) z z z (wv (.float .f64 a1) z z z ?_)))
 obtain ⟨t338, ht339, hm⟩ := bind_some hm
 refine wc call32 [F6 a1] z z z ?_
 refine (number_Rank_ref hst.to0 ht339).mono ?_
 rintro _ w340 ⟨rfl, hst⟩
 refine ⟨_, z, ?_⟩
 replace hst := hst.of0
 replace hst := objO_some hst
 obtain ⟨t343, ht344, hm⟩ := bind_some hm
 refine wc call31 [Pt b314 0, U6 t338] z z z ?_
 refine (mvcc_Store_find_ref hst.to1 ht344).mono ?_
 rintro _ w345 ⟨rfl, hst⟩
 refine ⟨_, z, ?_⟩
 replace hst := hst.of1
 replace hst := objO_get hst
 refine wv (.tuple #[I6 t343.1, .bool t343.2]) z z z (wv (.int .i64 t343.1) z z z (wv (.bool t343.2) z z z (wv (.int .i64 t343.1) z z z (wv (.bool t343.2) z z z (wl_nil (tn ?_))))))
 obtain ⟨y377, hm, hx378⟩ := bind_some hm
 refine wp_cut (fun a w => ∃ (z374 : mvcc_Store) (σ375 : Nat → Value), (mvcc_Store_Put_j1 t343 a2 z332) z374 = some r ∧ a = Fr 93 (upd (upd (upd σ375 0 (Pt b314 0)) 5 (Pt b309 0)) 6 (.int .i64 t343.1)) ∧ St w0 w I [at_mvcc_Store (Pt b314 0) z374, cells b309 [U6 a2.Epoch, U6 a2.Index, .bool a2.Del, v331], ownS (tyInt .u8) v331 z332] R) ?_ ?_
 {
 refine wp_seq (wrl (wv (.bool t343.2) z z z (wv (.bool (!t343.2)) z z z (wl_nil (tn ?_)))))
 refine bsplit (!t343.2) (fun hc348 => ?_) (fun hc348 => ?_)
 {
 replace hm := bif_t hc348 hm
 refine wp_ift (cvb hc348) ?_
 obtain ⟨b349, v350, e352, hst'⟩ := at_mvcc_Store_open hst
 clear hst
 have e352 := ptr_inj e352
 subst e352
 have hst := hst'
 clear hst'
 refine wp_region_St hst 14 [0, 1, 2, 3, 4, 5, 6, 7, 8, 9, 10, 11, 12, 13] [0, 0, 2, 6, 14, 0, 0, 64, 192, 448, 1022, 2047, 4095, 8191] [] z (by kernel_rfl) (by kernel_rfl) Try.mixed (by kernel_rfl) ?_
 refine wsr (Pt b314 0) 0 z z z (by kernel_rfl) (fun w hst => z) (wsr (Pt b314 0) 1 z z z (by kernel_rfl) (fun w hst => z) (wsr (Pt b314 0) 2 z z z (by kernel_rfl) (fun w hst => z) (wsr (Pt b314 0) 3 z z z (by kernel_rfl) (fun w hst => x_field z underlying79 z sizeOf77 z) (wsr (v350) 4 z z z (by kernel_rfl) (fun w hst => x_load z isAgg77 (hst.bc0 z)) (wsr (.int .i64 t343.1) 5 z z z (by kernel_rfl) (fun w hst => z) (wsr (.float .f64 a1) 6 z z z (by kernel_rfl) (fun w hst => z) ?_))))))
 refine ws_e1 7 (by kernel_rfl) ?_
 refine nxe [8, 9, 10, 11, 12, 13] (by kernel_rfl) z z ?_
 clear hst
 intro w hst
 obtain ⟨t353, ht354, hm⟩ := bind_some hm
 refine wec call32 [F6 a1] z z ?_
 refine (number_Rank_ref hst.to0 ht354).mono ?_
 rintro _ w355 ⟨rfl, hst⟩
 refine ⟨_, z, ?_⟩
 replace hst := hst.of0
 refine ws_next (pend' := [(5, I6 t343.1), (4, v350), (3, Pt b314 0), (2, Pt b314 0), (1, Pt b314 0), (0, Pt b314 0)]) hst (by kernel_rfl) (pkr z z (fun w hst => z) (pkr z z (fun w hst => x_load z isAgg77 (hst.bc0 z)) (pkr z z (fun w hst => x_field z underlying79 z sizeOf77 z) (pkr z z (fun w hst => z) (pkr z z (fun w hst => z) (pkr z z (fun w hst => z) pk_nil)))))) ?_
 refine wsr (.agg #[U6 t353, Zs]) 8 z z z (by kernel_rfl) (fun w hst => by kernel_rfl) ?_
 refine ws_e1 9 (by kernel_rfl) ?_
 refine nxe [10, 11, 12, 13] (by kernel_rfl) z z ?_
 clear hst
 intro w hst
 replace hst := hst.own_nil ty_mvcc_Version
 obtain ⟨b360, w361, ew362, eb363, hst⟩ := hst.nest_one (N := nest_mvcc_row) (x := ({ rank := t353, l := [] } : mvcc_row)) 76
 refine we_run (v := (.slice (some ⟨b360, 0, none⟩) 1 1)) (w' := w361) z (x_als (by kernel_rfl) ew362 eb363) ?_
 refine ws_next (pend' := [(5, I6 t343.1), (4, v350), (3, Pt b314 0), (2, Pt b314 0), (1, Pt b314 0), (0, Pt b314 0)]) hst (by kernel_rfl) (pkr z z (fun w hst => z) (pkr z z (fun w hst => x_load z isAgg77 (hst.bc1 z)) (pkr z z (fun w hst => x_field z underlying79 z sizeOf77 z) (pkr z z (fun w hst => z) (pkr z z (fun w hst => z) (pkr z z (fun w hst => z) pk_nil)))))) ?_
 refine ws_e1 10 (by kernel_rfl) ?_
 refine nxe [11, 12, 13] (by kernel_rfl) z z ?_
 clear hst
 intro w hst
 replace hst := hst.pull2
 obtain ⟨t365, ht366, hm⟩ := bind_some hm
 refine wec call42 [v350, I6 t343.1, (.slice (some ⟨b360, 0, none⟩) 1 1)] z z ?_
 refine (slices_Insert_mvcc_row_mvcc_row_ref hst.to2 ht366).mono ?_
 rintro _ w367 ⟨v370, rfl, hst⟩
 refine ⟨_, z, ?_⟩
 replace hst := hst.of1
 refine ws_next (pend' := [(0, Pt b314 0)]) hst (by kernel_rfl) (pkr z z (fun w hst => z) pk_nil) ?_
 refine wsr (Pt b314 0) 11 z z z (by kernel_rfl) (fun w hst => z) (wsr (Pt b314 0) 12 z z z (by kernel_rfl) (fun w hst => x_field z underlying79 z sizeOf77 z) ?_)
 refine ws_e1 13 (by kernel_rfl) ?_
 refine nxe [] (by kernel_rfl) z z ?_
 clear hst
 intro w hst
 replace hst := hst.pull1
 obtain ⟨w372, hr373, hst⟩ := hst.boxStore1 (P := prog) (t := 77) (cs' := [v370]) 0 v370 (one_of_sliceV (hst.nestsv 1 z)) sizeOf77 z z
 refine we_unit z (x_unit hr373) ?_
 refine ws_next (pend' := []) hst (by kernel_rfl) pk_nil ?_
 refine ws_nil ?_
 intro w hst
 refine tn ?_
 replace hst := hst.pull1.pull1
 replace hst := at_mvcc_Store_close (pv := Pt b314 0) (x := ({ rows := t365 } : mvcc_Store)) hst z
 replace hst := hst.pull2.pull2.pull2.keep3
 obtain rfl := some_inj hm
 exact ⟨({ rows := t365 } : mvcc_Store), _, hx378, (fu 0 (Pt b314 0) z (fu 5 (Pt b309 0) z (fu 6 (.int .i64 t343.1) z z))), hst⟩
}
 {
 replace hm := bif_f hc348 hm
 refine wp_iff (cvb hc348) ?_
 refine wp_skip (tn ?_)
 replace hst := hst.pull2.pull2.pull2.keep3
 obtain rfl := some_inj hm
 exact ⟨o0, _, hx378, (fu 0 (Pt b314 0) z (fu 5 (Pt b309 0) z (fu 6 (.int .i64 t343.1) z z))), hst⟩
}
}
 {
 clear hst
 rintro _ w379 ⟨z374, σ375, hm, rfl, hst⟩
 dsimp only [mvcc_Store_Put_j1] at hm
 refine wp_seq (wrl (wv (Pt b314 0) z z z ?_))
 obtain ⟨b380, v381, e383, hst'⟩ := at_mvcc_Store_open hst
 clear hst
 have e383 := ptr_inj e383
 subst e383
 have hst := hst'
 clear hst'
 refine wv (Pt b314 0) z z z (wv (Pt b314 0) z z (x_field z underlying79 z sizeOf77 z) (wv (v381) z z (x_load z isAgg77 (hst.bc0 z)) (wv (.int .i64 t343.1) z z z ?_)))
 obtain ⟨x384, hx385, hm⟩ := bind_some hm
 obtain ⟨h386, h387, hi388⟩ := geto_some hx385
 refine wv (.pointer (some (eAddr v381 (t343.1.toNat * 2 + 0)))) z z (x_index z z underlying77 sizeOf76 (hst.nestsv 1 z) h386 h387) (wv (.pointer (some (eAddr v381 (t343.1.toNat * 2 + 1)))) z z (x_field_e z underlying76 z sizeOf53 z) ?_)
 replace hst := hst.pull1
 obtain ⟨v389, hst⟩ := hst.nest_focus hi388
 refine wv (v389) z z (x_load z isAgg53 ((hst.holeall (N := nest_mvcc_row) (i := t343.1.toNat) 1 z hi388) 1 _ z)) ?_
 obtain ⟨b392, w393, ew394, eb395, hst⟩ := hst.box [Zs] 53
 refine wl_run (v := Pt b392 0) (w' := w393) z z (x_al (by kernel_rfl) ew394 eb395) ?_
 obtain ⟨w398, hr399, hst⟩ := hst.boxStore1 (P := prog) (t := 53) (cs' := [v389]) 0 v389 (one_of_sliceV hst.sv1) sizeOf53 z z
 refine wl_unit z z (x_unit hr399) ?_
 refine wl_nil (tn (wp_seq (wrl (wv (v389) z z (x_load z isAgg53 (hst.bc0 z)) (wv (.int .i64 ((x384.l).length : Int)) z z (x_len z underlying53 hst.sv1) (wv (.func (.func 43) #[] #[Pt b392 0, Pt b309 0]) z z (by kernel_rfl) ?_))))))
 obtain ⟨y489, hq490, hm⟩ := bind_some hm
 refine wl_call z z (x_callv call38 (caps := []) z (vs := [I6 ((x384.l).length : Int), .func (.func 43) #[] #[Pt b392 0, Pt b309 0]]) z) ?_
 refine Calls.mono (show Calls prog 38 #[I6 ((x384.l).length : Int), .func (.func 43) #[] #[Pt b392 0, Pt b309 0]] _ (fun e w' => ∃ (z487 : Int), z487 = y489 ∧ e = .returned (.int .i64 z487) ∧ St w0 w' I [cells b314 [v381], ownS ty_mvcc_Version v389 x384.l, holeN nest_mvcc_row v381 z374.rows t343.1.toNat v389, cells b309 [U6 a2.Epoch, U6 a2.Index, .bool a2.Del, v331], ownS (tyInt .u8) v331 z332, cells b392 [v389]] R) from ?_) ?_
 {
 clear hm; have hm := hq490
 refine calls_start (args := [I6 ((x384.l).length : Int), .func (.func 43) #[] #[Pt b392 0, Pt b309 0]]) func38 z ntmps38 (Nat.le_of_ble_eq_true z) ?_
 refine wp_seq (wrl (wv (.int .i64 (0:Int)) z z z (wl_nil (tn (wp_seq (wrl (wv (.int .i64 ((x384.l).length : Int)) z z z (wv (.int .i64 (0:Int)) z z z (wv (.int .i64 ((x384.l).length : Int)) z z z (wl_nil (tn (wp_seq (wp_block ?_)))))))))))))
 obtain ⟨n455, hm⟩ := loopO_some hm
 refine wp_loop_n (fun n a w => ∃ (z452 : Int) (z453 : Int) (σ454 : Nat → Value), loopN (mvcc_Store_Put_l2 x384 a2) n (z452, z453) = some y489 ∧ a = Fr 26 (upd (upd (upd σ454 1 (.func (.func 43) #[] #[Pt b392 0, Pt b309 0])) 5 (.int .i64 z452)) 6 (.int .i64 z453)) ∧ St w0 w I [cells b392 [v389], ownS ty_mvcc_Version v389 x384.l, holeN nest_mvcc_row v381 z374.rows t343.1.toNat v389, cells b314 [v381], cells b309 [U6 a2.Epoch, U6 a2.Index, .bool a2.Del, v331], ownS (tyInt .u8) v331 z332] R) n455 ⟨(0:Int), ((x384.l).length : Int), _, hm, (fu 1 (.func (.func 43) #[] #[Pt b392 0, Pt b309 0]) z (fu 5 (.int .i64 (0:Int)) z (fu 6 (.int .i64 ((x384.l).length : Int)) z z))), hst⟩ ?_
 rintro n461 _ w456 ⟨z452, z453, σ454, hm, rfl, hst⟩
 obtain ⟨n458, y459, rfl, hm, hx460⟩ := loopN_some hm
 dsimp only [mvcc_Store_Put_l2] at hm
 refine wp_seq (wp_seq (wrl (wv (.int .i64 z452) z z z (wv (.int .i64 z453) z z z (wv (.bool (decide (z452 < z453))) z z z (wl_nil (tn ?_)))))))
 refine bsplit (decide (z452 < z453)) (fun hc462 => ?_) (fun hc462 => ?_)
 {
 replace hm := bif_t hc462 hm
 refine wp_ift (cvb hc462) ?_
 refine wp_skip (tn (wp_block (wp_seq (wrl ?_))))
 refine wv (.int .i64 z452) z z z (wv (.int .i64 z453) z z z (wv (.int .i64 (i64.wrap (z452 + z453))) z z z (wv (.int .u64 (u64.wrap (i64.wrap (z452 + z453)))) z z (by kernel_rfl) (wv (.int .u64 (iShr .u64 (u64.wrap (i64.wrap (z452 + z453))) (1:Int))) z z (x_shr (by decide) z z) (wv (.int .i64 (i64.wrap (iShr .u64 (u64.wrap (i64.wrap (z452 + z453))) (1:Int)))) z z (by kernel_rfl) (wv (.int .i64 (i64.wrap (iShr .u64 (u64.wrap (i64.wrap (z452 + z453))) (1:Int)))) z z z (wl_nil (tn (wp_seq (wrl (wv (.func (.func 43) #[] #[Pt b392 0, Pt b309 0]) z z z (wv (.int .i64 (i64.wrap (iShr .u64 (u64.wrap (i64.wrap (z452 + z453))) (1:Int)))) z z z ?_))))))))))))
 obtain ⟨y483, hq484, hm⟩ := bind_some hm
 refine wl_call z z (x_callv call43 (caps := [Pt b392 0, Pt b309 0]) z (vs := [I6 (i64.wrap (iShr .u64 (u64.wrap (i64.wrap (z452 + z453))) (1:Int)))]) z) ?_
 refine Calls.mono (show Calls prog 43 #[I6 (i64.wrap (iShr .u64 (u64.wrap (i64.wrap (z452 + z453))) (1:Int))), Pt b392 0, Pt b309 0] _ (fun e w' => ∃ (z481 : Bool), z481 = y483 ∧ e = .returned (.bool z481) ∧ St w0 w' I [cells b314 [v381], ownS ty_mvcc_Version v389 x384.l, holeN nest_mvcc_row v381 z374.rows t343.1.toNat v389, cells b309 [U6 a2.Epoch, U6 a2.Index, .bool a2.Del, v331], ownS (tyInt .u8) v331 z332, cells b392 [v389]] R) from ?_) ?_
 {
 clear hm; have hm := hq484
 refine calls_start (args := [I6 (i64.wrap (iShr .u64 (u64.wrap (i64.wrap (z452 + z453))) (1:Int))), Pt b392 0, Pt b309 0]) func43 z ntmps43 (Nat.le_of_ble_eq_true z) ?_
 refine wp_seq (wrl (wv (.bool false) z z z (wl_nil (tn (wp_seq ?_)))))
 replace hst := hst.pull1
 obtain ⟨css463, hq464, hst⟩ := hst.own_open
 refine wp_region_St hst 11 [0, 1, 2, 3, 4, 5, 6, 7, 8, 9, 10] [0, 0, 3, 7, 0, 16, 0, 64, 255, 511, 1023] [] z (by kernel_rfl) (by kernel_rfl) Try.mixed (by kernel_rfl) ?_
 refine wsr (v389) 0 z z z (by kernel_rfl) (fun w hst => x_load z isAgg53 (hst.bc1 z)) (wsr (.int .i64 (i64.wrap (iShr .u64 (u64.wrap (i64.wrap (z452 + z453))) (1:Int)))) 1 z z z (by kernel_rfl) (fun w hst => z) ?_)
 obtain ⟨x465, hx466, hm⟩ := bind_some hm
 obtain ⟨h467, h468, hi469⟩ := geto_some hx466
 refine wsr (.pointer (some (eAddr v389 ((i64.wrap (iShr .u64 (u64.wrap (i64.wrap (z452 + z453))) (1:Int))).toNat * 4 + 0)))) 2 z z z (by kernel_rfl) (fun w hst => x_index z z underlying53 sizeOf52 (hst.rsv 0 z hq464) h467 h468) ?_
 obtain ⟨cs470, hc472, hr471⟩ := Reps.get hq464 hi469
 obtain ⟨v473, rfl, f474, -⟩ := hr471
 refine wsr (.agg #[U6 x465.Epoch, U6 x465.Index, .bool x465.Del, v473]) 3 z z z (by kernel_rfl) (fun w hst => x_loadN (cs := [U6 x465.Epoch, U6 x465.Index, .bool x465.Del, v473]) z isAgg52 sizeOf52 (eCells (o := 0) (hst.rcell 0 z hc472) z)) (wsr (Pt b309 0) 4 z z z (by kernel_rfl) (fun w hst => x_field z underlying52 z sizeOf24 z) (wsr (.int .u64 a2.Epoch) 5 z z z (by kernel_rfl) (fun w hst => x_load z isAgg24 (hst.bc4 z)) (wsr (Pt b309 1) 6 z z z (by kernel_rfl) (fun w hst => x_field z underlying52 z sizeOf24 z) (wsr (.int .u64 a2.Index) 7 z z z (by kernel_rfl) (fun w hst => x_load z isAgg24 (hst.bc4 z)) ?_))))
 refine ws_e1 8 (by kernel_rfl) ?_
 refine nxe [9, 10] (by kernel_rfl) z z ?_
 clear hst
 intro w hst
 obtain ⟨t476, ht477, hm⟩ := bind_some hm
 refine wec call44 [.agg #[U6 x465.Epoch, U6 x465.Index, .bool x465.Del, v473], U6 a2.Epoch, U6 a2.Index] z z ?_
 refine (mvcc_ahead_ref (f474.mono ro_rd) hst.to0 ht477).mono ?_
 rintro _ w478 ⟨rfl, hst⟩
 refine ⟨_, z, ?_⟩
 replace hst := hst.of0
 refine ws_next (pend' := []) hst (by kernel_rfl) pk_nil ?_
 refine wsr (.bool (!t476)) 9 z z z (by kernel_rfl) (fun w hst => z) (wsr (.bool (!t476)) 10 z z z (by kernel_rfl) (fun w hst => z) ?_)
 refine ws_nil ?_
 intro w hst
 replace hst := hst.own_close hq464
 refine tn (wp_ret ?_)
 refine post_ret (vs := [.bool (!t476)]) results43 (rvs_cons (rv_tmp z) rvs_nil) ?_
 replace hst := hst.pull1.pull5.pull5.pull4.pull4.pull5.keep6
 obtain rfl := some_inj hm
 exact ⟨(!t476), z, z, hst⟩
}
 clear hst
 rintro _ w485 ⟨z481, rfl, rfl, hst⟩
 refine ⟨_, z, ?_⟩
 try dsimp only at hm
 refine wv (.bool (!z481)) z z z (wl_nil (tn ?_))
 refine bsplit (!z481) (fun hc486 => ?_) (fun hc486 => ?_)
 {
 replace hm := bif_t hc486 hm
 refine wp_ift (cvb hc486) ?_
 refine wrl (wv (.int .i64 (i64.wrap (iShr .u64 (u64.wrap (i64.wrap (z452 + z453))) (1:Int)))) z z z (wv (.int .i64 (i64.wrap ((i64.wrap (iShr .u64 (u64.wrap (i64.wrap (z452 + z453))) (1:Int))) + (1:Int)))) z z z (wv (.int .i64 (i64.wrap ((i64.wrap (iShr .u64 (u64.wrap (i64.wrap (z452 + z453))) (1:Int))) + (1:Int)))) z z z (wl_nil (blk_n (tn ?_))))))
 replace hst := hst.pull4.pull4.pull2.pull4.pull4.pull5.keep6
 obtain rfl := some_inj hm
 exact ⟨_, Nat.lt_succ_self _, (i64.wrap ((i64.wrap (iShr .u64 (u64.wrap (i64.wrap (z452 + z453))) (1:Int))) + (1:Int))), z453, _, hx460, (fu 1 (.func (.func 43) #[] #[Pt b392 0, Pt b309 0]) z (fu 5 (.int .i64 (i64.wrap ((i64.wrap (iShr .u64 (u64.wrap (i64.wrap (z452 + z453))) (1:Int))) + (1:Int)))) z (fu 6 (.int .i64 z453) z z))), hst⟩
}
 {
 replace hm := bif_f hc486 hm
 refine wp_iff (cvb hc486) ?_
 refine wrl (wv (.int .i64 (i64.wrap (iShr .u64 (u64.wrap (i64.wrap (z452 + z453))) (1:Int)))) z z z (wv (.int .i64 (i64.wrap (iShr .u64 (u64.wrap (i64.wrap (z452 + z453))) (1:Int)))) z z z (wl_nil (blk_n (tn ?_)))))
 replace hst := hst.pull4.pull4.pull2.pull4.pull4.pull5.keep6
 obtain rfl := some_inj hm
 exact ⟨_, Nat.lt_succ_self _, z452, (i64.wrap (iShr .u64 (u64.wrap (i64.wrap (z452 + z453))) (1:Int))), _, hx460, (fu 1 (.func (.func 43) #[] #[Pt b392 0, Pt b309 0]) z (fu 5 (.int .i64 z452) z (fu 6 (.int .i64 (i64.wrap (iShr .u64 (u64.wrap (i64.wrap (z452 + z453))) (1:Int)))) z z))), hst⟩
}
}
 {
 replace hm := bif_f hc462 hm
 refine wp_iff (cvb hc462) ?_
 refine wp_exit (then_x (then_x ?_))
 replace hm := inr_up hm hx460
 refine blk_x (tn (wp_seq (wrl ?_)))
 refine wv (.int .i64 z452) z z z (wv (.int .i64 z452) z z z (wl_nil (tn (wp_ret ?_))))
 refine post_ret (vs := [I6 z452]) results38 (rvs_cons (rv_tmp z) rvs_nil) ?_
 replace hst := hst.pull5.pull5.pull4.pull4.pull5.keep6
 obtain rfl := some_inj hm
 exact ⟨z452, z, z, hst⟩
}
}
 clear hst
 rintro _ w491 ⟨z487, rfl, rfl, hst⟩
 refine ⟨_, z, ?_⟩
 try dsimp only at hm
 refine wv (.int .i64 z487) z z z (wl_nil (tn ?_))
 obtain ⟨y518, hm, hx519⟩ := joinO_some hm
 refine wp_cut (fun a w => ∃ (I515 : HL) (σ516 : Nat → Value), (mvcc_Store_Put_j3 x384 z487 a2 z332 z374 t343) () = some r ∧ a = Fr 93 (upd (upd (upd (upd (upd σ516 0 (Pt b314 0)) 5 (Pt b309 0)) 6 (.int .i64 t343.1)) 8 (Pt b392 0)) 9 (.int .i64 z487)) ∧ I.le I515 ∧ St w0 w I515 [cells b314 [v381], ownS ty_mvcc_Version v389 x384.l, holeN nest_mvcc_row v381 z374.rows t343.1.toNat v389, cells b309 [U6 a2.Epoch, U6 a2.Index, .bool a2.Del, v331], ownS (tyInt .u8) v331 z332, cells b392 [v389]] R) ?_ ?_
 {
 have hL520 := HL.le.refl I
 refine wp_seq ?_
 replace hst := hst.pull1
 obtain ⟨css492, hq493, hst⟩ := hst.own_open
 refine wq_regionS hst Try.mixed (by kernel_rfl) ?_
 refine wq_run (v := .int .i64 z487) z z (fun w hst => z) ?_
 refine wq_run (v := v389) z z (fun w hst => x_load z isAgg53 (hst.bc5 z)) ?_
 refine wq_run (v := .int .i64 ((x384.l).length : Int)) z z (fun w hst => x_len z underlying53 (hst.rsv 0 z hq493)) ?_
 refine wq_run (v := .bool (decide (z487 < ((x384.l).length : Int)))) z z (fun w hst => z) ?_
 refine wq_run (v := .bool (decide (z487 < ((x384.l).length : Int)))) z z (fun w hst => z) ?_
 refine bsplit (decide (z487 < ((x384.l).length : Int))) (fun hc494 => ?_) (fun hc494 => ?_)
 {
 replace hm := bif_t hc494 hm
 refine wq_run (v := v389) ((wanted_eq z z z (cvb hc494)).trans z) z (fun w hst => x_load z isAgg53 (hst.bc5 z)) ?_
 refine wq_run (v := .int .i64 z487) ((wanted_eq z z z (cvb hc494)).trans z) z (fun w hst => z) ?_
 obtain ⟨x495, hx496, hm⟩ := bind_some hm
 obtain ⟨h497, h498, hi499⟩ := geto_some hx496
 refine wq_run (v := .pointer (some (eAddr v389 (z487.toNat * 4 + 0)))) ((wanted_eq z z z (cvb hc494)).trans z) z (fun w hst => x_index z z underlying53 sizeOf52 (hst.rsv 0 z hq493) h497 h498) ?_
 refine wq_run (v := .pointer (some (eAddr v389 (z487.toNat * 4 + 0)))) ((wanted_eq z z z (cvb hc494)).trans z) z (fun w hst => x_field_e z underlying52 z sizeOf24 z) ?_
 obtain ⟨cs500, hc502, hr501⟩ := Reps.get hq493 hi499
 obtain ⟨v503, rfl, f504, -⟩ := hr501
 refine wq_run (v := .int .u64 x495.Epoch) ((wanted_eq z z z (cvb hc494)).trans z) z (fun w hst => x_load z isAgg24 ((hst.rcell 0 z hc502) 0 _ z)) ?_
 refine wq_run (v := Pt b309 0) ((wanted_eq z z z (cvb hc494)).trans z) z (fun w hst => x_field z underlying52 z sizeOf24 z) ?_
 refine wq_run (v := .int .u64 a2.Epoch) ((wanted_eq z z z (cvb hc494)).trans z) z (fun w hst => x_load z isAgg24 (hst.bc3 z)) ?_
 refine wq_run (v := .bool (x495.Epoch == a2.Epoch)) ((wanted_eq z z z (cvb hc494)).trans z) z (fun w hst => z) ?_
 refine wq_run (v := .bool (x495.Epoch == a2.Epoch)) z z (fun w hst => x_pick_t hc494 z z) ?_
 refine wq_run (v := .bool (x495.Epoch == a2.Epoch)) z z (fun w hst => z) ?_
 refine bsplit (x495.Epoch == a2.Epoch) (fun hc506 => ?_) (fun hc506 => ?_)
 {
 replace hm := bif_t hc506 hm
 refine wq_run (v := v389) ((wanted_eq z z z (cvb hc506)).trans z) z (fun w hst => x_load z isAgg53 (hst.bc5 z)) ?_
 refine wq_run (v := .int .i64 z487) ((wanted_eq z z z (cvb hc506)).trans z) z (fun w hst => z) ?_
 refine wq_run (v := .pointer (some (eAddr v389 (z487.toNat * 4 + 0)))) ((wanted_eq z z z (cvb hc506)).trans z) z (fun w hst => x_index z z underlying53 sizeOf52 (hst.rsv 0 z hq493) h497 h498) ?_
 refine wq_run (v := .pointer (some (eAddr v389 (z487.toNat * 4 + 1)))) ((wanted_eq z z z (cvb hc506)).trans z) z (fun w hst => x_field_e z underlying52 z sizeOf24 z) ?_
 refine wq_run (v := .int .u64 x495.Index) ((wanted_eq z z z (cvb hc506)).trans z) z (fun w hst => x_load z isAgg24 ((hst.rcell 0 z hc502) 1 _ z)) ?_
 refine wq_run (v := Pt b309 1) ((wanted_eq z z z (cvb hc506)).trans z) z (fun w hst => x_field z underlying52 z sizeOf24 z) ?_
 refine wq_run (v := .int .u64 a2.Index) ((wanted_eq z z z (cvb hc506)).trans z) z (fun w hst => x_load z isAgg24 (hst.bc3 z)) ?_
 refine wq_run (v := .bool (x495.Index == a2.Index)) ((wanted_eq z z z (cvb hc506)).trans z) z (fun w hst => z) ?_
 refine wq_run (v := .bool (x495.Index == a2.Index)) z z (fun w hst => x_pick_t hc506 z z) ?_
 refine wq_nil ?_
 intro w hst
 replace hst := hst.own_close hq493
 refine tn ?_
 refine bsplit (x495.Index == a2.Index) (fun hc507 => ?_) (fun hc507 => ?_)
 {
 replace hm := bif_t hc507 hm
 refine wp_ift (cvb hc507) ?_
 refine wp_seq (wrl (wv (v389) z z (x_load z isAgg53 (hst.bc5 z)) (wv (.int .i64 z487) z z z (wv (.agg #[U6 a2.Epoch, U6 a2.Index, .bool a2.Del, v331]) z z (x_loadN (cs := [U6 a2.Epoch, U6 a2.Index, .bool a2.Del, v331]) z isAgg52 sizeOf52 (hst.bcs3 0 z)) (wv (.pointer (some (eAddr v389 (z487.toNat * 4 + 0)))) z z (x_index z z underlying53 sizeOf52 hst.sv0 h497 h498) ?_)))))
 replace hst := hst.pull4
 obtain ⟨I508, hI509, f510, hst⟩ := hst.own_fix
 replace f2_0 := f2_0.mono (rd_le hI509)
 replace f504 := f504.mono (ro_le hI509)
 replace hI0 := hI0.trans hI509
 replace hL520 := hL520.trans hI509
 obtain ⟨w511, hr512, hst⟩ := hst.own_store (P := prog) (t := 52) (y := ({ Epoch := a2.Epoch, Index := a2.Index, Del := a2.Del, Val := z332 } : mvcc_Version)) hi499 0 (.agg #[U6 a2.Epoch, U6 a2.Index, .bool a2.Del, v331]) sizeOf52 (Nat.le_of_ble_eq_true z) (oC z (oC z (oC z (oC (one_of_sliceV (ro_sliceV f510)) oN)))) (fun cs h => ⟨_, setMany_all (ty_mvcc_Version.len h) z, f510, one_of_sliceV (ro_sliceV f510)⟩)
 have hi513 := set_get hi499 ({ Epoch := a2.Epoch, Index := a2.Index, Del := a2.Del, Val := z332 } : mvcc_Version)
 have h514 := set_lt h498 z487.toNat ({ Epoch := a2.Epoch, Index := a2.Index, Del := a2.Del, Val := z332 } : mvcc_Version)
 refine wl_unit z z (x_unit hr512) ?_
 refine wl_nil (tn (wp_ret (then_r ?_)))
 replace hm := inr_up hm hx519
 replace hst := hst.pull2.pull1
 replace hst := St.nest_close (N := nest_mvcc_row) hst hi388
 replace hst := hst.pull1
 replace hst := at_mvcc_Store_close (pv := Pt b314 0) (x := ({ rows := (z374.rows.set t343.1.toNat ({ rank := x384.rank, l := (x384.l.set z487.toNat ({ Epoch := a2.Epoch, Index := a2.Index, Del := a2.Del, Val := z332 } : mvcc_Version)) } : mvcc_row)) } : mvcc_Store)) hst z
 replace hst := objO_some hst
 obtain rfl := some_inj hm
 refine post_ret (vs := []) results22 rvs_nil ?_
 exact ⟨_, z, hI0, hst.keep1⟩
}
 {
 replace hm := bif_f hc507 hm
 refine wp_iff (cvb hc507) ?_
 refine wp_skip (tn ?_)
 replace hst := hst.pull5.pull5.pull5.pull5.pull4.pull5.keep6
 obtain rfl := some_inj hm
 exact ⟨_, _, hx519, (fu 0 (Pt b314 0) z (fu 5 (Pt b309 0) z (fu 6 (.int .i64 t343.1) z (fu 8 (Pt b392 0) z (fu 9 (.int .i64 z487) z z))))), hL520, hst⟩
}
}
 {
 replace hm := bif_f hc506 hm
 refine wq_off ((wanted_eq z z z (cvb hc506)).trans z) z ?_
 refine wq_off ((wanted_eq z z z (cvb hc506)).trans z) z ?_
 refine wq_off ((wanted_eq z z z (cvb hc506)).trans z) z ?_
 refine wq_off ((wanted_eq z z z (cvb hc506)).trans z) z ?_
 refine wq_off ((wanted_eq z z z (cvb hc506)).trans z) z ?_
 refine wq_off ((wanted_eq z z z (cvb hc506)).trans z) z ?_
 refine wq_off ((wanted_eq z z z (cvb hc506)).trans z) z ?_
 refine wq_off ((wanted_eq z z z (cvb hc506)).trans z) z ?_
 refine wq_run (v := .bool false) z z (fun w hst => x_pick_f hc506 z z) ?_
 refine wq_nil ?_
 intro w hst
 replace hst := hst.own_close hq493
 refine tn ?_
 refine wp_iff z ?_
 refine wp_skip (tn ?_)
 replace hst := hst.pull5.pull5.pull5.pull5.pull4.pull5.keep6
 obtain rfl := some_inj hm
 exact ⟨_, _, hx519, (fu 0 (Pt b314 0) z (fu 5 (Pt b309 0) z (fu 6 (.int .i64 t343.1) z (fu 8 (Pt b392 0) z (fu 9 (.int .i64 z487) z z))))), hL520, hst⟩
}
}
 {
 replace hm := bif_f hc494 hm
 refine wq_off ((wanted_eq z z z (cvb hc494)).trans z) z ?_
 refine wq_off ((wanted_eq z z z (cvb hc494)).trans z) z ?_
 refine wq_off ((wanted_eq z z z (cvb hc494)).trans z) z ?_
 refine wq_off ((wanted_eq z z z (cvb hc494)).trans z) z ?_
 refine wq_off ((wanted_eq z z z (cvb hc494)).trans z) z ?_
 refine wq_off ((wanted_eq z z z (cvb hc494)).trans z) z ?_
 refine wq_off ((wanted_eq z z z (cvb hc494)).trans z) z ?_
 refine wq_off ((wanted_eq z z z (cvb hc494)).trans z) z ?_
 refine wq_run (v := .bool false) z z (fun w hst => x_pick_f hc494 z z) ?_
 refine wq_run (v := .bool false) z z (fun w hst => z) ?_
 refine wq_off ((wanted_eq z z z z).trans z) z ?_
 refine wq_off ((wanted_eq z z z z).trans z) z ?_
 refine wq_off ((wanted_eq z z z z).trans z) z ?_
 refine wq_off ((wanted_eq z z z z).trans z) z ?_
 refine wq_off ((wanted_eq z z z z).trans z) z ?_
 refine wq_off ((wanted_eq z z z z).trans z) z ?_
 refine wq_off ((wanted_eq z z z z).trans z) z ?_
 refine wq_off ((wanted_eq z z z z).trans z) z ?_
 refine wq_run (v := .bool false) z z (fun w hst => x_pick_f z z z) ?_
 refine wq_nil ?_
 intro w hst
 replace hst := hst.own_close hq493
 refine tn ?_
 refine wp_iff z ?_
 refine wp_skip (tn ?_)
 replace hst := hst.pull5.pull5.pull5.pull5.pull4.pull5.keep6
 obtain rfl := some_inj hm
 exact ⟨_, _, hx519, (fu 0 (Pt b314 0) z (fu 5 (Pt b309 0) z (fu 6 (.int .i64 t343.1) z (fu 8 (Pt b392 0) z (fu 9 (.int .i64 z487) z z))))), hL520, hst⟩
}
}
 {
 clear hst
 rintro _ w521 ⟨I515, σ516, hm, rfl, hL517, hst⟩
 dsimp only [mvcc_Store_Put_j3] at hm
 replace f2_0 := f2_0.mono (rd_le hL517)
 replace hI0 := hI0.trans hL517
 refine wp_region_St hst 13 [0, 1, 2, 3, 4, 5, 6, 7, 8, 9, 10, 11, 12] [0, 1, 3, 7, 0, 0, 0, 0, 128, 480, 1023, 2047, 4095] [] z (by kernel_rfl) (by kernel_rfl) Try.mixed (by kernel_rfl) ?_
 refine wsr (Pt b314 0) 0 z z z (by kernel_rfl) (fun w hst => z) (wsr (Pt b314 0) 1 z z z (by kernel_rfl) (fun w hst => z) (wsr (Pt b314 0) 2 z z z (by kernel_rfl) (fun w hst => x_field z underlying79 z sizeOf77 z) (wsr (v381) 3 z z z (by kernel_rfl) (fun w hst => x_load z isAgg77 (hst.bc0 z)) (wsr (.int .i64 t343.1) 4 z z z (by kernel_rfl) (fun w hst => z) (wsr (v389) 5 z z z (by kernel_rfl) (fun w hst => x_load z isAgg53 (hst.bc5 z)) (wsr (.int .i64 z487) 6 z z z (by kernel_rfl) (fun w hst => z) (wsr (.agg #[U6 a2.Epoch, U6 a2.Index, .bool a2.Del, v331]) 7 z z z (by kernel_rfl) (fun w hst => x_loadN (cs := [U6 a2.Epoch, U6 a2.Index, .bool a2.Del, v331]) z isAgg52 sizeOf52 (hst.bcs3 0 z)) ?_)))))))
 refine ws_e1 8 (by kernel_rfl) ?_
 refine nxe [9, 10, 11, 12] (by kernel_rfl) z z ?_
 clear hst
 intro w hst
 replace hst := hst.pull4
 obtain ⟨I523, hI524, f525, hst⟩ := hst.own_fix
 replace f2_0 := f2_0.mono (rd_le hI524)
 replace hI0 := hI0.trans hI524
 obtain ⟨b526, w527, ew528, eb529, hst⟩ := hst.lits (E := ty_mvcc_Version) (xs := [({ Epoch := a2.Epoch, Index := a2.Index, Del := a2.Del, Val := z332 } : mvcc_Version)]) [[U6 a2.Epoch, U6 a2.Index, .bool a2.Del, v331]] 52 1 z (Reps.cons ⟨_, z, f525, one_of_sliceV (ro_sliceV f525)⟩ Reps.nil)
 refine we_run (v := (.slice (some ⟨b526, 0, none⟩) 1 1)) (w' := w527) z (x_als (by kernel_rfl) ew528 eb529) ?_
 refine ws_next (pend' := [(6, I6 z487), (5, v389), (4, I6 t343.1), (3, v381), (2, Pt b314 0), (1, Pt b314 0), (0, Pt b314 0)]) hst (by kernel_rfl) (pkr z z (fun w hst => z) (pkr z z (fun w hst => x_load z isAgg53 (hst.bc5 z)) (pkr z z (fun w hst => z) (pkr z z (fun w hst => x_load z isAgg77 (hst.bc1 z)) (pkr z z (fun w hst => x_field z underlying79 z sizeOf77 z) (pkr z z (fun w hst => z) (pkr z z (fun w hst => z) pk_nil))))))) ?_
 refine ws_e1 9 (by kernel_rfl) ?_
 refine nxe [10, 11, 12] (by kernel_rfl) z z ?_
 clear hst
 intro w hst
 replace hst := hst.pull2
 obtain ⟨t531, ht532, hm⟩ := bind_some hm
 refine wec call45 [v389, I6 z487, (.slice (some ⟨b526, 0, none⟩) 1 1)] z z ?_
 refine (slices_Insert_mvcc_Version_mvcc_Version_ref hst.to2 ht532).mono ?_
 rintro _ w533 ⟨v536, rfl, hst⟩
 refine ⟨_, z, ?_⟩
 replace hst := hst.of1
 refine ws_next (pend' := [(4, I6 t343.1), (3, v381), (2, Pt b314 0), (1, Pt b314 0), (0, Pt b314 0)]) hst (by kernel_rfl) (pkr z z (fun w hst => z) (pkr z z (fun w hst => x_load z isAgg77 (hst.bc1 z)) (pkr z z (fun w hst => x_field z underlying79 z sizeOf77 z) (pkr z z (fun w hst => z) (pkr z z (fun w hst => z) pk_nil))))) ?_
 refine wsr (.pointer (some (eAddr v381 (t343.1.toNat * 2 + 0)))) 10 z z z (by kernel_rfl) (fun w hst => x_index z z underlying77 sizeOf76 (hst.holesv 2 z) h386 h387) (wsr (.pointer (some (eAddr v381 (t343.1.toNat * 2 + 1)))) 11 z z z (by kernel_rfl) (fun w hst => x_field_e z underlying76 z sizeOf53 z) ?_)
 refine ws_e1 12 (by kernel_rfl) ?_
 refine nxe [] (by kernel_rfl) z z ?_
 clear hst
 intro w hst
 replace hst := hst.pull2
 obtain ⟨w538, hr539, hst⟩ := hst.hole_store (P := prog) (t := 53) hi388 hst.sv1 sizeOf53
 refine we_unit z (x_unit hr539) ?_
 refine ws_next (pend' := []) hst (by kernel_rfl) pk_nil ?_
 refine ws_nil ?_
 intro w hst
 replace hst := hst.pull1
 replace hst := St.nest_close (N := nest_mvcc_row) hst hi388
 replace hst := hst.pull1
 replace hst := at_mvcc_Store_close (pv := Pt b314 0) (x := ({ rows := (z374.rows.set t343.1.toNat ({ rank := x384.rank, l := t531 } : mvcc_row)) } : mvcc_Store)) hst z
 replace hst := objO_some hst
 obtain rfl := some_inj hm
 refine post_end (vs := []) results22 rvs_nil ?_
 exact ⟨_, z, hI0, hst.keep1⟩
}
}
}
}
}

theorem math_Signbit_ref {w0 w : World} {I : HL} {R : SP} {a0 : Nat}  (hst : St w0 w I [] R) {r : (Bool)} (hm : math_Signbit a0 = some r) :
  Calls prog 63 #[F6 a0] w fun e w' => e = .returned (.bool r) ∧ St w0 w' I [] R := by {
 unfold math_Signbit at hm
 refine calls_start (args := [F6 a0]) func63 z ntmps63 (Nat.le_of_ble_eq_true z) ?_
 refine wp_seq (wrl (wv (.bool false) z z z (wl_nil (tn (wp_seq (wrl (wv (.float .f64 a0) z z z (wv (.int .u64 (Int.ofNat a0)) z z (by kernel_rfl) (wv (.int .i64 (i64.wrap (Int.ofNat a0))) z z (by kernel_rfl) (wv (.bool (decide ((i64.wrap (Int.ofNat a0)) < (0:Int)))) z z z (wv (.bool (decide ((i64.wrap (Int.ofNat a0)) < (0:Int)))) z z z (wl_nil (tn (wp_ret ?_))))))))))))))
 obtain rfl := some_inj hm
 refine post_ret (vs := [.bool (decide ((i64.wrap (Int.ofNat a0)) < (0:Int)))]) results63 (rvs_cons (rv_tmp z) rvs_nil) ?_
 exact ⟨z, hst.keep0⟩
}

theorem ref01_Ahead_ref {w0 w : World} {I : HL} {R : SP} {a0 : Nat} {a1 : Nat}  (hst : St w0 w I [] R) {r : (Bool)} (hm : ref01_Ahead a0 a1 = some r) :
  Calls prog 37 #[F6 a0, F6 a1] w fun e w' => e = .returned (.bool r) ∧ St w0 w' I [] R := by {
 unfold ref01_Ahead at hm
 refine calls_start (args := [F6 a0, F6 a1]) func37 z ntmps37 (Nat.le_of_ble_eq_true z) ?_
 refine wp_seq (wrl (wv (.bool false) z z z (wl_nil (tn (wp_seq (wp_seq (wrl (wv (.float .f64 a0) z z z (wv (.float .f64 a0) z z z (wv (.bool (fNe a0 a0)) z z z (wl_nil (tn ?_))))))))))))
 refine bsplit (fNe a0 a0) (fun hc101 => ?_) (fun hc101 => ?_)
 {
 replace hm := bif_t hc101 hm
 refine wp_ift (cvb hc101) ?_
 refine wp_seq (wrl (wv (.bool false) z z z (wl_nil (tn (wp_ret (then_r ?_))))))
 obtain rfl := some_inj hm
 refine post_ret (vs := [.bool false]) results37 (rvs_cons (rv_tmp z) rvs_nil) ?_
 exact ⟨z, hst.keep0⟩
}
 {
 replace hm := bif_f hc101 hm
 refine wp_iff (cvb hc101) ?_
 refine wp_skip (tn (wp_seq (wp_seq (wrl ?_))))
 refine wv (.float .f64 a1) z z z (wv (.float .f64 a1) z z z (wv (.bool (fNe a1 a1)) z z z (wl_nil (tn ?_))))
 refine bsplit (fNe a1 a1) (fun hc102 => ?_) (fun hc102 => ?_)
 {
 replace hm := bif_t hc102 hm
 refine wp_ift (cvb hc102) ?_
 refine wp_seq (wrl (wv (.bool true) z z z (wl_nil (tn (wp_ret (then_r ?_))))))
 obtain rfl := some_inj hm
 refine post_ret (vs := [.bool true]) results37 (rvs_cons (rv_tmp z) rvs_nil) ?_
 exact ⟨z, hst.keep0⟩
}
 {
 replace hm := bif_f hc102 hm
 refine wp_iff (cvb hc102) ?_
 refine wp_skip (tn ?_)
 obtain ⟨y118, hm, hx119⟩ := joinO_some hm
 refine wp_cut (fun a w => ∃ (σ116 : Nat → Value), (ref01_Ahead_j0 a0 a1) () = some r ∧ a = Fr 27 (upd (upd σ116 0 (.float .f64 a0)) 1 (.float .f64 a1)) ∧ St w0 w I [] R) ?_ ?_
 {
 refine wp_seq (wrl (wv (.float .f64 a0) z z z (wv (.bool (fEq a0 (0:Nat))) z z z (wv (.bool (fEq a0 (0:Nat))) z z z ?_))))
 refine bsplit (fEq a0 (0:Nat)) (fun hc103 => ?_) (fun hc103 => ?_)
 {
 replace hm := bif_t hc103 hm
 refine wv (.float .f64 a1) ((wanted_eq z z z (cvb hc103)).trans z) z z (wv (.bool (fEq a1 (0:Nat))) ((wanted_eq z z z (cvb hc103)).trans z) z z (wv (.bool (fEq a1 (0:Nat))) z z (x_pick_t hc103 z z) (wl_nil (tn ?_))))
 refine bsplit (fEq a1 (0:Nat)) (fun hc104 => ?_) (fun hc104 => ?_)
 {
 replace hm := bif_t hc104 hm
 refine wp_ift (cvb hc104) ?_
 refine wp_seq (wrl (wv (.float .f64 a0) z z z ?_))
 obtain ⟨t105, ht106, hm⟩ := bind_some hm
 refine wc call63 [F6 a0] z z z ?_
 refine (math_Signbit_ref hst.to0 ht106).mono ?_
 rintro _ w107 ⟨rfl, hst⟩
 refine ⟨_, z, ?_⟩
 replace hst := hst.of0
 refine wv (.bool t105) z z z ?_
 refine bsplit t105 (fun hc110 => ?_) (fun hc110 => ?_)
 {
 replace hm := bif_t hc110 hm
 refine wv (.float .f64 a1) ((wanted_eq z z z (cvb hc110)).trans z) z z ?_
 obtain ⟨t111, ht112, hm⟩ := bind_some hm
 refine wl_call ((wanted_eq z z z (cvb hc110)).trans z) z (x_call call63 z (vs := [F6 a1]) z) ?_
 refine (math_Signbit_ref hst.to0 ht112).mono ?_
 rintro _ w113 ⟨rfl, hst⟩
 refine ⟨_, z, ?_⟩
 replace hst := hst.of0
 refine wv (.bool (!t111)) ((wanted_eq z z z (cvb hc110)).trans z) z z (wv (.bool (!t111)) z z (x_pick_t hc110 z z) (wv (.bool (!t111)) z z z (wl_nil (tn (wp_ret (then_r ?_))))))
 replace hm := inr_up hm hx119
 obtain rfl := some_inj hm
 refine post_ret (vs := [.bool (!t111)]) results37 (rvs_cons (rv_tmp z) rvs_nil) ?_
 exact ⟨z, hst.keep0⟩
}
 {
 replace hm := bif_f hc110 hm
 refine wo hc110 z z z z z z (wo hc110 z z z z z z (wo hc110 z z z z z z (wv (.bool false) z z (x_pick_f hc110 z z) (wv (.bool false) z z z (wl_nil (tn (wp_ret (then_r ?_))))))))
 replace hm := inr_up hm hx119
 obtain rfl := some_inj hm
 refine post_ret (vs := [.bool false]) results37 (rvs_cons (rv_tmp z) rvs_nil) ?_
 exact ⟨z, hst.keep0⟩
}
}
 {
 replace hm := bif_f hc104 hm
 refine wp_iff (cvb hc104) ?_
 refine wp_skip (tn ?_)
 replace hst := hst.keep0
 obtain rfl := some_inj hm
 exact ⟨_, hx119, (fu 0 (.float .f64 a0) z (fu 1 (.float .f64 a1) z z)), hst⟩
}
}
 {
 replace hm := bif_f hc103 hm
 refine wo hc103 z z z z z z (wo hc103 z z z z z z (wv (.bool false) z z (x_pick_f hc103 z z) (wl_nil (tn ?_))))
 refine wp_iff z ?_
 refine wp_skip (tn ?_)
 replace hst := hst.keep0
 obtain rfl := some_inj hm
 exact ⟨_, hx119, (fu 0 (.float .f64 a0) z (fu 1 (.float .f64 a1) z z)), hst⟩
}
}
 {
 clear hst
 rintro _ w120 ⟨σ116, hm, rfl, hst⟩
 dsimp only [ref01_Ahead_j0] at hm
 refine wp_seq (wrl (wv (.float .f64 a0) z z z (wv (.float .f64 a1) z z z (wv (.bool (fLt a0 a1)) z z z (wv (.bool (fLt a0 a1)) z z z (wl_nil (tn (wp_ret ?_))))))))
 obtain rfl := some_inj hm
 refine post_ret (vs := [.bool (fLt a0 a1)]) results37 (rvs_cons (rv_tmp z) rvs_nil) ?_
 exact ⟨z, hst.keep0⟩
}
}
}
}

theorem ref01_Same_ref {w0 w : World} {I : HL} {R : SP} {a0 : Nat} {a1 : Nat}  (hst : St w0 w I [] R) {r : (Bool)} (hm : ref01_Same a0 a1 = some r) :
  Calls prog 30 #[F6 a0, F6 a1] w fun e w' => e = .returned (.bool r) ∧ St w0 w' I [] R := by {
 unfold ref01_Same at hm
 refine calls_start (args := [F6 a0, F6 a1]) func30 z ntmps30 (Nat.le_of_ble_eq_true z) ?_
 refine wp_seq (wrl (wv (.bool false) z z z (wl_nil (tn (wp_seq (wrl (wv (.float .f64 a0) z z z (wv (.float .f64 a1) z z z ?_))))))))
 obtain ⟨t92, ht93, hm⟩ := bind_some hm
 refine wc call37 [F6 a0, F6 a1] z z z ?_
 refine (ref01_Ahead_ref hst.to0 ht93).mono ?_
 rintro _ w94 ⟨rfl, hst⟩
 refine ⟨_, z, ?_⟩
 replace hst := hst.of0
 refine wv (.bool (!t92)) z z z (wv (.bool (!t92)) z z z ?_)
 refine bsplit (!t92) (fun hc97 => ?_) (fun hc97 => ?_)
 {
 replace hm := bif_t hc97 hm
 refine wv (.float .f64 a1) ((wanted_eq z z z (cvb hc97)).trans z) z z (wv (.float .f64 a0) ((wanted_eq z z z (cvb hc97)).trans z) z z ?_)
 obtain ⟨t98, ht99, hm⟩ := bind_some hm
 refine wl_call ((wanted_eq z z z (cvb hc97)).trans z) z (x_call call37 z (vs := [F6 a1, F6 a0]) z) ?_
 refine (ref01_Ahead_ref hst.to0 ht99).mono ?_
 rintro _ w100 ⟨rfl, hst⟩
 refine ⟨_, z, ?_⟩
 replace hst := hst.of0
 refine wv (.bool (!t98)) ((wanted_eq z z z (cvb hc97)).trans z) z z (wv (.bool (!t98)) z z (x_pick_t hc97 z z) (wv (.bool (!t98)) z z z (wl_nil (tn (wp_ret ?_)))))
 obtain rfl := some_inj hm
 refine post_ret (vs := [.bool (!t98)]) results30 (rvs_cons (rv_tmp z) rvs_nil) ?_
 exact ⟨z, hst.keep0⟩
}
 {
 replace hm := bif_f hc97 hm
 refine wo hc97 z z z z z z (wo hc97 z z z z z z (wo hc97 z z z z z z (wo hc97 z z z z z z (wv (.bool false) z z (x_pick_f hc97 z z) (wv (.bool false) z z z (wl_nil (tn (wp_ret ?_))))))))
 obtain rfl := some_inj hm
 refine post_ret (vs := [.bool false]) results30 (rvs_cons (rv_tmp z) rvs_nil) ?_
 exact ⟨z, hst.keep0⟩
}
}

theorem ref11_Put_ref {w0 w : World} {I : HL} {R : SP} {a0 : (List ref11_Version)} {r0_0 : Value} {a1 : ref11_Version} {r1_0 : Value} (f0_0 : Ro ty_ref11_Version I r0_0 a0) (f1_0 : Ro (tyInt .u8) I r1_0 a1.Val) (hst : St w0 w I [] R) {r : ((List ref11_Version))} (hm : ref11_Put a0 a1 = some r) :
  Calls prog 29 #[r0_0, .agg #[F6 a1.At, U6 a1.Epoch, U6 a1.Index, .bool a1.Del, r1_0]] w fun e w' => ∃ (q0_0 : Value), e = .returned (q0_0) ∧ St w0 w' I [ownS ty_ref11_Version q0_0 r] R := by {
 unfold ref11_Put at hm
 refine calls_start (args := [r0_0, .agg #[F6 a1.At, U6 a1.Epoch, U6 a1.Index, .bool a1.Del, r1_0]]) func29 z ntmps29 (Nat.le_of_ble_eq_true z) ?_
 refine wp_seq (wrl ?_)
 obtain ⟨b390, w391, ew392, eb393, hst⟩ := hst.box [F6 a1.At, U6 a1.Epoch, U6 a1.Index, .bool a1.Del, r1_0] 67
 refine wl_run (v := Pt b390 0) (w' := w391) z z (x_al (by kernel_rfl) ew392 eb393) ?_
 refine wv ((.slice none 0 0)) z z z (wl_nil (tn (wp_seq (wrl (wv ((.slice none 0 0)) z z z (wl_nil (tn ?_)))))))
 obtain ⟨y678, hm, hx679⟩ := bind_some hm
 refine wp_cut (fun a w => ∃ (z675 : (List ref11_Version)) (v674 : Value) (σ676 : Nat → Value), (ref11_Put_j0 a1) z675 = some r ∧ a = Fr 56 (upd (upd σ676 3 (Pt b390 0)) 5 (v674)) ∧ St w0 w I [cells b390 [F6 a1.At, U6 a1.Epoch, U6 a1.Index, .bool a1.Del, r1_0], ownS ty_ref11_Version v674 z675] R) ?_ ?_
 {
 refine wp_seq (wrl (wv (.int .i64 (0:Int)) z z z (wl_nil (tn (wp_block ?_)))))
 replace hst := hst.own_nil ty_ref11_Version
 obtain ⟨n601, hm⟩ := loopO_some hm
 refine wp_loop_n (fun n a w => ∃ (z596 : (List ref11_Version)) (z599 : Int) (v597 : Value) (σ600 : Nat → Value), loopN (ref11_Put_l1 a0 a1) n (z596, z599) = some y678 ∧ a = Fr 56 (upd (upd (upd (upd σ600 0 (r0_0)) 3 (Pt b390 0)) 5 (v597)) 6 (.int .i64 z599)) ∧ St w0 w I [ownS ty_ref11_Version v597 z596, cells b390 [F6 a1.At, U6 a1.Epoch, U6 a1.Index, .bool a1.Del, r1_0]] R) n601 ⟨[], (0:Int), Zs, _, hm, (fu 0 r0_0 z (fu 3 (Pt b390 0) z (fu 5 (.slice none 0 0) z (fu 6 (.int .i64 (0:Int)) z z)))), hst⟩ ?_
 rintro n607 _ w602 ⟨z596, z599, v597, σ600, hm, rfl, hst⟩
 obtain ⟨n604, y605, rfl, hm, hx606⟩ := loopN_some hm
 dsimp only [ref11_Put_l1] at hm
 refine wp_seq (wp_seq (wrl (wv (.int .i64 z599) z z z (wv (r0_0) z z z (wv (.int .i64 ((a0).length : Int)) z z (x_len z underlying26 (ro_sliceV f0_0)) (wv (.bool (decide (z599 < ((a0).length : Int)))) z z z (wl_nil (tn ?_))))))))
 refine bsplit (decide (z599 < ((a0).length : Int))) (fun hc608 => ?_) (fun hc608 => ?_)
 {
 replace hm := bif_t hc608 hm
 refine wp_ift (cvb hc608) ?_
 refine wp_skip (tn (wp_seq (wp_block (wp_seq ?_))))
 refine wp_region_St hst 29 [0, 1, 2, 3, 4, 5, 6, 7, 8, 9, 10, 11, 12, 13, 14, 15, 16, 17, 18, 19, 20, 21, 22, 23, 24, 25, 26, 27, 28] [0, 0, 3, 7, 15, 0, 32, 127, 255, 511, 1023, 1023, 4095, 8191, 16383, 1023, 33791, 131071, 262143, 524287, 1048575, 1048575, 4194303, 8388607, 16777215, 1048575, 34603007, 134217727, 268435455] [] z (by kernel_rfl) (by kernel_rfl) Try.mixed (by kernel_rfl) ?_
 refine wsr (r0_0) 0 z z z (by kernel_rfl) (fun w hst => z) (wsr (.int .i64 z599) 1 z z z (by kernel_rfl) (fun w hst => z) ?_)
 obtain ⟨x609, hx610, hm⟩ := bind_some hm
 obtain ⟨h611, h612, hi613⟩ := geto_some hx610
 refine wsr (.pointer (some (eAddr r0_0 (z599.toNat * 5 + 0)))) 2 z z z (by kernel_rfl) (fun w hst => x_index z z underlying26 sizeOf67 (ro_sliceV f0_0) h611 h612) (wsr (.pointer (some (eAddr r0_0 (z599.toNat * 5 + 0)))) 3 z z z (by kernel_rfl) (fun w hst => x_field_e z underlying67 z sizeOf23 z) ?_)
 obtain ⟨cs614, hr615, hc616⟩ := Ro.getF f0_0 hi613
 obtain ⟨v617, rfl, f618, -⟩ := hr615
 refine wsr (.float .f64 x609.At) 4 z z z (by kernel_rfl) (fun w hst => x_load z isAgg23 ((hc616 (HL.le.refl _) hst) 0 _ z)) (wsr (Pt b390 0) 5 z z z (by kernel_rfl) (fun w hst => x_field z underlying67 z sizeOf23 z) (wsr (.float .f64 a1.At) 6 z z z (by kernel_rfl) (fun w hst => x_load z isAgg23 (hst.bc1 z)) ?_))
 refine ws_e1 7 (by kernel_rfl) ?_
 refine nxe [8, 9, 10, 11, 12, 13, 14, 15, 16, 17, 18, 19, 20, 21, 22, 23, 24, 25, 26, 27, 28] (by kernel_rfl) z z ?_
 clear hst
 intro w hst
 obtain ⟨t620, ht621, hm⟩ := bind_some hm
 refine wec call30 [F6 x609.At, F6 a1.At] z z ?_
 refine (ref01_Same_ref hst.to0 ht621).mono ?_
 rintro _ w622 ⟨rfl, hst⟩
 refine ⟨_, z, ?_⟩
 replace hst := hst.of0
 refine ws_next (pend' := []) hst (by kernel_rfl) pk_nil ?_
 refine wsr (.bool (!t620)) 8 z z z (by kernel_rfl) (fun w hst => z) (wsr (.bool (!t620)) 9 z z z (by kernel_rfl) (fun w hst => z) ?_)
 refine bsplit (!t620) (fun hc625 => ?_) (fun hc625 => ?_)
 {
 replace hm := bif_t hc625 hm
 refine ws_q (v := undef) 10 [11, 12, 13, 14, 15, 16, 17, 18, 19, 20, 21, 22, 23, 24, 25, 26, 27, 28] (by kernel_rfl) z z (yi_off ((wanted_eq z z z (cvb hc625)).trans z)) (ws_q (v := undef) 11 [12, 13, 14, 15, 16, 17, 18, 19, 20, 21, 22, 23, 24, 25, 26, 27, 28] (by kernel_rfl) z z (yi_off ((wanted_eq z z z (cvb hc625)).trans z)) (ws_q (v := undef) 12 [13, 14, 15, 16, 17, 18, 19, 20, 21, 22, 23, 24, 25, 26, 27, 28] (by kernel_rfl) z z (yi_off ((wanted_eq z z z (cvb hc625)).trans z)) (ws_q (v := undef) 13 [14, 15, 16, 17, 18, 19, 20, 21, 22, 23, 24, 25, 26, 27, 28] (by kernel_rfl) z z (yi_off ((wanted_eq z z z (cvb hc625)).trans z)) (ws_q (v := undef) 14 [15, 16, 17, 18, 19, 20, 21, 22, 23, 24, 25, 26, 27, 28] (by kernel_rfl) z z (yi_off ((wanted_eq z z z (cvb hc625)).trans z)) (ws_q (v := undef) 15 [16, 17, 18, 19, 20, 21, 22, 23, 24, 25, 26, 27, 28] (by kernel_rfl) z z (yi_off ((wanted_eq z z z (cvb hc625)).trans z)) (ws_q (v := undef) 16 [17, 18, 19, 20, 21, 22, 23, 24, 25, 26, 27, 28] (by kernel_rfl) z z (yi_off ((wanted_eq z z z (cvb hc625)).trans z)) (ws_q (v := undef) 17 [18, 19, 20, 21, 22, 23, 24, 25, 26, 27, 28] (by kernel_rfl) z z (yi_off ((wanted_eq z z z (cvb hc625)).trans z)) (wsr (.bool true) 18 z z z (by kernel_rfl) (fun w hst => x_pick_t hc625 z z) (wsr (.bool true) 19 z z z (by kernel_rfl) (fun w hst => z) (ws_q (v := undef) 20 [21, 22, 23, 24, 25, 26, 27, 28] (by kernel_rfl) z z (yi_off ((wanted_eq z z z z).trans z)) (ws_q (v := undef) 21 [22, 23, 24, 25, 26, 27, 28] (by kernel_rfl) z z (yi_off ((wanted_eq z z z z).trans z)) (ws_q (v := undef) 22 [23, 24, 25, 26, 27, 28] (by kernel_rfl) z z (yi_off ((wanted_eq z z z z).trans z)) ?_))))))))))))
 refine ws_q (v := undef) 23 [24, 25, 26, 27, 28] (by kernel_rfl) z z (yi_off ((wanted_eq z z z z).trans z)) (ws_q (v := undef) 24 [25, 26, 27, 28] (by kernel_rfl) z z (yi_off ((wanted_eq z z z z).trans z)) (ws_q (v := undef) 25 [26, 27, 28] (by kernel_rfl) z z (yi_off ((wanted_eq z z z z).trans z)) (ws_q (v := undef) 26 [27, 28] (by kernel_rfl) z z (yi_off ((wanted_eq z z z z).trans z)) (ws_q (v := undef) 27 [28] (by kernel_rfl) z z (yi_off ((wanted_eq z z z z).trans z)) (wsr (.bool true) 28 z z z (by kernel_rfl) (fun w hst => x_pick_t z z z) ?_)))))
 refine ws_nil ?_
 intro w hst
 refine tn ?_
 refine wp_ift z ?_
 refine wrl (wv (v597) z z z (wv (r0_0) z z z (wv (.int .i64 z599) z z z (wv (.pointer (some (eAddr r0_0 (z599.toNat * 5 + 0)))) z z (x_index z z underlying26 sizeOf67 (ro_sliceV f0_0) h611 h612) ?_))))
 obtain ⟨cs626, hr627, hc628⟩ := Ro.getF f0_0 hi613
 obtain ⟨v629, rfl, f630, -⟩ := hr627
 refine wv (.agg #[F6 x609.At, U6 x609.Epoch, U6 x609.Index, .bool x609.Del, v629]) z z (x_loadN (cs := [F6 x609.At, U6 x609.Epoch, U6 x609.Index, .bool x609.Del, v629]) z isAgg67 sizeOf67 (eCells (o := 0) (hc628 (HL.le.refl _) hst) z)) ?_
 obtain ⟨b633, w634, ew635, eb636, hst⟩ := hst.lits (E := ty_ref11_Version) (xs := [x609]) [[F6 x609.At, U6 x609.Epoch, U6 x609.Index, .bool x609.Del, v629]] 67 1 z (Reps.cons ⟨_, z, f630, one_of_sliceV (ro_sliceV f630)⟩ Reps.nil)
 refine wl_run (v := (.slice (some ⟨b633, 0, none⟩) 1 1)) (w' := w634) z z (x_als (by kernel_rfl) ew635 eb636) ?_
 obtain ⟨hg638, hm⟩ := gd_some hm
 replace hst := hst.pull1
 obtain ⟨v639, w640, hr641, hst⟩ := run_append elem_26 underlying26 hst hst.src1 (room_of hg638 z) 26
 refine wl_run (v := v639) (w' := w640) z z (x_append z z hr641) ?_
 refine wv (v639) z z z (wl_nil (blk_n (tn (wrl (wv (.int .i64 z599) z z z (wv (.int .i64 (i64.wrap (z599 + (1:Int)))) z z z (wv (.int .i64 (i64.wrap (z599 + (1:Int)))) z z z (wl_nil (tn ?_)))))))))
 replace hst := hst.pull2.pull1.keep2
 obtain rfl := some_inj hm
 exact ⟨_, Nat.lt_succ_self _, (z596 ++ ([x609])), (i64.wrap (z599 + (1:Int))), v639, _, hx606, (fu 0 r0_0 z (fu 3 (Pt b390 0) z (fu 5 v639 z (fu 6 (.int .i64 (i64.wrap (z599 + (1:Int)))) z z)))), hst⟩
}
 {
 replace hm := bif_f hc625 hm
 refine ws_q (v := r0_0) 10 [11, 12, 13, 14, 15, 16, 17, 18, 19, 20, 21, 22, 23, 24, 25, 26, 27, 28] (by kernel_rfl) z z (yi_run ((wanted_eq z z z (cvb hc625)).trans z) (fun w hst => z)) (ws_q (v := .int .i64 z599) 11 [12, 13, 14, 15, 16, 17, 18, 19, 20, 21, 22, 23, 24, 25, 26, 27, 28] (by kernel_rfl) z z (yi_run ((wanted_eq z z z (cvb hc625)).trans z) (fun w hst => z)) (ws_q (v := .pointer (some (eAddr r0_0 (z599.toNat * 5 + 0)))) 12 [13, 14, 15, 16, 17, 18, 19, 20, 21, 22, 23, 24, 25, 26, 27, 28] (by kernel_rfl) z z (yi_run ((wanted_eq z z z (cvb hc625)).trans z) (fun w hst => x_index z z underlying26 sizeOf67 (ro_sliceV f0_0) h611 h612)) (ws_q (v := .pointer (some (eAddr r0_0 (z599.toNat * 5 + 1)))) 13 [14, 15, 16, 17, 18, 19, 20, 21, 22, 23, 24, 25, 26, 27, 28] (by kernel_rfl) z z (yi_run ((wanted_eq z z z (cvb hc625)).trans z) (fun w hst => x_field_e z underlying67 z sizeOf24 z)) ?_)))
 obtain ⟨cs643, hr644, hc645⟩ := Ro.getF f0_0 hi613
 obtain ⟨v646, rfl, f647, -⟩ := hr644
 refine ws_q (v := .int .u64 x609.Epoch) 14 [15, 16, 17, 18, 19, 20, 21, 22, 23, 24, 25, 26, 27, 28] (by kernel_rfl) z z (yi_run ((wanted_eq z z z (cvb hc625)).trans z) (fun w hst => x_load z isAgg24 ((hc645 (HL.le.refl _) hst) 1 _ z))) (ws_q (v := Pt b390 1) 15 [16, 17, 18, 19, 20, 21, 22, 23, 24, 25, 26, 27, 28] (by kernel_rfl) z z (yi_run ((wanted_eq z z z (cvb hc625)).trans z) (fun w hst => x_field z underlying67 z sizeOf24 z)) (ws_q (v := .int .u64 a1.Epoch) 16 [17, 18, 19, 20, 21, 22, 23, 24, 25, 26, 27, 28] (by kernel_rfl) z z (yi_run ((wanted_eq z z z (cvb hc625)).trans z) (fun w hst => x_load z isAgg24 (hst.bc1 z))) (ws_q (v := .bool (x609.Epoch != a1.Epoch)) 17 [18, 19, 20, 21, 22, 23, 24, 25, 26, 27, 28] (by kernel_rfl) z z (yi_run ((wanted_eq z z z (cvb hc625)).trans z) (fun w hst => z)) (wsr (.bool (x609.Epoch != a1.Epoch)) 18 z z z (by kernel_rfl) (fun w hst => x_pick_f hc625 z z) (wsr (.bool (x609.Epoch != a1.Epoch)) 19 z z z (by kernel_rfl) (fun w hst => z) ?_)))))
 refine bsplit (x609.Epoch != a1.Epoch) (fun hc649 => ?_) (fun hc649 => ?_)
 {
 replace hm := bif_t hc649 hm
 refine ws_q (v := undef) 20 [21, 22, 23, 24, 25, 26, 27, 28] (by kernel_rfl) z z (yi_off ((wanted_eq z z z (cvb hc649)).trans z)) (ws_q (v := undef) 21 [22, 23, 24, 25, 26, 27, 28] (by kernel_rfl) z z (yi_off ((wanted_eq z z z (cvb hc649)).trans z)) (ws_q (v := undef) 22 [23, 24, 25, 26, 27, 28] (by kernel_rfl) z z (yi_off ((wanted_eq z z z (cvb hc649)).trans z)) (ws_q (v := undef) 23 [24, 25, 26, 27, 28] (by kernel_rfl) z z (yi_off ((wanted_eq z z z (cvb hc649)).trans z)) (ws_q (v := undef) 24 [25, 26, 27, 28] (by kernel_rfl) z z (yi_off ((wanted_eq z z z (cvb hc649)).trans z)) (ws_q (v := undef) 25 [26, 27, 28] (by kernel_rfl) z z (yi_off ((wanted_eq z z z (cvb hc649)).trans z)) (ws_q (v := undef) 26 [27, 28] (by kernel_rfl) z z (yi_off ((wanted_eq z z z (cvb hc649)).trans z)) (ws_q (v := undef) 27 [28] (by kernel_rfl) z z (yi_off ((wanted_eq z z z (cvb hc649)).trans z)) (wsr (.bool true) 28 z z z (by kernel_rfl) (fun w hst => x_pick_t hc649 z z) ?_))))))))
 refine ws_nil ?_
 intro w hst
 refine tn ?_
 refine wp_ift z ?_
 refine wrl (wv (v597) z z z (wv (r0_0) z z z (wv (.int .i64 z599) z z z (wv (.pointer (some (eAddr r0_0 (z599.toNat * 5 + 0)))) z z (x_index z z underlying26 sizeOf67 (ro_sliceV f0_0) h611 h612) (wv (.agg #[F6 x609.At, U6 x609.Epoch, U6 x609.Index, .bool x609.Del, v646]) z z (x_loadN (cs := [F6 x609.At, U6 x609.Epoch, U6 x609.Index, .bool x609.Del, v646]) z isAgg67 sizeOf67 (eCells (o := 0) (hc645 (HL.le.refl _) hst) z)) ?_)))))
 obtain ⟨b651, w652, ew653, eb654, hst⟩ := hst.lits (E := ty_ref11_Version) (xs := [x609]) [[F6 x609.At, U6 x609.Epoch, U6 x609.Index, .bool x609.Del, v646]] 67 1 z (Reps.cons ⟨_, z, f647, one_of_sliceV (ro_sliceV f647)⟩ Reps.nil)
 refine wl_run (v := (.slice (some ⟨b651, 0, none⟩) 1 1)) (w' := w652) z z (x_als (by kernel_rfl) ew653 eb654) ?_
 obtain ⟨hg656, hm⟩ := gd_some hm
 replace hst := hst.pull1
 obtain ⟨v657, w658, hr659, hst⟩ := run_append elem_26 underlying26 hst hst.src1 (room_of hg656 z) 26
 refine wl_run (v := v657) (w' := w658) z z (x_append z z hr659) ?_
 refine wv (v657) z z z (wl_nil (blk_n (tn (wrl (wv (.int .i64 z599) z z z (wv (.int .i64 (i64.wrap (z599 + (1:Int)))) z z z (wv (.int .i64 (i64.wrap (z599 + (1:Int)))) z z z (wl_nil (tn ?_)))))))))
 replace hst := hst.pull2.pull1.keep2
 obtain rfl := some_inj hm
 exact ⟨_, Nat.lt_succ_self _, (z596 ++ ([x609])), (i64.wrap (z599 + (1:Int))), v657, _, hx606, (fu 0 r0_0 z (fu 3 (Pt b390 0) z (fu 5 v657 z (fu 6 (.int .i64 (i64.wrap (z599 + (1:Int)))) z z)))), hst⟩
}
 {
 replace hm := bif_f hc649 hm
 refine ws_q (v := r0_0) 20 [21, 22, 23, 24, 25, 26, 27, 28] (by kernel_rfl) z z (yi_run ((wanted_eq z z z (cvb hc649)).trans z) (fun w hst => z)) (ws_q (v := .int .i64 z599) 21 [22, 23, 24, 25, 26, 27, 28] (by kernel_rfl) z z (yi_run ((wanted_eq z z z (cvb hc649)).trans z) (fun w hst => z)) (ws_q (v := .pointer (some (eAddr r0_0 (z599.toNat * 5 + 0)))) 22 [23, 24, 25, 26, 27, 28] (by kernel_rfl) z z (yi_run ((wanted_eq z z z (cvb hc649)).trans z) (fun w hst => x_index z z underlying26 sizeOf67 (ro_sliceV f0_0) h611 h612)) (ws_q (v := .pointer (some (eAddr r0_0 (z599.toNat * 5 + 2)))) 23 [24, 25, 26, 27, 28] (by kernel_rfl) z z (yi_run ((wanted_eq z z z (cvb hc649)).trans z) (fun w hst => x_field_e z underlying67 z sizeOf24 z)) (ws_q (v := .int .u64 x609.Index) 24 [25, 26, 27, 28] (by kernel_rfl) z z (yi_run ((wanted_eq z z z (cvb hc649)).trans z) (fun w hst => x_load z isAgg24 ((hc645 (HL.le.refl _) hst) 2 _ z))) (ws_q (v := Pt b390 2) 25 [26, 27, 28] (by kernel_rfl) z z (yi_run ((wanted_eq z z z (cvb hc649)).trans z) (fun w hst => x_field z underlying67 z sizeOf24 z)) (ws_q (v := .int .u64 a1.Index) 26 [27, 28] (by kernel_rfl) z z (yi_run ((wanted_eq z z z (cvb hc649)).trans z) (fun w hst => x_load z isAgg24 (hst.bc1 z))) (ws_q (v := .bool (x609.Index != a1.Index)) 27 [28] (by kernel_rfl) z z (yi_run ((wanted_eq z z z (cvb hc649)).trans z) (fun w hst => z)) (wsr (.bool (x609.Index != a1.Index)) 28 z z z (by kernel_rfl) (fun w hst => x_pick_f hc649 z z) ?_))))))))
 refine ws_nil ?_
 intro w hst
 refine tn ?_
 refine bsplit (x609.Index != a1.Index) (fun hc661 => ?_) (fun hc661 => ?_)
 {
 replace hm := bif_t hc661 hm
 refine wp_ift (cvb hc661) ?_
 refine wrl (wv (v597) z z z (wv (r0_0) z z z (wv (.int .i64 z599) z z z (wv (.pointer (some (eAddr r0_0 (z599.toNat * 5 + 0)))) z z (x_index z z underlying26 sizeOf67 (ro_sliceV f0_0) h611 h612) (wv (.agg #[F6 x609.At, U6 x609.Epoch, U6 x609.Index, .bool x609.Del, v646]) z z (x_loadN (cs := [F6 x609.At, U6 x609.Epoch, U6 x609.Index, .bool x609.Del, v646]) z isAgg67 sizeOf67 (eCells (o := 0) (hc645 (HL.le.refl _) hst) z)) ?_)))))
 obtain ⟨b663, w664, ew665, eb666, hst⟩ := hst.lits (E := ty_ref11_Version) (xs := [x609]) [[F6 x609.At, U6 x609.Epoch, U6 x609.Index, .bool x609.Del, v646]] 67 1 z (Reps.cons ⟨_, z, f647, one_of_sliceV (ro_sliceV f647)⟩ Reps.nil)
 refine wl_run (v := (.slice (some ⟨b663, 0, none⟩) 1 1)) (w' := w664) z z (x_als (by kernel_rfl) ew665 eb666) ?_
 obtain ⟨hg668, hm⟩ := gd_some hm
 replace hst := hst.pull1
 obtain ⟨v669, w670, hr671, hst⟩ := run_append elem_26 underlying26 hst hst.src1 (room_of hg668 z) 26
 refine wl_run (v := v669) (w' := w670) z z (x_append z z hr671) ?_
 refine wv (v669) z z z (wl_nil (blk_n (tn (wrl (wv (.int .i64 z599) z z z (wv (.int .i64 (i64.wrap (z599 + (1:Int)))) z z z (wv (.int .i64 (i64.wrap (z599 + (1:Int)))) z z z (wl_nil (tn ?_)))))))))
 replace hst := hst.pull2.pull1.keep2
 obtain rfl := some_inj hm
 exact ⟨_, Nat.lt_succ_self _, (z596 ++ ([x609])), (i64.wrap (z599 + (1:Int))), v669, _, hx606, (fu 0 r0_0 z (fu 3 (Pt b390 0) z (fu 5 v669 z (fu 6 (.int .i64 (i64.wrap (z599 + (1:Int)))) z z)))), hst⟩
}
 {
 replace hm := bif_f hc661 hm
 refine wp_iff (cvb hc661) ?_
 refine wp_skip (blk_n (tn (wrl ?_)))
 refine wv (.int .i64 z599) z z z (wv (.int .i64 (i64.wrap (z599 + (1:Int)))) z z z (wv (.int .i64 (i64.wrap (z599 + (1:Int)))) z z z (wl_nil (tn ?_))))
 replace hst := hst.pull1.pull1.keep2
 obtain rfl := some_inj hm
 exact ⟨_, Nat.lt_succ_self _, z596, (i64.wrap (z599 + (1:Int))), v597, _, hx606, (fu 0 r0_0 z (fu 3 (Pt b390 0) z (fu 5 v597 z (fu 6 (.int .i64 (i64.wrap (z599 + (1:Int)))) z z)))), hst⟩
}
}
}
}
 {
 replace hm := bif_f hc608 hm
 refine wp_iff (cvb hc608) ?_
 refine wp_exit (then_x (then_x ?_))
 replace hm := inr_up hm hx606
 refine blk_x (tn ?_)
 replace hst := hst.pull1.keep2
 obtain rfl := some_inj hm
 exact ⟨z596, v597, _, hx679, (fu 3 (Pt b390 0) z (fu 5 v597 z z)), hst⟩
}
}
 {
 clear hst
 rintro _ w680 ⟨z675, v674, σ676, hm, rfl, hst⟩
 dsimp only [ref11_Put_j0] at hm
 obtain ⟨y691, hm, hx692⟩ := bind_some hm
 refine wp_cut (fun a w => ∃ (z687 : (List Int)) (v686 : Value) (σ689 : Nat → Value), (ref11_Put_j2 z675 a1) z687 = some r ∧ a = Fr 56 (upd (upd σ689 3 (Pt b390 0)) 5 (v674)) ∧ Ro (tyInt .u8) I v686 z687 ∧ St w0 w I [cells b390 [F6 a1.At, U6 a1.Epoch, U6 a1.Index, .bool a1.Del, v686], ownS ty_ref11_Version v674 z675] R) ?_ ?_
 {
 refine wp_seq (wrl (wv (Pt b390 3) z z (x_field z underlying67 z sizeOf4 z) (wv (.bool a1.Del) z z (x_load z isAgg4 (hst.bc0 z)) (wl_nil (tn ?_)))))
 refine bsplit a1.Del (fun hc681 => ?_) (fun hc681 => ?_)
 {
 replace hm := bif_t hc681 hm
 refine wp_ift (cvb hc681) ?_
 refine wrl (wv (Pt b390 4) z z (x_field z underlying67 z sizeOf32 z) ?_)
 obtain ⟨w683, hr684, hst⟩ := hst.by_ [F6 a1.At, U6 a1.Epoch, U6 a1.Index, .bool a1.Del, Zs] 4 ((.slice none 0 0)) sizeOf32 z (oC z oN) (by kernel_rfl)
 refine wl_unit z z (x_unit hr684) ?_
 refine wl_nil (tn ?_)
 have f685 : Ro (tyInt .u8) I (.slice none 0 0) [] := ro_nil
 replace hst := hst.pull1.pull1.keep2
 obtain rfl := some_inj hm
 exact ⟨([]), Zs, _, hx692, (fu 3 (Pt b390 0) z (fu 5 v674 z z)), f685, hst⟩
}
 {
 replace hm := bif_f hc681 hm
 refine wp_iff (cvb hc681) ?_
 refine wp_skip (tn ?_)
 replace hst := hst.pull1.pull1.keep2
 obtain rfl := some_inj hm
 exact ⟨a1.Val, r1_0, _, hx692, (fu 3 (Pt b390 0) z (fu 5 v674 z z)), f1_0, hst⟩
}
}
 {
 clear hst
 rintro _ w693 ⟨z687, v686, σ689, hm, rfl, f688, hst⟩
 dsimp only [ref11_Put_j2] at hm
 refine wp_seq (wrl (wv (v674) z z z (wv (.agg #[F6 a1.At, U6 a1.Epoch, U6 a1.Index, .bool a1.Del, v686]) z z (x_loadN (cs := [F6 a1.At, U6 a1.Epoch, U6 a1.Index, .bool a1.Del, v686]) z isAgg67 sizeOf67 (hst.bcs0 0 z)) ?_)))
 obtain ⟨b695, w696, ew697, eb698, hst⟩ := hst.lits (E := ty_ref11_Version) (xs := [({ At := a1.At, Epoch := a1.Epoch, Index := a1.Index, Del := a1.Del, Val := z687 } : ref11_Version)]) [[F6 a1.At, U6 a1.Epoch, U6 a1.Index, .bool a1.Del, v686]] 67 1 z (Reps.cons ⟨_, z, f688, one_of_sliceV (ro_sliceV f688)⟩ Reps.nil)
 refine wl_run (v := (.slice (some ⟨b695, 0, none⟩) 1 1)) (w' := w696) z z (x_als (by kernel_rfl) ew697 eb698) ?_
 obtain ⟨hg700, hm⟩ := gd_some hm
 replace hst := hst.pull2
 obtain ⟨v701, w702, hr703, hst⟩ := run_append elem_26 underlying26 hst hst.src1 (room_of hg700 z) 26
 refine wl_run (v := v701) (w' := w702) z z (x_append z z hr703) ?_
 refine wv (v701) z z z (wl_nil (tn (wp_ret ?_)))
 obtain rfl := some_inj hm
 refine post_ret (vs := [v701]) results29 (rvs_cons (rv_tmp z) rvs_nil) ?_
 exact ⟨v701, z, hst.keep1⟩
}
}
}

theorem law11_fill_ref {w0 w : World} {I : HL} {R : SP} {a0 : (List law11_Ver)} {r0_0 : Value} (f0_0 : Ro ty_law11_Ver I r0_0 a0) (hst : St w0 w I [] R) {r : (mvcc_Store × (List ref11_Version) × Bool)} (hm : law11_fill a0 = some r) :
  Calls prog 9 #[r0_0] w fun e w' => ∃ (I' : HL) (q0 : Value) (q1_0 : Value), e = .returned (.tuple #[q0, q1_0, .bool r.2.2]) ∧ I.le I' ∧ St w0 w' I' [at_mvcc_Store q0 r.1, ownS ty_ref11_Version q1_0 r.2.1] R := by {
 unfold law11_fill at hm
 refine calls_start (args := [r0_0]) func9 z ntmps9 (Nat.le_of_ble_eq_true z) ?_
 have hI0 := HL.le.refl I
 refine wp_seq (wrl (wv (.pointer none) z z z (wv ((.slice none 0 0)) z z z (wv (.bool false) z z z (wl_nil (tn (wp_seq (wrl ?_))))))))
 obtain ⟨t312, ht313, hm⟩ := bind_some hm
 refine wc call21 [] z z z ?_
 refine (mvcc_New_ref hst.to0 ht313).mono ?_
 rintro _ w314 ⟨v317, rfl, hst⟩
 refine ⟨_, z, ?_⟩
 replace hst := hst.of1
 refine wv (v317) z z z (wl_nil (tn (wp_seq (wrl (wv ((.slice none 0 0)) z z z (wl_nil (tn (wp_seq (wp_seq (wrl (wv (r0_0) z z z (wv (.int .i64 ((a0).length : Int)) z z (x_len z underlying22 (ro_sliceV f0_0)) (wv (.bool (decide (((a0).length : Int) > (60:Int)))) z z z (wl_nil (tn ?_)))))))))))))))
 refine bsplit (decide (((a0).length : Int) > (60:Int))) (fun hc320 => ?_) (fun hc320 => ?_)
 {
 replace hm := bif_t hc320 hm
 refine wp_ift (cvb hc320) ?_
 refine wp_seq (wrl (wv (v317) z z z (wv ((.slice none 0 0)) z z z (wv (v317) z z z (wv ((.slice none 0 0)) z z z (wv (.bool false) z z z (wl_nil (tn (wp_ret (then_r ?_))))))))))
 replace hst := hst.own_nil ty_ref11_Version
 obtain rfl := some_inj hm
 refine post_ret (vs := [v317, Zs, .bool false]) results9 (rvs_cons (rv_tmp z) (rvs_cons (rv_tmp z) (rvs_cons (rv_tmp z) rvs_nil))) ?_
 replace hst := hst.pull1
 exact ⟨_, v317, Zs, z, hI0, hst.keep2⟩
}
 {
 replace hm := bif_f hc320 hm
 refine wp_iff (cvb hc320) ?_
 refine wp_skip (tn ?_)
 obtain ⟨y613, hm, hx614⟩ := joinO_some hm
 refine wp_cut (fun a w => ∃ (I610 : HL) (z606 : mvcc_Store) (z609 : (List ref11_Version)) (v608 : Value) (σ611 : Nat → Value), (law11_fill_j0) (z606, z609) = some r ∧ a = Fr 78 (upd (upd σ611 5 (v317)) 6 (v608)) ∧ I.le I610 ∧ St w0 w I610 [at_mvcc_Store v317 z606, ownS ty_ref11_Version v608 z609] R) ?_ ?_
 {
 have hL615 := HL.le.refl I
 refine wp_seq (wrl (wv (.int .i64 (0:Int)) z z z (wl_nil (tn (wp_block ?_)))))
 replace hst := hst.own_nil ty_ref11_Version
 obtain ⟨n532, hm⟩ := loopO_some hm
 refine wp_loop_n (fun n a w => ∃ (I530 : HL) (z525 : mvcc_Store) (z526 : (List ref11_Version)) (z529 : Int) (v527 : Value) (σ531 : Nat → Value), loopN (law11_fill_l1 a0) n (z525, z526, z529) = some y613 ∧ a = Fr 78 (upd (upd (upd (upd σ531 0 (r0_0)) 5 (v317)) 6 (v527)) 7 (.int .i64 z529)) ∧ I.le I530 ∧ St w0 w I530 [ownS ty_ref11_Version v527 z526, at_mvcc_Store v317 z525] R) n532 ⟨_, t312, [], (0:Int), Zs, _, hm, (fu 0 r0_0 z (fu 5 v317 z (fu 6 (.slice none 0 0) z (fu 7 (.int .i64 (0:Int)) z z)))), (HL.le.refl _), hst⟩ ?_
 rintro n538 _ w533 ⟨I530, z525, z526, z529, v527, σ531, hm, rfl, hL534, hst⟩
 obtain ⟨n535, y536, rfl, hm, hx537⟩ := loopN_some hm
 dsimp only [law11_fill_l1] at hm
 replace f0_0 := f0_0.mono (ro_le hL534)
 replace hI0 := hI0.trans hL534
 replace hL615 := hL615.trans hL534
 refine wp_seq (wp_seq (wrl (wv (.int .i64 z529) z z z (wv (r0_0) z z z (wv (.int .i64 ((a0).length : Int)) z z (x_len z underlying22 (ro_sliceV f0_0)) (wv (.bool (decide (z529 < ((a0).length : Int)))) z z z (wl_nil (tn ?_))))))))
 refine bsplit (decide (z529 < ((a0).length : Int))) (fun hc539 => ?_) (fun hc539 => ?_)
 {
 replace hm := bif_t hc539 hm
 refine wp_ift (cvb hc539) ?_
 refine wp_skip (tn (wp_seq (wp_block (wp_seq (wp_seq (wrl ?_))))))
 refine wv (r0_0) z z z (wv (.int .i64 z529) z z z ?_)
 obtain ⟨x540, hx541, hm⟩ := bind_some hm
 obtain ⟨h542, h543, hi544⟩ := geto_some hx541
 refine wv (.pointer (some (eAddr r0_0 (z529.toNat * 6 + 0)))) z z (x_index z z underlying22 sizeOf64 (ro_sliceV f0_0) h542 h543) (wv (.pointer (some (eAddr r0_0 (z529.toNat * 6 + 5)))) z z (x_field_e z underlying64 z sizeOf32 z) ?_)
 obtain ⟨cs545, hr546, hc547⟩ := Ro.getF f0_0 hi544
 obtain ⟨v548, rfl, f549, -⟩ := hr546
 refine wv (v548) z z (x_load z isAgg32 ((hc547 (HL.le.refl _) hst) 5 _ z)) (wv (.int .i64 ((x540.V).length : Int)) z z (x_len z underlying32 (ro_sliceV f549)) (wv (.bool (decide (((x540.V).length : Int) > (100:Int)))) z z z (wl_nil (tn ?_))))
 refine bsplit (decide (((x540.V).length : Int) > (100:Int))) (fun hc551 => ?_) (fun hc551 => ?_)
 {
 replace hm := bif_t hc551 hm
 refine wp_ift (cvb hc551) ?_
 refine wp_seq (wrl (wv (v317) z z z (wv (v527) z z z (wv (v317) z z z (wv (v527) z z z (wv (.bool false) z z z (wl_nil (tn (wp_ret (then_r (blk_r (then_r (then_r ?_)))))))))))))
 replace hm := inr_up hm hx537
 refine blk_r (then_r ?_)
 replace hm := inr_up hm hx614
 obtain rfl := some_inj hm
 refine post_ret (vs := [v317, v527, .bool false]) results9 (rvs_cons (rv_tmp z) (rvs_cons (rv_tmp z) (rvs_cons (rv_tmp z) rvs_nil))) ?_
 replace hst := hst.pull1
 exact ⟨_, v317, v527, z, hI0, hst.keep2⟩
}
 {
 replace hm := bif_f hc551 hm
 refine wp_iff (cvb hc551) ?_
 refine wp_skip (tn (wp_seq ?_))
 obtain ⟨y585, hm, hx586⟩ := bind_some hm
 refine wp_mid (fun a w => ∃ (z582 : Nat) (b581 : Nat) (σ583 : Nat → Value), (law11_fill_j2 z525 x540 z526 z529) z582 = some y536 ∧ a = Fr 78 (upd (upd (upd (upd (upd σ583 0 (r0_0)) 5 (v317)) 6 (v527)) 7 (.int .i64 z529)) 8 (Pt b581 0)) ∧ St w0 w I530 [at_mvcc_Store v317 z525, ownS ty_ref11_Version v527 z526, cells b581 [F6 z582, U6 (u64.wrap (Int.tmod x540.E (8:Int))), U6 (u64.wrap (Int.tmod x540.I (5:Int))), .bool x540.Del, v548]] R) ?_ ?_
 {
 refine wp_region_St hst 32 [0, 1, 2, 3, 4, 5, 6, 7, 8, 9, 10, 11, 12, 13, 14, 15, 16, 17, 18, 19, 20, 21, 22, 23, 24, 25, 26, 27, 28, 29, 30, 31] [0, 0, 3, 7, 15, 0, 0, 96, 224, 480, 992, 2016, 0, 0, 12288, 28672, 61440, 126976, 258048, 0, 0, 1572864, 3670016, 7864320, 0, 0, 50331648, 117440512, 251658240, 536870911, 0, 2147483647] [] z (by kernel_rfl) (by kernel_rfl) Try.mixed (by kernel_rfl) ?_
 refine wsr (r0_0) 0 z z z (by kernel_rfl) (fun w hst => z) (wsr (.int .i64 z529) 1 z z z (by kernel_rfl) (fun w hst => z) (wsr (.pointer (some (eAddr r0_0 (z529.toNat * 6 + 0)))) 2 z z z (by kernel_rfl) (fun w hst => x_index z z underlying22 sizeOf64 (ro_sliceV f0_0) h542 h543) (wsr (.agg #[U1 x540.At, F6 x540.X, U1 x540.E, U1 x540.I, .bool x540.Del, v548]) 3 z z z (by kernel_rfl) (fun w hst => x_loadN (cs := [U1 x540.At, F6 x540.X, U1 x540.E, U1 x540.I, .bool x540.Del, v548]) z isAgg64 sizeOf64 (eCells (o := 0) (hc547 (HL.le.refl _) hst) z)) (wsr (r0_0) 5 z z z (by kernel_rfl) (fun w hst => z) (wsr (.int .i64 z529) 6 z z z (by kernel_rfl) (fun w hst => z) (wsr (.pointer (some (eAddr r0_0 (z529.toNat * 6 + 0)))) 7 z z z (by kernel_rfl) (fun w hst => x_index z z underlying22 sizeOf64 (ro_sliceV f0_0) h542 h543) (wsr (.pointer (some (eAddr r0_0 (z529.toNat * 6 + 2)))) 8 z z z (by kernel_rfl) (fun w hst => x_field_e z underlying64 z sizeOf5 z) (wsr (.int .u8 x540.E) 9 z z z (by kernel_rfl) (fun w hst => x_load z isAgg5 ((hc547 (HL.le.refl _) hst) 2 _ z)) (wsr (.int .u8 (Int.tmod x540.E (8:Int))) 10 z z z (by kernel_rfl) (fun w hst => x_rem (by decide) z z) (wsr (.int .u64 (u64.wrap (Int.tmod x540.E (8:Int)))) 11 z z z (by kernel_rfl) (fun w hst => by kernel_rfl) (wsr (r0_0) 12 z z z (by kernel_rfl) (fun w hst => z) (wsr (.int .i64 z529) 13 z z z (by kernel_rfl) (fun w hst => z) ?_))))))))))))
 refine wsr (.pointer (some (eAddr r0_0 (z529.toNat * 6 + 0)))) 14 z z z (by kernel_rfl) (fun w hst => x_index z z underlying22 sizeOf64 (ro_sliceV f0_0) h542 h543) (wsr (.pointer (some (eAddr r0_0 (z529.toNat * 6 + 3)))) 15 z z z (by kernel_rfl) (fun w hst => x_field_e z underlying64 z sizeOf5 z) (wsr (.int .u8 x540.I) 16 z z z (by kernel_rfl) (fun w hst => x_load z isAgg5 ((hc547 (HL.le.refl _) hst) 3 _ z)) (wsr (.int .u8 (Int.tmod x540.I (5:Int))) 17 z z z (by kernel_rfl) (fun w hst => x_rem (by decide) z z) (wsr (.int .u64 (u64.wrap (Int.tmod x540.I (5:Int)))) 18 z z z (by kernel_rfl) (fun w hst => by kernel_rfl) (wsr (r0_0) 19 z z z (by kernel_rfl) (fun w hst => z) (wsr (.int .i64 z529) 20 z z z (by kernel_rfl) (fun w hst => z) (wsr (.pointer (some (eAddr r0_0 (z529.toNat * 6 + 0)))) 21 z z z (by kernel_rfl) (fun w hst => x_index z z underlying22 sizeOf64 (ro_sliceV f0_0) h542 h543) (wsr (.pointer (some (eAddr r0_0 (z529.toNat * 6 + 4)))) 22 z z z (by kernel_rfl) (fun w hst => x_field_e z underlying64 z sizeOf4 z) (wsr (.bool x540.Del) 23 z z z (by kernel_rfl) (fun w hst => x_load z isAgg4 ((hc547 (HL.le.refl _) hst) 4 _ z)) (wsr (r0_0) 24 z z z (by kernel_rfl) (fun w hst => z) (wsr (.int .i64 z529) 25 z z z (by kernel_rfl) (fun w hst => z) (wsr (.pointer (some (eAddr r0_0 (z529.toNat * 6 + 0)))) 26 z z z (by kernel_rfl) (fun w hst => x_index z z underlying22 sizeOf64 (ro_sliceV f0_0) h542 h543) ?_))))))))))))
 refine wsr (.pointer (some (eAddr r0_0 (z529.toNat * 6 + 5)))) 27 z z z (by kernel_rfl) (fun w hst => x_field_e z underlying64 z sizeOf32 z) (wsr (v548) 28 z z z (by kernel_rfl) (fun w hst => x_load z isAgg32 ((hc547 (HL.le.refl _) hst) 5 _ z)) ?_)
 refine ws_e2 4 30 (by kernel_rfl) ?_ ?_
 {
 refine nxe [29, 30, 31] (by kernel_rfl) z z ?_
 clear hst
 intro w hst
 obtain ⟨t552, ht553, hm⟩ := bind_some hm
 refine wec call28 [.agg #[U1 x540.At, F6 x540.X, U1 x540.E, U1 x540.I, .bool x540.Del, v548]] z z ?_
 refine (law11_at_ref (f549.mono ro_rd) hst.to0 ht553).mono ?_
 rintro _ w554 ⟨rfl, hst⟩
 refine ⟨_, z, ?_⟩
 replace hst := hst.of0
 refine ws_next (pend' := [(28, v548), (27, .pointer (some (eAddr r0_0 (z529.toNat * 6 + 5)))), (26, .pointer (some (eAddr r0_0 (z529.toNat * 6 + 0)))), (25, I6 z529), (24, r0_0), (23, .bool x540.Del), (22, .pointer (some (eAddr r0_0 (z529.toNat * 6 + 4)))), (21, .pointer (some (eAddr r0_0 (z529.toNat * 6 + 0)))), (20, I6 z529), (19, r0_0), (18, U6 (u64.wrap (Int.tmod x540.I (5:Int)))), (17, U1 (Int.tmod x540.I (5:Int))), (16, U1 x540.I), (15, .pointer (some (eAddr r0_0 (z529.toNat * 6 + 3)))), (14, .pointer (some (eAddr r0_0 (z529.toNat * 6 + 0)))), (13, I6 z529), (12, r0_0), (11, U6 (u64.wrap (Int.tmod x540.E (8:Int)))), (10, U1 (Int.tmod x540.E (8:Int))), (9, U1 x540.E), (8, .pointer (some (eAddr r0_0 (z529.toNat * 6 + 2)))), (7, .pointer (some (eAddr r0_0 (z529.toNat * 6 + 0)))), (6, I6 z529), (5, r0_0)]) hst (by kernel_rfl) (pkr z z (fun w hst => x_load z isAgg32 ((hc547 (HL.le.refl _) hst) 5 _ z)) (pkr z z (fun w hst => x_field_e z underlying64 z sizeOf32 z) (pkr z z (fun w hst => x_index z z underlying22 sizeOf64 (ro_sliceV f0_0) h542 h543) (pkr z z (fun w hst => z) (pkr z z (fun w hst => z) (pkr z z (fun w hst => x_load z isAgg4 ((hc547 (HL.le.refl _) hst) 4 _ z)) (pkr z z (fun w hst => x_field_e z underlying64 z sizeOf4 z) (pkr z z (fun w hst => x_index z z underlying22 sizeOf64 (ro_sliceV f0_0) h542 h543) (pkr z z (fun w hst => z) (pkr z z (fun w hst => z) (pkr z z (fun w hst => by kernel_rfl) (pkr z z (fun w hst => x_rem (by decide) z z) (pkr z z (fun w hst => x_load z isAgg5 ((hc547 (HL.le.refl _) hst) 3 _ z)) (pkr z z (fun w hst => x_field_e z underlying64 z sizeOf5 z) (pkr z z (fun w hst => x_index z z underlying22 sizeOf64 (ro_sliceV f0_0) h542 h543) (pkr z z (fun w hst => z) (pkr z z (fun w hst => z) (pkr z z (fun w hst => by kernel_rfl) (pkr z z (fun w hst => x_rem (by decide) z z) (pkr z z (fun w hst => x_load z isAgg5 ((hc547 (HL.le.refl _) hst) 2 _ z)) (pkr z z (fun w hst => x_field_e z underlying64 z sizeOf5 z) (pkr z z (fun w hst => x_index z z underlying22 sizeOf64 (ro_sliceV f0_0) h542 h543) (pkr z z (fun w hst => z) (pkr z z (fun w hst => z) pk_nil)))))))))))))))))))))))) ?_
 refine wsr (.agg #[F6 t552, U6 (u64.wrap (Int.tmod x540.E (8:Int))), U6 (u64.wrap (Int.tmod x540.I (5:Int))), .bool x540.Del, v548]) 29 rfl rfl rfl (by kernel_rfl) (fun w hst => by obtain ⟨_, _, hv_, _⟩ := (ro_sliceV f549); rw [hv_]; kernel_rfl) ?_
 refine ws_e1 30 (by kernel_rfl) ?_
 refine nxe [31] (by kernel_rfl) z z ?_
 clear hst
 intro w hst
 obtain ⟨b559, w560, ew561, eb562, hst⟩ := hst.box [Zf, Zu, Zu, .bool false, Zs] 67
 refine we_run (v := Pt b559 0) (w' := w560) z (x_al (by kernel_rfl) ew561 eb562) ?_
 refine ws_next (pend' := [(29, .agg #[F6 t552, U6 (u64.wrap (Int.tmod x540.E (8:Int))), U6 (u64.wrap (Int.tmod x540.I (5:Int))), .bool x540.Del, v548]), (28, v548), (27, .pointer (some (eAddr r0_0 (z529.toNat * 6 + 5)))), (26, .pointer (some (eAddr r0_0 (z529.toNat * 6 + 0)))), (25, I6 z529), (24, r0_0), (23, .bool x540.Del), (22, .pointer (some (eAddr r0_0 (z529.toNat * 6 + 4)))), (21, .pointer (some (eAddr r0_0 (z529.toNat * 6 + 0)))), (20, I6 z529), (19, r0_0), (18, U6 (u64.wrap (Int.tmod x540.I (5:Int)))), (17, U1 (Int.tmod x540.I (5:Int))), (16, U1 x540.I), (15, .pointer (some (eAddr r0_0 (z529.toNat * 6 + 3)))), (14, .pointer (some (eAddr r0_0 (z529.toNat * 6 + 0)))), (13, I6 z529), (12, r0_0), (11, U6 (u64.wrap (Int.tmod x540.E (8:Int)))), (10, U1 (Int.tmod x540.E (8:Int))), (9, U1 x540.E), (8, .pointer (some (eAddr r0_0 (z529.toNat * 6 + 2)))), (7, .pointer (some (eAddr r0_0 (z529.toNat * 6 + 0)))), (6, I6 z529), (5, r0_0)]) hst (by kernel_rfl) (pkr rfl rfl (fun w hst => by obtain ⟨_, _, hv_, _⟩ := (ro_sliceV f549); rw [hv_]; kernel_rfl) (pkr rfl rfl (fun w hst => x_load rfl isAgg32 ((hc547 (HL.le.refl _) hst) 5 _ rfl)) (pkr rfl rfl (fun w hst => x_field_e rfl underlying64 rfl sizeOf32 rfl) (pkr rfl rfl (fun w hst => x_index rfl rfl underlying22 sizeOf64 (ro_sliceV f0_0) h542 h543) (pkr rfl rfl (fun w hst => rfl) (pkr rfl rfl (fun w hst => rfl) (pkr rfl rfl (fun w hst => x_load rfl isAgg4 ((hc547 (HL.le.refl _) hst) 4 _ rfl)) (pkr rfl rfl (fun w hst => x_field_e rfl underlying64 rfl sizeOf4 rfl) (pkr rfl rfl (fun w hst => x_index rfl rfl underlying22 sizeOf64 (ro_sliceV f0_0) h542 h543) (pkr rfl rfl (fun w hst => rfl) (pkr rfl rfl (fun w hst => rfl) (pkr rfl rfl (fun w hst => by kernel_rfl) (pkr rfl rfl (fun w hst => x_rem (by decide) rfl rfl) (pkr rfl rfl (fun w hst => x_load rfl isAgg5 ((hc547 (HL.le.refl _) hst) 3 _ rfl)) (pkr rfl rfl (fun w hst => x_field_e rfl underlying64 rfl sizeOf5 rfl) (pkr rfl rfl (fun w hst => x_index rfl rfl underlying22 sizeOf64 (ro_sliceV f0_0) h542 h543) (pkr rfl rfl (fun w hst => rfl) (pkr rfl rfl (fun w hst => rfl) (pkr rfl rfl (fun w hst => by kernel_rfl) (pkr rfl rfl (fun w hst => x_rem (by decide) rfl rfl) (pkr rfl rfl (fun w hst => x_load rfl isAgg5 ((hc547 (HL.le.refl _) hst) 2 _ rfl)) (pkr rfl rfl (fun w hst => x_field_e rfl underlying64 rfl sizeOf5 rfl) (pkr rfl rfl (fun w hst => x_index rfl rfl underlying22 sizeOf64 (ro_sliceV f0_0) h542 h543) (pkr rfl rfl (fun w hst => rfl) (pkr rfl rfl (fun w hst => rfl) pk_nil))))))))))))))))))))))))) ?_
 refine ws_e1 31 (by kernel_rfl) ?_
 refine nxe [] (by kernel_rfl) z z ?_
 clear hst
 intro w hst
 obtain ⟨w564, hr565, hst⟩ := hst.bx [F6 t552, U6 (u64.wrap (Int.tmod x540.E (8:Int))), U6 (u64.wrap (Int.tmod x540.I (5:Int))), .bool x540.Del, v548] sizeOf67 z (oC z (oC z (oC z (oC z (oC (one_of_sliceV (ro_sliceV f549)) oN))))) (by kernel_rfl)
 refine we_unit z (x_unit hr565) ?_
 refine ws_next (pend' := []) hst (by kernel_rfl) pk_nil ?_
 refine ws_nil ?_
 intro w hst
 refine ⟨z, ?_⟩
 replace hst := hst.pull1.pull2.keep3
 obtain rfl := some_inj hm
 exact ⟨t552, b559, _, hx586, (fu 0 r0_0 z (fu 5 v317 z (fu 6 v527 z (fu 7 (.int .i64 z529) z (fu 8 (Pt b559 0) z z))))), hst⟩
}
 {
 refine nxe [4, 29, 31] (by kernel_rfl) z z ?_
 clear hst
 intro w hst
 obtain ⟨b567, w568, ew569, eb570, hst⟩ := hst.box [Zf, Zu, Zu, .bool false, Zs] 67
 refine we_run (v := Pt b567 0) (w' := w568) z (x_al (by kernel_rfl) ew569 eb570) ?_
 refine ws_next (pend' := [(28, v548), (27, .pointer (some (eAddr r0_0 (z529.toNat * 6 + 5)))), (26, .pointer (some (eAddr r0_0 (z529.toNat * 6 + 0)))), (25, I6 z529), (24, r0_0), (23, .bool x540.Del), (22, .pointer (some (eAddr r0_0 (z529.toNat * 6 + 4)))), (21, .pointer (some (eAddr r0_0 (z529.toNat * 6 + 0)))), (20, I6 z529), (19, r0_0), (18, U6 (u64.wrap (Int.tmod x540.I (5:Int)))), (17, U1 (Int.tmod x540.I (5:Int))), (16, U1 x540.I), (15, .pointer (some (eAddr r0_0 (z529.toNat * 6 + 3)))), (14, .pointer (some (eAddr r0_0 (z529.toNat * 6 + 0)))), (13, I6 z529), (12, r0_0), (11, U6 (u64.wrap (Int.tmod x540.E (8:Int)))), (10, U1 (Int.tmod x540.E (8:Int))), (9, U1 x540.E), (8, .pointer (some (eAddr r0_0 (z529.toNat * 6 + 2)))), (7, .pointer (some (eAddr r0_0 (z529.toNat * 6 + 0)))), (6, I6 z529), (5, r0_0), (3, .agg #[U1 x540.At, F6 x540.X, U1 x540.E, U1 x540.I, .bool x540.Del, v548]), (2, .pointer (some (eAddr r0_0 (z529.toNat * 6 + 0)))), (1, I6 z529), (0, r0_0)]) hst (by kernel_rfl) (pkr z z (fun w hst => x_load z isAgg32 ((hc547 (HL.le.refl _) hst) 5 _ z)) (pkr z z (fun w hst => x_field_e z underlying64 z sizeOf32 z) (pkr z z (fun w hst => x_index z z underlying22 sizeOf64 (ro_sliceV f0_0) h542 h543) (pkr z z (fun w hst => z) (pkr z z (fun w hst => z) (pkr z z (fun w hst => x_load z isAgg4 ((hc547 (HL.le.refl _) hst) 4 _ z)) (pkr z z (fun w hst => x_field_e z underlying64 z sizeOf4 z) (pkr z z (fun w hst => x_index z z underlying22 sizeOf64 (ro_sliceV f0_0) h542 h543) (pkr z z (fun w hst => z) (pkr z z (fun w hst => z) (pkr z z (fun w hst => by kernel_rfl) (pkr z z (fun w hst => x_rem (by decide) z z) (pkr z z (fun w hst => x_load z isAgg5 ((hc547 (HL.le.refl _) hst) 3 _ z)) (pkr z z (fun w hst => x_field_e z underlying64 z sizeOf5 z) (pkr z z (fun w hst => x_index z z underlying22 sizeOf64 (ro_sliceV f0_0) h542 h543) (pkr z z (fun w hst => z) (pkr z z (fun w hst => z) (pkr z z (fun w hst => by kernel_rfl) (pkr z z (fun w hst => x_rem (by decide) z z) (pkr z z (fun w hst => x_load z isAgg5 ((hc547 (HL.le.refl _) hst) 2 _ z)) (pkr z z (fun w hst => x_field_e z underlying64 z sizeOf5 z) (pkr z z (fun w hst => x_index z z underlying22 sizeOf64 (ro_sliceV f0_0) h542 h543) (pkr z z (fun w hst => z) (pkr z z (fun w hst => z) (pkr z z (fun w hst => x_loadN (cs := [U1 x540.At, F6 x540.X, U1 x540.E, U1 x540.I, .bool x540.Del, v548]) z isAgg64 sizeOf64 (eCells (o := 0) (hc547 (HL.le.refl _) hst) z)) (pkr z z (fun w hst => x_index z z underlying22 sizeOf64 (ro_sliceV f0_0) h542 h543) (pkr z z (fun w hst => z) (pkr z z (fun w hst => z) pk_nil)))))))))))))))))))))))))))) ?_
 refine ws_e1 4 (by kernel_rfl) ?_
 refine nxe [29, 31] (by kernel_rfl) z z ?_
 clear hst
 intro w hst
 obtain ⟨t572, ht573, hm⟩ := bind_some hm
 refine wec call28 [.agg #[U1 x540.At, F6 x540.X, U1 x540.E, U1 x540.I, .bool x540.Del, v548]] z z ?_
 refine (law11_at_ref (f549.mono ro_rd) hst.to0 ht573).mono ?_
 rintro _ w574 ⟨rfl, hst⟩
 refine ⟨_, z, ?_⟩
 replace hst := hst.of0
 refine ws_next (pend' := [(28, v548), (27, .pointer (some (eAddr r0_0 (z529.toNat * 6 + 5)))), (26, .pointer (some (eAddr r0_0 (z529.toNat * 6 + 0)))), (25, I6 z529), (24, r0_0), (23, .bool x540.Del), (22, .pointer (some (eAddr r0_0 (z529.toNat * 6 + 4)))), (21, .pointer (some (eAddr r0_0 (z529.toNat * 6 + 0)))), (20, I6 z529), (19, r0_0), (18, U6 (u64.wrap (Int.tmod x540.I (5:Int)))), (17, U1 (Int.tmod x540.I (5:Int))), (16, U1 x540.I), (15, .pointer (some (eAddr r0_0 (z529.toNat * 6 + 3)))), (14, .pointer (some (eAddr r0_0 (z529.toNat * 6 + 0)))), (13, I6 z529), (12, r0_0), (11, U6 (u64.wrap (Int.tmod x540.E (8:Int)))), (10, U1 (Int.tmod x540.E (8:Int))), (9, U1 x540.E), (8, .pointer (some (eAddr r0_0 (z529.toNat * 6 + 2)))), (7, .pointer (some (eAddr r0_0 (z529.toNat * 6 + 0)))), (6, I6 z529), (5, r0_0)]) hst (by kernel_rfl) (pkr z z (fun w hst => x_load z isAgg32 ((hc547 (HL.le.refl _) hst) 5 _ z)) (pkr z z (fun w hst => x_field_e z underlying64 z sizeOf32 z) (pkr z z (fun w hst => x_index z z underlying22 sizeOf64 (ro_sliceV f0_0) h542 h543) (pkr z z (fun w hst => z) (pkr z z (fun w hst => z) (pkr z z (fun w hst => x_load z isAgg4 ((hc547 (HL.le.refl _) hst) 4 _ z)) (pkr z z (fun w hst => x_field_e z underlying64 z sizeOf4 z) (pkr z z (fun w hst => x_index z z underlying22 sizeOf64 (ro_sliceV f0_0) h542 h543) (pkr z z (fun w hst => z) (pkr z z (fun w hst => z) (pkr z z (fun w hst => by kernel_rfl) (pkr z z (fun w hst => x_rem (by decide) z z) (pkr z z (fun w hst => x_load z isAgg5 ((hc547 (HL.le.refl _) hst) 3 _ z)) (pkr z z (fun w hst => x_field_e z underlying64 z sizeOf5 z) (pkr z z (fun w hst => x_index z z underlying22 sizeOf64 (ro_sliceV f0_0) h542 h543) (pkr z z (fun w hst => z) (pkr z z (fun w hst => z) (pkr z z (fun w hst => by kernel_rfl) (pkr z z (fun w hst => x_rem (by decide) z z) (pkr z z (fun w hst => x_load z isAgg5 ((hc547 (HL.le.refl _) hst) 2 _ z)) (pkr z z (fun w hst => x_field_e z underlying64 z sizeOf5 z) (pkr z z (fun w hst => x_index z z underlying22 sizeOf64 (ro_sliceV f0_0) h542 h543) (pkr z z (fun w hst => z) (pkr z z (fun w hst => z) pk_nil)))))))))))))))))))))))) ?_
 refine wsr (.agg #[F6 t572, U6 (u64.wrap (Int.tmod x540.E (8:Int))), U6 (u64.wrap (Int.tmod x540.I (5:Int))), .bool x540.Del, v548]) 29 rfl rfl rfl (by kernel_rfl) (fun w hst => by obtain ⟨_, _, hv_, _⟩ := (ro_sliceV f549); rw [hv_]; kernel_rfl) ?_
 refine ws_e1 31 (by kernel_rfl) ?_
 refine nxe [] (by kernel_rfl) z z ?_
 clear hst
 intro w hst
 obtain ⟨w578, hr579, hst⟩ := hst.bx [F6 t572, U6 (u64.wrap (Int.tmod x540.E (8:Int))), U6 (u64.wrap (Int.tmod x540.I (5:Int))), .bool x540.Del, v548] sizeOf67 z (oC z (oC z (oC z (oC z (oC (one_of_sliceV (ro_sliceV f549)) oN))))) (by kernel_rfl)
 refine we_unit z (x_unit hr579) ?_
 refine ws_next (pend' := []) hst (by kernel_rfl) pk_nil ?_
 refine ws_nil ?_
 intro w hst
 refine ⟨z, ?_⟩
 replace hst := hst.pull1.pull2.keep3
 obtain rfl := some_inj hm
 exact ⟨t572, b567, _, hx586, (fu 0 r0_0 z (fu 5 v317 z (fu 6 v527 z (fu 7 (.int .i64 z529) z (fu 8 (Pt b567 0) z z))))), hst⟩
}
}
 {
 clear hst
 rintro _ w587 ⟨z582, b581, σ583, hm, rfl, hst⟩
 dsimp only [law11_fill_j2] at hm
 refine tn (wp_seq (wrl (wv (v317) z z z (wv (Pt b581 0) z z (x_field z underlying67 z sizeOf23 z) (wv (.float .f64 z582) z z (x_load z isAgg23 (hst.bc2 z)) (wv (Pt b581 1) z z (x_field z underlying67 z sizeOf24 z) (wv (.int .u64 (u64.wrap (Int.tmod x540.E (8:Int)))) z z (x_load z isAgg24 (hst.bc2 z)) (wv (Pt b581 2) z z (x_field z underlying67 z sizeOf24 z) (wv (.int .u64 (u64.wrap (Int.tmod x540.I (5:Int)))) z z (x_load z isAgg24 (hst.bc2 z)) (wv (Pt b581 3) z z (x_field z underlying67 z sizeOf4 z) (wv (.bool x540.Del) z z (x_load z isAgg4 (hst.bc2 z)) (wv (Pt b581 4) z z (x_field z underlying67 z sizeOf32 z) (wv (v548) z z (x_load z isAgg32 (hst.bc2 z)) (wv (.agg #[U6 (u64.wrap (Int.tmod x540.E (8:Int))), U6 (u64.wrap (Int.tmod x540.I (5:Int))), .bool x540.Del, v548]) z z (by obtain ⟨_, _, hv_, _⟩ := (ro_sliceV f549); rw [hv_]; kernel_rfl) ?_))))))))))))))
 replace hst := objO_some hst
 obtain ⟨t589, ht590, hm⟩ := bind_some hm
 refine wc call22 [v317, F6 z582, .agg #[U6 (u64.wrap (Int.tmod x540.E (8:Int))), U6 (u64.wrap (Int.tmod x540.I (5:Int))), .bool x540.Del, v548]] z z z ?_
 refine (mvcc_Store_Put_ref (a2 := ({ Epoch := (u64.wrap (Int.tmod x540.E (8:Int))), Index := (u64.wrap (Int.tmod x540.I (5:Int))), Del := x540.Del, Val := x540.V } : mvcc_Version)) (f549.mono ro_rd) hst.to1 ht590).mono ?_
 rintro _ w591 ⟨I592, rfl, hI593, hst⟩
 refine ⟨_, z, ?_⟩
 replace hst := hst.of1
 replace f0_0 := f0_0.mono (ro_le hI593)
 replace f549 := f549.mono (ro_le hI593)
 replace hI0 := hI0.trans hI593
 replace hL615 := hL615.trans hI593
 replace hL534 := hL534.trans hI593
 rcases he595 : t589 with _ | y594
 · rw [he595] at hm; cases hm
 rw [he595] at hm hst; dsimp only at hm; replace hst := objO_get hst
 refine wl_nil (tn (wrl (wv (v527) z z z (wv (.agg #[F6 z582, U6 (u64.wrap (Int.tmod x540.E (8:Int))), U6 (u64.wrap (Int.tmod x540.I (5:Int))), .bool x540.Del, v548]) z z (x_loadN (cs := [F6 z582, U6 (u64.wrap (Int.tmod x540.E (8:Int))), U6 (u64.wrap (Int.tmod x540.I (5:Int))), .bool x540.Del, v548]) z isAgg67 sizeOf67 (hst.bcs2 0 z)) ?_))))
 replace hst := hst.pull1
 obtain ⟨I596, hI597, f598, hst⟩ := hst.own_fix
 replace f0_0 := f0_0.mono (ro_le hI597)
 replace f549 := f549.mono (ro_le hI597)
 replace hI0 := hI0.trans hI597
 replace hL615 := hL615.trans hI597
 replace hL534 := hL534.trans hI597
 obtain ⟨t599, ht600, hm⟩ := bind_some hm
 refine wc call29 [v527, .agg #[F6 z582, U6 (u64.wrap (Int.tmod x540.E (8:Int))), U6 (u64.wrap (Int.tmod x540.I (5:Int))), .bool x540.Del, v548]] z z z ?_
 refine (ref11_Put_ref (a1 := ({ At := z582, Epoch := (u64.wrap (Int.tmod x540.E (8:Int))), Index := (u64.wrap (Int.tmod x540.I (5:Int))), Del := x540.Del, Val := x540.V } : ref11_Version)) f598 f549 hst.to0 ht600).mono ?_
 rintro _ w601 ⟨v604, rfl, hst⟩
 refine ⟨_, z, ?_⟩
 replace hst := hst.of1
 refine wv (v604) z z z (wl_nil (blk_n (tn (wrl (wv (.int .i64 z529) z z z (wv (.int .i64 (i64.wrap (z529 + (1:Int)))) z z z (wv (.int .i64 (i64.wrap (z529 + (1:Int)))) z z z (wl_nil (tn ?_)))))))))
 replace hst := hst.pull1.pull1.keep2
 obtain rfl := some_inj hm
 exact ⟨_, Nat.lt_succ_self _, _, y594, t599, (i64.wrap (z529 + (1:Int))), v604, _, hx537, (fu 0 r0_0 z (fu 5 v317 z (fu 6 v604 z (fu 7 (.int .i64 (i64.wrap (z529 + (1:Int)))) z z)))), hL534, hst⟩
}
}
}
 {
 replace hm := bif_f hc539 hm
 refine wp_iff (cvb hc539) ?_
 refine wp_exit (then_x (then_x ?_))
 replace hm := inr_up hm hx537
 refine blk_x (tn ?_)
 replace hst := hst.pull1.keep2
 obtain rfl := some_inj hm
 exact ⟨_, z525, z526, v527, _, hx614, (fu 5 v317 z (fu 6 v527 z z)), hL615, hst⟩
}
}
 {
 clear hst
 rintro _ w616 ⟨I610, z606, z609, v608, σ611, hm, rfl, hL612, hst⟩
 dsimp only [law11_fill_j0] at hm
 replace f0_0 := f0_0.mono (ro_le hL612)
 replace hI0 := hI0.trans hL612
 refine wp_seq (wrl (wv (v317) z z z (wv (v608) z z z (wv (v317) z z z (wv (v608) z z z (wv (.bool true) z z z (wl_nil (tn (wp_ret ?_)))))))))
 obtain rfl := some_inj hm
 refine post_ret (vs := [v317, v608, .bool true]) results9 (rvs_cons (rv_tmp z) (rvs_cons (rv_tmp z) (rvs_cons (rv_tmp z) rvs_nil))) ?_
 replace hst := hst.pull1.pull1
 exact ⟨_, v317, v608, z, hI0, hst.keep2⟩
}
}
}

theorem mvcc_read_ref {w0 w : World} {I : HL} {R : SP} {a0 : (List mvcc_Version)} {r0_0 : Value} {a1 : Int} (f0_0 : Rd ty_mvcc_Version R I r0_0 a0) (hst : St w0 w I [] R) {r : (api_Got)} (hm : mvcc_read a0 a1 = some r) :
  Calls prog 33 #[r0_0, U6 a1] w fun e w' => ∃ (q0_0 : Value), e = .returned (.agg #[.bool r.Has, q0_0]) ∧ St w0 w' I [ownS (tyInt .u8) q0_0 r.Val] R := by {
 unfold mvcc_read at hm
 refine calls_start (args := [r0_0, U6 a1]) func33 z ntmps33 (Nat.le_of_ble_eq_true z) ?_
 refine wp_seq (wrl ?_)
 have hv224 := (rd_sliceV f0_0)
 obtain ⟨b218, w219, ew220, eb221, hst⟩ := hst.box [r0_0] 53
 refine wl_run (v := Pt b218 0) (w' := w219) z z (x_al (by obtain ⟨_, _, hv_, _⟩ := hv224; rw [hv_]; kernel_rfl) ew220 eb221) ?_
 obtain ⟨b225, w226, ew227, eb228, hst⟩ := hst.box [U6 a1] 24
 refine wl_run (v := Pt b225 0) (w' := w226) z z (x_al (by kernel_rfl) ew227 eb228) ?_
 obtain ⟨b231, w232, ew233, eb234, hst⟩ := hst.box [.bool false, Zs] 34
 refine wl_run (v := Pt b231 0) (w' := w232) z z (x_al (by kernel_rfl) ew233 eb234) ?_
 refine wl_nil (tn (wp_seq (wrl (wv (r0_0) z z (x_load z isAgg53 (hst.bc2 z)) (wv (.int .i64 ((a0).length : Int)) z z (x_len z underlying53 (rd_sliceV f0_0)) (wv (.func (.func 61) #[] #[Pt b218 0, Pt b225 0]) z z (by kernel_rfl) ?_))))))
 obtain ⟨y304, hq305, hm⟩ := bind_some hm
 refine wl_call z z (x_callv call38 (caps := []) z (vs := [I6 ((a0).length : Int), .func (.func 61) #[] #[Pt b218 0, Pt b225 0]]) z) ?_
 refine Calls.mono (show Calls prog 38 #[I6 ((a0).length : Int), .func (.func 61) #[] #[Pt b218 0, Pt b225 0]] _ (fun e w' => ∃ (z302 : Int), z302 = y304 ∧ e = .returned (.int .i64 z302) ∧ St w0 w' I [cells b218 [r0_0], cells b225 [U6 a1], cells b231 [.bool false, Zs]] R) from ?_) ?_
 {
 clear hm; have hm := hq305
 refine calls_start (args := [I6 ((a0).length : Int), .func (.func 61) #[] #[Pt b218 0, Pt b225 0]]) func38 z ntmps38 (Nat.le_of_ble_eq_true z) ?_
 refine wp_seq (wrl (wv (.int .i64 (0:Int)) z z z (wl_nil (tn (wp_seq (wrl (wv (.int .i64 ((a0).length : Int)) z z z (wv (.int .i64 (0:Int)) z z z (wv (.int .i64 ((a0).length : Int)) z z z (wl_nil (tn (wp_seq (wp_block ?_)))))))))))))
 obtain ⟨n277, hm⟩ := loopO_some hm
 refine wp_loop_n (fun n a w => ∃ (z274 : Int) (z275 : Int) (σ276 : Nat → Value), loopN (mvcc_read_l0 a0 a1) n (z274, z275) = some y304 ∧ a = Fr 26 (upd (upd (upd σ276 1 (.func (.func 61) #[] #[Pt b218 0, Pt b225 0])) 5 (.int .i64 z274)) 6 (.int .i64 z275)) ∧ St w0 w I [cells b231 [.bool false, Zs], cells b225 [U6 a1], cells b218 [r0_0]] R) n277 ⟨(0:Int), ((a0).length : Int), _, hm, (fu 1 (.func (.func 61) #[] #[Pt b218 0, Pt b225 0]) z (fu 5 (.int .i64 (0:Int)) z (fu 6 (.int .i64 ((a0).length : Int)) z z))), hst⟩ ?_
 rintro n283 _ w278 ⟨z274, z275, σ276, hm, rfl, hst⟩
 obtain ⟨n280, y281, rfl, hm, hx282⟩ := loopN_some hm
 dsimp only [mvcc_read_l0] at hm
 refine wp_seq (wp_seq (wrl (wv (.int .i64 z274) z z z (wv (.int .i64 z275) z z z (wv (.bool (decide (z274 < z275))) z z z (wl_nil (tn ?_)))))))
 refine bsplit (decide (z274 < z275)) (fun hc284 => ?_) (fun hc284 => ?_)
 {
 replace hm := bif_t hc284 hm
 refine wp_ift (cvb hc284) ?_
 refine wp_skip (tn (wp_block (wp_seq (wrl ?_))))
 refine wv (.int .i64 z274) z z z (wv (.int .i64 z275) z z z (wv (.int .i64 (i64.wrap (z274 + z275))) z z z (wv (.int .u64 (u64.wrap (i64.wrap (z274 + z275)))) z z (by kernel_rfl) (wv (.int .u64 (iShr .u64 (u64.wrap (i64.wrap (z274 + z275))) (1:Int))) z z (x_shr (by decide) z z) (wv (.int .i64 (i64.wrap (iShr .u64 (u64.wrap (i64.wrap (z274 + z275))) (1:Int)))) z z (by kernel_rfl) (wv (.int .i64 (i64.wrap (iShr .u64 (u64.wrap (i64.wrap (z274 + z275))) (1:Int)))) z z z (wl_nil (tn (wp_seq (wrl (wv (.func (.func 61) #[] #[Pt b218 0, Pt b225 0]) z z z (wv (.int .i64 (i64.wrap (iShr .u64 (u64.wrap (i64.wrap (z274 + z275))) (1:Int)))) z z z ?_))))))))))))
 obtain ⟨y298, hq299, hm⟩ := bind_some hm
 refine wl_call z z (x_callv call61 (caps := [Pt b218 0, Pt b225 0]) z (vs := [I6 (i64.wrap (iShr .u64 (u64.wrap (i64.wrap (z274 + z275))) (1:Int)))]) z) ?_
 refine Calls.mono (show Calls prog 61 #[I6 (i64.wrap (iShr .u64 (u64.wrap (i64.wrap (z274 + z275))) (1:Int))), Pt b218 0, Pt b225 0] _ (fun e w' => ∃ (z296 : Bool), z296 = y298 ∧ e = .returned (.bool z296) ∧ St w0 w' I [cells b218 [r0_0], cells b225 [U6 a1], cells b231 [.bool false, Zs]] R) from ?_) ?_
 {
 clear hm; have hm := hq299
 refine calls_start (args := [I6 (i64.wrap (iShr .u64 (u64.wrap (i64.wrap (z274 + z275))) (1:Int))), Pt b218 0, Pt b225 0]) func61 z ntmps61 (Nat.le_of_ble_eq_true z) ?_
 refine wp_seq (wrl (wv (.bool false) z z z (wl_nil (tn (wp_seq ?_)))))
 refine wq_regionS hst Try.mixed (by kernel_rfl) ?_
 refine wq_run (v := r0_0) z z (fun w hst => x_load z isAgg53 (hst.bc2 z)) ?_
 refine wq_run (v := .int .i64 (i64.wrap (iShr .u64 (u64.wrap (i64.wrap (z274 + z275))) (1:Int)))) z z (fun w hst => z) ?_
 obtain ⟨x285, hx286, hm⟩ := bind_some hm
 obtain ⟨h287, h288, hi289⟩ := geto_some hx286
 refine wq_run (v := .pointer (some (eAddr r0_0 ((i64.wrap (iShr .u64 (u64.wrap (i64.wrap (z274 + z275))) (1:Int))).toNat * 4 + 0)))) z z (fun w hst => x_index z z underlying53 sizeOf52 (rd_sliceV f0_0) h287 h288) ?_
 refine wq_run (v := .pointer (some (eAddr r0_0 ((i64.wrap (iShr .u64 (u64.wrap (i64.wrap (z274 + z275))) (1:Int))).toNat * 4 + 0)))) z z (fun w hst => x_field_e z underlying52 z sizeOf24 z) ?_
 obtain ⟨cs290, hr291, hc292⟩ := Rd.getF f0_0 hi289
 obtain ⟨v293, rfl, f294, -⟩ := hr291
 refine wq_run (v := .int .u64 x285.Epoch) z z (fun w hst => x_load z isAgg24 ((hc292 (HL.le.refl _) hst) 0 _ z)) ?_
 refine wq_run (v := .int .u64 a1) z z (fun w hst => x_load z isAgg24 (hst.bc1 z)) ?_
 refine wq_run (v := .bool (decide (x285.Epoch > a1))) z z (fun w hst => z) ?_
 refine wq_run (v := .bool (decide (x285.Epoch > a1))) z z (fun w hst => z) ?_
 refine wq_nil ?_
 intro w hst
 refine tn (wp_ret ?_)
 refine post_ret (vs := [.bool (decide (x285.Epoch > a1))]) results61 (rvs_cons (rv_tmp z) rvs_nil) ?_
 replace hst := hst.pull1.pull2.keep3
 obtain rfl := some_inj hm
 exact ⟨(decide (x285.Epoch > a1)), z, z, hst⟩
}
 clear hst
 rintro _ w300 ⟨z296, rfl, rfl, hst⟩
 refine ⟨_, z, ?_⟩
 try dsimp only at hm
 refine wv (.bool (!z296)) z z z (wl_nil (tn ?_))
 refine bsplit (!z296) (fun hc301 => ?_) (fun hc301 => ?_)
 {
 replace hm := bif_t hc301 hm
 refine wp_ift (cvb hc301) ?_
 refine wrl (wv (.int .i64 (i64.wrap (iShr .u64 (u64.wrap (i64.wrap (z274 + z275))) (1:Int)))) z z z (wv (.int .i64 (i64.wrap ((i64.wrap (iShr .u64 (u64.wrap (i64.wrap (z274 + z275))) (1:Int))) + (1:Int)))) z z z (wv (.int .i64 (i64.wrap ((i64.wrap (iShr .u64 (u64.wrap (i64.wrap (z274 + z275))) (1:Int))) + (1:Int)))) z z z (wl_nil (blk_n (tn ?_))))))
 replace hst := hst.pull1.pull2.keep3
 obtain rfl := some_inj hm
 exact ⟨_, Nat.lt_succ_self _, (i64.wrap ((i64.wrap (iShr .u64 (u64.wrap (i64.wrap (z274 + z275))) (1:Int))) + (1:Int))), z275, _, hx282, (fu 1 (.func (.func 61) #[] #[Pt b218 0, Pt b225 0]) z (fu 5 (.int .i64 (i64.wrap ((i64.wrap (iShr .u64 (u64.wrap (i64.wrap (z274 + z275))) (1:Int))) + (1:Int)))) z (fu 6 (.int .i64 z275) z z))), hst⟩
}
 {
 replace hm := bif_f hc301 hm
 refine wp_iff (cvb hc301) ?_
 refine wrl (wv (.int .i64 (i64.wrap (iShr .u64 (u64.wrap (i64.wrap (z274 + z275))) (1:Int)))) z z z (wv (.int .i64 (i64.wrap (iShr .u64 (u64.wrap (i64.wrap (z274 + z275))) (1:Int)))) z z z (wl_nil (blk_n (tn ?_)))))
 replace hst := hst.pull1.pull2.keep3
 obtain rfl := some_inj hm
 exact ⟨_, Nat.lt_succ_self _, z274, (i64.wrap (iShr .u64 (u64.wrap (i64.wrap (z274 + z275))) (1:Int))), _, hx282, (fu 1 (.func (.func 61) #[] #[Pt b218 0, Pt b225 0]) z (fu 5 (.int .i64 z274) z (fu 6 (.int .i64 (i64.wrap (iShr .u64 (u64.wrap (i64.wrap (z274 + z275))) (1:Int)))) z z))), hst⟩
}
}
 {
 replace hm := bif_f hc284 hm
 refine wp_iff (cvb hc284) ?_
 refine wp_exit (then_x (then_x ?_))
 replace hm := inr_up hm hx282
 refine blk_x (tn (wp_seq (wrl ?_)))
 refine wv (.int .i64 z274) z z z (wv (.int .i64 z274) z z z (wl_nil (tn (wp_ret ?_))))
 refine post_ret (vs := [I6 z274]) results38 (rvs_cons (rv_tmp z) rvs_nil) ?_
 replace hst := hst.pull1.pull2.keep3
 obtain rfl := some_inj hm
 exact ⟨z274, z, z, hst⟩
}
}
 clear hst
 rintro _ w306 ⟨z302, rfl, rfl, hst⟩
 refine ⟨_, z, ?_⟩
 try dsimp only at hm
 refine wv (.int .i64 z302) z z z (wl_nil (tn (wp_seq (wp_seq (wrl (wv (.int .i64 z302) z z z (wv (.bool (z302 == (0:Int))) z z z (wv (.bool (z302 == (0:Int))) z z z ?_))))))))
 refine bsplit (z302 == (0:Int)) (fun hc307 => ?_) (fun hc307 => ?_)
 {
 replace hm := bif_t hc307 hm
 refine wo hc307 z z z z z z (wo hc307 z z z z z z (wo hc307 z z z z z z (wo hc307 z z z z z z (wo hc307 z z z z z z (wo hc307 z z z z z z (wv (.bool true) z z (x_pick_t hc307 z z) (wl_nil (tn ?_))))))))
 refine wp_ift z ?_
 refine wp_seq (wrl (wv (.agg #[.bool false, Zs]) z z (by kernel_rfl) ?_))
 replace hst := hst.pull2
 obtain ⟨w309, hr310, hst⟩ := hst.bx [.bool false, Zs] sizeOf34 z (oC z (oC z oN)) (by kernel_rfl)
 refine wl_unit z z (x_unit hr310) ?_
 refine wl_nil (tn (wp_ret (then_r ?_)))
 replace hst := hst.own_nil (tyInt .u8)
 obtain rfl := some_inj hm
 refine post_ret (vs := [.agg #[.bool false, Zs]]) results33 (rvs_cons (rv_cell (cs := [.bool false, Zs]) z isAgg34 sizeOf34 (hst.bcs1 0 z)) rvs_nil) ?_
 exact ⟨(.slice none 0 0), z, hst.keep1⟩
}
 {
 replace hm := bif_f hc307 hm
 refine wv (r0_0) ((wanted_eq z z z (cvb hc307)).trans z) z (x_load z isAgg53 (hst.bc0 z)) (wv (.int .i64 z302) ((wanted_eq z z z (cvb hc307)).trans z) z z (wv (.int .i64 (i64.wrap (z302 - (1:Int)))) ((wanted_eq z z z (cvb hc307)).trans z) z z ?_))
 obtain ⟨x311, hx312, hm⟩ := bind_some hm
 obtain ⟨h313, h314, hi315⟩ := geto_some hx312
 refine wv (.pointer (some (eAddr r0_0 ((i64.wrap (z302 - (1:Int))).toNat * 4 + 0)))) ((wanted_eq z z z (cvb hc307)).trans z) z (x_index z z underlying53 sizeOf52 (rd_sliceV f0_0) h313 h314) (wv (.pointer (some (eAddr r0_0 ((i64.wrap (z302 - (1:Int))).toNat * 4 + 2)))) ((wanted_eq z z z (cvb hc307)).trans z) z (x_field_e z underlying52 z sizeOf4 z) ?_)
 obtain ⟨cs316, hr317, hc318⟩ := Rd.getF f0_0 hi315
 obtain ⟨v319, rfl, f320, -⟩ := hr317
 refine wv (.bool x311.Del) ((wanted_eq z z z (cvb hc307)).trans z) z (x_load z isAgg4 ((hc318 (HL.le.refl _) hst) 2 _ z)) (wv (.bool x311.Del) z z (x_pick_f hc307 z z) (wl_nil (tn ?_)))
 refine bsplit x311.Del (fun hc322 => ?_) (fun hc322 => ?_)
 {
 replace hm := bif_t hc322 hm
 refine wp_ift (cvb hc322) ?_
 refine wp_seq (wrl (wv (.agg #[.bool false, Zs]) z z (by kernel_rfl) ?_))
 replace hst := hst.pull2
 obtain ⟨w324, hr325, hst⟩ := hst.bx [.bool false, Zs] sizeOf34 z (oC z (oC z oN)) (by kernel_rfl)
 refine wl_unit z z (x_unit hr325) ?_
 refine wl_nil (tn (wp_ret (then_r ?_)))
 replace hst := hst.own_nil (tyInt .u8)
 obtain rfl := some_inj hm
 refine post_ret (vs := [.agg #[.bool false, Zs]]) results33 (rvs_cons (rv_cell (cs := [.bool false, Zs]) z isAgg34 sizeOf34 (hst.bcs1 0 z)) rvs_nil) ?_
 exact ⟨(.slice none 0 0), z, hst.keep1⟩
}
 {
 replace hm := bif_f hc322 hm
 refine wp_iff (cvb hc322) ?_
 refine wp_skip (tn (wp_seq (wrl ?_)))
 refine wv (r0_0) z z (x_load z isAgg53 (hst.bc0 z)) (wv (.int .i64 z302) z z z (wv (.int .i64 (i64.wrap (z302 - (1:Int)))) z z z (wv (.pointer (some (eAddr r0_0 ((i64.wrap (z302 - (1:Int))).toNat * 4 + 0)))) z z (x_index z z underlying53 sizeOf52 (rd_sliceV f0_0) h313 h314) (wv (.pointer (some (eAddr r0_0 ((i64.wrap (z302 - (1:Int))).toNat * 4 + 3)))) z z (x_field_e z underlying52 z sizeOf32 z) (wv (v319) z z (x_load z isAgg32 ((hc318 (HL.le.refl _) hst) 3 _ z)) ?_)))))
 obtain ⟨t326, ht327, hm⟩ := bind_some hm
 refine wc call41 [v319] z z z ?_
 refine (slices_Clone_byte_byte_ref (f320.mono (rd_weak _)) hst.to0 ht327).mono ?_
 rintro _ w328 ⟨v331, rfl, hst⟩
 refine ⟨_, z, ?_⟩
 replace hst := hst.of1
 refine wv (.agg #[.bool true, v331]) z z (by obtain ⟨_, _, hv_, _⟩ := hst.sv0; rw [hv_]; kernel_rfl) ?_
 replace hst := hst.pull3
 obtain ⟨w334, hr335, hst⟩ := hst.bx [.bool true, v331] sizeOf34 z (oC z (oC (one_of_sliceV hst.sv1) oN)) (by kernel_rfl)
 refine wl_unit z z (x_unit hr335) ?_
 refine wl_nil (tn (wp_ret ?_))
 obtain rfl := some_inj hm
 refine post_ret (vs := [.agg #[.bool true, v331]]) results33 (rvs_cons (rv_cell (cs := [.bool true, v331]) z isAgg34 sizeOf34 (hst.bcs0 0 z)) rvs_nil) ?_
 replace hst := hst.pull1
 exact ⟨v331, z, hst.keep1⟩
}
}
}

theorem mvcc_Store_Get_ref {w0 w : World} {I : HL} {R : SP} {a0 : (Option mvcc_Store)} {p0 : Value} {a1 : Nat} {a2 : Int}  (hst : St w0 w I [objO at_mvcc_Store p0 a0] R) {r : (api_Got)} (hm : mvcc_Store_Get a0 a1 a2 = some r) :
  Calls prog 13 #[p0, F6 a1, U6 a2] w fun e w' => ∃ (q0_0 : Value), e = .returned (.agg #[.bool r.Has, q0_0]) ∧ St w0 w' I [ownS (tyInt .u8) q0_0 r.Val, objO at_mvcc_Store p0 a0] R := by {
 rcases a0 with _ | o0
 {
 obtain ⟨rfl, hst'⟩ := objO_none hst
 clear hst
 have hst := hst'
 clear hst'
 dsimp only [mvcc_Store_Get] at hm
 refine calls_start (args := [.pointer none, F6 a1, U6 a2]) func13 z ntmps13 (Nat.le_of_ble_eq_true z) ?_
 refine wp_seq (wrl ?_)
 obtain ⟨b111, w112, ew113, eb114, hst⟩ := hst.box [.bool false, Zs] 34
 refine wl_run (v := Pt b111 0) (w' := w112) z z (x_al (by kernel_rfl) ew113 eb114) ?_
 refine wl_nil (tn (wp_seq (wrl (wv (.pointer none) z z z (wv (.float .f64 a1) z z z ?_)))))
 obtain ⟨t116, ht117, hm⟩ := bind_some hm
 refine wc call32 [F6 a1] z z z ?_
 refine (number_Rank_ref hst.to0 ht117).mono ?_
 rintro _ w118 ⟨rfl, hst⟩
 refine ⟨_, z, ?_⟩
 replace hst := hst.of0.objO_nil at_mvcc_Store
 obtain ⟨t122, ht123, hm⟩ := bind_some hm
 refine wc call31 [.pointer none, U6 t116] z z z ?_
 refine (mvcc_Store_find_ref hst.to1 ht123).mono ?_
 rintro _ w124 ⟨rfl, hst⟩
 refine ⟨_, z, ?_⟩
 replace hst := hst.of1
 refine wv (.tuple #[I6 t122.1, .bool t122.2]) z z z (wv (.int .i64 t122.1) z z z (wv (.bool t122.2) z z z (wv (.int .i64 t122.1) z z z (wv (.bool t122.2) z z z (wl_nil (tn (wp_seq (wp_seq (wrl (wv (.bool t122.2) z z z (wv (.bool (!t122.2)) z z z (wl_nil (tn ?_)))))))))))))
 refine bsplit (!t122.2) (fun hc127 => ?_) (fun hc127 => ?_)
 {
 replace hm := bif_t hc127 hm
 refine wp_ift (cvb hc127) ?_
 refine wp_seq (wrl (wv (.agg #[.bool false, Zs]) z z (by kernel_rfl) ?_))
 replace hst := hst.pull1
 obtain ⟨w129, hr130, hst⟩ := hst.bx [.bool false, Zs] sizeOf34 z (oC z (oC z oN)) (by kernel_rfl)
 refine wl_unit z z (x_unit hr130) ?_
 refine wl_nil (tn (wp_ret (then_r ?_)))
 replace hst := hst.own_nil (tyInt .u8)
 replace hst := hst.objO_nil at_mvcc_Store
 obtain rfl := some_inj hm
 refine post_ret (vs := [.agg #[.bool false, Zs]]) results13 (rvs_cons (rv_cell (cs := [.bool false, Zs]) z isAgg34 sizeOf34 (hst.bcs2 0 z)) rvs_nil) ?_
 replace hst := hst.pull1
 exact ⟨(.slice none 0 0), z, hst.keep2⟩
}
 {
 replace hm := bif_f hc127 hm
 refine wp_iff (cvb hc127) ?_
 refine wp_skip (tn (wp_seq (wrl ?_)))
 refine wv (.pointer none) z z z ?_
 cases hm
}
}
 {
 replace hst := objO_get hst
 dsimp only [mvcc_Store_Get] at hm
 refine calls_start (args := [p0, F6 a1, U6 a2]) func13 z ntmps13 (Nat.le_of_ble_eq_true z) ?_
 refine wp_seq (wrl ?_)
 obtain ⟨b132, w133, ew134, eb135, hst⟩ := hst.box [.bool false, Zs] 34
 refine wl_run (v := Pt b132 0) (w' := w133) z z (x_al (by kernel_rfl) ew134 eb135) ?_
 refine wl_nil (tn (wp_seq (wrl (wv (p0) z z z (wv (.float .f64 a1) z z z ?_)))))
 obtain ⟨t137, ht138, hm⟩ := bind_some hm
 refine wc call32 [F6 a1] z z z ?_
 refine (number_Rank_ref hst.to0 ht138).mono ?_
 rintro _ w139 ⟨rfl, hst⟩
 refine ⟨_, z, ?_⟩
 replace hst := hst.of0.pull1
 replace hst := objO_some hst
 obtain ⟨t142, ht143, hm⟩ := bind_some hm
 refine wc call31 [p0, U6 t137] z z z ?_
 refine (mvcc_Store_find_ref hst.to1 ht143).mono ?_
 rintro _ w144 ⟨rfl, hst⟩
 refine ⟨_, z, ?_⟩
 replace hst := hst.of1
 replace hst := objO_get hst
 refine wv (.tuple #[I6 t142.1, .bool t142.2]) z z z (wv (.int .i64 t142.1) z z z (wv (.bool t142.2) z z z (wv (.int .i64 t142.1) z z z (wv (.bool t142.2) z z z (wl_nil (tn (wp_seq (wp_seq (wrl (wv (.bool t142.2) z z z (wv (.bool (!t142.2)) z z z (wl_nil (tn ?_)))))))))))))
 refine bsplit (!t142.2) (fun hc147 => ?_) (fun hc147 => ?_)
 {
 replace hm := bif_t hc147 hm
 refine wp_ift (cvb hc147) ?_
 refine wp_seq (wrl (wv (.agg #[.bool false, Zs]) z z (by kernel_rfl) ?_))
 replace hst := hst.pull1
 obtain ⟨w149, hr150, hst⟩ := hst.bx [.bool false, Zs] sizeOf34 z (oC z (oC z oN)) (by kernel_rfl)
 refine wl_unit z z (x_unit hr150) ?_
 refine wl_nil (tn (wp_ret (then_r ?_)))
 replace hst := hst.own_nil (tyInt .u8)
 replace hst := hst.pull2
 replace hst := objO_some hst
 obtain rfl := some_inj hm
 refine post_ret (vs := [.agg #[.bool false, Zs]]) results13 (rvs_cons (rv_cell (cs := [.bool false, Zs]) z isAgg34 sizeOf34 (hst.bcs2 0 z)) rvs_nil) ?_
 replace hst := hst.pull1
 exact ⟨(.slice none 0 0), z, hst.keep2⟩
}
 {
 replace hm := bif_f hc147 hm
 refine wp_iff (cvb hc147) ?_
 refine wp_skip (tn (wp_seq (wrl ?_)))
 refine wv (p0) z z z ?_
 obtain ⟨b151, v152, rfl, hst'⟩ := at_mvcc_Store_open hst
 clear hst
 have hst := hst'
 clear hst'
 refine wv (Pt b151 0) z z z (wv (Pt b151 0) z z (x_field z underlying79 z sizeOf77 z) (wv (v152) z z (x_load z isAgg77 (hst.bc0 z)) (wv (.int .i64 t142.1) z z z ?_)))
 obtain ⟨x154, hx155, hm⟩ := bind_some hm
 obtain ⟨h156, h157, hi158⟩ := geto_some hx155
 refine wv (.pointer (some (eAddr v152 (t142.1.toNat * 2 + 0)))) z z (x_index z z underlying77 sizeOf76 (hst.nestsv 1 z) h156 h157) (wv (.pointer (some (eAddr v152 (t142.1.toNat * 2 + 1)))) z z (x_field_e z underlying76 z sizeOf53 z) ?_)
 replace hst := hst.pull1
 obtain ⟨v159, hst⟩ := hst.nest_focus hi158
 refine wv (v159) z z (x_load z isAgg53 ((hst.holeall (N := nest_mvcc_row) (i := t142.1.toNat) 1 z hi158) 1 _ z)) (wv (.int .u64 a2) z z z ?_)
 obtain ⟨css161, hq162, hst⟩ := hst.own_open
 obtain ⟨t163, ht164, hm⟩ := bind_some hm
 refine wc call33 [v159, U6 a2] z z z ?_
 refine (mvcc_read_ref (hst.rdrow0 hq162) hst.to0 ht164).mono ?_
 rintro _ w165 ⟨v168, rfl, hst⟩
 refine ⟨_, z, ?_⟩
 replace hst := hst.of1.pull1.own_close hq162
 replace hst := hst.pull4
 obtain ⟨w170, hr171, hst⟩ := hst.bx [.bool t163.Has, v168] sizeOf34 z (oC z (oC (one_of_sliceV hst.sv2) oN)) (by kernel_rfl)
 refine wl_unit z z (x_unit hr171) ?_
 refine wl_nil (tn (wp_ret ?_))
 replace hst := hst.pull3.pull2
 replace hst := St.nest_close0 (N := nest_mvcc_row) hst hi158
 replace hst := hst.pull3
 replace hst := at_mvcc_Store_close (pv := Pt b151 0) (x := o0) hst z
 replace hst := objO_some hst
 obtain rfl := some_inj hm
 refine post_ret (vs := [.agg #[.bool t163.Has, v168]]) results13 (rvs_cons (rv_cell (cs := [.bool t163.Has, v168]) z isAgg34 sizeOf34 (hst.bcs1 0 z)) rvs_nil) ?_
 replace hst := hst.pull2
 exact ⟨v168, z, hst.keep2⟩
}
}
}

theorem mvcc_Store_Size_ref {w0 w : World} {I : HL} {R : SP} {a0 : (Option mvcc_Store)} {p0 : Value}  (hst : St w0 w I [objO at_mvcc_Store p0 a0] R) {r : (Int)} (hm : mvcc_Store_Size a0 = some r) :
  Calls prog 25 #[p0] w fun e w' => e = .returned (.int .i64 r) ∧ St w0 w' I [objO at_mvcc_Store p0 a0] R := by {
 rcases a0 with _ | o0
 {
 obtain ⟨rfl, hst'⟩ := objO_none hst
 clear hst
 have hst := hst'
 clear hst'
 dsimp only [mvcc_Store_Size] at hm
 refine calls_start (args := [.pointer none]) func25 z ntmps25 (Nat.le_of_ble_eq_true z) ?_
 refine wp_seq (wrl (wv (.int .i64 (0:Int)) z z z (wl_nil (tn (wp_seq (wp_seq (wrl (wv (.pointer none) z z z (wv (.bool true) z z (by kernel_rfl) (wl_nil (tn ?_)))))))))))
 refine wp_ift z ?_
 refine wp_seq (wrl (wv (.int .i64 (0:Int)) z z z (wl_nil (tn (wp_ret (then_r ?_))))))
 replace hst := hst.objO_nil at_mvcc_Store
 obtain rfl := some_inj hm
 refine post_ret (vs := [Zi]) results25 (rvs_cons (rv_tmp z) rvs_nil) ?_
 exact ⟨z, hst.keep1⟩
}
 {
 replace hst := objO_get hst
 dsimp only [mvcc_Store_Size] at hm
 refine calls_start (args := [p0]) func25 z ntmps25 (Nat.le_of_ble_eq_true z) ?_
 refine wp_seq (wrl (wv (.int .i64 (0:Int)) z z z (wl_nil (tn (wp_seq (wp_seq (wrl (wv (p0) z z z ?_))))))))
 obtain ⟨b127, v128, rfl, hst'⟩ := at_mvcc_Store_open hst
 clear hst
 have hst := hst'
 clear hst'
 refine wv (.bool false) z z (by kernel_rfl) (wl_nil (tn ?_))
 refine wp_iff z ?_
 refine wp_skip (tn (wp_seq (wrl ?_)))
 refine wv (.int .i64 (0:Int)) z z z (wl_nil (tn (wp_seq (wp_seq (wrl (wv (Pt b127 0) z z z (wv (Pt b127 0) z z z (wv (Pt b127 0) z z (x_field z underlying79 z sizeOf77 z) (wv (v128) z z (x_load z isAgg77 (hst.bc0 z)) (wv (.int .i64 ((o0.rows).length : Int)) z z (x_len z underlying77 (hst.nestsv 1 z)) (wv (.int .i64 (0:Int)) z z z (wl_nil (tn (wp_block ?_))))))))))))))
 obtain ⟨n167, hm⟩ := loopO_some hm
 refine wp_loop_n (fun n a w => ∃ (z164 : Int) (z165 : Int) (σ166 : Nat → Value), loopN (mvcc_Store_Size_l0 o0) n (z164, z165) = some r ∧ a = Fr 24 (upd (upd (upd (upd σ166 3 (.int .i64 z165)) 11 (v128)) 12 (.int .i64 ((o0.rows).length : Int))) 13 (.int .i64 z164)) ∧ St w0 w I [cells b127 [v128], ownN nest_mvcc_row v128 o0.rows] R) n167 ⟨(0:Int), (0:Int), _, hm, (fu 3 (.int .i64 (0:Int)) z (fu 11 v128 z (fu 12 (.int .i64 ((o0.rows).length : Int)) z (fu 13 (.int .i64 (0:Int)) z z)))), hst⟩ ?_
 rintro n173 _ w168 ⟨z164, z165, σ166, hm, rfl, hst⟩
 obtain ⟨n170, y171, rfl, hm, hx172⟩ := loopN_some hm
 dsimp only [mvcc_Store_Size_l0] at hm
 refine wp_seq (wrl (wv (.bool (decide (z164 < ((o0.rows).length : Int)))) z z z (wl_nil (tn (wp_seq ?_)))))
 refine bsplit (decide (z164 < ((o0.rows).length : Int))) (fun hc174 => ?_) (fun hc174 => ?_)
 {
 replace hm := bif_t hc174 hm
 refine wp_ift (cvb hc174) ?_
 refine wp_skip (tn (wp_seq (wp_block (wp_seq (wrl ?_)))))
 obtain ⟨x175, hx176, hm⟩ := bind_some hm
 obtain ⟨h177, h178, hi179⟩ := geto_some hx176
 refine wv (.pointer (some (eAddr v128 (z164.toNat * 2 + 0)))) z z (x_index z z underlying77 sizeOf76 (hst.nestsv 1 z) h177 h178) ?_
 replace hst := hst.pull1
 obtain ⟨v180, hst⟩ := hst.nest_focus hi179
 refine wv (.agg #[U6 x175.rank, v180]) z z (x_loadN (cs := [U6 x175.rank, v180]) z isAgg76 sizeOf76 (eCells (o := 0) (hst.holeall (N := nest_mvcc_row) (i := z164.toNat) 1 z hi179) z)) ?_
 obtain ⟨b183, w184, ew185, eb186, hst⟩ := hst.box [Zu, Zs] 76
 refine wl_run (v := Pt b183 0) (w' := w184) z z (x_al (by kernel_rfl) ew185 eb186) ?_
 obtain ⟨w188, hr189, hst⟩ := hst.bx [U6 x175.rank, v180] sizeOf76 z (oC z (oC (one_of_sliceV hst.sv1) oN)) (by kernel_rfl)
 refine wl_unit z z (x_unit hr189) ?_
 refine wl_nil (tn (wrl (wv (.int .i64 z165) z z z (wv (Pt b183 1) z z (x_field z underlying76 z sizeOf53 z) (wv (v180) z z (x_load z isAgg53 (hst.bc0 z)) (wv (.int .i64 ((x175.l).length : Int)) z z (x_len z underlying53 hst.sv1) (wv (.int .i64 (i64.wrap (z165 + ((x175.l).length : Int)))) z z z (wv (.int .i64 (i64.wrap (z165 + ((x175.l).length : Int)))) z z z (wl_nil (blk_n (tn (wrl (wv (.int .i64 (i64.wrap (z164 + (1:Int)))) z z z (wv (.int .i64 (i64.wrap (z164 + (1:Int)))) z z z (wl_nil (tn ?_))))))))))))))))
 replace hst := hst.pull2.pull2
 replace hst := St.nest_close0 (N := nest_mvcc_row) hst hi179
 replace hst := hst.pull2.keep2
 obtain rfl := some_inj hm
 exact ⟨_, Nat.lt_succ_self _, (i64.wrap (z164 + (1:Int))), (i64.wrap (z165 + ((x175.l).length : Int))), _, hx172, (fu 3 (.int .i64 (i64.wrap (z165 + ((x175.l).length : Int)))) z (fu 11 v128 z (fu 12 (.int .i64 ((o0.rows).length : Int)) z (fu 13 (.int .i64 (i64.wrap (z164 + (1:Int)))) z z)))), hst⟩
}
 {
 replace hm := bif_f hc174 hm
 refine wp_iff (cvb hc174) ?_
 refine wp_exit (then_x (then_x ?_))
 replace hm := inr_up hm hx172
 refine blk_x (tn (wp_seq (wrl ?_)))
 refine wv (.int .i64 z165) z z z (wv (.int .i64 z165) z z z (wl_nil (tn (wp_ret ?_))))
 replace hst := hst.pull1.pull1
 replace hst := at_mvcc_Store_close (pv := Pt b127 0) (x := o0) hst z
 replace hst := objO_some hst
 obtain rfl := some_inj hm
 refine post_ret (vs := [I6 z165]) results25 (rvs_cons (rv_tmp z) rvs_nil) ?_
 exact ⟨z, hst.keep1⟩
}
}
}

end Go.Proofs.Ytbdnbohbmgmonaa
