/- The Go functions refine their models, part 0. -/
import Derived.Test.YtbdnbohbmgmonaaMvccKeepsT
set_option linter.unusedVariables false
set_option linter.unusedSimpArgs false
set_option maxRecDepth 100000
set_option maxHeartbeats 4000000
namespace Go.Proofs.Ytbdnbohbmgmonaa
open Go Go.V
open _root_.Go.Proofs.Try IntKind
attribute [local irreducible] wpList Code.wp wpQuiet Calls bodyPost Oper.wp wpS Nx PendOK YieldsIn
theorem mvcc_New_ref {w0 w : World} {I : HL} {R : SP}   (hst : St w0 w I [] R) {r : (mvcc_Store)} (hm : mvcc_New = some r) :
  Calls prog 21 #[] w fun e w' => ∃ (q0 : Value), e = .returned (q0) ∧ St w0 w' I [at_mvcc_Store q0 r] R := by {
 unfold mvcc_New at hm
 refine calls_start (args := []) func21 z ntmps21 (Nat.le_of_ble_eq_true z) ?_
 refine wp_seq (wrl (wv (.pointer none) z z z (wl_nil (tn (wp_seq (wrl (wv (.agg #[Zs]) z z (by kernel_rfl) ?_)))))))
 obtain ⟨b10, w11, ew12, eb13, hst⟩ := hst.box [Zs] 79
 refine wl_run (v := Pt b10 0) (w' := w11) z z (x_al (by kernel_rfl) ew12 eb13) ?_
 refine wv (Pt b10 0) z z z (wl_nil (tn (wp_ret ?_)))
 replace hst := hst.nest_nil nest_mvcc_row
 replace hst := hst.pull1
 replace hst := at_mvcc_Store_close (pv := Pt b10 0) (x := ({ rows := [] } : mvcc_Store)) hst z
 obtain rfl := some_inj hm
 refine post_ret (vs := [Pt b10 0]) results21 (rvs_cons (rv_tmp z) rvs_nil) ?_
 exact ⟨.pointer (some ⟨b10, 0, none⟩), z, hst.keep1⟩
}

theorem slices_Clone_byte_byte_ref {w0 w : World} {I : HL} {R : SP} {a0 : (List Int)} {r0_0 : Value} (f0_0 : Rd (tyInt .u8) R I r0_0 a0) (hst : St w0 w I [] R) {r : (List Int)} (hm : slices_Clone_byte_byte a0 = some r) :
  Calls prog 41 #[r0_0] w fun e w' => ∃ (q0_0 : Value), e = .returned (q0_0) ∧ St w0 w' I [ownS (tyInt .u8) q0_0 r] R := by {
 unfold slices_Clone_byte_byte at hm
 obtain ⟨hg, hm⟩ := gd_some hm
 obtain rfl := some_inj hm
 have hsv := rd_sliceV f0_0
 refine calls_start (args := [r0_0]) func41 z ntmps41 (Nat.le_of_ble_eq_true z) ?_
 refine wp_seq (wrl (wv ((.slice none 0 0)) z z z (wl_nil (tn (wp_seq (wp_seq (wrl (wv (r0_0) z z z (wv (.bool (isNil r0_0)) z z (x_slnil z hsv z underlying32) (wl_nil (tn ?_)))))))))))
 refine bsplit (isNil r0_0) (fun hc35 => ?_) (fun hc35 => ?_)
 {
 refine wp_ift (cvb hc35) ?_
 refine wp_seq (wrl (wv ((.slice none 0 0)) z z z (wl_nil (tn (wp_ret (then_r ?_))))))
 refine post_ret (vs := [Zs]) results41 (rvs_cons (rv_tmp z) rvs_nil) ?_
 obtain rfl := List.eq_nil_of_length_eq_zero (isNil_len hsv hc35)
 exact ⟨_, z, (hst.own_nil (tyInt .u8)).keep1⟩
}
 {
 refine wp_iff (cvb hc35) ?_
 refine wp_skip (tn (wp_seq (wrl ?_)))
 obtain ⟨b, w1, ew, eb, hst⟩ := hst.lits (E := (tyInt .u8)) (xs := []) [] 5 0 z Reps.nil
 refine wl_run (v := (.slice (some ⟨b, 0, none⟩) 0 0)) (w' := w1) z z (x_als (by kernel_rfl) ew eb) ?_
 refine wv (r0_0) z z z ?_
 obtain ⟨v2, w2, hr, hst⟩ := run_append elem_32 underlying32 hst (Src.of_rd hst f0_0 flat_int) (room_of hg z) 32
 refine wl_run (v := v2) (w' := w2) z z (x_append z z hr) ?_
 refine wv (v2) z z z (wl_nil (tn (wp_ret ?_)))
 refine post_ret (vs := [v2]) results41 (rvs_cons (rv_tmp z) rvs_nil) ?_
 rw [List.nil_append] at hst
 exact ⟨_, z, hst.keep1⟩
}
}

theorem math_IsNaN_ref {w0 w : World} {I : HL} {R : SP} {a0 : Nat}  (hst : St w0 w I [] R) {r : (Bool)} (hm : math_IsNaN a0 = some r) :
  Calls prog 59 #[F6 a0] w fun e w' => e = .returned (.bool r) ∧ St w0 w' I [] R := by {
 unfold math_IsNaN at hm
 refine calls_start (args := [F6 a0]) func59 z ntmps59 (Nat.le_of_ble_eq_true z) ?_
 refine wp_seq (wrl (wv (.bool false) z z z (wl_nil (tn (wp_seq (wrl (wv (.float .f64 a0) z z z (wv (.float .f64 a0) z z z (wv (.bool (fNe a0 a0)) z z z (wv (.bool (fNe a0 a0)) z z z (wl_nil (tn (wp_ret ?_)))))))))))))
 obtain rfl := some_inj hm
 refine post_ret (vs := [.bool (fNe a0 a0)]) results59 (rvs_cons (rv_tmp z) rvs_nil) ?_
 exact ⟨z, hst.keep0⟩
}

theorem number_Rank_ref {w0 w : World} {I : HL} {R : SP} {a0 : Nat}  (hst : St w0 w I [] R) {r : (Int)} (hm : number_Rank a0 = some r) :
  Calls prog 32 #[F6 a0] w fun e w' => e = .returned (.int .u64 r) ∧ St w0 w' I [] R := by {
 unfold number_Rank at hm
 refine calls_start (args := [F6 a0]) func32 z ntmps32 (Nat.le_of_ble_eq_true z) ?_
 refine wp_seq (wrl (wv (.int .u64 (0:Int)) z z z (wl_nil (tn (wp_seq (wp_seq (wrl (wv (.float .f64 a0) z z z ?_))))))))
 obtain ⟨t63, ht64, hm⟩ := bind_some hm
 refine wc call59 [F6 a0] z z z ?_
 refine (math_IsNaN_ref hst.to0 ht64).mono ?_
 rintro _ w65 ⟨rfl, hst⟩
 refine ⟨_, z, ?_⟩
 replace hst := hst.of0
 refine wl_nil (tn ?_)
 refine bsplit t63 (fun hc68 => ?_) (fun hc68 => ?_)
 {
 replace hm := bif_t hc68 hm
 refine wp_ift (cvb hc68) ?_
 refine wp_seq (wrl (wv (.int .u64 (18446744073709551615:Int)) z z z (wl_nil (tn (wp_ret (then_r ?_))))))
 obtain rfl := some_inj hm
 refine post_ret (vs := [U6 (18446744073709551615:Int)]) results32 (rvs_cons (rv_tmp z) rvs_nil) ?_
 exact ⟨z, hst.keep0⟩
}
 {
 replace hm := bif_f hc68 hm
 refine wp_iff (cvb hc68) ?_
 refine wp_skip (tn (wp_seq (wrl ?_)))
 refine wv (.float .f64 a0) z z z (wv (.int .u64 (Int.ofNat a0)) z z (by kernel_rfl) (wv (.int .u64 (Int.ofNat a0)) z z z (wl_nil (tn (wp_seq (wp_seq (wrl (wv (.int .u64 (Int.ofNat a0)) z z z (wv (.int .u64 (iShr .u64 (Int.ofNat a0) (63:Int))) z z (x_shr (by decide) z z) (wv (.bool ((iShr .u64 (Int.ofNat a0) (63:Int)) == (1:Int))) z z z (wl_nil (tn ?_))))))))))))
 refine bsplit ((iShr .u64 (Int.ofNat a0) (63:Int)) == (1:Int)) (fun hc69 => ?_) (fun hc69 => ?_)
 {
 replace hm := bif_t hc69 hm
 refine wp_ift (cvb hc69) ?_
 refine wp_seq (wrl (wv (.int .u64 (Int.ofNat a0)) z z z (wv (.int .u64 (bXor .u64 ((18446744073709551615):Int) (Int.ofNat a0))) z z (by kernel_rfl) (wv (.int .u64 (bXor .u64 ((18446744073709551615):Int) (Int.ofNat a0))) z z z (wl_nil (tn (wp_ret (then_r ?_))))))))
 obtain rfl := some_inj hm
 refine post_ret (vs := [U6 (bXor .u64 ((18446744073709551615):Int) (Int.ofNat a0))]) results32 (rvs_cons (rv_tmp z) rvs_nil) ?_
 exact ⟨z, hst.keep0⟩
}
 {
 replace hm := bif_f hc69 hm
 refine wp_iff (cvb hc69) ?_
 refine wp_skip (tn (wp_seq (wrl ?_)))
 refine wv (.int .u64 (Int.ofNat a0)) z z z (wv (.int .u64 (bOr .u64 (Int.ofNat a0) (9223372036854775808:Int))) z z z (wv (.int .u64 (bOr .u64 (Int.ofNat a0) (9223372036854775808:Int))) z z z (wl_nil (tn (wp_ret ?_)))))
 obtain rfl := some_inj hm
 refine post_ret (vs := [U6 (bOr .u64 (Int.ofNat a0) (9223372036854775808:Int))]) results32 (rvs_cons (rv_tmp z) rvs_nil) ?_
 exact ⟨z, hst.keep0⟩
}
}
}

theorem mvcc_Store_find_ref {w0 w : World} {I : HL} {R : SP} {a0 : (Option mvcc_Store)} {p0 : Value} {a1 : Int}  (hst : St w0 w I [objO at_mvcc_Store p0 a0] R) {r : (Int × Bool)} (hm : mvcc_Store_find a0 a1 = some r) :
  Calls prog 31 #[p0, U6 a1] w fun e w' => e = .returned (.tuple #[I6 r.1, .bool r.2]) ∧ St w0 w' I [objO at_mvcc_Store p0 a0] R := by {
 rcases a0 with _ | o0
 {
 obtain ⟨rfl, hst'⟩ := objO_none hst
 clear hst
 have hst := hst'
 clear hst'
 dsimp only [mvcc_Store_find] at hm
 refine calls_start (args := [.pointer none, U6 a1]) func31 z ntmps31 (Nat.le_of_ble_eq_true z) ?_
 refine wp_seq (wrl ?_)
 obtain ⟨b145, w146, ew147, eb148, hst⟩ := hst.box [.pointer none] 25
 refine wl_run (v := Pt b145 0) (w' := w146) z z (x_al (by kernel_rfl) ew147 eb148) ?_
 obtain ⟨b150, w151, ew152, eb153, hst⟩ := hst.box [U6 a1] 24
 refine wl_run (v := Pt b150 0) (w' := w151) z z (x_al (by kernel_rfl) ew152 eb153) ?_
 refine wv (.int .i64 (0:Int)) z z z (wv (.bool false) z z z (wl_nil (tn (wp_seq (wp_seq (wrl (wv (.pointer none) z z (x_load z isAgg25 (hst.bc1 z)) (wv (.bool true) z z (by kernel_rfl) (wl_nil (tn ?_))))))))))
 refine wp_ift z ?_
 refine wp_seq (wrl (wv (.int .i64 (0:Int)) z z z (wv (.bool false) z z z (wl_nil (tn (wp_ret (then_r ?_)))))))
 replace hst := hst.objO_nil at_mvcc_Store
 obtain rfl := some_inj hm
 refine post_ret (vs := [Zi, .bool false]) results31 (rvs_cons (rv_tmp z) (rvs_cons (rv_tmp z) rvs_nil)) ?_
 exact ⟨z, hst.keep1⟩
}
 {
 replace hst := objO_get hst
 dsimp only [mvcc_Store_find] at hm
 refine calls_start (args := [p0, U6 a1]) func31 z ntmps31 (Nat.le_of_ble_eq_true z) ?_
 refine wp_seq (wrl ?_)
 obtain ⟨b155, v156, rfl, hst'⟩ := at_mvcc_Store_open hst
 clear hst
 have hst := hst'
 clear hst'
 obtain ⟨b158, w159, ew160, eb161, hst⟩ := hst.box [Pt b155 0] 25
 refine wl_run (v := Pt b158 0) (w' := w159) z z (x_al (by kernel_rfl) ew160 eb161) ?_
 obtain ⟨b163, w164, ew165, eb166, hst⟩ := hst.box [U6 a1] 24
 refine wl_run (v := Pt b163 0) (w' := w164) z z (x_al (by kernel_rfl) ew165 eb166) ?_
 refine wv (.int .i64 (0:Int)) z z z (wv (.bool false) z z z (wl_nil (tn (wp_seq (wp_seq (wrl (wv (Pt b155 0) z z (x_load z isAgg25 (hst.bc1 z)) (wv (.bool false) z z (by kernel_rfl) (wl_nil (tn ?_))))))))))
 refine wp_iff z ?_
 refine wp_skip (tn (wp_seq (wrl ?_)))
 refine wv (Pt b155 0) z z (x_load z isAgg25 (hst.bc1 z)) (wv (Pt b155 0) z z z (wv (Pt b155 0) z z (x_field z underlying79 z sizeOf77 z) (wv (v156) z z (x_load z isAgg77 (hst.bc2 z)) (wv (.int .i64 ((o0.rows).length : Int)) z z (x_len z underlying77 (hst.nestsv 3 z)) (wv (.func (.func 58) #[] #[Pt b158 0, Pt b163 0]) z z (by kernel_rfl) ?_)))))
 obtain ⟨y218, hq219, hm⟩ := bind_some hm
 refine wl_call z z (x_callv call38 (caps := []) z (vs := [I6 ((o0.rows).length : Int), .func (.func 58) #[] #[Pt b158 0, Pt b163 0]]) z) ?_
 refine Calls.mono (show Calls prog 38 #[I6 ((o0.rows).length : Int), .func (.func 58) #[] #[Pt b158 0, Pt b163 0]] _ (fun e w' => ∃ (z216 : Int), z216 = y218 ∧ e = .returned (.int .i64 z216) ∧ St w0 w' I [cells b155 [v156], ownN nest_mvcc_row v156 o0.rows, cells b158 [Pt b155 0], cells b163 [U6 a1]] R) from ?_) ?_
 {
 clear hm; have hm := hq219
 refine calls_start (args := [I6 ((o0.rows).length : Int), .func (.func 58) #[] #[Pt b158 0, Pt b163 0]]) func38 z ntmps38 (Nat.le_of_ble_eq_true z) ?_
 refine wp_seq (wrl (wv (.int .i64 (0:Int)) z z z (wl_nil (tn (wp_seq (wrl (wv (.int .i64 ((o0.rows).length : Int)) z z z (wv (.int .i64 (0:Int)) z z z (wv (.int .i64 ((o0.rows).length : Int)) z z z (wl_nil (tn (wp_seq (wp_block ?_)))))))))))))
 obtain ⟨n197, hm⟩ := loopO_some hm
 refine wp_loop_n (fun n a w => ∃ (z194 : Int) (z195 : Int) (σ196 : Nat → Value), loopN (mvcc_Store_find_l0 o0 a1) n (z194, z195) = some y218 ∧ a = Fr 26 (upd (upd (upd σ196 1 (.func (.func 58) #[] #[Pt b158 0, Pt b163 0])) 5 (.int .i64 z194)) 6 (.int .i64 z195)) ∧ St w0 w I [cells b163 [U6 a1], cells b158 [Pt b155 0], cells b155 [v156], ownN nest_mvcc_row v156 o0.rows] R) n197 ⟨(0:Int), ((o0.rows).length : Int), _, hm, (fu 1 (.func (.func 58) #[] #[Pt b158 0, Pt b163 0]) z (fu 5 (.int .i64 (0:Int)) z (fu 6 (.int .i64 ((o0.rows).length : Int)) z z))), hst⟩ ?_
 rintro n203 _ w198 ⟨z194, z195, σ196, hm, rfl, hst⟩
 obtain ⟨n200, y201, rfl, hm, hx202⟩ := loopN_some hm
 dsimp only [mvcc_Store_find_l0] at hm
 refine wp_seq (wp_seq (wrl (wv (.int .i64 z194) z z z (wv (.int .i64 z195) z z z (wv (.bool (decide (z194 < z195))) z z z (wl_nil (tn ?_)))))))
 refine bsplit (decide (z194 < z195)) (fun hc204 => ?_) (fun hc204 => ?_)
 {
 replace hm := bif_t hc204 hm
 refine wp_ift (cvb hc204) ?_
 refine wp_skip (tn (wp_block (wp_seq (wrl ?_))))
 refine wv (.int .i64 z194) z z z (wv (.int .i64 z195) z z z (wv (.int .i64 (i64.wrap (z194 + z195))) z z z (wv (.int .u64 (u64.wrap (i64.wrap (z194 + z195)))) z z (by kernel_rfl) (wv (.int .u64 (iShr .u64 (u64.wrap (i64.wrap (z194 + z195))) (1:Int))) z z (x_shr (by decide) z z) (wv (.int .i64 (i64.wrap (iShr .u64 (u64.wrap (i64.wrap (z194 + z195))) (1:Int)))) z z (by kernel_rfl) (wv (.int .i64 (i64.wrap (iShr .u64 (u64.wrap (i64.wrap (z194 + z195))) (1:Int)))) z z z (wl_nil (tn (wp_seq (wrl (wv (.func (.func 58) #[] #[Pt b158 0, Pt b163 0]) z z z (wv (.int .i64 (i64.wrap (iShr .u64 (u64.wrap (i64.wrap (z194 + z195))) (1:Int)))) z z z ?_))))))))))))
 obtain ⟨y212, hq213, hm⟩ := bind_some hm
 refine wl_call z z (x_callv call58 (caps := [Pt b158 0, Pt b163 0]) z (vs := [I6 (i64.wrap (iShr .u64 (u64.wrap (i64.wrap (z194 + z195))) (1:Int)))]) z) ?_
 refine Calls.mono (show Calls prog 58 #[I6 (i64.wrap (iShr .u64 (u64.wrap (i64.wrap (z194 + z195))) (1:Int))), Pt b158 0, Pt b163 0] _ (fun e w' => ∃ (z210 : Bool), z210 = y212 ∧ e = .returned (.bool z210) ∧ St w0 w' I [cells b155 [v156], ownN nest_mvcc_row v156 o0.rows, cells b158 [Pt b155 0], cells b163 [U6 a1]] R) from ?_) ?_
 {
 clear hm; have hm := hq213
 refine calls_start (args := [I6 (i64.wrap (iShr .u64 (u64.wrap (i64.wrap (z194 + z195))) (1:Int))), Pt b158 0, Pt b163 0]) func58 z ntmps58 (Nat.le_of_ble_eq_true z) ?_
 refine wp_seq (wrl (wv (.bool false) z z z (wl_nil (tn (wp_seq ?_)))))
 refine wq_regionS hst Try.mixed (by kernel_rfl) ?_
 refine wq_run (v := Pt b155 0) z z (fun w hst => x_load z isAgg25 (hst.bc1 z)) ?_
 refine wq_run (v := Pt b155 0) z z (fun w hst => z) ?_
 refine wq_run (v := Pt b155 0) z z (fun w hst => x_field z underlying79 z sizeOf77 z) ?_
 refine wq_run (v := v156) z z (fun w hst => x_load z isAgg77 (hst.bc2 z)) ?_
 refine wq_run (v := .int .i64 (i64.wrap (iShr .u64 (u64.wrap (i64.wrap (z194 + z195))) (1:Int)))) z z (fun w hst => z) ?_
 obtain ⟨x205, hx206, hm⟩ := bind_some hm
 obtain ⟨h207, h208, hi209⟩ := geto_some hx206
 refine wq_run (v := .pointer (some (eAddr v156 ((i64.wrap (iShr .u64 (u64.wrap (i64.wrap (z194 + z195))) (1:Int))).toNat * 2 + 0)))) z z (fun w hst => x_index z z underlying77 sizeOf76 (hst.nestsv 3 z) h207 h208) ?_
 refine wq_run (v := .pointer (some (eAddr v156 ((i64.wrap (iShr .u64 (u64.wrap (i64.wrap (z194 + z195))) (1:Int))).toNat * 2 + 0)))) z z (fun w hst => x_field_e z underlying76 z sizeOf24 z) ?_
 refine wq_run (v := .int .u64 x205.rank) z z (fun w hst => x_load z isAgg24 (hst.nestc (N := nest_mvcc_row) (i := (i64.wrap (iShr .u64 (u64.wrap (i64.wrap (z194 + z195))) (1:Int))).toNat) (o := 0) 3 z hi209 (fun _ => z))) ?_
 refine wq_run (v := .int .u64 a1) z z (fun w hst => x_load z isAgg24 (hst.bc0 z)) ?_
 refine wq_run (v := .bool (decide (x205.rank ≥ a1))) z z (fun w hst => z) ?_
 refine wq_run (v := .bool (decide (x205.rank ≥ a1))) z z (fun w hst => z) ?_
 refine wq_nil ?_
 intro w hst
 refine tn (wp_ret ?_)
 refine post_ret (vs := [.bool (decide (x205.rank ≥ a1))]) results58 (rvs_cons (rv_tmp z) rvs_nil) ?_
 replace hst := hst.pull1.pull3.pull3.keep4
 obtain rfl := some_inj hm
 exact ⟨(decide (x205.rank ≥ a1)), z, z, hst⟩
}
 clear hst
 rintro _ w214 ⟨z210, rfl, rfl, hst⟩
 refine ⟨_, z, ?_⟩
 try dsimp only at hm
 refine wv (.bool (!z210)) z z z (wl_nil (tn ?_))
 refine bsplit (!z210) (fun hc215 => ?_) (fun hc215 => ?_)
 {
 replace hm := bif_t hc215 hm
 refine wp_ift (cvb hc215) ?_
 refine wrl (wv (.int .i64 (i64.wrap (iShr .u64 (u64.wrap (i64.wrap (z194 + z195))) (1:Int)))) z z z (wv (.int .i64 (i64.wrap ((i64.wrap (iShr .u64 (u64.wrap (i64.wrap (z194 + z195))) (1:Int))) + (1:Int)))) z z z (wv (.int .i64 (i64.wrap ((i64.wrap (iShr .u64 (u64.wrap (i64.wrap (z194 + z195))) (1:Int))) + (1:Int)))) z z z (wl_nil (blk_n (tn ?_))))))
 replace hst := hst.pull1.pull1.pull2.pull3.keep4
 obtain rfl := some_inj hm
 exact ⟨_, Nat.lt_succ_self _, (i64.wrap ((i64.wrap (iShr .u64 (u64.wrap (i64.wrap (z194 + z195))) (1:Int))) + (1:Int))), z195, _, hx202, (fu 1 (.func (.func 58) #[] #[Pt b158 0, Pt b163 0]) z (fu 5 (.int .i64 (i64.wrap ((i64.wrap (iShr .u64 (u64.wrap (i64.wrap (z194 + z195))) (1:Int))) + (1:Int)))) z (fu 6 (.int .i64 z195) z z))), hst⟩
}
 {
 replace hm := bif_f hc215 hm
 refine wp_iff (cvb hc215) ?_
 refine wrl (wv (.int .i64 (i64.wrap (iShr .u64 (u64.wrap (i64.wrap (z194 + z195))) (1:Int)))) z z z (wv (.int .i64 (i64.wrap (iShr .u64 (u64.wrap (i64.wrap (z194 + z195))) (1:Int)))) z z z (wl_nil (blk_n (tn ?_)))))
 replace hst := hst.pull1.pull1.pull2.pull3.keep4
 obtain rfl := some_inj hm
 exact ⟨_, Nat.lt_succ_self _, z194, (i64.wrap (iShr .u64 (u64.wrap (i64.wrap (z194 + z195))) (1:Int))), _, hx202, (fu 1 (.func (.func 58) #[] #[Pt b158 0, Pt b163 0]) z (fu 5 (.int .i64 z194) z (fu 6 (.int .i64 (i64.wrap (iShr .u64 (u64.wrap (i64.wrap (z194 + z195))) (1:Int)))) z z))), hst⟩
}
}
 {
 replace hm := bif_f hc204 hm
 refine wp_iff (cvb hc204) ?_
 refine wp_exit (then_x (then_x ?_))
 replace hm := inr_up hm hx202
 refine blk_x (tn (wp_seq (wrl ?_)))
 refine wv (.int .i64 z194) z z z (wv (.int .i64 z194) z z z (wl_nil (tn (wp_ret ?_))))
 refine post_ret (vs := [I6 z194]) results38 (rvs_cons (rv_tmp z) rvs_nil) ?_
 replace hst := hst.pull1.pull3.pull3.keep4
 obtain rfl := some_inj hm
 exact ⟨z194, z, z, hst⟩
}
}
 clear hst
 rintro _ w220 ⟨z216, rfl, rfl, hst⟩
 refine ⟨_, z, ?_⟩
 try dsimp only at hm
 refine wv (.int .i64 z216) z z z (wl_nil (tn (wp_seq ?_)))
 refine wq_regionS hst Try.mixed (by kernel_rfl) ?_
 refine wq_run (v := .int .i64 z216) z z (fun w hst => z) ?_
 refine wq_run (v := .int .i64 z216) z z (fun w hst => z) ?_
 refine wq_run (v := Pt b155 0) z z (fun w hst => x_load z isAgg25 (hst.bc2 z)) ?_
 refine wq_run (v := Pt b155 0) z z (fun w hst => z) ?_
 refine wq_run (v := Pt b155 0) z z (fun w hst => x_field z underlying79 z sizeOf77 z) ?_
 refine wq_run (v := v156) z z (fun w hst => x_load z isAgg77 (hst.bc0 z)) ?_
 refine wq_run (v := .int .i64 ((o0.rows).length : Int)) z z (fun w hst => x_len z underlying77 (hst.nestsv 1 z)) ?_
 refine wq_run (v := .bool (decide (z216 < ((o0.rows).length : Int)))) z z (fun w hst => z) ?_
 refine wq_run (v := .bool (decide (z216 < ((o0.rows).length : Int)))) z z (fun w hst => z) ?_
 refine bsplit (decide (z216 < ((o0.rows).length : Int))) (fun hc221 => ?_) (fun hc221 => ?_)
 {
 replace hm := bif_t hc221 hm
 refine wq_run (v := Pt b155 0) ((wanted_eq z z z (cvb hc221)).trans z) z (fun w hst => x_load z isAgg25 (hst.bc2 z)) ?_
 refine wq_run (v := Pt b155 0) ((wanted_eq z z z (cvb hc221)).trans z) z (fun w hst => z) ?_
 refine wq_run (v := Pt b155 0) ((wanted_eq z z z (cvb hc221)).trans z) z (fun w hst => x_field z underlying79 z sizeOf77 z) ?_
 refine wq_run (v := v156) ((wanted_eq z z z (cvb hc221)).trans z) z (fun w hst => x_load z isAgg77 (hst.bc0 z)) ?_
 refine wq_run (v := .int .i64 z216) ((wanted_eq z z z (cvb hc221)).trans z) z (fun w hst => z) ?_
 obtain ⟨x222, hx223, hm⟩ := bind_some hm
 obtain ⟨h224, h225, hi226⟩ := geto_some hx223
 refine wq_run (v := .pointer (some (eAddr v156 (z216.toNat * 2 + 0)))) ((wanted_eq z z z (cvb hc221)).trans z) z (fun w hst => x_index z z underlying77 sizeOf76 (hst.nestsv 1 z) h224 h225) ?_
 refine wq_run (v := .pointer (some (eAddr v156 (z216.toNat * 2 + 0)))) ((wanted_eq z z z (cvb hc221)).trans z) z (fun w hst => x_field_e z underlying76 z sizeOf24 z) ?_
 refine wq_run (v := .int .u64 x222.rank) ((wanted_eq z z z (cvb hc221)).trans z) z (fun w hst => x_load z isAgg24 (hst.nestc (N := nest_mvcc_row) (i := z216.toNat) (o := 0) 1 z hi226 (fun _ => z))) ?_
 refine wq_run (v := .int .u64 a1) ((wanted_eq z z z (cvb hc221)).trans z) z (fun w hst => x_load z isAgg24 (hst.bc3 z)) ?_
 refine wq_run (v := .bool (x222.rank == a1)) ((wanted_eq z z z (cvb hc221)).trans z) z (fun w hst => z) ?_
 refine wq_run (v := .bool (x222.rank == a1)) z z (fun w hst => x_pick_t hc221 z z) ?_
 refine wq_run (v := .int .i64 z216) z z (fun w hst => z) ?_
 refine wq_run (v := .bool (x222.rank == a1)) z z (fun w hst => z) ?_
 refine wq_nil ?_
 intro w hst
 refine tn (wp_ret ?_)
 replace hst := hst.pull1.pull1
 replace hst := at_mvcc_Store_close (pv := Pt b155 0) (x := o0) hst z
 replace hst := objO_some hst
 obtain rfl := some_inj hm
 refine post_ret (vs := [I6 z216, .bool (x222.rank == a1)]) results31 (rvs_cons (rv_tmp z) (rvs_cons (rv_tmp z) rvs_nil)) ?_
 exact ⟨z, hst.keep1⟩
}
 {
 replace hm := bif_f hc221 hm
 refine wq_off ((wanted_eq z z z (cvb hc221)).trans z) z ?_
 refine wq_off ((wanted_eq z z z (cvb hc221)).trans z) z ?_
 refine wq_off ((wanted_eq z z z (cvb hc221)).trans z) z ?_
 refine wq_off ((wanted_eq z z z (cvb hc221)).trans z) z ?_
 refine wq_off ((wanted_eq z z z (cvb hc221)).trans z) z ?_
 refine wq_off ((wanted_eq z z z (cvb hc221)).trans z) z ?_
 refine wq_off ((wanted_eq z z z (cvb hc221)).trans z) z ?_
 refine wq_off ((wanted_eq z z z (cvb hc221)).trans z) z ?_
 refine wq_off ((wanted_eq z z z (cvb hc221)).trans z) z ?_
 refine wq_off ((wanted_eq z z z (cvb hc221)).trans z) z ?_
 refine wq_run (v := .bool false) z z (fun w hst => x_pick_f hc221 z z) ?_
 refine wq_run (v := .int .i64 z216) z z (fun w hst => z) ?_
 refine wq_run (v := .bool false) z z (fun w hst => z) ?_
 refine wq_nil ?_
 intro w hst
 refine tn (wp_ret ?_)
 replace hst := hst.pull1.pull1
 replace hst := at_mvcc_Store_close (pv := Pt b155 0) (x := o0) hst z
 replace hst := objO_some hst
 obtain rfl := some_inj hm
 refine post_ret (vs := [I6 z216, .bool false]) results31 (rvs_cons (rv_tmp z) (rvs_cons (rv_tmp z) rvs_nil)) ?_
 exact ⟨z, hst.keep1⟩
}
}
}

theorem slices_Insert_mvcc_row_mvcc_row_raw_ref {w0 w : World} {I : HL} {R : SP} {a0 : (List (List Value))} {r0_0 : Value} {a1 : Int} {a2 : (List (List Value))} {r2_0 : Value} (hst : St w0 w I [ownS (tyRaw 2) r0_0 a0, ownS (tyRaw 2) r2_0 a2] R) {r : (List (List Value))} (hm : slices_Insert_mvcc_row_mvcc_row_raw a0 a1 a2 = some r) :
  Calls prog 42 #[r0_0, I6 a1, r2_0] w fun e w' => ∃ (q0_0 : Value), e = .returned (q0_0) ∧ St w0 w' I [ownS (tyRaw 2) q0_0 r] R := by {
 unfold slices_Insert_mvcc_row_mvcc_row_raw at hm
 obtain ⟨hg, hm⟩ := gd_some hm
 obtain rfl := some_inj hm
 obtain ⟨hi0, hi1, hrm⟩ := insOK_of hg
 obtain ⟨k, rfl⟩ := Int.eq_ofNat_of_zero_le hi0
 have hsm := room_sum hrm
 have hk : k ≤ a0.length := by omega
 have hs : ∀ w : World, (sizeOf 76).run prog w = .ok (tyRaw 2).sz w := sizeOf76
 have hs0 : 0 < (tyRaw 2).sz := Nat.le_of_ble_eq_true rfl
 have hov : ∀ (args : Array Value) (w : World), (callFunc 64 args).run prog w = (Extern.SlicesOverlaps.overlaps #[77, 77] #[4] args >>= fun v => (pure (.value v) : Sem Next)).run prog w := by intro args w; kernel_rfl
 obtain ⟨css, hr, hst⟩ := hst.own_open
 replace hst := hst.pull1
 obtain ⟨dss, hq, hst⟩ := hst.own_open
 replace hst := hst.pull1
 obtain ⟨n, hn⟩ : ∃ n, css.length = n := ⟨_, rfl⟩
 obtain ⟨m, hm'⟩ : ∃ m, dss.length = m := ⟨_, rfl⟩
 have hln : a0.length = n := hr.1.trans hn
 have hlm : a2.length = m := hq.1.trans hm'
 rw [hln] at hsm hk
 rw [hlm] at hsm
 have hsv : SliceV r0_0 n := by have := hst.row_form.2; rwa [hn] at this
 have hsq : SliceV r2_0 m := by have := hst.pull1.row_form.2; rwa [hm'] at this
 have hoc := hr.ones
 have hoq := hq.ones
 have hw1 := wrap_add (a := n) (b := m) (by omega)
 have hw2 := wrap_add (a := k) (b := m) (by omega)
 have hw3 := wrap_sub (a := n + m) (b := k) (by omega) (by omega)
 have hrb := room_of (b := 32) hrm rfl
 rw [hln, hlm] at hrb
 refine calls_start (args := [r0_0, I6 (k : Int), r2_0]) func42 z ntmps42 (Nat.le_of_ble_eq_true z) ?_
 refine wp_seq (wrl (wv ((.slice none 0 0)) z z z (wl_nil (tn (wp_seq (wrl (wv (r0_0) z z z (wv (.int .i64 (k : Int)) z z z (wv ((slcV (tyRaw 2).sz r0_0 k n)) z z (x_slice (lo := (k : Nat)) (hi := (n : Nat)) underlying77 hs z hsv (by omega) (by omega) (by omega) .i64 .i64 (.inl z) (.inr ⟨z, z⟩)) (wl_nil (tn (wp_seq (wrl (wv (r2_0) z z z (wv (.int .i64 (m : Int)) z z (x_len z underlying77 hsq) (wv (.int .i64 (m : Int)) z z z (wl_nil (tn (wp_seq (wp_seq (wrl (wv (.int .i64 (m : Int)) z z z (wv (.bool ((m : Int) == (0:Int))) z z z ?_)))))))))))))))))))))))
 refine wl_nil (tn ?_)
 refine bsplit ((m : Int) == (0:Int)) (fun hc67 => ?_) (fun hc67 => ?_)
 {
 refine wp_ift (cvb hc67) ?_
 refine wp_seq (wrl (wv (r0_0) z z z (wv (r0_0) z z z (wl_nil (tn (wp_ret (then_r ?_)))))))
 refine post_ret (vs := [r0_0]) results42 (rvs_cons (rv_tmp z) rvs_nil) ?_
 rw [ins_nil (by rw [hlm]; exact hc67)]
 exact ⟨_, z, (hst.own_close hr).keep1⟩
}
 {
 refine wp_iff (cvb hc67) ?_
 have hm0 : m ≠ 0 := fun h => by rw [h] at hc67; cases hc67
 have hq0 : dss ≠ [] := fun h => hm0 (by rw [← hm', h]; rfl)
 refine wp_skip (tn (wp_seq (wrl ?_)))
 refine wv (r0_0) z z z (wv (.int .i64 (n : Int)) z z (x_len z underlying77 hsv) (wv (.int .i64 (n : Int)) z z z (wl_nil (tn (wp_seq (wp_seq (wrl (wv (.int .i64 (k : Int)) z z z (wv (.int .i64 (n : Int)) z z z (wv (.bool ((k : Int) == (n : Int))) z z z (wl_nil (tn ?_))))))))))))
 refine bsplit ((k : Int) == (n : Int)) (fun hc68 => ?_) (fun hc68 => ?_)
 {
 refine wp_ift (cvb hc68) ?_
 refine wp_seq (wrl (wv (r0_0) z z z (wv (r2_0) z z z ?_)))
 replace hst := (hst.own_close hr).pull1.own_close hq
 replace hst := hst.pull1
 obtain ⟨v2, w2, hra, hst⟩ := run_append elemN_77 underlying77 hst hst.src1 (room_of hrm z) 77
 refine wl_run (v := v2) (w' := w2) z z (x_append z z hra) ?_
 refine wv (v2) z z z (wl_nil (tn (wp_ret (then_r ?_))))
 refine post_ret (vs := [v2]) results42 (rvs_cons (rv_tmp z) rvs_nil) ?_
 rw [ins_end (by rw [hln]; exact hc68)]
 exact ⟨_, z, hst.keep1⟩
}
 {
 refine wp_iff (cvb hc68) ?_
 have hkn : k ≠ n := fun h => by rw [h] at hc68; simp at hc68
 have hn0 : 0 < n := by omega
 have hc0 : css ≠ [] := fun h => by rw [h] at hn; simp at hn; omega
 refine wp_skip (tn (wp_seq (wp_seq (wrl ?_))))
 refine wv (.int .i64 (n : Int)) z z z (wv (.int .i64 (m : Int)) z z z (wv (.int .i64 ((n + m : Nat) : Int)) z z (ok_cast hw1 z) (wv (r0_0) z z z (wv (.int .i64 (sCap r0_0 : Int)) z z (x_cap z underlying77 hsv) (wv (.bool (decide (((n + m : Nat) : Int) > (sCap r0_0 : Int)))) z z z (wl_nil (tn ?_)))))))
 refine bsplit (decide (((n + m : Nat) : Int) > (sCap r0_0 : Int))) (fun hc69 => ?_) (fun hc69 => ?_)
 {
 refine wp_ift (cvb hc69) ?_
 refine wp_seq (wrl (wv (r0_0) z z z (wv (.int .i64 (k : Int)) z z z (wv ((slcV (tyRaw 2).sz r0_0 0 k)) z z (x_slice (lo := (0 : Nat)) (hi := (k : Nat)) underlying77 hs z hsv (by omega) (by omega) (by omega) .i64 .i64 (.inr ⟨z, z⟩) (.inl z)) (wv (.int .i64 (n : Int)) z z z (wv (.int .i64 (m : Int)) z z z (wv (.int .i64 ((n + m : Nat) : Int)) z z (ok_cast hw1 z) (wv (.int .i64 (k : Int)) z z z (wv (.int .i64 ((n + m - k : Nat) : Int)) z z (ok_cast hw3 z) ?_)))))))))
 obtain ⟨v2, w2, hra, hs2, zss, hzl, hst⟩ := run_app0 elemN_77 underlying3 hst k (n + m - k) (by omega) (by have := of_decide_eq_true hc69; omega) (by rw [show k + (n + m - k) = n + m by omega]; exact hrb) hs0 77
 rw [show k + (n + m - k) = n + m by omega] at hs2
 refine wl_run (v := v2) (w' := w2) z z (x_append z z hra) ?_
 refine wv (v2) z z z (wl_nil (tn (wp_seq (wrl (wv (v2) z z z (wv (.int .i64 (k : Int)) z z z (wv ((slcV (tyRaw 2).sz v2 k (n + m))) z z (x_slice (lo := (k : Nat)) (hi := ((n + m) : Nat)) underlying77 hs z hs2 (by omega) (by omega) (by omega) .i64 .i64 (.inl z) (.inr ⟨z, z⟩)) (wv (r2_0) z z z ?_))))))))
 obtain ⟨w70, hr71, hst⟩ := run_copyRows (P := prog) (t2 := 77) (ty := 3) underlying77 hs hst hst.pull2 k m (N := n + m) (by first | omega | (simp only [List.length_append, List.length_take, List.length_drop]; omega)) (by first | omega | (simp only [List.length_append, List.length_take, List.length_drop]; omega)) (by omega) (by first | omega | (simp only [List.length_append, List.length_take, List.length_drop]; omega)) (ones_take hoq _)
 refine wl_run (v := .int .i64 (m : Nat)) (w' := w70) z z (x_copy z z hr71) ?_
 refine wl_nil (tn (wp_seq ?_))
 refine wp_region_St hst 9 [0, 1, 2, 3, 4, 5, 6, 7, 8] [0, 0, 0, 6, 15, 0, 0, 96, 255] [] z (by kernel_rfl) (by kernel_rfl) Try.mixed (by kernel_rfl) ?_
 refine wsr (v2) 0 z z z (by kernel_rfl) (fun w hst => z) (wsr (.int .i64 (k : Int)) 1 z z z (by kernel_rfl) (fun w hst => z) (wsr (.int .i64 (m : Int)) 2 z z z (by kernel_rfl) (fun w hst => z) (wsr (.int .i64 ((k + m : Nat) : Int)) 3 z z z (by kernel_rfl) (fun w hst => ok_cast hw2 z) (wsr ((slcV (tyRaw 2).sz v2 (k + m) (n + m))) 4 z z z (by kernel_rfl) (fun w hst => x_slice (lo := ((k + m) : Nat)) (hi := ((n + m) : Nat)) underlying77 hs z hs2 (by omega) (by omega) (by omega) .i64 .i64 (.inl z) (.inr ⟨z, z⟩)) (wsr (r0_0) 5 z z z (by kernel_rfl) (fun w hst => z) (wsr (.int .i64 (k : Int)) 6 z z z (by kernel_rfl) (fun w hst => z) (wsr ((slcV (tyRaw 2).sz r0_0 k n)) 7 z z z (by kernel_rfl) (fun w hst => x_slice (lo := (k : Nat)) (hi := (n : Nat)) underlying77 hs z hsv (by omega) (by omega) (by omega) .i64 .i64 (.inl z) (.inr ⟨z, z⟩)) ?_)))))))
 refine ws_e1 8 (by kernel_rfl) ?_
 refine nxe [] (by kernel_rfl) z z ?_
 clear hst
 intro w hst
 obtain ⟨w72, hr73, hst⟩ := run_copyRows (P := prog) (t2 := 77) (ty := 3) underlying77 hs hst (hst.pull1.row_part (l := k) (h := n) hk (by omega)) (k + m) (n - k) (N := n + m) (by first | omega | (simp only [List.length_append, List.length_take, List.length_drop]; omega)) (by first | omega | (simp only [List.length_append, List.length_take, List.length_drop]; omega)) (by omega) (by first | omega | (simp only [List.length_append, List.length_take, List.length_drop]; omega)) (ones_take (ones_drop (ones_take hoc _) _) _)
 refine we_run (v := .int .i64 ((n - k) : Nat)) (w' := w72) z (x_copy z z hr73) ?_
 refine ws_next (pend' := []) hst (by kernel_rfl) pk_nil ?_
 refine ws_nil ?_
 intro w hst
 refine tn (wp_seq (wrl (wv (v2) z z z (wv (v2) z z z (wl_nil (tn (wp_ret (then_r ?_))))))))
 refine post_ret (vs := [v2]) results42 (rvs_cons (rv_tmp z) rvs_nil) ?_
 rw [grow_rows hn hm' hk hzl] at hst
 exact ⟨_, z, (hst.own_close ((hr.take k).app (hq.app (hr.drop k)))).keep1⟩
}
 {
 refine wp_iff (cvb hc69) ?_
 have hup : n + m ≤ sCap r0_0 := by have := of_decide_eq_false hc69; omega
 obtain ⟨ess, hel, hem, hst'⟩ := hst.row_up (n + m) (by omega) hup hc0
 rw [show n + m - css.length = m by omega] at hel
 have hs2 : SliceV (upV r0_0 (n + m)) (n + m) := by have := hst'.row_form.2; rwa [List.length_append, hn, hel] at this
 clear hst
 have hst := hst'
 clear hst'
 refine wp_skip (tn (wp_seq (wrl ?_)))
 refine wv (r0_0) z z z (wv (.int .i64 (n : Int)) z z z (wv (.int .i64 (m : Int)) z z z (wv (.int .i64 ((n + m : Nat) : Int)) z z (ok_cast hw1 z) (wv ((upV r0_0 (n + m))) z z (x_sliceUp underlying77 hs z hsv z hup hn0) (wv ((upV r0_0 (n + m))) z z z (wl_nil (tn (wp_seq (wp_seq (wrl (wv (r2_0) z z z (wv ((upV r0_0 (n + m))) z z z (wv (.int .i64 (k : Int)) z z z (wv (.int .i64 (m : Int)) z z z (wv (.int .i64 ((k + m : Nat) : Int)) z z (ok_cast hw2 z) (wv ((slcV (tyRaw 2).sz (upV r0_0 (n + m)) (k + m) (n + m))) z z (x_slice (lo := ((k + m) : Nat)) (hi := ((n + m) : Nat)) underlying77 hs z hs2 (by omega) (by omega) (by omega) .i64 .i64 (.inl z) (.inr ⟨z, z⟩)) ?_))))))))))))))))
 refine wv (.bool false) z z (x_ext z z z (hov _) (run_overlaps z underlying77 hs hst.pull1 (k + m) (N := n + m) (by rw [List.length_append]; omega) (by omega) hq0 hs0)) (wv (.bool true) z z z (wl_nil (tn ?_)))
 refine wp_ift z ?_
 refine wp_seq ?_
 refine wp_region_St hst 9 [0, 1, 2, 3, 4, 5, 6, 7, 8] [0, 0, 0, 6, 15, 0, 0, 96, 255] [] z (by kernel_rfl) (by kernel_rfl) Try.mixed (by kernel_rfl) ?_
 refine wsr ((upV r0_0 (n + m))) 0 z z z (by kernel_rfl) (fun w hst => z) (wsr (.int .i64 (k : Int)) 1 z z z (by kernel_rfl) (fun w hst => z) (wsr (.int .i64 (m : Int)) 2 z z z (by kernel_rfl) (fun w hst => z) (wsr (.int .i64 ((k + m : Nat) : Int)) 3 z z z (by kernel_rfl) (fun w hst => ok_cast hw2 z) (wsr ((slcV (tyRaw 2).sz (upV r0_0 (n + m)) (k + m) (n + m))) 4 z z z (by kernel_rfl) (fun w hst => x_slice (lo := ((k + m) : Nat)) (hi := ((n + m) : Nat)) underlying77 hs z hs2 (by omega) (by omega) (by omega) .i64 .i64 (.inl z) (.inr ⟨z, z⟩)) (wsr ((upV r0_0 (n + m))) 5 z z z (by kernel_rfl) (fun w hst => z) (wsr (.int .i64 (k : Int)) 6 z z z (by kernel_rfl) (fun w hst => z) (wsr ((slcV (tyRaw 2).sz (upV r0_0 (n + m)) k (n + m))) 7 z z z (by kernel_rfl) (fun w hst => x_slice (lo := (k : Nat)) (hi := ((n + m) : Nat)) underlying77 hs z hs2 (by omega) (by omega) (by omega) .i64 .i64 (.inl z) (.inr ⟨z, z⟩)) ?_)))))))
 refine ws_e1 8 (by kernel_rfl) ?_
 refine nxe [] (by kernel_rfl) z z ?_
 clear hst
 intro w hst
 obtain ⟨w74, hr75, hst⟩ := run_copyRows (P := prog) (t2 := 77) (ty := 3) underlying77 hs hst (hst.row_part (l := k) (h := n + m) (by omega) (by rw [List.length_append]; omega)) (k + m) (n - k) (N := n + m) (by first | omega | (simp only [List.length_append, List.length_take, List.length_drop]; omega)) (by first | omega | (simp only [List.length_append, List.length_take, List.length_drop]; omega)) (by omega) (by first | omega | (simp only [List.length_append, List.length_take, List.length_drop]; omega)) (by rw [stay_src hn hm' hk hel]; exact ones_drop hoc _)
 refine we_run (v := .int .i64 ((n - k) : Nat)) (w' := w74) z (x_copy z z hr75) ?_
 refine ws_next (pend' := []) hst (by kernel_rfl) pk_nil ?_
 refine ws_nil ?_
 intro w hst
 refine tn (wp_seq (wrl (wv ((upV r0_0 (n + m))) z z z (wv (.int .i64 (k : Int)) z z z (wv ((slcV (tyRaw 2).sz (upV r0_0 (n + m)) k (n + m))) z z (x_slice (lo := (k : Nat)) (hi := ((n + m) : Nat)) underlying77 hs z hs2 (by omega) (by omega) (by omega) .i64 .i64 (.inl z) (.inr ⟨z, z⟩)) (wv (r2_0) z z z ?_))))))
 obtain ⟨w76, hr77, hst⟩ := run_copyRows (P := prog) (t2 := 77) (ty := 3) underlying77 hs hst hst.pull1 k m (N := n + m) (by first | omega | (simp only [List.length_append, List.length_take, List.length_drop]; omega)) (by first | omega | (simp only [List.length_append, List.length_take, List.length_drop]; omega)) (by omega) (by first | omega | (simp only [List.length_append, List.length_take, List.length_drop]; omega)) (ones_take hoq _)
 refine wl_run (v := .int .i64 (m : Nat)) (w' := w76) z z (x_copy z z hr77) ?_
 refine wl_nil (tn (wp_seq (wrl (wv ((upV r0_0 (n + m))) z z z (wv ((upV r0_0 (n + m))) z z z (wl_nil (tn (wp_ret (then_r ?_)))))))))
 refine post_ret (vs := [(upV r0_0 (n + m))]) results42 (rvs_cons (rv_tmp z) rvs_nil) ?_
 rw [stay_rows hn hm' hk hel] at hst
 exact ⟨_, z, (hst.own_close ((hr.take k).app (hq.app (hr.drop k)))).keep1⟩
}
}
}
}

theorem slices_Insert_mvcc_row_mvcc_row_ref {w0 w : World} {I : HL} {R : SP} {a0 : (List mvcc_row)} {r0_0 : Value} {a1 : Int} {a2 : (List mvcc_row)} {r2_0 : Value} (hst : St w0 w I [ownN nest_mvcc_row r0_0 a0, ownN nest_mvcc_row r2_0 a2] R) {r : (List mvcc_row)} (hm : slices_Insert_mvcc_row_mvcc_row a0 a1 a2 = some r) :
  Calls prog 42 #[r0_0, I6 a1, r2_0] w fun e w' => ∃ (q0_0 : Value), e = .returned (q0_0) ∧ St w0 w' I [ownN nest_mvcc_row q0_0 r] R := by {
 unfold slices_Insert_mvcc_row_mvcc_row at hm
 obtain ⟨hg, hm⟩ := gd_some hm
 obtain rfl := some_inj hm
 obtain ⟨vs, us, h1, k1, hst⟩ := hst.nest_two
 refine Calls.mono (slices_Insert_mvcc_row_mvcc_row_raw_ref hst.to2 (r := ins (nest_mvcc_row.cs a0 vs) a1 (nest_mvcc_row.cs a2 us)) (by unfold slices_Insert_mvcc_row_mvcc_row_raw; rw [insOK_cs h1 k1, hg]; rfl)) ?_
 rintro _ w' ⟨q, rfl, hst'⟩
 exact ⟨_, z, (hst'.of1.nest_ins h1 k1).keep1⟩
}

theorem mvcc_ahead_ref {w0 w : World} {I : HL} {R : SP} {a0 : mvcc_Version} {r0_0 : Value} {a1 : Int} {a2 : Int} (f0_0 : Rd (tyInt .u8) R I r0_0 a0.Val) (hst : St w0 w I [] R) {r : (Bool)} (hm : mvcc_ahead a0 a1 a2 = some r) :
  Calls prog 44 #[.agg #[U6 a0.Epoch, U6 a0.Index, .bool a0.Del, r0_0], U6 a1, U6 a2] w fun e w' => e = .returned (.bool r) ∧ St w0 w' I [] R := by {
 unfold mvcc_ahead at hm
 refine calls_start (args := [.agg #[U6 a0.Epoch, U6 a0.Index, .bool a0.Del, r0_0], U6 a1, U6 a2]) func44 z ntmps44 (Nat.le_of_ble_eq_true z) ?_
 refine wp_seq (wrl ?_)
 obtain ⟨b128, w129, ew130, eb131, hst⟩ := hst.box [U6 a0.Epoch, U6 a0.Index, .bool a0.Del, r0_0] 52
 refine wl_run (v := Pt b128 0) (w' := w129) z z (x_al (by kernel_rfl) ew130 eb131) ?_
 refine wv (.bool false) z z z (wl_nil (tn (wp_seq (wrl (wv (Pt b128 0) z z (x_field z underlying52 z sizeOf24 z) (wv (.int .u64 a0.Epoch) z z (x_load z isAgg24 (hst.bc0 z)) (wv (.int .u64 a1) z z z (wv (.bool (decide (a0.Epoch < a1))) z z z (wv (.bool (decide (a0.Epoch < a1))) z z z ?_)))))))))
 refine bsplit (decide (a0.Epoch < a1)) (fun hc133 => ?_) (fun hc133 => ?_)
 {
 replace hm := bif_t hc133 hm
 refine wo hc133 z z z z z z (wo hc133 z z z z z z (wo hc133 z z z z z z (wo hc133 z z z z z z (wo hc133 z z z z z z (wl_off (wanted_undef z z z z) z (wl_off (wanted_undef z z z z) z (wl_off (wanted_undef z z z z) z (wl_off (wanted_undef z z z z) z (wo hc133 z z z z z z (wv (.bool true) z z (x_pick_t hc133 z z) (wv (.bool true) z z z (wl_nil (tn (wp_ret ?_))))))))))))))
 obtain rfl := some_inj hm
 refine post_ret (vs := [.bool true]) results44 (rvs_cons (rv_tmp z) rvs_nil) ?_
 exact ⟨z, hst.keep0⟩
}
 {
 replace hm := bif_f hc133 hm
 refine wv (Pt b128 0) ((wanted_eq z z z (cvb hc133)).trans z) z (x_field z underlying52 z sizeOf24 z) (wv (.int .u64 a0.Epoch) ((wanted_eq z z z (cvb hc133)).trans z) z (x_load z isAgg24 (hst.bc0 z)) (wv (.int .u64 a1) ((wanted_eq z z z (cvb hc133)).trans z) z z (wv (.bool (a0.Epoch == a1)) ((wanted_eq z z z (cvb hc133)).trans z) z z (wv (.bool (a0.Epoch == a1)) ((wanted_eq z z z (cvb hc133)).trans z) z z ?_))))
 refine bsplit (a0.Epoch == a1) (fun hc134 => ?_) (fun hc134 => ?_)
 {
 replace hm := bif_t hc134 hm
 refine wv (Pt b128 1) ((wanted_eq z z z (cvb hc134)).trans z) z (x_field z underlying52 z sizeOf24 z) (wv (.int .u64 a0.Index) ((wanted_eq z z z (cvb hc134)).trans z) z (x_load z isAgg24 (hst.bc0 z)) (wv (.int .u64 a2) ((wanted_eq z z z (cvb hc134)).trans z) z z (wv (.bool (decide (a0.Index < a2))) ((wanted_eq z z z (cvb hc134)).trans z) z z (wv (.bool (decide (a0.Index < a2))) ((wanted_eq z z z (cvb hc133)).trans z) z (x_pick_t hc134 z z) (wv (.bool (decide (a0.Index < a2))) z z (x_pick_f hc133 z z) (wv (.bool (decide (a0.Index < a2))) z z z (wl_nil (tn (wp_ret ?_)))))))))
 obtain rfl := some_inj hm
 refine post_ret (vs := [.bool (decide (a0.Index < a2))]) results44 (rvs_cons (rv_tmp z) rvs_nil) ?_
 exact ⟨z, hst.keep0⟩
}
 {
 replace hm := bif_f hc134 hm
 refine wo hc134 z z z z z z (wo hc134 z z z z z z (wo hc134 z z z z z z (wo hc134 z z z z z z (wv (.bool false) ((wanted_eq z z z (cvb hc133)).trans z) z (x_pick_f hc134 z z) (wv (.bool false) z z (x_pick_f hc133 z z) (wv (.bool false) z z z (wl_nil (tn (wp_ret ?_)))))))))
 obtain rfl := some_inj hm
 refine post_ret (vs := [.bool false]) results44 (rvs_cons (rv_tmp z) rvs_nil) ?_
 exact ⟨z, hst.keep0⟩
}
}
}

theorem slices_Insert_mvcc_Version_mvcc_Version_ref {w0 w : World} {I : HL} {R : SP} {a0 : (List mvcc_Version)} {r0_0 : Value} {a1 : Int} {a2 : (List mvcc_Version)} {r2_0 : Value} (hst : St w0 w I [ownS ty_mvcc_Version r0_0 a0, ownS ty_mvcc_Version r2_0 a2] R) {r : (List mvcc_Version)} (hm : slices_Insert_mvcc_Version_mvcc_Version a0 a1 a2 = some r) :
  Calls prog 45 #[r0_0, I6 a1, r2_0] w fun e w' => ∃ (q0_0 : Value), e = .returned (q0_0) ∧ St w0 w' I [ownS ty_mvcc_Version q0_0 r] R := by {
 unfold slices_Insert_mvcc_Version_mvcc_Version at hm
 obtain ⟨hg, hm⟩ := gd_some hm
 obtain rfl := some_inj hm
 obtain ⟨hi0, hi1, hrm⟩ := insOK_of hg
 obtain ⟨k, rfl⟩ := Int.eq_ofNat_of_zero_le hi0
 have hsm := room_sum hrm
 have hk : k ≤ a0.length := by omega
 have hs : ∀ w : World, (sizeOf 52).run prog w = .ok ty_mvcc_Version.sz w := sizeOf52
 have hs0 : 0 < ty_mvcc_Version.sz := Nat.le_of_ble_eq_true rfl
 have hov : ∀ (args : Array Value) (w : World), (callFunc 66 args).run prog w = (Extern.SlicesOverlaps.overlaps #[53, 53] #[4] args >>= fun v => (pure (.value v) : Sem Next)).run prog w := by intro args w; kernel_rfl
 obtain ⟨css, hr, hst⟩ := hst.own_open
 replace hst := hst.pull1
 obtain ⟨dss, hq, hst⟩ := hst.own_open
 replace hst := hst.pull1
 obtain ⟨n, hn⟩ : ∃ n, css.length = n := ⟨_, rfl⟩
 obtain ⟨m, hm'⟩ : ∃ m, dss.length = m := ⟨_, rfl⟩
 have hln : a0.length = n := hr.1.trans hn
 have hlm : a2.length = m := hq.1.trans hm'
 rw [hln] at hsm hk
 rw [hlm] at hsm
 have hsv : SliceV r0_0 n := by have := hst.row_form.2; rwa [hn] at this
 have hsq : SliceV r2_0 m := by have := hst.pull1.row_form.2; rwa [hm'] at this
 have hoc := hr.ones
 have hoq := hq.ones
 have hw1 := wrap_add (a := n) (b := m) (by omega)
 have hw2 := wrap_add (a := k) (b := m) (by omega)
 have hw3 := wrap_sub (a := n + m) (b := k) (by omega) (by omega)
 have hrb := room_of (b := 48) hrm rfl
 rw [hln, hlm] at hrb
 refine calls_start (args := [r0_0, I6 (k : Int), r2_0]) func45 z ntmps45 (Nat.le_of_ble_eq_true z) ?_
 refine wp_seq (wrl (wv ((.slice none 0 0)) z z z (wl_nil (tn (wp_seq (wrl (wv (r0_0) z z z (wv (.int .i64 (k : Int)) z z z (wv ((slcV ty_mvcc_Version.sz r0_0 k n)) z z (x_slice (lo := (k : Nat)) (hi := (n : Nat)) underlying53 hs z hsv (by omega) (by omega) (by omega) .i64 .i64 (.inl z) (.inr ⟨z, z⟩)) (wl_nil (tn (wp_seq (wrl (wv (r2_0) z z z (wv (.int .i64 (m : Int)) z z (x_len z underlying53 hsq) (wv (.int .i64 (m : Int)) z z z (wl_nil (tn (wp_seq (wp_seq (wrl (wv (.int .i64 (m : Int)) z z z (wv (.bool ((m : Int) == (0:Int))) z z z ?_)))))))))))))))))))))))
 refine wl_nil (tn ?_)
 refine bsplit ((m : Int) == (0:Int)) (fun hc240 => ?_) (fun hc240 => ?_)
 {
 refine wp_ift (cvb hc240) ?_
 refine wp_seq (wrl (wv (r0_0) z z z (wv (r0_0) z z z (wl_nil (tn (wp_ret (then_r ?_)))))))
 refine post_ret (vs := [r0_0]) results45 (rvs_cons (rv_tmp z) rvs_nil) ?_
 rw [ins_nil (by rw [hlm]; exact hc240)]
 exact ⟨_, z, (hst.own_close hr).keep1⟩
}
 {
 refine wp_iff (cvb hc240) ?_
 have hm0 : m ≠ 0 := fun h => by rw [h] at hc240; cases hc240
 have hq0 : dss ≠ [] := fun h => hm0 (by rw [← hm', h]; rfl)
 refine wp_skip (tn (wp_seq (wrl ?_)))
 refine wv (r0_0) z z z (wv (.int .i64 (n : Int)) z z (x_len z underlying53 hsv) (wv (.int .i64 (n : Int)) z z z (wl_nil (tn (wp_seq (wp_seq (wrl (wv (.int .i64 (k : Int)) z z z (wv (.int .i64 (n : Int)) z z z (wv (.bool ((k : Int) == (n : Int))) z z z (wl_nil (tn ?_))))))))))))
 refine bsplit ((k : Int) == (n : Int)) (fun hc241 => ?_) (fun hc241 => ?_)
 {
 refine wp_ift (cvb hc241) ?_
 refine wp_seq (wrl (wv (r0_0) z z z (wv (r2_0) z z z ?_)))
 replace hst := (hst.own_close hr).pull1.own_close hq
 replace hst := hst.pull1
 obtain ⟨v2, w2, hra, hst⟩ := run_append elem_53 underlying53 hst hst.src1 (room_of hrm z) 53
 refine wl_run (v := v2) (w' := w2) z z (x_append z z hra) ?_
 refine wv (v2) z z z (wl_nil (tn (wp_ret (then_r ?_))))
 refine post_ret (vs := [v2]) results45 (rvs_cons (rv_tmp z) rvs_nil) ?_
 rw [ins_end (by rw [hln]; exact hc241)]
 exact ⟨_, z, hst.keep1⟩
}
 {
 refine wp_iff (cvb hc241) ?_
 have hkn : k ≠ n := fun h => by rw [h] at hc241; simp at hc241
 have hn0 : 0 < n := by omega
 have hc0 : css ≠ [] := fun h => by rw [h] at hn; simp at hn; omega
 refine wp_skip (tn (wp_seq (wp_seq (wrl ?_))))
 refine wv (.int .i64 (n : Int)) z z z (wv (.int .i64 (m : Int)) z z z (wv (.int .i64 ((n + m : Nat) : Int)) z z (ok_cast hw1 z) (wv (r0_0) z z z (wv (.int .i64 (sCap r0_0 : Int)) z z (x_cap z underlying53 hsv) (wv (.bool (decide (((n + m : Nat) : Int) > (sCap r0_0 : Int)))) z z z (wl_nil (tn ?_)))))))
 refine bsplit (decide (((n + m : Nat) : Int) > (sCap r0_0 : Int))) (fun hc242 => ?_) (fun hc242 => ?_)
 {
 refine wp_ift (cvb hc242) ?_
 refine wp_seq (wrl (wv (r0_0) z z z (wv (.int .i64 (k : Int)) z z z (wv ((slcV ty_mvcc_Version.sz r0_0 0 k)) z z (x_slice (lo := (0 : Nat)) (hi := (k : Nat)) underlying53 hs z hsv (by omega) (by omega) (by omega) .i64 .i64 (.inr ⟨z, z⟩) (.inl z)) (wv (.int .i64 (n : Int)) z z z (wv (.int .i64 (m : Int)) z z z (wv (.int .i64 ((n + m : Nat) : Int)) z z (ok_cast hw1 z) (wv (.int .i64 (k : Int)) z z z (wv (.int .i64 ((n + m - k : Nat) : Int)) z z (ok_cast hw3 z) ?_)))))))))
 obtain ⟨v2, w2, hra, hs2, zss, hzl, hst⟩ := run_app0 elem_53 underlying3 hst k (n + m - k) (by omega) (by have := of_decide_eq_true hc242; omega) (by rw [show k + (n + m - k) = n + m by omega]; exact hrb) hs0 53
 rw [show k + (n + m - k) = n + m by omega] at hs2
 refine wl_run (v := v2) (w' := w2) z z (x_append z z hra) ?_
 refine wv (v2) z z z (wl_nil (tn (wp_seq (wrl (wv (v2) z z z (wv (.int .i64 (k : Int)) z z z (wv ((slcV ty_mvcc_Version.sz v2 k (n + m))) z z (x_slice (lo := (k : Nat)) (hi := ((n + m) : Nat)) underlying53 hs z hs2 (by omega) (by omega) (by omega) .i64 .i64 (.inl z) (.inr ⟨z, z⟩)) (wv (r2_0) z z z ?_))))))))
 obtain ⟨w243, hr244, hst⟩ := run_copyRows (P := prog) (t2 := 53) (ty := 3) underlying53 hs hst hst.pull2 k m (N := n + m) (by first | omega | (simp only [List.length_append, List.length_take, List.length_drop]; omega)) (by first | omega | (simp only [List.length_append, List.length_take, List.length_drop]; omega)) (by omega) (by first | omega | (simp only [List.length_append, List.length_take, List.length_drop]; omega)) (ones_take hoq _)
 refine wl_run (v := .int .i64 (m : Nat)) (w' := w243) z z (x_copy z z hr244) ?_
 refine wl_nil (tn (wp_seq ?_))
 refine wp_region_St hst 9 [0, 1, 2, 3, 4, 5, 6, 7, 8] [0, 0, 0, 6, 15, 0, 0, 96, 255] [] z (by kernel_rfl) (by kernel_rfl) Try.mixed (by kernel_rfl) ?_
 refine wsr (v2) 0 z z z (by kernel_rfl) (fun w hst => z) (wsr (.int .i64 (k : Int)) 1 z z z (by kernel_rfl) (fun w hst => z) (wsr (.int .i64 (m : Int)) 2 z z z (by kernel_rfl) (fun w hst => z) (wsr (.int .i64 ((k + m : Nat) : Int)) 3 z z z (by kernel_rfl) (fun w hst => ok_cast hw2 z) (wsr ((slcV ty_mvcc_Version.sz v2 (k + m) (n + m))) 4 z z z (by kernel_rfl) (fun w hst => x_slice (lo := ((k + m) : Nat)) (hi := ((n + m) : Nat)) underlying53 hs z hs2 (by omega) (by omega) (by omega) .i64 .i64 (.inl z) (.inr ⟨z, z⟩)) (wsr (r0_0) 5 z z z (by kernel_rfl) (fun w hst => z) (wsr (.int .i64 (k : Int)) 6 z z z (by kernel_rfl) (fun w hst => z) (wsr ((slcV ty_mvcc_Version.sz r0_0 k n)) 7 z z z (by kernel_rfl) (fun w hst => x_slice (lo := (k : Nat)) (hi := (n : Nat)) underlying53 hs z hsv (by omega) (by omega) (by omega) .i64 .i64 (.inl z) (.inr ⟨z, z⟩)) ?_)))))))
 refine ws_e1 8 (by kernel_rfl) ?_
 refine nxe [] (by kernel_rfl) z z ?_
 clear hst
 intro w hst
 obtain ⟨w245, hr246, hst⟩ := run_copyRows (P := prog) (t2 := 53) (ty := 3) underlying53 hs hst (hst.pull1.row_part (l := k) (h := n) hk (by omega)) (k + m) (n - k) (N := n + m) (by first | omega | (simp only [List.length_append, List.length_take, List.length_drop]; omega)) (by first | omega | (simp only [List.length_append, List.length_take, List.length_drop]; omega)) (by omega) (by first | omega | (simp only [List.length_append, List.length_take, List.length_drop]; omega)) (ones_take (ones_drop (ones_take hoc _) _) _)
 refine we_run (v := .int .i64 ((n - k) : Nat)) (w' := w245) z (x_copy z z hr246) ?_
 refine ws_next (pend' := []) hst (by kernel_rfl) pk_nil ?_
 refine ws_nil ?_
 intro w hst
 refine tn (wp_seq (wrl (wv (v2) z z z (wv (v2) z z z (wl_nil (tn (wp_ret (then_r ?_))))))))
 refine post_ret (vs := [v2]) results45 (rvs_cons (rv_tmp z) rvs_nil) ?_
 rw [grow_rows hn hm' hk hzl] at hst
 exact ⟨_, z, (hst.own_close ((hr.take k).app (hq.app (hr.drop k)))).keep1⟩
}
 {
 refine wp_iff (cvb hc242) ?_
 have hup : n + m ≤ sCap r0_0 := by have := of_decide_eq_false hc242; omega
 obtain ⟨ess, hel, hem, hst'⟩ := hst.row_up (n + m) (by omega) hup hc0
 rw [show n + m - css.length = m by omega] at hel
 have hs2 : SliceV (upV r0_0 (n + m)) (n + m) := by have := hst'.row_form.2; rwa [List.length_append, hn, hel] at this
 clear hst
 have hst := hst'
 clear hst'
 refine wp_skip (tn (wp_seq (wrl ?_)))
 refine wv (r0_0) z z z (wv (.int .i64 (n : Int)) z z z (wv (.int .i64 (m : Int)) z z z (wv (.int .i64 ((n + m : Nat) : Int)) z z (ok_cast hw1 z) (wv ((upV r0_0 (n + m))) z z (x_sliceUp underlying53 hs z hsv z hup hn0) (wv ((upV r0_0 (n + m))) z z z (wl_nil (tn (wp_seq (wp_seq (wrl (wv (r2_0) z z z (wv ((upV r0_0 (n + m))) z z z (wv (.int .i64 (k : Int)) z z z (wv (.int .i64 (m : Int)) z z z (wv (.int .i64 ((k + m : Nat) : Int)) z z (ok_cast hw2 z) (wv ((slcV ty_mvcc_Version.sz (upV r0_0 (n + m)) (k + m) (n + m))) z z (x_slice (lo := ((k + m) : Nat)) (hi := ((n + m) : Nat)) underlying53 hs z hs2 (by omega) (by omega) (by omega) .i64 .i64 (.inl z) (.inr ⟨z, z⟩)) ?_))))))))))))))))
 refine wv (.bool false) z z (x_ext z z z (hov _) (run_overlaps z underlying53 hs hst.pull1 (k + m) (N := n + m) (by rw [List.length_append]; omega) (by omega) hq0 hs0)) (wv (.bool true) z z z (wl_nil (tn ?_)))
 refine wp_ift z ?_
 refine wp_seq ?_
 refine wp_region_St hst 9 [0, 1, 2, 3, 4, 5, 6, 7, 8] [0, 0, 0, 6, 15, 0, 0, 96, 255] [] z (by kernel_rfl) (by kernel_rfl) Try.mixed (by kernel_rfl) ?_
 refine wsr ((upV r0_0 (n + m))) 0 z z z (by kernel_rfl) (fun w hst => z) (wsr (.int .i64 (k : Int)) 1 z z z (by kernel_rfl) (fun w hst => z) (wsr (.int .i64 (m : Int)) 2 z z z (by kernel_rfl) (fun w hst => z) (wsr (.int .i64 ((k + m : Nat) : Int)) 3 z z z (by kernel_rfl) (fun w hst => ok_cast hw2 z) (wsr ((slcV ty_mvcc_Version.sz (upV r0_0 (n + m)) (k + m) (n + m))) 4 z z z (by kernel_rfl) (fun w hst => x_slice (lo := ((k + m) : Nat)) (hi := ((n + m) : Nat)) underlying53 hs z hs2 (by omega) (by omega) (by omega) .i64 .i64 (.inl z) (.inr ⟨z, z⟩)) (wsr ((upV r0_0 (n + m))) 5 z z z (by kernel_rfl) (fun w hst => z) (wsr (.int .i64 (k : Int)) 6 z z z (by kernel_rfl) (fun w hst => z) (wsr ((slcV ty_mvcc_Version.sz (upV r0_0 (n + m)) k (n + m))) 7 z z z (by kernel_rfl) (fun w hst => x_slice (lo := (k : Nat)) (hi := ((n + m) : Nat)) underlying53 hs z hs2 (by omega) (by omega) (by omega) .i64 .i64 (.inl z) (.inr ⟨z, z⟩)) ?_)))))))
 refine ws_e1 8 (by kernel_rfl) ?_
 refine nxe [] (by kernel_rfl) z z ?_
 clear hst
 intro w hst
 obtain ⟨w247, hr248, hst⟩ := run_copyRows (P := prog) (t2 := 53) (ty := 3) underlying53 hs hst (hst.row_part (l := k) (h := n + m) (by omega) (by rw [List.length_append]; omega)) (k + m) (n - k) (N := n + m) (by first | omega | (simp only [List.length_append, List.length_take, List.length_drop]; omega)) (by first | omega | (simp only [List.length_append, List.length_take, List.length_drop]; omega)) (by omega) (by first | omega | (simp only [List.length_append, List.length_take, List.length_drop]; omega)) (by rw [stay_src hn hm' hk hel]; exact ones_drop hoc _)
 refine we_run (v := .int .i64 ((n - k) : Nat)) (w' := w247) z (x_copy z z hr248) ?_
 refine ws_next (pend' := []) hst (by kernel_rfl) pk_nil ?_
 refine ws_nil ?_
 intro w hst
 refine tn (wp_seq (wrl (wv ((upV r0_0 (n + m))) z z z (wv (.int .i64 (k : Int)) z z z (wv ((slcV ty_mvcc_Version.sz (upV r0_0 (n + m)) k (n + m))) z z (x_slice (lo := (k : Nat)) (hi := ((n + m) : Nat)) underlying53 hs z hs2 (by omega) (by omega) (by omega) .i64 .i64 (.inl z) (.inr ⟨z, z⟩)) (wv (r2_0) z z z ?_))))))
 obtain ⟨w249, hr250, hst⟩ := run_copyRows (P := prog) (t2 := 53) (ty := 3) underlying53 hs hst hst.pull1 k m (N := n + m) (by first | omega | (simp only [List.length_append, List.length_take, List.length_drop]; omega)) (by first | omega | (simp only [List.length_append, List.length_take, List.length_drop]; omega)) (by omega) (by first | omega | (simp only [List.length_append, List.length_take, List.length_drop]; omega)) (ones_take hoq _)
 refine wl_run (v := .int .i64 (m : Nat)) (w' := w249) z z (x_copy z z hr250) ?_
 refine wl_nil (tn (wp_seq (wrl (wv ((upV r0_0 (n + m))) z z z (wv ((upV r0_0 (n + m))) z z z (wl_nil (tn (wp_ret (then_r ?_)))))))))
 refine post_ret (vs := [(upV r0_0 (n + m))]) results45 (rvs_cons (rv_tmp z) rvs_nil) ?_
 rw [stay_rows hn hm' hk hel] at hst
 exact ⟨_, z, (hst.own_close ((hr.take k).app (hq.app (hr.drop k)))).keep1⟩
}
}
}
}

theorem mvcc_Store_Put_ref {w0 w : World} {I : HL} {R : SP} {a0 : (Option mvcc_Store)} {p0 : Value} {a1 : Nat} {a2 : mvcc_Version} {r2_0 : Value} (f2_0 : Rd (tyInt .u8) R I r2_0 a2.Val) (hst : St w0 w I [objO at_mvcc_Store p0 a0] R) {r : ((Option mvcc_Store))} (hm : mvcc_Store_Put a0 a1 a2 = some r) :
  Calls prog 22 #[p0, F6 a1, .agg #[U6 a2.Epoch, U6 a2.Index, .bool a2.Del, r2_0]] w fun e w' => ∃ (I' : HL), e = .returned (.tuple #[]) ∧ I.le I' ∧ St w0 w' I' [objO at_mvcc_Store p0 r] R := by {
 rcases a0 with _ | o0
 {
 obtain ⟨rfl, hst'⟩ := objO_none hst
 clear hst
 have hst := hst'
 clear hst'
 dsimp only [mvcc_Store_Put] at hm
 refine calls_start (args := [.pointer none, F6 a1, .agg #[U6 a2.Epoch, U6 a2.Index, .bool a2.Del, r2_0]]) func22 z ntmps22 (Nat.le_of_ble_eq_true z) ?_
 have hI0 := HL.le.refl I
 refine wp_seq (wrl ?_)
 obtain ⟨b260, w261, ew262, eb263, hst⟩ := hst.box [U6 a2.Epoch, U6 a2.Index, .bool a2.Del, r2_0] 52
 refine wl_run (v := Pt b260 0) (w' := w261) z z (x_al (by kernel_rfl) ew262 eb263) ?_
 refine wl_nil (tn (wp_seq (wp_seq (wrl (wv (.pointer none) z z z (wv (.bool true) z z (by kernel_rfl) (wl_nil (tn ?_))))))))
 refine wp_ift z ?_
 refine wp_ret (then_r ?_)
 replace hst := hst.objO_nil at_mvcc_Store
 obtain rfl := some_inj hm
 refine post_ret (vs := []) results22 rvs_nil ?_
 exact ⟨_, z, hI0, hst.keep1⟩
}
 {
 replace hst := objO_get hst
 dsimp only [mvcc_Store_Put] at hm
 refine calls_start (args := [p0, F6 a1, .agg #[U6 a2.Epoch, U6 a2.Index, .bool a2.Del, r2_0]]) func22 z ntmps22 (Nat.le_of_ble_eq_true z) ?_
 have hI0 := HL.le.refl I
 refine wp_seq (wrl ?_)
 obtain ⟨b265, w266, ew267, eb268, hst⟩ := hst.box [U6 a2.Epoch, U6 a2.Index, .bool a2.Del, r2_0] 52
 refine wl_run (v := Pt b265 0) (w' := w266) z z (x_al (by kernel_rfl) ew267 eb268) ?_
 refine wl_nil (tn (wp_seq (wp_seq (wrl (wv (p0) z z z ?_)))))
 replace hst := hst.pull1
 obtain ⟨b270, v271, rfl, hst'⟩ := at_mvcc_Store_open hst
 clear hst
 have hst := hst'
 clear hst'
 refine wv (.bool false) z z (by kernel_rfl) (wl_nil (tn ?_))
 refine wp_iff z ?_
 refine wp_skip (tn (wp_seq (wrl ?_)))
 refine wv (Pt b265 3) z z (x_field z underlying52 z sizeOf32 z) (wv (r2_0) z z (x_load z isAgg32 (hst.bc2 z)) ?_)
 obtain ⟨t273, ht274, hm⟩ := bind_some hm
 refine wc call41 [r2_0] z z z ?_
 refine (slices_Clone_byte_byte_ref (f2_0.mono (rd_weak _)) hst.to0 ht274).mono ?_
 rintro _ w275 ⟨v278, rfl, hst⟩
 refine ⟨_, z, ?_⟩
 replace hst := hst.of1
 refine wv (Pt b265 3) z z (x_field z underlying52 z sizeOf32 z) ?_
 replace hst := hst.pull3
 obtain ⟨w280, hr281, hst⟩ := hst.boxStore1 (P := prog) (t := 32) (cs' := [U6 a2.Epoch, U6 a2.Index, .bool a2.Del, v278]) 3 v278 (one_of_sliceV hst.sv1) sizeOf32 z z
 refine wl_unit z z (x_unit hr281) ?_
 refine wl_nil (tn ?_)
 obtain ⟨y291, hm, hx292⟩ := bind_some hm
 refine wp_cut (fun a w => ∃ (z288 : (List Int)) (v287 : Value) (σ289 : Nat → Value), (mvcc_Store_Put_j0 a1 o0 a2) z288 = some r ∧ a = Fr 93 (upd (upd (upd σ289 0 (Pt b270 0)) 1 (.float .f64 a1)) 5 (Pt b265 0)) ∧ St w0 w I [at_mvcc_Store (Pt b270 0) o0, cells b265 [U6 a2.Epoch, U6 a2.Index, .bool a2.Del, v287], ownS (tyInt .u8) v287 z288] R) ?_ ?_
 {
 refine wp_seq (wrl (wv (Pt b265 2) z z (x_field z underlying52 z sizeOf4 z) (wv (.bool a2.Del) z z (x_load z isAgg4 (hst.bc0 z)) (wl_nil (tn ?_)))))
 refine bsplit a2.Del (fun hc282 => ?_) (fun hc282 => ?_)
 {
 replace hm := bif_t hc282 hm
 refine wp_ift (cvb hc282) ?_
 refine wrl (wv (Pt b265 3) z z (x_field z underlying52 z sizeOf32 z) ?_)
 obtain ⟨w284, hr285, hst⟩ := hst.by_ [U6 a2.Epoch, U6 a2.Index, .bool a2.Del, Zs] 3 ((.slice none 0 0)) sizeOf32 z (oC z oN) (by kernel_rfl)
 refine wl_unit z z (x_unit hr285) ?_
 refine wl_nil (tn ?_)
 replace hst := hst.own_nil (tyInt .u8)
 replace hst := hst.pull4.pull4
 replace hst := at_mvcc_Store_close (pv := Pt b270 0) (x := o0) hst z
 replace hst := hst.pull1.pull2.pull2.keep3
 obtain rfl := some_inj hm
 exact ⟨([]), Zs, _, hx292, (fu 0 (Pt b270 0) z (fu 1 (.float .f64 a1) z (fu 5 (Pt b265 0) z z))), hst⟩
}
 {
 replace hm := bif_f hc282 hm
 refine wp_iff (cvb hc282) ?_
 refine wp_skip (tn ?_)
 replace hst := hst.pull3.pull3
 replace hst := at_mvcc_Store_close (pv := Pt b270 0) (x := o0) hst z
 replace hst := hst.pull2.pull2.pull2.keep3
 obtain rfl := some_inj hm
 exact ⟨t273, v278, _, hx292, (fu 0 (Pt b270 0) z (fu 1 (.float .f64 a1) z (fu 5 (Pt b265 0) z z))), hst⟩
}
}
 {
 clear hst
 rintro _ w293 ⟨z288, v287, σ289, hm, rfl, hst⟩
 dsimp only [mvcc_Store_Put_j0] at hm
 refine wp_seq (wrl (wv (Pt b270 0) z z z (wv (.float .f64 a1) z z z ?_)))
 obtain ⟨t294, ht295, hm⟩ := bind_some hm
 refine wc call32 [F6 a1] z z z ?_
 refine (number_Rank_ref hst.to0 ht295).mono ?_
 rintro _ w296 ⟨rfl, hst⟩
 refine ⟨_, z, ?_⟩
 replace hst := hst.of0
 replace hst := objO_some hst
 obtain ⟨t299, ht300, hm⟩ := bind_some hm
 refine wc call31 [Pt b270 0, U6 t294] z z z ?_
 refine (mvcc_Store_find_ref hst.to1 ht300).mono ?_
 rintro _ w301 ⟨rfl, hst⟩
 refine ⟨_, z, ?_⟩
 replace hst := hst.of1
 replace hst := objO_get hst
 refine wv (.tuple #[I6 t299.1, .bool t299.2]) z z z (wv (.int .i64 t299.1) z z z (wv (.bool t299.2) z z z (wv (.int .i64 t299.1) z z z (wv (.bool t299.2) z z z (wl_nil (tn ?_))))))
 obtain ⟨y333, hm, hx334⟩ := bind_some hm
 refine wp_cut (fun a w => ∃ (z330 : mvcc_Store) (σ331 : Nat → Value), (mvcc_Store_Put_j1 t299 a2 z288) z330 = some r ∧ a = Fr 93 (upd (upd (upd σ331 0 (Pt b270 0)) 5 (Pt b265 0)) 6 (.int .i64 t299.1)) ∧ St w0 w I [at_mvcc_Store (Pt b270 0) z330, cells b265 [U6 a2.Epoch, U6 a2.Index, .bool a2.Del, v287], ownS (tyInt .u8) v287 z288] R) ?_ ?_
 {
 refine wp_seq (wrl (wv (.bool t299.2) z z z (wv (.bool (!t299.2)) z z z (wl_nil (tn ?_)))))
 refine bsplit (!t299.2) (fun hc304 => ?_) (fun hc304 => ?_)
 {
 replace hm := bif_t hc304 hm
 refine wp_ift (cvb hc304) ?_
 obtain ⟨b305, v306, e308, hst'⟩ := at_mvcc_Store_open hst
 clear hst
 have e308 := ptr_inj e308
 subst e308
 have hst := hst'
 clear hst'
 refine wp_region_St hst 14 [0, 1, 2, 3, 4, 5, 6, 7, 8, 9, 10, 11, 12, 13] [0, 0, 2, 6, 14, 0, 0, 64, 192, 448, 1022, 2047, 4095, 8191] [] z (by kernel_rfl) (by kernel_rfl) Try.mixed (by kernel_rfl) ?_
 refine wsr (Pt b270 0) 0 z z z (by kernel_rfl) (fun w hst => z) (wsr (Pt b270 0) 1 z z z (by kernel_rfl) (fun w hst => z) (wsr (Pt b270 0) 2 z z z (by kernel_rfl) (fun w hst => z) (wsr (Pt b270 0) 3 z z z (by kernel_rfl) (fun w hst => x_field z underlying79 z sizeOf77 z) (wsr (v306) 4 z z z (by kernel_rfl) (fun w hst => x_load z isAgg77 (hst.bc0 z)) (wsr (.int .i64 t299.1) 5 z z z (by kernel_rfl) (fun w hst => z) (wsr (.float .f64 a1) 6 z z z (by kernel_rfl) (fun w hst => z) ?_))))))
 refine ws_e1 7 (by kernel_rfl) ?_
 refine nxe [8, 9, 10, 11, 12, 13] (by kernel_rfl) z z ?_
 clear hst
 intro w hst
 obtain ⟨t309, ht310, hm⟩ := bind_some hm
 refine wec call32 [F6 a1] z z ?_
 refine (number_Rank_ref hst.to0 ht310).mono ?_
 rintro _ w311 ⟨rfl, hst⟩
 refine ⟨_, z, ?_⟩
 replace hst := hst.of0
 refine ws_next (pend' := [(5, I6 t299.1), (4, v306), (3, Pt b270 0), (2, Pt b270 0), (1, Pt b270 0), (0, Pt b270 0)]) hst (by kernel_rfl) (pkr z z (fun w hst => z) (pkr z z (fun w hst => x_load z isAgg77 (hst.bc0 z)) (pkr z z (fun w hst => x_field z underlying79 z sizeOf77 z) (pkr z z (fun w hst => z) (pkr z z (fun w hst => z) (pkr z z (fun w hst => z) pk_nil)))))) ?_
 refine wsr (.agg #[U6 t309, Zs]) 8 z z z (by kernel_rfl) (fun w hst => by kernel_rfl) ?_
 refine ws_e1 9 (by kernel_rfl) ?_
 refine nxe [10, 11, 12, 13] (by kernel_rfl) z z ?_
 clear hst
 intro w hst
 replace hst := hst.own_nil ty_mvcc_Version
 obtain ⟨b316, w317, ew318, eb319, hst⟩ := hst.nest_one (N := nest_mvcc_row) (x := ({ rank := t309, l := [] } : mvcc_row)) 76
 refine we_run (v := (.slice (some ⟨b316, 0, none⟩) 1 1)) (w' := w317) z (x_als (by kernel_rfl) ew318 eb319) ?_
 refine ws_next (pend' := [(5, I6 t299.1), (4, v306), (3, Pt b270 0), (2, Pt b270 0), (1, Pt b270 0), (0, Pt b270 0)]) hst (by kernel_rfl) (pkr z z (fun w hst => z) (pkr z z (fun w hst => x_load z isAgg77 (hst.bc1 z)) (pkr z z (fun w hst => x_field z underlying79 z sizeOf77 z) (pkr z z (fun w hst => z) (pkr z z (fun w hst => z) (pkr z z (fun w hst => z) pk_nil)))))) ?_
 refine ws_e1 10 (by kernel_rfl) ?_
 refine nxe [11, 12, 13] (by kernel_rfl) z z ?_
 clear hst
 intro w hst
 replace hst := hst.pull2
 obtain ⟨t321, ht322, hm⟩ := bind_some hm
 refine wec call42 [v306, I6 t299.1, (.slice (some ⟨b316, 0, none⟩) 1 1)] z z ?_
 refine (slices_Insert_mvcc_row_mvcc_row_ref hst.to2 ht322).mono ?_
 rintro _ w323 ⟨v326, rfl, hst⟩
 refine ⟨_, z, ?_⟩
 replace hst := hst.of1
 refine ws_next (pend' := [(0, Pt b270 0)]) hst (by kernel_rfl) (pkr z z (fun w hst => z) pk_nil) ?_
 refine wsr (Pt b270 0) 11 z z z (by kernel_rfl) (fun w hst => z) (wsr (Pt b270 0) 12 z z z (by kernel_rfl) (fun w hst => x_field z underlying79 z sizeOf77 z) ?_)
 refine ws_e1 13 (by kernel_rfl) ?_
 refine nxe [] (by kernel_rfl) z z ?_
 clear hst
 intro w hst
 replace hst := hst.pull1
 obtain ⟨w328, hr329, hst⟩ := hst.boxStore1 (P := prog) (t := 77) (cs' := [v326]) 0 v326 (one_of_sliceV (hst.nestsv 1 z)) sizeOf77 z z
 refine we_unit z (x_unit hr329) ?_
 refine ws_next (pend' := []) hst (by kernel_rfl) pk_nil ?_
 refine ws_nil ?_
 intro w hst
 refine tn ?_
 replace hst := hst.pull1.pull1
 replace hst := at_mvcc_Store_close (pv := Pt b270 0) (x := ({ rows := t321 } : mvcc_Store)) hst z
 replace hst := hst.pull2.pull2.pull2.keep3
 obtain rfl := some_inj hm
 exact ⟨({ rows := t321 } : mvcc_Store), _, hx334, (fu 0 (Pt b270 0) z (fu 5 (Pt b265 0) z (fu 6 (.int .i64 t299.1) z z))), hst⟩
}
 {
 replace hm := bif_f hc304 hm
 refine wp_iff (cvb hc304) ?_
 refine wp_skip (tn ?_)
 replace hst := hst.pull2.pull2.pull2.keep3
 obtain rfl := some_inj hm
 exact ⟨o0, _, hx334, (fu 0 (Pt b270 0) z (fu 5 (Pt b265 0) z (fu 6 (.int .i64 t299.1) z z))), hst⟩
}
}
 {
 clear hst
 rintro _ w335 ⟨z330, σ331, hm, rfl, hst⟩
 dsimp only [mvcc_Store_Put_j1] at hm
 refine wp_seq (wrl (wv (Pt b270 0) z z z ?_))
 obtain ⟨b336, v337, e339, hst'⟩ := at_mvcc_Store_open hst
 clear hst
 have e339 := ptr_inj e339
 subst e339
 have hst := hst'
 clear hst'
 refine wv (Pt b270 0) z z z (wv (Pt b270 0) z z (x_field z underlying79 z sizeOf77 z) (wv (v337) z z (x_load z isAgg77 (hst.bc0 z)) (wv (.int .i64 t299.1) z z z ?_)))
 obtain ⟨x340, hx341, hm⟩ := bind_some hm
 obtain ⟨h342, h343, hi344⟩ := geto_some hx341
 refine wv (.pointer (some (eAddr v337 (t299.1.toNat * 2 + 0)))) z z (x_index z z underlying77 sizeOf76 (hst.nestsv 1 z) h342 h343) (wv (.pointer (some (eAddr v337 (t299.1.toNat * 2 + 1)))) z z (x_field_e z underlying76 z sizeOf53 z) ?_)
 replace hst := hst.pull1
 obtain ⟨v345, hst⟩ := hst.nest_focus hi344
 refine wv (v345) z z (x_load z isAgg53 ((hst.holeall (N := nest_mvcc_row) (i := t299.1.toNat) 1 z hi344) 1 _ z)) ?_
 obtain ⟨b348, w349, ew350, eb351, hst⟩ := hst.box [Zs] 53
 refine wl_run (v := Pt b348 0) (w' := w349) z z (x_al (by kernel_rfl) ew350 eb351) ?_
 obtain ⟨w354, hr355, hst⟩ := hst.boxStore1 (P := prog) (t := 53) (cs' := [v345]) 0 v345 (one_of_sliceV hst.sv1) sizeOf53 z z
 refine wl_unit z z (x_unit hr355) ?_
 refine wl_nil (tn (wp_seq (wrl (wv (v345) z z (x_load z isAgg53 (hst.bc0 z)) (wv (.int .i64 ((x340.l).length : Int)) z z (x_len z underlying53 hst.sv1) (wv (.func (.func 43) #[] #[Pt b348 0, Pt b265 0]) z z (by kernel_rfl) ?_))))))
 obtain ⟨y445, hq446, hm⟩ := bind_some hm
 refine wl_call z z (x_callv call38 (caps := []) z (vs := [I6 ((x340.l).length : Int), .func (.func 43) #[] #[Pt b348 0, Pt b265 0]]) z) ?_
 refine Calls.mono (show Calls prog 38 #[I6 ((x340.l).length : Int), .func (.func 43) #[] #[Pt b348 0, Pt b265 0]] _ (fun e w' => ∃ (z443 : Int), z443 = y445 ∧ e = .returned (.int .i64 z443) ∧ St w0 w' I [cells b270 [v337], ownS ty_mvcc_Version v345 x340.l, holeN nest_mvcc_row v337 z330.rows t299.1.toNat v345, cells b265 [U6 a2.Epoch, U6 a2.Index, .bool a2.Del, v287], ownS (tyInt .u8) v287 z288, cells b348 [v345]] R) from ?_) ?_
 {
 clear hm; have hm := hq446
 refine calls_start (args := [I6 ((x340.l).length : Int), .func (.func 43) #[] #[Pt b348 0, Pt b265 0]]) func38 z ntmps38 (Nat.le_of_ble_eq_true z) ?_
 refine wp_seq (wrl (wv (.int .i64 (0:Int)) z z z (wl_nil (tn (wp_seq (wrl (wv (.int .i64 ((x340.l).length : Int)) z z z (wv (.int .i64 (0:Int)) z z z (wv (.int .i64 ((x340.l).length : Int)) z z z (wl_nil (tn (wp_seq (wp_block ?_)))))))))))))
 obtain ⟨n411, hm⟩ := loopO_some hm
 refine wp_loop_n (fun n a w => ∃ (z408 : Int) (z409 : Int) (σ410 : Nat → Value), loopN (mvcc_Store_Put_l2 x340 a2) n (z408, z409) = some y445 ∧ a = Fr 26 (upd (upd (upd σ410 1 (.func (.func 43) #[] #[Pt b348 0, Pt b265 0])) 5 (.int .i64 z408)) 6 (.int .i64 z409)) ∧ St w0 w I [cells b348 [v345], ownS ty_mvcc_Version v345 x340.l, holeN nest_mvcc_row v337 z330.rows t299.1.toNat v345, cells b270 [v337], cells b265 [U6 a2.Epoch, U6 a2.Index, .bool a2.Del, v287], ownS (tyInt .u8) v287 z288] R) n411 ⟨(0:Int), ((x340.l).length : Int), _, hm, (fu 1 (.func (.func 43) #[] #[Pt b348 0, Pt b265 0]) z (fu 5 (.int .i64 (0:Int)) z (fu 6 (.int .i64 ((x340.l).length : Int)) z z))), hst⟩ ?_
 rintro n417 _ w412 ⟨z408, z409, σ410, hm, rfl, hst⟩
 obtain ⟨n414, y415, rfl, hm, hx416⟩ := loopN_some hm
 dsimp only [mvcc_Store_Put_l2] at hm
 refine wp_seq (wp_seq (wrl (wv (.int .i64 z408) z z z (wv (.int .i64 z409) z z z (wv (.bool (decide (z408 < z409))) z z z (wl_nil (tn ?_)))))))
 refine bsplit (decide (z408 < z409)) (fun hc418 => ?_) (fun hc418 => ?_)
 {
 replace hm := bif_t hc418 hm
 refine wp_ift (cvb hc418) ?_
 refine wp_skip (tn (wp_block (wp_seq (wrl ?_))))
 refine wv (.int .i64 z408) z z z (wv (.int .i64 z409) z z z (wv (.int .i64 (i64.wrap (z408 + z409))) z z z (wv (.int .u64 (u64.wrap (i64.wrap (z408 + z409)))) z z (by kernel_rfl) (wv (.int .u64 (iShr .u64 (u64.wrap (i64.wrap (z408 + z409))) (1:Int))) z z (x_shr (by decide) z z) (wv (.int .i64 (i64.wrap (iShr .u64 (u64.wrap (i64.wrap (z408 + z409))) (1:Int)))) z z (by kernel_rfl) (wv (.int .i64 (i64.wrap (iShr .u64 (u64.wrap (i64.wrap (z408 + z409))) (1:Int)))) z z z (wl_nil (tn (wp_seq (wrl (wv (.func (.func 43) #[] #[Pt b348 0, Pt b265 0]) z z z (wv (.int .i64 (i64.wrap (iShr .u64 (u64.wrap (i64.wrap (z408 + z409))) (1:Int)))) z z z ?_))))))))))))
 obtain ⟨y439, hq440, hm⟩ := bind_some hm
 refine wl_call z z (x_callv call43 (caps := [Pt b348 0, Pt b265 0]) z (vs := [I6 (i64.wrap (iShr .u64 (u64.wrap (i64.wrap (z408 + z409))) (1:Int)))]) z) ?_
 refine Calls.mono (show Calls prog 43 #[I6 (i64.wrap (iShr .u64 (u64.wrap (i64.wrap (z408 + z409))) (1:Int))), Pt b348 0, Pt b265 0] _ (fun e w' => ∃ (z437 : Bool), z437 = y439 ∧ e = .returned (.bool z437) ∧ St w0 w' I [cells b270 [v337], ownS ty_mvcc_Version v345 x340.l, holeN nest_mvcc_row v337 z330.rows t299.1.toNat v345, cells b265 [U6 a2.Epoch, U6 a2.Index, .bool a2.Del, v287], ownS (tyInt .u8) v287 z288, cells b348 [v345]] R) from ?_) ?_
 {
 clear hm; have hm := hq440
 refine calls_start (args := [I6 (i64.wrap (iShr .u64 (u64.wrap (i64.wrap (z408 + z409))) (1:Int))), Pt b348 0, Pt b265 0]) func43 z ntmps43 (Nat.le_of_ble_eq_true z) ?_
 refine wp_seq (wrl (wv (.bool false) z z z (wl_nil (tn (wp_seq ?_)))))
 replace hst := hst.pull1
 obtain ⟨css419, hq420, hst⟩ := hst.own_open
 refine wp_region_St hst 11 [0, 1, 2, 3, 4, 5, 6, 7, 8, 9, 10] [0, 0, 3, 7, 0, 16, 0, 64, 255, 511, 1023] [] z (by kernel_rfl) (by kernel_rfl) Try.mixed (by kernel_rfl) ?_
 refine wsr (v345) 0 z z z (by kernel_rfl) (fun w hst => x_load z isAgg53 (hst.bc1 z)) (wsr (.int .i64 (i64.wrap (iShr .u64 (u64.wrap (i64.wrap (z408 + z409))) (1:Int)))) 1 z z z (by kernel_rfl) (fun w hst => z) ?_)
 obtain ⟨x421, hx422, hm⟩ := bind_some hm
 obtain ⟨h423, h424, hi425⟩ := geto_some hx422
 refine wsr (.pointer (some (eAddr v345 ((i64.wrap (iShr .u64 (u64.wrap (i64.wrap (z408 + z409))) (1:Int))).toNat * 4 + 0)))) 2 z z z (by kernel_rfl) (fun w hst => x_index z z underlying53 sizeOf52 (hst.rsv 0 z hq420) h423 h424) ?_
 obtain ⟨cs426, hc428, hr427⟩ := Reps.get hq420 hi425
 obtain ⟨v429, rfl, f430, -⟩ := hr427
 refine wsr (.agg #[U6 x421.Epoch, U6 x421.Index, .bool x421.Del, v429]) 3 z z z (by kernel_rfl) (fun w hst => x_loadN (cs := [U6 x421.Epoch, U6 x421.Index, .bool x421.Del, v429]) z isAgg52 sizeOf52 (eCells (o := 0) (hst.rcell 0 z hc428) z)) (wsr (Pt b265 0) 4 z z z (by kernel_rfl) (fun w hst => x_field z underlying52 z sizeOf24 z) (wsr (.int .u64 a2.Epoch) 5 z z z (by kernel_rfl) (fun w hst => x_load z isAgg24 (hst.bc4 z)) (wsr (Pt b265 1) 6 z z z (by kernel_rfl) (fun w hst => x_field z underlying52 z sizeOf24 z) (wsr (.int .u64 a2.Index) 7 z z z (by kernel_rfl) (fun w hst => x_load z isAgg24 (hst.bc4 z)) ?_))))
 refine ws_e1 8 (by kernel_rfl) ?_
 refine nxe [9, 10] (by kernel_rfl) z z ?_
 clear hst
 intro w hst
 obtain ⟨t432, ht433, hm⟩ := bind_some hm
 refine wec call44 [.agg #[U6 x421.Epoch, U6 x421.Index, .bool x421.Del, v429], U6 a2.Epoch, U6 a2.Index] z z ?_
 refine (mvcc_ahead_ref (f430.mono ro_rd) hst.to0 ht433).mono ?_
 rintro _ w434 ⟨rfl, hst⟩
 refine ⟨_, z, ?_⟩
 replace hst := hst.of0
 refine ws_next (pend' := []) hst (by kernel_rfl) pk_nil ?_
 refine wsr (.bool (!t432)) 9 z z z (by kernel_rfl) (fun w hst => z) (wsr (.bool (!t432)) 10 z z z (by kernel_rfl) (fun w hst => z) ?_)
 refine ws_nil ?_
 intro w hst
 replace hst := hst.own_close hq420
 refine tn (wp_ret ?_)
 refine post_ret (vs := [.bool (!t432)]) results43 (rvs_cons (rv_tmp z) rvs_nil) ?_
 replace hst := hst.pull1.pull5.pull5.pull4.pull4.pull5.keep6
 obtain rfl := some_inj hm
 exact ⟨(!t432), z, z, hst⟩
}
 clear hst
 rintro _ w441 ⟨z437, rfl, rfl, hst⟩
 refine ⟨_, z, ?_⟩
 try dsimp only at hm
 refine wv (.bool (!z437)) z z z (wl_nil (tn ?_))
 refine bsplit (!z437) (fun hc442 => ?_) (fun hc442 => ?_)
 {
 replace hm := bif_t hc442 hm
 refine wp_ift (cvb hc442) ?_
 refine wrl (wv (.int .i64 (i64.wrap (iShr .u64 (u64.wrap (i64.wrap (z408 + z409))) (1:Int)))) z z z (wv (.int .i64 (i64.wrap ((i64.wrap (iShr .u64 (u64.wrap (i64.wrap (z408 + z409))) (1:Int))) + (1:Int)))) z z z (wv (.int .i64 (i64.wrap ((i64.wrap (iShr .u64 (u64.wrap (i64.wrap (z408 + z409))) (1:Int))) + (1:Int)))) z z z (wl_nil (blk_n (tn ?_))))))
 replace hst := hst.pull4.pull4.pull2.pull4.pull4.pull5.keep6
 obtain rfl := some_inj hm
 exact ⟨_, Nat.lt_succ_self _, (i64.wrap ((i64.wrap (iShr .u64 (u64.wrap (i64.wrap (z408 + z409))) (1:Int))) + (1:Int))), z409, _, hx416, (fu 1 (.func (.func 43) #[] #[Pt b348 0, Pt b265 0]) z (fu 5 (.int .i64 (i64.wrap ((i64.wrap (iShr .u64 (u64.wrap (i64.wrap (z408 + z409))) (1:Int))) + (1:Int)))) z (fu 6 (.int .i64 z409) z z))), hst⟩
}
 {
 replace hm := bif_f hc442 hm
 refine wp_iff (cvb hc442) ?_
 refine wrl (wv (.int .i64 (i64.wrap (iShr .u64 (u64.wrap (i64.wrap (z408 + z409))) (1:Int)))) z z z (wv (.int .i64 (i64.wrap (iShr .u64 (u64.wrap (i64.wrap (z408 + z409))) (1:Int)))) z z z (wl_nil (blk_n (tn ?_)))))
 replace hst := hst.pull4.pull4.pull2.pull4.pull4.pull5.keep6
 obtain rfl := some_inj hm
 exact ⟨_, Nat.lt_succ_self _, z408, (i64.wrap (iShr .u64 (u64.wrap (i64.wrap (z408 + z409))) (1:Int))), _, hx416, (fu 1 (.func (.func 43) #[] #[Pt b348 0, Pt b265 0]) z (fu 5 (.int .i64 z408) z (fu 6 (.int .i64 (i64.wrap (iShr .u64 (u64.wrap (i64.wrap (z408 + z409))) (1:Int)))) z z))), hst⟩
}
}
 {
 replace hm := bif_f hc418 hm
 refine wp_iff (cvb hc418) ?_
 refine wp_exit (then_x (then_x ?_))
 replace hm := inr_up hm hx416
 refine blk_x (tn (wp_seq (wrl ?_)))
 refine wv (.int .i64 z408) z z z (wv (.int .i64 z408) z z z (wl_nil (tn (wp_ret ?_))))
 refine post_ret (vs := [I6 z408]) results38 (rvs_cons (rv_tmp z) rvs_nil) ?_
 replace hst := hst.pull5.pull5.pull4.pull4.pull5.keep6
 obtain rfl := some_inj hm
 exact ⟨z408, z, z, hst⟩
}
}
 clear hst
 rintro _ w447 ⟨z443, rfl, rfl, hst⟩
 refine ⟨_, z, ?_⟩
 try dsimp only at hm
 refine wv (.int .i64 z443) z z z (wl_nil (tn ?_))
 obtain ⟨y474, hm, hx475⟩ := joinO_some hm
 refine wp_cut (fun a w => ∃ (I471 : HL) (σ472 : Nat → Value), (mvcc_Store_Put_j3 x340 z443 a2 z288 z330 t299) () = some r ∧ a = Fr 93 (upd (upd (upd (upd (upd σ472 0 (Pt b270 0)) 5 (Pt b265 0)) 6 (.int .i64 t299.1)) 8 (Pt b348 0)) 9 (.int .i64 z443)) ∧ I.le I471 ∧ St w0 w I471 [cells b270 [v337], ownS ty_mvcc_Version v345 x340.l, holeN nest_mvcc_row v337 z330.rows t299.1.toNat v345, cells b265 [U6 a2.Epoch, U6 a2.Index, .bool a2.Del, v287], ownS (tyInt .u8) v287 z288, cells b348 [v345]] R) ?_ ?_
 {
 have hL476 := HL.le.refl I
 refine wp_seq ?_
 replace hst := hst.pull1
 obtain ⟨css448, hq449, hst⟩ := hst.own_open
 refine wq_regionS hst Try.mixed (by kernel_rfl) ?_
 refine wq_run (v := .int .i64 z443) z z (fun w hst => z) ?_
 refine wq_run (v := v345) z z (fun w hst => x_load z isAgg53 (hst.bc5 z)) ?_
 refine wq_run (v := .int .i64 ((x340.l).length : Int)) z z (fun w hst => x_len z underlying53 (hst.rsv 0 z hq449)) ?_
 refine wq_run (v := .bool (decide (z443 < ((x340.l).length : Int)))) z z (fun w hst => z) ?_
 refine wq_run (v := .bool (decide (z443 < ((x340.l).length : Int)))) z z (fun w hst => z) ?_
 refine bsplit (decide (z443 < ((x340.l).length : Int))) (fun hc450 => ?_) (fun hc450 => ?_)
 {
 replace hm := bif_t hc450 hm
 refine wq_run (v := v345) ((wanted_eq z z z (cvb hc450)).trans z) z (fun w hst => x_load z isAgg53 (hst.bc5 z)) ?_
 refine wq_run (v := .int .i64 z443) ((wanted_eq z z z (cvb hc450)).trans z) z (fun w hst => z) ?_
 obtain ⟨x451, hx452, hm⟩ := bind_some hm
 obtain ⟨h453, h454, hi455⟩ := geto_some hx452
 refine wq_run (v := .pointer (some (eAddr v345 (z443.toNat * 4 + 0)))) ((wanted_eq z z z (cvb hc450)).trans z) z (fun w hst => x_index z z underlying53 sizeOf52 (hst.rsv 0 z hq449) h453 h454) ?_
 refine wq_run (v := .pointer (some (eAddr v345 (z443.toNat * 4 + 0)))) ((wanted_eq z z z (cvb hc450)).trans z) z (fun w hst => x_field_e z underlying52 z sizeOf24 z) ?_
 obtain ⟨cs456, hc458, hr457⟩ := Reps.get hq449 hi455
 obtain ⟨v459, rfl, f460, -⟩ := hr457
 refine wq_run (v := .int .u64 x451.Epoch) ((wanted_eq z z z (cvb hc450)).trans z) z (fun w hst => x_load z isAgg24 ((hst.rcell 0 z hc458) 0 _ z)) ?_
 refine wq_run (v := Pt b265 0) ((wanted_eq z z z (cvb hc450)).trans z) z (fun w hst => x_field z underlying52 z sizeOf24 z) ?_
 refine wq_run (v := .int .u64 a2.Epoch) ((wanted_eq z z z (cvb hc450)).trans z) z (fun w hst => x_load z isAgg24 (hst.bc3 z)) ?_
 refine wq_run (v := .bool (x451.Epoch == a2.Epoch)) ((wanted_eq z z z (cvb hc450)).trans z) z (fun w hst => z) ?_
 refine wq_run (v := .bool (x451.Epoch == a2.Epoch)) z z (fun w hst => x_pick_t hc450 z z) ?_
 refine wq_run (v := .bool (x451.Epoch == a2.Epoch)) z z (fun w hst => z) ?_
 refine bsplit (x451.Epoch == a2.Epoch) (fun hc462 => ?_) (fun hc462 => ?_)
 {
 replace hm := bif_t hc462 hm
 refine wq_run (v := v345) ((wanted_eq z z z (cvb hc462)).trans z) z (fun w hst => x_load z isAgg53 (hst.bc5 z)) ?_
 refine wq_run (v := .int .i64 z443) ((wanted_eq z z z (cvb hc462)).trans z) z (fun w hst => z) ?_
 refine wq_run (v := .pointer (some (eAddr v345 (z443.toNat * 4 + 0)))) ((wanted_eq z z z (cvb hc462)).trans z) z (fun w hst => x_index z z underlying53 sizeOf52 (hst.rsv 0 z hq449) h453 h454) ?_
 refine wq_run (v := .pointer (some (eAddr v345 (z443.toNat * 4 + 1)))) ((wanted_eq z z z (cvb hc462)).trans z) z (fun w hst => x_field_e z underlying52 z sizeOf24 z) ?_
 refine wq_run (v := .int .u64 x451.Index) ((wanted_eq z z z (cvb hc462)).trans z) z (fun w hst => x_load z isAgg24 ((hst.rcell 0 z hc458) 1 _ z)) ?_
 refine wq_run (v := Pt b265 1) ((wanted_eq z z z (cvb hc462)).trans z) z (fun w hst => x_field z underlying52 z sizeOf24 z) ?_
 refine wq_run (v := .int .u64 a2.Index) ((wanted_eq z z z (cvb hc462)).trans z) z (fun w hst => x_load z isAgg24 (hst.bc3 z)) ?_
 refine wq_run (v := .bool (x451.Index == a2.Index)) ((wanted_eq z z z (cvb hc462)).trans z) z (fun w hst => z) ?_
 refine wq_run (v := .bool (x451.Index == a2.Index)) z z (fun w hst => x_pick_t hc462 z z) ?_
 refine wq_nil ?_
 intro w hst
 replace hst := hst.own_close hq449
 refine tn ?_
 refine bsplit (x451.Index == a2.Index) (fun hc463 => ?_) (fun hc463 => ?_)
 {
 replace hm := bif_t hc463 hm
 refine wp_ift (cvb hc463) ?_
 refine wp_seq (wrl (wv (v345) z z (x_load z isAgg53 (hst.bc5 z)) (wv (.int .i64 z443) z z z (wv (.agg #[U6 a2.Epoch, U6 a2.Index, .bool a2.Del, v287]) z z (x_loadN (cs := [U6 a2.Epoch, U6 a2.Index, .bool a2.Del, v287]) z isAgg52 sizeOf52 (hst.bcs3 0 z)) (wv (.pointer (some (eAddr v345 (z443.toNat * 4 + 0)))) z z (x_index z z underlying53 sizeOf52 hst.sv0 h453 h454) ?_)))))
 replace hst := hst.pull4
 obtain ⟨I464, hI465, f466, hst⟩ := hst.own_fix
 replace f2_0 := f2_0.mono (rd_le hI465)
 replace f460 := f460.mono (ro_le hI465)
 replace hI0 := hI0.trans hI465
 replace hL476 := hL476.trans hI465
 obtain ⟨w467, hr468, hst⟩ := hst.own_store (P := prog) (t := 52) (y := ({ Epoch := a2.Epoch, Index := a2.Index, Del := a2.Del, Val := z288 } : mvcc_Version)) hi455 0 (.agg #[U6 a2.Epoch, U6 a2.Index, .bool a2.Del, v287]) sizeOf52 (Nat.le_of_ble_eq_true z) (oC z (oC z (oC z (oC (one_of_sliceV (ro_sliceV f466)) oN)))) (fun cs h => ⟨_, setMany_all (ty_mvcc_Version.len h) z, f466, one_of_sliceV (ro_sliceV f466)⟩)
 have hi469 := set_get hi455 ({ Epoch := a2.Epoch, Index := a2.Index, Del := a2.Del, Val := z288 } : mvcc_Version)
 have h470 := set_lt h454 z443.toNat ({ Epoch := a2.Epoch, Index := a2.Index, Del := a2.Del, Val := z288 } : mvcc_Version)
 refine wl_unit z z (x_unit hr468) ?_
 refine wl_nil (tn (wp_ret (then_r ?_)))
 replace hm := inr_up hm hx475
 replace hst := hst.pull2.pull1
 replace hst := St.nest_close (N := nest_mvcc_row) hst hi344
 replace hst := hst.pull1
 replace hst := at_mvcc_Store_close (pv := Pt b270 0) (x := ({ rows := (z330.rows.set t299.1.toNat ({ rank := x340.rank, l := (x340.l.set z443.toNat ({ Epoch := a2.Epoch, Index := a2.Index, Del := a2.Del, Val := z288 } : mvcc_Version)) } : mvcc_row)) } : mvcc_Store)) hst z
 replace hst := objO_some hst
 obtain rfl := some_inj hm
 refine post_ret (vs := []) results22 rvs_nil ?_
 exact ⟨_, z, hI0, hst.keep1⟩
}
 {
 replace hm := bif_f hc463 hm
 refine wp_iff (cvb hc463) ?_
 refine wp_skip (tn ?_)
 replace hst := hst.pull5.pull5.pull5.pull5.pull4.pull5.keep6
 obtain rfl := some_inj hm
 exact ⟨_, _, hx475, (fu 0 (Pt b270 0) z (fu 5 (Pt b265 0) z (fu 6 (.int .i64 t299.1) z (fu 8 (Pt b348 0) z (fu 9 (.int .i64 z443) z z))))), hL476, hst⟩
}
}
 {
 replace hm := bif_f hc462 hm
 refine wq_off ((wanted_eq z z z (cvb hc462)).trans z) z ?_
 refine wq_off ((wanted_eq z z z (cvb hc462)).trans z) z ?_
 refine wq_off ((wanted_eq z z z (cvb hc462)).trans z) z ?_
 refine wq_off ((wanted_eq z z z (cvb hc462)).trans z) z ?_
 refine wq_off ((wanted_eq z z z (cvb hc462)).trans z) z ?_
 refine wq_off ((wanted_eq z z z (cvb hc462)).trans z) z ?_
 refine wq_off ((wanted_eq z z z (cvb hc462)).trans z) z ?_
 refine wq_off ((wanted_eq z z z (cvb hc462)).trans z) z ?_
 refine wq_run (v := .bool false) z z (fun w hst => x_pick_f hc462 z z) ?_
 refine wq_nil ?_
 intro w hst
 replace hst := hst.own_close hq449
 refine tn ?_
 refine wp_iff z ?_
 refine wp_skip (tn ?_)
 replace hst := hst.pull5.pull5.pull5.pull5.pull4.pull5.keep6
 obtain rfl := some_inj hm
 exact ⟨_, _, hx475, (fu 0 (Pt b270 0) z (fu 5 (Pt b265 0) z (fu 6 (.int .i64 t299.1) z (fu 8 (Pt b348 0) z (fu 9 (.int .i64 z443) z z))))), hL476, hst⟩
}
}
 {
 replace hm := bif_f hc450 hm
 refine wq_off ((wanted_eq z z z (cvb hc450)).trans z) z ?_
 refine wq_off ((wanted_eq z z z (cvb hc450)).trans z) z ?_
 refine wq_off ((wanted_eq z z z (cvb hc450)).trans z) z ?_
 refine wq_off ((wanted_eq z z z (cvb hc450)).trans z) z ?_
 refine wq_off ((wanted_eq z z z (cvb hc450)).trans z) z ?_
 refine wq_off ((wanted_eq z z z (cvb hc450)).trans z) z ?_
 refine wq_off ((wanted_eq z z z (cvb hc450)).trans z) z ?_
 refine wq_off ((wanted_eq z z z (cvb hc450)).trans z) z ?_
 refine wq_run (v := .bool false) z z (fun w hst => x_pick_f hc450 z z) ?_
 refine wq_run (v := .bool false) z z (fun w hst => z) ?_
 refine wq_off ((wanted_eq z z z z).trans z) z ?_
 refine wq_off ((wanted_eq z z z z).trans z) z ?_
 refine wq_off ((wanted_eq z z z z).trans z) z ?_
 refine wq_off ((wanted_eq z z z z).trans z) z ?_
 refine wq_off ((wanted_eq z z z z).trans z) z ?_
 refine wq_off ((wanted_eq z z z z).trans z) z ?_
 refine wq_off ((wanted_eq z z z z).trans z) z ?_
 refine wq_off ((wanted_eq z z z z).trans z) z ?_
 refine wq_run (v := .bool false) z z (fun w hst => x_pick_f z z z) ?_
 refine wq_nil ?_
 intro w hst
 replace hst := hst.own_close hq449
 refine tn ?_
 refine wp_iff z ?_
 refine wp_skip (tn ?_)
 replace hst := hst.pull5.pull5.pull5.pull5.pull4.pull5.keep6
 obtain rfl := some_inj hm
 exact ⟨_, _, hx475, (fu 0 (Pt b270 0) z (fu 5 (Pt b265 0) z (fu 6 (.int .i64 t299.1) z (fu 8 (Pt b348 0) z (fu 9 (.int .i64 z443) z z))))), hL476, hst⟩
}
}
 {
 clear hst
 rintro _ w477 ⟨I471, σ472, hm, rfl, hL473, hst⟩
 dsimp only [mvcc_Store_Put_j3] at hm
 replace f2_0 := f2_0.mono (rd_le hL473)
 replace hI0 := hI0.trans hL473
 refine wp_region_St hst 13 [0, 1, 2, 3, 4, 5, 6, 7, 8, 9, 10, 11, 12] [0, 1, 3, 7, 0, 0, 0, 0, 128, 480, 1023, 2047, 4095] [] z (by kernel_rfl) (by kernel_rfl) Try.mixed (by kernel_rfl) ?_
 refine wsr (Pt b270 0) 0 z z z (by kernel_rfl) (fun w hst => z) (wsr (Pt b270 0) 1 z z z (by kernel_rfl) (fun w hst => z) (wsr (Pt b270 0) 2 z z z (by kernel_rfl) (fun w hst => x_field z underlying79 z sizeOf77 z) (wsr (v337) 3 z z z (by kernel_rfl) (fun w hst => x_load z isAgg77 (hst.bc0 z)) (wsr (.int .i64 t299.1) 4 z z z (by kernel_rfl) (fun w hst => z) (wsr (v345) 5 z z z (by kernel_rfl) (fun w hst => x_load z isAgg53 (hst.bc5 z)) (wsr (.int .i64 z443) 6 z z z (by kernel_rfl) (fun w hst => z) (wsr (.agg #[U6 a2.Epoch, U6 a2.Index, .bool a2.Del, v287]) 7 z z z (by kernel_rfl) (fun w hst => x_loadN (cs := [U6 a2.Epoch, U6 a2.Index, .bool a2.Del, v287]) z isAgg52 sizeOf52 (hst.bcs3 0 z)) ?_)))))))
 refine ws_e1 8 (by kernel_rfl) ?_
 refine nxe [9, 10, 11, 12] (by kernel_rfl) z z ?_
 clear hst
 intro w hst
 replace hst := hst.pull4
 obtain ⟨I479, hI480, f481, hst⟩ := hst.own_fix
 replace f2_0 := f2_0.mono (rd_le hI480)
 replace hI0 := hI0.trans hI480
 obtain ⟨b482, w483, ew484, eb485, hst⟩ := hst.lits (E := ty_mvcc_Version) (xs := [({ Epoch := a2.Epoch, Index := a2.Index, Del := a2.Del, Val := z288 } : mvcc_Version)]) [[U6 a2.Epoch, U6 a2.Index, .bool a2.Del, v287]] 52 1 z (Reps.cons ⟨_, z, f481, one_of_sliceV (ro_sliceV f481)⟩ Reps.nil)
 refine we_run (v := (.slice (some ⟨b482, 0, none⟩) 1 1)) (w' := w483) z (x_als (by kernel_rfl) ew484 eb485) ?_
 refine ws_next (pend' := [(6, I6 z443), (5, v345), (4, I6 t299.1), (3, v337), (2, Pt b270 0), (1, Pt b270 0), (0, Pt b270 0)]) hst (by kernel_rfl) (pkr z z (fun w hst => z) (pkr z z (fun w hst => x_load z isAgg53 (hst.bc5 z)) (pkr z z (fun w hst => z) (pkr z z (fun w hst => x_load z isAgg77 (hst.bc1 z)) (pkr z z (fun w hst => x_field z underlying79 z sizeOf77 z) (pkr z z (fun w hst => z) (pkr z z (fun w hst => z) pk_nil))))))) ?_
 refine ws_e1 9 (by kernel_rfl) ?_
 refine nxe [10, 11, 12] (by kernel_rfl) z z ?_
 clear hst
 intro w hst
 replace hst := hst.pull2
 obtain ⟨t487, ht488, hm⟩ := bind_some hm
 refine wec call45 [v345, I6 z443, (.slice (some ⟨b482, 0, none⟩) 1 1)] z z ?_
 refine (slices_Insert_mvcc_Version_mvcc_Version_ref hst.to2 ht488).mono ?_
 rintro _ w489 ⟨v492, rfl, hst⟩
 refine ⟨_, z, ?_⟩
 replace hst := hst.of1
 refine ws_next (pend' := [(4, I6 t299.1), (3, v337), (2, Pt b270 0), (1, Pt b270 0), (0, Pt b270 0)]) hst (by kernel_rfl) (pkr z z (fun w hst => z) (pkr z z (fun w hst => x_load z isAgg77 (hst.bc1 z)) (pkr z z (fun w hst => x_field z underlying79 z sizeOf77 z) (pkr z z (fun w hst => z) (pkr z z (fun w hst => z) pk_nil))))) ?_
 refine wsr (.pointer (some (eAddr v337 (t299.1.toNat * 2 + 0)))) 10 z z z (by kernel_rfl) (fun w hst => x_index z z underlying77 sizeOf76 (hst.holesv 2 z) h342 h343) (wsr (.pointer (some (eAddr v337 (t299.1.toNat * 2 + 1)))) 11 z z z (by kernel_rfl) (fun w hst => x_field_e z underlying76 z sizeOf53 z) ?_)
 refine ws_e1 12 (by kernel_rfl) ?_
 refine nxe [] (by kernel_rfl) z z ?_
 clear hst
 intro w hst
 replace hst := hst.pull2
 obtain ⟨w494, hr495, hst⟩ := hst.hole_store (P := prog) (t := 53) hi344 hst.sv1 sizeOf53
 refine we_unit z (x_unit hr495) ?_
 refine ws_next (pend' := []) hst (by kernel_rfl) pk_nil ?_
 refine ws_nil ?_
 intro w hst
 replace hst := hst.pull1
 replace hst := St.nest_close (N := nest_mvcc_row) hst hi344
 replace hst := hst.pull1
 replace hst := at_mvcc_Store_close (pv := Pt b270 0) (x := ({ rows := (z330.rows.set t299.1.toNat ({ rank := x340.rank, l := t487 } : mvcc_row)) } : mvcc_Store)) hst z
 replace hst := objO_some hst
 obtain rfl := some_inj hm
 refine post_end (vs := []) results22 rvs_nil ?_
 exact ⟨_, z, hI0, hst.keep1⟩
}
}
}
}
}

theorem mvcc_read_ref {w0 w : World} {I : HL} {R : SP} {a0 : (List mvcc_Version)} {r0_0 : Value} {a1 : Int} (f0_0 : Rd ty_mvcc_Version R I r0_0 a0) (hst : St w0 w I [] R) {r : (api_Got)} (hm : mvcc_read a0 a1 = some r) :
  Calls prog 33 #[r0_0, U6 a1] w fun e w' => ∃ (q0_0 : Value), e = .returned (.agg #[.bool r.Has, q0_0]) ∧ St w0 w' I [ownS (tyInt .u8) q0_0 r.Val] R := by {
 unfold mvcc_read at hm
 refine calls_start (args := [r0_0, U6 a1]) func33 z ntmps33 (Nat.le_of_ble_eq_true z) ?_
 refine wp_seq (wrl ?_)
 have hv214 := (rd_sliceV f0_0)
 obtain ⟨b208, w209, ew210, eb211, hst⟩ := hst.box [r0_0] 53
 refine wl_run (v := Pt b208 0) (w' := w209) z z (x_al (by obtain ⟨_, _, hv_, _⟩ := hv214; rw [hv_]; kernel_rfl) ew210 eb211) ?_
 obtain ⟨b215, w216, ew217, eb218, hst⟩ := hst.box [U6 a1] 24
 refine wl_run (v := Pt b215 0) (w' := w216) z z (x_al (by kernel_rfl) ew217 eb218) ?_
 obtain ⟨b221, w222, ew223, eb224, hst⟩ := hst.box [.bool false, Zs] 34
 refine wl_run (v := Pt b221 0) (w' := w222) z z (x_al (by kernel_rfl) ew223 eb224) ?_
 refine wl_nil (tn (wp_seq (wrl (wv (r0_0) z z (x_load z isAgg53 (hst.bc2 z)) (wv (.int .i64 ((a0).length : Int)) z z (x_len z underlying53 (rd_sliceV f0_0)) (wv (.func (.func 61) #[] #[Pt b208 0, Pt b215 0]) z z (by kernel_rfl) ?_))))))
 obtain ⟨y294, hq295, hm⟩ := bind_some hm
 refine wl_call z z (x_callv call38 (caps := []) z (vs := [I6 ((a0).length : Int), .func (.func 61) #[] #[Pt b208 0, Pt b215 0]]) z) ?_
 refine Calls.mono (show Calls prog 38 #[I6 ((a0).length : Int), .func (.func 61) #[] #[Pt b208 0, Pt b215 0]] _ (fun e w' => ∃ (z292 : Int), z292 = y294 ∧ e = .returned (.int .i64 z292) ∧ St w0 w' I [cells b208 [r0_0], cells b215 [U6 a1], cells b221 [.bool false, Zs]] R) from ?_) ?_
 {
 clear hm; have hm := hq295
 refine calls_start (args := [I6 ((a0).length : Int), .func (.func 61) #[] #[Pt b208 0, Pt b215 0]]) func38 z ntmps38 (Nat.le_of_ble_eq_true z) ?_
 refine wp_seq (wrl (wv (.int .i64 (0:Int)) z z z (wl_nil (tn (wp_seq (wrl (wv (.int .i64 ((a0).length : Int)) z z z (wv (.int .i64 (0:Int)) z z z (wv (.int .i64 ((a0).length : Int)) z z z (wl_nil (tn (wp_seq (wp_block ?_)))))))))))))
 obtain ⟨n267, hm⟩ := loopO_some hm
 refine wp_loop_n (fun n a w => ∃ (z264 : Int) (z265 : Int) (σ266 : Nat → Value), loopN (mvcc_read_l0 a0 a1) n (z264, z265) = some y294 ∧ a = Fr 26 (upd (upd (upd σ266 1 (.func (.func 61) #[] #[Pt b208 0, Pt b215 0])) 5 (.int .i64 z264)) 6 (.int .i64 z265)) ∧ St w0 w I [cells b221 [.bool false, Zs], cells b215 [U6 a1], cells b208 [r0_0]] R) n267 ⟨(0:Int), ((a0).length : Int), _, hm, (fu 1 (.func (.func 61) #[] #[Pt b208 0, Pt b215 0]) z (fu 5 (.int .i64 (0:Int)) z (fu 6 (.int .i64 ((a0).length : Int)) z z))), hst⟩ ?_
 rintro n273 _ w268 ⟨z264, z265, σ266, hm, rfl, hst⟩
 obtain ⟨n270, y271, rfl, hm, hx272⟩ := loopN_some hm
 dsimp only [mvcc_read_l0] at hm
 refine wp_seq (wp_seq (wrl (wv (.int .i64 z264) z z z (wv (.int .i64 z265) z z z (wv (.bool (decide (z264 < z265))) z z z (wl_nil (tn ?_)))))))
 refine bsplit (decide (z264 < z265)) (fun hc274 => ?_) (fun hc274 => ?_)
 {
 replace hm := bif_t hc274 hm
 refine wp_ift (cvb hc274) ?_
 refine wp_skip (tn (wp_block (wp_seq (wrl ?_))))
 refine wv (.int .i64 z264) z z z (wv (.int .i64 z265) z z z (wv (.int .i64 (i64.wrap (z264 + z265))) z z z (wv (.int .u64 (u64.wrap (i64.wrap (z264 + z265)))) z z (by kernel_rfl) (wv (.int .u64 (iShr .u64 (u64.wrap (i64.wrap (z264 + z265))) (1:Int))) z z (x_shr (by decide) z z) (wv (.int .i64 (i64.wrap (iShr .u64 (u64.wrap (i64.wrap (z264 + z265))) (1:Int)))) z z (by kernel_rfl) (wv (.int .i64 (i64.wrap (iShr .u64 (u64.wrap (i64.wrap (z264 + z265))) (1:Int)))) z z z (wl_nil (tn (wp_seq (wrl (wv (.func (.func 61) #[] #[Pt b208 0, Pt b215 0]) z z z (wv (.int .i64 (i64.wrap (iShr .u64 (u64.wrap (i64.wrap (z264 + z265))) (1:Int)))) z z z ?_))))))))))))
 obtain ⟨y288, hq289, hm⟩ := bind_some hm
 refine wl_call z z (x_callv call61 (caps := [Pt b208 0, Pt b215 0]) z (vs := [I6 (i64.wrap (iShr .u64 (u64.wrap (i64.wrap (z264 + z265))) (1:Int)))]) z) ?_
 refine Calls.mono (show Calls prog 61 #[I6 (i64.wrap (iShr .u64 (u64.wrap (i64.wrap (z264 + z265))) (1:Int))), Pt b208 0, Pt b215 0] _ (fun e w' => ∃ (z286 : Bool), z286 = y288 ∧ e = .returned (.bool z286) ∧ St w0 w' I [cells b208 [r0_0], cells b215 [U6 a1], cells b221 [.bool false, Zs]] R) from ?_) ?_
 {
 clear hm; have hm := hq289
 refine calls_start (args := [I6 (i64.wrap (iShr .u64 (u64.wrap (i64.wrap (z264 + z265))) (1:Int))), Pt b208 0, Pt b215 0]) func61 z ntmps61 (Nat.le_of_ble_eq_true z) ?_
 refine wp_seq (wrl (wv (.bool false) z z z (wl_nil (tn (wp_seq ?_)))))
 refine wq_regionS hst Try.mixed (by kernel_rfl) ?_
 refine wq_run (v := r0_0) z z (fun w hst => x_load z isAgg53 (hst.bc2 z)) ?_
 refine wq_run (v := .int .i64 (i64.wrap (iShr .u64 (u64.wrap (i64.wrap (z264 + z265))) (1:Int)))) z z (fun w hst => z) ?_
 obtain ⟨x275, hx276, hm⟩ := bind_some hm
 obtain ⟨h277, h278, hi279⟩ := geto_some hx276
 refine wq_run (v := .pointer (some (eAddr r0_0 ((i64.wrap (iShr .u64 (u64.wrap (i64.wrap (z264 + z265))) (1:Int))).toNat * 4 + 0)))) z z (fun w hst => x_index z z underlying53 sizeOf52 (rd_sliceV f0_0) h277 h278) ?_
 refine wq_run (v := .pointer (some (eAddr r0_0 ((i64.wrap (iShr .u64 (u64.wrap (i64.wrap (z264 + z265))) (1:Int))).toNat * 4 + 0)))) z z (fun w hst => x_field_e z underlying52 z sizeOf24 z) ?_
 obtain ⟨cs280, hr281, hc282⟩ := Rd.getF f0_0 hi279
 obtain ⟨v283, rfl, f284, -⟩ := hr281
 refine wq_run (v := .int .u64 x275.Epoch) z z (fun w hst => x_load z isAgg24 ((hc282 (HL.le.refl _) hst) 0 _ z)) ?_
 refine wq_run (v := .int .u64 a1) z z (fun w hst => x_load z isAgg24 (hst.bc1 z)) ?_
 refine wq_run (v := .bool (decide (x275.Epoch > a1))) z z (fun w hst => z) ?_
 refine wq_run (v := .bool (decide (x275.Epoch > a1))) z z (fun w hst => z) ?_
 refine wq_nil ?_
 intro w hst
 refine tn (wp_ret ?_)
 refine post_ret (vs := [.bool (decide (x275.Epoch > a1))]) results61 (rvs_cons (rv_tmp z) rvs_nil) ?_
 replace hst := hst.pull1.pull2.keep3
 obtain rfl := some_inj hm
 exact ⟨(decide (x275.Epoch > a1)), z, z, hst⟩
}
 clear hst
 rintro _ w290 ⟨z286, rfl, rfl, hst⟩
 refine ⟨_, z, ?_⟩
 try dsimp only at hm
 refine wv (.bool (!z286)) z z z (wl_nil (tn ?_))
 refine bsplit (!z286) (fun hc291 => ?_) (fun hc291 => ?_)
 {
 replace hm := bif_t hc291 hm
 refine wp_ift (cvb hc291) ?_
 refine wrl (wv (.int .i64 (i64.wrap (iShr .u64 (u64.wrap (i64.wrap (z264 + z265))) (1:Int)))) z z z (wv (.int .i64 (i64.wrap ((i64.wrap (iShr .u64 (u64.wrap (i64.wrap (z264 + z265))) (1:Int))) + (1:Int)))) z z z (wv (.int .i64 (i64.wrap ((i64.wrap (iShr .u64 (u64.wrap (i64.wrap (z264 + z265))) (1:Int))) + (1:Int)))) z z z (wl_nil (blk_n (tn ?_))))))
 replace hst := hst.pull1.pull2.keep3
 obtain rfl := some_inj hm
 exact ⟨_, Nat.lt_succ_self _, (i64.wrap ((i64.wrap (iShr .u64 (u64.wrap (i64.wrap (z264 + z265))) (1:Int))) + (1:Int))), z265, _, hx272, (fu 1 (.func (.func 61) #[] #[Pt b208 0, Pt b215 0]) z (fu 5 (.int .i64 (i64.wrap ((i64.wrap (iShr .u64 (u64.wrap (i64.wrap (z264 + z265))) (1:Int))) + (1:Int)))) z (fu 6 (.int .i64 z265) z z))), hst⟩
}
 {
 replace hm := bif_f hc291 hm
 refine wp_iff (cvb hc291) ?_
 refine wrl (wv (.int .i64 (i64.wrap (iShr .u64 (u64.wrap (i64.wrap (z264 + z265))) (1:Int)))) z z z (wv (.int .i64 (i64.wrap (iShr .u64 (u64.wrap (i64.wrap (z264 + z265))) (1:Int)))) z z z (wl_nil (blk_n (tn ?_)))))
 replace hst := hst.pull1.pull2.keep3
 obtain rfl := some_inj hm
 exact ⟨_, Nat.lt_succ_self _, z264, (i64.wrap (iShr .u64 (u64.wrap (i64.wrap (z264 + z265))) (1:Int))), _, hx272, (fu 1 (.func (.func 61) #[] #[Pt b208 0, Pt b215 0]) z (fu 5 (.int .i64 z264) z (fu 6 (.int .i64 (i64.wrap (iShr .u64 (u64.wrap (i64.wrap (z264 + z265))) (1:Int)))) z z))), hst⟩
}
}
 {
 replace hm := bif_f hc274 hm
 refine wp_iff (cvb hc274) ?_
 refine wp_exit (then_x (then_x ?_))
 replace hm := inr_up hm hx272
 refine blk_x (tn (wp_seq (wrl ?_)))
 refine wv (.int .i64 z264) z z z (wv (.int .i64 z264) z z z (wl_nil (tn (wp_ret ?_))))
 refine post_ret (vs := [I6 z264]) results38 (rvs_cons (rv_tmp z) rvs_nil) ?_
 replace hst := hst.pull1.pull2.keep3
 obtain rfl := some_inj hm
 exact ⟨z264, z, z, hst⟩
}
}
 clear hst
 rintro _ w296 ⟨z292, rfl, rfl, hst⟩
 refine ⟨_, z, ?_⟩
 try dsimp only at hm
 refine wv (.int .i64 z292) z z z (wl_nil (tn (wp_seq (wp_seq (wrl (wv (.int .i64 z292) z z z (wv (.bool (z292 == (0:Int))) z z z (wv (.bool (z292 == (0:Int))) z z z ?_))))))))
 refine bsplit (z292 == (0:Int)) (fun hc297 => ?_) (fun hc297 => ?_)
 {
 replace hm := bif_t hc297 hm
 refine wo hc297 z z z z z z (wo hc297 z z z z z z (wo hc297 z z z z z z (wo hc297 z z z z z z (wo hc297 z z z z z z (wo hc297 z z z z z z (wv (.bool true) z z (x_pick_t hc297 z z) (wl_nil (tn ?_))))))))
 refine wp_ift z ?_
 refine wp_seq (wrl (wv (.agg #[.bool false, Zs]) z z (by kernel_rfl) ?_))
 replace hst := hst.pull2
 obtain ⟨w299, hr300, hst⟩ := hst.bx [.bool false, Zs] sizeOf34 z (oC z (oC z oN)) (by kernel_rfl)
 refine wl_unit z z (x_unit hr300) ?_
 refine wl_nil (tn (wp_ret (then_r ?_)))
 replace hst := hst.own_nil (tyInt .u8)
 obtain rfl := some_inj hm
 refine post_ret (vs := [.agg #[.bool false, Zs]]) results33 (rvs_cons (rv_cell (cs := [.bool false, Zs]) z isAgg34 sizeOf34 (hst.bcs1 0 z)) rvs_nil) ?_
 exact ⟨(.slice none 0 0), z, hst.keep1⟩
}
 {
 replace hm := bif_f hc297 hm
 refine wv (r0_0) ((wanted_eq z z z (cvb hc297)).trans z) z (x_load z isAgg53 (hst.bc0 z)) (wv (.int .i64 z292) ((wanted_eq z z z (cvb hc297)).trans z) z z (wv (.int .i64 (i64.wrap (z292 - (1:Int)))) ((wanted_eq z z z (cvb hc297)).trans z) z z ?_))
 obtain ⟨x301, hx302, hm⟩ := bind_some hm
 obtain ⟨h303, h304, hi305⟩ := geto_some hx302
 refine wv (.pointer (some (eAddr r0_0 ((i64.wrap (z292 - (1:Int))).toNat * 4 + 0)))) ((wanted_eq z z z (cvb hc297)).trans z) z (x_index z z underlying53 sizeOf52 (rd_sliceV f0_0) h303 h304) (wv (.pointer (some (eAddr r0_0 ((i64.wrap (z292 - (1:Int))).toNat * 4 + 2)))) ((wanted_eq z z z (cvb hc297)).trans z) z (x_field_e z underlying52 z sizeOf4 z) ?_)
 obtain ⟨cs306, hr307, hc308⟩ := Rd.getF f0_0 hi305
 obtain ⟨v309, rfl, f310, -⟩ := hr307
 refine wv (.bool x301.Del) ((wanted_eq z z z (cvb hc297)).trans z) z (x_load z isAgg4 ((hc308 (HL.le.refl _) hst) 2 _ z)) (wv (.bool x301.Del) z z (x_pick_f hc297 z z) (wl_nil (tn ?_)))
 refine bsplit x301.Del (fun hc312 => ?_) (fun hc312 => ?_)
 {
 replace hm := bif_t hc312 hm
 refine wp_ift (cvb hc312) ?_
 refine wp_seq (wrl (wv (.agg #[.bool false, Zs]) z z (by kernel_rfl) ?_))
 replace hst := hst.pull2
 obtain ⟨w314, hr315, hst⟩ := hst.bx [.bool false, Zs] sizeOf34 z (oC z (oC z oN)) (by kernel_rfl)
 refine wl_unit z z (x_unit hr315) ?_
 refine wl_nil (tn (wp_ret (then_r ?_)))
 replace hst := hst.own_nil (tyInt .u8)
 obtain rfl := some_inj hm
 refine post_ret (vs := [.agg #[.bool false, Zs]]) results33 (rvs_cons (rv_cell (cs := [.bool false, Zs]) z isAgg34 sizeOf34 (hst.bcs1 0 z)) rvs_nil) ?_
 exact ⟨(.slice none 0 0), z, hst.keep1⟩
}
 {
 replace hm := bif_f hc312 hm
 refine wp_iff (cvb hc312) ?_
 refine wp_skip (tn (wp_seq (wrl ?_)))
 refine wv (r0_0) z z (x_load z isAgg53 (hst.bc0 z)) (wv (.int .i64 z292) z z z (wv (.int .i64 (i64.wrap (z292 - (1:Int)))) z z z (wv (.pointer (some (eAddr r0_0 ((i64.wrap (z292 - (1:Int))).toNat * 4 + 0)))) z z (x_index z z underlying53 sizeOf52 (rd_sliceV f0_0) h303 h304) (wv (.pointer (some (eAddr r0_0 ((i64.wrap (z292 - (1:Int))).toNat * 4 + 3)))) z z (x_field_e z underlying52 z sizeOf32 z) (wv (v309) z z (x_load z isAgg32 ((hc308 (HL.le.refl _) hst) 3 _ z)) ?_)))))
 obtain ⟨t316, ht317, hm⟩ := bind_some hm
 refine wc call41 [v309] z z z ?_
 refine (slices_Clone_byte_byte_ref (f310.mono (rd_weak _)) hst.to0 ht317).mono ?_
 rintro _ w318 ⟨v321, rfl, hst⟩
 refine ⟨_, z, ?_⟩
 replace hst := hst.of1
 refine wv (.agg #[.bool true, v321]) z z (by obtain ⟨_, _, hv_, _⟩ := hst.sv0; rw [hv_]; kernel_rfl) ?_
 replace hst := hst.pull3
 obtain ⟨w324, hr325, hst⟩ := hst.bx [.bool true, v321] sizeOf34 z (oC z (oC (one_of_sliceV hst.sv1) oN)) (by kernel_rfl)
 refine wl_unit z z (x_unit hr325) ?_
 refine wl_nil (tn (wp_ret ?_))
 obtain rfl := some_inj hm
 refine post_ret (vs := [.agg #[.bool true, v321]]) results33 (rvs_cons (rv_cell (cs := [.bool true, v321]) z isAgg34 sizeOf34 (hst.bcs0 0 z)) rvs_nil) ?_
 replace hst := hst.pull1
 exact ⟨v321, z, hst.keep1⟩
}
}
}

theorem mvcc_Store_Get_ref {w0 w : World} {I : HL} {R : SP} {a0 : (Option mvcc_Store)} {p0 : Value} {a1 : Nat} {a2 : Int}  (hst : St w0 w I [objO at_mvcc_Store p0 a0] R) {r : (api_Got)} (hm : mvcc_Store_Get a0 a1 a2 = some r) :
  Calls prog 13 #[p0, F6 a1, U6 a2] w fun e w' => ∃ (q0_0 : Value), e = .returned (.agg #[.bool r.Has, q0_0]) ∧ St w0 w' I [ownS (tyInt .u8) q0_0 r.Val, objO at_mvcc_Store p0 a0] R := by {
 rcases a0 with _ | o0
 {
 obtain ⟨rfl, hst'⟩ := objO_none hst
 clear hst
 have hst := hst'
 clear hst'
 dsimp only [mvcc_Store_Get] at hm
 refine calls_start (args := [.pointer none, F6 a1, U6 a2]) func13 z ntmps13 (Nat.le_of_ble_eq_true z) ?_
 refine wp_seq (wrl ?_)
 obtain ⟨b101, w102, ew103, eb104, hst⟩ := hst.box [.bool false, Zs] 34
 refine wl_run (v := Pt b101 0) (w' := w102) z z (x_al (by kernel_rfl) ew103 eb104) ?_
 refine wl_nil (tn (wp_seq (wrl (wv (.pointer none) z z z (wv (.float .f64 a1) z z z ?_)))))
 obtain ⟨t106, ht107, hm⟩ := bind_some hm
 refine wc call32 [F6 a1] z z z ?_
 refine (number_Rank_ref hst.to0 ht107).mono ?_
 rintro _ w108 ⟨rfl, hst⟩
 refine ⟨_, z, ?_⟩
 replace hst := hst.of0.objO_nil at_mvcc_Store
 obtain ⟨t112, ht113, hm⟩ := bind_some hm
 refine wc call31 [.pointer none, U6 t106] z z z ?_
 refine (mvcc_Store_find_ref hst.to1 ht113).mono ?_
 rintro _ w114 ⟨rfl, hst⟩
 refine ⟨_, z, ?_⟩
 replace hst := hst.of1
 refine wv (.tuple #[I6 t112.1, .bool t112.2]) z z z (wv (.int .i64 t112.1) z z z (wv (.bool t112.2) z z z (wv (.int .i64 t112.1) z z z (wv (.bool t112.2) z z z (wl_nil (tn (wp_seq (wp_seq (wrl (wv (.bool t112.2) z z z (wv (.bool (!t112.2)) z z z (wl_nil (tn ?_)))))))))))))
 refine bsplit (!t112.2) (fun hc117 => ?_) (fun hc117 => ?_)
 {
 replace hm := bif_t hc117 hm
 refine wp_ift (cvb hc117) ?_
 refine wp_seq (wrl (wv (.agg #[.bool false, Zs]) z z (by kernel_rfl) ?_))
 replace hst := hst.pull1
 obtain ⟨w119, hr120, hst⟩ := hst.bx [.bool false, Zs] sizeOf34 z (oC z (oC z oN)) (by kernel_rfl)
 refine wl_unit z z (x_unit hr120) ?_
 refine wl_nil (tn (wp_ret (then_r ?_)))
 replace hst := hst.own_nil (tyInt .u8)
 replace hst := hst.objO_nil at_mvcc_Store
 obtain rfl := some_inj hm
 refine post_ret (vs := [.agg #[.bool false, Zs]]) results13 (rvs_cons (rv_cell (cs := [.bool false, Zs]) z isAgg34 sizeOf34 (hst.bcs2 0 z)) rvs_nil) ?_
 replace hst := hst.pull1
 exact ⟨(.slice none 0 0), z, hst.keep2⟩
}
 {
 replace hm := bif_f hc117 hm
 refine wp_iff (cvb hc117) ?_
 refine wp_skip (tn (wp_seq (wrl ?_)))
 refine wv (.pointer none) z z z ?_
 cases hm
}
}
 {
 replace hst := objO_get hst
 dsimp only [mvcc_Store_Get] at hm
 refine calls_start (args := [p0, F6 a1, U6 a2]) func13 z ntmps13 (Nat.le_of_ble_eq_true z) ?_
 refine wp_seq (wrl ?_)
 obtain ⟨b122, w123, ew124, eb125, hst⟩ := hst.box [.bool false, Zs] 34
 refine wl_run (v := Pt b122 0) (w' := w123) z z (x_al (by kernel_rfl) ew124 eb125) ?_
 refine wl_nil (tn (wp_seq (wrl (wv (p0) z z z (wv (.float .f64 a1) z z z ?_)))))
 obtain ⟨t127, ht128, hm⟩ := bind_some hm
 refine wc call32 [F6 a1] z z z ?_
 refine (number_Rank_ref hst.to0 ht128).mono ?_
 rintro _ w129 ⟨rfl, hst⟩
 refine ⟨_, z, ?_⟩
 replace hst := hst.of0.pull1
 replace hst := objO_some hst
 obtain ⟨t132, ht133, hm⟩ := bind_some hm
 refine wc call31 [p0, U6 t127] z z z ?_
 refine (mvcc_Store_find_ref hst.to1 ht133).mono ?_
 rintro _ w134 ⟨rfl, hst⟩
 refine ⟨_, z, ?_⟩
 replace hst := hst.of1
 replace hst := objO_get hst
 refine wv (.tuple #[I6 t132.1, .bool t132.2]) z z z (wv (.int .i64 t132.1) z z z (wv (.bool t132.2) z z z (wv (.int .i64 t132.1) z z z (wv (.bool t132.2) z z z (wl_nil (tn (wp_seq (wp_seq (wrl (wv (.bool t132.2) z z z (wv (.bool (!t132.2)) z z z (wl_nil (tn ?_)))))))))))))
 refine bsplit (!t132.2) (fun hc137 => ?_) (fun hc137 => ?_)
 {
 replace hm := bif_t hc137 hm
 refine wp_ift (cvb hc137) ?_
 refine wp_seq (wrl (wv (.agg #[.bool false, Zs]) z z (by kernel_rfl) ?_))
 replace hst := hst.pull1
 obtain ⟨w139, hr140, hst⟩ := hst.bx [.bool false, Zs] sizeOf34 z (oC z (oC z oN)) (by kernel_rfl)
 refine wl_unit z z (x_unit hr140) ?_
 refine wl_nil (tn (wp_ret (then_r ?_)))
 replace hst := hst.own_nil (tyInt .u8)
 replace hst := hst.pull2
 replace hst := objO_some hst
 obtain rfl := some_inj hm
 refine post_ret (vs := [.agg #[.bool false, Zs]]) results13 (rvs_cons (rv_cell (cs := [.bool false, Zs]) z isAgg34 sizeOf34 (hst.bcs2 0 z)) rvs_nil) ?_
 replace hst := hst.pull1
 exact ⟨(.slice none 0 0), z, hst.keep2⟩
}
 {
 replace hm := bif_f hc137 hm
 refine wp_iff (cvb hc137) ?_
 refine wp_skip (tn (wp_seq (wrl ?_)))
 refine wv (p0) z z z ?_
 obtain ⟨b141, v142, rfl, hst'⟩ := at_mvcc_Store_open hst
 clear hst
 have hst := hst'
 clear hst'
 refine wv (Pt b141 0) z z z (wv (Pt b141 0) z z (x_field z underlying79 z sizeOf77 z) (wv (v142) z z (x_load z isAgg77 (hst.bc0 z)) (wv (.int .i64 t132.1) z z z ?_)))
 obtain ⟨x144, hx145, hm⟩ := bind_some hm
 obtain ⟨h146, h147, hi148⟩ := geto_some hx145
 refine wv (.pointer (some (eAddr v142 (t132.1.toNat * 2 + 0)))) z z (x_index z z underlying77 sizeOf76 (hst.nestsv 1 z) h146 h147) (wv (.pointer (some (eAddr v142 (t132.1.toNat * 2 + 1)))) z z (x_field_e z underlying76 z sizeOf53 z) ?_)
 replace hst := hst.pull1
 obtain ⟨v149, hst⟩ := hst.nest_focus hi148
 refine wv (v149) z z (x_load z isAgg53 ((hst.holeall (N := nest_mvcc_row) (i := t132.1.toNat) 1 z hi148) 1 _ z)) (wv (.int .u64 a2) z z z ?_)
 obtain ⟨css151, hq152, hst⟩ := hst.own_open
 obtain ⟨t153, ht154, hm⟩ := bind_some hm
 refine wc call33 [v149, U6 a2] z z z ?_
 refine (mvcc_read_ref (hst.rdrow0 hq152) hst.to0 ht154).mono ?_
 rintro _ w155 ⟨v158, rfl, hst⟩
 refine ⟨_, z, ?_⟩
 replace hst := hst.of1.pull1.own_close hq152
 replace hst := hst.pull4
 obtain ⟨w160, hr161, hst⟩ := hst.bx [.bool t153.Has, v158] sizeOf34 z (oC z (oC (one_of_sliceV hst.sv2) oN)) (by kernel_rfl)
 refine wl_unit z z (x_unit hr161) ?_
 refine wl_nil (tn (wp_ret ?_))
 replace hst := hst.pull3.pull2
 replace hst := St.nest_close0 (N := nest_mvcc_row) hst hi148
 replace hst := hst.pull3
 replace hst := at_mvcc_Store_close (pv := Pt b141 0) (x := o0) hst z
 replace hst := objO_some hst
 obtain rfl := some_inj hm
 refine post_ret (vs := [.agg #[.bool t153.Has, v158]]) results13 (rvs_cons (rv_cell (cs := [.bool t153.Has, v158]) z isAgg34 sizeOf34 (hst.bcs1 0 z)) rvs_nil) ?_
 replace hst := hst.pull2
 exact ⟨v158, z, hst.keep2⟩
}
}
}

theorem mvcc_Store_Size_ref {w0 w : World} {I : HL} {R : SP} {a0 : (Option mvcc_Store)} {p0 : Value}  (hst : St w0 w I [objO at_mvcc_Store p0 a0] R) {r : (Int)} (hm : mvcc_Store_Size a0 = some r) :
  Calls prog 25 #[p0] w fun e w' => e = .returned (.int .i64 r) ∧ St w0 w' I [objO at_mvcc_Store p0 a0] R := by {
 rcases a0 with _ | o0
 {
 obtain ⟨rfl, hst'⟩ := objO_none hst
 clear hst
 have hst := hst'
 clear hst'
 dsimp only [mvcc_Store_Size] at hm
 refine calls_start (args := [.pointer none]) func25 z ntmps25 (Nat.le_of_ble_eq_true z) ?_
 refine wp_seq (wrl (wv (.int .i64 (0:Int)) z z z (wl_nil (tn (wp_seq (wp_seq (wrl (wv (.pointer none) z z z (wv (.bool true) z z (by kernel_rfl) (wl_nil (tn ?_)))))))))))
 refine wp_ift z ?_
 refine wp_seq (wrl (wv (.int .i64 (0:Int)) z z z (wl_nil (tn (wp_ret (then_r ?_))))))
 replace hst := hst.objO_nil at_mvcc_Store
 obtain rfl := some_inj hm
 refine post_ret (vs := [Zi]) results25 (rvs_cons (rv_tmp z) rvs_nil) ?_
 exact ⟨z, hst.keep1⟩
}
 {
 replace hst := objO_get hst
 dsimp only [mvcc_Store_Size] at hm
 refine calls_start (args := [p0]) func25 z ntmps25 (Nat.le_of_ble_eq_true z) ?_
 refine wp_seq (wrl (wv (.int .i64 (0:Int)) z z z (wl_nil (tn (wp_seq (wp_seq (wrl (wv (p0) z z z ?_))))))))
 obtain ⟨b117, v118, rfl, hst'⟩ := at_mvcc_Store_open hst
 clear hst
 have hst := hst'
 clear hst'
 refine wv (.bool false) z z (by kernel_rfl) (wl_nil (tn ?_))
 refine wp_iff z ?_
 refine wp_skip (tn (wp_seq (wrl ?_)))
 refine wv (.int .i64 (0:Int)) z z z (wl_nil (tn (wp_seq (wp_seq (wrl (wv (Pt b117 0) z z z (wv (Pt b117 0) z z z (wv (Pt b117 0) z z (x_field z underlying79 z sizeOf77 z) (wv (v118) z z (x_load z isAgg77 (hst.bc0 z)) (wv (.int .i64 ((o0.rows).length : Int)) z z (x_len z underlying77 (hst.nestsv 1 z)) (wv (.int .i64 (0:Int)) z z z (wl_nil (tn (wp_block ?_))))))))))))))
 obtain ⟨n157, hm⟩ := loopO_some hm
 refine wp_loop_n (fun n a w => ∃ (z154 : Int) (z155 : Int) (σ156 : Nat → Value), loopN (mvcc_Store_Size_l0 o0) n (z154, z155) = some r ∧ a = Fr 24 (upd (upd (upd (upd σ156 3 (.int .i64 z155)) 11 (v118)) 12 (.int .i64 ((o0.rows).length : Int))) 13 (.int .i64 z154)) ∧ St w0 w I [cells b117 [v118], ownN nest_mvcc_row v118 o0.rows] R) n157 ⟨(0:Int), (0:Int), _, hm, (fu 3 (.int .i64 (0:Int)) z (fu 11 v118 z (fu 12 (.int .i64 ((o0.rows).length : Int)) z (fu 13 (.int .i64 (0:Int)) z z)))), hst⟩ ?_
 rintro n163 _ w158 ⟨z154, z155, σ156, hm, rfl, hst⟩
 obtain ⟨n160, y161, rfl, hm, hx162⟩ := loopN_some hm
 dsimp only [mvcc_Store_Size_l0] at hm
 refine wp_seq (wrl (wv (.bool (decide (z154 < ((o0.rows).length : Int)))) z z z (wl_nil (tn (wp_seq ?_)))))
 refine bsplit (decide (z154 < ((o0.rows).length : Int))) (fun hc164 => ?_) (fun hc164 => ?_)
 {
 replace hm := bif_t hc164 hm
 refine wp_ift (cvb hc164) ?_
 refine wp_skip (tn (wp_seq (wp_block (wp_seq (wrl ?_)))))
 obtain ⟨x165, hx166, hm⟩ := bind_some hm
 obtain ⟨h167, h168, hi169⟩ := geto_some hx166
 refine wv (.pointer (some (eAddr v118 (z154.toNat * 2 + 0)))) z z (x_index z z underlying77 sizeOf76 (hst.nestsv 1 z) h167 h168) ?_
 replace hst := hst.pull1
 obtain ⟨v170, hst⟩ := hst.nest_focus hi169
 refine wv (.agg #[U6 x165.rank, v170]) z z (x_loadN (cs := [U6 x165.rank, v170]) z isAgg76 sizeOf76 (eCells (o := 0) (hst.holeall (N := nest_mvcc_row) (i := z154.toNat) 1 z hi169) z)) ?_
 obtain ⟨b173, w174, ew175, eb176, hst⟩ := hst.box [Zu, Zs] 76
 refine wl_run (v := Pt b173 0) (w' := w174) z z (x_al (by kernel_rfl) ew175 eb176) ?_
 obtain ⟨w178, hr179, hst⟩ := hst.bx [U6 x165.rank, v170] sizeOf76 z (oC z (oC (one_of_sliceV hst.sv1) oN)) (by kernel_rfl)
 refine wl_unit z z (x_unit hr179) ?_
 refine wl_nil (tn (wrl (wv (.int .i64 z155) z z z (wv (Pt b173 1) z z (x_field z underlying76 z sizeOf53 z) (wv (v170) z z (x_load z isAgg53 (hst.bc0 z)) (wv (.int .i64 ((x165.l).length : Int)) z z (x_len z underlying53 hst.sv1) (wv (.int .i64 (i64.wrap (z155 + ((x165.l).length : Int)))) z z z (wv (.int .i64 (i64.wrap (z155 + ((x165.l).length : Int)))) z z z (wl_nil (blk_n (tn (wrl (wv (.int .i64 (i64.wrap (z154 + (1:Int)))) z z z (wv (.int .i64 (i64.wrap (z154 + (1:Int)))) z z z (wl_nil (tn ?_))))))))))))))))
 replace hst := hst.pull2.pull2
 replace hst := St.nest_close0 (N := nest_mvcc_row) hst hi169
 replace hst := hst.pull2.keep2
 obtain rfl := some_inj hm
 exact ⟨_, Nat.lt_succ_self _, (i64.wrap (z154 + (1:Int))), (i64.wrap (z155 + ((x165.l).length : Int))), _, hx162, (fu 3 (.int .i64 (i64.wrap (z155 + ((x165.l).length : Int)))) z (fu 11 v118 z (fu 12 (.int .i64 ((o0.rows).length : Int)) z (fu 13 (.int .i64 (i64.wrap (z154 + (1:Int)))) z z)))), hst⟩
}
 {
 replace hm := bif_f hc164 hm
 refine wp_iff (cvb hc164) ?_
 refine wp_exit (then_x (then_x ?_))
 replace hm := inr_up hm hx162
 refine blk_x (tn (wp_seq (wrl ?_)))
 refine wv (.int .i64 z155) z z z (wv (.int .i64 z155) z z z (wl_nil (tn (wp_ret ?_))))
 replace hst := hst.pull1.pull1
 replace hst := at_mvcc_Store_close (pv := Pt b117 0) (x := o0) hst z
 replace hst := objO_some hst
 obtain rfl := some_inj hm
 refine post_ret (vs := [I6 z155]) results25 (rvs_cons (rv_tmp z) rvs_nil) ?_
 exact ⟨z, hst.keep1⟩
}
}
}

theorem law11_awake_ref {w0 w : World} {I : HL} {R : SP}   (hst : St w0 w I [] R) {r : (Bool)} (hm : law11_awake = some r) :
  Calls prog 10 #[] w fun e w' => ∃ (I' : HL), e = .returned (.bool r) ∧ I.le I' ∧ St w0 w' I' [] R := by {
 unfold law11_awake at hm
 refine calls_start (args := []) func10 z ntmps10 (Nat.le_of_ble_eq_true z) ?_
 have hI0 := HL.le.refl I
 refine wp_seq (wrl (wv (.bool false) z z z (wl_nil (tn (wp_seq (wrl ?_))))))
 obtain ⟨t57, ht58, hm⟩ := bind_some hm
 refine wc call21 [] z z z ?_
 refine (mvcc_New_ref hst.to0 ht58).mono ?_
 rintro _ w59 ⟨v62, rfl, hst⟩
 refine ⟨_, z, ?_⟩
 replace hst := hst.of1
 refine wv (v62) z z z (wl_nil (tn (wp_seq (wrl (wv (v62) z z z ?_)))))
 obtain ⟨b64, w65, ew66, eb67, hst⟩ := hst.lits (E := (tyInt .u8)) (xs := [(97:Int)]) [[U1 (97:Int)]] 5 1 z (Reps.cons z Reps.nil)
 refine wl_run (v := (.slice (some ⟨b64, 0, none⟩) 1 1)) (w' := w65) z z (x_als (by kernel_rfl) ew66 eb67) ?_
 obtain ⟨I69, w72, hI70, f71, hr73, hst⟩ := hst.own_mark (P := prog) underlying32 underlying5 (List.cons_ne_nil _ _)
 replace hI0 := hI0.trans hI70
 refine wl_run (v := (.slice (some ⟨b64, 0, none⟩) 1 1)) (w' := w72) z z (x_conv z hr73) ?_
 refine wv (.agg #[U6 (2:Int), Zu, .bool false, (.slice (some ⟨b64, 0, none⟩) 1 1)]) z z (by kernel_rfl) ?_
 replace hst := objO_some hst
 obtain ⟨t75, ht76, hm⟩ := bind_some hm
 refine wc call22 [v62, F6 (4607182418800017408:Nat), .agg #[U6 (2:Int), Zu, .bool false, (.slice (some ⟨b64, 0, none⟩) 1 1)]] z z z ?_
 refine (mvcc_Store_Put_ref (a2 := ({ Epoch := (2:Int), Index := (0:Int), Del := false, Val := [(97:Int)] } : mvcc_Version)) (f71.mono ro_rd) hst.to1 ht76).mono ?_
 rintro _ w77 ⟨I78, rfl, hI79, hst⟩
 refine ⟨_, z, ?_⟩
 replace hst := hst.of1
 replace f71 := f71.mono (ro_le hI79)
 replace hI0 := hI0.trans hI79
 rcases he81 : t75 with _ | y80
 · rw [he81] at hm; cases hm
 rw [he81] at hm hst; dsimp only at hm; replace hst := objO_get hst
 refine wl_nil (tn (wp_seq (wrl (wv (v62) z z z (wv (.agg #[U6 (3:Int), Zu, .bool true, Zs]) z z (by kernel_rfl) ?_)))))
 replace hst := objO_some hst
 have f83 : Ro (tyInt .u8) I78 (.slice none 0 0) [] := ro_nil
 obtain ⟨t84, ht85, hm⟩ := bind_some hm
 refine wc call22 [v62, F6 (4607182418800017408:Nat), .agg #[U6 (3:Int), Zu, .bool true, Zs]] z z z ?_
 refine (mvcc_Store_Put_ref (a2 := ({ Epoch := (3:Int), Index := (0:Int), Del := true, Val := [] } : mvcc_Version)) (f83.mono ro_rd) hst.to1 ht85).mono ?_
 rintro _ w86 ⟨I87, rfl, hI88, hst⟩
 refine ⟨_, z, ?_⟩
 replace hst := hst.of1
 replace f71 := f71.mono (ro_le hI88)
 replace f83 := f83.mono (ro_le hI88)
 replace hI0 := hI0.trans hI88
 rcases he90 : t84 with _ | y89
 · rw [he90] at hm; cases hm
 rw [he90] at hm hst; dsimp only at hm; replace hst := objO_get hst
 refine wl_nil (tn (wp_seq (wrl (wv (v62) z z z ?_))))
 replace hst := objO_some hst
 obtain ⟨t91, ht92, hm⟩ := bind_some hm
 refine wc call13 [v62, F6 (4607182418800017408:Nat), U6 (2:Int)] z z z ?_
 refine (mvcc_Store_Get_ref hst.to1 ht92).mono ?_
 rintro _ w93 ⟨v96, rfl, hst⟩
 refine ⟨_, z, ?_⟩
 replace hst := hst.of2.pull1
 replace hst := objO_get hst
 refine wv (v96) z z (by obtain ⟨_, _, hv_, _⟩ := hst.sv1; rw [hv_]; kernel_rfl) (wv (.string (toStr t91.Val)) z z (x_tostr underlying32 underlying9 underlying5 z hst.src1) (wv (.bool (sEq (toStr t91.Val) (ByteArray.mk #[97]))) z z (by kernel_rfl) (wv (.bool (sEq (toStr t91.Val) (ByteArray.mk #[97]))) z z z ?_)))
 refine bsplit (sEq (toStr t91.Val) (ByteArray.mk #[97])) (fun hc98 => ?_) (fun hc98 => ?_)
 {
 replace hm := bif_t hc98 hm
 refine wv (v62) ((wanted_eq z z z (cvb hc98)).trans z) z z ?_
 replace hst := objO_some hst
 obtain ⟨t99, ht100, hm⟩ := bind_some hm
 refine wl_call ((wanted_eq z z z (cvb hc98)).trans z) z (x_call call13 z (vs := [v62, F6 (4607182418800017408:Nat), U6 (3:Int)]) z) ?_
 refine (mvcc_Store_Get_ref hst.to1 ht100).mono ?_
 rintro _ w101 ⟨v104, rfl, hst⟩
 refine ⟨_, z, ?_⟩
 replace hst := hst.of2.pull1
 replace hst := objO_get hst
 refine wv (.bool t99.Has) ((wanted_eq z z z (cvb hc98)).trans z) z (by obtain ⟨_, _, hv_, _⟩ := hst.sv1; rw [hv_]; kernel_rfl) (wv (.bool (!t99.Has)) ((wanted_eq z z z (cvb hc98)).trans z) z z (wv (.bool (!t99.Has)) z z (x_pick_t hc98 z z) (wv (.bool (!t99.Has)) z z z ?_)))
 refine bsplit (!t99.Has) (fun hc106 => ?_) (fun hc106 => ?_)
 {
 replace hm := bif_t hc106 hm
 refine wv (v62) ((wanted_eq z z z (cvb hc106)).trans z) z z ?_
 replace hst := objO_some hst
 obtain ⟨t107, ht108, hm⟩ := bind_some hm
 refine wl_call ((wanted_eq z z z (cvb hc106)).trans z) z (x_call call25 z (vs := [v62]) z) ?_
 refine (mvcc_Store_Size_ref hst.to1 ht108).mono ?_
 rintro _ w109 ⟨rfl, hst⟩
 refine ⟨_, z, ?_⟩
 replace hst := hst.of1
 replace hst := objO_get hst
 refine wv (.bool (t107 == (2:Int))) ((wanted_eq z z z (cvb hc106)).trans z) z z (wv (.bool (t107 == (2:Int))) z z (x_pick_t hc106 z z) (wv (.bool (t107 == (2:Int))) z z z (wl_nil (tn (wp_ret ?_)))))
 obtain rfl := some_inj hm
 refine post_ret (vs := [.bool (t107 == (2:Int))]) results10 (rvs_cons (rv_tmp z) rvs_nil) ?_
 exact ⟨_, z, hI0, hst.keep0⟩
}
 {
 replace hm := bif_f hc106 hm
 refine wo hc106 z z z z z z (wo hc106 z z z z z z (wo hc106 z z z z z z (wv (.bool false) z z (x_pick_f hc106 z z) (wv (.bool false) z z z (wl_nil (tn (wp_ret ?_)))))))
 obtain rfl := some_inj hm
 refine post_ret (vs := [.bool false]) results10 (rvs_cons (rv_tmp z) rvs_nil) ?_
 exact ⟨_, z, hI0, hst.keep0⟩
}
}
 {
 replace hm := bif_f hc98 hm
 refine wo hc98 z z z z z z (wo hc98 z z z z z z (wo hc98 z z z z z z (wo hc98 z z z z z z (wv (.bool false) z z (x_pick_f hc98 z z) (wv (.bool false) z z z (wz z z z z z z (wz z z z z z z (wz z z z z z z (wv (.bool false) z z (x_pick_f z z z) (wv (.bool false) z z z (wl_nil (tn (wp_ret ?_)))))))))))))
 obtain rfl := some_inj hm
 refine post_ret (vs := [.bool false]) results10 (rvs_cons (rv_tmp z) rvs_nil) ?_
 exact ⟨_, z, hI0, hst.keep0⟩
}
}

theorem slices_Clone_mvcc_Version_mvcc_Version_ref {w0 w : World} {I : HL} {R : SP} {a0 : (List mvcc_Version)} {r0_0 : Value} (f0_0 : RdO ty_mvcc_Version R I r0_0 a0) (hst : St w0 w I [] R) {r : (List mvcc_Version)} (hm : slices_Clone_mvcc_Version_mvcc_Version a0 = some r) :
  Calls prog 40 #[r0_0] w fun e w' => ∃ (q0_0 : Value), e = .returned (q0_0) ∧ St w0 w' I [ownS ty_mvcc_Version q0_0 r] R := by {
 unfold slices_Clone_mvcc_Version_mvcc_Version at hm
 obtain ⟨hg, hm⟩ := gd_some hm
 obtain rfl := some_inj hm
 have hsv := rdo_sliceV f0_0
 refine calls_start (args := [r0_0]) func40 z ntmps40 (Nat.le_of_ble_eq_true z) ?_
 refine wp_seq (wrl (wv ((.slice none 0 0)) z z z (wl_nil (tn (wp_seq (wp_seq (wrl (wv (r0_0) z z z (wv (.bool (isNil r0_0)) z z (x_slnil z hsv z underlying53) (wl_nil (tn ?_)))))))))))
 refine bsplit (isNil r0_0) (fun hc276 => ?_) (fun hc276 => ?_)
 {
 refine wp_ift (cvb hc276) ?_
 refine wp_seq (wrl (wv ((.slice none 0 0)) z z z (wl_nil (tn (wp_ret (then_r ?_))))))
 refine post_ret (vs := [Zs]) results40 (rvs_cons (rv_tmp z) rvs_nil) ?_
 obtain rfl := List.eq_nil_of_length_eq_zero (isNil_len hsv hc276)
 exact ⟨_, z, (hst.own_nil ty_mvcc_Version).keep1⟩
}
 {
 refine wp_iff (cvb hc276) ?_
 refine wp_skip (tn (wp_seq (wrl ?_)))
 obtain ⟨b, w1, ew, eb, hst⟩ := hst.lits (E := ty_mvcc_Version) (xs := []) [] 52 0 z Reps.nil
 refine wl_run (v := (.slice (some ⟨b, 0, none⟩) 0 0)) (w' := w1) z z (x_als (by kernel_rfl) ew eb) ?_
 refine wv (r0_0) z z z ?_
 obtain ⟨v2, w2, hr, hst⟩ := run_append elem_53 underlying53 hst (Src.of_rdo hst f0_0) (room_of hg z) 53
 refine wl_run (v := v2) (w' := w2) z z (x_append z z hr) ?_
 refine wv (v2) z z z (wl_nil (tn (wp_ret ?_)))
 refine post_ret (vs := [v2]) results40 (rvs_cons (rv_tmp z) rvs_nil) ?_
 rw [List.nil_append] at hst
 exact ⟨_, z, hst.keep1⟩
}
}

theorem mvcc_Store_Trim_ref {w0 w : World} {I : HL} {R : SP} {a0 : (Option mvcc_Store)} {p0 : Value} {a1 : Int}  (hst : St w0 w I [objO at_mvcc_Store p0 a0] R) {r : ((Option mvcc_Store))} (hm : mvcc_Store_Trim a0 a1 = some r) :
  Calls prog 19 #[p0, U6 a1] w fun e w' => ∃ (I' : HL), e = .returned (.tuple #[]) ∧ I.le I' ∧ St w0 w' I' [objO at_mvcc_Store p0 r] R := by {
 rcases a0 with _ | o0
 {
 obtain ⟨rfl, hst'⟩ := objO_none hst
 clear hst
 have hst := hst'
 clear hst'
 dsimp only [mvcc_Store_Trim] at hm
 refine calls_start (args := [.pointer none, U6 a1]) func19 z ntmps19 (Nat.le_of_ble_eq_true z) ?_
 have hI0 := HL.le.refl I
 refine wp_seq (wrl ?_)
 obtain ⟨b785, w786, ew787, eb788, hst⟩ := hst.box [U6 a1] 24
 refine wl_run (v := Pt b785 0) (w' := w786) z z (x_al (by kernel_rfl) ew787 eb788) ?_
 refine wl_nil (tn (wp_seq (wp_seq (wrl (wv (.pointer none) z z z (wv (.bool true) z z (by kernel_rfl) (wl_nil (tn ?_))))))))
 refine wp_ift z ?_
 refine wp_ret (then_r ?_)
 replace hst := hst.objO_nil at_mvcc_Store
 obtain rfl := some_inj hm
 refine post_ret (vs := []) results19 rvs_nil ?_
 exact ⟨_, z, hI0, hst.keep1⟩
}
 {
 replace hst := objO_get hst
 dsimp only [mvcc_Store_Trim] at hm
 refine calls_start (args := [p0, U6 a1]) func19 z ntmps19 (Nat.le_of_ble_eq_true z) ?_
 have hI0 := HL.le.refl I
 refine wp_seq (wrl ?_)
 obtain ⟨b790, w791, ew792, eb793, hst⟩ := hst.box [U6 a1] 24
 refine wl_run (v := Pt b790 0) (w' := w791) z z (x_al (by kernel_rfl) ew792 eb793) ?_
 refine wl_nil (tn (wp_seq (wp_seq (wrl (wv (p0) z z z ?_)))))
 replace hst := hst.pull1
 obtain ⟨b795, v796, rfl, hst'⟩ := at_mvcc_Store_open hst
 clear hst
 have hst := hst'
 clear hst'
 refine wv (.bool false) z z (by kernel_rfl) (wl_nil (tn ?_))
 refine wp_iff z ?_
 refine wp_skip (tn (wp_seq (wrl ?_)))
 refine wv ((.slice none 0 0)) z z z (wl_nil (tn ?_))
 obtain ⟨y1401, hm, hx1402⟩ := bind_some hm
 refine wp_cut (fun a w => ∃ (I1398 : HL) (z1397 : (List mvcc_row)) (v1396 : Value) (σ1399 : Nat → Value), (mvcc_Store_Trim_j0) z1397 = some r ∧ a = Fr 57 (upd (upd σ1399 0 (Pt b795 0)) 4 (v1396)) ∧ I.le I1398 ∧ Ro ty_mvcc_row I1398 v796 o0.rows ∧ St w0 w I1398 [cells b795 [v796], ownN nest_mvcc_row v1396 z1397] R) ?_ ?_
 {
 have hL1403 := HL.le.refl I
 refine wp_seq (wrl (wv (Pt b795 0) z z z (wv (Pt b795 0) z z z (wv (Pt b795 0) z z (x_field z underlying79 z sizeOf77 z) ?_))))
 replace hst := hst.pull1
 obtain ⟨I799, hI800, f801, hst⟩ := hst.nest_fix (E2 := ty_mvcc_row) z nestrep_mvcc_row
 replace hI0 := hI0.trans hI800
 replace hL1403 := hL1403.trans hI800
 refine wv (v796) z z (x_load z isAgg77 (hst.bc0 z)) (wv (.int .i64 ((o0.rows).length : Int)) z z (x_len z underlying77 (ro_sliceV f801)) (wv (.int .i64 (0:Int)) z z z (wl_nil (tn (wp_block ?_)))))
 replace hst := hst.nest_nil nest_mvcc_row
 obtain ⟨n1243, hm⟩ := loopO_some hm
 refine wp_loop_n (fun n a w => ∃ (z1238 : Int) (z1239 : (List mvcc_row)) (v1240 : Value) (σ1242 : Nat → Value), loopN (mvcc_Store_Trim_l1 o0 a1) n (z1238, z1239) = some y1401 ∧ a = Fr 57 (upd (upd (upd (upd (upd (upd σ1242 0 (Pt b795 0)) 3 (Pt b790 0)) 4 (v1240)) 14 (v796)) 15 (.int .i64 ((o0.rows).length : Int))) 16 (.int .i64 z1238)) ∧ St w0 w I799 [ownN nest_mvcc_row v1240 z1239, cells b795 [v796], cells b790 [U6 a1]] R) n1243 ⟨(0:Int), [], Zs, _, hm, (fu 0 (Pt b795 0) z (fu 3 (Pt b790 0) z (fu 4 (.slice none 0 0) z (fu 14 v796 z (fu 15 (.int .i64 ((o0.rows).length : Int)) z (fu 16 (.int .i64 (0:Int)) z z)))))), hst⟩ ?_
 rintro n1249 _ w1244 ⟨z1238, z1239, v1240, σ1242, hm, rfl, hst⟩
 obtain ⟨n1246, y1247, rfl, hm, hx1248⟩ := loopN_some hm
 dsimp only [mvcc_Store_Trim_l1] at hm
 refine wp_seq (wrl (wv (.bool (decide (z1238 < ((o0.rows).length : Int)))) z z z (wl_nil (tn (wp_seq ?_)))))
 refine bsplit (decide (z1238 < ((o0.rows).length : Int))) (fun hc1250 => ?_) (fun hc1250 => ?_)
 {
 replace hm := bif_t hc1250 hm
 refine wp_ift (cvb hc1250) ?_
 refine wp_skip (tn (wp_seq (wp_block (wp_seq (wrl ?_)))))
 obtain ⟨x1251, hx1252, hm⟩ := bind_some hm
 obtain ⟨h1253, h1254, hi1255⟩ := geto_some hx1252
 refine wv (.pointer (some (eAddr v796 (z1238.toNat * 2 + 0)))) z z (x_index z z underlying77 sizeOf76 (ro_sliceV f801) h1253 h1254) ?_
 obtain ⟨cs1256, hr1257, hc1258⟩ := Ro.getF f801 hi1255
 obtain ⟨v1259, rfl, f1260, -⟩ := hr1257
 refine wv (.agg #[U6 x1251.rank, v1259]) z z (x_loadN (cs := [U6 x1251.rank, v1259]) z isAgg76 sizeOf76 (eCells (o := 0) (hc1258 (HL.le.refl _) hst) z)) ?_
 obtain ⟨b1263, w1264, ew1265, eb1266, hst⟩ := hst.box [Zu, Zs] 76
 refine wl_run (v := Pt b1263 0) (w' := w1264) z z (x_al (by kernel_rfl) ew1265 eb1266) ?_
 obtain ⟨w1268, hr1269, hst⟩ := hst.bx [U6 x1251.rank, v1259] sizeOf76 z (oC z (oC (one_of_sliceV (ro_sliceV f1260)) oN)) (by kernel_rfl)
 refine wl_unit z z (x_unit hr1269) ?_
 refine wl_nil (tn (wp_seq (wrl (wv (Pt b1263 1) z z (x_field z underlying76 z sizeOf53 z) (wv (v1259) z z (x_load z isAgg53 (hst.bc0 z)) (wv (.int .i64 ((x1251.l).length : Int)) z z (x_len z underlying53 (ro_sliceV f1260)) (wv (.func (.func 39) #[] #[Pt b1263 0, Pt b790 0]) z z (by kernel_rfl) ?_)))))))
 obtain ⟨y1338, hq1339, hm⟩ := bind_some hm
 refine wl_call z z (x_callv call38 (caps := []) z (vs := [I6 ((x1251.l).length : Int), .func (.func 39) #[] #[Pt b1263 0, Pt b790 0]]) z) ?_
 refine Calls.mono (show Calls prog 38 #[I6 ((x1251.l).length : Int), .func (.func 39) #[] #[Pt b1263 0, Pt b790 0]] _ (fun e w' => ∃ (z1336 : Int), z1336 = y1338 ∧ e = .returned (.int .i64 z1336) ∧ St w0 w' I799 [cells b795 [v796], cells b790 [U6 a1], ownN nest_mvcc_row v1240 z1239, cells b1263 [U6 x1251.rank, v1259]] R) from ?_) ?_
 {
 clear hm; have hm := hq1339
 refine calls_start (args := [I6 ((x1251.l).length : Int), .func (.func 39) #[] #[Pt b1263 0, Pt b790 0]]) func38 z ntmps38 (Nat.le_of_ble_eq_true z) ?_
 refine wp_seq (wrl (wv (.int .i64 (0:Int)) z z z (wl_nil (tn (wp_seq (wrl (wv (.int .i64 ((x1251.l).length : Int)) z z z (wv (.int .i64 (0:Int)) z z z (wv (.int .i64 ((x1251.l).length : Int)) z z z (wl_nil (tn (wp_seq (wp_block ?_)))))))))))))
 obtain ⟨n1311, hm⟩ := loopO_some hm
 refine wp_loop_n (fun n a w => ∃ (z1308 : Int) (z1309 : Int) (σ1310 : Nat → Value), loopN (mvcc_Store_Trim_l2 x1251 a1) n (z1308, z1309) = some y1338 ∧ a = Fr 26 (upd (upd (upd σ1310 1 (.func (.func 39) #[] #[Pt b1263 0, Pt b790 0])) 5 (.int .i64 z1308)) 6 (.int .i64 z1309)) ∧ St w0 w I799 [cells b1263 [U6 x1251.rank, v1259], ownN nest_mvcc_row v1240 z1239, cells b795 [v796], cells b790 [U6 a1]] R) n1311 ⟨(0:Int), ((x1251.l).length : Int), _, hm, (fu 1 (.func (.func 39) #[] #[Pt b1263 0, Pt b790 0]) z (fu 5 (.int .i64 (0:Int)) z (fu 6 (.int .i64 ((x1251.l).length : Int)) z z))), hst⟩ ?_
 rintro n1317 _ w1312 ⟨z1308, z1309, σ1310, hm, rfl, hst⟩
 obtain ⟨n1314, y1315, rfl, hm, hx1316⟩ := loopN_some hm
 dsimp only [mvcc_Store_Trim_l2] at hm
 refine wp_seq (wp_seq (wrl (wv (.int .i64 z1308) z z z (wv (.int .i64 z1309) z z z (wv (.bool (decide (z1308 < z1309))) z z z (wl_nil (tn ?_)))))))
 refine bsplit (decide (z1308 < z1309)) (fun hc1318 => ?_) (fun hc1318 => ?_)
 {
 replace hm := bif_t hc1318 hm
 refine wp_ift (cvb hc1318) ?_
 refine wp_skip (tn (wp_block (wp_seq (wrl ?_))))
 refine wv (.int .i64 z1308) z z z (wv (.int .i64 z1309) z z z (wv (.int .i64 (i64.wrap (z1308 + z1309))) z z z (wv (.int .u64 (u64.wrap (i64.wrap (z1308 + z1309)))) z z (by kernel_rfl) (wv (.int .u64 (iShr .u64 (u64.wrap (i64.wrap (z1308 + z1309))) (1:Int))) z z (x_shr (by decide) z z) (wv (.int .i64 (i64.wrap (iShr .u64 (u64.wrap (i64.wrap (z1308 + z1309))) (1:Int)))) z z (by kernel_rfl) (wv (.int .i64 (i64.wrap (iShr .u64 (u64.wrap (i64.wrap (z1308 + z1309))) (1:Int)))) z z z (wl_nil (tn (wp_seq (wrl (wv (.func (.func 39) #[] #[Pt b1263 0, Pt b790 0]) z z z (wv (.int .i64 (i64.wrap (iShr .u64 (u64.wrap (i64.wrap (z1308 + z1309))) (1:Int)))) z z z ?_))))))))))))
 obtain ⟨y1332, hq1333, hm⟩ := bind_some hm
 refine wl_call z z (x_callv call39 (caps := [Pt b1263 0, Pt b790 0]) z (vs := [I6 (i64.wrap (iShr .u64 (u64.wrap (i64.wrap (z1308 + z1309))) (1:Int)))]) z) ?_
 refine Calls.mono (show Calls prog 39 #[I6 (i64.wrap (iShr .u64 (u64.wrap (i64.wrap (z1308 + z1309))) (1:Int))), Pt b1263 0, Pt b790 0] _ (fun e w' => ∃ (z1330 : Bool), z1330 = y1332 ∧ e = .returned (.bool z1330) ∧ St w0 w' I799 [cells b795 [v796], cells b790 [U6 a1], ownN nest_mvcc_row v1240 z1239, cells b1263 [U6 x1251.rank, v1259]] R) from ?_) ?_
 {
 clear hm; have hm := hq1333
 refine calls_start (args := [I6 (i64.wrap (iShr .u64 (u64.wrap (i64.wrap (z1308 + z1309))) (1:Int))), Pt b1263 0, Pt b790 0]) func39 z ntmps39 (Nat.le_of_ble_eq_true z) ?_
 refine wp_seq (wrl (wv (.bool false) z z z (wl_nil (tn (wp_seq ?_)))))
 refine wq_regionS hst Try.mixed (by kernel_rfl) ?_
 refine wq_run (v := Pt b1263 1) z z (fun w hst => x_field z underlying76 z sizeOf53 z) ?_
 refine wq_run (v := v1259) z z (fun w hst => x_load z isAgg53 (hst.bc0 z)) ?_
 refine wq_run (v := .int .i64 (i64.wrap (iShr .u64 (u64.wrap (i64.wrap (z1308 + z1309))) (1:Int)))) z z (fun w hst => z) ?_
 obtain ⟨x1319, hx1320, hm⟩ := bind_some hm
 obtain ⟨h1321, h1322, hi1323⟩ := geto_some hx1320
 refine wq_run (v := .pointer (some (eAddr v1259 ((i64.wrap (iShr .u64 (u64.wrap (i64.wrap (z1308 + z1309))) (1:Int))).toNat * 4 + 0)))) z z (fun w hst => x_index z z underlying53 sizeOf52 (ro_sliceV f1260) h1321 h1322) ?_
 refine wq_run (v := .pointer (some (eAddr v1259 ((i64.wrap (iShr .u64 (u64.wrap (i64.wrap (z1308 + z1309))) (1:Int))).toNat * 4 + 0)))) z z (fun w hst => x_field_e z underlying52 z sizeOf24 z) ?_
 obtain ⟨cs1324, hr1325, hc1326⟩ := Ro.getF f1260 hi1323
 obtain ⟨v1327, rfl, f1328, -⟩ := hr1325
 refine wq_run (v := .int .u64 x1319.Epoch) z z (fun w hst => x_load z isAgg24 ((hc1326 (HL.le.refl _) hst) 0 _ z)) ?_
 refine wq_run (v := .int .u64 a1) z z (fun w hst => x_load z isAgg24 (hst.bc3 z)) ?_
 refine wq_run (v := .bool (decide (x1319.Epoch > a1))) z z (fun w hst => z) ?_
 refine wq_run (v := .bool (decide (x1319.Epoch > a1))) z z (fun w hst => z) ?_
 refine wq_nil ?_
 intro w hst
 refine tn (wp_ret ?_)
 refine post_ret (vs := [.bool (decide (x1319.Epoch > a1))]) results39 (rvs_cons (rv_tmp z) rvs_nil) ?_
 replace hst := hst.pull1.pull3.pull3.keep4
 obtain rfl := some_inj hm
 exact ⟨(decide (x1319.Epoch > a1)), z, z, hst⟩
}
 clear hst
 rintro _ w1334 ⟨z1330, rfl, rfl, hst⟩
 refine ⟨_, z, ?_⟩
 try dsimp only at hm
 refine wv (.bool (!z1330)) z z z (wl_nil (tn ?_))
 refine bsplit (!z1330) (fun hc1335 => ?_) (fun hc1335 => ?_)
 {
 replace hm := bif_t hc1335 hm
 refine wp_ift (cvb hc1335) ?_
 refine wrl (wv (.int .i64 (i64.wrap (iShr .u64 (u64.wrap (i64.wrap (z1308 + z1309))) (1:Int)))) z z z (wv (.int .i64 (i64.wrap ((i64.wrap (iShr .u64 (u64.wrap (i64.wrap (z1308 + z1309))) (1:Int))) + (1:Int)))) z z z (wv (.int .i64 (i64.wrap ((i64.wrap (iShr .u64 (u64.wrap (i64.wrap (z1308 + z1309))) (1:Int))) + (1:Int)))) z z z (wl_nil (blk_n (tn ?_))))))
 replace hst := hst.pull1.pull1.pull2.pull3.keep4
 obtain rfl := some_inj hm
 exact ⟨_, Nat.lt_succ_self _, (i64.wrap ((i64.wrap (iShr .u64 (u64.wrap (i64.wrap (z1308 + z1309))) (1:Int))) + (1:Int))), z1309, _, hx1316, (fu 1 (.func (.func 39) #[] #[Pt b1263 0, Pt b790 0]) z (fu 5 (.int .i64 (i64.wrap ((i64.wrap (iShr .u64 (u64.wrap (i64.wrap (z1308 + z1309))) (1:Int))) + (1:Int)))) z (fu 6 (.int .i64 z1309) z z))), hst⟩
}
 {
 replace hm := bif_f hc1335 hm
 refine wp_iff (cvb hc1335) ?_
 refine wrl (wv (.int .i64 (i64.wrap (iShr .u64 (u64.wrap (i64.wrap (z1308 + z1309))) (1:Int)))) z z z (wv (.int .i64 (i64.wrap (iShr .u64 (u64.wrap (i64.wrap (z1308 + z1309))) (1:Int)))) z z z (wl_nil (blk_n (tn ?_)))))
 replace hst := hst.pull1.pull1.pull2.pull3.keep4
 obtain rfl := some_inj hm
 exact ⟨_, Nat.lt_succ_self _, z1308, (i64.wrap (iShr .u64 (u64.wrap (i64.wrap (z1308 + z1309))) (1:Int))), _, hx1316, (fu 1 (.func (.func 39) #[] #[Pt b1263 0, Pt b790 0]) z (fu 5 (.int .i64 z1308) z (fu 6 (.int .i64 (i64.wrap (iShr .u64 (u64.wrap (i64.wrap (z1308 + z1309))) (1:Int)))) z z))), hst⟩
}
}
 {
 replace hm := bif_f hc1318 hm
 refine wp_iff (cvb hc1318) ?_
 refine wp_exit (then_x (then_x ?_))
 replace hm := inr_up hm hx1316
 refine blk_x (tn (wp_seq (wrl ?_)))
 refine wv (.int .i64 z1308) z z z (wv (.int .i64 z1308) z z z (wl_nil (tn (wp_ret ?_))))
 refine post_ret (vs := [I6 z1308]) results38 (rvs_cons (rv_tmp z) rvs_nil) ?_
 replace hst := hst.pull1.pull3.pull3.keep4
 obtain rfl := some_inj hm
 exact ⟨z1308, z, z, hst⟩
}
}
 clear hst
 rintro _ w1340 ⟨z1336, rfl, rfl, hst⟩
 refine ⟨_, z, ?_⟩
 try dsimp only at hm
 refine wv (.int .i64 z1336) z z z (wl_nil (tn (wp_seq (wrl (wv (Pt b1263 1) z z (x_field z underlying76 z sizeOf53 z) (wv (v1259) z z (x_load z isAgg53 (hst.bc3 z)) (wv (.int .i64 z1336) z z z (wv (.int .i64 (i64.wrap (z1336 - (1:Int)))) z z z (wv (.int .i64 (if (0:Int) > (i64.wrap (z1336 - (1:Int))) then (0:Int) else (i64.wrap (z1336 - (1:Int))))) z z (by kernel_rfl) ?_)))))))))
 obtain ⟨hg1341, hm⟩ := gd_some hm
 obtain ⟨h1342, h1343, h1344⟩ := fits_of hg1341
 have f1346 : Ro ty_mvcc_Version I799 (slcV 4 v1259 (if (0:Int) > (i64.wrap (z1336 - (1:Int))) then (0:Int) else (i64.wrap (z1336 - (1:Int)))).toNat (((x1251.l).length : Nat) : Int).toNat) (subs x1251.l (if (0:Int) > (i64.wrap (z1336 - (1:Int))) then (0:Int) else (i64.wrap (z1336 - (1:Int)))) (((x1251.l).length : Nat) : Int)) := Ro.part f1260 h1343 h1344 h1342
 refine wv ((slcV 4 v1259 (if (0:Int) > (i64.wrap (z1336 - (1:Int))) then (0:Int) else (i64.wrap (z1336 - (1:Int)))).toNat (((x1251.l).length : Nat) : Int).toNat)) z z (x_slice underlying53 sizeOf52 z (ro_sliceV f1260) h1342 h1343 h1344 .i64 .i64 (.inl z) (.inr ⟨z, z⟩)) ?_
 obtain ⟨t1347, ht1348, hm⟩ := bind_some hm
 refine wc call40 [(slcV 4 v1259 (if (0:Int) > (i64.wrap (z1336 - (1:Int))) then (0:Int) else (i64.wrap (z1336 - (1:Int)))).toNat (((x1251.l).length : Nat) : Int).toNat)] z z z ?_
 refine (slices_Clone_mvcc_Version_mvcc_Version_ref (RdO.of_ro f1346 _) hst.to0 ht1348).mono ?_
 rintro _ w1349 ⟨v1352, rfl, hst⟩
 refine ⟨_, z, ?_⟩
 replace hst := hst.of1
 refine wv (v1352) z z z (wl_nil (tn ?_))
 obtain ⟨y1377, hm, hx1378⟩ := bind_some hm
 refine wp_cut (fun a w => ∃ (z1374 : (List mvcc_Version)) (v1373 : Value) (σ1375 : Nat → Value), (mvcc_Store_Trim_j3 z1239 x1251 z1238) z1374 = some y1247 ∧ a = Fr 57 (upd (upd (upd (upd (upd (upd (upd (upd σ1375 0 (Pt b795 0)) 3 (Pt b790 0)) 4 (v1240)) 6 (Pt b1263 0)) 8 (v1373)) 14 (v796)) 15 (.int .i64 ((o0.rows).length : Int))) 16 (.int .i64 z1238)) ∧ St w0 w I799 [cells b795 [v796], cells b790 [U6 a1], ownN nest_mvcc_row v1240 z1239, cells b1263 [U6 x1251.rank, v1259], ownS ty_mvcc_Version v1373 z1374] R) ?_ ?_
 {
 refine wp_seq (wrl (wv (.int .i64 z1336) z z z (wv (.bool (decide (z1336 > (0:Int)))) z z z (wv (.bool (decide (z1336 > (0:Int)))) z z z ?_))))
 refine bsplit (decide (z1336 > (0:Int))) (fun hc1354 => ?_) (fun hc1354 => ?_)
 {
 replace hm := bif_t hc1354 hm
 refine wv (v1352) ((wanted_eq z z z (cvb hc1354)).trans z) z z ?_
 obtain ⟨x1355, hx1356, hm⟩ := bind_some hm
 obtain ⟨h1357, h1358, hi1359⟩ := geto_some hx1356
 refine wv (.pointer (some (eAddr v1352 ((0:Int).toNat * 4 + 0)))) ((wanted_eq z z z (cvb hc1354)).trans z) z (x_index z z underlying53 sizeOf52 hst.sv0 h1357 h1358) (wv (.pointer (some (eAddr v1352 ((0:Int).toNat * 4 + 2)))) ((wanted_eq z z z (cvb hc1354)).trans z) z (x_field_e z underlying52 z sizeOf4 z) ?_)
 obtain ⟨cs1360, hr1361, hc1362⟩ := hst.og0 hi1359
 obtain ⟨v1363, rfl, f1364, -⟩ := hr1361
 refine wv (.bool x1355.Del) ((wanted_eq z z z (cvb hc1354)).trans z) z (x_load z isAgg4 (hc1362 2 _ z)) (wv (.bool x1355.Del) z z (x_pick_t hc1354 z z) (wl_nil (tn ?_)))
 refine bsplit x1355.Del (fun hc1366 => ?_) (fun hc1366 => ?_)
 {
 replace hm := bif_t hc1366 hm
 refine wp_ift (cvb hc1366) ?_
 refine wrl (wv (v1352) z z z ?_)
 obtain ⟨hg1367, hm⟩ := gd_some hm
 obtain ⟨h1368, h1369, h1370⟩ := fits_of hg1367
 refine wv ((slcV 4 v1352 (1:Int).toNat (((t1347).length : Nat) : Int).toNat)) z z (x_slice underlying53 sizeOf52 z hst.sv0 h1368 h1369 h1370 .i64 .i64 (.inl z) (.inr ⟨z, z⟩)) ?_
 replace hst := hst.own_part h1369 h1370 h1368
 refine wv ((slcV 4 v1352 (1:Int).toNat (((t1347).length : Nat) : Int).toNat)) z z z (wl_nil (tn ?_))
 replace hst := hst.pull4.pull4.pull4.pull4.keep5
 obtain rfl := some_inj hm
 exact ⟨(subs t1347 (1:Int) (((t1347).length : Nat) : Int)), (slcV 4 v1352 (1:Int).toNat (((t1347).length : Nat) : Int).toNat), _, hx1378, (fu 0 (Pt b795 0) z (fu 3 (Pt b790 0) z (fu 4 v1240 z (fu 6 (Pt b1263 0) z (fu 8 (slcV 4 v1352 (1:Int).toNat (((t1347).length : Nat) : Int).toNat) z (fu 14 v796 z (fu 15 (.int .i64 ((o0.rows).length : Int)) z (fu 16 (.int .i64 z1238) z z)))))))), hst⟩
}
 {
 replace hm := bif_f hc1366 hm
 refine wp_iff (cvb hc1366) ?_
 refine wp_skip (tn ?_)
 replace hst := hst.pull4.pull4.pull4.pull4.keep5
 obtain rfl := some_inj hm
 exact ⟨t1347, v1352, _, hx1378, (fu 0 (Pt b795 0) z (fu 3 (Pt b790 0) z (fu 4 v1240 z (fu 6 (Pt b1263 0) z (fu 8 v1352 z (fu 14 v796 z (fu 15 (.int .i64 ((o0.rows).length : Int)) z (fu 16 (.int .i64 z1238) z z)))))))), hst⟩
}
}
 {
 replace hm := bif_f hc1354 hm
 refine wo hc1354 z z z z z z (wo hc1354 z z z z z z (wo hc1354 z z z z z z (wo hc1354 z z z z z z (wv (.bool false) z z (x_pick_f hc1354 z z) (wl_nil (tn ?_))))))
 refine wp_iff z ?_
 refine wp_skip (tn ?_)
 replace hst := hst.pull4.pull4.pull4.pull4.keep5
 obtain rfl := some_inj hm
 exact ⟨t1347, v1352, _, hx1378, (fu 0 (Pt b795 0) z (fu 3 (Pt b790 0) z (fu 4 v1240 z (fu 6 (Pt b1263 0) z (fu 8 v1352 z (fu 14 v796 z (fu 15 (.int .i64 ((o0.rows).length : Int)) z (fu 16 (.int .i64 z1238) z z)))))))), hst⟩
}
}
 {
 clear hst
 rintro _ w1379 ⟨z1374, v1373, σ1375, hm, rfl, hst⟩
 dsimp only [mvcc_Store_Trim_j3] at hm
 refine wp_seq (wrl (wv (v1373) z z z (wv (.int .i64 ((z1374).length : Int)) z z (x_len z underlying53 hst.sv4) (wv (.bool (decide (((z1374).length : Int) > (0:Int)))) z z z (wl_nil (tn ?_))))))
 refine bsplit (decide (((z1374).length : Int) > (0:Int))) (fun hc1380 => ?_) (fun hc1380 => ?_)
 {
 replace hm := bif_t hc1380 hm
 refine wp_ift (cvb hc1380) ?_
 refine wrl (wv (v1240) z z z (wv (Pt b1263 0) z z (x_field z underlying76 z sizeOf24 z) (wv (.int .u64 x1251.rank) z z (x_load z isAgg24 (hst.bc3 z)) (wv (v1373) z z z (wv (.agg #[U6 x1251.rank, v1373]) z z (by obtain ⟨_, _, hv_, _⟩ := hst.sv4; rw [hv_]; kernel_rfl) ?_)))))
 replace hst := hst.pull4
 have hv1388 := hst.sv0
 obtain ⟨b1383, w1384, ew1385, eb1386, hst⟩ := hst.nest_one (N := nest_mvcc_row) (x := ({ rank := x1251.rank, l := z1374 } : mvcc_row)) 76
 refine wl_run (v := (.slice (some ⟨b1383, 0, none⟩) 1 1)) (w' := w1384) z z (x_als (by obtain ⟨_, _, hv_, _⟩ := hv1388; rw [hv_]; kernel_rfl) ew1385 eb1386) ?_
 obtain ⟨hg1389, hm⟩ := gd_some hm
 replace hst := hst.pull3.pull1.pull1
 obtain ⟨v1390, w1391, hr1392, hst⟩ := run_appN (N := nest_mvcc_row) elemN_77 underlying77 hst (room_of hg1389 z) 77
 refine wl_run (v := v1390) (w' := w1391) z z (x_append z z hr1392) ?_
 refine wv (v1390) z z z (wl_nil (blk_n (tn (wrl (wv (.int .i64 (i64.wrap (z1238 + (1:Int)))) z z z (wv (.int .i64 (i64.wrap (z1238 + (1:Int)))) z z z (wl_nil (tn ?_))))))))
 replace hst := hst.pull2.pull2.pull2.keep3
 obtain rfl := some_inj hm
 exact ⟨_, Nat.lt_succ_self _, (i64.wrap (z1238 + (1:Int))), (z1239 ++ ([({ rank := x1251.rank, l := z1374 } : mvcc_row)])), v1390, _, hx1248, (fu 0 (Pt b795 0) z (fu 3 (Pt b790 0) z (fu 4 v1390 z (fu 14 v796 z (fu 15 (.int .i64 ((o0.rows).length : Int)) z (fu 16 (.int .i64 (i64.wrap (z1238 + (1:Int)))) z z)))))), hst⟩
}
 {
 replace hm := bif_f hc1380 hm
 refine wp_iff (cvb hc1380) ?_
 refine wp_skip (blk_n (tn (wrl ?_)))
 refine wv (.int .i64 (i64.wrap (z1238 + (1:Int)))) z z z (wv (.int .i64 (i64.wrap (z1238 + (1:Int)))) z z z (wl_nil (tn ?_)))
 replace hst := hst.pull1.pull1.pull2.keep3
 obtain rfl := some_inj hm
 exact ⟨_, Nat.lt_succ_self _, (i64.wrap (z1238 + (1:Int))), z1239, v1240, _, hx1248, (fu 0 (Pt b795 0) z (fu 3 (Pt b790 0) z (fu 4 v1240 z (fu 14 v796 z (fu 15 (.int .i64 ((o0.rows).length : Int)) z (fu 16 (.int .i64 (i64.wrap (z1238 + (1:Int)))) z z)))))), hst⟩
}
}
}
 {
 replace hm := bif_f hc1250 hm
 refine wp_iff (cvb hc1250) ?_
 refine wp_exit (then_x (then_x ?_))
 replace hm := inr_up hm hx1248
 refine blk_x (tn ?_)
 replace hst := hst.pull1.keep2
 obtain rfl := some_inj hm
 exact ⟨_, z1239, v1240, _, hx1402, (fu 0 (Pt b795 0) z (fu 4 v1240 z z)), hL1403, f801, hst⟩
}
}
 {
 clear hst
 rintro _ w1404 ⟨I1398, z1397, v1396, σ1399, hm, rfl, hL1400, f1394, hst⟩
 dsimp only [mvcc_Store_Trim_j0] at hm
 replace hI0 := hI0.trans hL1400
 refine wrl (wv (Pt b795 0) z z z (wv (v1396) z z z (wv (Pt b795 0) z z z (wv (Pt b795 0) z z (x_field z underlying79 z sizeOf77 z) ?_))))
 obtain ⟨w1405, hr1406, hst⟩ := hst.boxStore1 (P := prog) (t := 77) (cs' := [v1396]) 0 v1396 (one_of_sliceV (hst.nestsv 1 z)) sizeOf77 z z
 refine wl_unit z z (x_unit hr1406) ?_
 refine wl_nil ?_
 replace hst := hst.pull1.pull1
 replace hst := at_mvcc_Store_close (pv := Pt b795 0) (x := ({ rows := z1397 } : mvcc_Store)) hst z
 replace hst := objO_some hst
 obtain rfl := some_inj hm
 refine post_end (vs := []) results19 rvs_nil ?_
 exact ⟨_, z, hI0, hst.keep1⟩
}
}
}

theorem number_Back_ref {w0 w : World} {I : HL} {R : SP} {a0 : Int}  (hst : St w0 w I [] R) {r : (Nat)} (hm : number_Back a0 = some r) :
  Calls prog 35 #[U6 a0] w fun e w' => e = .returned (.float .f64 r) ∧ St w0 w' I [] R := by {
 unfold number_Back at hm
 refine calls_start (args := [U6 a0]) func35 z ntmps35 (Nat.le_of_ble_eq_true z) ?_
 refine wp_seq (wrl (wv (.float .f64 (0:Nat)) z z z (wl_nil (tn (wp_seq (wp_seq (wrl (wv (.int .u64 a0) z z z (wv (.int .u64 (iShr .u64 a0 (63:Int))) z z (x_shr (by decide) z z) (wv (.bool ((iShr .u64 a0 (63:Int)) == (1:Int))) z z z (wl_nil (tn ?_))))))))))))
 refine bsplit ((iShr .u64 a0 (63:Int)) == (1:Int)) (fun hc223 => ?_) (fun hc223 => ?_)
 {
 replace hm := bif_t hc223 hm
 refine wp_ift (cvb hc223) ?_
 refine wp_seq (wrl (wv (.int .u64 a0) z z z (wv (.int .u64 (bAndNot .u64 a0 (9223372036854775808:Int))) z z z (wv (.float .f64 (Int.toNat (bAndNot .u64 a0 (9223372036854775808:Int)))) z z (by kernel_rfl) (wv (.float .f64 (Int.toNat (bAndNot .u64 a0 (9223372036854775808:Int)))) z z z (wl_nil (tn (wp_ret (then_r ?_)))))))))
 obtain rfl := some_inj hm
 refine post_ret (vs := [F6 (Int.toNat (bAndNot .u64 a0 (9223372036854775808:Int)))]) results35 (rvs_cons (rv_tmp z) rvs_nil) ?_
 exact ⟨z, hst.keep0⟩
}
 {
 replace hm := bif_f hc223 hm
 refine wp_iff (cvb hc223) ?_
 refine wp_skip (tn (wp_seq (wrl ?_)))
 refine wv (.int .u64 a0) z z z (wv (.int .u64 (bXor .u64 ((18446744073709551615):Int) a0)) z z (by kernel_rfl) (wv (.float .f64 (Int.toNat (bXor .u64 ((18446744073709551615):Int) a0))) z z (by kernel_rfl) (wv (.float .f64 (Int.toNat (bXor .u64 ((18446744073709551615):Int) a0))) z z z (wl_nil (tn (wp_ret ?_))))))
 obtain rfl := some_inj hm
 refine post_ret (vs := [F6 (Int.toNat (bXor .u64 ((18446744073709551615):Int) a0))]) results35 (rvs_cons (rv_tmp z) rvs_nil) ?_
 exact ⟨z, hst.keep0⟩
}
}

theorem mvcc_Store_Scan_ref {w0 w : World} {I : HL} {R : SP} {a0 : (Option mvcc_Store)} {p0 : Value} {a1 : Nat} {a2 : Nat} {a3 : Int} {a4 : Int}  (hst : St w0 w I [objO at_mvcc_Store p0 a0] R) {r : ((List api_Pair))} (hm : mvcc_Store_Scan a0 a1 a2 a3 a4 = some r) :
  Calls prog 16 #[p0, F6 a1, F6 a2, U6 a3, I6 a4] w fun e w' => ∃ (I' : HL) (q0_0 : Value), e = .returned (q0_0) ∧ I.le I' ∧ St w0 w' I' [ownS ty_api_Pair q0_0 r, objO at_mvcc_Store p0 a0] R := by {
 rcases a0 with _ | o0
 {
 obtain ⟨rfl, hst'⟩ := objO_none hst
 clear hst
 have hst := hst'
 clear hst'
 dsimp only [mvcc_Store_Scan] at hm
 refine calls_start (args := [.pointer none, F6 a1, F6 a2, U6 a3, I6 a4]) func16 z ntmps16 (Nat.le_of_ble_eq_true z) ?_
 have hI0 := HL.le.refl I
 refine wp_seq (wrl (wv ((.slice none 0 0)) z z z (wl_nil (tn (wp_seq (wp_seq (wrl (wv (.pointer none) z z z (wv (.bool true) z z (by kernel_rfl) (wl_nil (tn ?_)))))))))))
 refine wp_ift z ?_
 refine wp_seq (wrl (wv ((.slice none 0 0)) z z z (wl_nil (tn (wp_ret (then_r ?_))))))
 replace hst := hst.own_nil ty_api_Pair
 replace hst := hst.objO_nil at_mvcc_Store
 obtain rfl := some_inj hm
 refine post_ret (vs := [Zs]) results16 (rvs_cons (rv_tmp z) rvs_nil) ?_
 replace hst := hst.pull1
 exact ⟨_, Zs, z, hI0, hst.keep2⟩
}
 {
 replace hst := objO_get hst
 dsimp only [mvcc_Store_Scan] at hm
 refine calls_start (args := [p0, F6 a1, F6 a2, U6 a3, I6 a4]) func16 z ntmps16 (Nat.le_of_ble_eq_true z) ?_
 have hI0 := HL.le.refl I
 refine wp_seq (wrl (wv ((.slice none 0 0)) z z z (wl_nil (tn (wp_seq (wp_seq (wrl (wv (p0) z z z ?_))))))))
 obtain ⟨b434, v435, rfl, hst'⟩ := at_mvcc_Store_open hst
 clear hst
 have hst := hst'
 clear hst'
 refine wv (.bool false) z z (by kernel_rfl) (wl_nil (tn ?_))
 refine wp_iff z ?_
 refine wp_skip (tn (wp_seq (wrl ?_)))
 refine wv ((.slice none 0 0)) z z z (wl_nil (tn (wp_seq (wp_seq (wrl (wv (Pt b434 0) z z z (wv (.float .f64 a1) z z z ?_)))))))
 obtain ⟨t438, ht439, hm⟩ := bind_some hm
 refine wc call32 [F6 a1] z z z ?_
 refine (number_Rank_ref hst.to0 ht439).mono ?_
 rintro _ w440 ⟨rfl, hst⟩
 refine ⟨_, z, ?_⟩
 replace hst := hst.of0.pull1.pull1
 replace hst := at_mvcc_Store_close (pv := Pt b434 0) (x := o0) hst z
 replace hst := objO_some hst
 obtain ⟨t443, ht444, hm⟩ := bind_some hm
 refine wc call31 [Pt b434 0, U6 t438] z z z ?_
 refine (mvcc_Store_find_ref hst.to1 ht444).mono ?_
 rintro _ w445 ⟨rfl, hst⟩
 refine ⟨_, z, ?_⟩
 replace hst := hst.of1
 replace hst := objO_get hst
 refine wv (.tuple #[I6 t443.1, .bool t443.2]) z z z (wv (.int .i64 t443.1) z z z (wv (.bool t443.2) z z z (wv (.int .i64 t443.1) z z z (wv (.bool t443.2) z z z (wl_nil (tn (wp_block ?_)))))))
 replace hst := hst.own_nil ty_api_Pair
 obtain ⟨n629, hm⟩ := loopO_some hm
 refine wp_loop_n (fun n a w => ∃ (I627 : HL) (z623 : (List api_Pair)) (z626 : Int) (v624 : Value) (σ628 : Nat → Value), loopN (mvcc_Store_Scan_l0 o0 a2 a4 a3) n (z623, z626) = some r ∧ a = Fr 80 (upd (upd (upd (upd (upd (upd σ628 0 (Pt b434 0)) 2 (.float .f64 a2)) 3 (.int .u64 a3)) 4 (.int .i64 a4)) 11 (v624)) 12 (.int .i64 z626)) ∧ I.le I627 ∧ St w0 w I627 [ownS ty_api_Pair v624 z623, at_mvcc_Store (Pt b434 0) o0] R) n629 ⟨_, [], t443.1, Zs, _, hm, (fu 0 (Pt b434 0) z (fu 2 (.float .f64 a2) z (fu 3 (.int .u64 a3) z (fu 4 (.int .i64 a4) z (fu 11 (.slice none 0 0) z (fu 12 (.int .i64 t443.1) z z)))))), (HL.le.refl _), hst⟩ ?_
 rintro n635 _ w630 ⟨I627, z623, z626, v624, σ628, hm, rfl, hL631, hst⟩
 obtain ⟨n632, y633, rfl, hm, hx634⟩ := loopN_some hm
 dsimp only [mvcc_Store_Scan_l0] at hm
 replace hI0 := hI0.trans hL631
 refine wp_seq (wp_seq ?_)
 replace hst := hst.pull1
 obtain ⟨b636, v637, e639, hst'⟩ := at_mvcc_Store_open hst
 clear hst
 have e639 := ptr_inj e639
 subst e639
 have hst := hst'
 clear hst'
 refine wp_region_St hst 26 [0, 1, 2, 3, 4, 5, 6, 7, 8, 9, 10, 11, 12, 13, 14, 15, 16, 17, 18, 19, 20, 21, 22, 23, 24, 25] [0, 0, 2, 6, 14, 30, 63, 127, 255, 511, 1023, 2047, 255, 8191, 16383, 32767, 255, 65791, 262143, 524287, 1048575, 2097151, 4194303, 2097151, 16777215, 33554431] [] z (by kernel_rfl) (by kernel_rfl) Try.mixed (by kernel_rfl) ?_
 refine wsr (.int .i64 z626) 0 z z z (by kernel_rfl) (fun w hst => z) (wsr (Pt b434 0) 1 z z z (by kernel_rfl) (fun w hst => z) (wsr (Pt b434 0) 2 z z z (by kernel_rfl) (fun w hst => z) (wsr (Pt b434 0) 3 z z z (by kernel_rfl) (fun w hst => x_field z underlying79 z sizeOf77 z) (wsr (v637) 4 z z z (by kernel_rfl) (fun w hst => x_load z isAgg77 (hst.bc0 z)) (wsr (.int .i64 ((o0.rows).length : Int)) 5 z z z (by kernel_rfl) (fun w hst => x_len z underlying77 (hst.nestsv 1 z)) (wsr (.bool (decide (z626 < ((o0.rows).length : Int)))) 6 z z z (by kernel_rfl) (fun w hst => z) (wsr (.bool (decide (z626 < ((o0.rows).length : Int)))) 7 z z z (by kernel_rfl) (fun w hst => z) ?_)))))))
 refine bsplit (decide (z626 < ((o0.rows).length : Int))) (fun hc640 => ?_) (fun hc640 => ?_)
 {
 replace hm := bif_t hc640 hm
 refine ws_q (v := Pt b434 0) 8 [9, 10, 11, 12, 13, 14, 15, 16, 17, 18, 19, 20, 21, 22, 23, 24, 25] (by kernel_rfl) z z (yi_run ((wanted_eq z z z (cvb hc640)).trans z) (fun w hst => z)) (ws_q (v := Pt b434 0) 9 [10, 11, 12, 13, 14, 15, 16, 17, 18, 19, 20, 21, 22, 23, 24, 25] (by kernel_rfl) z z (yi_run ((wanted_eq z z z (cvb hc640)).trans z) (fun w hst => z)) (ws_q (v := Pt b434 0) 10 [11, 12, 13, 14, 15, 16, 17, 18, 19, 20, 21, 22, 23, 24, 25] (by kernel_rfl) z z (yi_run ((wanted_eq z z z (cvb hc640)).trans z) (fun w hst => x_field z underlying79 z sizeOf77 z)) (ws_q (v := v637) 11 [12, 13, 14, 15, 16, 17, 18, 19, 20, 21, 22, 23, 24, 25] (by kernel_rfl) z z (yi_run ((wanted_eq z z z (cvb hc640)).trans z) (fun w hst => x_load z isAgg77 (hst.bc0 z))) (ws_q (v := .int .i64 z626) 12 [13, 14, 15, 16, 17, 18, 19, 20, 21, 22, 23, 24, 25] (by kernel_rfl) z z (yi_run ((wanted_eq z z z (cvb hc640)).trans z) (fun w hst => z)) ?_))))
 obtain ⟨x641, hx642, hm⟩ := bind_some hm
 obtain ⟨h643, h644, hi645⟩ := geto_some hx642
 refine ws_q (v := .pointer (some (eAddr v637 (z626.toNat * 2 + 0)))) 13 [14, 15, 16, 17, 18, 19, 20, 21, 22, 23, 24, 25] (by kernel_rfl) z z (yi_run ((wanted_eq z z z (cvb hc640)).trans z) (fun w hst => x_index z z underlying77 sizeOf76 (hst.nestsv 1 z) h643 h644)) (ws_q (v := .pointer (some (eAddr v637 (z626.toNat * 2 + 0)))) 14 [15, 16, 17, 18, 19, 20, 21, 22, 23, 24, 25] (by kernel_rfl) z z (yi_run ((wanted_eq z z z (cvb hc640)).trans z) (fun w hst => x_field_e z underlying76 z sizeOf24 z)) (ws_q (v := .int .u64 x641.rank) 15 [16, 17, 18, 19, 20, 21, 22, 23, 24, 25] (by kernel_rfl) z z (yi_run ((wanted_eq z z z (cvb hc640)).trans z) (fun w hst => x_load z isAgg24 (hst.nestc (N := nest_mvcc_row) (i := z626.toNat) (o := 0) 1 z hi645 (fun _ => z)))) (ws_q (v := .float .f64 a2) 16 [17, 18, 19, 20, 21, 22, 23, 24, 25] (by kernel_rfl) z z (yi_run ((wanted_eq z z z (cvb hc640)).trans z) (fun w hst => z)) ?_)))
 refine ws_e1 17 (by kernel_rfl) ?_
 refine nxe [18, 19, 20, 21, 22, 23, 24, 25] (by kernel_rfl) z ((wanted_eq z z z (cvb hc640)).trans z) ?_
 clear hst
 intro w hst
 obtain ⟨t646, ht647, hm⟩ := bind_some hm
 refine wec call32 [F6 a2] z z ?_
 refine (number_Rank_ref hst.to0 ht647).mono ?_
 rintro _ w648 ⟨rfl, hst⟩
 refine ⟨_, z, ?_⟩
 replace hst := hst.of0
 refine ws_next (pend' := [(15, U6 x641.rank), (14, .pointer (some (eAddr v637 (z626.toNat * 2 + 0)))), (13, .pointer (some (eAddr v637 (z626.toNat * 2 + 0)))), (12, I6 z626), (11, v637), (10, Pt b434 0), (9, Pt b434 0), (8, Pt b434 0)]) hst (by kernel_rfl) (pk_cons z (yi_run ((wanted_eq z z z (cvb hc640)).trans z) (fun w hst => x_load z isAgg24 (hst.nestc (N := nest_mvcc_row) (i := z626.toNat) (o := 0) 1 z hi645 (fun _ => z)))) (pk_cons z (yi_run ((wanted_eq z z z (cvb hc640)).trans z) (fun w hst => x_field_e z underlying76 z sizeOf24 z)) (pk_cons z (yi_run ((wanted_eq z z z (cvb hc640)).trans z) (fun w hst => x_index z z underlying77 sizeOf76 (hst.nestsv 1 z) h643 h644)) (pk_cons z (yi_run ((wanted_eq z z z (cvb hc640)).trans z) (fun w hst => z)) (pk_cons z (yi_run ((wanted_eq z z z (cvb hc640)).trans z) (fun w hst => x_load z isAgg77 (hst.bc0 z))) (pk_cons z (yi_run ((wanted_eq z z z (cvb hc640)).trans z) (fun w hst => x_field z underlying79 z sizeOf77 z)) (pk_cons z (yi_run ((wanted_eq z z z (cvb hc640)).trans z) (fun w hst => z)) (pk_cons z (yi_run ((wanted_eq z z z (cvb hc640)).trans z) (fun w hst => z)) pk_nil)))))))) ?_
 refine ws_q (v := .bool (decide (x641.rank ≤ t646))) 18 [19, 20, 21, 22, 23, 24, 25] (by kernel_rfl) z z (yi_run ((wanted_eq z z z (cvb hc640)).trans z) (fun w hst => z)) (wsr (.bool (decide (x641.rank ≤ t646))) 19 z z z (by kernel_rfl) (fun w hst => x_pick_t hc640 z z) (wsr (.bool (decide (x641.rank ≤ t646))) 20 z z z (by kernel_rfl) (fun w hst => z) ?_))
 refine bsplit (decide (x641.rank ≤ t646)) (fun hc651 => ?_) (fun hc651 => ?_)
 {
 replace hm := bif_t hc651 hm
 refine ws_q (v := v624) 21 [22, 23, 24, 25] (by kernel_rfl) z z (yi_run ((wanted_eq z z z (cvb hc651)).trans z) (fun w hst => z)) (ws_q (v := .int .i64 ((z623).length : Int)) 22 [23, 24, 25] (by kernel_rfl) z z (yi_run ((wanted_eq z z z (cvb hc651)).trans z) (fun w hst => x_len z underlying40 hst.sv2)) (ws_q (v := .int .i64 a4) 23 [24, 25] (by kernel_rfl) z z (yi_run ((wanted_eq z z z (cvb hc651)).trans z) (fun w hst => z)) (ws_q (v := .bool (decide (((z623).length : Int) < a4))) 24 [25] (by kernel_rfl) z z (yi_run ((wanted_eq z z z (cvb hc651)).trans z) (fun w hst => z)) (wsr (.bool (decide (((z623).length : Int) < a4))) 25 z z z (by kernel_rfl) (fun w hst => x_pick_t hc651 z z) ?_))))
 refine ws_nil ?_
 intro w hst
 refine tn ?_
 refine bsplit (decide (((z623).length : Int) < a4)) (fun hc652 => ?_) (fun hc652 => ?_)
 {
 replace hm := bif_t hc652 hm
 refine wp_ift (cvb hc652) ?_
 refine wp_skip (tn (wp_seq (wp_block (wp_seq (wrl ?_)))))
 refine wv (Pt b434 0) z z z (wv (Pt b434 0) z z z (wv (Pt b434 0) z z (x_field z underlying79 z sizeOf77 z) (wv (v637) z z (x_load z isAgg77 (hst.bc0 z)) (wv (.int .i64 z626) z z z (wv (.pointer (some (eAddr v637 (z626.toNat * 2 + 0)))) z z (x_index z z underlying77 sizeOf76 (hst.nestsv 1 z) h643 h644) (wv (.pointer (some (eAddr v637 (z626.toNat * 2 + 1)))) z z (x_field_e z underlying76 z sizeOf53 z) ?_))))))
 replace hst := hst.pull1
 obtain ⟨v653, hst⟩ := hst.nest_focus hi645
 refine wv (v653) z z (x_load z isAgg53 ((hst.holeall (N := nest_mvcc_row) (i := z626.toNat) 1 z hi645) 1 _ z)) (wv (.int .u64 a3) z z z ?_)
 obtain ⟨css655, hq656, hst⟩ := hst.own_open
 obtain ⟨t657, ht658, hm⟩ := bind_some hm
 refine wc call33 [v653, U6 a3] z z z ?_
 refine (mvcc_read_ref (hst.rdrow0 hq656) hst.to0 ht658).mono ?_
 rintro _ w659 ⟨v662, rfl, hst⟩
 refine ⟨_, z, ?_⟩
 replace hst := hst.of1.pull1.own_close hq656
 obtain ⟨b665, w666, ew667, eb668, hst⟩ := hst.box [.bool false, Zs] 34
 refine wl_run (v := Pt b665 0) (w' := w666) z z (x_al (by kernel_rfl) ew667 eb668) ?_
 obtain ⟨w670, hr671, hst⟩ := hst.bx [.bool t657.Has, v662] sizeOf34 z (oC z (oC (one_of_sliceV hst.sv2) oN)) (by kernel_rfl)
 refine wl_unit z z (x_unit hr671) ?_
 refine wl_nil (tn (wp_seq (wrl (wv (Pt b665 0) z z (x_field z underlying34 z sizeOf4 z) (wv (.bool t657.Has) z z (x_load z isAgg4 (hst.bc0 z)) (wl_nil (tn ?_)))))))
 refine bsplit t657.Has (fun hc672 => ?_) (fun hc672 => ?_)
 {
 replace hm := bif_t hc672 hm
 refine wp_ift (cvb hc672) ?_
 refine wp_region_St hst 16 [0, 1, 2, 3, 4, 5, 6, 7, 8, 9, 10, 11, 12, 13, 14, 15] [0, 0, 2, 6, 14, 0, 62, 126, 254, 510, 0, 1024, 4094, 8190, 16383, 32767] [15] z (by kernel_rfl) (by kernel_rfl) Try.mixed (by kernel_rfl) ?_
 refine wsr (v624) 0 z z z (by kernel_rfl) (fun w hst => z) (wsr (Pt b434 0) 1 z z z (by kernel_rfl) (fun w hst => z) (wsr (Pt b434 0) 2 z z z (by kernel_rfl) (fun w hst => z) (wsr (Pt b434 0) 3 z z z (by kernel_rfl) (fun w hst => x_field z underlying79 z sizeOf77 z) (wsr (v637) 4 z z z (by kernel_rfl) (fun w hst => x_load z isAgg77 (hst.bc4 z)) (wsr (.int .i64 z626) 5 z z z (by kernel_rfl) (fun w hst => z) (wsr (.pointer (some (eAddr v637 (z626.toNat * 2 + 0)))) 6 z z z (by kernel_rfl) (fun w hst => x_index z z underlying77 sizeOf76 (hst.holesv 3 z) h643 h644) (wsr (.pointer (some (eAddr v637 (z626.toNat * 2 + 0)))) 7 z z z (by kernel_rfl) (fun w hst => x_field_e z underlying76 z sizeOf24 z) (wsr (.int .u64 x641.rank) 8 z z z (by kernel_rfl) (fun w hst => x_load z isAgg24 (hst.holec (N := nest_mvcc_row) (i := z626.toNat) (o := 0) 3 z hi645 (fun _ => z))) (wsr (Pt b665 1) 10 z z z (by kernel_rfl) (fun w hst => x_field z underlying34 z sizeOf32 z) (wsr (v662) 11 z z z (by kernel_rfl) (fun w hst => x_load z isAgg32 (hst.bc0 z)) ?_))))))))))
 refine ws_e1 9 (by kernel_rfl) ?_
 refine nxe [12, 13, 14, 15] (by kernel_rfl) z z ?_
 clear hst
 intro w hst
 obtain ⟨t673, ht674, hm⟩ := bind_some hm
 refine wec call35 [U6 x641.rank] z z ?_
 refine (number_Back_ref hst.to0 ht674).mono ?_
 rintro _ w675 ⟨rfl, hst⟩
 refine ⟨_, z, ?_⟩
 replace hst := hst.of0
 refine ws_next (pend' := [(11, v662), (10, Pt b665 1), (0, v624)]) hst (by kernel_rfl) (pkr z z (fun w hst => x_load z isAgg32 (hst.bc0 z)) (pkr z z (fun w hst => x_field z underlying34 z sizeOf32 z) (pkr z z (fun w hst => z) pk_nil))) ?_
 refine wsr (.agg #[F6 t673, v662]) 12 rfl rfl rfl (by kernel_rfl) (fun w hst => by obtain ⟨_, _, hv_, _⟩ := hst.sv2; rw [hv_]; kernel_rfl) ?_
 refine ws_e1 13 (by kernel_rfl) ?_
 refine nxe [14, 15] (by kernel_rfl) z z ?_
 clear hst
 intro w hst
 replace hst := hst.pull2
 obtain ⟨I680, hI681, f682, hst⟩ := hst.own_fix
 replace hI0 := hI0.trans hI681
 replace hL631 := hL631.trans hI681
 obtain ⟨b683, w684, ew685, eb686, hst⟩ := hst.lits (E := ty_api_Pair) (xs := [({ At := t673, Val := t657.Val } : api_Pair)]) [[F6 t673, v662]] 82 1 z (Reps.cons ⟨_, z, f682, one_of_sliceV (ro_sliceV f682)⟩ Reps.nil)
 refine we_run (v := (.slice (some ⟨b683, 0, none⟩) 1 1)) (w' := w684) z (x_als (by kernel_rfl) ew685 eb686) ?_
 refine ws_next (pend' := [(0, v624)]) hst (by kernel_rfl) (pkr z z (fun w hst => z) pk_nil) ?_
 refine ws_e1 14 (by kernel_rfl) ?_
 refine nxe [15] (by kernel_rfl) z z ?_
 clear hst
 intro w hst
 obtain ⟨hg688, hm⟩ := gd_some hm
 replace hst := hst.pull5
 obtain ⟨v689, w690, hr691, hst⟩ := run_append elem_40 underlying40 hst hst.src1 (room_of hg688 z) 40
 refine we_run (v := v689) (w' := w690) z (x_append z z hr691) ?_
 refine ws_next (pend' := []) hst (by kernel_rfl) pk_nil ?_
 refine ws_e1 15 (by kernel_rfl) ?_
 refine nxe [] (by kernel_rfl) z z ?_
 clear hst
 intro w hst
 refine we_run (v := v689) (w' := w) z z ?_
 refine ws_next (pend' := []) hst (by kernel_rfl) pk_nil ?_
 refine ws_nil ?_
 intro w hst
 refine blk_n (tn (wrl ?_))
 refine wv (.int .i64 z626) z z z (wv (.int .i64 (i64.wrap (z626 + (1:Int)))) z z z (wv (.int .i64 (i64.wrap (z626 + (1:Int)))) z z z (wl_nil (tn ?_))))
 replace hst := hst.pull4.pull4
 replace hst := St.nest_close0 (N := nest_mvcc_row) hst hi645
 replace hst := hst.pull4
 replace hst := at_mvcc_Store_close (pv := Pt b434 0) (x := o0) hst z
 replace hst := hst.pull1.keep2
 obtain rfl := some_inj hm
 exact ⟨_, Nat.lt_succ_self _, _, (z623 ++ ([({ At := t673, Val := t657.Val } : api_Pair)])), (i64.wrap (z626 + (1:Int))), v689, _, hx634, (fu 0 (Pt b434 0) z (fu 2 (.float .f64 a2) z (fu 3 (.int .u64 a3) z (fu 4 (.int .i64 a4) z (fu 11 v689 z (fu 12 (.int .i64 (i64.wrap (z626 + (1:Int)))) z z)))))), hL631, hst⟩
}
 {
 replace hm := bif_f hc672 hm
 refine wp_iff (cvb hc672) ?_
 refine wp_skip (blk_n (tn (wrl ?_)))
 refine wv (.int .i64 z626) z z z (wv (.int .i64 (i64.wrap (z626 + (1:Int)))) z z z (wv (.int .i64 (i64.wrap (z626 + (1:Int)))) z z z (wl_nil (tn ?_))))
 replace hst := hst.pull3.pull2
 replace hst := St.nest_close0 (N := nest_mvcc_row) hst hi645
 replace hst := hst.pull3
 replace hst := at_mvcc_Store_close (pv := Pt b434 0) (x := o0) hst z
 replace hst := hst.pull3.keep2
 obtain rfl := some_inj hm
 exact ⟨_, Nat.lt_succ_self _, _, z623, (i64.wrap (z626 + (1:Int))), v624, _, hx634, (fu 0 (Pt b434 0) z (fu 2 (.float .f64 a2) z (fu 3 (.int .u64 a3) z (fu 4 (.int .i64 a4) z (fu 11 v624 z (fu 12 (.int .i64 (i64.wrap (z626 + (1:Int)))) z z)))))), hL631, hst⟩
}
}
 {
 replace hm := bif_f hc652 hm
 refine wp_iff (cvb hc652) ?_
 refine wp_exit (then_x (then_x ?_))
 replace hm := inr_up hm hx634
 refine blk_x (tn (wp_seq (wrl ?_)))
 refine wv (v624) z z z (wv (v624) z z z (wl_nil (tn (wp_ret ?_))))
 replace hst := hst.pull1.pull1
 replace hst := at_mvcc_Store_close (pv := Pt b434 0) (x := o0) hst z
 replace hst := objO_some hst
 obtain rfl := some_inj hm
 refine post_ret (vs := [v624]) results16 (rvs_cons (rv_tmp z) rvs_nil) ?_
 replace hst := hst.pull1
 exact ⟨_, v624, z, hI0, hst.keep2⟩
}
}
 {
 replace hm := bif_f hc651 hm
 refine ws_q (v := undef) 21 [22, 23, 24, 25] (by kernel_rfl) z z (yi_off ((wanted_eq z z z (cvb hc651)).trans z)) (ws_q (v := undef) 22 [23, 24, 25] (by kernel_rfl) z z (yi_off ((wanted_eq z z z (cvb hc651)).trans z)) (ws_q (v := undef) 23 [24, 25] (by kernel_rfl) z z (yi_off ((wanted_eq z z z (cvb hc651)).trans z)) (ws_q (v := undef) 24 [25] (by kernel_rfl) z z (yi_off ((wanted_eq z z z (cvb hc651)).trans z)) (wsr (.bool false) 25 z z z (by kernel_rfl) (fun w hst => x_pick_f hc651 z z) ?_))))
 refine ws_nil ?_
 intro w hst
 refine tn ?_
 refine wp_iff z ?_
 refine wp_exit (then_x (then_x ?_))
 replace hm := inr_up hm hx634
 refine blk_x (tn (wp_seq (wrl ?_)))
 refine wv (v624) z z z (wv (v624) z z z (wl_nil (tn (wp_ret ?_))))
 replace hst := hst.pull1.pull1
 replace hst := at_mvcc_Store_close (pv := Pt b434 0) (x := o0) hst z
 replace hst := objO_some hst
 obtain rfl := some_inj hm
 refine post_ret (vs := [v624]) results16 (rvs_cons (rv_tmp z) rvs_nil) ?_
 replace hst := hst.pull1
 exact ⟨_, v624, z, hI0, hst.keep2⟩
}
}
 {
 replace hm := bif_f hc640 hm
 refine ws_q (v := undef) 8 [9, 10, 11, 12, 13, 14, 15, 16, 17, 18, 19, 20, 21, 22, 23, 24, 25] (by kernel_rfl) z z (yi_off ((wanted_eq z z z (cvb hc640)).trans z)) (ws_q (v := undef) 9 [10, 11, 12, 13, 14, 15, 16, 17, 18, 19, 20, 21, 22, 23, 24, 25] (by kernel_rfl) z z (yi_off ((wanted_eq z z z (cvb hc640)).trans z)) (ws_q (v := undef) 10 [11, 12, 13, 14, 15, 16, 17, 18, 19, 20, 21, 22, 23, 24, 25] (by kernel_rfl) z z (yi_off ((wanted_eq z z z (cvb hc640)).trans z)) (ws_q (v := undef) 11 [12, 13, 14, 15, 16, 17, 18, 19, 20, 21, 22, 23, 24, 25] (by kernel_rfl) z z (yi_off ((wanted_eq z z z (cvb hc640)).trans z)) (ws_q (v := undef) 12 [13, 14, 15, 16, 17, 18, 19, 20, 21, 22, 23, 24, 25] (by kernel_rfl) z z (yi_off ((wanted_eq z z z (cvb hc640)).trans z)) (ws_q (v := undef) 13 [14, 15, 16, 17, 18, 19, 20, 21, 22, 23, 24, 25] (by kernel_rfl) z z (yi_off ((wanted_eq z z z (cvb hc640)).trans z)) (ws_q (v := undef) 14 [15, 16, 17, 18, 19, 20, 21, 22, 23, 24, 25] (by kernel_rfl) z z (yi_off ((wanted_eq z z z (cvb hc640)).trans z)) (ws_q (v := undef) 15 [16, 17, 18, 19, 20, 21, 22, 23, 24, 25] (by kernel_rfl) z z (yi_off ((wanted_eq z z z (cvb hc640)).trans z)) (ws_q (v := undef) 16 [17, 18, 19, 20, 21, 22, 23, 24, 25] (by kernel_rfl) z z (yi_off ((wanted_eq z z z (cvb hc640)).trans z)) (ws_q (v := undef) 17 [18, 19, 20, 21, 22, 23, 24, 25] (by kernel_rfl) z z (yi_off ((wanted_eq z z z (cvb hc640)).trans z)) (ws_q (v := undef) 18 [19, 20, 21, 22, 23, 24, 25] (by kernel_rfl) z z (yi_off ((wanted_eq z z z (cvb hc640)).trans z)) (wsr (.bool false) 19 z z z (by kernel_rfl) (fun w hst => x_pick_f hc640 z z) (wsr (.bool false) 20 z z z (by kernel_rfl) (fun w hst => z) ?_))))))))))))
 refine ws_q (v := undef) 21 [22, 23, 24, 25] (by kernel_rfl) z z (yi_off ((wanted_eq z z z z).trans z)) (ws_q (v := undef) 22 [23, 24, 25] (by kernel_rfl) z z (yi_off ((wanted_eq z z z z).trans z)) (ws_q (v := undef) 23 [24, 25] (by kernel_rfl) z z (yi_off ((wanted_eq z z z z).trans z)) (ws_q (v := undef) 24 [25] (by kernel_rfl) z z (yi_off ((wanted_eq z z z z).trans z)) (wsr (.bool false) 25 z z z (by kernel_rfl) (fun w hst => x_pick_f z z z) ?_))))
 refine ws_nil ?_
 intro w hst
 refine tn ?_
 refine wp_iff z ?_
 refine wp_exit (then_x (then_x ?_))
 replace hm := inr_up hm hx634
 refine blk_x (tn (wp_seq (wrl ?_)))
 refine wv (v624) z z z (wv (v624) z z z (wl_nil (tn (wp_ret ?_))))
 replace hst := hst.pull1.pull1
 replace hst := at_mvcc_Store_close (pv := Pt b434 0) (x := o0) hst z
 replace hst := objO_some hst
 obtain rfl := some_inj hm
 refine post_ret (vs := [v624]) results16 (rvs_cons (rv_tmp z) rvs_nil) ?_
 replace hst := hst.pull1
 exact ⟨_, v624, z, hI0, hst.keep2⟩
}
}
}

theorem mvcc_Store_Versions_ref {w0 w : World} {I : HL} {R : SP} {a0 : (Option mvcc_Store)} {p0 : Value} {a1 : Nat}  (hst : St w0 w I [objO at_mvcc_Store p0 a0] R) {r : ((List mvcc_Version))} (hm : mvcc_Store_Versions a0 a1 = some r) :
  Calls prog 23 #[p0, F6 a1] w fun e w' => ∃ (q0_0 : Value), e = .returned (q0_0) ∧ St w0 w' I [ownS ty_mvcc_Version q0_0 r, objO at_mvcc_Store p0 a0] R := by {
 rcases a0 with _ | o0
 {
 obtain ⟨rfl, hst'⟩ := objO_none hst
 clear hst
 have hst := hst'
 clear hst'
 dsimp only [mvcc_Store_Versions] at hm
 refine calls_start (args := [.pointer none, F6 a1]) func23 z ntmps23 (Nat.le_of_ble_eq_true z) ?_
 refine wp_seq (wrl (wv ((.slice none 0 0)) z z z (wl_nil (tn (wp_seq (wrl (wv (.pointer none) z z z (wv (.float .f64 a1) z z z ?_))))))))
 obtain ⟨t216, ht217, hm⟩ := bind_some hm
 refine wc call32 [F6 a1] z z z ?_
 refine (number_Rank_ref hst.to0 ht217).mono ?_
 rintro _ w218 ⟨rfl, hst⟩
 refine ⟨_, z, ?_⟩
 replace hst := hst.of0.objO_nil at_mvcc_Store
 obtain ⟨t222, ht223, hm⟩ := bind_some hm
 refine wc call31 [.pointer none, U6 t216] z z z ?_
 refine (mvcc_Store_find_ref hst.to1 ht223).mono ?_
 rintro _ w224 ⟨rfl, hst⟩
 refine ⟨_, z, ?_⟩
 replace hst := hst.of1
 refine wv (.tuple #[I6 t222.1, .bool t222.2]) z z z (wv (.int .i64 t222.1) z z z (wv (.bool t222.2) z z z (wv (.int .i64 t222.1) z z z (wv (.bool t222.2) z z z (wl_nil (tn (wp_seq (wp_seq (wrl (wv (.bool t222.2) z z z (wv (.bool (!t222.2)) z z z (wl_nil (tn ?_)))))))))))))
 refine bsplit (!t222.2) (fun hc227 => ?_) (fun hc227 => ?_)
 {
 replace hm := bif_t hc227 hm
 refine wp_ift (cvb hc227) ?_
 refine wp_seq (wrl (wv ((.slice none 0 0)) z z z (wl_nil (tn (wp_ret (then_r ?_))))))
 replace hst := hst.own_nil ty_mvcc_Version
 replace hst := hst.objO_nil at_mvcc_Store
 obtain rfl := some_inj hm
 refine post_ret (vs := [Zs]) results23 (rvs_cons (rv_tmp z) rvs_nil) ?_
 replace hst := hst.pull1
 exact ⟨(.slice none 0 0), z, hst.keep2⟩
}
 {
 replace hm := bif_f hc227 hm
 refine wp_iff (cvb hc227) ?_
 refine wp_skip (tn (wp_seq (wrl ?_)))
 refine wv (.pointer none) z z z ?_
 cases hm
}
}
 {
 replace hst := objO_get hst
 dsimp only [mvcc_Store_Versions] at hm
 refine calls_start (args := [p0, F6 a1]) func23 z ntmps23 (Nat.le_of_ble_eq_true z) ?_
 refine wp_seq (wrl (wv ((.slice none 0 0)) z z z (wl_nil (tn (wp_seq (wrl (wv (p0) z z z (wv (.float .f64 a1) z z z ?_))))))))
 obtain ⟨t230, ht231, hm⟩ := bind_some hm
 refine wc call32 [F6 a1] z z z ?_
 refine (number_Rank_ref hst.to0 ht231).mono ?_
 rintro _ w232 ⟨rfl, hst⟩
 refine ⟨_, z, ?_⟩
 replace hst := hst.of0
 replace hst := objO_some hst
 obtain ⟨t235, ht236, hm⟩ := bind_some hm
 refine wc call31 [p0, U6 t230] z z z ?_
 refine (mvcc_Store_find_ref hst.to1 ht236).mono ?_
 rintro _ w237 ⟨rfl, hst⟩
 refine ⟨_, z, ?_⟩
 replace hst := hst.of1
 replace hst := objO_get hst
 refine wv (.tuple #[I6 t235.1, .bool t235.2]) z z z (wv (.int .i64 t235.1) z z z (wv (.bool t235.2) z z z (wv (.int .i64 t235.1) z z z (wv (.bool t235.2) z z z (wl_nil (tn (wp_seq (wp_seq (wrl (wv (.bool t235.2) z z z (wv (.bool (!t235.2)) z z z (wl_nil (tn ?_)))))))))))))
 refine bsplit (!t235.2) (fun hc240 => ?_) (fun hc240 => ?_)
 {
 replace hm := bif_t hc240 hm
 refine wp_ift (cvb hc240) ?_
 refine wp_seq (wrl (wv ((.slice none 0 0)) z z z (wl_nil (tn (wp_ret (then_r ?_))))))
 replace hst := hst.own_nil ty_mvcc_Version
 replace hst := hst.pull1
 replace hst := objO_some hst
 obtain rfl := some_inj hm
 refine post_ret (vs := [Zs]) results23 (rvs_cons (rv_tmp z) rvs_nil) ?_
 replace hst := hst.pull1
 exact ⟨(.slice none 0 0), z, hst.keep2⟩
}
 {
 replace hm := bif_f hc240 hm
 refine wp_iff (cvb hc240) ?_
 refine wp_skip (tn (wp_seq (wrl ?_)))
 refine wv (p0) z z z ?_
 obtain ⟨b242, v243, rfl, hst'⟩ := at_mvcc_Store_open hst
 clear hst
 have hst := hst'
 clear hst'
 refine wv (Pt b242 0) z z z (wv (Pt b242 0) z z (x_field z underlying79 z sizeOf77 z) (wv (v243) z z (x_load z isAgg77 (hst.bc0 z)) (wv (.int .i64 t235.1) z z z ?_)))
 obtain ⟨x245, hx246, hm⟩ := bind_some hm
 obtain ⟨h247, h248, hi249⟩ := geto_some hx246
 refine wv (.pointer (some (eAddr v243 (t235.1.toNat * 2 + 0)))) z z (x_index z z underlying77 sizeOf76 (hst.nestsv 1 z) h247 h248) (wv (.pointer (some (eAddr v243 (t235.1.toNat * 2 + 1)))) z z (x_field_e z underlying76 z sizeOf53 z) ?_)
 replace hst := hst.pull1
 obtain ⟨v250, hst⟩ := hst.nest_focus hi249
 refine wv (v250) z z (x_load z isAgg53 ((hst.holeall (N := nest_mvcc_row) (i := t235.1.toNat) 1 z hi249) 1 _ z)) ?_
 obtain ⟨css252, hq253, hst⟩ := hst.own_open
 obtain ⟨t254, ht255, hm⟩ := bind_some hm
 refine wc call40 [v250] z z z ?_
 refine (slices_Clone_mvcc_Version_mvcc_Version_ref (hst.rdorow 0 z hq253) hst.to0 ht255).mono ?_
 rintro _ w256 ⟨v259, rfl, hst⟩
 refine ⟨_, z, ?_⟩
 replace hst := hst.of1.pull1.own_close hq253
 refine wv (v259) z z z (wl_nil (tn (wp_ret ?_)))
 replace hst := hst.pull2.pull1
 replace hst := St.nest_close0 (N := nest_mvcc_row) hst hi249
 replace hst := hst.pull2
 replace hst := at_mvcc_Store_close (pv := Pt b242 0) (x := o0) hst z
 replace hst := objO_some hst
 obtain rfl := some_inj hm
 refine post_ret (vs := [v259]) results23 (rvs_cons (rv_tmp z) rvs_nil) ?_
 replace hst := hst.pull1
 exact ⟨v259, z, hst.keep2⟩
}
}
}

theorem mvcc_Store_Len_ref {w0 w : World} {I : HL} {R : SP} {a0 : (Option mvcc_Store)} {p0 : Value}  (hst : St w0 w I [objO at_mvcc_Store p0 a0] R) {r : (Int)} (hm : mvcc_Store_Len a0 = some r) :
  Calls prog 24 #[p0] w fun e w' => e = .returned (.int .i64 r) ∧ St w0 w' I [objO at_mvcc_Store p0 a0] R := by {
 rcases a0 with _ | o0
 {
 obtain ⟨rfl, hst'⟩ := objO_none hst
 clear hst
 have hst := hst'
 clear hst'
 dsimp only [mvcc_Store_Len] at hm
 refine calls_start (args := [.pointer none]) func24 z ntmps24 (Nat.le_of_ble_eq_true z) ?_
 refine wp_seq (wrl (wv (.int .i64 (0:Int)) z z z (wl_nil (tn (wp_seq (wp_seq (wrl (wv (.pointer none) z z z (wv (.bool true) z z (by kernel_rfl) (wl_nil (tn ?_)))))))))))
 refine wp_ift z ?_
 refine wp_seq (wrl (wv (.int .i64 (0:Int)) z z z (wl_nil (tn (wp_ret (then_r ?_))))))
 replace hst := hst.objO_nil at_mvcc_Store
 obtain rfl := some_inj hm
 refine post_ret (vs := [Zi]) results24 (rvs_cons (rv_tmp z) rvs_nil) ?_
 exact ⟨z, hst.keep1⟩
}
 {
 replace hst := objO_get hst
 dsimp only [mvcc_Store_Len] at hm
 refine calls_start (args := [p0]) func24 z ntmps24 (Nat.le_of_ble_eq_true z) ?_
 refine wp_seq (wrl (wv (.int .i64 (0:Int)) z z z (wl_nil (tn (wp_seq (wp_seq (wrl (wv (p0) z z z ?_))))))))
 obtain ⟨b172, v173, rfl, hst'⟩ := at_mvcc_Store_open hst
 clear hst
 have hst := hst'
 clear hst'
 refine wv (.bool false) z z (by kernel_rfl) (wl_nil (tn ?_))
 refine wp_iff z ?_
 refine wp_skip (tn (wp_seq (wrl ?_)))
 refine wv (Pt b172 0) z z z (wv (Pt b172 0) z z z (wv (Pt b172 0) z z (x_field z underlying79 z sizeOf77 z) (wv (v173) z z (x_load z isAgg77 (hst.bc0 z)) (wv (.int .i64 ((o0.rows).length : Int)) z z (x_len z underlying77 (hst.nestsv 1 z)) (wv (.int .i64 ((o0.rows).length : Int)) z z z (wl_nil (tn (wp_ret ?_))))))))
 replace hst := hst.pull1.pull1
 replace hst := at_mvcc_Store_close (pv := Pt b172 0) (x := o0) hst z
 replace hst := objO_some hst
 obtain rfl := some_inj hm
 refine post_ret (vs := [I6 ((o0.rows).length : Int)]) results24 (rvs_cons (rv_tmp z) rvs_nil) ?_
 exact ⟨z, hst.keep1⟩
}
}

end Go.Proofs.Ytbdnbohbmgmonaa
