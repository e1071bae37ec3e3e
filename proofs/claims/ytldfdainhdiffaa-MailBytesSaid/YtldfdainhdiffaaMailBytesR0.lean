/- The Go functions refine their models, part 0. -/
import Derived.Test.YtldfdainhdiffaaMailBytesT
set_option linter.unusedVariables false
set_option linter.unusedSimpArgs false
set_option maxRecDepth 100000
set_option maxHeartbeats 4000000
namespace Go.Proofs.Ytldfdainhdiffaa
open Go Go.V
open _root_.Go.Proofs.Try IntKind
attribute [local irreducible] wpList Code.wp wpQuiet Calls bodyPost Oper.wp wpS Nx PendOK YieldsIn
theorem octet_Writer_lay_ref {w0 w : World} {I : HL} {R : SP} {a0 : octet_Writer} {p0 : Value} {a1 : (List Int)} {r1_0 : Value} (f1_0 : Rd (tyInt .u8) R I r1_0 a1) (hst : St w0 w I [at_octet_Writer p0 a0] R) {r : (octet_Writer)} (hm : octet_Writer_lay a0 a1 = some r) :
  Calls prog 53 #[p0, r1_0] w fun e w' => e = .returned (p0) ∧ St w0 w' I [at_octet_Writer p0 r] R := by {
 unfold octet_Writer_lay at hm
 refine calls_start (args := [p0, r1_0]) func53 z ntmps53 (Nat.le_of_ble_eq_true z) ?_
 refine wp_seq (wrl (wv (.pointer none) z z z (wl_nil (tn (wp_seq (wrl (wv (p0) z z z (wv (p0) z z z ?_))))))))
 obtain ⟨b95, v96, rfl, hst'⟩ := at_octet_Writer_open hst
 clear hst
 have hst := hst'
 clear hst'
 refine wv (Pt b95 0) z z z (wv (Pt b95 0) z z (x_field z underlying74 z sizeOf22 z) (wv (v96) z z (x_load z isAgg22 (hst.bc0 z)) (wv (r1_0) z z z ?_)))
 obtain ⟨hg98, hm⟩ := gd_some hm
 replace hst := hst.pull1
 obtain ⟨v99, w100, hr101, hst⟩ := run_append elem_22 underlying22 hst (Src.of_rd hst f1_0 flat_int) (room_of hg98 z) 22
 refine wl_run (v := v99) (w' := w100) z z (x_append z z hr101) ?_
 refine wv (Pt b95 0) z z z (wv (Pt b95 0) z z (x_field z underlying74 z sizeOf22 z) ?_)
 replace hst := hst.pull1
 obtain ⟨w102, hr103, hst⟩ := hst.boxStore1 (P := prog) (t := 22) (cs' := [v99]) 0 v99 (one_of_sliceV hst.sv1) sizeOf22 z z
 refine wl_unit z z (x_unit hr103) ?_
 refine wl_nil (tn (wp_seq (wrl (wv (Pt b95 0) z z z (wv (Pt b95 0) z z z (wl_nil (tn (wp_ret ?_))))))))
 replace hst := hst.pull1.pull1
 replace hst := at_octet_Writer_close (pv := Pt b95 0) (x := ({ p := (a0.p ++ a1) } : octet_Writer)) hst z
 obtain rfl := some_inj hm
 refine post_ret (vs := [Pt b95 0]) results53 (rvs_cons (rv_tmp z) rvs_nil) ?_
 exact ⟨z, hst.keep1⟩
}

theorem octet_Writer_Num_ref {w0 w : World} {I : HL} {R : SP} {a0 : octet_Writer} {p0 : Value} {a1 : Int} {a2 : Int}  (hst : St w0 w I [at_octet_Writer p0 a0] R) {r : (octet_Writer)} (hm : octet_Writer_Num a0 a1 a2 = some r) :
  Calls prog 21 #[p0, U6 a1, I6 a2] w fun e w' => e = .returned (p0) ∧ St w0 w' I [at_octet_Writer p0 r] R := by {
 unfold octet_Writer_Num at hm
 refine calls_start (args := [p0, U6 a1, I6 a2]) func21 z ntmps21 (Nat.le_of_ble_eq_true z) ?_
 refine wp_seq (wrl (wv (.pointer none) z z z (wl_nil (tn (wp_seq (wp_seq (wrl (wv (.int .i64 a2) z z z (wv (.int .i64 (0:Int)) z z z (wl_nil (tn (wp_block ?_))))))))))))
 obtain ⟨n163, hm⟩ := loopO_some hm
 refine wp_loop_n (fun n a w => ∃ (z160 : octet_Writer) (z161 : Int) (σ162 : Nat → Value), loopN (octet_Writer_Num_l0 a2 a1) n (z160, z161) = some r ∧ a = Fr 22 (upd (upd (upd (upd σ162 0 (p0)) 1 (.int .u64 a1)) 8 (.int .i64 a2)) 9 (.int .i64 z161)) ∧ St w0 w I [at_octet_Writer p0 z160] R) n163 ⟨a0, (0:Int), _, hm, (fu 0 p0 z (fu 1 (.int .u64 a1) z (fu 8 (.int .i64 a2) z (fu 9 (.int .i64 (0:Int)) z z)))), hst⟩ ?_
 rintro n169 _ w164 ⟨z160, z161, σ162, hm, rfl, hst⟩
 obtain ⟨n166, y167, rfl, hm, hx168⟩ := loopN_some hm
 dsimp only [octet_Writer_Num_l0] at hm
 refine wp_seq (wrl (wv (.bool (decide (z161 < a2))) z z z (wl_nil (tn (wp_seq ?_)))))
 refine bsplit (decide (z161 < a2)) (fun hc170 => ?_) (fun hc170 => ?_)
 {
 replace hm := bif_t hc170 hm
 refine wp_ift (cvb hc170) ?_
 refine wp_skip (tn (wp_seq (wp_block (wp_seq (wrl ?_)))))
 refine wv (.int .i64 z161) z z z (wv (.int .i64 z161) z z z (wl_nil (tn (wrl (wv (p0) z z z (wv (.int .u64 a1) z z z (wv (.int .i64 z161) z z z (wv (.int .i64 (i64.wrap ((8:Int) * z161))) z z z ?_))))))))
 obtain ⟨hg171, hm⟩ := gd_some hm
 refine wv (.int .u64 (iShr .u64 a1 (i64.wrap ((8:Int) * z161)))) z z (x_shr (of_decide_eq_true hg171) z z) (wv (.int .u8 (u8.wrap (iShr .u64 a1 (i64.wrap ((8:Int) * z161))))) z z (by kernel_rfl) ?_)
 obtain ⟨b172, w173, ew174, eb175, hst⟩ := hst.lits (E := (tyInt .u8)) (xs := [(u8.wrap (iShr .u64 a1 (i64.wrap ((8:Int) * z161))))]) [[U1 (u8.wrap (iShr .u64 a1 (i64.wrap ((8:Int) * z161))))]] 5 1 z (Reps.cons z Reps.nil)
 refine wl_run (v := (.slice (some ⟨b172, 0, none⟩) 1 1)) (w' := w173) z z (x_als (by kernel_rfl) ew174 eb175) ?_
 obtain ⟨css177, hq178, hst⟩ := hst.own_open
 replace hst := hst.pull1
 obtain ⟨t179, ht180, hm⟩ := bind_some hm
 refine wc call53 [p0, (.slice (some ⟨b172, 0, none⟩) 1 1)] z z z ?_
 refine (octet_Writer_lay_ref (hst.sub.rdrow0 hq178) hst.to1 ht180).mono ?_
 rintro _ w181 ⟨rfl, hst⟩
 refine ⟨_, z, ?_⟩
 replace hst := hst.of1.pull1.own_close hq178
 refine wl_nil (blk_n (tn (wrl (wv (.int .i64 (i64.wrap (z161 + (1:Int)))) z z z (wv (.int .i64 (i64.wrap (z161 + (1:Int)))) z z z (wl_nil (tn ?_)))))))
 replace hst := hst.pull1.keep1
 obtain rfl := some_inj hm
 exact ⟨_, Nat.lt_succ_self _, t179, (i64.wrap (z161 + (1:Int))), _, hx168, (fu 0 p0 z (fu 1 (.int .u64 a1) z (fu 8 (.int .i64 a2) z (fu 9 (.int .i64 (i64.wrap (z161 + (1:Int)))) z z)))), hst⟩
}
 {
 replace hm := bif_f hc170 hm
 refine wp_iff (cvb hc170) ?_
 refine wp_exit (then_x (then_x ?_))
 replace hm := inr_up hm hx168
 refine blk_x (tn (wp_seq (wrl ?_)))
 refine wv (p0) z z z (wv (p0) z z z (wl_nil (tn (wp_ret ?_))))
 obtain rfl := some_inj hm
 refine post_ret (vs := [p0]) results21 (rvs_cons (rv_tmp z) rvs_nil) ?_
 exact ⟨z, hst.keep1⟩
}
}

theorem octet_Writer_Flag_ref {w0 w : World} {I : HL} {R : SP} {a0 : octet_Writer} {p0 : Value} {a1 : Bool}  (hst : St w0 w I [at_octet_Writer p0 a0] R) {r : (octet_Writer)} (hm : octet_Writer_Flag a0 a1 = some r) :
  Calls prog 54 #[p0, .bool a1] w fun e w' => e = .returned (p0) ∧ St w0 w' I [at_octet_Writer p0 r] R := by {
 unfold octet_Writer_Flag at hm
 refine calls_start (args := [p0, .bool a1]) func54 z ntmps54 (Nat.le_of_ble_eq_true z) ?_
 refine wp_seq (wrl (wv (.pointer none) z z z (wl_nil (tn (wp_seq (wp_seq (wrl (wv (.bool a1) z z z (wl_nil (tn ?_))))))))))
 refine bsplit a1 (fun hc101 => ?_) (fun hc101 => ?_)
 {
 replace hm := bif_t hc101 hm
 refine wp_ift (cvb hc101) ?_
 refine wp_seq (wrl (wv (p0) z z z ?_))
 obtain ⟨t102, ht103, hm⟩ := bind_some hm
 refine wc call21 [p0, U6 (1:Int), I6 (1:Int)] z z z ?_
 refine (octet_Writer_Num_ref hst.to1 ht103).mono ?_
 rintro _ w104 ⟨rfl, hst⟩
 refine ⟨_, z, ?_⟩
 replace hst := hst.of1
 refine wv (p0) z z z (wl_nil (tn (wp_ret (then_r ?_))))
 obtain rfl := some_inj hm
 refine post_ret (vs := [p0]) results54 (rvs_cons (rv_tmp z) rvs_nil) ?_
 exact ⟨z, hst.keep1⟩
}
 {
 replace hm := bif_f hc101 hm
 refine wp_iff (cvb hc101) ?_
 refine wp_skip (tn (wp_seq (wrl ?_)))
 refine wv (p0) z z z ?_
 obtain ⟨t107, ht108, hm⟩ := bind_some hm
 refine wc call21 [p0, Zu, I6 (1:Int)] z z z ?_
 refine (octet_Writer_Num_ref hst.to1 ht108).mono ?_
 rintro _ w109 ⟨rfl, hst⟩
 refine ⟨_, z, ?_⟩
 replace hst := hst.of1
 refine wv (p0) z z z (wl_nil (tn (wp_ret ?_)))
 obtain rfl := some_inj hm
 refine post_ret (vs := [p0]) results54 (rvs_cons (rv_tmp z) rvs_nil) ?_
 exact ⟨z, hst.keep1⟩
}
}

theorem octet_Writer_Bytes_ref {w0 w : World} {I : HL} {R : SP} {a0 : octet_Writer} {p0 : Value} {a1 : (List Int)} {r1_0 : Value} (f1_0 : Rd (tyInt .u8) R I r1_0 a1) (hst : St w0 w I [at_octet_Writer p0 a0] R) {r : (octet_Writer)} (hm : octet_Writer_Bytes a0 a1 = some r) :
  Calls prog 25 #[p0, r1_0] w fun e w' => e = .returned (p0) ∧ St w0 w' I [at_octet_Writer p0 r] R := by {
 unfold octet_Writer_Bytes at hm
 refine calls_start (args := [p0, r1_0]) func25 z ntmps25 (Nat.le_of_ble_eq_true z) ?_
 refine wp_seq (wrl (wv (.pointer none) z z z (wl_nil (tn (wp_seq (wrl (wv (p0) z z z (wv (r1_0) z z z (wv (.int .i64 ((a1).length : Int)) z z (x_len z underlying22 (rd_sliceV f1_0)) (wv (.int .u64 (u64.wrap ((a1).length : Int))) z z (by kernel_rfl) ?_))))))))))
 obtain ⟨t167, ht168, hm⟩ := bind_some hm
 refine wc call21 [p0, U6 (u64.wrap ((a1).length : Int)), I6 (4:Int)] z z z ?_
 refine (octet_Writer_Num_ref hst.to1 ht168).mono ?_
 rintro _ w169 ⟨rfl, hst⟩
 refine ⟨_, z, ?_⟩
 replace hst := hst.of1
 refine wv (r1_0) z z z ?_
 obtain ⟨t172, ht173, hm⟩ := bind_some hm
 refine wc call53 [p0, r1_0] z z z ?_
 refine (octet_Writer_lay_ref (f1_0.mono (rd_weak _)) hst.to1 ht173).mono ?_
 rintro _ w174 ⟨rfl, hst⟩
 refine ⟨_, z, ?_⟩
 replace hst := hst.of1
 refine wv (p0) z z z (wl_nil (tn (wp_ret ?_)))
 obtain rfl := some_inj hm
 refine post_ret (vs := [p0]) results25 (rvs_cons (rv_tmp z) rvs_nil) ?_
 exact ⟨z, hst.keep1⟩
}

theorem mail_message_ref {w0 w : World} {I : HL} {R : SP} {a0 : octet_Writer} {p0 : Value} {a1 : api_Message} {r1_0 : Value} {r1_1 : Value} (f1_0 : Rd ty_api_Entry R I r1_0 a1.Entries) (f1_1 : Rd (tyInt .u8) R I r1_1 a1.S.Data) (hst : St w0 w I [at_octet_Writer p0 a0] R) {r : (octet_Writer)} (hm : mail_message a0 a1 = some r) :
  Calls prog 22 #[p0, .agg #[U1 a1.Kind, I6 a1.From, I6 a1.To, U6 a1.Term, U6 a1.Index, U6 a1.LogTerm, U6 a1.Commit, .bool a1.OK, r1_0, U6 a1.S.Index, U6 a1.S.Term, U6 a1.S.Voters, r1_1]] w fun e w' => e = .returned (.tuple #[]) ∧ St w0 w' I [at_octet_Writer p0 r] R := by {
 unfold mail_message at hm
 refine calls_start (args := [p0, .agg #[U1 a1.Kind, I6 a1.From, I6 a1.To, U6 a1.Term, U6 a1.Index, U6 a1.LogTerm, U6 a1.Commit, .bool a1.OK, r1_0, U6 a1.S.Index, U6 a1.S.Term, U6 a1.S.Voters, r1_1]]) func22 z ntmps22 (Nat.le_of_ble_eq_true z) ?_
 refine wp_seq (wrl ?_)
 obtain ⟨b294, w295, ew296, eb297, hst⟩ := hst.box [U1 a1.Kind, I6 a1.From, I6 a1.To, U6 a1.Term, U6 a1.Index, U6 a1.LogTerm, U6 a1.Commit, .bool a1.OK, r1_0, U6 a1.S.Index, U6 a1.S.Term, U6 a1.S.Voters, r1_1] 30
 refine wl_run (v := Pt b294 0) (w' := w295) z z (x_al (by kernel_rfl) ew296 eb297) ?_
 refine wl_nil (tn (wp_seq ?_))
 refine wp_region_St hst 28 [0, 1, 2, 3, 4, 5, 6, 7, 8, 9, 10, 11, 12, 13, 14, 15, 16, 17, 18, 19, 20, 21, 22, 23, 24, 25, 26, 27] [0, 0, 2, 6, 15, 0, 32, 96, 255, 0, 512, 1536, 4095, 0, 8192, 32767, 0, 65536, 262143, 0, 524288, 2097151, 0, 4194304, 16777215, 0, 33554432, 134217727] [] z (by kernel_rfl) (by kernel_rfl) Try.mixed (by kernel_rfl) ?_
 refine wsr (p0) 0 z z z (by kernel_rfl) (fun w hst => z) (wsr (Pt b294 0) 1 z z z (by kernel_rfl) (fun w hst => x_field z underlying30 z sizeOf5 z) (wsr (.int .u8 a1.Kind) 2 z z z (by kernel_rfl) (fun w hst => x_load z isAgg5 (hst.bc0 z)) (wsr (.int .u64 (u64.wrap a1.Kind)) 3 z z z (by kernel_rfl) (fun w hst => by kernel_rfl) (wsr (Pt b294 1) 5 z z z (by kernel_rfl) (fun w hst => x_field z underlying30 z sizeOf3 z) (wsr (.int .i64 a1.From) 6 z z z (by kernel_rfl) (fun w hst => x_load z isAgg3 (hst.bc0 z)) (wsr (.int .u64 (u64.wrap a1.From)) 7 z z z (by kernel_rfl) (fun w hst => by kernel_rfl) (wsr (Pt b294 2) 9 z z z (by kernel_rfl) (fun w hst => x_field z underlying30 z sizeOf3 z) (wsr (.int .i64 a1.To) 10 z z z (by kernel_rfl) (fun w hst => x_load z isAgg3 (hst.bc0 z)) (wsr (.int .u64 (u64.wrap a1.To)) 11 z z z (by kernel_rfl) (fun w hst => by kernel_rfl) (wsr (Pt b294 3) 13 z z z (by kernel_rfl) (fun w hst => x_field z underlying30 z sizeOf25 z) (wsr (.int .u64 a1.Term) 14 z z z (by kernel_rfl) (fun w hst => x_load z isAgg25 (hst.bc0 z)) (wsr (Pt b294 4) 16 z z z (by kernel_rfl) (fun w hst => x_field z underlying30 z sizeOf25 z) ?_))))))))))))
 refine wsr (.int .u64 a1.Index) 17 z z z (by kernel_rfl) (fun w hst => x_load z isAgg25 (hst.bc0 z)) (wsr (Pt b294 5) 19 z z z (by kernel_rfl) (fun w hst => x_field z underlying30 z sizeOf25 z) (wsr (.int .u64 a1.LogTerm) 20 z z z (by kernel_rfl) (fun w hst => x_load z isAgg25 (hst.bc0 z)) (wsr (Pt b294 6) 22 z z z (by kernel_rfl) (fun w hst => x_field z underlying30 z sizeOf25 z) (wsr (.int .u64 a1.Commit) 23 z z z (by kernel_rfl) (fun w hst => x_load z isAgg25 (hst.bc0 z)) (wsr (Pt b294 7) 25 z z z (by kernel_rfl) (fun w hst => x_field z underlying30 z sizeOf4 z) (wsr (.bool a1.OK) 26 z z z (by kernel_rfl) (fun w hst => x_load z isAgg4 (hst.bc0 z)) ?_))))))
 refine ws_e1 4 (by kernel_rfl) ?_
 refine nxe [8, 12, 15, 18, 21, 24, 27] (by kernel_rfl) z z ?_
 clear hst
 intro w hst
 replace hst := hst.pull1
 obtain ⟨t299, ht300, hm⟩ := bind_some hm
 refine wec call21 [p0, U6 (u64.wrap a1.Kind), I6 (1:Int)] z z ?_
 refine (octet_Writer_Num_ref hst.to1 ht300).mono ?_
 rintro _ w301 ⟨rfl, hst⟩
 refine ⟨_, z, ?_⟩
 replace hst := hst.of1
 refine ws_next (pend' := [(26, .bool a1.OK), (25, Pt b294 7), (23, U6 a1.Commit), (22, Pt b294 6), (20, U6 a1.LogTerm), (19, Pt b294 5), (17, U6 a1.Index), (16, Pt b294 4), (14, U6 a1.Term), (13, Pt b294 3), (11, U6 (u64.wrap a1.To)), (10, I6 a1.To), (9, Pt b294 2), (7, U6 (u64.wrap a1.From)), (6, I6 a1.From), (5, Pt b294 1)]) hst (by kernel_rfl) (pkr z z (fun w hst => x_load z isAgg4 (hst.bc1 z)) (pkr z z (fun w hst => x_field z underlying30 z sizeOf4 z) (pkr z z (fun w hst => x_load z isAgg25 (hst.bc1 z)) (pkr z z (fun w hst => x_field z underlying30 z sizeOf25 z) (pkr z z (fun w hst => x_load z isAgg25 (hst.bc1 z)) (pkr z z (fun w hst => x_field z underlying30 z sizeOf25 z) (pkr z z (fun w hst => x_load z isAgg25 (hst.bc1 z)) (pkr z z (fun w hst => x_field z underlying30 z sizeOf25 z) (pkr z z (fun w hst => x_load z isAgg25 (hst.bc1 z)) (pkr z z (fun w hst => x_field z underlying30 z sizeOf25 z) (pkr z z (fun w hst => by kernel_rfl) (pkr z z (fun w hst => x_load z isAgg3 (hst.bc1 z)) (pkr z z (fun w hst => x_field z underlying30 z sizeOf3 z) (pkr z z (fun w hst => by kernel_rfl) (pkr z z (fun w hst => x_load z isAgg3 (hst.bc1 z)) (pkr z z (fun w hst => x_field z underlying30 z sizeOf3 z) pk_nil)))))))))))))))) ?_
 refine ws_e1 8 (by kernel_rfl) ?_
 refine nxe [12, 15, 18, 21, 24, 27] (by kernel_rfl) z z ?_
 clear hst
 intro w hst
 obtain ⟨t304, ht305, hm⟩ := bind_some hm
 refine wec call21 [p0, U6 (u64.wrap a1.From), I6 (1:Int)] z z ?_
 refine (octet_Writer_Num_ref hst.to1 ht305).mono ?_
 rintro _ w306 ⟨rfl, hst⟩
 refine ⟨_, z, ?_⟩
 replace hst := hst.of1
 refine ws_next (pend' := [(26, .bool a1.OK), (25, Pt b294 7), (23, U6 a1.Commit), (22, Pt b294 6), (20, U6 a1.LogTerm), (19, Pt b294 5), (17, U6 a1.Index), (16, Pt b294 4), (14, U6 a1.Term), (13, Pt b294 3), (11, U6 (u64.wrap a1.To)), (10, I6 a1.To), (9, Pt b294 2)]) hst (by kernel_rfl) (pkr z z (fun w hst => x_load z isAgg4 (hst.bc1 z)) (pkr z z (fun w hst => x_field z underlying30 z sizeOf4 z) (pkr z z (fun w hst => x_load z isAgg25 (hst.bc1 z)) (pkr z z (fun w hst => x_field z underlying30 z sizeOf25 z) (pkr z z (fun w hst => x_load z isAgg25 (hst.bc1 z)) (pkr z z (fun w hst => x_field z underlying30 z sizeOf25 z) (pkr z z (fun w hst => x_load z isAgg25 (hst.bc1 z)) (pkr z z (fun w hst => x_field z underlying30 z sizeOf25 z) (pkr z z (fun w hst => x_load z isAgg25 (hst.bc1 z)) (pkr z z (fun w hst => x_field z underlying30 z sizeOf25 z) (pkr z z (fun w hst => by kernel_rfl) (pkr z z (fun w hst => x_load z isAgg3 (hst.bc1 z)) (pkr z z (fun w hst => x_field z underlying30 z sizeOf3 z) pk_nil))))))))))))) ?_
 refine ws_e1 12 (by kernel_rfl) ?_
 refine nxe [15, 18, 21, 24, 27] (by kernel_rfl) z z ?_
 clear hst
 intro w hst
 obtain ⟨t309, ht310, hm⟩ := bind_some hm
 refine wec call21 [p0, U6 (u64.wrap a1.To), I6 (1:Int)] z z ?_
 refine (octet_Writer_Num_ref hst.to1 ht310).mono ?_
 rintro _ w311 ⟨rfl, hst⟩
 refine ⟨_, z, ?_⟩
 replace hst := hst.of1
 refine ws_next (pend' := [(26, .bool a1.OK), (25, Pt b294 7), (23, U6 a1.Commit), (22, Pt b294 6), (20, U6 a1.LogTerm), (19, Pt b294 5), (17, U6 a1.Index), (16, Pt b294 4), (14, U6 a1.Term), (13, Pt b294 3)]) hst (by kernel_rfl) (pkr z z (fun w hst => x_load z isAgg4 (hst.bc1 z)) (pkr z z (fun w hst => x_field z underlying30 z sizeOf4 z) (pkr z z (fun w hst => x_load z isAgg25 (hst.bc1 z)) (pkr z z (fun w hst => x_field z underlying30 z sizeOf25 z) (pkr z z (fun w hst => x_load z isAgg25 (hst.bc1 z)) (pkr z z (fun w hst => x_field z underlying30 z sizeOf25 z) (pkr z z (fun w hst => x_load z isAgg25 (hst.bc1 z)) (pkr z z (fun w hst => x_field z underlying30 z sizeOf25 z) (pkr z z (fun w hst => x_load z isAgg25 (hst.bc1 z)) (pkr z z (fun w hst => x_field z underlying30 z sizeOf25 z) pk_nil)))))))))) ?_
 refine ws_e1 15 (by kernel_rfl) ?_
 refine nxe [18, 21, 24, 27] (by kernel_rfl) z z ?_
 clear hst
 intro w hst
 obtain ⟨t314, ht315, hm⟩ := bind_some hm
 refine wec call21 [p0, U6 a1.Term, I6 (8:Int)] z z ?_
 refine (octet_Writer_Num_ref hst.to1 ht315).mono ?_
 rintro _ w316 ⟨rfl, hst⟩
 refine ⟨_, z, ?_⟩
 replace hst := hst.of1
 refine ws_next (pend' := [(26, .bool a1.OK), (25, Pt b294 7), (23, U6 a1.Commit), (22, Pt b294 6), (20, U6 a1.LogTerm), (19, Pt b294 5), (17, U6 a1.Index), (16, Pt b294 4)]) hst (by kernel_rfl) (pkr z z (fun w hst => x_load z isAgg4 (hst.bc1 z)) (pkr z z (fun w hst => x_field z underlying30 z sizeOf4 z) (pkr z z (fun w hst => x_load z isAgg25 (hst.bc1 z)) (pkr z z (fun w hst => x_field z underlying30 z sizeOf25 z) (pkr z z (fun w hst => x_load z isAgg25 (hst.bc1 z)) (pkr z z (fun w hst => x_field z underlying30 z sizeOf25 z) (pkr z z (fun w hst => x_load z isAgg25 (hst.bc1 z)) (pkr z z (fun w hst => x_field z underlying30 z sizeOf25 z) pk_nil)))))))) ?_
 refine ws_e1 18 (by kernel_rfl) ?_
 refine nxe [21, 24, 27] (by kernel_rfl) z z ?_
 clear hst
 intro w hst
 obtain ⟨t319, ht320, hm⟩ := bind_some hm
 refine wec call21 [p0, U6 a1.Index, I6 (8:Int)] z z ?_
 refine (octet_Writer_Num_ref hst.to1 ht320).mono ?_
 rintro _ w321 ⟨rfl, hst⟩
 refine ⟨_, z, ?_⟩
 replace hst := hst.of1
 refine ws_next (pend' := [(26, .bool a1.OK), (25, Pt b294 7), (23, U6 a1.Commit), (22, Pt b294 6), (20, U6 a1.LogTerm), (19, Pt b294 5)]) hst (by kernel_rfl) (pkr z z (fun w hst => x_load z isAgg4 (hst.bc1 z)) (pkr z z (fun w hst => x_field z underlying30 z sizeOf4 z) (pkr z z (fun w hst => x_load z isAgg25 (hst.bc1 z)) (pkr z z (fun w hst => x_field z underlying30 z sizeOf25 z) (pkr z z (fun w hst => x_load z isAgg25 (hst.bc1 z)) (pkr z z (fun w hst => x_field z underlying30 z sizeOf25 z) pk_nil)))))) ?_
 refine ws_e1 21 (by kernel_rfl) ?_
 refine nxe [24, 27] (by kernel_rfl) z z ?_
 clear hst
 intro w hst
 obtain ⟨t324, ht325, hm⟩ := bind_some hm
 refine wec call21 [p0, U6 a1.LogTerm, I6 (8:Int)] z z ?_
 refine (octet_Writer_Num_ref hst.to1 ht325).mono ?_
 rintro _ w326 ⟨rfl, hst⟩
 refine ⟨_, z, ?_⟩
 replace hst := hst.of1
 refine ws_next (pend' := [(26, .bool a1.OK), (25, Pt b294 7), (23, U6 a1.Commit), (22, Pt b294 6)]) hst (by kernel_rfl) (pkr z z (fun w hst => x_load z isAgg4 (hst.bc1 z)) (pkr z z (fun w hst => x_field z underlying30 z sizeOf4 z) (pkr z z (fun w hst => x_load z isAgg25 (hst.bc1 z)) (pkr z z (fun w hst => x_field z underlying30 z sizeOf25 z) pk_nil)))) ?_
 refine ws_e1 24 (by kernel_rfl) ?_
 refine nxe [27] (by kernel_rfl) z z ?_
 clear hst
 intro w hst
 obtain ⟨t329, ht330, hm⟩ := bind_some hm
 refine wec call21 [p0, U6 a1.Commit, I6 (8:Int)] z z ?_
 refine (octet_Writer_Num_ref hst.to1 ht330).mono ?_
 rintro _ w331 ⟨rfl, hst⟩
 refine ⟨_, z, ?_⟩
 replace hst := hst.of1
 refine ws_next (pend' := [(26, .bool a1.OK), (25, Pt b294 7)]) hst (by kernel_rfl) (pkr z z (fun w hst => x_load z isAgg4 (hst.bc1 z)) (pkr z z (fun w hst => x_field z underlying30 z sizeOf4 z) pk_nil)) ?_
 refine ws_e1 27 (by kernel_rfl) ?_
 refine nxe [] (by kernel_rfl) z z ?_
 clear hst
 intro w hst
 obtain ⟨t334, ht335, hm⟩ := bind_some hm
 refine wec call54 [p0, .bool a1.OK] z z ?_
 refine (octet_Writer_Flag_ref hst.to1 ht335).mono ?_
 rintro _ w336 ⟨rfl, hst⟩
 refine ⟨_, z, ?_⟩
 replace hst := hst.of1
 refine ws_next (pend' := []) hst (by kernel_rfl) pk_nil ?_
 refine ws_nil ?_
 intro w hst
 refine tn (wp_seq (wrl (wv (p0) z z z (wv (Pt b294 8) z z (x_field z underlying30 z sizeOf26 z) (wv (r1_0) z z (x_load z isAgg26 (hst.bc1 z)) (wv (.int .i64 ((a1.Entries).length : Int)) z z (x_len z underlying26 (rd_sliceV f1_0)) (wv (.int .u64 (u64.wrap ((a1.Entries).length : Int))) z z (by kernel_rfl) ?_)))))))
 obtain ⟨t339, ht340, hm⟩ := bind_some hm
 refine wc call21 [p0, U6 (u64.wrap ((a1.Entries).length : Int)), I6 (4:Int)] z z z ?_
 refine (octet_Writer_Num_ref hst.to1 ht340).mono ?_
 rintro _ w341 ⟨rfl, hst⟩
 refine ⟨_, z, ?_⟩
 replace hst := hst.of1
 refine wl_nil (tn ?_)
 obtain ⟨y479, hm, hx480⟩ := bind_some hm
 refine wp_cut (fun a w => ∃ (z476 : octet_Writer) (σ477 : Nat → Value), (mail_message_j0 a1) z476 = some r ∧ a = Fr 79 (upd (upd σ477 0 (p0)) 3 (Pt b294 0)) ∧ St w0 w I [at_octet_Writer p0 z476, cells b294 [U1 a1.Kind, I6 a1.From, I6 a1.To, U6 a1.Term, U6 a1.Index, U6 a1.LogTerm, U6 a1.Commit, .bool a1.OK, r1_0, U6 a1.S.Index, U6 a1.S.Term, U6 a1.S.Voters, r1_1]] R) ?_ ?_
 {
 refine wp_seq (wrl (wv (Pt b294 8) z z (x_field z underlying30 z sizeOf26 z) (wv (r1_0) z z (x_load z isAgg26 (hst.bc1 z)) (wv (.int .i64 ((a1.Entries).length : Int)) z z (x_len z underlying26 (rd_sliceV f1_0)) (wv (.int .i64 (0:Int)) z z z (wl_nil (tn (wp_block ?_))))))))
 obtain ⟨n429, hm⟩ := loopO_some hm
 refine wp_loop_n (fun n a w => ∃ (z426 : octet_Writer) (z427 : Int) (σ428 : Nat → Value), loopN (mail_message_l1 a1) n (z426, z427) = some y479 ∧ a = Fr 79 (upd (upd (upd (upd (upd σ428 0 (p0)) 3 (Pt b294 0)) 41 (r1_0)) 42 (.int .i64 ((a1.Entries).length : Int))) 43 (.int .i64 z427)) ∧ St w0 w I [at_octet_Writer p0 z426, cells b294 [U1 a1.Kind, I6 a1.From, I6 a1.To, U6 a1.Term, U6 a1.Index, U6 a1.LogTerm, U6 a1.Commit, .bool a1.OK, r1_0, U6 a1.S.Index, U6 a1.S.Term, U6 a1.S.Voters, r1_1]] R) n429 ⟨t339, (0:Int), _, hm, (fu 0 p0 z (fu 3 (Pt b294 0) z (fu 41 r1_0 z (fu 42 (.int .i64 ((a1.Entries).length : Int)) z (fu 43 (.int .i64 (0:Int)) z z))))), hst⟩ ?_
 rintro n435 _ w430 ⟨z426, z427, σ428, hm, rfl, hst⟩
 obtain ⟨n432, y433, rfl, hm, hx434⟩ := loopN_some hm
 dsimp only [mail_message_l1] at hm
 refine wp_seq (wrl (wv (.bool (decide (z427 < ((a1.Entries).length : Int)))) z z z (wl_nil (tn (wp_seq ?_)))))
 refine bsplit (decide (z427 < ((a1.Entries).length : Int))) (fun hc436 => ?_) (fun hc436 => ?_)
 {
 replace hm := bif_t hc436 hm
 refine wp_ift (cvb hc436) ?_
 refine wp_skip (tn (wp_seq (wp_block (wp_seq (wrl ?_)))))
 obtain ⟨x437, hx438, hm⟩ := bind_some hm
 obtain ⟨h439, h440, hi441⟩ := geto_some hx438
 refine wv (.pointer (some (eAddr r1_0 (z427.toNat * 4 + 0)))) z z (x_index z z underlying26 sizeOf84 (rd_sliceV f1_0) h439 h440) ?_
 obtain ⟨cs442, hr443, hc444⟩ := Rd.getF f1_0 hi441
 obtain ⟨v445, rfl, f446, -⟩ := hr443
 refine wv (.agg #[U6 x437.Index, U6 x437.Term, U1 x437.Kind, v445]) z z (x_loadN (cs := [U6 x437.Index, U6 x437.Term, U1 x437.Kind, v445]) z isAgg84 sizeOf84 (eCells (o := 0) (hc444 (HL.le.refl _) hst) z)) ?_
 obtain ⟨b449, w450, ew451, eb452, hst⟩ := hst.box [Zu, Zu, Zb, Zs] 84
 refine wl_run (v := Pt b449 0) (w' := w450) z z (x_al (by kernel_rfl) ew451 eb452) ?_
 obtain ⟨w454, hr455, hst⟩ := hst.bx [U6 x437.Index, U6 x437.Term, U1 x437.Kind, v445] sizeOf84 z (oC z (oC z (oC z (oC (one_of_sliceV (rd_sliceV f446)) oN)))) (by kernel_rfl)
 refine wl_unit z z (x_unit hr455) ?_
 refine wl_nil (tn ?_)
 refine wp_region_St hst 14 [0, 1, 2, 3, 4, 5, 6, 7, 8, 9, 10, 11, 12, 13] [0, 0, 2, 7, 0, 16, 63, 0, 128, 384, 1023, 0, 2048, 8191] [] z (by kernel_rfl) (by kernel_rfl) Try.mixed (by kernel_rfl) ?_
 refine wsr (p0) 0 z z z (by kernel_rfl) (fun w hst => z) (wsr (Pt b449 0) 1 z z z (by kernel_rfl) (fun w hst => x_field z underlying84 z sizeOf25 z) (wsr (.int .u64 x437.Index) 2 z z z (by kernel_rfl) (fun w hst => x_load z isAgg25 (hst.bc0 z)) (wsr (Pt b449 1) 4 z z z (by kernel_rfl) (fun w hst => x_field z underlying84 z sizeOf25 z) (wsr (.int .u64 x437.Term) 5 z z z (by kernel_rfl) (fun w hst => x_load z isAgg25 (hst.bc0 z)) (wsr (Pt b449 2) 7 z z z (by kernel_rfl) (fun w hst => x_field z underlying84 z sizeOf5 z) (wsr (.int .u8 x437.Kind) 8 z z z (by kernel_rfl) (fun w hst => x_load z isAgg5 (hst.bc0 z)) (wsr (.int .u64 (u64.wrap x437.Kind)) 9 z z z (by kernel_rfl) (fun w hst => by kernel_rfl) (wsr (Pt b449 3) 11 z z z (by kernel_rfl) (fun w hst => x_field z underlying84 z sizeOf22 z) (wsr (v445) 12 z z z (by kernel_rfl) (fun w hst => x_load z isAgg22 (hst.bc0 z)) ?_)))))))))
 refine ws_e1 3 (by kernel_rfl) ?_
 refine nxe [6, 10, 13] (by kernel_rfl) z z ?_
 clear hst
 intro w hst
 replace hst := hst.pull1
 obtain ⟨t456, ht457, hm⟩ := bind_some hm
 refine wec call21 [p0, U6 x437.Index, I6 (8:Int)] z z ?_
 refine (octet_Writer_Num_ref hst.to1 ht457).mono ?_
 rintro _ w458 ⟨rfl, hst⟩
 refine ⟨_, z, ?_⟩
 replace hst := hst.of1
 refine ws_next (pend' := [(12, v445), (11, Pt b449 3), (9, U6 (u64.wrap x437.Kind)), (8, U1 x437.Kind), (7, Pt b449 2), (5, U6 x437.Term), (4, Pt b449 1)]) hst (by kernel_rfl) (pkr z z (fun w hst => x_load z isAgg22 (hst.bc1 z)) (pkr z z (fun w hst => x_field z underlying84 z sizeOf22 z) (pkr z z (fun w hst => by kernel_rfl) (pkr z z (fun w hst => x_load z isAgg5 (hst.bc1 z)) (pkr z z (fun w hst => x_field z underlying84 z sizeOf5 z) (pkr z z (fun w hst => x_load z isAgg25 (hst.bc1 z)) (pkr z z (fun w hst => x_field z underlying84 z sizeOf25 z) pk_nil))))))) ?_
 refine ws_e1 6 (by kernel_rfl) ?_
 refine nxe [10, 13] (by kernel_rfl) z z ?_
 clear hst
 intro w hst
 obtain ⟨t461, ht462, hm⟩ := bind_some hm
 refine wec call21 [p0, U6 x437.Term, I6 (8:Int)] z z ?_
 refine (octet_Writer_Num_ref hst.to1 ht462).mono ?_
 rintro _ w463 ⟨rfl, hst⟩
 refine ⟨_, z, ?_⟩
 replace hst := hst.of1
 refine ws_next (pend' := [(12, v445), (11, Pt b449 3), (9, U6 (u64.wrap x437.Kind)), (8, U1 x437.Kind), (7, Pt b449 2)]) hst (by kernel_rfl) (pkr z z (fun w hst => x_load z isAgg22 (hst.bc1 z)) (pkr z z (fun w hst => x_field z underlying84 z sizeOf22 z) (pkr z z (fun w hst => by kernel_rfl) (pkr z z (fun w hst => x_load z isAgg5 (hst.bc1 z)) (pkr z z (fun w hst => x_field z underlying84 z sizeOf5 z) pk_nil))))) ?_
 refine ws_e1 10 (by kernel_rfl) ?_
 refine nxe [13] (by kernel_rfl) z z ?_
 clear hst
 intro w hst
 obtain ⟨t466, ht467, hm⟩ := bind_some hm
 refine wec call21 [p0, U6 (u64.wrap x437.Kind), I6 (1:Int)] z z ?_
 refine (octet_Writer_Num_ref hst.to1 ht467).mono ?_
 rintro _ w468 ⟨rfl, hst⟩
 refine ⟨_, z, ?_⟩
 replace hst := hst.of1
 refine ws_next (pend' := [(12, v445), (11, Pt b449 3)]) hst (by kernel_rfl) (pkr z z (fun w hst => x_load z isAgg22 (hst.bc1 z)) (pkr z z (fun w hst => x_field z underlying84 z sizeOf22 z) pk_nil)) ?_
 refine ws_e1 13 (by kernel_rfl) ?_
 refine nxe [] (by kernel_rfl) z z ?_
 clear hst
 intro w hst
 obtain ⟨t471, ht472, hm⟩ := bind_some hm
 refine wec call25 [p0, v445] z z ?_
 refine (octet_Writer_Bytes_ref (f446.mono (rd_weak _)) hst.to1 ht472).mono ?_
 rintro _ w473 ⟨rfl, hst⟩
 refine ⟨_, z, ?_⟩
 replace hst := hst.of1
 refine ws_next (pend' := []) hst (by kernel_rfl) pk_nil ?_
 refine ws_nil ?_
 intro w hst
 refine blk_n (tn (wrl ?_))
 refine wv (.int .i64 (i64.wrap (z427 + (1:Int)))) z z z (wv (.int .i64 (i64.wrap (z427 + (1:Int)))) z z z (wl_nil (tn ?_)))
 replace hst := hst.pull2.pull1.keep2
 obtain rfl := some_inj hm
 exact ⟨_, Nat.lt_succ_self _, t471, (i64.wrap (z427 + (1:Int))), _, hx434, (fu 0 p0 z (fu 3 (Pt b294 0) z (fu 41 r1_0 z (fu 42 (.int .i64 ((a1.Entries).length : Int)) z (fu 43 (.int .i64 (i64.wrap (z427 + (1:Int)))) z z))))), hst⟩
}
 {
 replace hm := bif_f hc436 hm
 refine wp_iff (cvb hc436) ?_
 refine wp_exit (then_x (then_x ?_))
 replace hm := inr_up hm hx434
 refine blk_x (tn ?_)
 replace hst := hst.pull1.pull1.keep2
 obtain rfl := some_inj hm
 exact ⟨z426, _, hx480, (fu 0 p0 z (fu 3 (Pt b294 0) z z)), hst⟩
}
}
 {
 clear hst
 rintro _ w481 ⟨z476, σ477, hm, rfl, hst⟩
 dsimp only [mail_message_j0] at hm
 refine wp_region_St hst 17 [0, 1, 2, 3, 4, 5, 6, 7, 8, 9, 10, 11, 12, 13, 14, 15, 16] [0, 0, 2, 6, 15, 0, 32, 96, 255, 0, 512, 1536, 4095, 0, 8192, 24576, 65535] [] z (by kernel_rfl) (by kernel_rfl) Try.mixed (by kernel_rfl) ?_
 refine wsr (p0) 0 z z z (by kernel_rfl) (fun w hst => z) (wsr (Pt b294 9) 1 z z z (by kernel_rfl) (fun w hst => x_field z underlying30 z sizeOf28 z) (wsr (Pt b294 9) 2 z z z (by kernel_rfl) (fun w hst => x_field z underlying28 z sizeOf25 z) (wsr (.int .u64 a1.S.Index) 3 z z z (by kernel_rfl) (fun w hst => x_load z isAgg25 (hst.bc1 z)) (wsr (Pt b294 9) 5 z z z (by kernel_rfl) (fun w hst => x_field z underlying30 z sizeOf28 z) (wsr (Pt b294 10) 6 z z z (by kernel_rfl) (fun w hst => x_field z underlying28 z sizeOf25 z) (wsr (.int .u64 a1.S.Term) 7 z z z (by kernel_rfl) (fun w hst => x_load z isAgg25 (hst.bc1 z)) (wsr (Pt b294 9) 9 z z z (by kernel_rfl) (fun w hst => x_field z underlying30 z sizeOf28 z) (wsr (Pt b294 11) 10 z z z (by kernel_rfl) (fun w hst => x_field z underlying28 z sizeOf25 z) (wsr (.int .u64 a1.S.Voters) 11 z z z (by kernel_rfl) (fun w hst => x_load z isAgg25 (hst.bc1 z)) (wsr (Pt b294 9) 13 z z z (by kernel_rfl) (fun w hst => x_field z underlying30 z sizeOf28 z) (wsr (Pt b294 12) 14 z z z (by kernel_rfl) (fun w hst => x_field z underlying28 z sizeOf22 z) (wsr (r1_1) 15 z z z (by kernel_rfl) (fun w hst => x_load z isAgg22 (hst.bc1 z)) ?_))))))))))))
 refine ws_e1 4 (by kernel_rfl) ?_
 refine nxe [8, 12, 16] (by kernel_rfl) z z ?_
 clear hst
 intro w hst
 obtain ⟨t482, ht483, hm⟩ := bind_some hm
 refine wec call21 [p0, U6 a1.S.Index, I6 (8:Int)] z z ?_
 refine (octet_Writer_Num_ref hst.to1 ht483).mono ?_
 rintro _ w484 ⟨rfl, hst⟩
 refine ⟨_, z, ?_⟩
 replace hst := hst.of1
 refine ws_next (pend' := [(15, r1_1), (14, Pt b294 12), (13, Pt b294 9), (11, U6 a1.S.Voters), (10, Pt b294 11), (9, Pt b294 9), (7, U6 a1.S.Term), (6, Pt b294 10), (5, Pt b294 9)]) hst (by kernel_rfl) (pkr z z (fun w hst => x_load z isAgg22 (hst.bc1 z)) (pkr z z (fun w hst => x_field z underlying28 z sizeOf22 z) (pkr z z (fun w hst => x_field z underlying30 z sizeOf28 z) (pkr z z (fun w hst => x_load z isAgg25 (hst.bc1 z)) (pkr z z (fun w hst => x_field z underlying28 z sizeOf25 z) (pkr z z (fun w hst => x_field z underlying30 z sizeOf28 z) (pkr z z (fun w hst => x_load z isAgg25 (hst.bc1 z)) (pkr z z (fun w hst => x_field z underlying28 z sizeOf25 z) (pkr z z (fun w hst => x_field z underlying30 z sizeOf28 z) pk_nil))))))))) ?_
 refine ws_e1 8 (by kernel_rfl) ?_
 refine nxe [12, 16] (by kernel_rfl) z z ?_
 clear hst
 intro w hst
 obtain ⟨t487, ht488, hm⟩ := bind_some hm
 refine wec call21 [p0, U6 a1.S.Term, I6 (8:Int)] z z ?_
 refine (octet_Writer_Num_ref hst.to1 ht488).mono ?_
 rintro _ w489 ⟨rfl, hst⟩
 refine ⟨_, z, ?_⟩
 replace hst := hst.of1
 refine ws_next (pend' := [(15, r1_1), (14, Pt b294 12), (13, Pt b294 9), (11, U6 a1.S.Voters), (10, Pt b294 11), (9, Pt b294 9)]) hst (by kernel_rfl) (pkr z z (fun w hst => x_load z isAgg22 (hst.bc1 z)) (pkr z z (fun w hst => x_field z underlying28 z sizeOf22 z) (pkr z z (fun w hst => x_field z underlying30 z sizeOf28 z) (pkr z z (fun w hst => x_load z isAgg25 (hst.bc1 z)) (pkr z z (fun w hst => x_field z underlying28 z sizeOf25 z) (pkr z z (fun w hst => x_field z underlying30 z sizeOf28 z) pk_nil)))))) ?_
 refine ws_e1 12 (by kernel_rfl) ?_
 refine nxe [16] (by kernel_rfl) z z ?_
 clear hst
 intro w hst
 obtain ⟨t492, ht493, hm⟩ := bind_some hm
 refine wec call21 [p0, U6 a1.S.Voters, I6 (8:Int)] z z ?_
 refine (octet_Writer_Num_ref hst.to1 ht493).mono ?_
 rintro _ w494 ⟨rfl, hst⟩
 refine ⟨_, z, ?_⟩
 replace hst := hst.of1
 refine ws_next (pend' := [(15, r1_1), (14, Pt b294 12), (13, Pt b294 9)]) hst (by kernel_rfl) (pkr z z (fun w hst => x_load z isAgg22 (hst.bc1 z)) (pkr z z (fun w hst => x_field z underlying28 z sizeOf22 z) (pkr z z (fun w hst => x_field z underlying30 z sizeOf28 z) pk_nil))) ?_
 refine ws_e1 16 (by kernel_rfl) ?_
 refine nxe [] (by kernel_rfl) z z ?_
 clear hst
 intro w hst
 obtain ⟨t497, ht498, hm⟩ := bind_some hm
 refine wec call25 [p0, r1_1] z z ?_
 refine (octet_Writer_Bytes_ref (f1_1.mono (rd_weak _)) hst.to1 ht498).mono ?_
 rintro _ w499 ⟨rfl, hst⟩
 refine ⟨_, z, ?_⟩
 replace hst := hst.of1
 refine ws_next (pend' := []) hst (by kernel_rfl) pk_nil ?_
 refine ws_nil ?_
 intro w hst
 obtain rfl := some_inj hm
 refine post_end (vs := []) results22 rvs_nil ?_
 exact ⟨z, hst.keep1⟩
}
}

theorem octet_Writer_Done_ref {w0 w : World} {I : HL} {R : SP} {a0 : octet_Writer} {p0 : Value}  (hst : St w0 w I [at_octet_Writer p0 a0] R) {r : ((List Int))} (hm : octet_Writer_Done a0 = some r) :
  Calls prog 27 #[p0] w fun e w' => ∃ (q0_0 : Value), e = .returned (q0_0) ∧ St w0 w' I [ownS (tyInt .u8) q0_0 r] R := by {
 unfold octet_Writer_Done at hm
 refine calls_start (args := [p0]) func27 z ntmps27 (Nat.le_of_ble_eq_true z) ?_
 refine wp_seq (wrl (wv ((.slice none 0 0)) z z z (wl_nil (tn (wp_seq (wrl (wv (p0) z z z ?_)))))))
 obtain ⟨b92, v93, rfl, hst'⟩ := at_octet_Writer_open hst
 clear hst
 have hst := hst'
 clear hst'
 refine wv (Pt b92 0) z z z (wv (Pt b92 0) z z (x_field z underlying74 z sizeOf22 z) (wv (v93) z z (x_load z isAgg22 (hst.bc0 z)) (wv (v93) z z z (wl_nil (tn (wp_ret ?_))))))
 obtain rfl := some_inj hm
 refine post_ret (vs := [v93]) results27 (rvs_cons (rv_tmp z) rvs_nil) ?_
 replace hst := hst.pull1
 exact ⟨v93, z, hst.keep1⟩
}

theorem math_IsNaN_ref {w0 w : World} {I : HL} {R : SP} {a0 : Nat}  (hst : St w0 w I [] R) {r : (Bool)} (hm : math_IsNaN a0 = some r) :
  Calls prog 68 #[F6 a0] w fun e w' => e = .returned (.bool r) ∧ St w0 w' I [] R := by {
 unfold math_IsNaN at hm
 refine calls_start (args := [F6 a0]) func68 z ntmps68 (Nat.le_of_ble_eq_true z) ?_
 refine wp_seq (wrl (wv (.bool false) z z z (wl_nil (tn (wp_seq (wrl (wv (.float .f64 a0) z z z (wv (.float .f64 a0) z z z (wv (.bool (fNe a0 a0)) z z z (wv (.bool (fNe a0 a0)) z z z (wl_nil (tn (wp_ret ?_)))))))))))))
 obtain rfl := some_inj hm
 refine post_ret (vs := [.bool (fNe a0 a0)]) results68 (rvs_cons (rv_tmp z) rvs_nil) ?_
 exact ⟨z, hst.keep0⟩
}

theorem number_Rank_ref {w0 w : World} {I : HL} {R : SP} {a0 : Nat}  (hst : St w0 w I [] R) {r : (Int)} (hm : number_Rank a0 = some r) :
  Calls prog 55 #[F6 a0] w fun e w' => e = .returned (.int .u64 r) ∧ St w0 w' I [] R := by {
 unfold number_Rank at hm
 refine calls_start (args := [F6 a0]) func55 z ntmps55 (Nat.le_of_ble_eq_true z) ?_
 refine wp_seq (wrl (wv (.int .u64 (0:Int)) z z z (wl_nil (tn (wp_seq (wp_seq (wrl (wv (.float .f64 a0) z z z ?_))))))))
 obtain ⟨t143, ht144, hm⟩ := bind_some hm
 refine wc call68 [F6 a0] z z z ?_
 refine (math_IsNaN_ref hst.to0 ht144).mono ?_
 rintro _ w145 ⟨rfl, hst⟩
 refine ⟨_, z, ?_⟩
 replace hst := hst.of0
 refine wl_nil (tn ?_)
 refine bsplit t143 (fun hc148 => ?_) (fun hc148 => ?_)
 {
 replace hm := bif_t hc148 hm
 refine wp_ift (cvb hc148) ?_
 refine wp_seq (wrl (wv (.int .u64 (18446744073709551615:Int)) z z z (wl_nil (tn (wp_ret (then_r ?_))))))
 obtain rfl := some_inj hm
 refine post_ret (vs := [U6 (18446744073709551615:Int)]) results55 (rvs_cons (rv_tmp z) rvs_nil) ?_
 exact ⟨z, hst.keep0⟩
}
 {
 replace hm := bif_f hc148 hm
 refine wp_iff (cvb hc148) ?_
 refine wp_skip (tn (wp_seq (wrl ?_)))
 refine wv (.float .f64 a0) z z z (wv (.int .u64 (Int.ofNat a0)) z z (by kernel_rfl) (wv (.int .u64 (Int.ofNat a0)) z z z (wl_nil (tn (wp_seq (wp_seq (wrl (wv (.int .u64 (Int.ofNat a0)) z z z (wv (.int .u64 (iShr .u64 (Int.ofNat a0) (63:Int))) z z (x_shr (by decide) z z) (wv (.bool ((iShr .u64 (Int.ofNat a0) (63:Int)) == (1:Int))) z z z (wl_nil (tn ?_))))))))))))
 refine bsplit ((iShr .u64 (Int.ofNat a0) (63:Int)) == (1:Int)) (fun hc149 => ?_) (fun hc149 => ?_)
 {
 replace hm := bif_t hc149 hm
 refine wp_ift (cvb hc149) ?_
 refine wp_seq (wrl (wv (.int .u64 (Int.ofNat a0)) z z z (wv (.int .u64 (bXor .u64 ((18446744073709551615):Int) (Int.ofNat a0))) z z (by kernel_rfl) (wv (.int .u64 (bXor .u64 ((18446744073709551615):Int) (Int.ofNat a0))) z z z (wl_nil (tn (wp_ret (then_r ?_))))))))
 obtain rfl := some_inj hm
 refine post_ret (vs := [U6 (bXor .u64 ((18446744073709551615):Int) (Int.ofNat a0))]) results55 (rvs_cons (rv_tmp z) rvs_nil) ?_
 exact ⟨z, hst.keep0⟩
}
 {
 replace hm := bif_f hc149 hm
 refine wp_iff (cvb hc149) ?_
 refine wp_skip (tn (wp_seq (wrl ?_)))
 refine wv (.int .u64 (Int.ofNat a0)) z z z (wv (.int .u64 (bOr .u64 (Int.ofNat a0) (9223372036854775808:Int))) z z z (wv (.int .u64 (bOr .u64 (Int.ofNat a0) (9223372036854775808:Int))) z z z (wl_nil (tn (wp_ret ?_)))))
 obtain rfl := some_inj hm
 refine post_ret (vs := [U6 (bOr .u64 (Int.ofNat a0) (9223372036854775808:Int))]) results55 (rvs_cons (rv_tmp z) rvs_nil) ?_
 exact ⟨z, hst.keep0⟩
}
}
}

theorem locks_Lay_ref {w0 w : World} {I : HL} {R : SP} {a0 : octet_Writer} {p0 : Value} {a1 : api_Hold} {r1_0 : Value} {r1_1 : Value} {r1_2 : Value} {r1_3 : Value} (f1_0 : Rd tyF64 R I r1_0 a1.Gets) (f1_1 : Rd tyF2 R I r1_1 a1.Scans) (f1_2 : Rd tyF64 R I r1_2 a1.Puts) (f1_3 : Rd (tyInt .u8) R I r1_3 a1.Data) (hst : St w0 w I [at_octet_Writer p0 a0] R) {r : (octet_Writer)} (hm : locks_Lay a0 a1 = some r) :
  Calls prog 23 #[p0, .agg #[U6 a1.ID.Session, U6 a1.ID.Seq, U6 a1.Epoch, r1_0, r1_1, r1_2, r1_3]] w fun e w' => e = .returned (.tuple #[]) ∧ St w0 w' I [at_octet_Writer p0 r] R := by {
 unfold locks_Lay at hm
 refine calls_start (args := [p0, .agg #[U6 a1.ID.Session, U6 a1.ID.Seq, U6 a1.Epoch, r1_0, r1_1, r1_2, r1_3]]) func23 z ntmps23 (Nat.le_of_ble_eq_true z) ?_
 refine wp_seq (wrl ?_)
 obtain ⟨b399, w400, ew401, eb402, hst⟩ := hst.box [U6 a1.ID.Session, U6 a1.ID.Seq, U6 a1.Epoch, r1_0, r1_1, r1_2, r1_3] 36
 refine wl_run (v := Pt b399 0) (w' := w400) z z (x_al (by kernel_rfl) ew401 eb402) ?_
 refine wl_nil (tn (wp_seq ?_))
 refine wp_region_St hst 17 [0, 1, 2, 3, 4, 5, 6, 7, 8, 9, 10, 11, 12, 13, 14, 15, 16] [0, 0, 2, 6, 15, 0, 32, 96, 255, 0, 512, 2047, 0, 4096, 12288, 28672, 65535] [] z (by kernel_rfl) (by kernel_rfl) Try.mixed (by kernel_rfl) ?_
 refine wsr (p0) 0 z z z (by kernel_rfl) (fun w hst => z) (wsr (Pt b399 0) 1 z z z (by kernel_rfl) (fun w hst => x_field z underlying36 z sizeOf32 z) (wsr (Pt b399 0) 2 z z z (by kernel_rfl) (fun w hst => x_field z underlying32 z sizeOf25 z) (wsr (.int .u64 a1.ID.Session) 3 z z z (by kernel_rfl) (fun w hst => x_load z isAgg25 (hst.bc0 z)) (wsr (Pt b399 0) 5 z z z (by kernel_rfl) (fun w hst => x_field z underlying36 z sizeOf32 z) (wsr (Pt b399 1) 6 z z z (by kernel_rfl) (fun w hst => x_field z underlying32 z sizeOf25 z) (wsr (.int .u64 a1.ID.Seq) 7 z z z (by kernel_rfl) (fun w hst => x_load z isAgg25 (hst.bc0 z)) (wsr (Pt b399 2) 9 z z z (by kernel_rfl) (fun w hst => x_field z underlying36 z sizeOf25 z) (wsr (.int .u64 a1.Epoch) 10 z z z (by kernel_rfl) (fun w hst => x_load z isAgg25 (hst.bc0 z)) (wsr (Pt b399 3) 12 z z z (by kernel_rfl) (fun w hst => x_field z underlying36 z sizeOf33 z) (wsr (r1_0) 13 z z z (by kernel_rfl) (fun w hst => x_load z isAgg33 (hst.bc0 z)) (wsr (.int .i64 ((a1.Gets).length : Int)) 14 z z z (by kernel_rfl) (fun w hst => x_len z underlying33 (rd_sliceV f1_0)) (wsr (.int .u64 (u64.wrap ((a1.Gets).length : Int))) 15 z z z (by kernel_rfl) (fun w hst => by kernel_rfl) ?_))))))))))))
 refine ws_e1 4 (by kernel_rfl) ?_
 refine nxe [8, 11, 16] (by kernel_rfl) z z ?_
 clear hst
 intro w hst
 replace hst := hst.pull1
 obtain ⟨t404, ht405, hm⟩ := bind_some hm
 refine wec call21 [p0, U6 a1.ID.Session, I6 (8:Int)] z z ?_
 refine (octet_Writer_Num_ref hst.to1 ht405).mono ?_
 rintro _ w406 ⟨rfl, hst⟩
 refine ⟨_, z, ?_⟩
 replace hst := hst.of1
 refine ws_next (pend' := [(15, U6 (u64.wrap ((a1.Gets).length : Int))), (14, I6 ((a1.Gets).length : Int)), (13, r1_0), (12, Pt b399 3), (10, U6 a1.Epoch), (9, Pt b399 2), (7, U6 a1.ID.Seq), (6, Pt b399 1), (5, Pt b399 0)]) hst (by kernel_rfl) (pkr z z (fun w hst => by kernel_rfl) (pkr z z (fun w hst => x_len z underlying33 (rd_sliceV f1_0)) (pkr z z (fun w hst => x_load z isAgg33 (hst.bc1 z)) (pkr z z (fun w hst => x_field z underlying36 z sizeOf33 z) (pkr z z (fun w hst => x_load z isAgg25 (hst.bc1 z)) (pkr z z (fun w hst => x_field z underlying36 z sizeOf25 z) (pkr z z (fun w hst => x_load z isAgg25 (hst.bc1 z)) (pkr z z (fun w hst => x_field z underlying32 z sizeOf25 z) (pkr z z (fun w hst => x_field z underlying36 z sizeOf32 z) pk_nil))))))))) ?_
 refine ws_e1 8 (by kernel_rfl) ?_
 refine nxe [11, 16] (by kernel_rfl) z z ?_
 clear hst
 intro w hst
 obtain ⟨t409, ht410, hm⟩ := bind_some hm
 refine wec call21 [p0, U6 a1.ID.Seq, I6 (8:Int)] z z ?_
 refine (octet_Writer_Num_ref hst.to1 ht410).mono ?_
 rintro _ w411 ⟨rfl, hst⟩
 refine ⟨_, z, ?_⟩
 replace hst := hst.of1
 refine ws_next (pend' := [(15, U6 (u64.wrap ((a1.Gets).length : Int))), (14, I6 ((a1.Gets).length : Int)), (13, r1_0), (12, Pt b399 3), (10, U6 a1.Epoch), (9, Pt b399 2)]) hst (by kernel_rfl) (pkr z z (fun w hst => by kernel_rfl) (pkr z z (fun w hst => x_len z underlying33 (rd_sliceV f1_0)) (pkr z z (fun w hst => x_load z isAgg33 (hst.bc1 z)) (pkr z z (fun w hst => x_field z underlying36 z sizeOf33 z) (pkr z z (fun w hst => x_load z isAgg25 (hst.bc1 z)) (pkr z z (fun w hst => x_field z underlying36 z sizeOf25 z) pk_nil)))))) ?_
 refine ws_e1 11 (by kernel_rfl) ?_
 refine nxe [16] (by kernel_rfl) z z ?_
 clear hst
 intro w hst
 obtain ⟨t414, ht415, hm⟩ := bind_some hm
 refine wec call21 [p0, U6 a1.Epoch, I6 (8:Int)] z z ?_
 refine (octet_Writer_Num_ref hst.to1 ht415).mono ?_
 rintro _ w416 ⟨rfl, hst⟩
 refine ⟨_, z, ?_⟩
 replace hst := hst.of1
 refine ws_next (pend' := [(15, U6 (u64.wrap ((a1.Gets).length : Int))), (14, I6 ((a1.Gets).length : Int)), (13, r1_0), (12, Pt b399 3)]) hst (by kernel_rfl) (pkr z z (fun w hst => by kernel_rfl) (pkr z z (fun w hst => x_len z underlying33 (rd_sliceV f1_0)) (pkr z z (fun w hst => x_load z isAgg33 (hst.bc1 z)) (pkr z z (fun w hst => x_field z underlying36 z sizeOf33 z) pk_nil)))) ?_
 refine ws_e1 16 (by kernel_rfl) ?_
 refine nxe [] (by kernel_rfl) z z ?_
 clear hst
 intro w hst
 obtain ⟨t419, ht420, hm⟩ := bind_some hm
 refine wec call21 [p0, U6 (u64.wrap ((a1.Gets).length : Int)), I6 (4:Int)] z z ?_
 refine (octet_Writer_Num_ref hst.to1 ht420).mono ?_
 rintro _ w421 ⟨rfl, hst⟩
 refine ⟨_, z, ?_⟩
 replace hst := hst.of1
 refine ws_next (pend' := []) hst (by kernel_rfl) pk_nil ?_
 refine ws_nil ?_
 intro w hst
 refine tn ?_
 obtain ⟨y487, hm, hx488⟩ := bind_some hm
 refine wp_cut (fun a w => ∃ (z484 : octet_Writer) (σ485 : Nat → Value), (locks_Lay_j0 a1) z484 = some r ∧ a = Fr 84 (upd (upd σ485 0 (p0)) 3 (Pt b399 0)) ∧ St w0 w I [at_octet_Writer p0 z484, cells b399 [U6 a1.ID.Session, U6 a1.ID.Seq, U6 a1.Epoch, r1_0, r1_1, r1_2, r1_3]] R) ?_ ?_
 {
 refine wp_seq (wrl (wv (Pt b399 3) z z (x_field z underlying36 z sizeOf33 z) (wv (r1_0) z z (x_load z isAgg33 (hst.bc1 z)) (wv (.int .i64 ((a1.Gets).length : Int)) z z (x_len z underlying33 (rd_sliceV f1_0)) (wv (.int .i64 (0:Int)) z z z (wl_nil (tn (wp_block ?_))))))))
 obtain ⟨n461, hm⟩ := loopO_some hm
 refine wp_loop_n (fun n a w => ∃ (z458 : octet_Writer) (z459 : Int) (σ460 : Nat → Value), loopN (locks_Lay_l1 a1) n (z458, z459) = some y487 ∧ a = Fr 84 (upd (upd (upd (upd (upd σ460 0 (p0)) 3 (Pt b399 0)) 28 (r1_0)) 29 (.int .i64 ((a1.Gets).length : Int))) 30 (.int .i64 z459)) ∧ St w0 w I [at_octet_Writer p0 z458, cells b399 [U6 a1.ID.Session, U6 a1.ID.Seq, U6 a1.Epoch, r1_0, r1_1, r1_2, r1_3]] R) n461 ⟨t419, (0:Int), _, hm, (fu 0 p0 z (fu 3 (Pt b399 0) z (fu 28 r1_0 z (fu 29 (.int .i64 ((a1.Gets).length : Int)) z (fu 30 (.int .i64 (0:Int)) z z))))), hst⟩ ?_
 rintro n467 _ w462 ⟨z458, z459, σ460, hm, rfl, hst⟩
 obtain ⟨n464, y465, rfl, hm, hx466⟩ := loopN_some hm
 dsimp only [locks_Lay_l1] at hm
 refine wp_seq (wrl (wv (.bool (decide (z459 < ((a1.Gets).length : Int)))) z z z (wl_nil (tn (wp_seq ?_)))))
 refine bsplit (decide (z459 < ((a1.Gets).length : Int))) (fun hc468 => ?_) (fun hc468 => ?_)
 {
 replace hm := bif_t hc468 hm
 refine wp_ift (cvb hc468) ?_
 refine wp_skip (tn (wp_seq (wp_block (wp_seq (wrl ?_)))))
 obtain ⟨x469, hx470, hm⟩ := bind_some hm
 obtain ⟨h471, h472, hi473⟩ := geto_some hx470
 refine wv (.pointer (some (eAddr r1_0 (z459.toNat * 1 + 0)))) z z (x_index z z underlying33 sizeOf44 (rd_sliceV f1_0) h471 h472) (wv (.float .f64 x469) z z (x_load z isAgg44 (rd_load f1_0 (HL.le.refl _) hst hi473 (by rintro _ rfl; rfl))) (wv (.float .f64 x469) z z z (wl_nil (tn (wrl (wv (p0) z z z (wv (.float .f64 x469) z z z ?_)))))))
 obtain ⟨t474, ht475, hm⟩ := bind_some hm
 refine wc call55 [F6 x469] z z z ?_
 refine (number_Rank_ref hst.to0 ht475).mono ?_
 rintro _ w476 ⟨rfl, hst⟩
 refine ⟨_, z, ?_⟩
 replace hst := hst.of0
 obtain ⟨t479, ht480, hm⟩ := bind_some hm
 refine wc call21 [p0, U6 t474, I6 (8:Int)] z z z ?_
 refine (octet_Writer_Num_ref hst.to1 ht480).mono ?_
 rintro _ w481 ⟨rfl, hst⟩
 refine ⟨_, z, ?_⟩
 replace hst := hst.of1
 refine wl_nil (blk_n (tn (wrl (wv (.int .i64 (i64.wrap (z459 + (1:Int)))) z z z (wv (.int .i64 (i64.wrap (z459 + (1:Int)))) z z z (wl_nil (tn ?_)))))))
 replace hst := hst.pull1.pull1.keep2
 obtain rfl := some_inj hm
 exact ⟨_, Nat.lt_succ_self _, t479, (i64.wrap (z459 + (1:Int))), _, hx466, (fu 0 p0 z (fu 3 (Pt b399 0) z (fu 28 r1_0 z (fu 29 (.int .i64 ((a1.Gets).length : Int)) z (fu 30 (.int .i64 (i64.wrap (z459 + (1:Int)))) z z))))), hst⟩
}
 {
 replace hm := bif_f hc468 hm
 refine wp_iff (cvb hc468) ?_
 refine wp_exit (then_x (then_x ?_))
 replace hm := inr_up hm hx466
 refine blk_x (tn ?_)
 replace hst := hst.pull1.pull1.keep2
 obtain rfl := some_inj hm
 exact ⟨z458, _, hx488, (fu 0 p0 z (fu 3 (Pt b399 0) z z)), hst⟩
}
}
 {
 clear hst
 rintro _ w489 ⟨z484, σ485, hm, rfl, hst⟩
 dsimp only [locks_Lay_j0] at hm
 refine wp_seq (wrl (wv (p0) z z z (wv (Pt b399 4) z z (x_field z underlying36 z sizeOf34 z) (wv (r1_1) z z (x_load z isAgg34 (hst.bc1 z)) (wv (.int .i64 ((a1.Scans).length : Int)) z z (x_len z underlying34 (rd_sliceV f1_1)) (wv (.int .u64 (u64.wrap ((a1.Scans).length : Int))) z z (by kernel_rfl) ?_))))))
 obtain ⟨t490, ht491, hm⟩ := bind_some hm
 refine wc call21 [p0, U6 (u64.wrap ((a1.Scans).length : Int)), I6 (4:Int)] z z z ?_
 refine (octet_Writer_Num_ref hst.to1 ht491).mono ?_
 rintro _ w492 ⟨rfl, hst⟩
 refine ⟨_, z, ?_⟩
 replace hst := hst.of1
 refine wl_nil (tn ?_)
 obtain ⟨y609, hm, hx610⟩ := bind_some hm
 refine wp_cut (fun a w => ∃ (z606 : octet_Writer) (σ607 : Nat → Value), (locks_Lay_j2 a1) z606 = some r ∧ a = Fr 84 (upd (upd σ607 0 (p0)) 3 (Pt b399 0)) ∧ St w0 w I [at_octet_Writer p0 z606, cells b399 [U6 a1.ID.Session, U6 a1.ID.Seq, U6 a1.Epoch, r1_0, r1_1, r1_2, r1_3]] R) ?_ ?_
 {
 refine wp_seq (wrl (wv (Pt b399 4) z z (x_field z underlying36 z sizeOf34 z) (wv (r1_1) z z (x_load z isAgg34 (hst.bc1 z)) (wv (.int .i64 ((a1.Scans).length : Int)) z z (x_len z underlying34 (rd_sliceV f1_1)) (wv (.int .i64 (0:Int)) z z z (wl_nil (tn (wp_block ?_))))))))
 obtain ⟨n566, hm⟩ := loopO_some hm
 refine wp_loop_n (fun n a w => ∃ (z563 : octet_Writer) (z564 : Int) (σ565 : Nat → Value), loopN (locks_Lay_l3 a1) n (z563, z564) = some y609 ∧ a = Fr 84 (upd (upd (upd (upd (upd σ565 0 (p0)) 3 (Pt b399 0)) 46 (r1_1)) 47 (.int .i64 ((a1.Scans).length : Int))) 48 (.int .i64 z564)) ∧ St w0 w I [at_octet_Writer p0 z563, cells b399 [U6 a1.ID.Session, U6 a1.ID.Seq, U6 a1.Epoch, r1_0, r1_1, r1_2, r1_3]] R) n566 ⟨t490, (0:Int), _, hm, (fu 0 p0 z (fu 3 (Pt b399 0) z (fu 46 r1_1 z (fu 47 (.int .i64 ((a1.Scans).length : Int)) z (fu 48 (.int .i64 (0:Int)) z z))))), hst⟩ ?_
 rintro n572 _ w567 ⟨z563, z564, σ565, hm, rfl, hst⟩
 obtain ⟨n569, y570, rfl, hm, hx571⟩ := loopN_some hm
 dsimp only [locks_Lay_l3] at hm
 refine wp_seq (wrl (wv (.bool (decide (z564 < ((a1.Scans).length : Int)))) z z z (wl_nil (tn (wp_seq ?_)))))
 refine bsplit (decide (z564 < ((a1.Scans).length : Int))) (fun hc573 => ?_) (fun hc573 => ?_)
 {
 replace hm := bif_t hc573 hm
 refine wp_ift (cvb hc573) ?_
 refine wp_skip (tn (wp_seq (wp_block (wp_seq (wrl ?_)))))
 obtain ⟨x574, hx575, hm⟩ := bind_some hm
 obtain ⟨h576, h577, hi578⟩ := geto_some hx575
 refine wv (.pointer (some (eAddr r1_1 (z564.toNat * 2 + 0)))) z z (x_index z z underlying34 sizeOf102 (rd_sliceV f1_1) h576 h577) (wv (.agg #[F6 x574.1, F6 x574.2]) z z (x_loadN (cs := [F6 x574.1, F6 x574.2]) z isAgg102 sizeOf102 (rd_loadN f1_1 (HL.le.refl _) hst hi578 0 (by rintro _ rfl; rfl))) ?_)
 obtain ⟨b579, w580, ew581, eb582, hst⟩ := hst.box [Zf, Zf] 102
 refine wl_run (v := Pt b579 0) (w' := w580) z z (x_al (by kernel_rfl) ew581 eb582) ?_
 obtain ⟨w584, hr585, hst⟩ := hst.bx [F6 x574.1, F6 x574.2] sizeOf102 z (oC z (oC z oN)) (by kernel_rfl)
 refine wl_unit z z (x_unit hr585) ?_
 refine wl_nil (tn ?_)
 refine wp_region_St hst 9 [0, 1, 2, 3, 4, 5, 6, 7, 8] [0, 0, 2, 6, 15, 0, 32, 127, 255] [] z (by kernel_rfl) (by kernel_rfl) Try.mixed (by kernel_rfl) ?_
 refine wsr (p0) 0 z z z (by kernel_rfl) (fun w hst => z) (wsr (Pt b579 0) 1 z z z (by kernel_rfl) (fun w hst => x_index_arr (i := (0:Int)) z z underlying102 sizeOf44 (by decide) (by decide)) (wsr (.float .f64 x574.1) 2 z z z (by kernel_rfl) (fun w hst => x_load z isAgg44 (hst.bc0 z)) (wsr (Pt b579 1) 5 z z z (by kernel_rfl) (fun w hst => x_index_arr (i := (1:Int)) z z underlying102 sizeOf44 (by decide) (by decide)) (wsr (.float .f64 x574.2) 6 z z z (by kernel_rfl) (fun w hst => x_load z isAgg44 (hst.bc0 z)) ?_))))
 refine ws_e1 3 (by kernel_rfl) ?_
 refine nxe [4, 7, 8] (by kernel_rfl) z z ?_
 clear hst
 intro w hst
 obtain ⟨t586, ht587, hm⟩ := bind_some hm
 refine wec call55 [F6 x574.1] z z ?_
 refine (number_Rank_ref hst.to0 ht587).mono ?_
 rintro _ w588 ⟨rfl, hst⟩
 refine ⟨_, z, ?_⟩
 replace hst := hst.of0
 refine ws_next (pend' := [(6, F6 x574.2), (5, Pt b579 1), (0, p0)]) hst (by kernel_rfl) (pkr z z (fun w hst => x_load z isAgg44 (hst.bc0 z)) (pkr z z (fun w hst => x_index_arr (i := (1:Int)) z z underlying102 sizeOf44 (by decide) (by decide)) (pkr z z (fun w hst => z) pk_nil))) ?_
 refine ws_e1 4 (by kernel_rfl) ?_
 refine nxe [7, 8] (by kernel_rfl) z z ?_
 clear hst
 intro w hst
 replace hst := hst.pull1
 obtain ⟨t591, ht592, hm⟩ := bind_some hm
 refine wec call21 [p0, U6 t586, I6 (8:Int)] z z ?_
 refine (octet_Writer_Num_ref hst.to1 ht592).mono ?_
 rintro _ w593 ⟨rfl, hst⟩
 refine ⟨_, z, ?_⟩
 replace hst := hst.of1
 refine ws_next (pend' := [(6, F6 x574.2), (5, Pt b579 1)]) hst (by kernel_rfl) (pkr z z (fun w hst => x_load z isAgg44 (hst.bc1 z)) (pkr z z (fun w hst => x_index_arr (i := (1:Int)) z z underlying102 sizeOf44 (by decide) (by decide)) pk_nil)) ?_
 refine ws_e1 7 (by kernel_rfl) ?_
 refine nxe [8] (by kernel_rfl) z z ?_
 clear hst
 intro w hst
 obtain ⟨t596, ht597, hm⟩ := bind_some hm
 refine wec call55 [F6 x574.2] z z ?_
 refine (number_Rank_ref hst.to0 ht597).mono ?_
 rintro _ w598 ⟨rfl, hst⟩
 refine ⟨_, z, ?_⟩
 replace hst := hst.of0
 refine ws_next (pend' := []) hst (by kernel_rfl) pk_nil ?_
 refine ws_e1 8 (by kernel_rfl) ?_
 refine nxe [] (by kernel_rfl) z z ?_
 clear hst
 intro w hst
 obtain ⟨t601, ht602, hm⟩ := bind_some hm
 refine wec call21 [p0, U6 t596, I6 (8:Int)] z z ?_
 refine (octet_Writer_Num_ref hst.to1 ht602).mono ?_
 rintro _ w603 ⟨rfl, hst⟩
 refine ⟨_, z, ?_⟩
 replace hst := hst.of1
 refine ws_next (pend' := []) hst (by kernel_rfl) pk_nil ?_
 refine ws_nil ?_
 intro w hst
 refine blk_n (tn (wrl ?_))
 refine wv (.int .i64 (i64.wrap (z564 + (1:Int)))) z z z (wv (.int .i64 (i64.wrap (z564 + (1:Int)))) z z z (wl_nil (tn ?_)))
 replace hst := hst.pull2.pull1.keep2
 obtain rfl := some_inj hm
 exact ⟨_, Nat.lt_succ_self _, t601, (i64.wrap (z564 + (1:Int))), _, hx571, (fu 0 p0 z (fu 3 (Pt b399 0) z (fu 46 r1_1 z (fu 47 (.int .i64 ((a1.Scans).length : Int)) z (fu 48 (.int .i64 (i64.wrap (z564 + (1:Int)))) z z))))), hst⟩
}
 {
 replace hm := bif_f hc573 hm
 refine wp_iff (cvb hc573) ?_
 refine wp_exit (then_x (then_x ?_))
 replace hm := inr_up hm hx571
 refine blk_x (tn ?_)
 replace hst := hst.pull1.pull1.keep2
 obtain rfl := some_inj hm
 exact ⟨z563, _, hx610, (fu 0 p0 z (fu 3 (Pt b399 0) z z)), hst⟩
}
}
 {
 clear hst
 rintro _ w611 ⟨z606, σ607, hm, rfl, hst⟩
 dsimp only [locks_Lay_j2] at hm
 refine wp_seq (wrl (wv (p0) z z z (wv (Pt b399 5) z z (x_field z underlying36 z sizeOf33 z) (wv (r1_2) z z (x_load z isAgg33 (hst.bc1 z)) (wv (.int .i64 ((a1.Puts).length : Int)) z z (x_len z underlying33 (rd_sliceV f1_2)) (wv (.int .u64 (u64.wrap ((a1.Puts).length : Int))) z z (by kernel_rfl) ?_))))))
 obtain ⟨t612, ht613, hm⟩ := bind_some hm
 refine wc call21 [p0, U6 (u64.wrap ((a1.Puts).length : Int)), I6 (4:Int)] z z z ?_
 refine (octet_Writer_Num_ref hst.to1 ht613).mono ?_
 rintro _ w614 ⟨rfl, hst⟩
 refine ⟨_, z, ?_⟩
 replace hst := hst.of1
 refine wl_nil (tn ?_)
 obtain ⟨y680, hm, hx681⟩ := bind_some hm
 refine wp_cut (fun a w => ∃ (z677 : octet_Writer) (σ678 : Nat → Value), (locks_Lay_j4 a1) z677 = some r ∧ a = Fr 84 (upd (upd σ678 0 (p0)) 3 (Pt b399 0)) ∧ St w0 w I [at_octet_Writer p0 z677, cells b399 [U6 a1.ID.Session, U6 a1.ID.Seq, U6 a1.Epoch, r1_0, r1_1, r1_2, r1_3]] R) ?_ ?_
 {
 refine wp_seq (wrl (wv (Pt b399 5) z z (x_field z underlying36 z sizeOf33 z) (wv (r1_2) z z (x_load z isAgg33 (hst.bc1 z)) (wv (.int .i64 ((a1.Puts).length : Int)) z z (x_len z underlying33 (rd_sliceV f1_2)) (wv (.int .i64 (0:Int)) z z z (wl_nil (tn (wp_block ?_))))))))
 obtain ⟨n654, hm⟩ := loopO_some hm
 refine wp_loop_n (fun n a w => ∃ (z651 : octet_Writer) (z652 : Int) (σ653 : Nat → Value), loopN (locks_Lay_l5 a1) n (z651, z652) = some y680 ∧ a = Fr 84 (upd (upd (upd (upd (upd σ653 0 (p0)) 3 (Pt b399 0)) 69 (r1_2)) 70 (.int .i64 ((a1.Puts).length : Int))) 71 (.int .i64 z652)) ∧ St w0 w I [at_octet_Writer p0 z651, cells b399 [U6 a1.ID.Session, U6 a1.ID.Seq, U6 a1.Epoch, r1_0, r1_1, r1_2, r1_3]] R) n654 ⟨t612, (0:Int), _, hm, (fu 0 p0 z (fu 3 (Pt b399 0) z (fu 69 r1_2 z (fu 70 (.int .i64 ((a1.Puts).length : Int)) z (fu 71 (.int .i64 (0:Int)) z z))))), hst⟩ ?_
 rintro n660 _ w655 ⟨z651, z652, σ653, hm, rfl, hst⟩
 obtain ⟨n657, y658, rfl, hm, hx659⟩ := loopN_some hm
 dsimp only [locks_Lay_l5] at hm
 refine wp_seq (wrl (wv (.bool (decide (z652 < ((a1.Puts).length : Int)))) z z z (wl_nil (tn (wp_seq ?_)))))
 refine bsplit (decide (z652 < ((a1.Puts).length : Int))) (fun hc661 => ?_) (fun hc661 => ?_)
 {
 replace hm := bif_t hc661 hm
 refine wp_ift (cvb hc661) ?_
 refine wp_skip (tn (wp_seq (wp_block (wp_seq (wrl ?_)))))
 obtain ⟨x662, hx663, hm⟩ := bind_some hm
 obtain ⟨h664, h665, hi666⟩ := geto_some hx663
 refine wv (.pointer (some (eAddr r1_2 (z652.toNat * 1 + 0)))) z z (x_index z z underlying33 sizeOf44 (rd_sliceV f1_2) h664 h665) (wv (.float .f64 x662) z z (x_load z isAgg44 (rd_load f1_2 (HL.le.refl _) hst hi666 (by rintro _ rfl; rfl))) (wv (.float .f64 x662) z z z (wl_nil (tn (wrl (wv (p0) z z z (wv (.float .f64 x662) z z z ?_)))))))
 obtain ⟨t667, ht668, hm⟩ := bind_some hm
 refine wc call55 [F6 x662] z z z ?_
 refine (number_Rank_ref hst.to0 ht668).mono ?_
 rintro _ w669 ⟨rfl, hst⟩
 refine ⟨_, z, ?_⟩
 replace hst := hst.of0
 obtain ⟨t672, ht673, hm⟩ := bind_some hm
 refine wc call21 [p0, U6 t667, I6 (8:Int)] z z z ?_
 refine (octet_Writer_Num_ref hst.to1 ht673).mono ?_
 rintro _ w674 ⟨rfl, hst⟩
 refine ⟨_, z, ?_⟩
 replace hst := hst.of1
 refine wl_nil (blk_n (tn (wrl (wv (.int .i64 (i64.wrap (z652 + (1:Int)))) z z z (wv (.int .i64 (i64.wrap (z652 + (1:Int)))) z z z (wl_nil (tn ?_)))))))
 replace hst := hst.pull1.pull1.keep2
 obtain rfl := some_inj hm
 exact ⟨_, Nat.lt_succ_self _, t672, (i64.wrap (z652 + (1:Int))), _, hx659, (fu 0 p0 z (fu 3 (Pt b399 0) z (fu 69 r1_2 z (fu 70 (.int .i64 ((a1.Puts).length : Int)) z (fu 71 (.int .i64 (i64.wrap (z652 + (1:Int)))) z z))))), hst⟩
}
 {
 replace hm := bif_f hc661 hm
 refine wp_iff (cvb hc661) ?_
 refine wp_exit (then_x (then_x ?_))
 replace hm := inr_up hm hx659
 refine blk_x (tn ?_)
 replace hst := hst.pull1.pull1.keep2
 obtain rfl := some_inj hm
 exact ⟨z651, _, hx681, (fu 0 p0 z (fu 3 (Pt b399 0) z z)), hst⟩
}
}
 {
 clear hst
 rintro _ w682 ⟨z677, σ678, hm, rfl, hst⟩
 dsimp only [locks_Lay_j4] at hm
 refine wrl (wv (p0) z z z (wv (Pt b399 6) z z (x_field z underlying36 z sizeOf22 z) (wv (r1_3) z z (x_load z isAgg22 (hst.bc1 z)) ?_)))
 obtain ⟨t683, ht684, hm⟩ := bind_some hm
 refine wc call25 [p0, r1_3] z z z ?_
 refine (octet_Writer_Bytes_ref (f1_3.mono (rd_weak _)) hst.to1 ht684).mono ?_
 rintro _ w685 ⟨rfl, hst⟩
 refine ⟨_, z, ?_⟩
 replace hst := hst.of1
 refine wl_nil ?_
 obtain rfl := some_inj hm
 refine post_end (vs := []) results23 rvs_nil ?_
 exact ⟨z, hst.keep1⟩
}
}
}
}

theorem command_LayReply_ref {w0 w : World} {I : HL} {R : SP} {a0 : octet_Writer} {p0 : Value} {a1 : api_Reply} {r1_0 : Value} {r1_1 : Value} (f1_0 : Rd ty_api_Got R I r1_0 a1.Gots) (f1_1 : Rd (tySl ty_api_Pair) R I r1_1 a1.Scans) (hst : St w0 w I [at_octet_Writer p0 a0] R) {r : (octet_Writer)} (hm : command_LayReply a0 a1 = some r) :
  Calls prog 24 #[p0, .agg #[I6 a1.E, U6 a1.Epoch, U6 a1.Index, r1_0, r1_1]] w fun e w' => e = .returned (.tuple #[]) ∧ St w0 w' I [at_octet_Writer p0 r] R := by {
 unfold command_LayReply at hm
 refine calls_start (args := [p0, .agg #[I6 a1.E, U6 a1.Epoch, U6 a1.Index, r1_0, r1_1]]) func24 z ntmps24 (Nat.le_of_ble_eq_true z) ?_
 refine wp_seq (wrl ?_)
 obtain ⟨b676, w677, ew678, eb679, hst⟩ := hst.box [I6 a1.E, U6 a1.Epoch, U6 a1.Index, r1_0, r1_1] 41
 refine wl_run (v := Pt b676 0) (w' := w677) z z (x_al (by kernel_rfl) ew678 eb679) ?_
 refine wl_nil (tn (wp_seq ?_))
 refine wp_region_St hst 16 [0, 1, 2, 3, 4, 5, 6, 7, 8, 9, 10, 11, 12, 13, 14, 15] [0, 0, 2, 6, 15, 0, 32, 127, 0, 256, 1023, 0, 2048, 6144, 14336, 32767] [] z (by kernel_rfl) (by kernel_rfl) Try.mixed (by kernel_rfl) ?_
 refine wsr (p0) 0 z z z (by kernel_rfl) (fun w hst => z) (wsr (Pt b676 0) 1 z z z (by kernel_rfl) (fun w hst => x_field z underlying41 z sizeOf37 z) (wsr (.int .i64 a1.E) 2 z z z (by kernel_rfl) (fun w hst => x_load z isAgg37 (hst.bc0 z)) (wsr (.int .u64 (u64.wrap a1.E)) 3 z z z (by kernel_rfl) (fun w hst => by kernel_rfl) (wsr (Pt b676 1) 5 z z z (by kernel_rfl) (fun w hst => x_field z underlying41 z sizeOf25 z) (wsr (.int .u64 a1.Epoch) 6 z z z (by kernel_rfl) (fun w hst => x_load z isAgg25 (hst.bc0 z)) (wsr (Pt b676 2) 8 z z z (by kernel_rfl) (fun w hst => x_field z underlying41 z sizeOf25 z) (wsr (.int .u64 a1.Index) 9 z z z (by kernel_rfl) (fun w hst => x_load z isAgg25 (hst.bc0 z)) (wsr (Pt b676 3) 11 z z z (by kernel_rfl) (fun w hst => x_field z underlying41 z sizeOf38 z) (wsr (r1_0) 12 z z z (by kernel_rfl) (fun w hst => x_load z isAgg38 (hst.bc0 z)) (wsr (.int .i64 ((a1.Gots).length : Int)) 13 z z z (by kernel_rfl) (fun w hst => x_len z underlying38 (rd_sliceV f1_0)) (wsr (.int .u64 (u64.wrap ((a1.Gots).length : Int))) 14 z z z (by kernel_rfl) (fun w hst => by kernel_rfl) ?_)))))))))))
 refine ws_e1 4 (by kernel_rfl) ?_
 refine nxe [7, 10, 15] (by kernel_rfl) z z ?_
 clear hst
 intro w hst
 replace hst := hst.pull1
 obtain ⟨t681, ht682, hm⟩ := bind_some hm
 refine wec call21 [p0, U6 (u64.wrap a1.E), I6 (1:Int)] z z ?_
 refine (octet_Writer_Num_ref hst.to1 ht682).mono ?_
 rintro _ w683 ⟨rfl, hst⟩
 refine ⟨_, z, ?_⟩
 replace hst := hst.of1
 refine ws_next (pend' := [(14, U6 (u64.wrap ((a1.Gots).length : Int))), (13, I6 ((a1.Gots).length : Int)), (12, r1_0), (11, Pt b676 3), (9, U6 a1.Index), (8, Pt b676 2), (6, U6 a1.Epoch), (5, Pt b676 1)]) hst (by kernel_rfl) (pkr z z (fun w hst => by kernel_rfl) (pkr z z (fun w hst => x_len z underlying38 (rd_sliceV f1_0)) (pkr z z (fun w hst => x_load z isAgg38 (hst.bc1 z)) (pkr z z (fun w hst => x_field z underlying41 z sizeOf38 z) (pkr z z (fun w hst => x_load z isAgg25 (hst.bc1 z)) (pkr z z (fun w hst => x_field z underlying41 z sizeOf25 z) (pkr z z (fun w hst => x_load z isAgg25 (hst.bc1 z)) (pkr z z (fun w hst => x_field z underlying41 z sizeOf25 z) pk_nil)))))))) ?_
 refine ws_e1 7 (by kernel_rfl) ?_
 refine nxe [10, 15] (by kernel_rfl) z z ?_
 clear hst
 intro w hst
 obtain ⟨t686, ht687, hm⟩ := bind_some hm
 refine wec call21 [p0, U6 a1.Epoch, I6 (8:Int)] z z ?_
 refine (octet_Writer_Num_ref hst.to1 ht687).mono ?_
 rintro _ w688 ⟨rfl, hst⟩
 refine ⟨_, z, ?_⟩
 replace hst := hst.of1
 refine ws_next (pend' := [(14, U6 (u64.wrap ((a1.Gots).length : Int))), (13, I6 ((a1.Gots).length : Int)), (12, r1_0), (11, Pt b676 3), (9, U6 a1.Index), (8, Pt b676 2)]) hst (by kernel_rfl) (pkr z z (fun w hst => by kernel_rfl) (pkr z z (fun w hst => x_len z underlying38 (rd_sliceV f1_0)) (pkr z z (fun w hst => x_load z isAgg38 (hst.bc1 z)) (pkr z z (fun w hst => x_field z underlying41 z sizeOf38 z) (pkr z z (fun w hst => x_load z isAgg25 (hst.bc1 z)) (pkr z z (fun w hst => x_field z underlying41 z sizeOf25 z) pk_nil)))))) ?_
 refine ws_e1 10 (by kernel_rfl) ?_
 refine nxe [15] (by kernel_rfl) z z ?_
 clear hst
 intro w hst
 obtain ⟨t691, ht692, hm⟩ := bind_some hm
 refine wec call21 [p0, U6 a1.Index, I6 (8:Int)] z z ?_
 refine (octet_Writer_Num_ref hst.to1 ht692).mono ?_
 rintro _ w693 ⟨rfl, hst⟩
 refine ⟨_, z, ?_⟩
 replace hst := hst.of1
 refine ws_next (pend' := [(14, U6 (u64.wrap ((a1.Gots).length : Int))), (13, I6 ((a1.Gots).length : Int)), (12, r1_0), (11, Pt b676 3)]) hst (by kernel_rfl) (pkr z z (fun w hst => by kernel_rfl) (pkr z z (fun w hst => x_len z underlying38 (rd_sliceV f1_0)) (pkr z z (fun w hst => x_load z isAgg38 (hst.bc1 z)) (pkr z z (fun w hst => x_field z underlying41 z sizeOf38 z) pk_nil)))) ?_
 refine ws_e1 15 (by kernel_rfl) ?_
 refine nxe [] (by kernel_rfl) z z ?_
 clear hst
 intro w hst
 obtain ⟨t696, ht697, hm⟩ := bind_some hm
 refine wec call21 [p0, U6 (u64.wrap ((a1.Gots).length : Int)), I6 (4:Int)] z z ?_
 refine (octet_Writer_Num_ref hst.to1 ht697).mono ?_
 rintro _ w698 ⟨rfl, hst⟩
 refine ⟨_, z, ?_⟩
 replace hst := hst.of1
 refine ws_next (pend' := []) hst (by kernel_rfl) pk_nil ?_
 refine ws_nil ?_
 intro w hst
 refine tn ?_
 obtain ⟨y806, hm, hx807⟩ := bind_some hm
 refine wp_cut (fun a w => ∃ (z803 : octet_Writer) (σ804 : Nat → Value), (command_LayReply_j0 a1) z803 = some r ∧ a = Fr 75 (upd (upd σ804 0 (p0)) 3 (Pt b676 0)) ∧ St w0 w I [at_octet_Writer p0 z803, cells b676 [I6 a1.E, U6 a1.Epoch, U6 a1.Index, r1_0, r1_1]] R) ?_ ?_
 {
 refine wp_seq (wrl (wv (Pt b676 3) z z (x_field z underlying41 z sizeOf38 z) (wv (r1_0) z z (x_load z isAgg38 (hst.bc1 z)) (wv (.int .i64 ((a1.Gots).length : Int)) z z (x_len z underlying38 (rd_sliceV f1_0)) (wv (.int .i64 (0:Int)) z z z (wl_nil (tn (wp_block ?_))))))))
 obtain ⟨n766, hm⟩ := loopO_some hm
 refine wp_loop_n (fun n a w => ∃ (z763 : octet_Writer) (z764 : Int) (σ765 : Nat → Value), loopN (command_LayReply_l1 a1) n (z763, z764) = some y806 ∧ a = Fr 75 (upd (upd (upd (upd (upd σ765 0 (p0)) 3 (Pt b676 0)) 27 (r1_0)) 28 (.int .i64 ((a1.Gots).length : Int))) 29 (.int .i64 z764)) ∧ St w0 w I [at_octet_Writer p0 z763, cells b676 [I6 a1.E, U6 a1.Epoch, U6 a1.Index, r1_0, r1_1]] R) n766 ⟨t696, (0:Int), _, hm, (fu 0 p0 z (fu 3 (Pt b676 0) z (fu 27 r1_0 z (fu 28 (.int .i64 ((a1.Gots).length : Int)) z (fu 29 (.int .i64 (0:Int)) z z))))), hst⟩ ?_
 rintro n772 _ w767 ⟨z763, z764, σ765, hm, rfl, hst⟩
 obtain ⟨n769, y770, rfl, hm, hx771⟩ := loopN_some hm
 dsimp only [command_LayReply_l1] at hm
 refine wp_seq (wrl (wv (.bool (decide (z764 < ((a1.Gots).length : Int)))) z z z (wl_nil (tn (wp_seq ?_)))))
 refine bsplit (decide (z764 < ((a1.Gots).length : Int))) (fun hc773 => ?_) (fun hc773 => ?_)
 {
 replace hm := bif_t hc773 hm
 refine wp_ift (cvb hc773) ?_
 refine wp_skip (tn (wp_seq (wp_block (wp_seq (wrl ?_)))))
 obtain ⟨x774, hx775, hm⟩ := bind_some hm
 obtain ⟨h776, h777, hi778⟩ := geto_some hx775
 refine wv (.pointer (some (eAddr r1_0 (z764.toNat * 2 + 0)))) z z (x_index z z underlying38 sizeOf104 (rd_sliceV f1_0) h776 h777) ?_
 obtain ⟨cs779, hr780, hc781⟩ := Rd.getF f1_0 hi778
 obtain ⟨v782, rfl, f783, -⟩ := hr780
 refine wv (.agg #[.bool x774.Has, v782]) z z (x_loadN (cs := [.bool x774.Has, v782]) z isAgg104 sizeOf104 (eCells (o := 0) (hc781 (HL.le.refl _) hst) z)) ?_
 obtain ⟨b786, w787, ew788, eb789, hst⟩ := hst.box [.bool false, Zs] 104
 refine wl_run (v := Pt b786 0) (w' := w787) z z (x_al (by kernel_rfl) ew788 eb789) ?_
 obtain ⟨w791, hr792, hst⟩ := hst.bx [.bool x774.Has, v782] sizeOf104 z (oC z (oC (one_of_sliceV (rd_sliceV f783)) oN)) (by kernel_rfl)
 refine wl_unit z z (x_unit hr792) ?_
 refine wl_nil (tn ?_)
 refine wp_region_St hst 7 [0, 1, 2, 3, 4, 5, 6] [0, 0, 2, 7, 0, 16, 63] [] z (by kernel_rfl) (by kernel_rfl) Try.mixed (by kernel_rfl) ?_
 refine wsr (p0) 0 z z z (by kernel_rfl) (fun w hst => z) (wsr (Pt b786 0) 1 z z z (by kernel_rfl) (fun w hst => x_field z underlying104 z sizeOf4 z) (wsr (.bool x774.Has) 2 z z z (by kernel_rfl) (fun w hst => x_load z isAgg4 (hst.bc0 z)) (wsr (Pt b786 1) 4 z z z (by kernel_rfl) (fun w hst => x_field z underlying104 z sizeOf22 z) (wsr (v782) 5 z z z (by kernel_rfl) (fun w hst => x_load z isAgg22 (hst.bc0 z)) ?_))))
 refine ws_e1 3 (by kernel_rfl) ?_
 refine nxe [6] (by kernel_rfl) z z ?_
 clear hst
 intro w hst
 replace hst := hst.pull1
 obtain ⟨t793, ht794, hm⟩ := bind_some hm
 refine wec call54 [p0, .bool x774.Has] z z ?_
 refine (octet_Writer_Flag_ref hst.to1 ht794).mono ?_
 rintro _ w795 ⟨rfl, hst⟩
 refine ⟨_, z, ?_⟩
 replace hst := hst.of1
 refine ws_next (pend' := [(5, v782), (4, Pt b786 1)]) hst (by kernel_rfl) (pkr z z (fun w hst => x_load z isAgg22 (hst.bc1 z)) (pkr z z (fun w hst => x_field z underlying104 z sizeOf22 z) pk_nil)) ?_
 refine ws_e1 6 (by kernel_rfl) ?_
 refine nxe [] (by kernel_rfl) z z ?_
 clear hst
 intro w hst
 obtain ⟨t798, ht799, hm⟩ := bind_some hm
 refine wec call25 [p0, v782] z z ?_
 refine (octet_Writer_Bytes_ref (f783.mono (rd_weak _)) hst.to1 ht799).mono ?_
 rintro _ w800 ⟨rfl, hst⟩
 refine ⟨_, z, ?_⟩
 replace hst := hst.of1
 refine ws_next (pend' := []) hst (by kernel_rfl) pk_nil ?_
 refine ws_nil ?_
 intro w hst
 refine blk_n (tn (wrl ?_))
 refine wv (.int .i64 (i64.wrap (z764 + (1:Int)))) z z z (wv (.int .i64 (i64.wrap (z764 + (1:Int)))) z z z (wl_nil (tn ?_)))
 replace hst := hst.pull2.pull1.keep2
 obtain rfl := some_inj hm
 exact ⟨_, Nat.lt_succ_self _, t798, (i64.wrap (z764 + (1:Int))), _, hx771, (fu 0 p0 z (fu 3 (Pt b676 0) z (fu 27 r1_0 z (fu 28 (.int .i64 ((a1.Gots).length : Int)) z (fu 29 (.int .i64 (i64.wrap (z764 + (1:Int)))) z z))))), hst⟩
}
 {
 replace hm := bif_f hc773 hm
 refine wp_iff (cvb hc773) ?_
 refine wp_exit (then_x (then_x ?_))
 replace hm := inr_up hm hx771
 refine blk_x (tn ?_)
 replace hst := hst.pull1.pull1.keep2
 obtain rfl := some_inj hm
 exact ⟨z763, _, hx807, (fu 0 p0 z (fu 3 (Pt b676 0) z z)), hst⟩
}
}
 {
 clear hst
 rintro _ w808 ⟨z803, σ804, hm, rfl, hst⟩
 dsimp only [command_LayReply_j0] at hm
 refine wp_seq (wrl (wv (p0) z z z (wv (Pt b676 4) z z (x_field z underlying41 z sizeOf39 z) (wv (r1_1) z z (x_load z isAgg39 (hst.bc1 z)) (wv (.int .i64 ((a1.Scans).length : Int)) z z (x_len z underlying39 (rd_sliceV f1_1)) (wv (.int .u64 (u64.wrap ((a1.Scans).length : Int))) z z (by kernel_rfl) ?_))))))
 obtain ⟨t809, ht810, hm⟩ := bind_some hm
 refine wc call21 [p0, U6 (u64.wrap ((a1.Scans).length : Int)), I6 (4:Int)] z z z ?_
 refine (octet_Writer_Num_ref hst.to1 ht810).mono ?_
 rintro _ w811 ⟨rfl, hst⟩
 refine ⟨_, z, ?_⟩
 replace hst := hst.of1
 refine wl_nil (tn (wp_seq (wrl (wv (Pt b676 4) z z (x_field z underlying41 z sizeOf39 z) (wv (r1_1) z z (x_load z isAgg39 (hst.bc1 z)) (wv (.int .i64 ((a1.Scans).length : Int)) z z (x_len z underlying39 (rd_sliceV f1_1)) (wv (.int .i64 (0:Int)) z z z (wl_nil (tn (wp_block ?_))))))))))
 replace hst := hst.pull1.sub
 obtain ⟨n1087, hm⟩ := loopO_some hm
 refine wp_loop_n (fun n a w => ∃ (z1084 : octet_Writer) (z1085 : Int) (σ1086 : Nat → Value), loopN (command_LayReply_l2 a1) n (z1084, z1085) = some r ∧ a = Fr 75 (upd (upd (upd (upd σ1086 0 (p0)) 48 (r1_1)) 49 (.int .i64 ((a1.Scans).length : Int))) 50 (.int .i64 z1085)) ∧ St w0 w I [at_octet_Writer p0 z1084] R) n1087 ⟨t809, (0:Int), _, hm, (fu 0 p0 z (fu 48 r1_1 z (fu 49 (.int .i64 ((a1.Scans).length : Int)) z (fu 50 (.int .i64 (0:Int)) z z)))), hst⟩ ?_
 rintro n1093 _ w1088 ⟨z1084, z1085, σ1086, hm, rfl, hst⟩
 obtain ⟨n1090, y1091, rfl, hm, hx1092⟩ := loopN_some hm
 dsimp only [command_LayReply_l2] at hm
 refine wp_seq (wrl (wv (.bool (decide (z1085 < ((a1.Scans).length : Int)))) z z z (wl_nil (tn (wp_seq ?_)))))
 refine bsplit (decide (z1085 < ((a1.Scans).length : Int))) (fun hc1094 => ?_) (fun hc1094 => ?_)
 {
 replace hm := bif_t hc1094 hm
 refine wp_ift (cvb hc1094) ?_
 refine wp_skip (tn (wp_seq (wp_block (wp_seq (wrl ?_)))))
 obtain ⟨x1095, hx1096, hm⟩ := bind_some hm
 obtain ⟨h1097, h1098, hi1099⟩ := geto_some hx1096
 refine wv (.pointer (some (eAddr r1_1 (z1085.toNat * 1 + 0)))) z z (x_index z z underlying39 sizeOf105 (rd_sliceV f1_1) h1097 h1098) ?_
 obtain ⟨cs1100, hr1101, hc1102⟩ := Rd.getF f1_1 hi1099
 obtain ⟨v1103, rfl, f1104, -⟩ := hr1101
 refine wv (v1103) z z (x_load z isAgg105 ((hc1102 (HL.le.refl _) hst) 0 _ z)) (wv (v1103) z z z (wl_nil (tn (wp_seq (wrl (wv (p0) z z z (wv (v1103) z z z (wv (.int .i64 ((x1095).length : Int)) z z (x_len z underlying105 (rd_sliceV f1104)) (wv (.int .u64 (u64.wrap ((x1095).length : Int))) z z (by kernel_rfl) ?_)))))))))
 obtain ⟨t1106, ht1107, hm⟩ := bind_some hm
 refine wc call21 [p0, U6 (u64.wrap ((x1095).length : Int)), I6 (4:Int)] z z z ?_
 refine (octet_Writer_Num_ref hst.to1 ht1107).mono ?_
 rintro _ w1108 ⟨rfl, hst⟩
 refine ⟨_, z, ?_⟩
 replace hst := hst.of1
 refine wl_nil (tn (wp_seq (wrl (wv (v1103) z z z (wv (.int .i64 ((x1095).length : Int)) z z (x_len z underlying105 (rd_sliceV f1104)) (wv (.int .i64 (0:Int)) z z z (wl_nil (tn (wp_block ?_)))))))))
 obtain ⟨n1186, hm⟩ := loopO_some hm
 refine wp_loop_n (fun n a w => ∃ (z1183 : octet_Writer) (z1184 : Int) (σ1185 : Nat → Value), loopN (command_LayReply_l3 x1095 z1085) n (z1183, z1184) = some y1091 ∧ a = Fr 75 (upd (upd (upd (upd (upd (upd (upd σ1185 0 (p0)) 48 (r1_1)) 49 (.int .i64 ((a1.Scans).length : Int))) 50 (.int .i64 z1085)) 59 (v1103)) 60 (.int .i64 ((x1095).length : Int))) 61 (.int .i64 z1184)) ∧ St w0 w I [at_octet_Writer p0 z1183] R) n1186 ⟨t1106, (0:Int), _, hm, (fu 0 p0 z (fu 48 r1_1 z (fu 49 (.int .i64 ((a1.Scans).length : Int)) z (fu 50 (.int .i64 z1085) z (fu 59 v1103 z (fu 60 (.int .i64 ((x1095).length : Int)) z (fu 61 (.int .i64 (0:Int)) z z))))))), hst⟩ ?_
 rintro n1192 _ w1187 ⟨z1183, z1184, σ1185, hm, rfl, hst⟩
 obtain ⟨n1189, y1190, rfl, hm, hx1191⟩ := loopN_some hm
 dsimp only [command_LayReply_l3] at hm
 refine wp_seq (wrl (wv (.bool (decide (z1184 < ((x1095).length : Int)))) z z z (wl_nil (tn (wp_seq ?_)))))
 refine bsplit (decide (z1184 < ((x1095).length : Int))) (fun hc1193 => ?_) (fun hc1193 => ?_)
 {
 replace hm := bif_t hc1193 hm
 refine wp_ift (cvb hc1193) ?_
 refine wp_skip (tn (wp_seq (wp_block (wp_seq (wrl ?_)))))
 obtain ⟨x1194, hx1195, hm⟩ := bind_some hm
 obtain ⟨h1196, h1197, hi1198⟩ := geto_some hx1195
 refine wv (.pointer (some (eAddr v1103 (z1184.toNat * 2 + 0)))) z z (x_index z z underlying105 sizeOf107 (rd_sliceV f1104) h1196 h1197) ?_
 obtain ⟨cs1199, hr1200, hc1201⟩ := Rd.getF f1104 hi1198
 obtain ⟨v1202, rfl, f1203, -⟩ := hr1200
 refine wv (.agg #[F6 x1194.At, v1202]) z z (x_loadN (cs := [F6 x1194.At, v1202]) z isAgg107 sizeOf107 (eCells (o := 0) (hc1201 (HL.le.refl _) hst) z)) ?_
 obtain ⟨b1206, w1207, ew1208, eb1209, hst⟩ := hst.box [Zf, Zs] 107
 refine wl_run (v := Pt b1206 0) (w' := w1207) z z (x_al (by kernel_rfl) ew1208 eb1209) ?_
 obtain ⟨w1211, hr1212, hst⟩ := hst.bx [F6 x1194.At, v1202] sizeOf107 z (oC z (oC (one_of_sliceV (rd_sliceV f1203)) oN)) (by kernel_rfl)
 refine wl_unit z z (x_unit hr1212) ?_
 refine wl_nil (tn ?_)
 refine wp_region_St hst 8 [0, 1, 2, 3, 4, 5, 6, 7] [0, 0, 2, 6, 15, 0, 32, 127] [] z (by kernel_rfl) (by kernel_rfl) Try.mixed (by kernel_rfl) ?_
 refine wsr (p0) 0 z z z (by kernel_rfl) (fun w hst => z) (wsr (Pt b1206 0) 1 z z z (by kernel_rfl) (fun w hst => x_field z underlying107 z sizeOf44 z) (wsr (.float .f64 x1194.At) 2 z z z (by kernel_rfl) (fun w hst => x_load z isAgg44 (hst.bc0 z)) (wsr (Pt b1206 1) 5 z z z (by kernel_rfl) (fun w hst => x_field z underlying107 z sizeOf22 z) (wsr (v1202) 6 z z z (by kernel_rfl) (fun w hst => x_load z isAgg22 (hst.bc0 z)) ?_))))
 refine ws_e1 3 (by kernel_rfl) ?_
 refine nxe [4, 7] (by kernel_rfl) z z ?_
 clear hst
 intro w hst
 obtain ⟨t1213, ht1214, hm⟩ := bind_some hm
 refine wec call55 [F6 x1194.At] z z ?_
 refine (number_Rank_ref hst.to0 ht1214).mono ?_
 rintro _ w1215 ⟨rfl, hst⟩
 refine ⟨_, z, ?_⟩
 replace hst := hst.of0
 refine ws_next (pend' := [(6, v1202), (5, Pt b1206 1), (0, p0)]) hst (by kernel_rfl) (pkr z z (fun w hst => x_load z isAgg22 (hst.bc0 z)) (pkr z z (fun w hst => x_field z underlying107 z sizeOf22 z) (pkr z z (fun w hst => z) pk_nil))) ?_
 refine ws_e1 4 (by kernel_rfl) ?_
 refine nxe [7] (by kernel_rfl) z z ?_
 clear hst
 intro w hst
 replace hst := hst.pull1
 obtain ⟨t1218, ht1219, hm⟩ := bind_some hm
 refine wec call21 [p0, U6 t1213, I6 (8:Int)] z z ?_
 refine (octet_Writer_Num_ref hst.to1 ht1219).mono ?_
 rintro _ w1220 ⟨rfl, hst⟩
 refine ⟨_, z, ?_⟩
 replace hst := hst.of1
 refine ws_next (pend' := [(6, v1202), (5, Pt b1206 1)]) hst (by kernel_rfl) (pkr z z (fun w hst => x_load z isAgg22 (hst.bc1 z)) (pkr z z (fun w hst => x_field z underlying107 z sizeOf22 z) pk_nil)) ?_
 refine ws_e1 7 (by kernel_rfl) ?_
 refine nxe [] (by kernel_rfl) z z ?_
 clear hst
 intro w hst
 obtain ⟨t1223, ht1224, hm⟩ := bind_some hm
 refine wec call25 [p0, v1202] z z ?_
 refine (octet_Writer_Bytes_ref (f1203.mono (rd_weak _)) hst.to1 ht1224).mono ?_
 rintro _ w1225 ⟨rfl, hst⟩
 refine ⟨_, z, ?_⟩
 replace hst := hst.of1
 refine ws_next (pend' := []) hst (by kernel_rfl) pk_nil ?_
 refine ws_nil ?_
 intro w hst
 refine blk_n (tn (wrl ?_))
 refine wv (.int .i64 (i64.wrap (z1184 + (1:Int)))) z z z (wv (.int .i64 (i64.wrap (z1184 + (1:Int)))) z z z (wl_nil (tn ?_)))
 replace hst := hst.keep1
 obtain rfl := some_inj hm
 exact ⟨_, Nat.lt_succ_self _, t1223, (i64.wrap (z1184 + (1:Int))), _, hx1191, (fu 0 p0 z (fu 48 r1_1 z (fu 49 (.int .i64 ((a1.Scans).length : Int)) z (fu 50 (.int .i64 z1085) z (fu 59 v1103 z (fu 60 (.int .i64 ((x1095).length : Int)) z (fu 61 (.int .i64 (i64.wrap (z1184 + (1:Int)))) z z))))))), hst⟩
}
 {
 replace hm := bif_f hc1193 hm
 refine wp_iff (cvb hc1193) ?_
 refine wp_exit (then_x (then_x ?_))
 replace hm := inr_up hm hx1191
 refine blk_x (blk_n (tn (wrl ?_)))
 refine wv (.int .i64 (i64.wrap (z1085 + (1:Int)))) z z z (wv (.int .i64 (i64.wrap (z1085 + (1:Int)))) z z z (wl_nil (tn ?_)))
 replace hst := hst.keep1
 obtain rfl := some_inj hm
 exact ⟨_, Nat.lt_succ_self _, z1183, (i64.wrap (z1085 + (1:Int))), _, hx1092, (fu 0 p0 z (fu 48 r1_1 z (fu 49 (.int .i64 ((a1.Scans).length : Int)) z (fu 50 (.int .i64 (i64.wrap (z1085 + (1:Int)))) z z)))), hst⟩
}
}
 {
 replace hm := bif_f hc1094 hm
 refine wp_iff (cvb hc1094) ?_
 refine wp_exit (then_x (then_x ?_))
 replace hm := inr_up hm hx1092
 refine blk_x ?_
 obtain rfl := some_inj hm
 refine post_end (vs := []) results24 rvs_nil ?_
 exact ⟨z, hst.keep1⟩
}
}
}

theorem command_writes_ref {w0 w : World} {I : HL} {R : SP} {a0 : octet_Writer} {p0 : Value} {a1 : (List api_Write)} {r1_0 : Value} (f1_0 : Rd ty_api_Write R I r1_0 a1) (hst : St w0 w I [at_octet_Writer p0 a0] R) {r : (octet_Writer)} (hm : command_writes a0 a1 = some r) :
  Calls prog 57 #[p0, r1_0] w fun e w' => e = .returned (.tuple #[]) ∧ St w0 w' I [at_octet_Writer p0 r] R := by {
 unfold command_writes at hm
 refine calls_start (args := [p0, r1_0]) func57 z ntmps57 (Nat.le_of_ble_eq_true z) ?_
 refine wp_seq (wrl (wv (p0) z z z (wv (r1_0) z z z (wv (.int .i64 ((a1).length : Int)) z z (x_len z underlying42 (rd_sliceV f1_0)) (wv (.int .u64 (u64.wrap ((a1).length : Int))) z z (by kernel_rfl) ?_)))))
 obtain ⟨t362, ht363, hm⟩ := bind_some hm
 refine wc call21 [p0, U6 (u64.wrap ((a1).length : Int)), I6 (4:Int)] z z z ?_
 refine (octet_Writer_Num_ref hst.to1 ht363).mono ?_
 rintro _ w364 ⟨rfl, hst⟩
 refine ⟨_, z, ?_⟩
 replace hst := hst.of1
 refine wl_nil (tn (wp_seq (wrl (wv (r1_0) z z z (wv (.int .i64 ((a1).length : Int)) z z (x_len z underlying42 (rd_sliceV f1_0)) (wv (.int .i64 (0:Int)) z z z (wl_nil (tn (wp_block ?_)))))))))
 obtain ⟨n452, hm⟩ := loopO_some hm
 refine wp_loop_n (fun n a w => ∃ (z449 : octet_Writer) (z450 : Int) (σ451 : Nat → Value), loopN (command_writes_l0 a1) n (z449, z450) = some r ∧ a = Fr 29 (upd (upd (upd (upd σ451 0 (p0)) 11 (r1_0)) 12 (.int .i64 ((a1).length : Int))) 13 (.int .i64 z450)) ∧ St w0 w I [at_octet_Writer p0 z449] R) n452 ⟨t362, (0:Int), _, hm, (fu 0 p0 z (fu 11 r1_0 z (fu 12 (.int .i64 ((a1).length : Int)) z (fu 13 (.int .i64 (0:Int)) z z)))), hst⟩ ?_
 rintro n458 _ w453 ⟨z449, z450, σ451, hm, rfl, hst⟩
 obtain ⟨n455, y456, rfl, hm, hx457⟩ := loopN_some hm
 dsimp only [command_writes_l0] at hm
 refine wp_seq (wrl (wv (.bool (decide (z450 < ((a1).length : Int)))) z z z (wl_nil (tn (wp_seq ?_)))))
 refine bsplit (decide (z450 < ((a1).length : Int))) (fun hc459 => ?_) (fun hc459 => ?_)
 {
 replace hm := bif_t hc459 hm
 refine wp_ift (cvb hc459) ?_
 refine wp_skip (tn (wp_seq (wp_block (wp_seq (wrl ?_)))))
 obtain ⟨x460, hx461, hm⟩ := bind_some hm
 obtain ⟨h462, h463, hi464⟩ := geto_some hx461
 refine wv (.pointer (some (eAddr r1_0 (z450.toNat * 3 + 0)))) z z (x_index z z underlying42 sizeOf120 (rd_sliceV f1_0) h462 h463) ?_
 obtain ⟨cs465, hr466, hc467⟩ := Rd.getF f1_0 hi464
 obtain ⟨v468, rfl, f469, -⟩ := hr466
 refine wv (.agg #[F6 x460.At, .bool x460.Del, v468]) z z (x_loadN (cs := [F6 x460.At, .bool x460.Del, v468]) z isAgg120 sizeOf120 (eCells (o := 0) (hc467 (HL.le.refl _) hst) z)) ?_
 obtain ⟨b472, w473, ew474, eb475, hst⟩ := hst.box [Zf, .bool false, Zs] 120
 refine wl_run (v := Pt b472 0) (w' := w473) z z (x_al (by kernel_rfl) ew474 eb475) ?_
 obtain ⟨w477, hr478, hst⟩ := hst.bx [F6 x460.At, .bool x460.Del, v468] sizeOf120 z (oC z (oC z (oC (one_of_sliceV (rd_sliceV f469)) oN))) (by kernel_rfl)
 refine wl_unit z z (x_unit hr478) ?_
 refine wl_nil (tn ?_)
 refine wp_region_St hst 11 [0, 1, 2, 3, 4, 5, 6, 7, 8, 9, 10] [0, 0, 2, 6, 15, 0, 32, 127, 0, 256, 1023] [] z (by kernel_rfl) (by kernel_rfl) Try.mixed (by kernel_rfl) ?_
 refine wsr (p0) 0 z z z (by kernel_rfl) (fun w hst => z) (wsr (Pt b472 0) 1 z z z (by kernel_rfl) (fun w hst => x_field z underlying120 z sizeOf44 z) (wsr (.float .f64 x460.At) 2 z z z (by kernel_rfl) (fun w hst => x_load z isAgg44 (hst.bc0 z)) (wsr (Pt b472 1) 5 z z z (by kernel_rfl) (fun w hst => x_field z underlying120 z sizeOf4 z) (wsr (.bool x460.Del) 6 z z z (by kernel_rfl) (fun w hst => x_load z isAgg4 (hst.bc0 z)) (wsr (Pt b472 2) 8 z z z (by kernel_rfl) (fun w hst => x_field z underlying120 z sizeOf22 z) (wsr (v468) 9 z z z (by kernel_rfl) (fun w hst => x_load z isAgg22 (hst.bc0 z)) ?_))))))
 refine ws_e1 3 (by kernel_rfl) ?_
 refine nxe [4, 7, 10] (by kernel_rfl) z z ?_
 clear hst
 intro w hst
 obtain ⟨t479, ht480, hm⟩ := bind_some hm
 refine wec call55 [F6 x460.At] z z ?_
 refine (number_Rank_ref hst.to0 ht480).mono ?_
 rintro _ w481 ⟨rfl, hst⟩
 refine ⟨_, z, ?_⟩
 replace hst := hst.of0
 refine ws_next (pend' := [(9, v468), (8, Pt b472 2), (6, .bool x460.Del), (5, Pt b472 1), (0, p0)]) hst (by kernel_rfl) (pkr z z (fun w hst => x_load z isAgg22 (hst.bc0 z)) (pkr z z (fun w hst => x_field z underlying120 z sizeOf22 z) (pkr z z (fun w hst => x_load z isAgg4 (hst.bc0 z)) (pkr z z (fun w hst => x_field z underlying120 z sizeOf4 z) (pkr z z (fun w hst => z) pk_nil))))) ?_
 refine ws_e1 4 (by kernel_rfl) ?_
 refine nxe [7, 10] (by kernel_rfl) z z ?_
 clear hst
 intro w hst
 replace hst := hst.pull1
 obtain ⟨t484, ht485, hm⟩ := bind_some hm
 refine wec call21 [p0, U6 t479, I6 (8:Int)] z z ?_
 refine (octet_Writer_Num_ref hst.to1 ht485).mono ?_
 rintro _ w486 ⟨rfl, hst⟩
 refine ⟨_, z, ?_⟩
 replace hst := hst.of1
 refine ws_next (pend' := [(9, v468), (8, Pt b472 2), (6, .bool x460.Del), (5, Pt b472 1)]) hst (by kernel_rfl) (pkr z z (fun w hst => x_load z isAgg22 (hst.bc1 z)) (pkr z z (fun w hst => x_field z underlying120 z sizeOf22 z) (pkr z z (fun w hst => x_load z isAgg4 (hst.bc1 z)) (pkr z z (fun w hst => x_field z underlying120 z sizeOf4 z) pk_nil)))) ?_
 refine ws_e1 7 (by kernel_rfl) ?_
 refine nxe [10] (by kernel_rfl) z z ?_
 clear hst
 intro w hst
 obtain ⟨t489, ht490, hm⟩ := bind_some hm
 refine wec call54 [p0, .bool x460.Del] z z ?_
 refine (octet_Writer_Flag_ref hst.to1 ht490).mono ?_
 rintro _ w491 ⟨rfl, hst⟩
 refine ⟨_, z, ?_⟩
 replace hst := hst.of1
 refine ws_next (pend' := [(9, v468), (8, Pt b472 2)]) hst (by kernel_rfl) (pkr z z (fun w hst => x_load z isAgg22 (hst.bc1 z)) (pkr z z (fun w hst => x_field z underlying120 z sizeOf22 z) pk_nil)) ?_
 refine ws_e1 10 (by kernel_rfl) ?_
 refine nxe [] (by kernel_rfl) z z ?_
 clear hst
 intro w hst
 obtain ⟨t494, ht495, hm⟩ := bind_some hm
 refine wec call25 [p0, v468] z z ?_
 refine (octet_Writer_Bytes_ref (f469.mono (rd_weak _)) hst.to1 ht495).mono ?_
 rintro _ w496 ⟨rfl, hst⟩
 refine ⟨_, z, ?_⟩
 replace hst := hst.of1
 refine ws_next (pend' := []) hst (by kernel_rfl) pk_nil ?_
 refine ws_nil ?_
 intro w hst
 refine blk_n (tn (wrl ?_))
 refine wv (.int .i64 (i64.wrap (z450 + (1:Int)))) z z z (wv (.int .i64 (i64.wrap (z450 + (1:Int)))) z z z (wl_nil (tn ?_)))
 replace hst := hst.keep1
 obtain rfl := some_inj hm
 exact ⟨_, Nat.lt_succ_self _, t494, (i64.wrap (z450 + (1:Int))), _, hx457, (fu 0 p0 z (fu 11 r1_0 z (fu 12 (.int .i64 ((a1).length : Int)) z (fu 13 (.int .i64 (i64.wrap (z450 + (1:Int)))) z z)))), hst⟩
}
 {
 replace hm := bif_f hc459 hm
 refine wp_iff (cvb hc459) ?_
 refine wp_exit (then_x (then_x ?_))
 replace hm := inr_up hm hx457
 refine blk_x ?_
 obtain rfl := some_inj hm
 refine post_end (vs := []) results57 rvs_nil ?_
 exact ⟨z, hst.keep1⟩
}
}

theorem command_layRule_ref {w0 w : World} {I : HL} {R : SP} {a0 : octet_Writer} {p0 : Value} {a1 : api_Rule}  (hst : St w0 w I [at_octet_Writer p0 a0] R) {r : (octet_Writer)} (hm : command_layRule a0 a1 = some r) :
  Calls prog 58 #[p0, .agg #[U6 a1.ID, I6 a1.From, I6 a1.To, F6 a1.Lo, F6 a1.Hi, U6 a1.Authority, I6 a1.Quota]] w fun e w' => e = .returned (.tuple #[]) ∧ St w0 w' I [at_octet_Writer p0 r] R := by {
 unfold command_layRule at hm
 refine calls_start (args := [p0, .agg #[U6 a1.ID, I6 a1.From, I6 a1.To, F6 a1.Lo, F6 a1.Hi, U6 a1.Authority, I6 a1.Quota]]) func58 z ntmps58 (Nat.le_of_ble_eq_true z) ?_
 refine wp_seq (wrl ?_)
 obtain ⟨b460, w461, ew462, eb463, hst⟩ := hst.box [U6 a1.ID, I6 a1.From, I6 a1.To, F6 a1.Lo, F6 a1.Hi, U6 a1.Authority, I6 a1.Quota] 46
 refine wl_run (v := Pt b460 0) (w' := w461) z z (x_al (by kernel_rfl) ew462 eb463) ?_
 refine wl_nil (tn ?_)
 refine wp_region_St hst 27 [0, 1, 2, 3, 4, 5, 6, 7, 8, 9, 10, 11, 12, 13, 14, 15, 16, 17, 18, 19, 20, 21, 22, 23, 24, 25, 26] [0, 0, 2, 7, 0, 16, 48, 127, 0, 256, 768, 2047, 0, 4096, 16383, 32767, 0, 65536, 262143, 524287, 0, 1048576, 4194303, 0, 8388608, 25165824, 67108863] [] z (by kernel_rfl) (by kernel_rfl) Try.mixed (by kernel_rfl) ?_
 refine wsr (p0) 0 z z z (by kernel_rfl) (fun w hst => z) (wsr (Pt b460 0) 1 z z z (by kernel_rfl) (fun w hst => x_field z underlying46 z sizeOf25 z) (wsr (.int .u64 a1.ID) 2 z z z (by kernel_rfl) (fun w hst => x_load z isAgg25 (hst.bc0 z)) (wsr (Pt b460 1) 4 z z z (by kernel_rfl) (fun w hst => x_field z underlying46 z sizeOf3 z) (wsr (.int .i64 a1.From) 5 z z z (by kernel_rfl) (fun w hst => x_load z isAgg3 (hst.bc0 z)) (wsr (.int .u64 (u64.wrap a1.From)) 6 z z z (by kernel_rfl) (fun w hst => by kernel_rfl) (wsr (Pt b460 2) 8 z z z (by kernel_rfl) (fun w hst => x_field z underlying46 z sizeOf3 z) (wsr (.int .i64 a1.To) 9 z z z (by kernel_rfl) (fun w hst => x_load z isAgg3 (hst.bc0 z)) (wsr (.int .u64 (u64.wrap a1.To)) 10 z z z (by kernel_rfl) (fun w hst => by kernel_rfl) (wsr (Pt b460 3) 12 z z z (by kernel_rfl) (fun w hst => x_field z underlying46 z sizeOf44 z) (wsr (.float .f64 a1.Lo) 13 z z z (by kernel_rfl) (fun w hst => x_load z isAgg44 (hst.bc0 z)) (wsr (Pt b460 4) 16 z z z (by kernel_rfl) (fun w hst => x_field z underlying46 z sizeOf44 z) (wsr (.float .f64 a1.Hi) 17 z z z (by kernel_rfl) (fun w hst => x_load z isAgg44 (hst.bc0 z)) ?_))))))))))))
 refine wsr (Pt b460 5) 20 z z z (by kernel_rfl) (fun w hst => x_field z underlying46 z sizeOf25 z) (wsr (.int .u64 a1.Authority) 21 z z z (by kernel_rfl) (fun w hst => x_load z isAgg25 (hst.bc0 z)) (wsr (Pt b460 6) 23 z z z (by kernel_rfl) (fun w hst => x_field z underlying46 z sizeOf3 z) (wsr (.int .i64 a1.Quota) 24 z z z (by kernel_rfl) (fun w hst => x_load z isAgg3 (hst.bc0 z)) (wsr (.int .u64 (u64.wrap a1.Quota)) 25 z z z (by kernel_rfl) (fun w hst => by kernel_rfl) ?_))))
 refine ws_e1 3 (by kernel_rfl) ?_
 refine nxe [7, 11, 14, 15, 18, 19, 22, 26] (by kernel_rfl) z z ?_
 clear hst
 intro w hst
 replace hst := hst.pull1
 obtain ⟨t465, ht466, hm⟩ := bind_some hm
 refine wec call21 [p0, U6 a1.ID, I6 (8:Int)] z z ?_
 refine (octet_Writer_Num_ref hst.to1 ht466).mono ?_
 rintro _ w467 ⟨rfl, hst⟩
 refine ⟨_, z, ?_⟩
 replace hst := hst.of1
 refine ws_next (pend' := [(25, U6 (u64.wrap a1.Quota)), (24, I6 a1.Quota), (23, Pt b460 6), (21, U6 a1.Authority), (20, Pt b460 5), (17, F6 a1.Hi), (16, Pt b460 4), (13, F6 a1.Lo), (12, Pt b460 3), (10, U6 (u64.wrap a1.To)), (9, I6 a1.To), (8, Pt b460 2), (6, U6 (u64.wrap a1.From)), (5, I6 a1.From), (4, Pt b460 1)]) hst (by kernel_rfl) (pkr z z (fun w hst => by kernel_rfl) (pkr z z (fun w hst => x_load z isAgg3 (hst.bc1 z)) (pkr z z (fun w hst => x_field z underlying46 z sizeOf3 z) (pkr z z (fun w hst => x_load z isAgg25 (hst.bc1 z)) (pkr z z (fun w hst => x_field z underlying46 z sizeOf25 z) (pkr z z (fun w hst => x_load z isAgg44 (hst.bc1 z)) (pkr z z (fun w hst => x_field z underlying46 z sizeOf44 z) (pkr z z (fun w hst => x_load z isAgg44 (hst.bc1 z)) (pkr z z (fun w hst => x_field z underlying46 z sizeOf44 z) (pkr z z (fun w hst => by kernel_rfl) (pkr z z (fun w hst => x_load z isAgg3 (hst.bc1 z)) (pkr z z (fun w hst => x_field z underlying46 z sizeOf3 z) (pkr z z (fun w hst => by kernel_rfl) (pkr z z (fun w hst => x_load z isAgg3 (hst.bc1 z)) (pkr z z (fun w hst => x_field z underlying46 z sizeOf3 z) pk_nil))))))))))))))) ?_
 refine ws_e1 7 (by kernel_rfl) ?_
 refine nxe [11, 14, 15, 18, 19, 22, 26] (by kernel_rfl) z z ?_
 clear hst
 intro w hst
 obtain ⟨t470, ht471, hm⟩ := bind_some hm
 refine wec call21 [p0, U6 (u64.wrap a1.From), I6 (1:Int)] z z ?_
 refine (octet_Writer_Num_ref hst.to1 ht471).mono ?_
 rintro _ w472 ⟨rfl, hst⟩
 refine ⟨_, z, ?_⟩
 replace hst := hst.of1
 refine ws_next (pend' := [(25, U6 (u64.wrap a1.Quota)), (24, I6 a1.Quota), (23, Pt b460 6), (21, U6 a1.Authority), (20, Pt b460 5), (17, F6 a1.Hi), (16, Pt b460 4), (13, F6 a1.Lo), (12, Pt b460 3), (10, U6 (u64.wrap a1.To)), (9, I6 a1.To), (8, Pt b460 2)]) hst (by kernel_rfl) (pkr z z (fun w hst => by kernel_rfl) (pkr z z (fun w hst => x_load z isAgg3 (hst.bc1 z)) (pkr z z (fun w hst => x_field z underlying46 z sizeOf3 z) (pkr z z (fun w hst => x_load z isAgg25 (hst.bc1 z)) (pkr z z (fun w hst => x_field z underlying46 z sizeOf25 z) (pkr z z (fun w hst => x_load z isAgg44 (hst.bc1 z)) (pkr z z (fun w hst => x_field z underlying46 z sizeOf44 z) (pkr z z (fun w hst => x_load z isAgg44 (hst.bc1 z)) (pkr z z (fun w hst => x_field z underlying46 z sizeOf44 z) (pkr z z (fun w hst => by kernel_rfl) (pkr z z (fun w hst => x_load z isAgg3 (hst.bc1 z)) (pkr z z (fun w hst => x_field z underlying46 z sizeOf3 z) pk_nil)))))))))))) ?_
 refine ws_e1 11 (by kernel_rfl) ?_
 refine nxe [14, 15, 18, 19, 22, 26] (by kernel_rfl) z z ?_
 clear hst
 intro w hst
 obtain ⟨t475, ht476, hm⟩ := bind_some hm
 refine wec call21 [p0, U6 (u64.wrap a1.To), I6 (1:Int)] z z ?_
 refine (octet_Writer_Num_ref hst.to1 ht476).mono ?_
 rintro _ w477 ⟨rfl, hst⟩
 refine ⟨_, z, ?_⟩
 replace hst := hst.of1
 refine ws_next (pend' := [(25, U6 (u64.wrap a1.Quota)), (24, I6 a1.Quota), (23, Pt b460 6), (21, U6 a1.Authority), (20, Pt b460 5), (17, F6 a1.Hi), (16, Pt b460 4), (13, F6 a1.Lo), (12, Pt b460 3)]) hst (by kernel_rfl) (pkr z z (fun w hst => by kernel_rfl) (pkr z z (fun w hst => x_load z isAgg3 (hst.bc1 z)) (pkr z z (fun w hst => x_field z underlying46 z sizeOf3 z) (pkr z z (fun w hst => x_load z isAgg25 (hst.bc1 z)) (pkr z z (fun w hst => x_field z underlying46 z sizeOf25 z) (pkr z z (fun w hst => x_load z isAgg44 (hst.bc1 z)) (pkr z z (fun w hst => x_field z underlying46 z sizeOf44 z) (pkr z z (fun w hst => x_load z isAgg44 (hst.bc1 z)) (pkr z z (fun w hst => x_field z underlying46 z sizeOf44 z) pk_nil))))))))) ?_
 refine ws_e1 14 (by kernel_rfl) ?_
 refine nxe [15, 18, 19, 22, 26] (by kernel_rfl) z z ?_
 clear hst
 intro w hst
 obtain ⟨t480, ht481, hm⟩ := bind_some hm
 refine wec call55 [F6 a1.Lo] z z ?_
 refine (number_Rank_ref hst.to0 ht481).mono ?_
 rintro _ w482 ⟨rfl, hst⟩
 refine ⟨_, z, ?_⟩
 replace hst := hst.of0
 refine ws_next (pend' := [(25, U6 (u64.wrap a1.Quota)), (24, I6 a1.Quota), (23, Pt b460 6), (21, U6 a1.Authority), (20, Pt b460 5), (17, F6 a1.Hi), (16, Pt b460 4)]) hst (by kernel_rfl) (pkr z z (fun w hst => by kernel_rfl) (pkr z z (fun w hst => x_load z isAgg3 (hst.bc1 z)) (pkr z z (fun w hst => x_field z underlying46 z sizeOf3 z) (pkr z z (fun w hst => x_load z isAgg25 (hst.bc1 z)) (pkr z z (fun w hst => x_field z underlying46 z sizeOf25 z) (pkr z z (fun w hst => x_load z isAgg44 (hst.bc1 z)) (pkr z z (fun w hst => x_field z underlying46 z sizeOf44 z) pk_nil))))))) ?_
 refine ws_e1 15 (by kernel_rfl) ?_
 refine nxe [18, 19, 22, 26] (by kernel_rfl) z z ?_
 clear hst
 intro w hst
 obtain ⟨t485, ht486, hm⟩ := bind_some hm
 refine wec call21 [p0, U6 t480, I6 (8:Int)] z z ?_
 refine (octet_Writer_Num_ref hst.to1 ht486).mono ?_
 rintro _ w487 ⟨rfl, hst⟩
 refine ⟨_, z, ?_⟩
 replace hst := hst.of1
 refine ws_next (pend' := [(25, U6 (u64.wrap a1.Quota)), (24, I6 a1.Quota), (23, Pt b460 6), (21, U6 a1.Authority), (20, Pt b460 5), (17, F6 a1.Hi), (16, Pt b460 4)]) hst (by kernel_rfl) (pkr z z (fun w hst => by kernel_rfl) (pkr z z (fun w hst => x_load z isAgg3 (hst.bc1 z)) (pkr z z (fun w hst => x_field z underlying46 z sizeOf3 z) (pkr z z (fun w hst => x_load z isAgg25 (hst.bc1 z)) (pkr z z (fun w hst => x_field z underlying46 z sizeOf25 z) (pkr z z (fun w hst => x_load z isAgg44 (hst.bc1 z)) (pkr z z (fun w hst => x_field z underlying46 z sizeOf44 z) pk_nil))))))) ?_
 refine ws_e1 18 (by kernel_rfl) ?_
 refine nxe [19, 22, 26] (by kernel_rfl) z z ?_
 clear hst
 intro w hst
 obtain ⟨t490, ht491, hm⟩ := bind_some hm
 refine wec call55 [F6 a1.Hi] z z ?_
 refine (number_Rank_ref hst.to0 ht491).mono ?_
 rintro _ w492 ⟨rfl, hst⟩
 refine ⟨_, z, ?_⟩
 replace hst := hst.of0
 refine ws_next (pend' := [(25, U6 (u64.wrap a1.Quota)), (24, I6 a1.Quota), (23, Pt b460 6), (21, U6 a1.Authority), (20, Pt b460 5)]) hst (by kernel_rfl) (pkr z z (fun w hst => by kernel_rfl) (pkr z z (fun w hst => x_load z isAgg3 (hst.bc1 z)) (pkr z z (fun w hst => x_field z underlying46 z sizeOf3 z) (pkr z z (fun w hst => x_load z isAgg25 (hst.bc1 z)) (pkr z z (fun w hst => x_field z underlying46 z sizeOf25 z) pk_nil))))) ?_
 refine ws_e1 19 (by kernel_rfl) ?_
 refine nxe [22, 26] (by kernel_rfl) z z ?_
 clear hst
 intro w hst
 obtain ⟨t495, ht496, hm⟩ := bind_some hm
 refine wec call21 [p0, U6 t490, I6 (8:Int)] z z ?_
 refine (octet_Writer_Num_ref hst.to1 ht496).mono ?_
 rintro _ w497 ⟨rfl, hst⟩
 refine ⟨_, z, ?_⟩
 replace hst := hst.of1
 refine ws_next (pend' := [(25, U6 (u64.wrap a1.Quota)), (24, I6 a1.Quota), (23, Pt b460 6), (21, U6 a1.Authority), (20, Pt b460 5)]) hst (by kernel_rfl) (pkr z z (fun w hst => by kernel_rfl) (pkr z z (fun w hst => x_load z isAgg3 (hst.bc1 z)) (pkr z z (fun w hst => x_field z underlying46 z sizeOf3 z) (pkr z z (fun w hst => x_load z isAgg25 (hst.bc1 z)) (pkr z z (fun w hst => x_field z underlying46 z sizeOf25 z) pk_nil))))) ?_
 refine ws_e1 22 (by kernel_rfl) ?_
 refine nxe [26] (by kernel_rfl) z z ?_
 clear hst
 intro w hst
 obtain ⟨t500, ht501, hm⟩ := bind_some hm
 refine wec call21 [p0, U6 a1.Authority, I6 (8:Int)] z z ?_
 refine (octet_Writer_Num_ref hst.to1 ht501).mono ?_
 rintro _ w502 ⟨rfl, hst⟩
 refine ⟨_, z, ?_⟩
 replace hst := hst.of1
 refine ws_next (pend' := [(25, U6 (u64.wrap a1.Quota)), (24, I6 a1.Quota), (23, Pt b460 6)]) hst (by kernel_rfl) (pkr z z (fun w hst => by kernel_rfl) (pkr z z (fun w hst => x_load z isAgg3 (hst.bc1 z)) (pkr z z (fun w hst => x_field z underlying46 z sizeOf3 z) pk_nil))) ?_
 refine ws_e1 26 (by kernel_rfl) ?_
 refine nxe [] (by kernel_rfl) z z ?_
 clear hst
 intro w hst
 obtain ⟨t505, ht506, hm⟩ := bind_some hm
 refine wec call21 [p0, U6 (u64.wrap a1.Quota), I6 (4:Int)] z z ?_
 refine (octet_Writer_Num_ref hst.to1 ht506).mono ?_
 rintro _ w507 ⟨rfl, hst⟩
 refine ⟨_, z, ?_⟩
 replace hst := hst.of1
 refine ws_next (pend' := []) hst (by kernel_rfl) pk_nil ?_
 refine ws_nil ?_
 intro w hst
 obtain rfl := some_inj hm
 refine post_end (vs := []) results58 rvs_nil ?_
 exact ⟨z, hst.keep1⟩
}

theorem command_Encode_ref {w0 w : World} {I : HL} {R : SP} {a0 : api_Command} {r0_0 : Value} {r0_1 : Value} {r0_2 : Value} {r0_3 : Value} {r0_4 : Value} {r0_5 : Value} {r0_6 : Value} {r0_7 : Value} (f0_0 : Rd tyF64 R I r0_0 a0.Hold.Gets) (f0_1 : Rd tyF2 R I r0_1 a0.Hold.Scans) (f0_2 : Rd tyF64 R I r0_2 a0.Hold.Puts) (f0_3 : Rd (tyInt .u8) R I r0_3 a0.Hold.Data) (f0_4 : Rd ty_api_Write R I r0_4 a0.Writes) (f0_5 : Rd ty_api_Got R I r0_5 a0.R.Gots) (f0_6 : Rd (tySl ty_api_Pair) R I r0_6 a0.R.Scans) (f0_7 : Rd ty_api_Part R I r0_7 a0.Parts) (hst : St w0 w I [] R) {r : ((List Int))} (hm : command_Encode a0 = some r) :
  Calls prog 26 #[.agg #[U1 a0.Kind, U6 a0.ID.Session, U6 a0.ID.Seq, U6 a0.Epoch, U6 a0.Index, I6 a0.E, U6 a0.Hold.ID.Session, U6 a0.Hold.ID.Seq, U6 a0.Hold.Epoch, r0_0, r0_1, r0_2, r0_3, r0_4, I6 a0.R.E, U6 a0.R.Epoch, U6 a0.R.Index, r0_5, r0_6, U6 a0.Shards, r0_7, U6 a0.Rule.ID, I6 a0.Rule.From, I6 a0.Rule.To, F6 a0.Rule.Lo, F6 a0.Rule.Hi, U6 a0.Rule.Authority, I6 a0.Rule.Quota, .bool a0.On]] w fun e w' => ∃ (q0_0 : Value), e = .returned (q0_0) ∧ St w0 w' I [ownS (tyInt .u8) q0_0 r] R := by {
 unfold command_Encode at hm
 refine calls_start (args := [.agg #[U1 a0.Kind, U6 a0.ID.Session, U6 a0.ID.Seq, U6 a0.Epoch, U6 a0.Index, I6 a0.E, U6 a0.Hold.ID.Session, U6 a0.Hold.ID.Seq, U6 a0.Hold.Epoch, r0_0, r0_1, r0_2, r0_3, r0_4, I6 a0.R.E, U6 a0.R.Epoch, U6 a0.R.Index, r0_5, r0_6, U6 a0.Shards, r0_7, U6 a0.Rule.ID, I6 a0.Rule.From, I6 a0.Rule.To, F6 a0.Rule.Lo, F6 a0.Rule.Hi, U6 a0.Rule.Authority, I6 a0.Rule.Quota, .bool a0.On]]) func26 z ntmps26 (Nat.le_of_ble_eq_true z) ?_
 refine wp_seq (wrl ?_)
 obtain ⟨b483, w484, ew485, eb486, hst⟩ := hst.box [U1 a0.Kind, U6 a0.ID.Session, U6 a0.ID.Seq, U6 a0.Epoch, U6 a0.Index, I6 a0.E, U6 a0.Hold.ID.Session, U6 a0.Hold.ID.Seq, U6 a0.Hold.Epoch, r0_0, r0_1, r0_2, r0_3, r0_4, I6 a0.R.E, U6 a0.R.Epoch, U6 a0.R.Index, r0_5, r0_6, U6 a0.Shards, r0_7, U6 a0.Rule.ID, I6 a0.Rule.From, I6 a0.Rule.To, F6 a0.Rule.Lo, F6 a0.Rule.Hi, U6 a0.Rule.Authority, I6 a0.Rule.Quota, .bool a0.On] 48
 refine wl_run (v := Pt b483 0) (w' := w484) z z (x_al (by kernel_rfl) ew485 eb486) ?_
 refine wv ((.slice none 0 0)) z z z (wl_nil (tn (wp_seq (wrl (wv (.agg #[Zs]) z z (by kernel_rfl) ?_)))))
 obtain ⟨b490, w491, ew492, eb493, hst⟩ := hst.box [Zs] 74
 refine wl_run (v := Pt b490 0) (w' := w491) z z (x_al (by kernel_rfl) ew492 eb493) ?_
 obtain ⟨b496, w497, ew498, eb499, hst⟩ := hst.box [.pointer none] 72
 refine wl_run (v := Pt b496 0) (w' := w497) z z (x_al (by kernel_rfl) ew498 eb499) ?_
 obtain ⟨w501, hr502, hst⟩ := hst.by_ [Pt b490 0] 0 (Pt b490 0) sizeOf72 z (oC z oN) (by kernel_rfl)
 refine wl_unit z z (x_unit hr502) ?_
 refine wl_nil (tn (wp_seq (wrl (wv (Pt b490 0) z z (x_load z isAgg72 (hst.bc0 z)) (wv (Pt b483 0) z z (x_field z underlying48 z sizeOf5 z) (wv (.int .u8 a0.Kind) z z (x_load z isAgg5 (hst.bc2 z)) (wv (.int .u64 (u64.wrap a0.Kind)) z z (by kernel_rfl) ?_)))))))
 replace hst := hst.own_nil (tyInt .u8)
 replace hst := hst.pull2
 replace hst := at_octet_Writer_close (pv := Pt b490 0) (x := ({ p := [] } : octet_Writer)) hst z
 obtain ⟨t503, ht504, hm⟩ := bind_some hm
 refine wc call21 [Pt b490 0, U6 (u64.wrap a0.Kind), I6 (1:Int)] z z z ?_
 refine (octet_Writer_Num_ref hst.to1 ht504).mono ?_
 rintro _ w505 ⟨rfl, hst⟩
 refine ⟨_, z, ?_⟩
 replace hst := hst.of1
 refine wl_nil (tn (wp_seq (wrl (wv (.func (.func 56) #[] #[Pt b496 0, Pt b483 0]) z z (by kernel_rfl) (wv (.func (.func 56) #[] #[Pt b496 0, Pt b483 0]) z z z (wl_nil (tn (wp_seq (wp_seq (wrl (wv (Pt b483 0) z z (x_field z underlying48 z sizeOf5 z) (wv (.int .u8 a0.Kind) z z (x_load z isAgg5 (hst.bc2 z)) (wl_nil (tn (wp_block (wp_seq (wrl (wv (.bool (a0.Kind == (1:Int))) z z z (wv (.bool (a0.Kind == (1:Int))) z z z (wl_nil (tn ?_)))))))))))))))))))))
 refine bsplit (a0.Kind == (1:Int)) (fun hc508 => ?_) (fun hc508 => ?_)
 {
 replace hm := bif_t hc508 hm
 refine wp_ift (cvb hc508) ?_
 refine wrl (wv (Pt b490 0) z z (x_load z isAgg72 (hst.bc1 z)) (wv (Pt b483 3) z z (x_field z underlying48 z sizeOf25 z) (wv (.int .u64 a0.Epoch) z z (x_load z isAgg25 (hst.bc2 z)) ?_)))
 obtain ⟨t509, ht510, hm⟩ := bind_some hm
 refine wc call21 [Pt b490 0, U6 a0.Epoch, I6 (8:Int)] z z z ?_
 refine (octet_Writer_Num_ref hst.to1 ht510).mono ?_
 rintro _ w511 ⟨rfl, hst⟩
 refine ⟨_, z, ?_⟩
 replace hst := hst.of1
 refine wl_nil (blk_n (tn (wp_seq (wrl (wv (Pt b490 0) z z (x_load z isAgg72 (hst.bc1 z)) ?_)))))
 obtain ⟨t514, ht515, hm⟩ := bind_some hm
 refine wc call27 [Pt b490 0] z z z ?_
 refine (octet_Writer_Done_ref hst.to1 ht515).mono ?_
 rintro _ w516 ⟨v519, rfl, hst⟩
 refine ⟨_, z, ?_⟩
 replace hst := hst.of1
 refine wv (v519) z z z (wl_nil (tn (wp_ret ?_)))
 obtain rfl := some_inj hm
 refine post_ret (vs := [v519]) results26 (rvs_cons (rv_tmp z) rvs_nil) ?_
 exact ⟨v519, z, hst.keep1⟩
}
 {
 replace hm := bif_f hc508 hm
 refine wp_iff (cvb hc508) ?_
 refine wp_seq (wrl (wv (.bool (a0.Kind == (2:Int))) z z z (wv (.bool (a0.Kind == (2:Int))) z z z (wl_nil (tn ?_)))))
 refine bsplit (a0.Kind == (2:Int)) (fun hc521 => ?_) (fun hc521 => ?_)
 {
 replace hm := bif_t hc521 hm
 refine wp_ift (cvb hc521) ?_
 refine wrl (wv (Pt b490 0) z z (x_load z isAgg72 (hst.bc1 z)) (wv (Pt b483 6) z z (x_field z underlying48 z sizeOf36 z) (wv (.agg #[U6 a0.Hold.ID.Session, U6 a0.Hold.ID.Seq, U6 a0.Hold.Epoch, r0_0, r0_1, r0_2, r0_3]) z z (x_loadN (cs := [U6 a0.Hold.ID.Session, U6 a0.Hold.ID.Seq, U6 a0.Hold.Epoch, r0_0, r0_1, r0_2, r0_3]) z isAgg36 sizeOf36 (hst.bcs2 6 z)) ?_)))
 obtain ⟨t522, ht523, hm⟩ := bind_some hm
 refine wc call23 [Pt b490 0, .agg #[U6 a0.Hold.ID.Session, U6 a0.Hold.ID.Seq, U6 a0.Hold.Epoch, r0_0, r0_1, r0_2, r0_3]] z z z ?_
 refine (locks_Lay_ref (f0_0.mono (rd_weak _)) (f0_1.mono (rd_weak _)) (f0_2.mono (rd_weak _)) (f0_3.mono (rd_weak _)) hst.to1 ht523).mono ?_
 rintro _ w524 ⟨rfl, hst⟩
 refine ⟨_, z, ?_⟩
 replace hst := hst.of1
 refine wl_nil (blk_n (tn (wp_seq (wrl (wv (Pt b490 0) z z (x_load z isAgg72 (hst.bc1 z)) ?_)))))
 obtain ⟨t527, ht528, hm⟩ := bind_some hm
 refine wc call27 [Pt b490 0] z z z ?_
 refine (octet_Writer_Done_ref hst.to1 ht528).mono ?_
 rintro _ w529 ⟨v532, rfl, hst⟩
 refine ⟨_, z, ?_⟩
 replace hst := hst.of1
 refine wv (v532) z z z (wl_nil (tn (wp_ret ?_)))
 obtain rfl := some_inj hm
 refine post_ret (vs := [v532]) results26 (rvs_cons (rv_tmp z) rvs_nil) ?_
 exact ⟨v532, z, hst.keep1⟩
}
 {
 replace hm := bif_f hc521 hm
 refine wp_iff (cvb hc521) ?_
 refine wp_seq (wrl (wv (.bool (a0.Kind == (3:Int))) z z z (wv (.bool (a0.Kind == (3:Int))) z z z (wl_nil (tn ?_)))))
 refine bsplit (a0.Kind == (3:Int)) (fun hc534 => ?_) (fun hc534 => ?_)
 {
 replace hm := bif_t hc534 hm
 refine wp_ift (cvb hc534) ?_
 refine wp_seq (wrl (wv (.func (.func 56) #[] #[Pt b496 0, Pt b483 0]) z z z ?_))
 obtain ⟨y547, hq548, hm⟩ := bind_some hm
 refine wl_call z z (x_callv call56 (caps := [Pt b496 0, Pt b483 0]) z (vs := []) z) ?_
 refine Calls.mono (show Calls prog 56 #[Pt b496 0, Pt b483 0] _ (fun e w' => ∃ (z545 : octet_Writer), y547 = z545 ∧ e = .returned (.tuple #[]) ∧ St w0 w' I [cells b483 [U1 a0.Kind, U6 a0.ID.Session, U6 a0.ID.Seq, U6 a0.Epoch, U6 a0.Index, I6 a0.E, U6 a0.Hold.ID.Session, U6 a0.Hold.ID.Seq, U6 a0.Hold.Epoch, r0_0, r0_1, r0_2, r0_3, r0_4, I6 a0.R.E, U6 a0.R.Epoch, U6 a0.R.Index, r0_5, r0_6, U6 a0.Shards, r0_7, U6 a0.Rule.ID, I6 a0.Rule.From, I6 a0.Rule.To, F6 a0.Rule.Lo, F6 a0.Rule.Hi, U6 a0.Rule.Authority, I6 a0.Rule.Quota, .bool a0.On], at_octet_Writer (Pt b490 0) z545, cells b496 [Pt b490 0]] R) from ?_) ?_
 {
 clear hm; have hm := hq548
 refine calls_start (args := [Pt b496 0, Pt b483 0]) func56 z ntmps56 (Nat.le_of_ble_eq_true z) ?_
 refine wp_region_St hst 9 [0, 1, 2, 3, 4, 5, 6, 7, 8] [0, 0, 2, 6, 15, 0, 32, 96, 255] [] z (by kernel_rfl) (by kernel_rfl) Try.mixed (by kernel_rfl) ?_
 refine wsr (Pt b490 0) 0 z z z (by kernel_rfl) (fun w hst => x_load z isAgg72 (hst.bc1 z)) (wsr (Pt b483 1) 1 z z z (by kernel_rfl) (fun w hst => x_field z underlying48 z sizeOf32 z) (wsr (Pt b483 1) 2 z z z (by kernel_rfl) (fun w hst => x_field z underlying32 z sizeOf25 z) (wsr (.int .u64 a0.ID.Session) 3 z z z (by kernel_rfl) (fun w hst => x_load z isAgg25 (hst.bc2 z)) (wsr (Pt b483 1) 5 z z z (by kernel_rfl) (fun w hst => x_field z underlying48 z sizeOf32 z) (wsr (Pt b483 2) 6 z z z (by kernel_rfl) (fun w hst => x_field z underlying32 z sizeOf25 z) (wsr (.int .u64 a0.ID.Seq) 7 z z z (by kernel_rfl) (fun w hst => x_load z isAgg25 (hst.bc2 z)) ?_))))))
 refine ws_e1 4 (by kernel_rfl) ?_
 refine nxe [8] (by kernel_rfl) z z ?_
 clear hst
 intro w hst
 obtain ⟨t535, ht536, hm⟩ := bind_some hm
 refine wec call21 [Pt b490 0, U6 a0.ID.Session, I6 (8:Int)] z z ?_
 refine (octet_Writer_Num_ref hst.to1 ht536).mono ?_
 rintro _ w537 ⟨rfl, hst⟩
 refine ⟨_, z, ?_⟩
 replace hst := hst.of1
 refine ws_next (pend' := [(7, U6 a0.ID.Seq), (6, Pt b483 2), (5, Pt b483 1)]) hst (by kernel_rfl) (pkr z z (fun w hst => x_load z isAgg25 (hst.bc2 z)) (pkr z z (fun w hst => x_field z underlying32 z sizeOf25 z) (pkr z z (fun w hst => x_field z underlying48 z sizeOf32 z) pk_nil))) ?_
 refine ws_e1 8 (by kernel_rfl) ?_
 refine nxe [] (by kernel_rfl) z z ?_
 clear hst
 intro w hst
 obtain ⟨t540, ht541, hm⟩ := bind_some hm
 refine wec call21 [Pt b490 0, U6 a0.ID.Seq, I6 (8:Int)] z z ?_
 refine (octet_Writer_Num_ref hst.to1 ht541).mono ?_
 rintro _ w542 ⟨rfl, hst⟩
 refine ⟨_, z, ?_⟩
 replace hst := hst.of1
 refine ws_next (pend' := []) hst (by kernel_rfl) pk_nil ?_
 refine ws_nil ?_
 intro w hst
 refine post_end (vs := []) results56 rvs_nil ?_
 replace hst := hst.pull1.pull1.pull2.keep3
 obtain rfl := some_inj hm
 exact ⟨t540, z, z, hst⟩
}
 clear hst
 rintro _ w549 ⟨z545, rfl, rfl, hst⟩
 refine ⟨_, z, ?_⟩
 try dsimp only at hm
 refine wl_nil (tn (wp_seq ?_))
 refine wp_region_St hst 11 [0, 1, 2, 3, 4, 5, 6, 7, 8, 9, 10] [0, 0, 2, 6, 15, 0, 32, 127, 0, 256, 1023] [] z (by kernel_rfl) (by kernel_rfl) Try.mixed (by kernel_rfl) ?_
 refine wsr (Pt b490 0) 0 z z z (by kernel_rfl) (fun w hst => x_load z isAgg72 (hst.bc2 z)) (wsr (Pt b483 5) 1 z z z (by kernel_rfl) (fun w hst => x_field z underlying48 z sizeOf37 z) (wsr (.int .i64 a0.E) 2 z z z (by kernel_rfl) (fun w hst => x_load z isAgg37 (hst.bc0 z)) (wsr (.int .u64 (u64.wrap a0.E)) 3 z z z (by kernel_rfl) (fun w hst => by kernel_rfl) (wsr (Pt b483 3) 5 z z z (by kernel_rfl) (fun w hst => x_field z underlying48 z sizeOf25 z) (wsr (.int .u64 a0.Epoch) 6 z z z (by kernel_rfl) (fun w hst => x_load z isAgg25 (hst.bc0 z)) (wsr (Pt b483 4) 8 z z z (by kernel_rfl) (fun w hst => x_field z underlying48 z sizeOf25 z) (wsr (.int .u64 a0.Index) 9 z z z (by kernel_rfl) (fun w hst => x_load z isAgg25 (hst.bc0 z)) ?_)))))))
 refine ws_e1 4 (by kernel_rfl) ?_
 refine nxe [7, 10] (by kernel_rfl) z z ?_
 clear hst
 intro w hst
 replace hst := hst.pull1
 obtain ⟨t550, ht551, hm⟩ := bind_some hm
 refine wec call21 [Pt b490 0, U6 (u64.wrap a0.E), I6 (1:Int)] z z ?_
 refine (octet_Writer_Num_ref hst.to1 ht551).mono ?_
 rintro _ w552 ⟨rfl, hst⟩
 refine ⟨_, z, ?_⟩
 replace hst := hst.of1
 refine ws_next (pend' := [(9, U6 a0.Index), (8, Pt b483 4), (6, U6 a0.Epoch), (5, Pt b483 3)]) hst (by kernel_rfl) (pkr z z (fun w hst => x_load z isAgg25 (hst.bc1 z)) (pkr z z (fun w hst => x_field z underlying48 z sizeOf25 z) (pkr z z (fun w hst => x_load z isAgg25 (hst.bc1 z)) (pkr z z (fun w hst => x_field z underlying48 z sizeOf25 z) pk_nil)))) ?_
 refine ws_e1 7 (by kernel_rfl) ?_
 refine nxe [10] (by kernel_rfl) z z ?_
 clear hst
 intro w hst
 obtain ⟨t555, ht556, hm⟩ := bind_some hm
 refine wec call21 [Pt b490 0, U6 a0.Epoch, I6 (8:Int)] z z ?_
 refine (octet_Writer_Num_ref hst.to1 ht556).mono ?_
 rintro _ w557 ⟨rfl, hst⟩
 refine ⟨_, z, ?_⟩
 replace hst := hst.of1
 refine ws_next (pend' := [(9, U6 a0.Index), (8, Pt b483 4)]) hst (by kernel_rfl) (pkr z z (fun w hst => x_load z isAgg25 (hst.bc1 z)) (pkr z z (fun w hst => x_field z underlying48 z sizeOf25 z) pk_nil)) ?_
 refine ws_e1 10 (by kernel_rfl) ?_
 refine nxe [] (by kernel_rfl) z z ?_
 clear hst
 intro w hst
 obtain ⟨t560, ht561, hm⟩ := bind_some hm
 refine wec call21 [Pt b490 0, U6 a0.Index, I6 (8:Int)] z z ?_
 refine (octet_Writer_Num_ref hst.to1 ht561).mono ?_
 rintro _ w562 ⟨rfl, hst⟩
 refine ⟨_, z, ?_⟩
 replace hst := hst.of1
 refine ws_next (pend' := []) hst (by kernel_rfl) pk_nil ?_
 refine ws_nil ?_
 intro w hst
 refine tn (wrl (wv (Pt b490 0) z z (x_load z isAgg72 (hst.bc2 z)) (wv (Pt b483 13) z z (x_field z underlying48 z sizeOf42 z) (wv (r0_4) z z (x_load z isAgg42 (hst.bc1 z)) ?_))))
 obtain ⟨t565, ht566, hm⟩ := bind_some hm
 refine wc call57 [Pt b490 0, r0_4] z z z ?_
 refine (command_writes_ref (f0_4.mono (rd_weak _)) hst.to1 ht566).mono ?_
 rintro _ w567 ⟨rfl, hst⟩
 refine ⟨_, z, ?_⟩
 replace hst := hst.of1
 refine wl_nil (blk_n (tn (wp_seq (wrl (wv (Pt b490 0) z z (x_load z isAgg72 (hst.bc2 z)) ?_)))))
 obtain ⟨t570, ht571, hm⟩ := bind_some hm
 refine wc call27 [Pt b490 0] z z z ?_
 refine (octet_Writer_Done_ref hst.to1 ht571).mono ?_
 rintro _ w572 ⟨v575, rfl, hst⟩
 refine ⟨_, z, ?_⟩
 replace hst := hst.of1
 refine wv (v575) z z z (wl_nil (tn (wp_ret ?_)))
 obtain rfl := some_inj hm
 refine post_ret (vs := [v575]) results26 (rvs_cons (rv_tmp z) rvs_nil) ?_
 exact ⟨v575, z, hst.keep1⟩
}
 {
 replace hm := bif_f hc534 hm
 refine wp_iff (cvb hc534) ?_
 refine wp_seq (wrl (wv (.bool (a0.Kind == (4:Int))) z z z (wv (.bool (a0.Kind == (4:Int))) z z z (wl_nil (tn ?_)))))
 refine bsplit (a0.Kind == (4:Int)) (fun hc577 => ?_) (fun hc577 => ?_)
 {
 replace hm := bif_t hc577 hm
 refine wp_ift (cvb hc577) ?_
 refine wp_seq (wrl (wv (.func (.func 56) #[] #[Pt b496 0, Pt b483 0]) z z z ?_))
 obtain ⟨y590, hq591, hm⟩ := bind_some hm
 refine wl_call z z (x_callv call56 (caps := [Pt b496 0, Pt b483 0]) z (vs := []) z) ?_
 refine Calls.mono (show Calls prog 56 #[Pt b496 0, Pt b483 0] _ (fun e w' => ∃ (z588 : octet_Writer), y590 = z588 ∧ e = .returned (.tuple #[]) ∧ St w0 w' I [cells b483 [U1 a0.Kind, U6 a0.ID.Session, U6 a0.ID.Seq, U6 a0.Epoch, U6 a0.Index, I6 a0.E, U6 a0.Hold.ID.Session, U6 a0.Hold.ID.Seq, U6 a0.Hold.Epoch, r0_0, r0_1, r0_2, r0_3, r0_4, I6 a0.R.E, U6 a0.R.Epoch, U6 a0.R.Index, r0_5, r0_6, U6 a0.Shards, r0_7, U6 a0.Rule.ID, I6 a0.Rule.From, I6 a0.Rule.To, F6 a0.Rule.Lo, F6 a0.Rule.Hi, U6 a0.Rule.Authority, I6 a0.Rule.Quota, .bool a0.On], at_octet_Writer (Pt b490 0) z588, cells b496 [Pt b490 0]] R) from ?_) ?_
 {
 clear hm; have hm := hq591
 refine calls_start (args := [Pt b496 0, Pt b483 0]) func56 z ntmps56 (Nat.le_of_ble_eq_true z) ?_
 refine wp_region_St hst 9 [0, 1, 2, 3, 4, 5, 6, 7, 8] [0, 0, 2, 6, 15, 0, 32, 96, 255] [] z (by kernel_rfl) (by kernel_rfl) Try.mixed (by kernel_rfl) ?_
 refine wsr (Pt b490 0) 0 z z z (by kernel_rfl) (fun w hst => x_load z isAgg72 (hst.bc1 z)) (wsr (Pt b483 1) 1 z z z (by kernel_rfl) (fun w hst => x_field z underlying48 z sizeOf32 z) (wsr (Pt b483 1) 2 z z z (by kernel_rfl) (fun w hst => x_field z underlying32 z sizeOf25 z) (wsr (.int .u64 a0.ID.Session) 3 z z z (by kernel_rfl) (fun w hst => x_load z isAgg25 (hst.bc2 z)) (wsr (Pt b483 1) 5 z z z (by kernel_rfl) (fun w hst => x_field z underlying48 z sizeOf32 z) (wsr (Pt b483 2) 6 z z z (by kernel_rfl) (fun w hst => x_field z underlying32 z sizeOf25 z) (wsr (.int .u64 a0.ID.Seq) 7 z z z (by kernel_rfl) (fun w hst => x_load z isAgg25 (hst.bc2 z)) ?_))))))
 refine ws_e1 4 (by kernel_rfl) ?_
 refine nxe [8] (by kernel_rfl) z z ?_
 clear hst
 intro w hst
 obtain ⟨t578, ht579, hm⟩ := bind_some hm
 refine wec call21 [Pt b490 0, U6 a0.ID.Session, I6 (8:Int)] z z ?_
 refine (octet_Writer_Num_ref hst.to1 ht579).mono ?_
 rintro _ w580 ⟨rfl, hst⟩
 refine ⟨_, z, ?_⟩
 replace hst := hst.of1
 refine ws_next (pend' := [(7, U6 a0.ID.Seq), (6, Pt b483 2), (5, Pt b483 1)]) hst (by kernel_rfl) (pkr z z (fun w hst => x_load z isAgg25 (hst.bc2 z)) (pkr z z (fun w hst => x_field z underlying32 z sizeOf25 z) (pkr z z (fun w hst => x_field z underlying48 z sizeOf32 z) pk_nil))) ?_
 refine ws_e1 8 (by kernel_rfl) ?_
 refine nxe [] (by kernel_rfl) z z ?_
 clear hst
 intro w hst
 obtain ⟨t583, ht584, hm⟩ := bind_some hm
 refine wec call21 [Pt b490 0, U6 a0.ID.Seq, I6 (8:Int)] z z ?_
 refine (octet_Writer_Num_ref hst.to1 ht584).mono ?_
 rintro _ w585 ⟨rfl, hst⟩
 refine ⟨_, z, ?_⟩
 replace hst := hst.of1
 refine ws_next (pend' := []) hst (by kernel_rfl) pk_nil ?_
 refine ws_nil ?_
 intro w hst
 refine post_end (vs := []) results56 rvs_nil ?_
 replace hst := hst.pull1.pull1.pull2.keep3
 obtain rfl := some_inj hm
 exact ⟨t583, z, z, hst⟩
}
 clear hst
 rintro _ w592 ⟨z588, rfl, rfl, hst⟩
 refine ⟨_, z, ?_⟩
 try dsimp only at hm
 refine wl_nil (tn (wp_seq ?_))
 refine wp_region_St hst 12 [0, 1, 2, 3, 4, 5, 6, 7, 8, 9, 10, 11] [0, 0, 2, 7, 0, 16, 63, 0, 128, 384, 896, 2047] [] z (by kernel_rfl) (by kernel_rfl) Try.mixed (by kernel_rfl) ?_
 refine wsr (Pt b490 0) 0 z z z (by kernel_rfl) (fun w hst => x_load z isAgg72 (hst.bc2 z)) (wsr (Pt b483 3) 1 z z z (by kernel_rfl) (fun w hst => x_field z underlying48 z sizeOf25 z) (wsr (.int .u64 a0.Epoch) 2 z z z (by kernel_rfl) (fun w hst => x_load z isAgg25 (hst.bc0 z)) (wsr (Pt b483 19) 4 z z z (by kernel_rfl) (fun w hst => x_field z underlying48 z sizeOf25 z) (wsr (.int .u64 a0.Shards) 5 z z z (by kernel_rfl) (fun w hst => x_load z isAgg25 (hst.bc0 z)) (wsr (Pt b483 20) 7 z z z (by kernel_rfl) (fun w hst => x_field z underlying48 z sizeOf43 z) (wsr (r0_7) 8 z z z (by kernel_rfl) (fun w hst => x_load z isAgg43 (hst.bc0 z)) (wsr (.int .i64 ((a0.Parts).length : Int)) 9 z z z (by kernel_rfl) (fun w hst => x_len z underlying43 (rd_sliceV f0_7)) (wsr (.int .u64 (u64.wrap ((a0.Parts).length : Int))) 10 z z z (by kernel_rfl) (fun w hst => by kernel_rfl) ?_))))))))
 refine ws_e1 3 (by kernel_rfl) ?_
 refine nxe [6, 11] (by kernel_rfl) z z ?_
 clear hst
 intro w hst
 replace hst := hst.pull1
 obtain ⟨t593, ht594, hm⟩ := bind_some hm
 refine wec call21 [Pt b490 0, U6 a0.Epoch, I6 (8:Int)] z z ?_
 refine (octet_Writer_Num_ref hst.to1 ht594).mono ?_
 rintro _ w595 ⟨rfl, hst⟩
 refine ⟨_, z, ?_⟩
 replace hst := hst.of1
 refine ws_next (pend' := [(10, U6 (u64.wrap ((a0.Parts).length : Int))), (9, I6 ((a0.Parts).length : Int)), (8, r0_7), (7, Pt b483 20), (5, U6 a0.Shards), (4, Pt b483 19)]) hst (by kernel_rfl) (pkr z z (fun w hst => by kernel_rfl) (pkr z z (fun w hst => x_len z underlying43 (rd_sliceV f0_7)) (pkr z z (fun w hst => x_load z isAgg43 (hst.bc1 z)) (pkr z z (fun w hst => x_field z underlying48 z sizeOf43 z) (pkr z z (fun w hst => x_load z isAgg25 (hst.bc1 z)) (pkr z z (fun w hst => x_field z underlying48 z sizeOf25 z) pk_nil)))))) ?_
 refine ws_e1 6 (by kernel_rfl) ?_
 refine nxe [11] (by kernel_rfl) z z ?_
 clear hst
 intro w hst
 obtain ⟨t598, ht599, hm⟩ := bind_some hm
 refine wec call21 [Pt b490 0, U6 a0.Shards, I6 (2:Int)] z z ?_
 refine (octet_Writer_Num_ref hst.to1 ht599).mono ?_
 rintro _ w600 ⟨rfl, hst⟩
 refine ⟨_, z, ?_⟩
 replace hst := hst.of1
 refine ws_next (pend' := [(10, U6 (u64.wrap ((a0.Parts).length : Int))), (9, I6 ((a0.Parts).length : Int)), (8, r0_7), (7, Pt b483 20)]) hst (by kernel_rfl) (pkr z z (fun w hst => by kernel_rfl) (pkr z z (fun w hst => x_len z underlying43 (rd_sliceV f0_7)) (pkr z z (fun w hst => x_load z isAgg43 (hst.bc1 z)) (pkr z z (fun w hst => x_field z underlying48 z sizeOf43 z) pk_nil)))) ?_
 refine ws_e1 11 (by kernel_rfl) ?_
 refine nxe [] (by kernel_rfl) z z ?_
 clear hst
 intro w hst
 obtain ⟨t603, ht604, hm⟩ := bind_some hm
 refine wec call21 [Pt b490 0, U6 (u64.wrap ((a0.Parts).length : Int)), I6 (4:Int)] z z ?_
 refine (octet_Writer_Num_ref hst.to1 ht604).mono ?_
 rintro _ w605 ⟨rfl, hst⟩
 refine ⟨_, z, ?_⟩
 replace hst := hst.of1
 refine ws_next (pend' := []) hst (by kernel_rfl) pk_nil ?_
 refine ws_nil ?_
 intro w hst
 refine tn ?_
 obtain ⟨y713, hm, hx714⟩ := bind_some hm
 refine wp_cut (fun a w => ∃ (z710 : octet_Writer) (σ711 : Nat → Value), (command_Encode_j0 a0) z710 = some r ∧ a = Fr 121 (upd (upd σ711 1 (Pt b483 0)) 3 (Pt b496 0)) ∧ St w0 w I [cells b483 [U1 a0.Kind, U6 a0.ID.Session, U6 a0.ID.Seq, U6 a0.Epoch, U6 a0.Index, I6 a0.E, U6 a0.Hold.ID.Session, U6 a0.Hold.ID.Seq, U6 a0.Hold.Epoch, r0_0, r0_1, r0_2, r0_3, r0_4, I6 a0.R.E, U6 a0.R.Epoch, U6 a0.R.Index, r0_5, r0_6, U6 a0.Shards, r0_7, U6 a0.Rule.ID, I6 a0.Rule.From, I6 a0.Rule.To, F6 a0.Rule.Lo, F6 a0.Rule.Hi, U6 a0.Rule.Authority, I6 a0.Rule.Quota, .bool a0.On], cells b496 [Pt b490 0], at_octet_Writer (Pt b490 0) z710] R) ?_ ?_
 {
 refine wp_seq (wrl (wv (Pt b483 20) z z (x_field z underlying48 z sizeOf43 z) (wv (r0_7) z z (x_load z isAgg43 (hst.bc1 z)) (wv (.int .i64 ((a0.Parts).length : Int)) z z (x_len z underlying43 (rd_sliceV f0_7)) (wv (.int .i64 (0:Int)) z z z (wl_nil (tn (wp_block ?_))))))))
 obtain ⟨n673, hm⟩ := loopO_some hm
 refine wp_loop_n (fun n a w => ∃ (z670 : octet_Writer) (z671 : Int) (σ672 : Nat → Value), loopN (command_Encode_l1 a0) n (z670, z671) = some y713 ∧ a = Fr 121 (upd (upd (upd (upd (upd σ672 1 (Pt b483 0)) 3 (Pt b496 0)) 65 (r0_7)) 66 (.int .i64 ((a0.Parts).length : Int))) 67 (.int .i64 z671)) ∧ St w0 w I [at_octet_Writer (Pt b490 0) z670, cells b483 [U1 a0.Kind, U6 a0.ID.Session, U6 a0.ID.Seq, U6 a0.Epoch, U6 a0.Index, I6 a0.E, U6 a0.Hold.ID.Session, U6 a0.Hold.ID.Seq, U6 a0.Hold.Epoch, r0_0, r0_1, r0_2, r0_3, r0_4, I6 a0.R.E, U6 a0.R.Epoch, U6 a0.R.Index, r0_5, r0_6, U6 a0.Shards, r0_7, U6 a0.Rule.ID, I6 a0.Rule.From, I6 a0.Rule.To, F6 a0.Rule.Lo, F6 a0.Rule.Hi, U6 a0.Rule.Authority, I6 a0.Rule.Quota, .bool a0.On], cells b496 [Pt b490 0]] R) n673 ⟨t603, (0:Int), _, hm, (fu 1 (Pt b483 0) z (fu 3 (Pt b496 0) z (fu 65 r0_7 z (fu 66 (.int .i64 ((a0.Parts).length : Int)) z (fu 67 (.int .i64 (0:Int)) z z))))), hst⟩ ?_
 rintro n679 _ w674 ⟨z670, z671, σ672, hm, rfl, hst⟩
 obtain ⟨n676, y677, rfl, hm, hx678⟩ := loopN_some hm
 dsimp only [command_Encode_l1] at hm
 refine wp_seq (wrl (wv (.bool (decide (z671 < ((a0.Parts).length : Int)))) z z z (wl_nil (tn (wp_seq ?_)))))
 refine bsplit (decide (z671 < ((a0.Parts).length : Int))) (fun hc680 => ?_) (fun hc680 => ?_)
 {
 replace hm := bif_t hc680 hm
 refine wp_ift (cvb hc680) ?_
 refine wp_skip (tn (wp_seq (wp_block (wp_seq (wrl ?_)))))
 obtain ⟨x681, hx682, hm⟩ := bind_some hm
 obtain ⟨h683, h684, hi685⟩ := geto_some hx682
 refine wv (.pointer (some (eAddr r0_7 (z671.toNat * 2 + 0)))) z z (x_index z z underlying43 sizeOf110 (rd_sliceV f0_7) h683 h684) ?_
 obtain ⟨cs686, hr687, hc688⟩ := Rd.getF f0_7 hi685
 obtain ⟨v689, rfl, f690, -⟩ := hr687
 refine wv (.agg #[I6 x681.Shard, v689]) z z (x_loadN (cs := [I6 x681.Shard, v689]) z isAgg110 sizeOf110 (eCells (o := 0) (hc688 (HL.le.refl _) hst) z)) ?_
 obtain ⟨b693, w694, ew695, eb696, hst⟩ := hst.box [Zi, Zs] 110
 refine wl_run (v := Pt b693 0) (w' := w694) z z (x_al (by kernel_rfl) ew695 eb696) ?_
 obtain ⟨w698, hr699, hst⟩ := hst.bx [I6 x681.Shard, v689] sizeOf110 z (oC z (oC (one_of_sliceV (rd_sliceV f690)) oN)) (by kernel_rfl)
 refine wl_unit z z (x_unit hr699) ?_
 refine wl_nil (tn (wp_seq (wrl (wv (Pt b490 0) z z (x_load z isAgg72 (hst.bc3 z)) (wv (Pt b693 0) z z (x_field z underlying110 z sizeOf3 z) (wv (.int .i64 x681.Shard) z z (x_load z isAgg3 (hst.bc0 z)) (wv (.int .u64 (u64.wrap x681.Shard)) z z (by kernel_rfl) ?_)))))))
 replace hst := hst.pull1
 obtain ⟨t700, ht701, hm⟩ := bind_some hm
 refine wc call21 [Pt b490 0, U6 (u64.wrap x681.Shard), I6 (1:Int)] z z z ?_
 refine (octet_Writer_Num_ref hst.to1 ht701).mono ?_
 rintro _ w702 ⟨rfl, hst⟩
 refine ⟨_, z, ?_⟩
 replace hst := hst.of1
 refine wl_nil (tn (wrl (wv (Pt b490 0) z z (x_load z isAgg72 (hst.bc3 z)) (wv (Pt b693 1) z z (x_field z underlying110 z sizeOf42 z) (wv (v689) z z (x_load z isAgg42 (hst.bc1 z)) ?_)))))
 obtain ⟨t705, ht706, hm⟩ := bind_some hm
 refine wc call57 [Pt b490 0, v689] z z z ?_
 refine (command_writes_ref (f690.mono (rd_weak _)) hst.to1 ht706).mono ?_
 rintro _ w707 ⟨rfl, hst⟩
 refine ⟨_, z, ?_⟩
 replace hst := hst.of1
 refine wl_nil (blk_n (tn (wrl (wv (.int .i64 (i64.wrap (z671 + (1:Int)))) z z z (wv (.int .i64 (i64.wrap (z671 + (1:Int)))) z z z (wl_nil (tn ?_)))))))
 replace hst := hst.pull3.pull3.pull2.keep3
 obtain rfl := some_inj hm
 exact ⟨_, Nat.lt_succ_self _, t705, (i64.wrap (z671 + (1:Int))), _, hx678, (fu 1 (Pt b483 0) z (fu 3 (Pt b496 0) z (fu 65 r0_7 z (fu 66 (.int .i64 ((a0.Parts).length : Int)) z (fu 67 (.int .i64 (i64.wrap (z671 + (1:Int)))) z z))))), hst⟩
}
 {
 replace hm := bif_f hc680 hm
 refine wp_iff (cvb hc680) ?_
 refine wp_exit (then_x (then_x ?_))
 replace hm := inr_up hm hx678
 refine blk_x (tn ?_)
 replace hst := hst.pull2.pull2.keep3
 obtain rfl := some_inj hm
 exact ⟨z670, _, hx714, (fu 1 (Pt b483 0) z (fu 3 (Pt b496 0) z z)), hst⟩
}
}
 {
 clear hst
 rintro _ w715 ⟨z710, σ711, hm, rfl, hst⟩
 dsimp only [command_Encode_j0] at hm
 refine wrl (wv (Pt b490 0) z z (x_load z isAgg72 (hst.bc1 z)) (wv (Pt b483 14) z z (x_field z underlying48 z sizeOf41 z) (wv (.agg #[I6 a0.R.E, U6 a0.R.Epoch, U6 a0.R.Index, r0_5, r0_6]) z z (x_loadN (cs := [I6 a0.R.E, U6 a0.R.Epoch, U6 a0.R.Index, r0_5, r0_6]) z isAgg41 sizeOf41 (hst.bcs0 14 z)) ?_)))
 replace hst := hst.pull2
 obtain ⟨t716, ht717, hm⟩ := bind_some hm
 refine wc call24 [Pt b490 0, .agg #[I6 a0.R.E, U6 a0.R.Epoch, U6 a0.R.Index, r0_5, r0_6]] z z z ?_
 refine (command_LayReply_ref (f0_5.mono (rd_weak _)) (f0_6.mono (rd_weak _)) hst.to1 ht717).mono ?_
 rintro _ w718 ⟨rfl, hst⟩
 refine ⟨_, z, ?_⟩
 replace hst := hst.of1
 refine wl_nil (blk_n (tn (wp_seq (wrl (wv (Pt b490 0) z z (x_load z isAgg72 (hst.bc2 z)) ?_)))))
 obtain ⟨t721, ht722, hm⟩ := bind_some hm
 refine wc call27 [Pt b490 0] z z z ?_
 refine (octet_Writer_Done_ref hst.to1 ht722).mono ?_
 rintro _ w723 ⟨v726, rfl, hst⟩
 refine ⟨_, z, ?_⟩
 replace hst := hst.of1
 refine wv (v726) z z z (wl_nil (tn (wp_ret ?_)))
 obtain rfl := some_inj hm
 refine post_ret (vs := [v726]) results26 (rvs_cons (rv_tmp z) rvs_nil) ?_
 exact ⟨v726, z, hst.keep1⟩
}
}
 {
 replace hm := bif_f hc577 hm
 refine wp_iff (cvb hc577) ?_
 refine wp_seq (wrl (wv (.bool (a0.Kind == (5:Int))) z z z (wv (.bool (a0.Kind == (5:Int))) z z z (wl_nil (tn ?_)))))
 refine bsplit (a0.Kind == (5:Int)) (fun hc728 => ?_) (fun hc728 => ?_)
 {
 replace hm := bif_t hc728 hm
 refine wp_ift (cvb hc728) ?_
 refine wrl (wv (.func (.func 56) #[] #[Pt b496 0, Pt b483 0]) z z z ?_)
 obtain ⟨y741, hq742, hm⟩ := bind_some hm
 refine wl_call z z (x_callv call56 (caps := [Pt b496 0, Pt b483 0]) z (vs := []) z) ?_
 refine Calls.mono (show Calls prog 56 #[Pt b496 0, Pt b483 0] _ (fun e w' => ∃ (z739 : octet_Writer), y741 = z739 ∧ e = .returned (.tuple #[]) ∧ St w0 w' I [cells b483 [U1 a0.Kind, U6 a0.ID.Session, U6 a0.ID.Seq, U6 a0.Epoch, U6 a0.Index, I6 a0.E, U6 a0.Hold.ID.Session, U6 a0.Hold.ID.Seq, U6 a0.Hold.Epoch, r0_0, r0_1, r0_2, r0_3, r0_4, I6 a0.R.E, U6 a0.R.Epoch, U6 a0.R.Index, r0_5, r0_6, U6 a0.Shards, r0_7, U6 a0.Rule.ID, I6 a0.Rule.From, I6 a0.Rule.To, F6 a0.Rule.Lo, F6 a0.Rule.Hi, U6 a0.Rule.Authority, I6 a0.Rule.Quota, .bool a0.On], at_octet_Writer (Pt b490 0) z739, cells b496 [Pt b490 0]] R) from ?_) ?_
 {
 clear hm; have hm := hq742
 refine calls_start (args := [Pt b496 0, Pt b483 0]) func56 z ntmps56 (Nat.le_of_ble_eq_true z) ?_
 refine wp_region_St hst 9 [0, 1, 2, 3, 4, 5, 6, 7, 8] [0, 0, 2, 6, 15, 0, 32, 96, 255] [] z (by kernel_rfl) (by kernel_rfl) Try.mixed (by kernel_rfl) ?_
 refine wsr (Pt b490 0) 0 z z z (by kernel_rfl) (fun w hst => x_load z isAgg72 (hst.bc1 z)) (wsr (Pt b483 1) 1 z z z (by kernel_rfl) (fun w hst => x_field z underlying48 z sizeOf32 z) (wsr (Pt b483 1) 2 z z z (by kernel_rfl) (fun w hst => x_field z underlying32 z sizeOf25 z) (wsr (.int .u64 a0.ID.Session) 3 z z z (by kernel_rfl) (fun w hst => x_load z isAgg25 (hst.bc2 z)) (wsr (Pt b483 1) 5 z z z (by kernel_rfl) (fun w hst => x_field z underlying48 z sizeOf32 z) (wsr (Pt b483 2) 6 z z z (by kernel_rfl) (fun w hst => x_field z underlying32 z sizeOf25 z) (wsr (.int .u64 a0.ID.Seq) 7 z z z (by kernel_rfl) (fun w hst => x_load z isAgg25 (hst.bc2 z)) ?_))))))
 refine ws_e1 4 (by kernel_rfl) ?_
 refine nxe [8] (by kernel_rfl) z z ?_
 clear hst
 intro w hst
 obtain ⟨t729, ht730, hm⟩ := bind_some hm
 refine wec call21 [Pt b490 0, U6 a0.ID.Session, I6 (8:Int)] z z ?_
 refine (octet_Writer_Num_ref hst.to1 ht730).mono ?_
 rintro _ w731 ⟨rfl, hst⟩
 refine ⟨_, z, ?_⟩
 replace hst := hst.of1
 refine ws_next (pend' := [(7, U6 a0.ID.Seq), (6, Pt b483 2), (5, Pt b483 1)]) hst (by kernel_rfl) (pkr z z (fun w hst => x_load z isAgg25 (hst.bc2 z)) (pkr z z (fun w hst => x_field z underlying32 z sizeOf25 z) (pkr z z (fun w hst => x_field z underlying48 z sizeOf32 z) pk_nil))) ?_
 refine ws_e1 8 (by kernel_rfl) ?_
 refine nxe [] (by kernel_rfl) z z ?_
 clear hst
 intro w hst
 obtain ⟨t734, ht735, hm⟩ := bind_some hm
 refine wec call21 [Pt b490 0, U6 a0.ID.Seq, I6 (8:Int)] z z ?_
 refine (octet_Writer_Num_ref hst.to1 ht735).mono ?_
 rintro _ w736 ⟨rfl, hst⟩
 refine ⟨_, z, ?_⟩
 replace hst := hst.of1
 refine ws_next (pend' := []) hst (by kernel_rfl) pk_nil ?_
 refine ws_nil ?_
 intro w hst
 refine post_end (vs := []) results56 rvs_nil ?_
 replace hst := hst.pull1.pull1.pull2.keep3
 obtain rfl := some_inj hm
 exact ⟨t734, z, z, hst⟩
}
 clear hst
 rintro _ w743 ⟨z739, rfl, rfl, hst⟩
 refine ⟨_, z, ?_⟩
 try dsimp only at hm
 refine wl_nil (blk_n (tn (wp_seq (wrl (wv (Pt b490 0) z z (x_load z isAgg72 (hst.bc2 z)) ?_)))))
 replace hst := hst.pull1
 obtain ⟨t744, ht745, hm⟩ := bind_some hm
 refine wc call27 [Pt b490 0] z z z ?_
 refine (octet_Writer_Done_ref hst.to1 ht745).mono ?_
 rintro _ w746 ⟨v749, rfl, hst⟩
 refine ⟨_, z, ?_⟩
 replace hst := hst.of1
 refine wv (v749) z z z (wl_nil (tn (wp_ret ?_)))
 obtain rfl := some_inj hm
 refine post_ret (vs := [v749]) results26 (rvs_cons (rv_tmp z) rvs_nil) ?_
 exact ⟨v749, z, hst.keep1⟩
}
 {
 replace hm := bif_f hc728 hm
 refine wp_iff (cvb hc728) ?_
 refine wp_seq (wrl (wv (.bool (a0.Kind == (6:Int))) z z z (wv (.bool (a0.Kind == (6:Int))) z z z (wl_nil (tn ?_)))))
 refine bsplit (a0.Kind == (6:Int)) (fun hc751 => ?_) (fun hc751 => ?_)
 {
 replace hm := bif_t hc751 hm
 refine wp_ift (cvb hc751) ?_
 refine wp_seq (wrl (wv (Pt b490 0) z z (x_load z isAgg72 (hst.bc1 z)) (wv (Pt b483 21) z z (x_field z underlying48 z sizeOf46 z) (wv (.agg #[U6 a0.Rule.ID, I6 a0.Rule.From, I6 a0.Rule.To, F6 a0.Rule.Lo, F6 a0.Rule.Hi, U6 a0.Rule.Authority, I6 a0.Rule.Quota]) z z (x_loadN (cs := [U6 a0.Rule.ID, I6 a0.Rule.From, I6 a0.Rule.To, F6 a0.Rule.Lo, F6 a0.Rule.Hi, U6 a0.Rule.Authority, I6 a0.Rule.Quota]) z isAgg46 sizeOf46 (hst.bcs2 21 z)) ?_))))
 obtain ⟨t752, ht753, hm⟩ := bind_some hm
 refine wc call58 [Pt b490 0, .agg #[U6 a0.Rule.ID, I6 a0.Rule.From, I6 a0.Rule.To, F6 a0.Rule.Lo, F6 a0.Rule.Hi, U6 a0.Rule.Authority, I6 a0.Rule.Quota]] z z z ?_
 refine (command_layRule_ref hst.to1 ht753).mono ?_
 rintro _ w754 ⟨rfl, hst⟩
 refine ⟨_, z, ?_⟩
 replace hst := hst.of1
 refine wl_nil (tn (wrl (wv (Pt b490 0) z z (x_load z isAgg72 (hst.bc1 z)) (wv (Pt b483 28) z z (x_field z underlying48 z sizeOf4 z) (wv (.bool a0.On) z z (x_load z isAgg4 (hst.bc2 z)) ?_)))))
 obtain ⟨t757, ht758, hm⟩ := bind_some hm
 refine wc call54 [Pt b490 0, .bool a0.On] z z z ?_
 refine (octet_Writer_Flag_ref hst.to1 ht758).mono ?_
 rintro _ w759 ⟨rfl, hst⟩
 refine ⟨_, z, ?_⟩
 replace hst := hst.of1
 refine wl_nil (blk_n (tn (wp_seq (wrl (wv (Pt b490 0) z z (x_load z isAgg72 (hst.bc1 z)) ?_)))))
 obtain ⟨t762, ht763, hm⟩ := bind_some hm
 refine wc call27 [Pt b490 0] z z z ?_
 refine (octet_Writer_Done_ref hst.to1 ht763).mono ?_
 rintro _ w764 ⟨v767, rfl, hst⟩
 refine ⟨_, z, ?_⟩
 replace hst := hst.of1
 refine wv (v767) z z z (wl_nil (tn (wp_ret ?_)))
 obtain rfl := some_inj hm
 refine post_ret (vs := [v767]) results26 (rvs_cons (rv_tmp z) rvs_nil) ?_
 exact ⟨v767, z, hst.keep1⟩
}
 {
 replace hm := bif_f hc751 hm
 refine wp_iff (cvb hc751) ?_
 refine wp_seq (wrl (wv (.bool (a0.Kind == (7:Int))) z z z (wv (.bool (a0.Kind == (7:Int))) z z z (wl_nil (tn ?_)))))
 refine bsplit (a0.Kind == (7:Int)) (fun hc769 => ?_) (fun hc769 => ?_)
 {
 replace hm := bif_t hc769 hm
 refine wp_ift (cvb hc769) ?_
 refine wp_seq (wrl (wv (.func (.func 56) #[] #[Pt b496 0, Pt b483 0]) z z z ?_))
 obtain ⟨y782, hq783, hm⟩ := bind_some hm
 refine wl_call z z (x_callv call56 (caps := [Pt b496 0, Pt b483 0]) z (vs := []) z) ?_
 refine Calls.mono (show Calls prog 56 #[Pt b496 0, Pt b483 0] _ (fun e w' => ∃ (z780 : octet_Writer), y782 = z780 ∧ e = .returned (.tuple #[]) ∧ St w0 w' I [cells b483 [U1 a0.Kind, U6 a0.ID.Session, U6 a0.ID.Seq, U6 a0.Epoch, U6 a0.Index, I6 a0.E, U6 a0.Hold.ID.Session, U6 a0.Hold.ID.Seq, U6 a0.Hold.Epoch, r0_0, r0_1, r0_2, r0_3, r0_4, I6 a0.R.E, U6 a0.R.Epoch, U6 a0.R.Index, r0_5, r0_6, U6 a0.Shards, r0_7, U6 a0.Rule.ID, I6 a0.Rule.From, I6 a0.Rule.To, F6 a0.Rule.Lo, F6 a0.Rule.Hi, U6 a0.Rule.Authority, I6 a0.Rule.Quota, .bool a0.On], at_octet_Writer (Pt b490 0) z780, cells b496 [Pt b490 0]] R) from ?_) ?_
 {
 clear hm; have hm := hq783
 refine calls_start (args := [Pt b496 0, Pt b483 0]) func56 z ntmps56 (Nat.le_of_ble_eq_true z) ?_
 refine wp_region_St hst 9 [0, 1, 2, 3, 4, 5, 6, 7, 8] [0, 0, 2, 6, 15, 0, 32, 96, 255] [] z (by kernel_rfl) (by kernel_rfl) Try.mixed (by kernel_rfl) ?_
 refine wsr (Pt b490 0) 0 z z z (by kernel_rfl) (fun w hst => x_load z isAgg72 (hst.bc1 z)) (wsr (Pt b483 1) 1 z z z (by kernel_rfl) (fun w hst => x_field z underlying48 z sizeOf32 z) (wsr (Pt b483 1) 2 z z z (by kernel_rfl) (fun w hst => x_field z underlying32 z sizeOf25 z) (wsr (.int .u64 a0.ID.Session) 3 z z z (by kernel_rfl) (fun w hst => x_load z isAgg25 (hst.bc2 z)) (wsr (Pt b483 1) 5 z z z (by kernel_rfl) (fun w hst => x_field z underlying48 z sizeOf32 z) (wsr (Pt b483 2) 6 z z z (by kernel_rfl) (fun w hst => x_field z underlying32 z sizeOf25 z) (wsr (.int .u64 a0.ID.Seq) 7 z z z (by kernel_rfl) (fun w hst => x_load z isAgg25 (hst.bc2 z)) ?_))))))
 refine ws_e1 4 (by kernel_rfl) ?_
 refine nxe [8] (by kernel_rfl) z z ?_
 clear hst
 intro w hst
 obtain ⟨t770, ht771, hm⟩ := bind_some hm
 refine wec call21 [Pt b490 0, U6 a0.ID.Session, I6 (8:Int)] z z ?_
 refine (octet_Writer_Num_ref hst.to1 ht771).mono ?_
 rintro _ w772 ⟨rfl, hst⟩
 refine ⟨_, z, ?_⟩
 replace hst := hst.of1
 refine ws_next (pend' := [(7, U6 a0.ID.Seq), (6, Pt b483 2), (5, Pt b483 1)]) hst (by kernel_rfl) (pkr z z (fun w hst => x_load z isAgg25 (hst.bc2 z)) (pkr z z (fun w hst => x_field z underlying32 z sizeOf25 z) (pkr z z (fun w hst => x_field z underlying48 z sizeOf32 z) pk_nil))) ?_
 refine ws_e1 8 (by kernel_rfl) ?_
 refine nxe [] (by kernel_rfl) z z ?_
 clear hst
 intro w hst
 obtain ⟨t775, ht776, hm⟩ := bind_some hm
 refine wec call21 [Pt b490 0, U6 a0.ID.Seq, I6 (8:Int)] z z ?_
 refine (octet_Writer_Num_ref hst.to1 ht776).mono ?_
 rintro _ w777 ⟨rfl, hst⟩
 refine ⟨_, z, ?_⟩
 replace hst := hst.of1
 refine ws_next (pend' := []) hst (by kernel_rfl) pk_nil ?_
 refine ws_nil ?_
 intro w hst
 refine post_end (vs := []) results56 rvs_nil ?_
 replace hst := hst.pull1.pull1.pull2.keep3
 obtain rfl := some_inj hm
 exact ⟨t775, z, z, hst⟩
}
 clear hst
 rintro _ w784 ⟨z780, rfl, rfl, hst⟩
 refine ⟨_, z, ?_⟩
 try dsimp only at hm
 refine wl_nil (tn (wp_seq (wrl (wv (Pt b490 0) z z (x_load z isAgg72 (hst.bc2 z)) (wv (Pt b483 3) z z (x_field z underlying48 z sizeOf25 z) (wv (.int .u64 a0.Epoch) z z (x_load z isAgg25 (hst.bc0 z)) ?_))))))
 replace hst := hst.pull1
 obtain ⟨t785, ht786, hm⟩ := bind_some hm
 refine wc call21 [Pt b490 0, U6 a0.Epoch, I6 (8:Int)] z z z ?_
 refine (octet_Writer_Num_ref hst.to1 ht786).mono ?_
 rintro _ w787 ⟨rfl, hst⟩
 refine ⟨_, z, ?_⟩
 replace hst := hst.of1
 refine wl_nil (tn (wp_seq (wrl (wv (Pt b490 0) z z (x_load z isAgg72 (hst.bc2 z)) (wv (Pt b483 21) z z (x_field z underlying48 z sizeOf46 z) (wv (.agg #[U6 a0.Rule.ID, I6 a0.Rule.From, I6 a0.Rule.To, F6 a0.Rule.Lo, F6 a0.Rule.Hi, U6 a0.Rule.Authority, I6 a0.Rule.Quota]) z z (x_loadN (cs := [U6 a0.Rule.ID, I6 a0.Rule.From, I6 a0.Rule.To, F6 a0.Rule.Lo, F6 a0.Rule.Hi, U6 a0.Rule.Authority, I6 a0.Rule.Quota]) z isAgg46 sizeOf46 (hst.bcs1 21 z)) ?_))))))
 obtain ⟨t790, ht791, hm⟩ := bind_some hm
 refine wc call58 [Pt b490 0, .agg #[U6 a0.Rule.ID, I6 a0.Rule.From, I6 a0.Rule.To, F6 a0.Rule.Lo, F6 a0.Rule.Hi, U6 a0.Rule.Authority, I6 a0.Rule.Quota]] z z z ?_
 refine (command_layRule_ref hst.to1 ht791).mono ?_
 rintro _ w792 ⟨rfl, hst⟩
 refine ⟨_, z, ?_⟩
 replace hst := hst.of1
 refine wl_nil (tn (wp_seq (wrl (wv (Pt b490 0) z z (x_load z isAgg72 (hst.bc2 z)) (wv (Pt b483 13) z z (x_field z underlying48 z sizeOf42 z) (wv (r0_4) z z (x_load z isAgg42 (hst.bc1 z)) ?_))))))
 obtain ⟨t795, ht796, hm⟩ := bind_some hm
 refine wc call57 [Pt b490 0, r0_4] z z z ?_
 refine (command_writes_ref (f0_4.mono (rd_weak _)) hst.to1 ht796).mono ?_
 rintro _ w797 ⟨rfl, hst⟩
 refine ⟨_, z, ?_⟩
 replace hst := hst.of1
 refine wl_nil (tn (wrl (wv (Pt b490 0) z z (x_load z isAgg72 (hst.bc2 z)) (wv (Pt b483 14) z z (x_field z underlying48 z sizeOf41 z) (wv (.agg #[I6 a0.R.E, U6 a0.R.Epoch, U6 a0.R.Index, r0_5, r0_6]) z z (x_loadN (cs := [I6 a0.R.E, U6 a0.R.Epoch, U6 a0.R.Index, r0_5, r0_6]) z isAgg41 sizeOf41 (hst.bcs1 14 z)) ?_)))))
 obtain ⟨t800, ht801, hm⟩ := bind_some hm
 refine wc call24 [Pt b490 0, .agg #[I6 a0.R.E, U6 a0.R.Epoch, U6 a0.R.Index, r0_5, r0_6]] z z z ?_
 refine (command_LayReply_ref (f0_5.mono (rd_weak _)) (f0_6.mono (rd_weak _)) hst.to1 ht801).mono ?_
 rintro _ w802 ⟨rfl, hst⟩
 refine ⟨_, z, ?_⟩
 replace hst := hst.of1
 refine wl_nil (blk_n (tn (wp_seq (wrl (wv (Pt b490 0) z z (x_load z isAgg72 (hst.bc2 z)) ?_)))))
 obtain ⟨t805, ht806, hm⟩ := bind_some hm
 refine wc call27 [Pt b490 0] z z z ?_
 refine (octet_Writer_Done_ref hst.to1 ht806).mono ?_
 rintro _ w807 ⟨v810, rfl, hst⟩
 refine ⟨_, z, ?_⟩
 replace hst := hst.of1
 refine wv (v810) z z z (wl_nil (tn (wp_ret ?_)))
 obtain rfl := some_inj hm
 refine post_ret (vs := [v810]) results26 (rvs_cons (rv_tmp z) rvs_nil) ?_
 exact ⟨v810, z, hst.keep1⟩
}
 {
 replace hm := bif_f hc769 hm
 refine wp_iff (cvb hc769) ?_
 refine wp_skip (blk_n (tn (wp_seq (wrl ?_))))
 refine wv (Pt b490 0) z z (x_load z isAgg72 (hst.bc1 z)) ?_
 obtain ⟨t812, ht813, hm⟩ := bind_some hm
 refine wc call27 [Pt b490 0] z z z ?_
 refine (octet_Writer_Done_ref hst.to1 ht813).mono ?_
 rintro _ w814 ⟨v817, rfl, hst⟩
 refine ⟨_, z, ?_⟩
 replace hst := hst.of1
 refine wv (v817) z z z (wl_nil (tn (wp_ret ?_)))
 obtain rfl := some_inj hm
 refine post_ret (vs := [v817]) results26 (rvs_cons (rv_tmp z) rvs_nil) ?_
 exact ⟨v817, z, hst.keep1⟩
}
}
}
}
}
}
}
}

theorem mail_Encode_ref {w0 w : World} {I : HL} {R : SP} {a0 : api_Mail} {r0_0 : Value} {r0_1 : Value} {r0_2 : Value} {r0_3 : Value} {r0_4 : Value} {r0_5 : Value} {r0_6 : Value} {r0_7 : Value} {r0_8 : Value} {r0_9 : Value} {r0_10 : Value} {r0_11 : Value} {r0_12 : Value} {r0_13 : Value} {r0_14 : Value} {r0_15 : Value} (f0_0 : Rd ty_api_Entry R I r0_0 a0.M.Entries) (f0_1 : Rd (tyInt .u8) R I r0_1 a0.M.S.Data) (f0_2 : Rd tyF64 R I r0_2 a0.H.Gets) (f0_3 : Rd tyF2 R I r0_3 a0.H.Scans) (f0_4 : Rd tyF64 R I r0_4 a0.H.Puts) (f0_5 : Rd (tyInt .u8) R I r0_5 a0.H.Data) (f0_6 : Rd ty_api_Got R I r0_6 a0.R.Gots) (f0_7 : Rd (tySl ty_api_Pair) R I r0_7 a0.R.Scans) (f0_8 : Rd tyF64 R I r0_8 a0.C.Hold.Gets) (f0_9 : Rd tyF2 R I r0_9 a0.C.Hold.Scans) (f0_10 : Rd tyF64 R I r0_10 a0.C.Hold.Puts) (f0_11 : Rd (tyInt .u8) R I r0_11 a0.C.Hold.Data) (f0_12 : Rd ty_api_Write R I r0_12 a0.C.Writes) (f0_13 : Rd ty_api_Got R I r0_13 a0.C.R.Gots) (f0_14 : Rd (tySl ty_api_Pair) R I r0_14 a0.C.R.Scans) (f0_15 : Rd ty_api_Part R I r0_15 a0.C.Parts) (hst : St w0 w I [] R) {r : ((List Int))} (hm : mail_Encode a0 = some r) :
  Calls prog 8 #[.agg #[U1 a0.Kind, U1 a0.M.Kind, I6 a0.M.From, I6 a0.M.To, U6 a0.M.Term, U6 a0.M.Index, U6 a0.M.LogTerm, U6 a0.M.Commit, .bool a0.M.OK, r0_0, U6 a0.M.S.Index, U6 a0.M.S.Term, U6 a0.M.S.Voters, r0_1, U6 a0.H.ID.Session, U6 a0.H.ID.Seq, U6 a0.H.Epoch, r0_2, r0_3, r0_4, r0_5, U6 a0.ID.Session, U6 a0.ID.Seq, I6 a0.R.E, U6 a0.R.Epoch, U6 a0.R.Index, r0_6, r0_7, U1 a0.C.Kind, U6 a0.C.ID.Session, U6 a0.C.ID.Seq, U6 a0.C.Epoch, U6 a0.C.Index, I6 a0.C.E, U6 a0.C.Hold.ID.Session, U6 a0.C.Hold.ID.Seq, U6 a0.C.Hold.Epoch, r0_8, r0_9, r0_10, r0_11, r0_12, I6 a0.C.R.E, U6 a0.C.R.Epoch, U6 a0.C.R.Index, r0_13, r0_14, U6 a0.C.Shards, r0_15, U6 a0.C.Rule.ID, I6 a0.C.Rule.From, I6 a0.C.Rule.To, F6 a0.C.Rule.Lo, F6 a0.C.Rule.Hi, U6 a0.C.Rule.Authority, I6 a0.C.Rule.Quota, .bool a0.C.On]] w fun e w' => ∃ (q0_0 : Value), e = .returned (q0_0) ∧ St w0 w' I [ownS (tyInt .u8) q0_0 r] R := by {
 unfold mail_Encode at hm
 refine calls_start (args := [.agg #[U1 a0.Kind, U1 a0.M.Kind, I6 a0.M.From, I6 a0.M.To, U6 a0.M.Term, U6 a0.M.Index, U6 a0.M.LogTerm, U6 a0.M.Commit, .bool a0.M.OK, r0_0, U6 a0.M.S.Index, U6 a0.M.S.Term, U6 a0.M.S.Voters, r0_1, U6 a0.H.ID.Session, U6 a0.H.ID.Seq, U6 a0.H.Epoch, r0_2, r0_3, r0_4, r0_5, U6 a0.ID.Session, U6 a0.ID.Seq, I6 a0.R.E, U6 a0.R.Epoch, U6 a0.R.Index, r0_6, r0_7, U1 a0.C.Kind, U6 a0.C.ID.Session, U6 a0.C.ID.Seq, U6 a0.C.Epoch, U6 a0.C.Index, I6 a0.C.E, U6 a0.C.Hold.ID.Session, U6 a0.C.Hold.ID.Seq, U6 a0.C.Hold.Epoch, r0_8, r0_9, r0_10, r0_11, r0_12, I6 a0.C.R.E, U6 a0.C.R.Epoch, U6 a0.C.R.Index, r0_13, r0_14, U6 a0.C.Shards, r0_15, U6 a0.C.Rule.ID, I6 a0.C.Rule.From, I6 a0.C.Rule.To, F6 a0.C.Rule.Lo, F6 a0.C.Rule.Hi, U6 a0.C.Rule.Authority, I6 a0.C.Rule.Quota, .bool a0.C.On]]) func8 z ntmps8 (Nat.le_of_ble_eq_true z) ?_
 refine wp_seq (wrl ?_)
 obtain ⟨b193, w194, ew195, eb196, hst⟩ := hst.box [U1 a0.Kind, U1 a0.M.Kind, I6 a0.M.From, I6 a0.M.To, U6 a0.M.Term, U6 a0.M.Index, U6 a0.M.LogTerm, U6 a0.M.Commit, .bool a0.M.OK, r0_0, U6 a0.M.S.Index, U6 a0.M.S.Term, U6 a0.M.S.Voters, r0_1, U6 a0.H.ID.Session, U6 a0.H.ID.Seq, U6 a0.H.Epoch, r0_2, r0_3, r0_4, r0_5, U6 a0.ID.Session, U6 a0.ID.Seq, I6 a0.R.E, U6 a0.R.Epoch, U6 a0.R.Index, r0_6, r0_7, U1 a0.C.Kind, U6 a0.C.ID.Session, U6 a0.C.ID.Seq, U6 a0.C.Epoch, U6 a0.C.Index, I6 a0.C.E, U6 a0.C.Hold.ID.Session, U6 a0.C.Hold.ID.Seq, U6 a0.C.Hold.Epoch, r0_8, r0_9, r0_10, r0_11, r0_12, I6 a0.C.R.E, U6 a0.C.R.Epoch, U6 a0.C.R.Index, r0_13, r0_14, U6 a0.C.Shards, r0_15, U6 a0.C.Rule.ID, I6 a0.C.Rule.From, I6 a0.C.Rule.To, F6 a0.C.Rule.Lo, F6 a0.C.Rule.Hi, U6 a0.C.Rule.Authority, I6 a0.C.Rule.Quota, .bool a0.C.On] 50
 refine wl_run (v := Pt b193 0) (w' := w194) z z (x_al (by kernel_rfl) ew195 eb196) ?_
 refine wv ((.slice none 0 0)) z z z (wl_nil (tn (wp_seq (wrl (wv (.agg #[Zs]) z z (by kernel_rfl) ?_)))))
 obtain ⟨b200, w201, ew202, eb203, hst⟩ := hst.box [Zs] 74
 refine wl_run (v := Pt b200 0) (w' := w201) z z (x_al (by kernel_rfl) ew202 eb203) ?_
 refine wv (Pt b200 0) z z z (wl_nil (tn (wp_seq (wrl (wv (Pt b200 0) z z z (wv (Pt b193 0) z z (x_field z underlying50 z sizeOf5 z) (wv (.int .u8 a0.Kind) z z (x_load z isAgg5 (hst.bc1 z)) (wv (.int .u64 (u64.wrap a0.Kind)) z z (by kernel_rfl) ?_))))))))
 replace hst := hst.own_nil (tyInt .u8)
 replace hst := hst.pull1
 replace hst := at_octet_Writer_close (pv := Pt b200 0) (x := ({ p := [] } : octet_Writer)) hst z
 obtain ⟨t206, ht207, hm⟩ := bind_some hm
 refine wc call21 [Pt b200 0, U6 (u64.wrap a0.Kind), I6 (1:Int)] z z z ?_
 refine (octet_Writer_Num_ref hst.to1 ht207).mono ?_
 rintro _ w208 ⟨rfl, hst⟩
 refine ⟨_, z, ?_⟩
 replace hst := hst.of1
 refine wl_nil (tn (wp_seq (wp_seq (wrl (wv (Pt b193 0) z z (x_field z underlying50 z sizeOf5 z) (wv (.int .u8 a0.Kind) z z (x_load z isAgg5 (hst.bc1 z)) (wl_nil (tn (wp_block (wp_seq (wrl (wv (.bool (a0.Kind == (1:Int))) z z z (wv (.bool (a0.Kind == (1:Int))) z z z (wl_nil (tn ?_)))))))))))))))
 refine bsplit (a0.Kind == (1:Int)) (fun hc211 => ?_) (fun hc211 => ?_)
 {
 replace hm := bif_t hc211 hm
 refine wp_ift (cvb hc211) ?_
 refine wrl (wv (Pt b200 0) z z z (wv (Pt b193 1) z z (x_field z underlying50 z sizeOf30 z) (wv (.agg #[U1 a0.M.Kind, I6 a0.M.From, I6 a0.M.To, U6 a0.M.Term, U6 a0.M.Index, U6 a0.M.LogTerm, U6 a0.M.Commit, .bool a0.M.OK, r0_0, U6 a0.M.S.Index, U6 a0.M.S.Term, U6 a0.M.S.Voters, r0_1]) z z (x_loadN (cs := [U1 a0.M.Kind, I6 a0.M.From, I6 a0.M.To, U6 a0.M.Term, U6 a0.M.Index, U6 a0.M.LogTerm, U6 a0.M.Commit, .bool a0.M.OK, r0_0, U6 a0.M.S.Index, U6 a0.M.S.Term, U6 a0.M.S.Voters, r0_1]) z isAgg30 sizeOf30 (hst.bcs1 1 z)) ?_)))
 obtain ⟨t212, ht213, hm⟩ := bind_some hm
 refine wc call22 [Pt b200 0, .agg #[U1 a0.M.Kind, I6 a0.M.From, I6 a0.M.To, U6 a0.M.Term, U6 a0.M.Index, U6 a0.M.LogTerm, U6 a0.M.Commit, .bool a0.M.OK, r0_0, U6 a0.M.S.Index, U6 a0.M.S.Term, U6 a0.M.S.Voters, r0_1]] z z z ?_
 refine (mail_message_ref (f0_0.mono (rd_weak _)) (f0_1.mono (rd_weak _)) hst.to1 ht213).mono ?_
 rintro _ w214 ⟨rfl, hst⟩
 refine ⟨_, z, ?_⟩
 replace hst := hst.of1
 refine wl_nil (blk_n (tn (wp_seq (wrl (wv (Pt b200 0) z z z ?_)))))
 obtain ⟨t217, ht218, hm⟩ := bind_some hm
 refine wc call27 [Pt b200 0] z z z ?_
 refine (octet_Writer_Done_ref hst.to1 ht218).mono ?_
 rintro _ w219 ⟨v222, rfl, hst⟩
 refine ⟨_, z, ?_⟩
 replace hst := hst.of1
 refine wv (v222) z z z (wl_nil (tn (wp_ret ?_)))
 obtain rfl := some_inj hm
 refine post_ret (vs := [v222]) results8 (rvs_cons (rv_tmp z) rvs_nil) ?_
 exact ⟨v222, z, hst.keep1⟩
}
 {
 replace hm := bif_f hc211 hm
 refine wp_iff (cvb hc211) ?_
 obtain ⟨y228, hm, hx229⟩ := bind_some hm
 refine wp_cut (fun a w => ∃ (z225 : Bool) (σ226 : Nat → Value), (mail_Encode_j0 t206 a0) z225 = some r ∧ a = Fr 56 (upd (upd (upd (upd σ226 1 (Pt b193 0)) 3 (Pt b200 0)) 12 (.int .u8 a0.Kind)) 19 (.bool z225)) ∧ St w0 w I [cells b193 [U1 a0.Kind, U1 a0.M.Kind, I6 a0.M.From, I6 a0.M.To, U6 a0.M.Term, U6 a0.M.Index, U6 a0.M.LogTerm, U6 a0.M.Commit, .bool a0.M.OK, r0_0, U6 a0.M.S.Index, U6 a0.M.S.Term, U6 a0.M.S.Voters, r0_1, U6 a0.H.ID.Session, U6 a0.H.ID.Seq, U6 a0.H.Epoch, r0_2, r0_3, r0_4, r0_5, U6 a0.ID.Session, U6 a0.ID.Seq, I6 a0.R.E, U6 a0.R.Epoch, U6 a0.R.Index, r0_6, r0_7, U1 a0.C.Kind, U6 a0.C.ID.Session, U6 a0.C.ID.Seq, U6 a0.C.Epoch, U6 a0.C.Index, I6 a0.C.E, U6 a0.C.Hold.ID.Session, U6 a0.C.Hold.ID.Seq, U6 a0.C.Hold.Epoch, r0_8, r0_9, r0_10, r0_11, r0_12, I6 a0.C.R.E, U6 a0.C.R.Epoch, U6 a0.C.R.Index, r0_13, r0_14, U6 a0.C.Shards, r0_15, U6 a0.C.Rule.ID, I6 a0.C.Rule.From, I6 a0.C.Rule.To, F6 a0.C.Rule.Lo, F6 a0.C.Rule.Hi, U6 a0.C.Rule.Authority, I6 a0.C.Rule.Quota, .bool a0.C.On], at_octet_Writer (Pt b200 0) t206] R) ?_ ?_
 {
 refine wp_seq (wrl (wv (.bool (a0.Kind == (2:Int))) z z z (wv (.bool (a0.Kind == (2:Int))) z z z (wl_nil (tn ?_)))))
 refine bsplit (a0.Kind == (2:Int)) (fun hc224 => ?_) (fun hc224 => ?_)
 {
 replace hm := bif_t hc224 hm
 refine wp_ift (cvb hc224) ?_
 refine wp_skip (tn ?_)
 replace hst := hst.pull1.keep2
 obtain rfl := some_inj hm
 exact ⟨(a0.Kind == (2:Int)), _, hx229, (fu 1 (Pt b193 0) z (fu 3 (Pt b200 0) z (fu 12 (.int .u8 a0.Kind) z (fu 19 (.bool (a0.Kind == (2:Int))) z z)))), hst⟩
}
 {
 replace hm := bif_f hc224 hm
 refine wp_iff (cvb hc224) ?_
 refine wrl (wv (.bool (a0.Kind == (6:Int))) z z z (wv (.bool (a0.Kind == (6:Int))) z z z (wl_nil (tn ?_))))
 replace hst := hst.pull1.keep2
 obtain rfl := some_inj hm
 exact ⟨(a0.Kind == (6:Int)), _, hx229, (fu 1 (Pt b193 0) z (fu 3 (Pt b200 0) z (fu 12 (.int .u8 a0.Kind) z (fu 19 (.bool (a0.Kind == (6:Int))) z z)))), hst⟩
}
}
 {
 clear hst
 rintro _ w230 ⟨z225, σ226, hm, rfl, hst⟩
 dsimp only [mail_Encode_j0] at hm
 refine bsplit z225 (fun hc231 => ?_) (fun hc231 => ?_)
 {
 replace hm := bif_t hc231 hm
 refine wp_ift (cvb hc231) ?_
 refine wrl (wv (Pt b200 0) z z z (wv (Pt b193 14) z z (x_field z underlying50 z sizeOf36 z) (wv (.agg #[U6 a0.H.ID.Session, U6 a0.H.ID.Seq, U6 a0.H.Epoch, r0_2, r0_3, r0_4, r0_5]) z z (x_loadN (cs := [U6 a0.H.ID.Session, U6 a0.H.ID.Seq, U6 a0.H.Epoch, r0_2, r0_3, r0_4, r0_5]) z isAgg36 sizeOf36 (hst.bcs0 14 z)) ?_)))
 replace hst := hst.pull1
 obtain ⟨t232, ht233, hm⟩ := bind_some hm
 refine wc call23 [Pt b200 0, .agg #[U6 a0.H.ID.Session, U6 a0.H.ID.Seq, U6 a0.H.Epoch, r0_2, r0_3, r0_4, r0_5]] z z z ?_
 refine (locks_Lay_ref (f0_2.mono (rd_weak _)) (f0_3.mono (rd_weak _)) (f0_4.mono (rd_weak _)) (f0_5.mono (rd_weak _)) hst.to1 ht233).mono ?_
 rintro _ w234 ⟨rfl, hst⟩
 refine ⟨_, z, ?_⟩
 replace hst := hst.of1
 refine wl_nil (blk_n (tn (wp_seq (wrl (wv (Pt b200 0) z z z ?_)))))
 obtain ⟨t237, ht238, hm⟩ := bind_some hm
 refine wc call27 [Pt b200 0] z z z ?_
 refine (octet_Writer_Done_ref hst.to1 ht238).mono ?_
 rintro _ w239 ⟨v242, rfl, hst⟩
 refine ⟨_, z, ?_⟩
 replace hst := hst.of1
 refine wv (v242) z z z (wl_nil (tn (wp_ret ?_)))
 obtain rfl := some_inj hm
 refine post_ret (vs := [v242]) results8 (rvs_cons (rv_tmp z) rvs_nil) ?_
 exact ⟨v242, z, hst.keep1⟩
}
 {
 replace hm := bif_f hc231 hm
 refine wp_iff (cvb hc231) ?_
 refine wp_seq (wrl (wv (.bool (a0.Kind == (3:Int))) z z z (wv (.bool (a0.Kind == (3:Int))) z z z (wl_nil (tn ?_)))))
 refine bsplit (a0.Kind == (3:Int)) (fun hc244 => ?_) (fun hc244 => ?_)
 {
 replace hm := bif_t hc244 hm
 refine wp_ift (cvb hc244) ?_
 refine wp_seq (wrl (wv (Pt b200 0) z z z (wv (Pt b193 14) z z (x_field z underlying50 z sizeOf36 z) (wv (.agg #[U6 a0.H.ID.Session, U6 a0.H.ID.Seq, U6 a0.H.Epoch, r0_2, r0_3, r0_4, r0_5]) z z (x_loadN (cs := [U6 a0.H.ID.Session, U6 a0.H.ID.Seq, U6 a0.H.Epoch, r0_2, r0_3, r0_4, r0_5]) z isAgg36 sizeOf36 (hst.bcs0 14 z)) ?_))))
 replace hst := hst.pull1
 obtain ⟨t245, ht246, hm⟩ := bind_some hm
 refine wc call23 [Pt b200 0, .agg #[U6 a0.H.ID.Session, U6 a0.H.ID.Seq, U6 a0.H.Epoch, r0_2, r0_3, r0_4, r0_5]] z z z ?_
 refine (locks_Lay_ref (f0_2.mono (rd_weak _)) (f0_3.mono (rd_weak _)) (f0_4.mono (rd_weak _)) (f0_5.mono (rd_weak _)) hst.to1 ht246).mono ?_
 rintro _ w247 ⟨rfl, hst⟩
 refine ⟨_, z, ?_⟩
 replace hst := hst.of1
 refine wl_nil (tn (wrl (wv (Pt b200 0) z z z (wv (Pt b193 23) z z (x_field z underlying50 z sizeOf41 z) (wv (.agg #[I6 a0.R.E, U6 a0.R.Epoch, U6 a0.R.Index, r0_6, r0_7]) z z (x_loadN (cs := [I6 a0.R.E, U6 a0.R.Epoch, U6 a0.R.Index, r0_6, r0_7]) z isAgg41 sizeOf41 (hst.bcs1 23 z)) ?_)))))
 obtain ⟨t250, ht251, hm⟩ := bind_some hm
 refine wc call24 [Pt b200 0, .agg #[I6 a0.R.E, U6 a0.R.Epoch, U6 a0.R.Index, r0_6, r0_7]] z z z ?_
 refine (command_LayReply_ref (f0_6.mono (rd_weak _)) (f0_7.mono (rd_weak _)) hst.to1 ht251).mono ?_
 rintro _ w252 ⟨rfl, hst⟩
 refine ⟨_, z, ?_⟩
 replace hst := hst.of1
 refine wl_nil (blk_n (tn (wp_seq (wrl (wv (Pt b200 0) z z z ?_)))))
 obtain ⟨t255, ht256, hm⟩ := bind_some hm
 refine wc call27 [Pt b200 0] z z z ?_
 refine (octet_Writer_Done_ref hst.to1 ht256).mono ?_
 rintro _ w257 ⟨v260, rfl, hst⟩
 refine ⟨_, z, ?_⟩
 replace hst := hst.of1
 refine wv (v260) z z z (wl_nil (tn (wp_ret ?_)))
 obtain rfl := some_inj hm
 refine post_ret (vs := [v260]) results8 (rvs_cons (rv_tmp z) rvs_nil) ?_
 exact ⟨v260, z, hst.keep1⟩
}
 {
 replace hm := bif_f hc244 hm
 refine wp_iff (cvb hc244) ?_
 refine wp_seq (wrl (wv (.bool (a0.Kind == (4:Int))) z z z (wv (.bool (a0.Kind == (4:Int))) z z z (wl_nil (tn ?_)))))
 refine bsplit (a0.Kind == (4:Int)) (fun hc262 => ?_) (fun hc262 => ?_)
 {
 replace hm := bif_t hc262 hm
 refine wp_ift (cvb hc262) ?_
 refine wrl (wv (Pt b200 0) z z z (wv (Pt b193 28) z z (x_field z underlying50 z sizeOf48 z) (wv (.agg #[U1 a0.C.Kind, U6 a0.C.ID.Session, U6 a0.C.ID.Seq, U6 a0.C.Epoch, U6 a0.C.Index, I6 a0.C.E, U6 a0.C.Hold.ID.Session, U6 a0.C.Hold.ID.Seq, U6 a0.C.Hold.Epoch, r0_8, r0_9, r0_10, r0_11, r0_12, I6 a0.C.R.E, U6 a0.C.R.Epoch, U6 a0.C.R.Index, r0_13, r0_14, U6 a0.C.Shards, r0_15, U6 a0.C.Rule.ID, I6 a0.C.Rule.From, I6 a0.C.Rule.To, F6 a0.C.Rule.Lo, F6 a0.C.Rule.Hi, U6 a0.C.Rule.Authority, I6 a0.C.Rule.Quota, .bool a0.C.On]) z z (x_loadN (cs := [U1 a0.C.Kind, U6 a0.C.ID.Session, U6 a0.C.ID.Seq, U6 a0.C.Epoch, U6 a0.C.Index, I6 a0.C.E, U6 a0.C.Hold.ID.Session, U6 a0.C.Hold.ID.Seq, U6 a0.C.Hold.Epoch, r0_8, r0_9, r0_10, r0_11, r0_12, I6 a0.C.R.E, U6 a0.C.R.Epoch, U6 a0.C.R.Index, r0_13, r0_14, U6 a0.C.Shards, r0_15, U6 a0.C.Rule.ID, I6 a0.C.Rule.From, I6 a0.C.Rule.To, F6 a0.C.Rule.Lo, F6 a0.C.Rule.Hi, U6 a0.C.Rule.Authority, I6 a0.C.Rule.Quota, .bool a0.C.On]) z isAgg48 sizeOf48 (hst.bcs0 28 z)) ?_)))
 obtain ⟨t263, ht264, hm⟩ := bind_some hm
 refine wc call26 [.agg #[U1 a0.C.Kind, U6 a0.C.ID.Session, U6 a0.C.ID.Seq, U6 a0.C.Epoch, U6 a0.C.Index, I6 a0.C.E, U6 a0.C.Hold.ID.Session, U6 a0.C.Hold.ID.Seq, U6 a0.C.Hold.Epoch, r0_8, r0_9, r0_10, r0_11, r0_12, I6 a0.C.R.E, U6 a0.C.R.Epoch, U6 a0.C.R.Index, r0_13, r0_14, U6 a0.C.Shards, r0_15, U6 a0.C.Rule.ID, I6 a0.C.Rule.From, I6 a0.C.Rule.To, F6 a0.C.Rule.Lo, F6 a0.C.Rule.Hi, U6 a0.C.Rule.Authority, I6 a0.C.Rule.Quota, .bool a0.C.On]] z z z ?_
 refine (command_Encode_ref (f0_8.mono (rd_weak _)) (f0_9.mono (rd_weak _)) (f0_10.mono (rd_weak _)) (f0_11.mono (rd_weak _)) (f0_12.mono (rd_weak _)) (f0_13.mono (rd_weak _)) (f0_14.mono (rd_weak _)) (f0_15.mono (rd_weak _)) hst.to0 ht264).mono ?_
 rintro _ w265 ⟨v268, rfl, hst⟩
 refine ⟨_, z, ?_⟩
 replace hst := hst.of1
 obtain ⟨css270, hq271, hst⟩ := hst.own_open
 replace hst := hst.pull2
 obtain ⟨t272, ht273, hm⟩ := bind_some hm
 refine wc call25 [Pt b200 0, v268] z z z ?_
 refine (octet_Writer_Bytes_ref (hst.sub.rdrow0 hq271) hst.to1 ht273).mono ?_
 rintro _ w274 ⟨rfl, hst⟩
 refine ⟨_, z, ?_⟩
 replace hst := hst.of1.pull1.own_close hq271
 refine wl_nil (blk_n (tn (wp_seq (wrl (wv (Pt b200 0) z z z ?_)))))
 replace hst := hst.pull1
 obtain ⟨t277, ht278, hm⟩ := bind_some hm
 refine wc call27 [Pt b200 0] z z z ?_
 refine (octet_Writer_Done_ref hst.to1 ht278).mono ?_
 rintro _ w279 ⟨v282, rfl, hst⟩
 refine ⟨_, z, ?_⟩
 replace hst := hst.of1
 refine wv (v282) z z z (wl_nil (tn (wp_ret ?_)))
 obtain rfl := some_inj hm
 refine post_ret (vs := [v282]) results8 (rvs_cons (rv_tmp z) rvs_nil) ?_
 exact ⟨v282, z, hst.keep1⟩
}
 {
 replace hm := bif_f hc262 hm
 refine wp_iff (cvb hc262) ?_
 refine wp_seq (wrl (wv (.bool (a0.Kind == (5:Int))) z z z (wv (.bool (a0.Kind == (5:Int))) z z z (wl_nil (tn ?_)))))
 refine bsplit (a0.Kind == (5:Int)) (fun hc284 => ?_) (fun hc284 => ?_)
 {
 replace hm := bif_t hc284 hm
 refine wp_ift (cvb hc284) ?_
 refine wp_region_St hst 9 [0, 1, 2, 3, 4, 5, 6, 7, 8] [0, 0, 2, 6, 15, 0, 32, 96, 255] [] z (by kernel_rfl) (by kernel_rfl) Try.mixed (by kernel_rfl) ?_
 refine wsr (Pt b200 0) 0 z z z (by kernel_rfl) (fun w hst => z) (wsr (Pt b193 21) 1 z z z (by kernel_rfl) (fun w hst => x_field z underlying50 z sizeOf32 z) (wsr (Pt b193 21) 2 z z z (by kernel_rfl) (fun w hst => x_field z underlying32 z sizeOf25 z) (wsr (.int .u64 a0.ID.Session) 3 z z z (by kernel_rfl) (fun w hst => x_load z isAgg25 (hst.bc0 z)) (wsr (Pt b193 21) 5 z z z (by kernel_rfl) (fun w hst => x_field z underlying50 z sizeOf32 z) (wsr (Pt b193 22) 6 z z z (by kernel_rfl) (fun w hst => x_field z underlying32 z sizeOf25 z) (wsr (.int .u64 a0.ID.Seq) 7 z z z (by kernel_rfl) (fun w hst => x_load z isAgg25 (hst.bc0 z)) ?_))))))
 refine ws_e1 4 (by kernel_rfl) ?_
 refine nxe [8] (by kernel_rfl) z z ?_
 clear hst
 intro w hst
 replace hst := hst.pull1
 obtain ⟨t285, ht286, hm⟩ := bind_some hm
 refine wec call21 [Pt b200 0, U6 a0.ID.Session, I6 (8:Int)] z z ?_
 refine (octet_Writer_Num_ref hst.to1 ht286).mono ?_
 rintro _ w287 ⟨rfl, hst⟩
 refine ⟨_, z, ?_⟩
 replace hst := hst.of1
 refine ws_next (pend' := [(7, U6 a0.ID.Seq), (6, Pt b193 22), (5, Pt b193 21)]) hst (by kernel_rfl) (pkr z z (fun w hst => x_load z isAgg25 (hst.bc1 z)) (pkr z z (fun w hst => x_field z underlying32 z sizeOf25 z) (pkr z z (fun w hst => x_field z underlying50 z sizeOf32 z) pk_nil))) ?_
 refine ws_e1 8 (by kernel_rfl) ?_
 refine nxe [] (by kernel_rfl) z z ?_
 clear hst
 intro w hst
 obtain ⟨t290, ht291, hm⟩ := bind_some hm
 refine wec call21 [Pt b200 0, U6 a0.ID.Seq, I6 (8:Int)] z z ?_
 refine (octet_Writer_Num_ref hst.to1 ht291).mono ?_
 rintro _ w292 ⟨rfl, hst⟩
 refine ⟨_, z, ?_⟩
 replace hst := hst.of1
 refine ws_next (pend' := []) hst (by kernel_rfl) pk_nil ?_
 refine ws_nil ?_
 intro w hst
 refine blk_n (tn (wp_seq (wrl ?_)))
 refine wv (Pt b200 0) z z z ?_
 obtain ⟨t295, ht296, hm⟩ := bind_some hm
 refine wc call27 [Pt b200 0] z z z ?_
 refine (octet_Writer_Done_ref hst.to1 ht296).mono ?_
 rintro _ w297 ⟨v300, rfl, hst⟩
 refine ⟨_, z, ?_⟩
 replace hst := hst.of1
 refine wv (v300) z z z (wl_nil (tn (wp_ret ?_)))
 obtain rfl := some_inj hm
 refine post_ret (vs := [v300]) results8 (rvs_cons (rv_tmp z) rvs_nil) ?_
 exact ⟨v300, z, hst.keep1⟩
}
 {
 replace hm := bif_f hc284 hm
 refine wp_iff (cvb hc284) ?_
 refine wp_skip (blk_n (tn (wp_seq (wrl ?_))))
 refine wv (Pt b200 0) z z z ?_
 replace hst := hst.pull1
 obtain ⟨t302, ht303, hm⟩ := bind_some hm
 refine wc call27 [Pt b200 0] z z z ?_
 refine (octet_Writer_Done_ref hst.to1 ht303).mono ?_
 rintro _ w304 ⟨v307, rfl, hst⟩
 refine ⟨_, z, ?_⟩
 replace hst := hst.of1
 refine wv (v307) z z z (wl_nil (tn (wp_ret ?_)))
 obtain rfl := some_inj hm
 refine post_ret (vs := [v307]) results8 (rvs_cons (rv_tmp z) rvs_nil) ?_
 exact ⟨v307, z, hst.keep1⟩
}
}
}
}
}
}
}

theorem law17_awake_ref {w0 w : World} {I : HL} {R : SP}   (hst : St w0 w I [] R) {r : (Bool)} (hm : law17_awake = some r) :
  Calls prog 6 #[] w fun e w' => e = .returned (.bool r) ∧ St w0 w' I [] R := by {
 unfold law17_awake at hm
 refine calls_start (args := []) func6 z ntmps6 (Nat.le_of_ble_eq_true z) ?_
 refine wp_seq (wrl (wv (.bool false) z z z (wl_nil (tn (wp_seq (wrl (wv (.agg #[U1 (5:Int), Zb, Zi, Zi, Zu, Zu, Zu, Zu, .bool false, Zs, Zu, Zu, Zu, Zs, Zu, Zu, Zu, Zs, Zs, Zs, Zs, Zu, Zu, Zi, Zu, Zu, Zs, Zs, Zb, Zu, Zu, Zu, Zu, Zi, Zu, Zu, Zu, Zs, Zs, Zs, Zs, Zs, Zi, Zu, Zu, Zs, Zs, Zu, Zs, Zu, Zi, Zi, Zf, Zf, Zu, Zi, .bool false]) z z (by kernel_rfl) ?_)))))))
 obtain ⟨b101, w102, ew103, eb104, hst⟩ := hst.box [Zb, Zb, Zi, Zi, Zu, Zu, Zu, Zu, .bool false, Zs, Zu, Zu, Zu, Zs, Zu, Zu, Zu, Zs, Zs, Zs, Zs, Zu, Zu, Zi, Zu, Zu, Zs, Zs, Zb, Zu, Zu, Zu, Zu, Zi, Zu, Zu, Zu, Zs, Zs, Zs, Zs, Zs, Zi, Zu, Zu, Zs, Zs, Zu, Zs, Zu, Zi, Zi, Zf, Zf, Zu, Zi, .bool false] 50
 refine wl_run (v := Pt b101 0) (w' := w102) z z (x_al (by kernel_rfl) ew103 eb104) ?_
 obtain ⟨w106, hr107, hst⟩ := hst.bx [U1 (5:Int), Zb, Zi, Zi, Zu, Zu, Zu, Zu, .bool false, Zs, Zu, Zu, Zu, Zs, Zu, Zu, Zu, Zs, Zs, Zs, Zs, Zu, Zu, Zi, Zu, Zu, Zs, Zs, Zb, Zu, Zu, Zu, Zu, Zi, Zu, Zu, Zu, Zs, Zs, Zs, Zs, Zs, Zi, Zu, Zu, Zs, Zs, Zu, Zs, Zu, Zi, Zi, Zf, Zf, Zu, Zi, .bool false] sizeOf50 z (oC z (oC z (oC z (oC z (oC z (oC z (oC z (oC z (oC z (oC z (oC z (oC z (oC z (oC z (oC z (oC z (oC z (oC z (oC z (oC z (oC z (oC z (oC z (oC z (oC z (oC z (oC z (oC z (oC z (oC z (oC z (oC z (oC z (oC z (oC z (oC z (oC z (oC z (oC z (oC z (oC z (oC z (oC z (oC z (oC z (oC z (oC z (oC z (oC z (oC z (oC z (oC z (oC z (oC z (oC z (oC z (oC z oN))))))))))))))))))))))))))))))))))))))))))))))))))))))))) (by kernel_rfl)
 refine wl_unit z z (x_unit hr107) ?_
 refine wl_nil (tn (wp_seq (wrl (wv (Pt b101 21) z z (x_field z underlying50 z sizeOf32 z) (wv (Pt b101 21) z z (x_field z underlying32 z sizeOf25 z) ?_)))))
 obtain ⟨w108, hr109, hst⟩ := hst.by_ [U1 (5:Int), Zb, Zi, Zi, Zu, Zu, Zu, Zu, .bool false, Zs, Zu, Zu, Zu, Zs, Zu, Zu, Zu, Zs, Zs, Zs, Zs, U6 (1:Int), Zu, Zi, Zu, Zu, Zs, Zs, Zb, Zu, Zu, Zu, Zu, Zi, Zu, Zu, Zu, Zs, Zs, Zs, Zs, Zs, Zi, Zu, Zu, Zs, Zs, Zu, Zs, Zu, Zi, Zi, Zf, Zf, Zu, Zi, .bool false] 21 (.int .u64 (1:Int)) sizeOf25 z (oC z oN) (by kernel_rfl)
 refine wl_unit z z (x_unit hr109) ?_
 refine wl_nil (tn (wp_seq (wrl (wv (Pt b101 21) z z (x_field z underlying50 z sizeOf32 z) (wv (Pt b101 22) z z (x_field z underlying32 z sizeOf25 z) ?_)))))
 obtain ⟨w110, hr111, hst⟩ := hst.by_ [U1 (5:Int), Zb, Zi, Zi, Zu, Zu, Zu, Zu, .bool false, Zs, Zu, Zu, Zu, Zs, Zu, Zu, Zu, Zs, Zs, Zs, Zs, U6 (1:Int), U6 (2:Int), Zi, Zu, Zu, Zs, Zs, Zb, Zu, Zu, Zu, Zu, Zi, Zu, Zu, Zu, Zs, Zs, Zs, Zs, Zs, Zi, Zu, Zu, Zs, Zs, Zu, Zs, Zu, Zi, Zi, Zf, Zf, Zu, Zi, .bool false] 22 (.int .u64 (2:Int)) sizeOf25 z (oC z oN) (by kernel_rfl)
 refine wl_unit z z (x_unit hr111) ?_
 refine wl_nil (tn (wp_seq (wrl (wv (.agg #[U1 (5:Int), Zb, Zi, Zi, Zu, Zu, Zu, Zu, .bool false, Zs, Zu, Zu, Zu, Zs, Zu, Zu, Zu, Zs, Zs, Zs, Zs, U6 (1:Int), U6 (2:Int), Zi, Zu, Zu, Zs, Zs, Zb, Zu, Zu, Zu, Zu, Zi, Zu, Zu, Zu, Zs, Zs, Zs, Zs, Zs, Zi, Zu, Zu, Zs, Zs, Zu, Zs, Zu, Zi, Zi, Zf, Zf, Zu, Zi, .bool false]) z z (x_loadN (cs := [U1 (5:Int), Zb, Zi, Zi, Zu, Zu, Zu, Zu, .bool false, Zs, Zu, Zu, Zu, Zs, Zu, Zu, Zu, Zs, Zs, Zs, Zs, U6 (1:Int), U6 (2:Int), Zi, Zu, Zu, Zs, Zs, Zb, Zu, Zu, Zu, Zu, Zi, Zu, Zu, Zu, Zs, Zs, Zs, Zs, Zs, Zi, Zu, Zu, Zs, Zs, Zu, Zs, Zu, Zi, Zi, Zf, Zf, Zu, Zi, .bool false]) z isAgg50 sizeOf50 (hst.bcs0 0 z)) ?_))))
 have f112 : Ro ty_api_Entry I (.slice none 0 0) [] := ro_nil
 have f113 : Ro (tyInt .u8) I (.slice none 0 0) [] := ro_nil
 have f114 : Ro tyF64 I (.slice none 0 0) [] := ro_nil
 have f115 : Ro tyF2 I (.slice none 0 0) [] := ro_nil
 have f116 : Ro tyF64 I (.slice none 0 0) [] := ro_nil
 have f117 : Ro (tyInt .u8) I (.slice none 0 0) [] := ro_nil
 have f118 : Ro ty_api_Got I (.slice none 0 0) [] := ro_nil
 have f119 : Ro (tySl ty_api_Pair) I (.slice none 0 0) [] := ro_nil
 have f120 : Ro tyF64 I (.slice none 0 0) [] := ro_nil
 have f121 : Ro tyF2 I (.slice none 0 0) [] := ro_nil
 have f122 : Ro tyF64 I (.slice none 0 0) [] := ro_nil
 have f123 : Ro (tyInt .u8) I (.slice none 0 0) [] := ro_nil
 have f124 : Ro ty_api_Write I (.slice none 0 0) [] := ro_nil
 have f125 : Ro ty_api_Got I (.slice none 0 0) [] := ro_nil
 have f126 : Ro (tySl ty_api_Pair) I (.slice none 0 0) [] := ro_nil
 have f127 : Ro ty_api_Part I (.slice none 0 0) [] := ro_nil
 obtain ⟨t128, ht129, hm⟩ := bind_some hm
 refine wc call8 [.agg #[U1 (5:Int), Zb, Zi, Zi, Zu, Zu, Zu, Zu, .bool false, Zs, Zu, Zu, Zu, Zs, Zu, Zu, Zu, Zs, Zs, Zs, Zs, U6 (1:Int), U6 (2:Int), Zi, Zu, Zu, Zs, Zs, Zb, Zu, Zu, Zu, Zu, Zi, Zu, Zu, Zu, Zs, Zs, Zs, Zs, Zs, Zi, Zu, Zu, Zs, Zs, Zu, Zs, Zu, Zi, Zi, Zf, Zf, Zu, Zi, .bool false]] z z z ?_
 refine (mail_Encode_ref (f112.mono ro_rd) (f113.mono ro_rd) (f114.mono ro_rd) (f115.mono ro_rd) (f116.mono ro_rd) (f117.mono ro_rd) (f118.mono ro_rd) (f119.mono ro_rd) (f120.mono ro_rd) (f121.mono ro_rd) (f122.mono ro_rd) (f123.mono ro_rd) (f124.mono ro_rd) (f125.mono ro_rd) (f126.mono ro_rd) (f127.mono ro_rd) hst.to0 ht129).mono ?_
 rintro _ w130 ⟨v133, rfl, hst⟩
 refine ⟨_, z, ?_⟩
 replace hst := hst.of1
 refine wv (.string (toStr t128)) z z (x_tostr underlying22 underlying9 underlying5 z hst.src0) (wv (.bool (sEq (toStr t128) (ByteArray.mk #[5, 1, 0, 0, 0, 0, 0, 0, 0, 2, 0, 0, 0, 0, 0, 0, 0]))) z z (by kernel_rfl) (wv (.bool (sEq (toStr t128) (ByteArray.mk #[5, 1, 0, 0, 0, 0, 0, 0, 0, 2, 0, 0, 0, 0, 0, 0, 0]))) z z z ?_))
 refine bsplit (sEq (toStr t128) (ByteArray.mk #[5, 1, 0, 0, 0, 0, 0, 0, 0, 2, 0, 0, 0, 0, 0, 0, 0])) (fun hc135 => ?_) (fun hc135 => ?_)
 {
 replace hm := bif_t hc135 hm
 refine wv (.bool true) z z (x_pick_t hc135 z z) (wv (.bool true) z z z (wl_nil (tn (wp_ret ?_))))
 obtain rfl := some_inj hm
 refine post_ret (vs := [.bool true]) results6 (rvs_cons (rv_tmp z) rvs_nil) ?_
 exact ⟨z, hst.keep0⟩
}
 {
 replace hm := bif_f hc135 hm
 refine wv (.bool false) z z (x_pick_f hc135 z z) (wv (.bool false) z z z (wl_nil (tn (wp_ret ?_))))
 obtain rfl := some_inj hm
 refine post_ret (vs := [.bool false]) results6 (rvs_cons (rv_tmp z) rvs_nil) ?_
 exact ⟨z, hst.keep0⟩
}
}

theorem ref12_Tape_Next_ref {w0 w : World} {I : HL} {R : SP} {a0 : ref12_Tape} {p0 : Value} {a1 : Int}  (hst : St w0 w I [at_ref12_Tape p0 a0] R) {r : (Int × ref12_Tape)} (hm : ref12_Tape_Next a0 a1 = some r) :
  Calls prog 28 #[p0, I6 a1] w fun e w' => e = .returned (.int .i64 r.1) ∧ St w0 w' I [at_ref12_Tape p0 r.2] R := by {
 unfold ref12_Tape_Next at hm
 refine calls_start (args := [p0, I6 a1]) func28 z ntmps28 (Nat.le_of_ble_eq_true z) ?_
 refine wp_seq (wrl (wv (.int .i64 (0:Int)) z z z (wl_nil (tn (wp_seq (wp_seq ?_))))))
 obtain ⟨b63, v64, ⟨rfl, f66⟩, hst'⟩ := at_ref12_Tape_open hst
 clear hst
 have hst := hst'
 clear hst'
 refine wq_regionS hst Try.mixed (by kernel_rfl) ?_
 refine wq_run (v := Pt b63 0) z z (fun w hst => z) ?_
 refine wq_run (v := Pt b63 0) z z (fun w hst => z) ?_
 refine wq_run (v := Pt b63 1) z z (fun w hst => x_field z underlying57 z sizeOf3 z) ?_
 refine wq_run (v := .int .i64 a0.I) z z (fun w hst => x_load z isAgg3 (hst.bc0 z)) ?_
 refine wq_run (v := Pt b63 0) z z (fun w hst => z) ?_
 refine wq_run (v := Pt b63 0) z z (fun w hst => z) ?_
 refine wq_run (v := Pt b63 0) z z (fun w hst => x_field z underlying57 z sizeOf22 z) ?_
 refine wq_run (v := v64) z z (fun w hst => x_load z isAgg22 (hst.bc0 z)) ?_
 refine wq_run (v := .int .i64 ((a0.L).length : Int)) z z (fun w hst => x_len z underlying22 (ro_sliceV f66)) ?_
 refine wq_run (v := .bool (decide (a0.I ≥ ((a0.L).length : Int)))) z z (fun w hst => z) ?_
 refine wq_nil ?_
 intro w hst
 refine tn ?_
 refine bsplit (decide (a0.I ≥ ((a0.L).length : Int))) (fun hc67 => ?_) (fun hc67 => ?_)
 {
 replace hm := bif_t hc67 hm
 refine wp_ift (cvb hc67) ?_
 refine wp_seq (wrl (wv (.int .i64 (0:Int)) z z z (wl_nil (tn (wp_ret (then_r ?_))))))
 replace hst := at_ref12_Tape_close (pv := Pt b63 0) (x := a0) hst ⟨z, f66⟩
 obtain rfl := some_inj hm
 refine post_ret (vs := [Zi]) results28 (rvs_cons (rv_tmp z) rvs_nil) ?_
 exact ⟨z, hst.keep1⟩
}
 {
 replace hm := bif_f hc67 hm
 refine wp_iff (cvb hc67) ?_
 refine wp_skip (tn (wp_seq (wrl ?_)))
 refine wv (Pt b63 0) z z z (wv (Pt b63 0) z z z (wv (Pt b63 1) z z (x_field z underlying57 z sizeOf3 z) (wv (.int .i64 a0.I) z z (x_load z isAgg3 (hst.bc0 z)) (wv (.int .i64 (i64.wrap (a0.I + (1:Int)))) z z z (wv (Pt b63 0) z z z (wv (Pt b63 1) z z (x_field z underlying57 z sizeOf3 z) ?_))))))
 obtain ⟨w68, hr69, hst⟩ := hst.by_ [v64, I6 (i64.wrap (a0.I + (1:Int)))] 1 (.int .i64 (i64.wrap (a0.I + (1:Int)))) sizeOf3 z (oC z oN) (by kernel_rfl)
 refine wl_unit z z (x_unit hr69) ?_
 refine wl_nil (tn (wp_seq ?_))
 refine wq_regionS hst Try.mixed (by kernel_rfl) ?_
 refine wq_run (v := Pt b63 0) z z (fun w hst => z) ?_
 refine wq_run (v := Pt b63 0) z z (fun w hst => z) ?_
 refine wq_run (v := Pt b63 0) z z (fun w hst => x_field z underlying57 z sizeOf22 z) ?_
 refine wq_run (v := v64) z z (fun w hst => x_load z isAgg22 (hst.bc0 z)) ?_
 refine wq_run (v := Pt b63 0) z z (fun w hst => z) ?_
 refine wq_run (v := Pt b63 0) z z (fun w hst => z) ?_
 refine wq_run (v := Pt b63 1) z z (fun w hst => x_field z underlying57 z sizeOf3 z) ?_
 refine wq_run (v := .int .i64 (i64.wrap (a0.I + (1:Int)))) z z (fun w hst => x_load z isAgg3 (hst.bc0 z)) ?_
 refine wq_run (v := .int .i64 (i64.wrap ((i64.wrap (a0.I + (1:Int))) - (1:Int)))) z z (fun w hst => z) ?_
 obtain ⟨x70, hx71, hm⟩ := bind_some hm
 obtain ⟨h72, h73, hi74⟩ := geto_some hx71
 refine wq_run (v := .pointer (some (eAddr v64 ((i64.wrap ((i64.wrap (a0.I + (1:Int))) - (1:Int))).toNat * 1 + 0)))) z z (fun w hst => x_index z z underlying22 sizeOf5 (ro_sliceV f66) h72 h73) ?_
 refine wq_run (v := .int .u8 x70) z z (fun w hst => x_load z isAgg5 (ro_load f66 hst hi74 (by rintro _ rfl; rfl))) ?_
 refine wq_run (v := .int .i64 (i64.wrap x70)) z z (fun w hst => by kernel_rfl) ?_
 refine wq_run (v := .int .i64 a1) z z (fun w hst => z) ?_
 obtain ⟨hg75, hm⟩ := gd_some hm
 refine wq_run (v := .int .i64 (Int.tmod (i64.wrap x70) a1)) z z (fun w hst => x_rem (not_t hg75) z z) ?_
 refine wq_run (v := .int .i64 (Int.tmod (i64.wrap x70) a1)) z z (fun w hst => z) ?_
 refine wq_nil ?_
 intro w hst
 refine tn (wp_ret ?_)
 replace hst := at_ref12_Tape_close (pv := Pt b63 0) (x := ({ L := a0.L, I := (i64.wrap (a0.I + (1:Int))) } : ref12_Tape)) hst ⟨z, f66⟩
 obtain rfl := some_inj hm
 refine post_ret (vs := [I6 (Int.tmod (i64.wrap x70) a1)]) results28 (rvs_cons (rv_tmp z) rvs_nil) ?_
 exact ⟨z, hst.keep1⟩
}
}

end Go.Proofs.Ytldfdainhdiffaa
