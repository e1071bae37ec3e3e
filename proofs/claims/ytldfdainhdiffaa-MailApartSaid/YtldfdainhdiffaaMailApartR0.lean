/- The Go functions refine their models, part 0. -/
import Derived.Test.YtldfdainhdiffaaMailApartT
set_option linter.unusedVariables false
set_option linter.unusedSimpArgs false
set_option maxRecDepth 100000
set_option maxHeartbeats 4000000
namespace Go.Proofs.Ytldfdainhdiffaa
open Go Go.V
open _root_.Go.Proofs.Try IntKind
attribute [local irreducible] wpList Code.wp wpQuiet Calls bodyPost Oper.wp wpS Nx PendOK YieldsIn
theorem octet_Writer_lay_ref {w0 w : World} {I : HL} {R : SP} {a0 : octet_Writer} {p0 : Value} {a1 : (List Int)} {r1_0 : Value} (f1_0 : Rd (tyInt .u8) R I r1_0 a1) (hst : St w0 w I [at_octet_Writer p0 a0] R) {r : (octet_Writer)} (hm : octet_Writer_lay a0 a1 = some r) :
  Calls prog 53 #[p0, r1_0] w fun e w' => e = .returned (p0) ∧ St w0 w' I [at_octet_Writer p0 r] R := by {
 unfold octet_Writer_lay at hm
 refine calls_start (args := [p0, r1_0]) func53 z ntmps53 (Nat.le_of_ble_eq_true z) ?_
 refine wp_seq (wrl (wv (.pointer none) z z z (wl_nil (tn (wp_seq (wrl (wv (p0) z z z (wv (p0) z z z ?_))))))))
 obtain ⟨b96, v97, rfl, hst'⟩ := at_octet_Writer_open hst
 clear hst
 have hst := hst'
 clear hst'
 refine wv (Pt b96 0) z z z (wv (Pt b96 0) z z (x_field z underlying74 z sizeOf22 z) (wv (v97) z z (x_load z isAgg22 (hst.bc0 z)) (wv (r1_0) z z z ?_)))
 obtain ⟨hg99, hm⟩ := gd_some hm
 replace hst := hst.pull1
 obtain ⟨v100, w101, hr102, hst⟩ := run_append elem_22 underlying22 hst (Src.of_rd hst f1_0 flat_int) (room_of hg99 z) 22
 refine wl_run (v := v100) (w' := w101) z z (x_append z z hr102) ?_
 refine wv (Pt b96 0) z z z (wv (Pt b96 0) z z (x_field z underlying74 z sizeOf22 z) ?_)
 replace hst := hst.pull1
 obtain ⟨w103, hr104, hst⟩ := hst.boxStore1 (P := prog) (t := 22) (cs' := [v100]) 0 v100 (one_of_sliceV hst.sv1) sizeOf22 z z
 refine wl_unit z z (x_unit hr104) ?_
 refine wl_nil (tn (wp_seq (wrl (wv (Pt b96 0) z z z (wv (Pt b96 0) z z z (wl_nil (tn (wp_ret ?_))))))))
 replace hst := hst.pull1.pull1
 replace hst := at_octet_Writer_close (pv := Pt b96 0) (x := ({ p := (a0.p ++ a1) } : octet_Writer)) hst z
 obtain rfl := some_inj hm
 refine post_ret (vs := [Pt b96 0]) results53 (rvs_cons (rv_tmp z) rvs_nil) ?_
 exact ⟨z, hst.keep1⟩
}

theorem octet_Writer_Num_ref {w0 w : World} {I : HL} {R : SP} {a0 : octet_Writer} {p0 : Value} {a1 : Int} {a2 : Int}  (hst : St w0 w I [at_octet_Writer p0 a0] R) {r : (octet_Writer)} (hm : octet_Writer_Num a0 a1 a2 = some r) :
  Calls prog 21 #[p0, U6 a1, I6 a2] w fun e w' => e = .returned (p0) ∧ St w0 w' I [at_octet_Writer p0 r] R := by {
 unfold octet_Writer_Num at hm
 refine calls_start (args := [p0, U6 a1, I6 a2]) func21 z ntmps21 (Nat.le_of_ble_eq_true z) ?_
 refine wp_seq (wrl (wv (.pointer none) z z z (wl_nil (tn (wp_seq (wp_seq (wrl (wv (.int .i64 a2) z z z (wv (.int .i64 (0:Int)) z z z (wl_nil (tn (wp_block ?_))))))))))))
 obtain ⟨n164, hm⟩ := loopO_some hm
 refine wp_loop_n (fun n a w => ∃ (z161 : octet_Writer) (z162 : Int) (σ163 : Nat → Value), loopN (octet_Writer_Num_l0 a2 a1) n (z161, z162) = some r ∧ a = Fr 22 (upd (upd (upd (upd σ163 0 (p0)) 1 (.int .u64 a1)) 8 (.int .i64 a2)) 9 (.int .i64 z162)) ∧ St w0 w I [at_octet_Writer p0 z161] R) n164 ⟨a0, (0:Int), _, hm, (fu 0 p0 z (fu 1 (.int .u64 a1) z (fu 8 (.int .i64 a2) z (fu 9 (.int .i64 (0:Int)) z z)))), hst⟩ ?_
 rintro n170 _ w165 ⟨z161, z162, σ163, hm, rfl, hst⟩
 obtain ⟨n167, y168, rfl, hm, hx169⟩ := loopN_some hm
 dsimp only [octet_Writer_Num_l0] at hm
 refine wp_seq (wrl (wv (.bool (decide (z162 < a2))) z z z (wl_nil (tn (wp_seq ?_)))))
 refine bsplit (decide (z162 < a2)) (fun hc171 => ?_) (fun hc171 => ?_)
 {
 replace hm := bif_t hc171 hm
 refine wp_ift (cvb hc171) ?_
 refine wp_skip (tn (wp_seq (wp_block (wp_seq (wrl ?_)))))
 refine wv (.int .i64 z162) z z z (wv (.int .i64 z162) z z z (wl_nil (tn (wrl (wv (p0) z z z (wv (.int .u64 a1) z z z (wv (.int .i64 z162) z z z (wv (.int .i64 (i64.wrap ((8:Int) * z162))) z z z ?_))))))))
 obtain ⟨hg172, hm⟩ := gd_some hm
 refine wv (.int .u64 (iShr .u64 a1 (i64.wrap ((8:Int) * z162)))) z z (x_shr (of_decide_eq_true hg172) z z) (wv (.int .u8 (u8.wrap (iShr .u64 a1 (i64.wrap ((8:Int) * z162))))) z z (by kernel_rfl) ?_)
 obtain ⟨b173, w174, ew175, eb176, hst⟩ := hst.lits (E := (tyInt .u8)) (xs := [(u8.wrap (iShr .u64 a1 (i64.wrap ((8:Int) * z162))))]) [[U1 (u8.wrap (iShr .u64 a1 (i64.wrap ((8:Int) * z162))))]] 5 1 z (Reps.cons z Reps.nil)
 refine wl_run (v := (.slice (some ⟨b173, 0, none⟩) 1 1)) (w' := w174) z z (x_als (by kernel_rfl) ew175 eb176) ?_
 obtain ⟨css178, hq179, hst⟩ := hst.own_open
 replace hst := hst.pull1
 obtain ⟨t180, ht181, hm⟩ := bind_some hm
 refine wc call53 [p0, (.slice (some ⟨b173, 0, none⟩) 1 1)] z z z ?_
 refine (octet_Writer_lay_ref (hst.sub.rdrow0 hq179) hst.to1 ht181).mono ?_
 rintro _ w182 ⟨rfl, hst⟩
 refine ⟨_, z, ?_⟩
 replace hst := hst.of1.pull1.own_close hq179
 refine wl_nil (blk_n (tn (wrl (wv (.int .i64 (i64.wrap (z162 + (1:Int)))) z z z (wv (.int .i64 (i64.wrap (z162 + (1:Int)))) z z z (wl_nil (tn ?_)))))))
 replace hst := hst.pull1.keep1
 obtain rfl := some_inj hm
 exact ⟨_, Nat.lt_succ_self _, t180, (i64.wrap (z162 + (1:Int))), _, hx169, (fu 0 p0 z (fu 1 (.int .u64 a1) z (fu 8 (.int .i64 a2) z (fu 9 (.int .i64 (i64.wrap (z162 + (1:Int)))) z z)))), hst⟩
}
 {
 replace hm := bif_f hc171 hm
 refine wp_iff (cvb hc171) ?_
 refine wp_exit (then_x (then_x ?_))
 replace hm := inr_up hm hx169
 refine blk_x (tn (wp_seq (wrl ?_)))
 refine wv (p0) z z z (wv (p0) z z z (wl_nil (tn (wp_ret ?_))))
 obtain rfl := some_inj hm
 refine post_ret (vs := [p0]) results21 (rvs_cons (rv_tmp z) rvs_nil) ?_
 exact ⟨z, hst.keep1⟩
}
}

theorem octet_Writer_Flag_ref {w0 w : World} {I : HL} {R : SP} {a0 : octet_Writer} {p0 : Value} {a1 : Bool}  (hst : St w0 w I [at_octet_Writer p0 a0] R) {r : (octet_Writer)} (hm : octet_Writer_Flag a0 a1 = some r) :
  Calls prog 54 #[p0, .bool a1] w fun e w' => e = .returned (p0) ∧ St w0 w' I [at_octet_Writer p0 r] R := by {
 unfold octet_Writer_Flag at hm
 refine calls_start (args := [p0, .bool a1]) func54 z ntmps54 (Nat.le_of_ble_eq_true z) ?_
 refine wp_seq (wrl (wv (.pointer none) z z z (wl_nil (tn (wp_seq (wp_seq (wrl (wv (.bool a1) z z z (wl_nil (tn ?_))))))))))
 refine bsplit a1 (fun hc102 => ?_) (fun hc102 => ?_)
 {
 replace hm := bif_t hc102 hm
 refine wp_ift (cvb hc102) ?_
 refine wp_seq (wrl (wv (p0) z z z ?_))
 obtain ⟨t103, ht104, hm⟩ := bind_some hm
 refine wc call21 [p0, U6 (1:Int), I6 (1:Int)] z z z ?_
 refine (octet_Writer_Num_ref hst.to1 ht104).mono ?_
 rintro _ w105 ⟨rfl, hst⟩
 refine ⟨_, z, ?_⟩
 replace hst := hst.of1
 refine wv (p0) z z z (wl_nil (tn (wp_ret (then_r ?_))))
 obtain rfl := some_inj hm
 refine post_ret (vs := [p0]) results54 (rvs_cons (rv_tmp z) rvs_nil) ?_
 exact ⟨z, hst.keep1⟩
}
 {
 replace hm := bif_f hc102 hm
 refine wp_iff (cvb hc102) ?_
 refine wp_skip (tn (wp_seq (wrl ?_)))
 refine wv (p0) z z z ?_
 obtain ⟨t108, ht109, hm⟩ := bind_some hm
 refine wc call21 [p0, Zu, I6 (1:Int)] z z z ?_
 refine (octet_Writer_Num_ref hst.to1 ht109).mono ?_
 rintro _ w110 ⟨rfl, hst⟩
 refine ⟨_, z, ?_⟩
 replace hst := hst.of1
 refine wv (p0) z z z (wl_nil (tn (wp_ret ?_)))
 obtain rfl := some_inj hm
 refine post_ret (vs := [p0]) results54 (rvs_cons (rv_tmp z) rvs_nil) ?_
 exact ⟨z, hst.keep1⟩
}
}

theorem octet_Writer_Bytes_ref {w0 w : World} {I : HL} {R : SP} {a0 : octet_Writer} {p0 : Value} {a1 : (List Int)} {r1_0 : Value} (f1_0 : Rd (tyInt .u8) R I r1_0 a1) (hst : St w0 w I [at_octet_Writer p0 a0] R) {r : (octet_Writer)} (hm : octet_Writer_Bytes a0 a1 = some r) :
  Calls prog 25 #[p0, r1_0] w fun e w' => e = .returned (p0) ∧ St w0 w' I [at_octet_Writer p0 r] R := by {
 unfold octet_Writer_Bytes at hm
 refine calls_start (args := [p0, r1_0]) func25 z ntmps25 (Nat.le_of_ble_eq_true z) ?_
 refine wp_seq (wrl (wv (.pointer none) z z z (wl_nil (tn (wp_seq (wrl (wv (p0) z z z (wv (r1_0) z z z (wv (.int .i64 ((a1).length : Int)) z z (x_len z underlying22 (rd_sliceV f1_0)) (wv (.int .u64 (u64.wrap ((a1).length : Int))) z z (by kernel_rfl) ?_))))))))))
 obtain ⟨t168, ht169, hm⟩ := bind_some hm
 refine wc call21 [p0, U6 (u64.wrap ((a1).length : Int)), I6 (4:Int)] z z z ?_
 refine (octet_Writer_Num_ref hst.to1 ht169).mono ?_
 rintro _ w170 ⟨rfl, hst⟩
 refine ⟨_, z, ?_⟩
 replace hst := hst.of1
 refine wv (r1_0) z z z ?_
 obtain ⟨t173, ht174, hm⟩ := bind_some hm
 refine wc call53 [p0, r1_0] z z z ?_
 refine (octet_Writer_lay_ref (f1_0.mono (rd_weak _)) hst.to1 ht174).mono ?_
 rintro _ w175 ⟨rfl, hst⟩
 refine ⟨_, z, ?_⟩
 replace hst := hst.of1
 refine wv (p0) z z z (wl_nil (tn (wp_ret ?_)))
 obtain rfl := some_inj hm
 refine post_ret (vs := [p0]) results25 (rvs_cons (rv_tmp z) rvs_nil) ?_
 exact ⟨z, hst.keep1⟩
}

theorem mail_message_ref {w0 w : World} {I : HL} {R : SP} {a0 : octet_Writer} {p0 : Value} {a1 : api_Message} {r1_0 : Value} {r1_1 : Value} (f1_0 : Rd ty_api_Entry R I r1_0 a1.Entries) (f1_1 : Rd (tyInt .u8) R I r1_1 a1.S.Data) (hst : St w0 w I [at_octet_Writer p0 a0] R) {r : (octet_Writer)} (hm : mail_message a0 a1 = some r) :
  Calls prog 22 #[p0, .agg #[U1 a1.Kind, I6 a1.From, I6 a1.To, U6 a1.Term, U6 a1.Index, U6 a1.LogTerm, U6 a1.Commit, .bool a1.OK, r1_0, U6 a1.S.Index, U6 a1.S.Term, U6 a1.S.Voters, r1_1]] w fun e w' => e = .returned (.tuple #[]) ∧ St w0 w' I [at_octet_Writer p0 r] R := by {
 unfold mail_message at hm
 refine calls_start (args := [p0, .agg #[U1 a1.Kind, I6 a1.From, I6 a1.To, U6 a1.Term, U6 a1.Index, U6 a1.LogTerm, U6 a1.Commit, .bool a1.OK, r1_0, U6 a1.S.Index, U6 a1.S.Term, U6 a1.S.Voters, r1_1]]) func22 z ntmps22 (Nat.le_of_ble_eq_true z) ?_
 refine wp_seq (wrl ?_)
 obtain ⟨b295, w296, ew297, eb298, hst⟩ := hst.box [U1 a1.Kind, I6 a1.From, I6 a1.To, U6 a1.Term, U6 a1.Index, U6 a1.LogTerm, U6 a1.Commit, .bool a1.OK, r1_0, U6 a1.S.Index, U6 a1.S.Term, U6 a1.S.Voters, r1_1] 30
 refine wl_run (v := Pt b295 0) (w' := w296) z z (x_al (by kernel_rfl) ew297 eb298) ?_
 refine wl_nil (tn (wp_seq ?_))
 refine wp_region_St hst 28 [0, 1, 2, 3, 4, 5, 6, 7, 8, 9, 10, 11, 12, 13, 14, 15, 16, 17, 18, 19, 20, 21, 22, 23, 24, 25, 26, 27] [0, 0, 2, 6, 15, 0, 32, 96, 255, 0, 512, 1536, 4095, 0, 8192, 32767, 0, 65536, 262143, 0, 524288, 2097151, 0, 4194304, 16777215, 0, 33554432, 134217727] [] z (by kernel_rfl) (by kernel_rfl) Try.mixed (by kernel_rfl) ?_
 refine wsr (p0) 0 z z z (by kernel_rfl) (fun w hst => z) (wsr (Pt b295 0) 1 z z z (by kernel_rfl) (fun w hst => x_field z underlying30 z sizeOf5 z) (wsr (.int .u8 a1.Kind) 2 z z z (by kernel_rfl) (fun w hst => x_load z isAgg5 (hst.bc0 z)) (wsr (.int .u64 (u64.wrap a1.Kind)) 3 z z z (by kernel_rfl) (fun w hst => by kernel_rfl) (wsr (Pt b295 1) 5 z z z (by kernel_rfl) (fun w hst => x_field z underlying30 z sizeOf3 z) (wsr (.int .i64 a1.From) 6 z z z (by kernel_rfl) (fun w hst => x_load z isAgg3 (hst.bc0 z)) (wsr (.int .u64 (u64.wrap a1.From)) 7 z z z (by kernel_rfl) (fun w hst => by kernel_rfl) (wsr (Pt b295 2) 9 z z z (by kernel_rfl) (fun w hst => x_field z underlying30 z sizeOf3 z) (wsr (.int .i64 a1.To) 10 z z z (by kernel_rfl) (fun w hst => x_load z isAgg3 (hst.bc0 z)) (wsr (.int .u64 (u64.wrap a1.To)) 11 z z z (by kernel_rfl) (fun w hst => by kernel_rfl) (wsr (Pt b295 3) 13 z z z (by kernel_rfl) (fun w hst => x_field z underlying30 z sizeOf25 z) (wsr (.int .u64 a1.Term) 14 z z z (by kernel_rfl) (fun w hst => x_load z isAgg25 (hst.bc0 z)) (wsr (Pt b295 4) 16 z z z (by kernel_rfl) (fun w hst => x_field z underlying30 z sizeOf25 z) ?_))))))))))))
 refine wsr (.int .u64 a1.Index) 17 z z z (by kernel_rfl) (fun w hst => x_load z isAgg25 (hst.bc0 z)) (wsr (Pt b295 5) 19 z z z (by kernel_rfl) (fun w hst => x_field z underlying30 z sizeOf25 z) (wsr (.int .u64 a1.LogTerm) 20 z z z (by kernel_rfl) (fun w hst => x_load z isAgg25 (hst.bc0 z)) (wsr (Pt b295 6) 22 z z z (by kernel_rfl) (fun w hst => x_field z underlying30 z sizeOf25 z) (wsr (.int .u64 a1.Commit) 23 z z z (by kernel_rfl) (fun w hst => x_load z isAgg25 (hst.bc0 z)) (wsr (Pt b295 7) 25 z z z (by kernel_rfl) (fun w hst => x_field z underlying30 z sizeOf4 z) (wsr (.bool a1.OK) 26 z z z (by kernel_rfl) (fun w hst => x_load z isAgg4 (hst.bc0 z)) ?_))))))
 refine ws_e1 4 (by kernel_rfl) ?_
 refine nxe [8, 12, 15, 18, 21, 24, 27] (by kernel_rfl) z z ?_
 clear hst
 intro w hst
 replace hst := hst.pull1
 obtain ⟨t300, ht301, hm⟩ := bind_some hm
 refine wec call21 [p0, U6 (u64.wrap a1.Kind), I6 (1:Int)] z z ?_
 refine (octet_Writer_Num_ref hst.to1 ht301).mono ?_
 rintro _ w302 ⟨rfl, hst⟩
 refine ⟨_, z, ?_⟩
 replace hst := hst.of1
 refine ws_next (pend' := [(26, .bool a1.OK), (25, Pt b295 7), (23, U6 a1.Commit), (22, Pt b295 6), (20, U6 a1.LogTerm), (19, Pt b295 5), (17, U6 a1.Index), (16, Pt b295 4), (14, U6 a1.Term), (13, Pt b295 3), (11, U6 (u64.wrap a1.To)), (10, I6 a1.To), (9, Pt b295 2), (7, U6 (u64.wrap a1.From)), (6, I6 a1.From), (5, Pt b295 1)]) hst (by kernel_rfl) (pkr z z (fun w hst => x_load z isAgg4 (hst.bc1 z)) (pkr z z (fun w hst => x_field z underlying30 z sizeOf4 z) (pkr z z (fun w hst => x_load z isAgg25 (hst.bc1 z)) (pkr z z (fun w hst => x_field z underlying30 z sizeOf25 z) (pkr z z (fun w hst => x_load z isAgg25 (hst.bc1 z)) (pkr z z (fun w hst => x_field z underlying30 z sizeOf25 z) (pkr z z (fun w hst => x_load z isAgg25 (hst.bc1 z)) (pkr z z (fun w hst => x_field z underlying30 z sizeOf25 z) (pkr z z (fun w hst => x_load z isAgg25 (hst.bc1 z)) (pkr z z (fun w hst => x_field z underlying30 z sizeOf25 z) (pkr z z (fun w hst => by kernel_rfl) (pkr z z (fun w hst => x_load z isAgg3 (hst.bc1 z)) (pkr z z (fun w hst => x_field z underlying30 z sizeOf3 z) (pkr z z (fun w hst => by kernel_rfl) (pkr z z (fun w hst => x_load z isAgg3 (hst.bc1 z)) (pkr z z (fun w hst => x_field z underlying30 z sizeOf3 z) pk_nil)))))))))))))))) ?_
 refine ws_e1 8 (by kernel_rfl) ?_
 refine nxe [12, 15, 18, 21, 24, 27] (by kernel_rfl) z z ?_
 clear hst
 intro w hst
 obtain ⟨t305, ht306, hm⟩ := bind_some hm
 refine wec call21 [p0, U6 (u64.wrap a1.From), I6 (1:Int)] z z ?_
 refine (octet_Writer_Num_ref hst.to1 ht306).mono ?_
 rintro _ w307 ⟨rfl, hst⟩
 refine ⟨_, z, ?_⟩
 replace hst := hst.of1
 refine ws_next (pend' := [(26, .bool a1.OK), (25, Pt b295 7), (23, U6 a1.Commit), (22, Pt b295 6), (20, U6 a1.LogTerm), (19, Pt b295 5), (17, U6 a1.Index), (16, Pt b295 4), (14, U6 a1.Term), (13, Pt b295 3), (11, U6 (u64.wrap a1.To)), (10, I6 a1.To), (9, Pt b295 2)]) hst (by kernel_rfl) (pkr z z (fun w hst => x_load z isAgg4 (hst.bc1 z)) (pkr z z (fun w hst => x_field z underlying30 z sizeOf4 z) (pkr z z (fun w hst => x_load z isAgg25 (hst.bc1 z)) (pkr z z (fun w hst => x_field z underlying30 z sizeOf25 z) (pkr z z (fun w hst => x_load z isAgg25 (hst.bc1 z)) (pkr z z (fun w hst => x_field z underlying30 z sizeOf25 z) (pkr z z (fun w hst => x_load z isAgg25 (hst.bc1 z)) (pkr z z (fun w hst => x_field z underlying30 z sizeOf25 z) (pkr z z (fun w hst => x_load z isAgg25 (hst.bc1 z)) (pkr z z (fun w hst => x_field z underlying30 z sizeOf25 z) (pkr z z (fun w hst => by kernel_rfl) (pkr z z (fun w hst => x_load z isAgg3 (hst.bc1 z)) (pkr z z (fun w hst => x_field z underlying30 z sizeOf3 z) pk_nil))))))))))))) ?_
 refine ws_e1 12 (by kernel_rfl) ?_
 refine nxe [15, 18, 21, 24, 27] (by kernel_rfl) z z ?_
 clear hst
 intro w hst
 obtain ⟨t310, ht311, hm⟩ := bind_some hm
 refine wec call21 [p0, U6 (u64.wrap a1.To), I6 (1:Int)] z z ?_
 refine (octet_Writer_Num_ref hst.to1 ht311).mono ?_
 rintro _ w312 ⟨rfl, hst⟩
 refine ⟨_, z, ?_⟩
 replace hst := hst.of1
 refine ws_next (pend' := [(26, .bool a1.OK), (25, Pt b295 7), (23, U6 a1.Commit), (22, Pt b295 6), (20, U6 a1.LogTerm), (19, Pt b295 5), (17, U6 a1.Index), (16, Pt b295 4), (14, U6 a1.Term), (13, Pt b295 3)]) hst (by kernel_rfl) (pkr z z (fun w hst => x_load z isAgg4 (hst.bc1 z)) (pkr z z (fun w hst => x_field z underlying30 z sizeOf4 z) (pkr z z (fun w hst => x_load z isAgg25 (hst.bc1 z)) (pkr z z (fun w hst => x_field z underlying30 z sizeOf25 z) (pkr z z (fun w hst => x_load z isAgg25 (hst.bc1 z)) (pkr z z (fun w hst => x_field z underlying30 z sizeOf25 z) (pkr z z (fun w hst => x_load z isAgg25 (hst.bc1 z)) (pkr z z (fun w hst => x_field z underlying30 z sizeOf25 z) (pkr z z (fun w hst => x_load z isAgg25 (hst.bc1 z)) (pkr z z (fun w hst => x_field z underlying30 z sizeOf25 z) pk_nil)))))))))) ?_
 refine ws_e1 15 (by kernel_rfl) ?_
 refine nxe [18, 21, 24, 27] (by kernel_rfl) z z ?_
 clear hst
 intro w hst
 obtain ⟨t315, ht316, hm⟩ := bind_some hm
 refine wec call21 [p0, U6 a1.Term, I6 (8:Int)] z z ?_
 refine (octet_Writer_Num_ref hst.to1 ht316).mono ?_
 rintro _ w317 ⟨rfl, hst⟩
 refine ⟨_, z, ?_⟩
 replace hst := hst.of1
 refine ws_next (pend' := [(26, .bool a1.OK), (25, Pt b295 7), (23, U6 a1.Commit), (22, Pt b295 6), (20, U6 a1.LogTerm), (19, Pt b295 5), (17, U6 a1.Index), (16, Pt b295 4)]) hst (by kernel_rfl) (pkr z z (fun w hst => x_load z isAgg4 (hst.bc1 z)) (pkr z z (fun w hst => x_field z underlying30 z sizeOf4 z) (pkr z z (fun w hst => x_load z isAgg25 (hst.bc1 z)) (pkr z z (fun w hst => x_field z underlying30 z sizeOf25 z) (pkr z z (fun w hst => x_load z isAgg25 (hst.bc1 z)) (pkr z z (fun w hst => x_field z underlying30 z sizeOf25 z) (pkr z z (fun w hst => x_load z isAgg25 (hst.bc1 z)) (pkr z z (fun w hst => x_field z underlying30 z sizeOf25 z) pk_nil)))))))) ?_
 refine ws_e1 18 (by kernel_rfl) ?_
 refine nxe [21, 24, 27] (by kernel_rfl) z z ?_
 clear hst
 intro w hst
 obtain ⟨t320, ht321, hm⟩ := bind_some hm
 refine wec call21 [p0, U6 a1.Index, I6 (8:Int)] z z ?_
 refine (octet_Writer_Num_ref hst.to1 ht321).mono ?_
 rintro _ w322 ⟨rfl, hst⟩
 refine ⟨_, z, ?_⟩
 replace hst := hst.of1
 refine ws_next (pend' := [(26, .bool a1.OK), (25, Pt b295 7), (23, U6 a1.Commit), (22, Pt b295 6), (20, U6 a1.LogTerm), (19, Pt b295 5)]) hst (by kernel_rfl) (pkr z z (fun w hst => x_load z isAgg4 (hst.bc1 z)) (pkr z z (fun w hst => x_field z underlying30 z sizeOf4 z) (pkr z z (fun w hst => x_load z isAgg25 (hst.bc1 z)) (pkr z z (fun w hst => x_field z underlying30 z sizeOf25 z) (pkr z z (fun w hst => x_load z isAgg25 (hst.bc1 z)) (pkr z z (fun w hst => x_field z underlying30 z sizeOf25 z) pk_nil)))))) ?_
 refine ws_e1 21 (by kernel_rfl) ?_
 refine nxe [24, 27] (by kernel_rfl) z z ?_
 clear hst
 intro w hst
 obtain ⟨t325, ht326, hm⟩ := bind_some hm
 refine wec call21 [p0, U6 a1.LogTerm, I6 (8:Int)] z z ?_
 refine (octet_Writer_Num_ref hst.to1 ht326).mono ?_
 rintro _ w327 ⟨rfl, hst⟩
 refine ⟨_, z, ?_⟩
 replace hst := hst.of1
 refine ws_next (pend' := [(26, .bool a1.OK), (25, Pt b295 7), (23, U6 a1.Commit), (22, Pt b295 6)]) hst (by kernel_rfl) (pkr z z (fun w hst => x_load z isAgg4 (hst.bc1 z)) (pkr z z (fun w hst => x_field z underlying30 z sizeOf4 z) (pkr z z (fun w hst => x_load z isAgg25 (hst.bc1 z)) (pkr z z (fun w hst => x_field z underlying30 z sizeOf25 z) pk_nil)))) ?_
 refine ws_e1 24 (by kernel_rfl) ?_
 refine nxe [27] (by kernel_rfl) z z ?_
 clear hst
 intro w hst
 obtain ⟨t330, ht331, hm⟩ := bind_some hm
 refine wec call21 [p0, U6 a1.Commit, I6 (8:Int)] z z ?_
 refine (octet_Writer_Num_ref hst.to1 ht331).mono ?_
 rintro _ w332 ⟨rfl, hst⟩
 refine ⟨_, z, ?_⟩
 replace hst := hst.of1
 refine ws_next (pend' := [(26, .bool a1.OK), (25, Pt b295 7)]) hst (by kernel_rfl) (pkr z z (fun w hst => x_load z isAgg4 (hst.bc1 z)) (pkr z z (fun w hst => x_field z underlying30 z sizeOf4 z) pk_nil)) ?_
 refine ws_e1 27 (by kernel_rfl) ?_
 refine nxe [] (by kernel_rfl) z z ?_
 clear hst
 intro w hst
 obtain ⟨t335, ht336, hm⟩ := bind_some hm
 refine wec call54 [p0, .bool a1.OK] z z ?_
 refine (octet_Writer_Flag_ref hst.to1 ht336).mono ?_
 rintro _ w337 ⟨rfl, hst⟩
 refine ⟨_, z, ?_⟩
 replace hst := hst.of1
 refine ws_next (pend' := []) hst (by kernel_rfl) pk_nil ?_
 refine ws_nil ?_
 intro w hst
 refine tn (wp_seq (wrl (wv (p0) z z z (wv (Pt b295 8) z z (x_field z underlying30 z sizeOf26 z) (wv (r1_0) z z (x_load z isAgg26 (hst.bc1 z)) (wv (.int .i64 ((a1.Entries).length : Int)) z z (x_len z underlying26 (rd_sliceV f1_0)) (wv (.int .u64 (u64.wrap ((a1.Entries).length : Int))) z z (by kernel_rfl) ?_)))))))
 obtain ⟨t340, ht341, hm⟩ := bind_some hm
 refine wc call21 [p0, U6 (u64.wrap ((a1.Entries).length : Int)), I6 (4:Int)] z z z ?_
 refine (octet_Writer_Num_ref hst.to1 ht341).mono ?_
 rintro _ w342 ⟨rfl, hst⟩
 refine ⟨_, z, ?_⟩
 replace hst := hst.of1
 refine wl_nil (tn ?_)
 obtain ⟨y480, hm, hx481⟩ := bind_some hm
 refine wp_cut (fun a w => ∃ (z477 : octet_Writer) (σ478 : Nat → Value), (mail_message_j0 a1) z477 = some r ∧ a = Fr 79 (upd (upd σ478 0 (p0)) 3 (Pt b295 0)) ∧ St w0 w I [at_octet_Writer p0 z477, cells b295 [U1 a1.Kind, I6 a1.From, I6 a1.To, U6 a1.Term, U6 a1.Index, U6 a1.LogTerm, U6 a1.Commit, .bool a1.OK, r1_0, U6 a1.S.Index, U6 a1.S.Term, U6 a1.S.Voters, r1_1]] R) ?_ ?_
 {
 refine wp_seq (wrl (wv (Pt b295 8) z z (x_field z underlying30 z sizeOf26 z) (wv (r1_0) z z (x_load z isAgg26 (hst.bc1 z)) (wv (.int .i64 ((a1.Entries).length : Int)) z z (x_len z underlying26 (rd_sliceV f1_0)) (wv (.int .i64 (0:Int)) z z z (wl_nil (tn (wp_block ?_))))))))
 obtain ⟨n430, hm⟩ := loopO_some hm
 refine wp_loop_n (fun n a w => ∃ (z427 : octet_Writer) (z428 : Int) (σ429 : Nat → Value), loopN (mail_message_l1 a1) n (z427, z428) = some y480 ∧ a = Fr 79 (upd (upd (upd (upd (upd σ429 0 (p0)) 3 (Pt b295 0)) 41 (r1_0)) 42 (.int .i64 ((a1.Entries).length : Int))) 43 (.int .i64 z428)) ∧ St w0 w I [at_octet_Writer p0 z427, cells b295 [U1 a1.Kind, I6 a1.From, I6 a1.To, U6 a1.Term, U6 a1.Index, U6 a1.LogTerm, U6 a1.Commit, .bool a1.OK, r1_0, U6 a1.S.Index, U6 a1.S.Term, U6 a1.S.Voters, r1_1]] R) n430 ⟨t340, (0:Int), _, hm, (fu 0 p0 z (fu 3 (Pt b295 0) z (fu 41 r1_0 z (fu 42 (.int .i64 ((a1.Entries).length : Int)) z (fu 43 (.int .i64 (0:Int)) z z))))), hst⟩ ?_
 rintro n436 _ w431 ⟨z427, z428, σ429, hm, rfl, hst⟩
 obtain ⟨n433, y434, rfl, hm, hx435⟩ := loopN_some hm
 dsimp only [mail_message_l1] at hm
 refine wp_seq (wrl (wv (.bool (decide (z428 < ((a1.Entries).length : Int)))) z z z (wl_nil (tn (wp_seq ?_)))))
 refine bsplit (decide (z428 < ((a1.Entries).length : Int))) (fun hc437 => ?_) (fun hc437 => ?_)
 {
 replace hm := bif_t hc437 hm
 refine wp_ift (cvb hc437) ?_
 refine wp_skip (tn (wp_seq (wp_block (wp_seq (wrl ?_)))))
 obtain ⟨x438, hx439, hm⟩ := bind_some hm
 obtain ⟨h440, h441, hi442⟩ := geto_some hx439
 refine wv (.pointer (some (eAddr r1_0 (z428.toNat * 4 + 0)))) z z (x_index z z underlying26 sizeOf84 (rd_sliceV f1_0) h440 h441) ?_
 obtain ⟨cs443, hr444, hc445⟩ := Rd.getF f1_0 hi442
 obtain ⟨v446, rfl, f447, -⟩ := hr444
 refine wv (.agg #[U6 x438.Index, U6 x438.Term, U1 x438.Kind, v446]) z z (x_loadN (cs := [U6 x438.Index, U6 x438.Term, U1 x438.Kind, v446]) z isAgg84 sizeOf84 (eCells (o := 0) (hc445 (HL.le.refl _) hst) z)) ?_
 obtain ⟨b450, w451, ew452, eb453, hst⟩ := hst.box [Zu, Zu, Zb, Zs] 84
 refine wl_run (v := Pt b450 0) (w' := w451) z z (x_al (by kernel_rfl) ew452 eb453) ?_
 obtain ⟨w455, hr456, hst⟩ := hst.bx [U6 x438.Index, U6 x438.Term, U1 x438.Kind, v446] sizeOf84 z (oC z (oC z (oC z (oC (one_of_sliceV (rd_sliceV f447)) oN)))) (by kernel_rfl)
 refine wl_unit z z (x_unit hr456) ?_
 refine wl_nil (tn ?_)
 refine wp_region_St hst 14 [0, 1, 2, 3, 4, 5, 6, 7, 8, 9, 10, 11, 12, 13] [0, 0, 2, 7, 0, 16, 63, 0, 128, 384, 1023, 0, 2048, 8191] [] z (by kernel_rfl) (by kernel_rfl) Try.mixed (by kernel_rfl) ?_
 refine wsr (p0) 0 z z z (by kernel_rfl) (fun w hst => z) (wsr (Pt b450 0) 1 z z z (by kernel_rfl) (fun w hst => x_field z underlying84 z sizeOf25 z) (wsr (.int .u64 x438.Index) 2 z z z (by kernel_rfl) (fun w hst => x_load z isAgg25 (hst.bc0 z)) (wsr (Pt b450 1) 4 z z z (by kernel_rfl) (fun w hst => x_field z underlying84 z sizeOf25 z) (wsr (.int .u64 x438.Term) 5 z z z (by kernel_rfl) (fun w hst => x_load z isAgg25 (hst.bc0 z)) (wsr (Pt b450 2) 7 z z z (by kernel_rfl) (fun w hst => x_field z underlying84 z sizeOf5 z) (wsr (.int .u8 x438.Kind) 8 z z z (by kernel_rfl) (fun w hst => x_load z isAgg5 (hst.bc0 z)) (wsr (.int .u64 (u64.wrap x438.Kind)) 9 z z z (by kernel_rfl) (fun w hst => by kernel_rfl) (wsr (Pt b450 3) 11 z z z (by kernel_rfl) (fun w hst => x_field z underlying84 z sizeOf22 z) (wsr (v446) 12 z z z (by kernel_rfl) (fun w hst => x_load z isAgg22 (hst.bc0 z)) ?_)))))))))
 refine ws_e1 3 (by kernel_rfl) ?_
 refine nxe [6, 10, 13] (by kernel_rfl) z z ?_
 clear hst
 intro w hst
 replace hst := hst.pull1
 obtain ⟨t457, ht458, hm⟩ := bind_some hm
 refine wec call21 [p0, U6 x438.Index, I6 (8:Int)] z z ?_
 refine (octet_Writer_Num_ref hst.to1 ht458).mono ?_
 rintro _ w459 ⟨rfl, hst⟩
 refine ⟨_, z, ?_⟩
 replace hst := hst.of1
 refine ws_next (pend' := [(12, v446), (11, Pt b450 3), (9, U6 (u64.wrap x438.Kind)), (8, U1 x438.Kind), (7, Pt b450 2), (5, U6 x438.Term), (4, Pt b450 1)]) hst (by kernel_rfl) (pkr z z (fun w hst => x_load z isAgg22 (hst.bc1 z)) (pkr z z (fun w hst => x_field z underlying84 z sizeOf22 z) (pkr z z (fun w hst => by kernel_rfl) (pkr z z (fun w hst => x_load z isAgg5 (hst.bc1 z)) (pkr z z (fun w hst => x_field z underlying84 z sizeOf5 z) (pkr z z (fun w hst => x_load z isAgg25 (hst.bc1 z)) (pkr z z (fun w hst => x_field z underlying84 z sizeOf25 z) pk_nil))))))) ?_
 refine ws_e1 6 (by kernel_rfl) ?_
 refine nxe [10, 13] (by kernel_rfl) z z ?_
 clear hst
 intro w hst
 obtain ⟨t462, ht463, hm⟩ := bind_some hm
 refine wec call21 [p0, U6 x438.Term, I6 (8:Int)] z z ?_
 refine (octet_Writer_Num_ref hst.to1 ht463).mono ?_
 rintro _ w464 ⟨rfl, hst⟩
 refine ⟨_, z, ?_⟩
 replace hst := hst.of1
 refine ws_next (pend' := [(12, v446), (11, Pt b450 3), (9, U6 (u64.wrap x438.Kind)), (8, U1 x438.Kind), (7, Pt b450 2)]) hst (by kernel_rfl) (pkr z z (fun w hst => x_load z isAgg22 (hst.bc1 z)) (pkr z z (fun w hst => x_field z underlying84 z sizeOf22 z) (pkr z z (fun w hst => by kernel_rfl) (pkr z z (fun w hst => x_load z isAgg5 (hst.bc1 z)) (pkr z z (fun w hst => x_field z underlying84 z sizeOf5 z) pk_nil))))) ?_
 refine ws_e1 10 (by kernel_rfl) ?_
 refine nxe [13] (by kernel_rfl) z z ?_
 clear hst
 intro w hst
 obtain ⟨t467, ht468, hm⟩ := bind_some hm
 refine wec call21 [p0, U6 (u64.wrap x438.Kind), I6 (1:Int)] z z ?_
 refine (octet_Writer_Num_ref hst.to1 ht468).mono ?_
 rintro _ w469 ⟨rfl, hst⟩
 refine ⟨_, z, ?_⟩
 replace hst := hst.of1
 refine ws_next (pend' := [(12, v446), (11, Pt b450 3)]) hst (by kernel_rfl) (pkr z z (fun w hst => x_load z isAgg22 (hst.bc1 z)) (pkr z z (fun w hst => x_field z underlying84 z sizeOf22 z) pk_nil)) ?_
 refine ws_e1 13 (by kernel_rfl) ?_
 refine nxe [] (by kernel_rfl) z z ?_
 clear hst
 intro w hst
 obtain ⟨t472, ht473, hm⟩ := bind_some hm
 refine wec call25 [p0, v446] z z ?_
 refine (octet_Writer_Bytes_ref (f447.mono (rd_weak _)) hst.to1 ht473).mono ?_
 rintro _ w474 ⟨rfl, hst⟩
 refine ⟨_, z, ?_⟩
 replace hst := hst.of1
 refine ws_next (pend' := []) hst (by kernel_rfl) pk_nil ?_
 refine ws_nil ?_
 intro w hst
 refine blk_n (tn (wrl ?_))
 refine wv (.int .i64 (i64.wrap (z428 + (1:Int)))) z z z (wv (.int .i64 (i64.wrap (z428 + (1:Int)))) z z z (wl_nil (tn ?_)))
 replace hst := hst.pull2.pull1.keep2
 obtain rfl := some_inj hm
 exact ⟨_, Nat.lt_succ_self _, t472, (i64.wrap (z428 + (1:Int))), _, hx435, (fu 0 p0 z (fu 3 (Pt b295 0) z (fu 41 r1_0 z (fu 42 (.int .i64 ((a1.Entries).length : Int)) z (fu 43 (.int .i64 (i64.wrap (z428 + (1:Int)))) z z))))), hst⟩
}
 {
 replace hm := bif_f hc437 hm
 refine wp_iff (cvb hc437) ?_
 refine wp_exit (then_x (then_x ?_))
 replace hm := inr_up hm hx435
 refine blk_x (tn ?_)
 replace hst := hst.pull1.pull1.keep2
 obtain rfl := some_inj hm
 exact ⟨z427, _, hx481, (fu 0 p0 z (fu 3 (Pt b295 0) z z)), hst⟩
}
}
 {
 clear hst
 rintro _ w482 ⟨z477, σ478, hm, rfl, hst⟩
 dsimp only [mail_message_j0] at hm
 refine wp_region_St hst 17 [0, 1, 2, 3, 4, 5, 6, 7, 8, 9, 10, 11, 12, 13, 14, 15, 16] [0, 0, 2, 6, 15, 0, 32, 96, 255, 0, 512, 1536, 4095, 0, 8192, 24576, 65535] [] z (by kernel_rfl) (by kernel_rfl) Try.mixed (by kernel_rfl) ?_
 refine wsr (p0) 0 z z z (by kernel_rfl) (fun w hst => z) (wsr (Pt b295 9) 1 z z z (by kernel_rfl) (fun w hst => x_field z underlying30 z sizeOf28 z) (wsr (Pt b295 9) 2 z z z (by kernel_rfl) (fun w hst => x_field z underlying28 z sizeOf25 z) (wsr (.int .u64 a1.S.Index) 3 z z z (by kernel_rfl) (fun w hst => x_load z isAgg25 (hst.bc1 z)) (wsr (Pt b295 9) 5 z z z (by kernel_rfl) (fun w hst => x_field z underlying30 z sizeOf28 z) (wsr (Pt b295 10) 6 z z z (by kernel_rfl) (fun w hst => x_field z underlying28 z sizeOf25 z) (wsr (.int .u64 a1.S.Term) 7 z z z (by kernel_rfl) (fun w hst => x_load z isAgg25 (hst.bc1 z)) (wsr (Pt b295 9) 9 z z z (by kernel_rfl) (fun w hst => x_field z underlying30 z sizeOf28 z) (wsr (Pt b295 11) 10 z z z (by kernel_rfl) (fun w hst => x_field z underlying28 z sizeOf25 z) (wsr (.int .u64 a1.S.Voters) 11 z z z (by kernel_rfl) (fun w hst => x_load z isAgg25 (hst.bc1 z)) (wsr (Pt b295 9) 13 z z z (by kernel_rfl) (fun w hst => x_field z underlying30 z sizeOf28 z) (wsr (Pt b295 12) 14 z z z (by kernel_rfl) (fun w hst => x_field z underlying28 z sizeOf22 z) (wsr (r1_1) 15 z z z (by kernel_rfl) (fun w hst => x_load z isAgg22 (hst.bc1 z)) ?_))))))))))))
 refine ws_e1 4 (by kernel_rfl) ?_
 refine nxe [8, 12, 16] (by kernel_rfl) z z ?_
 clear hst
 intro w hst
 obtain ⟨t483, ht484, hm⟩ := bind_some hm
 refine wec call21 [p0, U6 a1.S.Index, I6 (8:Int)] z z ?_
 refine (octet_Writer_Num_ref hst.to1 ht484).mono ?_
 rintro _ w485 ⟨rfl, hst⟩
 refine ⟨_, z, ?_⟩
 replace hst := hst.of1
 refine ws_next (pend' := [(15, r1_1), (14, Pt b295 12), (13, Pt b295 9), (11, U6 a1.S.Voters), (10, Pt b295 11), (9, Pt b295 9), (7, U6 a1.S.Term), (6, Pt b295 10), (5, Pt b295 9)]) hst (by kernel_rfl) (pkr z z (fun w hst => x_load z isAgg22 (hst.bc1 z)) (pkr z z (fun w hst => x_field z underlying28 z sizeOf22 z) (pkr z z (fun w hst => x_field z underlying30 z sizeOf28 z) (pkr z z (fun w hst => x_load z isAgg25 (hst.bc1 z)) (pkr z z (fun w hst => x_field z underlying28 z sizeOf25 z) (pkr z z (fun w hst => x_field z underlying30 z sizeOf28 z) (pkr z z (fun w hst => x_load z isAgg25 (hst.bc1 z)) (pkr z z (fun w hst => x_field z underlying28 z sizeOf25 z) (pkr z z (fun w hst => x_field z underlying30 z sizeOf28 z) pk_nil))))))))) ?_
 refine ws_e1 8 (by kernel_rfl) ?_
 refine nxe [12, 16] (by kernel_rfl) z z ?_
 clear hst
 intro w hst
 obtain ⟨t488, ht489, hm⟩ := bind_some hm
 refine wec call21 [p0, U6 a1.S.Term, I6 (8:Int)] z z ?_
 refine (octet_Writer_Num_ref hst.to1 ht489).mono ?_
 rintro _ w490 ⟨rfl, hst⟩
 refine ⟨_, z, ?_⟩
 replace hst := hst.of1
 refine ws_next (pend' := [(15, r1_1), (14, Pt b295 12), (13, Pt b295 9), (11, U6 a1.S.Voters), (10, Pt b295 11), (9, Pt b295 9)]) hst (by kernel_rfl) (pkr z z (fun w hst => x_load z isAgg22 (hst.bc1 z)) (pkr z z (fun w hst => x_field z underlying28 z sizeOf22 z) (pkr z z (fun w hst => x_field z underlying30 z sizeOf28 z) (pkr z z (fun w hst => x_load z isAgg25 (hst.bc1 z)) (pkr z z (fun w hst => x_field z underlying28 z sizeOf25 z) (pkr z z (fun w hst => x_field z underlying30 z sizeOf28 z) pk_nil)))))) ?_
 refine ws_e1 12 (by kernel_rfl) ?_
 refine nxe [16] (by kernel_rfl) z z ?_
 clear hst
 intro w hst
 obtain ⟨t493, ht494, hm⟩ := bind_some hm
 refine wec call21 [p0, U6 a1.S.Voters, I6 (8:Int)] z z ?_
 refine (octet_Writer_Num_ref hst.to1 ht494).mono ?_
 rintro _ w495 ⟨rfl, hst⟩
 refine ⟨_, z, ?_⟩
 replace hst := hst.of1
 refine ws_next (pend' := [(15, r1_1), (14, Pt b295 12), (13, Pt b295 9)]) hst (by kernel_rfl) (pkr z z (fun w hst => x_load z isAgg22 (hst.bc1 z)) (pkr z z (fun w hst => x_field z underlying28 z sizeOf22 z) (pkr z z (fun w hst => x_field z underlying30 z sizeOf28 z) pk_nil))) ?_
 refine ws_e1 16 (by kernel_rfl) ?_
 refine nxe [] (by kernel_rfl) z z ?_
 clear hst
 intro w hst
 obtain ⟨t498, ht499, hm⟩ := bind_some hm
 refine wec call25 [p0, r1_1] z z ?_
 refine (octet_Writer_Bytes_ref (f1_1.mono (rd_weak _)) hst.to1 ht499).mono ?_
 rintro _ w500 ⟨rfl, hst⟩
 refine ⟨_, z, ?_⟩
 replace hst := hst.of1
 refine ws_next (pend' := []) hst (by kernel_rfl) pk_nil ?_
 refine ws_nil ?_
 intro w hst
 obtain rfl := some_inj hm
 refine post_end (vs := []) results22 rvs_nil ?_
 exact ⟨z, hst.keep1⟩
}
}

theorem octet_Writer_Done_ref {w0 w : World} {I : HL} {R : SP} {a0 : octet_Writer} {p0 : Value}  (hst : St w0 w I [at_octet_Writer p0 a0] R) {r : ((List Int))} (hm : octet_Writer_Done a0 = some r) :
  Calls prog 27 #[p0] w fun e w' => ∃ (q0_0 : Value), e = .returned (q0_0) ∧ St w0 w' I [ownS (tyInt .u8) q0_0 r] R := by {
 unfold octet_Writer_Done at hm
 refine calls_start (args := [p0]) func27 z ntmps27 (Nat.le_of_ble_eq_true z) ?_
 refine wp_seq (wrl (wv ((.slice none 0 0)) z z z (wl_nil (tn (wp_seq (wrl (wv (p0) z z z ?_)))))))
 obtain ⟨b93, v94, rfl, hst'⟩ := at_octet_Writer_open hst
 clear hst
 have hst := hst'
 clear hst'
 refine wv (Pt b93 0) z z z (wv (Pt b93 0) z z (x_field z underlying74 z sizeOf22 z) (wv (v94) z z (x_load z isAgg22 (hst.bc0 z)) (wv (v94) z z z (wl_nil (tn (wp_ret ?_))))))
 obtain rfl := some_inj hm
 refine post_ret (vs := [v94]) results27 (rvs_cons (rv_tmp z) rvs_nil) ?_
 replace hst := hst.pull1
 exact ⟨v94, z, hst.keep1⟩
}

theorem math_IsNaN_ref {w0 w : World} {I : HL} {R : SP} {a0 : Nat}  (hst : St w0 w I [] R) {r : (Bool)} (hm : math_IsNaN a0 = some r) :
  Calls prog 68 #[F6 a0] w fun e w' => e = .returned (.bool r) ∧ St w0 w' I [] R := by {
 unfold math_IsNaN at hm
 refine calls_start (args := [F6 a0]) func68 z ntmps68 (Nat.le_of_ble_eq_true z) ?_
 refine wp_seq (wrl (wv (.bool false) z z z (wl_nil (tn (wp_seq (wrl (wv (.float .f64 a0) z z z (wv (.float .f64 a0) z z z (wv (.bool (fNe a0 a0)) z z z (wv (.bool (fNe a0 a0)) z z z (wl_nil (tn (wp_ret ?_)))))))))))))
 obtain rfl := some_inj hm
 refine post_ret (vs := [.bool (fNe a0 a0)]) results68 (rvs_cons (rv_tmp z) rvs_nil) ?_
 exact ⟨z, hst.keep0⟩
}

theorem number_Rank_ref {w0 w : World} {I : HL} {R : SP} {a0 : Nat}  (hst : St w0 w I [] R) {r : (Int)} (hm : number_Rank a0 = some r) :
  Calls prog 55 #[F6 a0] w fun e w' => e = .returned (.int .u64 r) ∧ St w0 w' I [] R := by {
 unfold number_Rank at hm
 refine calls_start (args := [F6 a0]) func55 z ntmps55 (Nat.le_of_ble_eq_true z) ?_
 refine wp_seq (wrl (wv (.int .u64 (0:Int)) z z z (wl_nil (tn (wp_seq (wp_seq (wrl (wv (.float .f64 a0) z z z ?_))))))))
 obtain ⟨t144, ht145, hm⟩ := bind_some hm
 refine wc call68 [F6 a0] z z z ?_
 refine (math_IsNaN_ref hst.to0 ht145).mono ?_
 rintro _ w146 ⟨rfl, hst⟩
 refine ⟨_, z, ?_⟩
 replace hst := hst.of0
 refine wl_nil (tn ?_)
 refine bsplit t144 (fun hc149 => ?_) (fun hc149 => ?_)
 {
 replace hm := bif_t hc149 hm
 refine wp_ift (cvb hc149) ?_
 refine wp_seq (wrl (wv (.int .u64 (18446744073709551615:Int)) z z z (wl_nil (tn (wp_ret (then_r ?_))))))
 obtain rfl := some_inj hm
 refine post_ret (vs := [U6 (18446744073709551615:Int)]) results55 (rvs_cons (rv_tmp z) rvs_nil) ?_
 exact ⟨z, hst.keep0⟩
}
 {
 replace hm := bif_f hc149 hm
 refine wp_iff (cvb hc149) ?_
 refine wp_skip (tn (wp_seq (wrl ?_)))
 refine wv (.float .f64 a0) z z z (wv (.int .u64 (Int.ofNat a0)) z z (by kernel_rfl) (wv (.int .u64 (Int.ofNat a0)) z z z (wl_nil (tn (wp_seq (wp_seq (wrl (wv (.int .u64 (Int.ofNat a0)) z z z (wv (.int .u64 (iShr .u64 (Int.ofNat a0) (63:Int))) z z (x_shr (by decide) z z) (wv (.bool ((iShr .u64 (Int.ofNat a0) (63:Int)) == (1:Int))) z z z (wl_nil (tn ?_))))))))))))
 refine bsplit ((iShr .u64 (Int.ofNat a0) (63:Int)) == (1:Int)) (fun hc150 => ?_) (fun hc150 => ?_)
 {
 replace hm := bif_t hc150 hm
 refine wp_ift (cvb hc150) ?_
 refine wp_seq (wrl (wv (.int .u64 (Int.ofNat a0)) z z z (wv (.int .u64 (bXor .u64 ((18446744073709551615):Int) (Int.ofNat a0))) z z (by kernel_rfl) (wv (.int .u64 (bXor .u64 ((18446744073709551615):Int) (Int.ofNat a0))) z z z (wl_nil (tn (wp_ret (then_r ?_))))))))
 obtain rfl := some_inj hm
 refine post_ret (vs := [U6 (bXor .u64 ((18446744073709551615):Int) (Int.ofNat a0))]) results55 (rvs_cons (rv_tmp z) rvs_nil) ?_
 exact ⟨z, hst.keep0⟩
}
 {
 replace hm := bif_f hc150 hm
 refine wp_iff (cvb hc150) ?_
 refine wp_skip (tn (wp_seq (wrl ?_)))
 refine wv (.int .u64 (Int.ofNat a0)) z z z (wv (.int .u64 (bOr .u64 (Int.ofNat a0) (9223372036854775808:Int))) z z z (wv (.int .u64 (bOr .u64 (Int.ofNat a0) (9223372036854775808:Int))) z z z (wl_nil (tn (wp_ret ?_)))))
 obtain rfl := some_inj hm
 refine post_ret (vs := [U6 (bOr .u64 (Int.ofNat a0) (9223372036854775808:Int))]) results55 (rvs_cons (rv_tmp z) rvs_nil) ?_
 exact ⟨z, hst.keep0⟩
}
}
}

theorem locks_Lay_ref {w0 w : World} {I : HL} {R : SP} {a0 : octet_Writer} {p0 : Value} {a1 : api_Hold} {r1_0 : Value} {r1_1 : Value} {r1_2 : Value} {r1_3 : Value} (f1_0 : Rd tyF64 R I r1_0 a1.Gets) (f1_1 : Rd tyF2 R I r1_1 a1.Scans) (f1_2 : Rd tyF64 R I r1_2 a1.Puts) (f1_3 : Rd (tyInt .u8) R I r1_3 a1.Data) (hst : St w0 w I [at_octet_Writer p0 a0] R) {r : (octet_Writer)} (hm : locks_Lay a0 a1 = some r) :
  Calls prog 23 #[p0, .agg #[U6 a1.ID.Session, U6 a1.ID.Seq, U6 a1.Epoch, r1_0, r1_1, r1_2, r1_3]] w fun e w' => e = .returned (.tuple #[]) ∧ St w0 w' I [at_octet_Writer p0 r] R := by {
 unfold locks_Lay at hm
 refine calls_start (args := [p0, .agg #[U6 a1.ID.Session, U6 a1.ID.Seq, U6 a1.Epoch, r1_0, r1_1, r1_2, r1_3]]) func23 z ntmps23 (Nat.le_of_ble_eq_true z) ?_
 refine wp_seq (wrl ?_)
 obtain ⟨b400, w401, ew402, eb403, hst⟩ := hst.box [U6 a1.ID.Session, U6 a1.ID.Seq, U6 a1.Epoch, r1_0, r1_1, r1_2, r1_3] 36
 refine wl_run (v := Pt b400 0) (w' := w401) z z (x_al (by kernel_rfl) ew402 eb403) ?_
 refine wl_nil (tn (wp_seq ?_))
 refine wp_region_St hst 17 [0, 1, 2, 3, 4, 5, 6, 7, 8, 9, 10, 11, 12, 13, 14, 15, 16] [0, 0, 2, 6, 15, 0, 32, 96, 255, 0, 512, 2047, 0, 4096, 12288, 28672, 65535] [] z (by kernel_rfl) (by kernel_rfl) Try.mixed (by kernel_rfl) ?_
 refine wsr (p0) 0 z z z (by kernel_rfl) (fun w hst => z) (wsr (Pt b400 0) 1 z z z (by kernel_rfl) (fun w hst => x_field z underlying36 z sizeOf32 z) (wsr (Pt b400 0) 2 z z z (by kernel_rfl) (fun w hst => x_field z underlying32 z sizeOf25 z) (wsr (.int .u64 a1.ID.Session) 3 z z z (by kernel_rfl) (fun w hst => x_load z isAgg25 (hst.bc0 z)) (wsr (Pt b400 0) 5 z z z (by kernel_rfl) (fun w hst => x_field z underlying36 z sizeOf32 z) (wsr (Pt b400 1) 6 z z z (by kernel_rfl) (fun w hst => x_field z underlying32 z sizeOf25 z) (wsr (.int .u64 a1.ID.Seq) 7 z z z (by kernel_rfl) (fun w hst => x_load z isAgg25 (hst.bc0 z)) (wsr (Pt b400 2) 9 z z z (by kernel_rfl) (fun w hst => x_field z underlying36 z sizeOf25 z) (wsr (.int .u64 a1.Epoch) 10 z z z (by kernel_rfl) (fun w hst => x_load z isAgg25 (hst.bc0 z)) (wsr (Pt b400 3) 12 z z z (by kernel_rfl) (fun w hst => x_field z underlying36 z sizeOf33 z) (wsr (r1_0) 13 z z z (by kernel_rfl) (fun w hst => x_load z isAgg33 (hst.bc0 z)) (wsr (.int .i64 ((a1.Gets).length : Int)) 14 z z z (by kernel_rfl) (fun w hst => x_len z underlying33 (rd_sliceV f1_0)) (wsr (.int .u64 (u64.wrap ((a1.Gets).length : Int))) 15 z z z (by kernel_rfl) (fun w hst => by kernel_rfl) ?_))))))))))))
 refine ws_e1 4 (by kernel_rfl) ?_
 refine nxe [8, 11, 16] (by kernel_rfl) z z ?_
 clear hst
 intro w hst
 replace hst := hst.pull1
 obtain ⟨t405, ht406, hm⟩ := bind_some hm
 refine wec call21 [p0, U6 a1.ID.Session, I6 (8:Int)] z z ?_
 refine (octet_Writer_Num_ref hst.to1 ht406).mono ?_
 rintro _ w407 ⟨rfl, hst⟩
 refine ⟨_, z, ?_⟩
 replace hst := hst.of1
 refine ws_next (pend' := [(15, U6 (u64.wrap ((a1.Gets).length : Int))), (14, I6 ((a1.Gets).length : Int)), (13, r1_0), (12, Pt b400 3), (10, U6 a1.Epoch), (9, Pt b400 2), (7, U6 a1.ID.Seq), (6, Pt b400 1), (5, Pt b400 0)]) hst (by kernel_rfl) (pkr z z (fun w hst => by kernel_rfl) (pkr z z (fun w hst => x_len z underlying33 (rd_sliceV f1_0)) (pkr z z (fun w hst => x_load z isAgg33 (hst.bc1 z)) (pkr z z (fun w hst => x_field z underlying36 z sizeOf33 z) (pkr z z (fun w hst => x_load z isAgg25 (hst.bc1 z)) (pkr z z (fun w hst => x_field z underlying36 z sizeOf25 z) (pkr z z (fun w hst => x_load z isAgg25 (hst.bc1 z)) (pkr z z (fun w hst => x_field z underlying32 z sizeOf25 z) (pkr z z (fun w hst => x_field z underlying36 z sizeOf32 z) pk_nil))))))))) ?_
 refine ws_e1 8 (by kernel_rfl) ?_
 refine nxe [11, 16] (by kernel_rfl) z z ?_
 clear hst
 intro w hst
 obtain ⟨t410, ht411, hm⟩ := bind_some hm
 refine wec call21 [p0, U6 a1.ID.Seq, I6 (8:Int)] z z ?_
 refine (octet_Writer_Num_ref hst.to1 ht411).mono ?_
 rintro _ w412 ⟨rfl, hst⟩
 refine ⟨_, z, ?_⟩
 replace hst := hst.of1
 refine ws_next (pend' := [(15, U6 (u64.wrap ((a1.Gets).length : Int))), (14, I6 ((a1.Gets).length : Int)), (13, r1_0), (12, Pt b400 3), (10, U6 a1.Epoch), (9, Pt b400 2)]) hst (by kernel_rfl) (pkr z z (fun w hst => by kernel_rfl) (pkr z z (fun w hst => x_len z underlying33 (rd_sliceV f1_0)) (pkr z z (fun w hst => x_load z isAgg33 (hst.bc1 z)) (pkr z z (fun w hst => x_field z underlying36 z sizeOf33 z) (pkr z z (fun w hst => x_load z isAgg25 (hst.bc1 z)) (pkr z z (fun w hst => x_field z underlying36 z sizeOf25 z) pk_nil)))))) ?_
 refine ws_e1 11 (by kernel_rfl) ?_
 refine nxe [16] (by kernel_rfl) z z ?_
 clear hst
 intro w hst
 obtain ⟨t415, ht416, hm⟩ := bind_some hm
 refine wec call21 [p0, U6 a1.Epoch, I6 (8:Int)] z z ?_
 refine (octet_Writer_Num_ref hst.to1 ht416).mono ?_
 rintro _ w417 ⟨rfl, hst⟩
 refine ⟨_, z, ?_⟩
 replace hst := hst.of1
 refine ws_next (pend' := [(15, U6 (u64.wrap ((a1.Gets).length : Int))), (14, I6 ((a1.Gets).length : Int)), (13, r1_0), (12, Pt b400 3)]) hst (by kernel_rfl) (pkr z z (fun w hst => by kernel_rfl) (pkr z z (fun w hst => x_len z underlying33 (rd_sliceV f1_0)) (pkr z z (fun w hst => x_load z isAgg33 (hst.bc1 z)) (pkr z z (fun w hst => x_field z underlying36 z sizeOf33 z) pk_nil)))) ?_
 refine ws_e1 16 (by kernel_rfl) ?_
 refine nxe [] (by kernel_rfl) z z ?_
 clear hst
 intro w hst
 obtain ⟨t420, ht421, hm⟩ := bind_some hm
 refine wec call21 [p0, U6 (u64.wrap ((a1.Gets).length : Int)), I6 (4:Int)] z z ?_
 refine (octet_Writer_Num_ref hst.to1 ht421).mono ?_
 rintro _ w422 ⟨rfl, hst⟩
 refine ⟨_, z, ?_⟩
 replace hst := hst.of1
 refine ws_next (pend' := []) hst (by kernel_rfl) pk_nil ?_
 refine ws_nil ?_
 intro w hst
 refine tn ?_
 obtain ⟨y488, hm, hx489⟩ := bind_some hm
 refine wp_cut (fun a w => ∃ (z485 : octet_Writer) (σ486 : Nat → Value), (locks_Lay_j0 a1) z485 = some r ∧ a = Fr 84 (upd (upd σ486 0 (p0)) 3 (Pt b400 0)) ∧ St w0 w I [at_octet_Writer p0 z485, cells b400 [U6 a1.ID.Session, U6 a1.ID.Seq, U6 a1.Epoch, r1_0, r1_1, r1_2, r1_3]] R) ?_ ?_
 {
 refine wp_seq (wrl (wv (Pt b400 3) z z (x_field z underlying36 z sizeOf33 z) (wv (r1_0) z z (x_load z isAgg33 (hst.bc1 z)) (wv (.int .i64 ((a1.Gets).length : Int)) z z (x_len z underlying33 (rd_sliceV f1_0)) (wv (.int .i64 (0:Int)) z z z (wl_nil (tn (wp_block ?_))))))))
 obtain ⟨n462, hm⟩ := loopO_some hm
 refine wp_loop_n (fun n a w => ∃ (z459 : octet_Writer) (z460 : Int) (σ461 : Nat → Value), loopN (locks_Lay_l1 a1) n (z459, z460) = some y488 ∧ a = Fr 84 (upd (upd (upd (upd (upd σ461 0 (p0)) 3 (Pt b400 0)) 28 (r1_0)) 29 (.int .i64 ((a1.Gets).length : Int))) 30 (.int .i64 z460)) ∧ St w0 w I [at_octet_Writer p0 z459, cells b400 [U6 a1.ID.Session, U6 a1.ID.Seq, U6 a1.Epoch, r1_0, r1_1, r1_2, r1_3]] R) n462 ⟨t420, (0:Int), _, hm, (fu 0 p0 z (fu 3 (Pt b400 0) z (fu 28 r1_0 z (fu 29 (.int .i64 ((a1.Gets).length : Int)) z (fu 30 (.int .i64 (0:Int)) z z))))), hst⟩ ?_
 rintro n468 _ w463 ⟨z459, z460, σ461, hm, rfl, hst⟩
 obtain ⟨n465, y466, rfl, hm, hx467⟩ := loopN_some hm
 dsimp only [locks_Lay_l1] at hm
 refine wp_seq (wrl (wv (.bool (decide (z460 < ((a1.Gets).length : Int)))) z z z (wl_nil (tn (wp_seq ?_)))))
 refine bsplit (decide (z460 < ((a1.Gets).length : Int))) (fun hc469 => ?_) (fun hc469 => ?_)
 {
 replace hm := bif_t hc469 hm
 refine wp_ift (cvb hc469) ?_
 refine wp_skip (tn (wp_seq (wp_block (wp_seq (wrl ?_)))))
 obtain ⟨x470, hx471, hm⟩ := bind_some hm
 obtain ⟨h472, h473, hi474⟩ := geto_some hx471
 refine wv (.pointer (some (eAddr r1_0 (z460.toNat * 1 + 0)))) z z (x_index z z underlying33 sizeOf44 (rd_sliceV f1_0) h472 h473) (wv (.float .f64 x470) z z (x_load z isAgg44 (rd_load f1_0 (HL.le.refl _) hst hi474 (by rintro _ rfl; rfl))) (wv (.float .f64 x470) z z z (wl_nil (tn (wrl (wv (p0) z z z (wv (.float .f64 x470) z z z ?_)))))))
 obtain ⟨t475, ht476, hm⟩ := bind_some hm
 refine wc call55 [F6 x470] z z z ?_
 refine (number_Rank_ref hst.to0 ht476).mono ?_
 rintro _ w477 ⟨rfl, hst⟩
 refine ⟨_, z, ?_⟩
 replace hst := hst.of0
 obtain ⟨t480, ht481, hm⟩ := bind_some hm
 refine wc call21 [p0, U6 t475, I6 (8:Int)] z z z ?_
 refine (octet_Writer_Num_ref hst.to1 ht481).mono ?_
 rintro _ w482 ⟨rfl, hst⟩
 refine ⟨_, z, ?_⟩
 replace hst := hst.of1
 refine wl_nil (blk_n (tn (wrl (wv (.int .i64 (i64.wrap (z460 + (1:Int)))) z z z (wv (.int .i64 (i64.wrap (z460 + (1:Int)))) z z z (wl_nil (tn ?_)))))))
 replace hst := hst.pull1.pull1.keep2
 obtain rfl := some_inj hm
 exact ⟨_, Nat.lt_succ_self _, t480, (i64.wrap (z460 + (1:Int))), _, hx467, (fu 0 p0 z (fu 3 (Pt b400 0) z (fu 28 r1_0 z (fu 29 (.int .i64 ((a1.Gets).length : Int)) z (fu 30 (.int .i64 (i64.wrap (z460 + (1:Int)))) z z))))), hst⟩
}
 {
 replace hm := bif_f hc469 hm
 refine wp_iff (cvb hc469) ?_
 refine wp_exit (then_x (then_x ?_))
 replace hm := inr_up hm hx467
 refine blk_x (tn ?_)
 replace hst := hst.pull1.pull1.keep2
 obtain rfl := some_inj hm
 exact ⟨z459, _, hx489, (fu 0 p0 z (fu 3 (Pt b400 0) z z)), hst⟩
}
}
 {
 clear hst
 rintro _ w490 ⟨z485, σ486, hm, rfl, hst⟩
 dsimp only [locks_Lay_j0] at hm
 refine wp_seq (wrl (wv (p0) z z z (wv (Pt b400 4) z z (x_field z underlying36 z sizeOf34 z) (wv (r1_1) z z (x_load z isAgg34 (hst.bc1 z)) (wv (.int .i64 ((a1.Scans).length : Int)) z z (x_len z underlying34 (rd_sliceV f1_1)) (wv (.int .u64 (u64.wrap ((a1.Scans).length : Int))) z z (by kernel_rfl) ?_))))))
 obtain ⟨t491, ht492, hm⟩ := bind_some hm
 refine wc call21 [p0, U6 (u64.wrap ((a1.Scans).length : Int)), I6 (4:Int)] z z z ?_
 refine (octet_Writer_Num_ref hst.to1 ht492).mono ?_
 rintro _ w493 ⟨rfl, hst⟩
 refine ⟨_, z, ?_⟩
 replace hst := hst.of1
 refine wl_nil (tn ?_)
 obtain ⟨y610, hm, hx611⟩ := bind_some hm
 refine wp_cut (fun a w => ∃ (z607 : octet_Writer) (σ608 : Nat → Value), (locks_Lay_j2 a1) z607 = some r ∧ a = Fr 84 (upd (upd σ608 0 (p0)) 3 (Pt b400 0)) ∧ St w0 w I [at_octet_Writer p0 z607, cells b400 [U6 a1.ID.Session, U6 a1.ID.Seq, U6 a1.Epoch, r1_0, r1_1, r1_2, r1_3]] R) ?_ ?_
 {
 refine wp_seq (wrl (wv (Pt b400 4) z z (x_field z underlying36 z sizeOf34 z) (wv (r1_1) z z (x_load z isAgg34 (hst.bc1 z)) (wv (.int .i64 ((a1.Scans).length : Int)) z z (x_len z underlying34 (rd_sliceV f1_1)) (wv (.int .i64 (0:Int)) z z z (wl_nil (tn (wp_block ?_))))))))
 obtain ⟨n567, hm⟩ := loopO_some hm
 refine wp_loop_n (fun n a w => ∃ (z564 : octet_Writer) (z565 : Int) (σ566 : Nat → Value), loopN (locks_Lay_l3 a1) n (z564, z565) = some y610 ∧ a = Fr 84 (upd (upd (upd (upd (upd σ566 0 (p0)) 3 (Pt b400 0)) 46 (r1_1)) 47 (.int .i64 ((a1.Scans).length : Int))) 48 (.int .i64 z565)) ∧ St w0 w I [at_octet_Writer p0 z564, cells b400 [U6 a1.ID.Session, U6 a1.ID.Seq, U6 a1.Epoch, r1_0, r1_1, r1_2, r1_3]] R) n567 ⟨t491, (0:Int), _, hm, (fu 0 p0 z (fu 3 (Pt b400 0) z (fu 46 r1_1 z (fu 47 (.int .i64 ((a1.Scans).length : Int)) z (fu 48 (.int .i64 (0:Int)) z z))))), hst⟩ ?_
 rintro n573 _ w568 ⟨z564, z565, σ566, hm, rfl, hst⟩
 obtain ⟨n570, y571, rfl, hm, hx572⟩ := loopN_some hm
 dsimp only [locks_Lay_l3] at hm
 refine wp_seq (wrl (wv (.bool (decide (z565 < ((a1.Scans).length : Int)))) z z z (wl_nil (tn (wp_seq ?_)))))
 refine bsplit (decide (z565 < ((a1.Scans).length : Int))) (fun hc574 => ?_) (fun hc574 => ?_)
 {
 replace hm := bif_t hc574 hm
 refine wp_ift (cvb hc574) ?_
 refine wp_skip (tn (wp_seq (wp_block (wp_seq (wrl ?_)))))
 obtain ⟨x575, hx576, hm⟩ := bind_some hm
 obtain ⟨h577, h578, hi579⟩ := geto_some hx576
 refine wv (.pointer (some (eAddr r1_1 (z565.toNat * 2 + 0)))) z z (x_index z z underlying34 sizeOf102 (rd_sliceV f1_1) h577 h578) (wv (.agg #[F6 x575.1, F6 x575.2]) z z (x_loadN (cs := [F6 x575.1, F6 x575.2]) z isAgg102 sizeOf102 (rd_loadN f1_1 (HL.le.refl _) hst hi579 0 (by rintro _ rfl; rfl))) ?_)
 obtain ⟨b580, w581, ew582, eb583, hst⟩ := hst.box [Zf, Zf] 102
 refine wl_run (v := Pt b580 0) (w' := w581) z z (x_al (by kernel_rfl) ew582 eb583) ?_
 obtain ⟨w585, hr586, hst⟩ := hst.bx [F6 x575.1, F6 x575.2] sizeOf102 z (oC z (oC z oN)) (by kernel_rfl)
 refine wl_unit z z (x_unit hr586) ?_
 refine wl_nil (tn ?_)
 refine wp_region_St hst 9 [0, 1, 2, 3, 4, 5, 6, 7, 8] [0, 0, 2, 6, 15, 0, 32, 127, 255] [] z (by kernel_rfl) (by kernel_rfl) Try.mixed (by kernel_rfl) ?_
 refine wsr (p0) 0 z z z (by kernel_rfl) (fun w hst => z) (wsr (Pt b580 0) 1 z z z (by kernel_rfl) (fun w hst => x_index_arr (i := (0:Int)) z z underlying102 sizeOf44 (by decide) (by decide)) (wsr (.float .f64 x575.1) 2 z z z (by kernel_rfl) (fun w hst => x_load z isAgg44 (hst.bc0 z)) (wsr (Pt b580 1) 5 z z z (by kernel_rfl) (fun w hst => x_index_arr (i := (1:Int)) z z underlying102 sizeOf44 (by decide) (by decide)) (wsr (.float .f64 x575.2) 6 z z z (by kernel_rfl) (fun w hst => x_load z isAgg44 (hst.bc0 z)) ?_))))
 refine ws_e1 3 (by kernel_rfl) ?_
 refine nxe [4, 7, 8] (by kernel_rfl) z z ?_
 clear hst
 intro w hst
 obtain ⟨t587, ht588, hm⟩ := bind_some hm
 refine wec call55 [F6 x575.1] z z ?_
 refine (number_Rank_ref hst.to0 ht588).mono ?_
 rintro _ w589 ⟨rfl, hst⟩
 refine ⟨_, z, ?_⟩
 replace hst := hst.of0
 refine ws_next (pend' := [(6, F6 x575.2), (5, Pt b580 1), (0, p0)]) hst (by kernel_rfl) (pkr z z (fun w hst => x_load z isAgg44 (hst.bc0 z)) (pkr z z (fun w hst => x_index_arr (i := (1:Int)) z z underlying102 sizeOf44 (by decide) (by decide)) (pkr z z (fun w hst => z) pk_nil))) ?_
 refine ws_e1 4 (by kernel_rfl) ?_
 refine nxe [7, 8] (by kernel_rfl) z z ?_
 clear hst
 intro w hst
 replace hst := hst.pull1
 obtain ⟨t592, ht593, hm⟩ := bind_some hm
 refine wec call21 [p0, U6 t587, I6 (8:Int)] z z ?_
 refine (octet_Writer_Num_ref hst.to1 ht593).mono ?_
 rintro _ w594 ⟨rfl, hst⟩
 refine ⟨_, z, ?_⟩
 replace hst := hst.of1
 refine ws_next (pend' := [(6, F6 x575.2), (5, Pt b580 1)]) hst (by kernel_rfl) (pkr z z (fun w hst => x_load z isAgg44 (hst.bc1 z)) (pkr z z (fun w hst => x_index_arr (i := (1:Int)) z z underlying102 sizeOf44 (by decide) (by decide)) pk_nil)) ?_
 refine ws_e1 7 (by kernel_rfl) ?_
 refine nxe [8] (by kernel_rfl) z z ?_
 clear hst
 intro w hst
 obtain ⟨t597, ht598, hm⟩ := bind_some hm
 refine wec call55 [F6 x575.2] z z ?_
 refine (number_Rank_ref hst.to0 ht598).mono ?_
 rintro _ w599 ⟨rfl, hst⟩
 refine ⟨_, z, ?_⟩
 replace hst := hst.of0
 refine ws_next (pend' := []) hst (by kernel_rfl) pk_nil ?_
 refine ws_e1 8 (by kernel_rfl) ?_
 refine nxe [] (by kernel_rfl) z z ?_
 clear hst
 intro w hst
 obtain ⟨t602, ht603, hm⟩ := bind_some hm
 refine wec call21 [p0, U6 t597, I6 (8:Int)] z z ?_
 refine (octet_Writer_Num_ref hst.to1 ht603).mono ?_
 rintro _ w604 ⟨rfl, hst⟩
 refine ⟨_, z, ?_⟩
 replace hst := hst.of1
 refine ws_next (pend' := []) hst (by kernel_rfl) pk_nil ?_
 refine ws_nil ?_
 intro w hst
 refine blk_n (tn (wrl ?_))
 refine wv (.int .i64 (i64.wrap (z565 + (1:Int)))) z z z (wv (.int .i64 (i64.wrap (z565 + (1:Int)))) z z z (wl_nil (tn ?_)))
 replace hst := hst.pull2.pull1.keep2
 obtain rfl := some_inj hm
 exact ⟨_, Nat.lt_succ_self _, t602, (i64.wrap (z565 + (1:Int))), _, hx572, (fu 0 p0 z (fu 3 (Pt b400 0) z (fu 46 r1_1 z (fu 47 (.int .i64 ((a1.Scans).length : Int)) z (fu 48 (.int .i64 (i64.wrap (z565 + (1:Int)))) z z))))), hst⟩
}
 {
 replace hm := bif_f hc574 hm
 refine wp_iff (cvb hc574) ?_
 refine wp_exit (then_x (then_x ?_))
 replace hm := inr_up hm hx572
 refine blk_x (tn ?_)
 replace hst := hst.pull1.pull1.keep2
 obtain rfl := some_inj hm
 exact ⟨z564, _, hx611, (fu 0 p0 z (fu 3 (Pt b400 0) z z)), hst⟩
}
}
 {
 clear hst
 rintro _ w612 ⟨z607, σ608, hm, rfl, hst⟩
 dsimp only [locks_Lay_j2] at hm
 refine wp_seq (wrl (wv (p0) z z z (wv (Pt b400 5) z z (x_field z underlying36 z sizeOf33 z) (wv (r1_2) z z (x_load z isAgg33 (hst.bc1 z)) (wv (.int .i64 ((a1.Puts).length : Int)) z z (x_len z underlying33 (rd_sliceV f1_2)) (wv (.int .u64 (u64.wrap ((a1.Puts).length : Int))) z z (by kernel_rfl) ?_))))))
 obtain ⟨t613, ht614, hm⟩ := bind_some hm
 refine wc call21 [p0, U6 (u64.wrap ((a1.Puts).length : Int)), I6 (4:Int)] z z z ?_
 refine (octet_Writer_Num_ref hst.to1 ht614).mono ?_
 rintro _ w615 ⟨rfl, hst⟩
 refine ⟨_, z, ?_⟩
 replace hst := hst.of1
 refine wl_nil (tn ?_)
 obtain ⟨y681, hm, hx682⟩ := bind_some hm
 refine wp_cut (fun a w => ∃ (z678 : octet_Writer) (σ679 : Nat → Value), (locks_Lay_j4 a1) z678 = some r ∧ a = Fr 84 (upd (upd σ679 0 (p0)) 3 (Pt b400 0)) ∧ St w0 w I [at_octet_Writer p0 z678, cells b400 [U6 a1.ID.Session, U6 a1.ID.Seq, U6 a1.Epoch, r1_0, r1_1, r1_2, r1_3]] R) ?_ ?_
 {
 refine wp_seq (wrl (wv (Pt b400 5) z z (x_field z underlying36 z sizeOf33 z) (wv (r1_2) z z (x_load z isAgg33 (hst.bc1 z)) (wv (.int .i64 ((a1.Puts).length : Int)) z z (x_len z underlying33 (rd_sliceV f1_2)) (wv (.int .i64 (0:Int)) z z z (wl_nil (tn (wp_block ?_))))))))
 obtain ⟨n655, hm⟩ := loopO_some hm
 refine wp_loop_n (fun n a w => ∃ (z652 : octet_Writer) (z653 : Int) (σ654 : Nat → Value), loopN (locks_Lay_l5 a1) n (z652, z653) = some y681 ∧ a = Fr 84 (upd (upd (upd (upd (upd σ654 0 (p0)) 3 (Pt b400 0)) 69 (r1_2)) 70 (.int .i64 ((a1.Puts).length : Int))) 71 (.int .i64 z653)) ∧ St w0 w I [at_octet_Writer p0 z652, cells b400 [U6 a1.ID.Session, U6 a1.ID.Seq, U6 a1.Epoch, r1_0, r1_1, r1_2, r1_3]] R) n655 ⟨t613, (0:Int), _, hm, (fu 0 p0 z (fu 3 (Pt b400 0) z (fu 69 r1_2 z (fu 70 (.int .i64 ((a1.Puts).length : Int)) z (fu 71 (.int .i64 (0:Int)) z z))))), hst⟩ ?_
 rintro n661 _ w656 ⟨z652, z653, σ654, hm, rfl, hst⟩
 obtain ⟨n658, y659, rfl, hm, hx660⟩ := loopN_some hm
 dsimp only [locks_Lay_l5] at hm
 refine wp_seq (wrl (wv (.bool (decide (z653 < ((a1.Puts).length : Int)))) z z z (wl_nil (tn (wp_seq ?_)))))
 refine bsplit (decide (z653 < ((a1.Puts).length : Int))) (fun hc662 => ?_) (fun hc662 => ?_)
 {
 replace hm := bif_t hc662 hm
 refine wp_ift (cvb hc662) ?_
 refine wp_skip (tn (wp_seq (wp_block (wp_seq (wrl ?_)))))
 obtain ⟨x663, hx664, hm⟩ := bind_some hm
 obtain ⟨h665, h666, hi667⟩ := geto_some hx664
 refine wv (.pointer (some (eAddr r1_2 (z653.toNat * 1 + 0)))) z z (x_index z z underlying33 sizeOf44 (rd_sliceV f1_2) h665 h666) (wv (.float .f64 x663) z z (x_load z isAgg44 (rd_load f1_2 (HL.le.refl _) hst hi667 (by rintro _ rfl; rfl))) (wv (.float .f64 x663) z z z (wl_nil (tn (wrl (wv (p0) z z z (wv (.float .f64 x663) z z z ?_)))))))
 obtain ⟨t668, ht669, hm⟩ := bind_some hm
 refine wc call55 [F6 x663] z z z ?_
 refine (number_Rank_ref hst.to0 ht669).mono ?_
 rintro _ w670 ⟨rfl, hst⟩
 refine ⟨_, z, ?_⟩
 replace hst := hst.of0
 obtain ⟨t673, ht674, hm⟩ := bind_some hm
 refine wc call21 [p0, U6 t668, I6 (8:Int)] z z z ?_
 refine (octet_Writer_Num_ref hst.to1 ht674).mono ?_
 rintro _ w675 ⟨rfl, hst⟩
 refine ⟨_, z, ?_⟩
 replace hst := hst.of1
 refine wl_nil (blk_n (tn (wrl (wv (.int .i64 (i64.wrap (z653 + (1:Int)))) z z z (wv (.int .i64 (i64.wrap (z653 + (1:Int)))) z z z (wl_nil (tn ?_)))))))
 replace hst := hst.pull1.pull1.keep2
 obtain rfl := some_inj hm
 exact ⟨_, Nat.lt_succ_self _, t673, (i64.wrap (z653 + (1:Int))), _, hx660, (fu 0 p0 z (fu 3 (Pt b400 0) z (fu 69 r1_2 z (fu 70 (.int .i64 ((a1.Puts).length : Int)) z (fu 71 (.int .i64 (i64.wrap (z653 + (1:Int)))) z z))))), hst⟩
}
 {
 replace hm := bif_f hc662 hm
 refine wp_iff (cvb hc662) ?_
 refine wp_exit (then_x (then_x ?_))
 replace hm := inr_up hm hx660
 refine blk_x (tn ?_)
 replace hst := hst.pull1.pull1.keep2
 obtain rfl := some_inj hm
 exact ⟨z652, _, hx682, (fu 0 p0 z (fu 3 (Pt b400 0) z z)), hst⟩
}
}
 {
 clear hst
 rintro _ w683 ⟨z678, σ679, hm, rfl, hst⟩
 dsimp only [locks_Lay_j4] at hm
 refine wrl (wv (p0) z z z (wv (Pt b400 6) z z (x_field z underlying36 z sizeOf22 z) (wv (r1_3) z z (x_load z isAgg22 (hst.bc1 z)) ?_)))
 obtain ⟨t684, ht685, hm⟩ := bind_some hm
 refine wc call25 [p0, r1_3] z z z ?_
 refine (octet_Writer_Bytes_ref (f1_3.mono (rd_weak _)) hst.to1 ht685).mono ?_
 rintro _ w686 ⟨rfl, hst⟩
 refine ⟨_, z, ?_⟩
 replace hst := hst.of1
 refine wl_nil ?_
 obtain rfl := some_inj hm
 refine post_end (vs := []) results23 rvs_nil ?_
 exact ⟨z, hst.keep1⟩
}
}
}
}

theorem command_LayReply_ref {w0 w : World} {I : HL} {R : SP} {a0 : octet_Writer} {p0 : Value} {a1 : api_Reply} {r1_0 : Value} {r1_1 : Value} (f1_0 : Rd ty_api_Got R I r1_0 a1.Gots) (f1_1 : Rd (tySl ty_api_Pair) R I r1_1 a1.Scans) (hst : St w0 w I [at_octet_Writer p0 a0] R) {r : (octet_Writer)} (hm : command_LayReply a0 a1 = some r) :
  Calls prog 24 #[p0, .agg #[I6 a1.E, U6 a1.Epoch, U6 a1.Index, r1_0, r1_1]] w fun e w' => e = .returned (.tuple #[]) ∧ St w0 w' I [at_octet_Writer p0 r] R := by {
 unfold command_LayReply at hm
 refine calls_start (args := [p0, .agg #[I6 a1.E, U6 a1.Epoch, U6 a1.Index, r1_0, r1_1]]) func24 z ntmps24 (Nat.le_of_ble_eq_true z) ?_
 refine wp_seq (wrl ?_)
 obtain ⟨b677, w678, ew679, eb680, hst⟩ := hst.box [I6 a1.E, U6 a1.Epoch, U6 a1.Index, r1_0, r1_1] 41
 refine wl_run (v := Pt b677 0) (w' := w678) z z (x_al (by kernel_rfl) ew679 eb680) ?_
 refine wl_nil (tn (wp_seq ?_))
 refine wp_region_St hst 16 [0, 1, 2, 3, 4, 5, 6, 7, 8, 9, 10, 11, 12, 13, 14, 15] [0, 0, 2, 6, 15, 0, 32, 127, 0, 256, 1023, 0, 2048, 6144, 14336, 32767] [] z (by kernel_rfl) (by kernel_rfl) Try.mixed (by kernel_rfl) ?_
 refine wsr (p0) 0 z z z (by kernel_rfl) (fun w hst => z) (wsr (Pt b677 0) 1 z z z (by kernel_rfl) (fun w hst => x_field z underlying41 z sizeOf37 z) (wsr (.int .i64 a1.E) 2 z z z (by kernel_rfl) (fun w hst => x_load z isAgg37 (hst.bc0 z)) (wsr (.int .u64 (u64.wrap a1.E)) 3 z z z (by kernel_rfl) (fun w hst => by kernel_rfl) (wsr (Pt b677 1) 5 z z z (by kernel_rfl) (fun w hst => x_field z underlying41 z sizeOf25 z) (wsr (.int .u64 a1.Epoch) 6 z z z (by kernel_rfl) (fun w hst => x_load z isAgg25 (hst.bc0 z)) (wsr (Pt b677 2) 8 z z z (by kernel_rfl) (fun w hst => x_field z underlying41 z sizeOf25 z) (wsr (.int .u64 a1.Index) 9 z z z (by kernel_rfl) (fun w hst => x_load z isAgg25 (hst.bc0 z)) (wsr (Pt b677 3) 11 z z z (by kernel_rfl) (fun w hst => x_field z underlying41 z sizeOf38 z) (wsr (r1_0) 12 z z z (by kernel_rfl) (fun w hst => x_load z isAgg38 (hst.bc0 z)) (wsr (.int .i64 ((a1.Gots).length : Int)) 13 z z z (by kernel_rfl) (fun w hst => x_len z underlying38 (rd_sliceV f1_0)) (wsr (.int .u64 (u64.wrap ((a1.Gots).length : Int))) 14 z z z (by kernel_rfl) (fun w hst => by kernel_rfl) ?_)))))))))))
 refine ws_e1 4 (by kernel_rfl) ?_
 refine nxe [7, 10, 15] (by kernel_rfl) z z ?_
 clear hst
 intro w hst
 replace hst := hst.pull1
 obtain ⟨t682, ht683, hm⟩ := bind_some hm
 refine wec call21 [p0, U6 (u64.wrap a1.E), I6 (1:Int)] z z ?_
 refine (octet_Writer_Num_ref hst.to1 ht683).mono ?_
 rintro _ w684 ⟨rfl, hst⟩
 refine ⟨_, z, ?_⟩
 replace hst := hst.of1
 refine ws_next (pend' := [(14, U6 (u64.wrap ((a1.Gots).length : Int))), (13, I6 ((a1.Gots).length : Int)), (12, r1_0), (11, Pt b677 3), (9, U6 a1.Index), (8, Pt b677 2), (6, U6 a1.Epoch), (5, Pt b677 1)]) hst (by kernel_rfl) (pkr z z (fun w hst => by kernel_rfl) (pkr z z (fun w hst => x_len z underlying38 (rd_sliceV f1_0)) (pkr z z (fun w hst => x_load z isAgg38 (hst.bc1 z)) (pkr z z (fun w hst => x_field z underlying41 z sizeOf38 z) (pkr z z (fun w hst => x_load z isAgg25 (hst.bc1 z)) (pkr z z (fun w hst => x_field z underlying41 z sizeOf25 z) (pkr z z (fun w hst => x_load z isAgg25 (hst.bc1 z)) (pkr z z (fun w hst => x_field z underlying41 z sizeOf25 z) pk_nil)))))))) ?_
 refine ws_e1 7 (by kernel_rfl) ?_
 refine nxe [10, 15] (by kernel_rfl) z z ?_
 clear hst
 intro w hst
 obtain ⟨t687, ht688, hm⟩ := bind_some hm
 refine wec call21 [p0, U6 a1.Epoch, I6 (8:Int)] z z ?_
 refine (octet_Writer_Num_ref hst.to1 ht688).mono ?_
 rintro _ w689 ⟨rfl, hst⟩
 refine ⟨_, z, ?_⟩
 replace hst := hst.of1
 refine ws_next (pend' := [(14, U6 (u64.wrap ((a1.Gots).length : Int))), (13, I6 ((a1.Gots).length : Int)), (12, r1_0), (11, Pt b677 3), (9, U6 a1.Index), (8, Pt b677 2)]) hst (by kernel_rfl) (pkr z z (fun w hst => by kernel_rfl) (pkr z z (fun w hst => x_len z underlying38 (rd_sliceV f1_0)) (pkr z z (fun w hst => x_load z isAgg38 (hst.bc1 z)) (pkr z z (fun w hst => x_field z underlying41 z sizeOf38 z) (pkr z z (fun w hst => x_load z isAgg25 (hst.bc1 z)) (pkr z z (fun w hst => x_field z underlying41 z sizeOf25 z) pk_nil)))))) ?_
 refine ws_e1 10 (by kernel_rfl) ?_
 refine nxe [15] (by kernel_rfl) z z ?_
 clear hst
 intro w hst
 obtain ⟨t692, ht693, hm⟩ := bind_some hm
 refine wec call21 [p0, U6 a1.Index, I6 (8:Int)] z z ?_
 refine (octet_Writer_Num_ref hst.to1 ht693).mono ?_
 rintro _ w694 ⟨rfl, hst⟩
 refine ⟨_, z, ?_⟩
 replace hst := hst.of1
 refine ws_next (pend' := [(14, U6 (u64.wrap ((a1.Gots).length : Int))), (13, I6 ((a1.Gots).length : Int)), (12, r1_0), (11, Pt b677 3)]) hst (by kernel_rfl) (pkr z z (fun w hst => by kernel_rfl) (pkr z z (fun w hst => x_len z underlying38 (rd_sliceV f1_0)) (pkr z z (fun w hst => x_load z isAgg38 (hst.bc1 z)) (pkr z z (fun w hst => x_field z underlying41 z sizeOf38 z) pk_nil)))) ?_
 refine ws_e1 15 (by kernel_rfl) ?_
 refine nxe [] (by kernel_rfl) z z ?_
 clear hst
 intro w hst
 obtain ⟨t697, ht698, hm⟩ := bind_some hm
 refine wec call21 [p0, U6 (u64.wrap ((a1.Gots).length : Int)), I6 (4:Int)] z z ?_
 refine (octet_Writer_Num_ref hst.to1 ht698).mono ?_
 rintro _ w699 ⟨rfl, hst⟩
 refine ⟨_, z, ?_⟩
 replace hst := hst.of1
 refine ws_next (pend' := []) hst (by kernel_rfl) pk_nil ?_
 refine ws_nil ?_
 intro w hst
 refine tn ?_
 obtain ⟨y807, hm, hx808⟩ := bind_some hm
 refine wp_cut (fun a w => ∃ (z804 : octet_Writer) (σ805 : Nat → Value), (command_LayReply_j0 a1) z804 = some r ∧ a = Fr 75 (upd (upd σ805 0 (p0)) 3 (Pt b677 0)) ∧ St w0 w I [at_octet_Writer p0 z804, cells b677 [I6 a1.E, U6 a1.Epoch, U6 a1.Index, r1_0, r1_1]] R) ?_ ?_
 {
 refine wp_seq (wrl (wv (Pt b677 3) z z (x_field z underlying41 z sizeOf38 z) (wv (r1_0) z z (x_load z isAgg38 (hst.bc1 z)) (wv (.int .i64 ((a1.Gots).length : Int)) z z (x_len z underlying38 (rd_sliceV f1_0)) (wv (.int .i64 (0:Int)) z z z (wl_nil (tn (wp_block ?_))))))))
 obtain ⟨n767, hm⟩ := loopO_some hm
 refine wp_loop_n (fun n a w => ∃ (z764 : octet_Writer) (z765 : Int) (σ766 : Nat → Value), loopN (command_LayReply_l1 a1) n (z764, z765) = some y807 ∧ a = Fr 75 (upd (upd (upd (upd (upd σ766 0 (p0)) 3 (Pt b677 0)) 27 (r1_0)) 28 (.int .i64 ((a1.Gots).length : Int))) 29 (.int .i64 z765)) ∧ St w0 w I [at_octet_Writer p0 z764, cells b677 [I6 a1.E, U6 a1.Epoch, U6 a1.Index, r1_0, r1_1]] R) n767 ⟨t697, (0:Int), _, hm, (fu 0 p0 z (fu 3 (Pt b677 0) z (fu 27 r1_0 z (fu 28 (.int .i64 ((a1.Gots).length : Int)) z (fu 29 (.int .i64 (0:Int)) z z))))), hst⟩ ?_
 rintro n773 _ w768 ⟨z764, z765, σ766, hm, rfl, hst⟩
 obtain ⟨n770, y771, rfl, hm, hx772⟩ := loopN_some hm
 dsimp only [command_LayReply_l1] at hm
 refine wp_seq (wrl (wv (.bool (decide (z765 < ((a1.Gots).length : Int)))) z z z (wl_nil (tn (wp_seq ?_)))))
 refine bsplit (decide (z765 < ((a1.Gots).length : Int))) (fun hc774 => ?_) (fun hc774 => ?_)
 {
 replace hm := bif_t hc774 hm
 refine wp_ift (cvb hc774) ?_
 refine wp_skip (tn (wp_seq (wp_block (wp_seq (wrl ?_)))))
 obtain ⟨x775, hx776, hm⟩ := bind_some hm
 obtain ⟨h777, h778, hi779⟩ := geto_some hx776
 refine wv (.pointer (some (eAddr r1_0 (z765.toNat * 2 + 0)))) z z (x_index z z underlying38 sizeOf104 (rd_sliceV f1_0) h777 h778) ?_
 obtain ⟨cs780, hr781, hc782⟩ := Rd.getF f1_0 hi779
 obtain ⟨v783, rfl, f784, -⟩ := hr781
 refine wv (.agg #[.bool x775.Has, v783]) z z (x_loadN (cs := [.bool x775.Has, v783]) z isAgg104 sizeOf104 (eCells (o := 0) (hc782 (HL.le.refl _) hst) z)) ?_
 obtain ⟨b787, w788, ew789, eb790, hst⟩ := hst.box [.bool false, Zs] 104
 refine wl_run (v := Pt b787 0) (w' := w788) z z (x_al (by kernel_rfl) ew789 eb790) ?_
 obtain ⟨w792, hr793, hst⟩ := hst.bx [.bool x775.Has, v783] sizeOf104 z (oC z (oC (one_of_sliceV (rd_sliceV f784)) oN)) (by kernel_rfl)
 refine wl_unit z z (x_unit hr793) ?_
 refine wl_nil (tn ?_)
 refine wp_region_St hst 7 [0, 1, 2, 3, 4, 5, 6] [0, 0, 2, 7, 0, 16, 63] [] z (by kernel_rfl) (by kernel_rfl) Try.mixed (by kernel_rfl) ?_
 refine wsr (p0) 0 z z z (by kernel_rfl) (fun w hst => z) (wsr (Pt b787 0) 1 z z z (by kernel_rfl) (fun w hst => x_field z underlying104 z sizeOf4 z) (wsr (.bool x775.Has) 2 z z z (by kernel_rfl) (fun w hst => x_load z isAgg4 (hst.bc0 z)) (wsr (Pt b787 1) 4 z z z (by kernel_rfl) (fun w hst => x_field z underlying104 z sizeOf22 z) (wsr (v783) 5 z z z (by kernel_rfl) (fun w hst => x_load z isAgg22 (hst.bc0 z)) ?_))))
 refine ws_e1 3 (by kernel_rfl) ?_
 refine nxe [6] (by kernel_rfl) z z ?_
 clear hst
 intro w hst
 replace hst := hst.pull1
 obtain ⟨t794, ht795, hm⟩ := bind_some hm
 refine wec call54 [p0, .bool x775.Has] z z ?_
 refine (octet_Writer_Flag_ref hst.to1 ht795).mono ?_
 rintro _ w796 ⟨rfl, hst⟩
 refine ⟨_, z, ?_⟩
 replace hst := hst.of1
 refine ws_next (pend' := [(5, v783), (4, Pt b787 1)]) hst (by kernel_rfl) (pkr z z (fun w hst => x_load z isAgg22 (hst.bc1 z)) (pkr z z (fun w hst => x_field z underlying104 z sizeOf22 z) pk_nil)) ?_
 refine ws_e1 6 (by kernel_rfl) ?_
 refine nxe [] (by kernel_rfl) z z ?_
 clear hst
 intro w hst
 obtain ⟨t799, ht800, hm⟩ := bind_some hm
 refine wec call25 [p0, v783] z z ?_
 refine (octet_Writer_Bytes_ref (f784.mono (rd_weak _)) hst.to1 ht800).mono ?_
 rintro _ w801 ⟨rfl, hst⟩
 refine ⟨_, z, ?_⟩
 replace hst := hst.of1
 refine ws_next (pend' := []) hst (by kernel_rfl) pk_nil ?_
 refine ws_nil ?_
 intro w hst
 refine blk_n (tn (wrl ?_))
 refine wv (.int .i64 (i64.wrap (z765 + (1:Int)))) z z z (wv (.int .i64 (i64.wrap (z765 + (1:Int)))) z z z (wl_nil (tn ?_)))
 replace hst := hst.pull2.pull1.keep2
 obtain rfl := some_inj hm
 exact ⟨_, Nat.lt_succ_self _, t799, (i64.wrap (z765 + (1:Int))), _, hx772, (fu 0 p0 z (fu 3 (Pt b677 0) z (fu 27 r1_0 z (fu 28 (.int .i64 ((a1.Gots).length : Int)) z (fu 29 (.int .i64 (i64.wrap (z765 + (1:Int)))) z z))))), hst⟩
}
 {
 replace hm := bif_f hc774 hm
 refine wp_iff (cvb hc774) ?_
 refine wp_exit (then_x (then_x ?_))
 replace hm := inr_up hm hx772
 refine blk_x (tn ?_)
 replace hst := hst.pull1.pull1.keep2
 obtain rfl := some_inj hm
 exact ⟨z764, _, hx808, (fu 0 p0 z (fu 3 (Pt b677 0) z z)), hst⟩
}
}
 {
 clear hst
 rintro _ w809 ⟨z804, σ805, hm, rfl, hst⟩
 dsimp only [command_LayReply_j0] at hm
 refine wp_seq (wrl (wv (p0) z z z (wv (Pt b677 4) z z (x_field z underlying41 z sizeOf39 z) (wv (r1_1) z z (x_load z isAgg39 (hst.bc1 z)) (wv (.int .i64 ((a1.Scans).length : Int)) z z (x_len z underlying39 (rd_sliceV f1_1)) (wv (.int .u64 (u64.wrap ((a1.Scans).length : Int))) z z (by kernel_rfl) ?_))))))
 obtain ⟨t810, ht811, hm⟩ := bind_some hm
 refine wc call21 [p0, U6 (u64.wrap ((a1.Scans).length : Int)), I6 (4:Int)] z z z ?_
 refine (octet_Writer_Num_ref hst.to1 ht811).mono ?_
 rintro _ w812 ⟨rfl, hst⟩
 refine ⟨_, z, ?_⟩
 replace hst := hst.of1
 refine wl_nil (tn (wp_seq (wrl (wv (Pt b677 4) z z (x_field z underlying41 z sizeOf39 z) (wv (r1_1) z z (x_load z isAgg39 (hst.bc1 z)) (wv (.int .i64 ((a1.Scans).length : Int)) z z (x_len z underlying39 (rd_sliceV f1_1)) (wv (.int .i64 (0:Int)) z z z (wl_nil (tn (wp_block ?_))))))))))
 replace hst := hst.pull1.sub
 obtain ⟨n1088, hm⟩ := loopO_some hm
 refine wp_loop_n (fun n a w => ∃ (z1085 : octet_Writer) (z1086 : Int) (σ1087 : Nat → Value), loopN (command_LayReply_l2 a1) n (z1085, z1086) = some r ∧ a = Fr 75 (upd (upd (upd (upd σ1087 0 (p0)) 48 (r1_1)) 49 (.int .i64 ((a1.Scans).length : Int))) 50 (.int .i64 z1086)) ∧ St w0 w I [at_octet_Writer p0 z1085] R) n1088 ⟨t810, (0:Int), _, hm, (fu 0 p0 z (fu 48 r1_1 z (fu 49 (.int .i64 ((a1.Scans).length : Int)) z (fu 50 (.int .i64 (0:Int)) z z)))), hst⟩ ?_
 rintro n1094 _ w1089 ⟨z1085, z1086, σ1087, hm, rfl, hst⟩
 obtain ⟨n1091, y1092, rfl, hm, hx1093⟩ := loopN_some hm
 dsimp only [command_LayReply_l2] at hm
 refine wp_seq (wrl (wv (.bool (decide (z1086 < ((a1.Scans).length : Int)))) z z z (wl_nil (tn (wp_seq ?_)))))
 refine bsplit (decide (z1086 < ((a1.Scans).length : Int))) (fun hc1095 => ?_) (fun hc1095 => ?_)
 {
 replace hm := bif_t hc1095 hm
 refine wp_ift (cvb hc1095) ?_
 refine wp_skip (tn (wp_seq (wp_block (wp_seq (wrl ?_)))))
 obtain ⟨x1096, hx1097, hm⟩ := bind_some hm
 obtain ⟨h1098, h1099, hi1100⟩ := geto_some hx1097
 refine wv (.pointer (some (eAddr r1_1 (z1086.toNat * 1 + 0)))) z z (x_index z z underlying39 sizeOf105 (rd_sliceV f1_1) h1098 h1099) ?_
 obtain ⟨cs1101, hr1102, hc1103⟩ := Rd.getF f1_1 hi1100
 obtain ⟨v1104, rfl, f1105, -⟩ := hr1102
 refine wv (v1104) z z (x_load z isAgg105 ((hc1103 (HL.le.refl _) hst) 0 _ z)) (wv (v1104) z z z (wl_nil (tn (wp_seq (wrl (wv (p0) z z z (wv (v1104) z z z (wv (.int .i64 ((x1096).length : Int)) z z (x_len z underlying105 (rd_sliceV f1105)) (wv (.int .u64 (u64.wrap ((x1096).length : Int))) z z (by kernel_rfl) ?_)))))))))
 obtain ⟨t1107, ht1108, hm⟩ := bind_some hm
 refine wc call21 [p0, U6 (u64.wrap ((x1096).length : Int)), I6 (4:Int)] z z z ?_
 refine (octet_Writer_Num_ref hst.to1 ht1108).mono ?_
 rintro _ w1109 ⟨rfl, hst⟩
 refine ⟨_, z, ?_⟩
 replace hst := hst.of1
 refine wl_nil (tn (wp_seq (wrl (wv (v1104) z z z (wv (.int .i64 ((x1096).length : Int)) z z (x_len z underlying105 (rd_sliceV f1105)) (wv (.int .i64 (0:Int)) z z z (wl_nil (tn (wp_block ?_)))))))))
 obtain ⟨n1187, hm⟩ := loopO_some hm
 refine wp_loop_n (fun n a w => ∃ (z1184 : octet_Writer) (z1185 : Int) (σ1186 : Nat → Value), loopN (command_LayReply_l3 x1096 z1086) n (z1184, z1185) = some y1092 ∧ a = Fr 75 (upd (upd (upd (upd (upd (upd (upd σ1186 0 (p0)) 48 (r1_1)) 49 (.int .i64 ((a1.Scans).length : Int))) 50 (.int .i64 z1086)) 59 (v1104)) 60 (.int .i64 ((x1096).length : Int))) 61 (.int .i64 z1185)) ∧ St w0 w I [at_octet_Writer p0 z1184] R) n1187 ⟨t1107, (0:Int), _, hm, (fu 0 p0 z (fu 48 r1_1 z (fu 49 (.int .i64 ((a1.Scans).length : Int)) z (fu 50 (.int .i64 z1086) z (fu 59 v1104 z (fu 60 (.int .i64 ((x1096).length : Int)) z (fu 61 (.int .i64 (0:Int)) z z))))))), hst⟩ ?_
 rintro n1193 _ w1188 ⟨z1184, z1185, σ1186, hm, rfl, hst⟩
 obtain ⟨n1190, y1191, rfl, hm, hx1192⟩ := loopN_some hm
 dsimp only [command_LayReply_l3] at hm
 refine wp_seq (wrl (wv (.bool (decide (z1185 < ((x1096).length : Int)))) z z z (wl_nil (tn (wp_seq ?_)))))
 refine bsplit (decide (z1185 < ((x1096).length : Int))) (fun hc1194 => ?_) (fun hc1194 => ?_)
 {
 replace hm := bif_t hc1194 hm
 refine wp_ift (cvb hc1194) ?_
 refine wp_skip (tn (wp_seq (wp_block (wp_seq (wrl ?_)))))
 obtain ⟨x1195, hx1196, hm⟩ := bind_some hm
 obtain ⟨h1197, h1198, hi1199⟩ := geto_some hx1196
 refine wv (.pointer (some (eAddr v1104 (z1185.toNat * 2 + 0)))) z z (x_index z z underlying105 sizeOf107 (rd_sliceV f1105) h1197 h1198) ?_
 obtain ⟨cs1200, hr1201, hc1202⟩ := Rd.getF f1105 hi1199
 obtain ⟨v1203, rfl, f1204, -⟩ := hr1201
 refine wv (.agg #[F6 x1195.At, v1203]) z z (x_loadN (cs := [F6 x1195.At, v1203]) z isAgg107 sizeOf107 (eCells (o := 0) (hc1202 (HL.le.refl _) hst) z)) ?_
 obtain ⟨b1207, w1208, ew1209, eb1210, hst⟩ := hst.box [Zf, Zs] 107
 refine wl_run (v := Pt b1207 0) (w' := w1208) z z (x_al (by kernel_rfl) ew1209 eb1210) ?_
 obtain ⟨w1212, hr1213, hst⟩ := hst.bx [F6 x1195.At, v1203] sizeOf107 z (oC z (oC (one_of_sliceV (rd_sliceV f1204)) oN)) (by kernel_rfl)
 refine wl_unit z z (x_unit hr1213) ?_
 refine wl_nil (tn ?_)
 refine wp_region_St hst 8 [0, 1, 2, 3, 4, 5, 6, 7] [0, 0, 2, 6, 15, 0, 32, 127] [] z (by kernel_rfl) (by kernel_rfl) Try.mixed (by kernel_rfl) ?_
 refine wsr (p0) 0 z z z (by kernel_rfl) (fun w hst => z) (wsr (Pt b1207 0) 1 z z z (by kernel_rfl) (fun w hst => x_field z underlying107 z sizeOf44 z) (wsr (.float .f64 x1195.At) 2 z z z (by kernel_rfl) (fun w hst => x_load z isAgg44 (hst.bc0 z)) (wsr (Pt b1207 1) 5 z z z (by kernel_rfl) (fun w hst => x_field z underlying107 z sizeOf22 z) (wsr (v1203) 6 z z z (by kernel_rfl) (fun w hst => x_load z isAgg22 (hst.bc0 z)) ?_))))
 refine ws_e1 3 (by kernel_rfl) ?_
 refine nxe [4, 7] (by kernel_rfl) z z ?_
 clear hst
 intro w hst
 obtain ⟨t1214, ht1215, hm⟩ := bind_some hm
 refine wec call55 [F6 x1195.At] z z ?_
 refine (number_Rank_ref hst.to0 ht1215).mono ?_
 rintro _ w1216 ⟨rfl, hst⟩
 refine ⟨_, z, ?_⟩
 replace hst := hst.of0
 refine ws_next (pend' := [(6, v1203), (5, Pt b1207 1), (0, p0)]) hst (by kernel_rfl) (pkr z z (fun w hst => x_load z isAgg22 (hst.bc0 z)) (pkr z z (fun w hst => x_field z underlying107 z sizeOf22 z) (pkr z z (fun w hst => z) pk_nil))) ?_
 refine ws_e1 4 (by kernel_rfl) ?_
 refine nxe [7] (by kernel_rfl) z z ?_
 clear hst
 intro w hst
 replace hst := hst.pull1
 obtain ⟨t1219, ht1220, hm⟩ := bind_some hm
 refine wec call21 [p0, U6 t1214, I6 (8:Int)] z z ?_
 refine (octet_Writer_Num_ref hst.to1 ht1220).mono ?_
 rintro _ w1221 ⟨rfl, hst⟩
 refine ⟨_, z, ?_⟩
 replace hst := hst.of1
 refine ws_next (pend' := [(6, v1203), (5, Pt b1207 1)]) hst (by kernel_rfl) (pkr z z (fun w hst => x_load z isAgg22 (hst.bc1 z)) (pkr z z (fun w hst => x_field z underlying107 z sizeOf22 z) pk_nil)) ?_
 refine ws_e1 7 (by kernel_rfl) ?_
 refine nxe [] (by kernel_rfl) z z ?_
 clear hst
 intro w hst
 obtain ⟨t1224, ht1225, hm⟩ := bind_some hm
 refine wec call25 [p0, v1203] z z ?_
 refine (octet_Writer_Bytes_ref (f1204.mono (rd_weak _)) hst.to1 ht1225).mono ?_
 rintro _ w1226 ⟨rfl, hst⟩
 refine ⟨_, z, ?_⟩
 replace hst := hst.of1
 refine ws_next (pend' := []) hst (by kernel_rfl) pk_nil ?_
 refine ws_nil ?_
 intro w hst
 refine blk_n (tn (wrl ?_))
 refine wv (.int .i64 (i64.wrap (z1185 + (1:Int)))) z z z (wv (.int .i64 (i64.wrap (z1185 + (1:Int)))) z z z (wl_nil (tn ?_)))
 replace hst := hst.keep1
 obtain rfl := some_inj hm
 exact ⟨_, Nat.lt_succ_self _, t1224, (i64.wrap (z1185 + (1:Int))), _, hx1192, (fu 0 p0 z (fu 48 r1_1 z (fu 49 (.int .i64 ((a1.Scans).length : Int)) z (fu 50 (.int .i64 z1086) z (fu 59 v1104 z (fu 60 (.int .i64 ((x1096).length : Int)) z (fu 61 (.int .i64 (i64.wrap (z1185 + (1:Int)))) z z))))))), hst⟩
}
 {
 replace hm := bif_f hc1194 hm
 refine wp_iff (cvb hc1194) ?_
 refine wp_exit (then_x (then_x ?_))
 replace hm := inr_up hm hx1192
 refine blk_x (blk_n (tn (wrl ?_)))
 refine wv (.int .i64 (i64.wrap (z1086 + (1:Int)))) z z z (wv (.int .i64 (i64.wrap (z1086 + (1:Int)))) z z z (wl_nil (tn ?_)))
 replace hst := hst.keep1
 obtain rfl := some_inj hm
 exact ⟨_, Nat.lt_succ_self _, z1184, (i64.wrap (z1086 + (1:Int))), _, hx1093, (fu 0 p0 z (fu 48 r1_1 z (fu 49 (.int .i64 ((a1.Scans).length : Int)) z (fu 50 (.int .i64 (i64.wrap (z1086 + (1:Int)))) z z)))), hst⟩
}
}
 {
 replace hm := bif_f hc1095 hm
 refine wp_iff (cvb hc1095) ?_
 refine wp_exit (then_x (then_x ?_))
 replace hm := inr_up hm hx1093
 refine blk_x ?_
 obtain rfl := some_inj hm
 refine post_end (vs := []) results24 rvs_nil ?_
 exact ⟨z, hst.keep1⟩
}
}
}

theorem command_writes_ref {w0 w : World} {I : HL} {R : SP} {a0 : octet_Writer} {p0 : Value} {a1 : (List api_Write)} {r1_0 : Value} (f1_0 : Rd ty_api_Write R I r1_0 a1) (hst : St w0 w I [at_octet_Writer p0 a0] R) {r : (octet_Writer)} (hm : command_writes a0 a1 = some r) :
  Calls prog 57 #[p0, r1_0] w fun e w' => e = .returned (.tuple #[]) ∧ St w0 w' I [at_octet_Writer p0 r] R := by {
 unfold command_writes at hm
 refine calls_start (args := [p0, r1_0]) func57 z ntmps57 (Nat.le_of_ble_eq_true z) ?_
 refine wp_seq (wrl (wv (p0) z z z (wv (r1_0) z z z (wv (.int .i64 ((a1).length : Int)) z z (x_len z underlying42 (rd_sliceV f1_0)) (wv (.int .u64 (u64.wrap ((a1).length : Int))) z z (by kernel_rfl) ?_)))))
 obtain ⟨t363, ht364, hm⟩ := bind_some hm
 refine wc call21 [p0, U6 (u64.wrap ((a1).length : Int)), I6 (4:Int)] z z z ?_
 refine (octet_Writer_Num_ref hst.to1 ht364).mono ?_
 rintro _ w365 ⟨rfl, hst⟩
 refine ⟨_, z, ?_⟩
 replace hst := hst.of1
 refine wl_nil (tn (wp_seq (wrl (wv (r1_0) z z z (wv (.int .i64 ((a1).length : Int)) z z (x_len z underlying42 (rd_sliceV f1_0)) (wv (.int .i64 (0:Int)) z z z (wl_nil (tn (wp_block ?_)))))))))
 obtain ⟨n453, hm⟩ := loopO_some hm
 refine wp_loop_n (fun n a w => ∃ (z450 : octet_Writer) (z451 : Int) (σ452 : Nat → Value), loopN (command_writes_l0 a1) n (z450, z451) = some r ∧ a = Fr 29 (upd (upd (upd (upd σ452 0 (p0)) 11 (r1_0)) 12 (.int .i64 ((a1).length : Int))) 13 (.int .i64 z451)) ∧ St w0 w I [at_octet_Writer p0 z450] R) n453 ⟨t363, (0:Int), _, hm, (fu 0 p0 z (fu 11 r1_0 z (fu 12 (.int .i64 ((a1).length : Int)) z (fu 13 (.int .i64 (0:Int)) z z)))), hst⟩ ?_
 rintro n459 _ w454 ⟨z450, z451, σ452, hm, rfl, hst⟩
 obtain ⟨n456, y457, rfl, hm, hx458⟩ := loopN_some hm
 dsimp only [command_writes_l0] at hm
 refine wp_seq (wrl (wv (.bool (decide (z451 < ((a1).length : Int)))) z z z (wl_nil (tn (wp_seq ?_)))))
 refine bsplit (decide (z451 < ((a1).length : Int))) (fun hc460 => ?_) (fun hc460 => ?_)
 {
 replace hm := bif_t hc460 hm
 refine wp_ift (cvb hc460) ?_
 refine wp_skip (tn (wp_seq (wp_block (wp_seq (wrl ?_)))))
 obtain ⟨x461, hx462, hm⟩ := bind_some hm
 obtain ⟨h463, h464, hi465⟩ := geto_some hx462
 refine wv (.pointer (some (eAddr r1_0 (z451.toNat * 3 + 0)))) z z (x_index z z underlying42 sizeOf120 (rd_sliceV f1_0) h463 h464) ?_
 obtain ⟨cs466, hr467, hc468⟩ := Rd.getF f1_0 hi465
 obtain ⟨v469, rfl, f470, -⟩ := hr467
 refine wv (.agg #[F6 x461.At, .bool x461.Del, v469]) z z (x_loadN (cs := [F6 x461.At, .bool x461.Del, v469]) z isAgg120 sizeOf120 (eCells (o := 0) (hc468 (HL.le.refl _) hst) z)) ?_
 obtain ⟨b473, w474, ew475, eb476, hst⟩ := hst.box [Zf, .bool false, Zs] 120
 refine wl_run (v := Pt b473 0) (w' := w474) z z (x_al (by kernel_rfl) ew475 eb476) ?_
 obtain ⟨w478, hr479, hst⟩ := hst.bx [F6 x461.At, .bool x461.Del, v469] sizeOf120 z (oC z (oC z (oC (one_of_sliceV (rd_sliceV f470)) oN))) (by kernel_rfl)
 refine wl_unit z z (x_unit hr479) ?_
 refine wl_nil (tn ?_)
 refine wp_region_St hst 11 [0, 1, 2, 3, 4, 5, 6, 7, 8, 9, 10] [0, 0, 2, 6, 15, 0, 32, 127, 0, 256, 1023] [] z (by kernel_rfl) (by kernel_rfl) Try.mixed (by kernel_rfl) ?_
 refine wsr (p0) 0 z z z (by kernel_rfl) (fun w hst => z) (wsr (Pt b473 0) 1 z z z (by kernel_rfl) (fun w hst => x_field z underlying120 z sizeOf44 z) (wsr (.float .f64 x461.At) 2 z z z (by kernel_rfl) (fun w hst => x_load z isAgg44 (hst.bc0 z)) (wsr (Pt b473 1) 5 z z z (by kernel_rfl) (fun w hst => x_field z underlying120 z sizeOf4 z) (wsr (.bool x461.Del) 6 z z z (by kernel_rfl) (fun w hst => x_load z isAgg4 (hst.bc0 z)) (wsr (Pt b473 2) 8 z z z (by kernel_rfl) (fun w hst => x_field z underlying120 z sizeOf22 z) (wsr (v469) 9 z z z (by kernel_rfl) (fun w hst => x_load z isAgg22 (hst.bc0 z)) ?_))))))
 refine ws_e1 3 (by kernel_rfl) ?_
 refine nxe [4, 7, 10] (by kernel_rfl) z z ?_
 clear hst
 intro w hst
 obtain ⟨t480, ht481, hm⟩ := bind_some hm
 refine wec call55 [F6 x461.At] z z ?_
 refine (number_Rank_ref hst.to0 ht481).mono ?_
 rintro _ w482 ⟨rfl, hst⟩
 refine ⟨_, z, ?_⟩
 replace hst := hst.of0
 refine ws_next (pend' := [(9, v469), (8, Pt b473 2), (6, .bool x461.Del), (5, Pt b473 1), (0, p0)]) hst (by kernel_rfl) (pkr z z (fun w hst => x_load z isAgg22 (hst.bc0 z)) (pkr z z (fun w hst => x_field z underlying120 z sizeOf22 z) (pkr z z (fun w hst => x_load z isAgg4 (hst.bc0 z)) (pkr z z (fun w hst => x_field z underlying120 z sizeOf4 z) (pkr z z (fun w hst => z) pk_nil))))) ?_
 refine ws_e1 4 (by kernel_rfl) ?_
 refine nxe [7, 10] (by kernel_rfl) z z ?_
 clear hst
 intro w hst
 replace hst := hst.pull1
 obtain ⟨t485, ht486, hm⟩ := bind_some hm
 refine wec call21 [p0, U6 t480, I6 (8:Int)] z z ?_
 refine (octet_Writer_Num_ref hst.to1 ht486).mono ?_
 rintro _ w487 ⟨rfl, hst⟩
 refine ⟨_, z, ?_⟩
 replace hst := hst.of1
 refine ws_next (pend' := [(9, v469), (8, Pt b473 2), (6, .bool x461.Del), (5, Pt b473 1)]) hst (by kernel_rfl) (pkr z z (fun w hst => x_load z isAgg22 (hst.bc1 z)) (pkr z z (fun w hst => x_field z underlying120 z sizeOf22 z) (pkr z z (fun w hst => x_load z isAgg4 (hst.bc1 z)) (pkr z z (fun w hst => x_field z underlying120 z sizeOf4 z) pk_nil)))) ?_
 refine ws_e1 7 (by kernel_rfl) ?_
 refine nxe [10] (by kernel_rfl) z z ?_
 clear hst
 intro w hst
 obtain ⟨t490, ht491, hm⟩ := bind_some hm
 refine wec call54 [p0, .bool x461.Del] z z ?_
 refine (octet_Writer_Flag_ref hst.to1 ht491).mono ?_
 rintro _ w492 ⟨rfl, hst⟩
 refine ⟨_, z, ?_⟩
 replace hst := hst.of1
 refine ws_next (pend' := [(9, v469), (8, Pt b473 2)]) hst (by kernel_rfl) (pkr z z (fun w hst => x_load z isAgg22 (hst.bc1 z)) (pkr z z (fun w hst => x_field z underlying120 z sizeOf22 z) pk_nil)) ?_
 refine ws_e1 10 (by kernel_rfl) ?_
 refine nxe [] (by kernel_rfl) z z ?_
 clear hst
 intro w hst
 obtain ⟨t495, ht496, hm⟩ := bind_some hm
 refine wec call25 [p0, v469] z z ?_
 refine (octet_Writer_Bytes_ref (f470.mono (rd_weak _)) hst.to1 ht496).mono ?_
 rintro _ w497 ⟨rfl, hst⟩
 refine ⟨_, z, ?_⟩
 replace hst := hst.of1
 refine ws_next (pend' := []) hst (by kernel_rfl) pk_nil ?_
 refine ws_nil ?_
 intro w hst
 refine blk_n (tn (wrl ?_))
 refine wv (.int .i64 (i64.wrap (z451 + (1:Int)))) z z z (wv (.int .i64 (i64.wrap (z451 + (1:Int)))) z z z (wl_nil (tn ?_)))
 replace hst := hst.keep1
 obtain rfl := some_inj hm
 exact ⟨_, Nat.lt_succ_self _, t495, (i64.wrap (z451 + (1:Int))), _, hx458, (fu 0 p0 z (fu 11 r1_0 z (fu 12 (.int .i64 ((a1).length : Int)) z (fu 13 (.int .i64 (i64.wrap (z451 + (1:Int)))) z z)))), hst⟩
}
 {
 replace hm := bif_f hc460 hm
 refine wp_iff (cvb hc460) ?_
 refine wp_exit (then_x (then_x ?_))
 replace hm := inr_up hm hx458
 refine blk_x ?_
 obtain rfl := some_inj hm
 refine post_end (vs := []) results57 rvs_nil ?_
 exact ⟨z, hst.keep1⟩
}
}

theorem command_layRule_ref {w0 w : World} {I : HL} {R : SP} {a0 : octet_Writer} {p0 : Value} {a1 : api_Rule}  (hst : St w0 w I [at_octet_Writer p0 a0] R) {r : (octet_Writer)} (hm : command_layRule a0 a1 = some r) :
  Calls prog 58 #[p0, .agg #[U6 a1.ID, I6 a1.From, I6 a1.To, F6 a1.Lo, F6 a1.Hi, U6 a1.Authority, I6 a1.Quota]] w fun e w' => e = .returned (.tuple #[]) ∧ St w0 w' I [at_octet_Writer p0 r] R := by {
 unfold command_layRule at hm
 refine calls_start (args := [p0, .agg #[U6 a1.ID, I6 a1.From, I6 a1.To, F6 a1.Lo, F6 a1.Hi, U6 a1.Authority, I6 a1.Quota]]) func58 z ntmps58 (Nat.le_of_ble_eq_true z) ?_
 refine wp_seq (wrl ?_)
 obtain ⟨b461, w462, ew463, eb464, hst⟩ := hst.box [U6 a1.ID, I6 a1.From, I6 a1.To, F6 a1.Lo, F6 a1.Hi, U6 a1.Authority, I6 a1.Quota] 46
 refine wl_run (v := Pt b461 0) (w' := w462) z z (x_al (by kernel_rfl) ew463 eb464) ?_
 refine wl_nil (tn ?_)
 refine wp_region_St hst 27 [0, 1, 2, 3, 4, 5, 6, 7, 8, 9, 10, 11, 12, 13, 14, 15, 16, 17, 18, 19, 20, 21, 22, 23, 24, 25, 26] [0, 0, 2, 7, 0, 16, 48, 127, 0, 256, 768, 2047, 0, 4096, 16383, 32767, 0, 65536, 262143, 524287, 0, 1048576, 4194303, 0, 8388608, 25165824, 67108863] [] z (by kernel_rfl) (by kernel_rfl) Try.mixed (by kernel_rfl) ?_
 refine wsr (p0) 0 z z z (by kernel_rfl) (fun w hst => z) (wsr (Pt b461 0) 1 z z z (by kernel_rfl) (fun w hst => x_field z underlying46 z sizeOf25 z) (wsr (.int .u64 a1.ID) 2 z z z (by kernel_rfl) (fun w hst => x_load z isAgg25 (hst.bc0 z)) (wsr (Pt b461 1) 4 z z z (by kernel_rfl) (fun w hst => x_field z underlying46 z sizeOf3 z) (wsr (.int .i64 a1.From) 5 z z z (by kernel_rfl) (fun w hst => x_load z isAgg3 (hst.bc0 z)) (wsr (.int .u64 (u64.wrap a1.From)) 6 z z z (by kernel_rfl) (fun w hst => by kernel_rfl) (wsr (Pt b461 2) 8 z z z (by kernel_rfl) (fun w hst => x_field z underlying46 z sizeOf3 z) (wsr (.int .i64 a1.To) 9 z z z (by kernel_rfl) (fun w hst => x_load z isAgg3 (hst.bc0 z)) (wsr (.int .u64 (u64.wrap a1.To)) 10 z z z (by kernel_rfl) (fun w hst => by kernel_rfl) (wsr (Pt b461 3) 12 z z z (by kernel_rfl) (fun w hst => x_field z underlying46 z sizeOf44 z) (wsr (.float .f64 a1.Lo) 13 z z z (by kernel_rfl) (fun w hst => x_load z isAgg44 (hst.bc0 z)) (wsr (Pt b461 4) 16 z z z (by kernel_rfl) (fun w hst => x_field z underlying46 z sizeOf44 z) (wsr (.float .f64 a1.Hi) 17 z z z (by kernel_rfl) (fun w hst => x_load z isAgg44 (hst.bc0 z)) ?_))))))))))))
 refine wsr (Pt b461 5) 20 z z z (by kernel_rfl) (fun w hst => x_field z underlying46 z sizeOf25 z) (wsr (.int .u64 a1.Authority) 21 z z z (by kernel_rfl) (fun w hst => x_load z isAgg25 (hst.bc0 z)) (wsr (Pt b461 6) 23 z z z (by kernel_rfl) (fun w hst => x_field z underlying46 z sizeOf3 z) (wsr (.int .i64 a1.Quota) 24 z z z (by kernel_rfl) (fun w hst => x_load z isAgg3 (hst.bc0 z)) (wsr (.int .u64 (u64.wrap a1.Quota)) 25 z z z (by kernel_rfl) (fun w hst => by kernel_rfl) ?_))))
 refine ws_e1 3 (by kernel_rfl) ?_
 refine nxe [7, 11, 14, 15, 18, 19, 22, 26] (by kernel_rfl) z z ?_
 clear hst
 intro w hst
 replace hst := hst.pull1
 obtain ⟨t466, ht467, hm⟩ := bind_some hm
 refine wec call21 [p0, U6 a1.ID, I6 (8:Int)] z z ?_
 refine (octet_Writer_Num_ref hst.to1 ht467).mono ?_
 rintro _ w468 ⟨rfl, hst⟩
 refine ⟨_, z, ?_⟩
 replace hst := hst.of1
 refine ws_next (pend' := [(25, U6 (u64.wrap a1.Quota)), (24, I6 a1.Quota), (23, Pt b461 6), (21, U6 a1.Authority), (20, Pt b461 5), (17, F6 a1.Hi), (16, Pt b461 4), (13, F6 a1.Lo), (12, Pt b461 3), (10, U6 (u64.wrap a1.To)), (9, I6 a1.To), (8, Pt b461 2), (6, U6 (u64.wrap a1.From)), (5, I6 a1.From), (4, Pt b461 1)]) hst (by kernel_rfl) (pkr z z (fun w hst => by kernel_rfl) (pkr z z (fun w hst => x_load z isAgg3 (hst.bc1 z)) (pkr z z (fun w hst => x_field z underlying46 z sizeOf3 z) (pkr z z (fun w hst => x_load z isAgg25 (hst.bc1 z)) (pkr z z (fun w hst => x_field z underlying46 z sizeOf25 z) (pkr z z (fun w hst => x_load z isAgg44 (hst.bc1 z)) (pkr z z (fun w hst => x_field z underlying46 z sizeOf44 z) (pkr z z (fun w hst => x_load z isAgg44 (hst.bc1 z)) (pkr z z (fun w hst => x_field z underlying46 z sizeOf44 z) (pkr z z (fun w hst => by kernel_rfl) (pkr z z (fun w hst => x_load z isAgg3 (hst.bc1 z)) (pkr z z (fun w hst => x_field z underlying46 z sizeOf3 z) (pkr z z (fun w hst => by kernel_rfl) (pkr z z (fun w hst => x_load z isAgg3 (hst.bc1 z)) (pkr z z (fun w hst => x_field z underlying46 z sizeOf3 z) pk_nil))))))))))))))) ?_
 refine ws_e1 7 (by kernel_rfl) ?_
 refine nxe [11, 14, 15, 18, 19, 22, 26] (by kernel_rfl) z z ?_
 clear hst
 intro w hst
 obtain ⟨t471, ht472, hm⟩ := bind_some hm
 refine wec call21 [p0, U6 (u64.wrap a1.From), I6 (1:Int)] z z ?_
 refine (octet_Writer_Num_ref hst.to1 ht472).mono ?_
 rintro _ w473 ⟨rfl, hst⟩
 refine ⟨_, z, ?_⟩
 replace hst := hst.of1
 refine ws_next (pend' := [(25, U6 (u64.wrap a1.Quota)), (24, I6 a1.Quota), (23, Pt b461 6), (21, U6 a1.Authority), (20, Pt b461 5), (17, F6 a1.Hi), (16, Pt b461 4), (13, F6 a1.Lo), (12, Pt b461 3), (10, U6 (u64.wrap a1.To)), (9, I6 a1.To), (8, Pt b461 2)]) hst (by kernel_rfl) (pkr z z (fun w hst => by kernel_rfl) (pkr z z (fun w hst => x_load z isAgg3 (hst.bc1 z)) (pkr z z (fun w hst => x_field z underlying46 z sizeOf3 z) (pkr z z (fun w hst => x_load z isAgg25 (hst.bc1 z)) (pkr z z (fun w hst => x_field z underlying46 z sizeOf25 z) (pkr z z (fun w hst => x_load z isAgg44 (hst.bc1 z)) (pkr z z (fun w hst => x_field z underlying46 z sizeOf44 z) (pkr z z (fun w hst => x_load z isAgg44 (hst.bc1 z)) (pkr z z (fun w hst => x_field z underlying46 z sizeOf44 z) (pkr z z (fun w hst => by kernel_rfl) (pkr z z (fun w hst => x_load z isAgg3 (hst.bc1 z)) (pkr z z (fun w hst => x_field z underlying46 z sizeOf3 z) pk_nil)))))))))))) ?_
 refine ws_e1 11 (by kernel_rfl) ?_
 refine nxe [14, 15, 18, 19, 22, 26] (by kernel_rfl) z z ?_
 clear hst
 intro w hst
 obtain ⟨t476, ht477, hm⟩ := bind_some hm
 refine wec call21 [p0, U6 (u64.wrap a1.To), I6 (1:Int)] z z ?_
 refine (octet_Writer_Num_ref hst.to1 ht477).mono ?_
 rintro _ w478 ⟨rfl, hst⟩
 refine ⟨_, z, ?_⟩
 replace hst := hst.of1
 refine ws_next (pend' := [(25, U6 (u64.wrap a1.Quota)), (24, I6 a1.Quota), (23, Pt b461 6), (21, U6 a1.Authority), (20, Pt b461 5), (17, F6 a1.Hi), (16, Pt b461 4), (13, F6 a1.Lo), (12, Pt b461 3)]) hst (by kernel_rfl) (pkr z z (fun w hst => by kernel_rfl) (pkr z z (fun w hst => x_load z isAgg3 (hst.bc1 z)) (pkr z z (fun w hst => x_field z underlying46 z sizeOf3 z) (pkr z z (fun w hst => x_load z isAgg25 (hst.bc1 z)) (pkr z z (fun w hst => x_field z underlying46 z sizeOf25 z) (pkr z z (fun w hst => x_load z isAgg44 (hst.bc1 z)) (pkr z z (fun w hst => x_field z underlying46 z sizeOf44 z) (pkr z z (fun w hst => x_load z isAgg44 (hst.bc1 z)) (pkr z z (fun w hst => x_field z underlying46 z sizeOf44 z) pk_nil))))))))) ?_
 refine ws_e1 14 (by kernel_rfl) ?_
 refine nxe [15, 18, 19, 22, 26] (by kernel_rfl) z z ?_
 clear hst
 intro w hst
 obtain ⟨t481, ht482, hm⟩ := bind_some hm
 refine wec call55 [F6 a1.Lo] z z ?_
 refine (number_Rank_ref hst.to0 ht482).mono ?_
 rintro _ w483 ⟨rfl, hst⟩
 refine ⟨_, z, ?_⟩
 replace hst := hst.of0
 refine ws_next (pend' := [(25, U6 (u64.wrap a1.Quota)), (24, I6 a1.Quota), (23, Pt b461 6), (21, U6 a1.Authority), (20, Pt b461 5), (17, F6 a1.Hi), (16, Pt b461 4)]) hst (by kernel_rfl) (pkr z z (fun w hst => by kernel_rfl) (pkr z z (fun w hst => x_load z isAgg3 (hst.bc1 z)) (pkr z z (fun w hst => x_field z underlying46 z sizeOf3 z) (pkr z z (fun w hst => x_load z isAgg25 (hst.bc1 z)) (pkr z z (fun w hst => x_field z underlying46 z sizeOf25 z) (pkr z z (fun w hst => x_load z isAgg44 (hst.bc1 z)) (pkr z z (fun w hst => x_field z underlying46 z sizeOf44 z) pk_nil))))))) ?_
 refine ws_e1 15 (by kernel_rfl) ?_
 refine nxe [18, 19, 22, 26] (by kernel_rfl) z z ?_
 clear hst
 intro w hst
 obtain ⟨t486, ht487, hm⟩ := bind_some hm
 refine wec call21 [p0, U6 t481, I6 (8:Int)] z z ?_
 refine (octet_Writer_Num_ref hst.to1 ht487).mono ?_
 rintro _ w488 ⟨rfl, hst⟩
 refine ⟨_, z, ?_⟩
 replace hst := hst.of1
 refine ws_next (pend' := [(25, U6 (u64.wrap a1.Quota)), (24, I6 a1.Quota), (23, Pt b461 6), (21, U6 a1.Authority), (20, Pt b461 5), (17, F6 a1.Hi), (16, Pt b461 4)]) hst (by kernel_rfl) (pkr z z (fun w hst => by kernel_rfl) (pkr z z (fun w hst => x_load z isAgg3 (hst.bc1 z)) (pkr z z (fun w hst => x_field z underlying46 z sizeOf3 z) (pkr z z (fun w hst => x_load z isAgg25 (hst.bc1 z)) (pkr z z (fun w hst => x_field z underlying46 z sizeOf25 z) (pkr z z (fun w hst => x_load z isAgg44 (hst.bc1 z)) (pkr z z (fun w hst => x_field z underlying46 z sizeOf44 z) pk_nil))))))) ?_
 refine ws_e1 18 (by kernel_rfl) ?_
 refine nxe [19, 22, 26] (by kernel_rfl) z z ?_
 clear hst
 intro w hst
 obtain ⟨t491, ht492, hm⟩ := bind_some hm
 refine wec call55 [F6 a1.Hi] z z ?_
 refine (number_Rank_ref hst.to0 ht492).mono ?_
 rintro _ w493 ⟨rfl, hst⟩
 refine ⟨_, z, ?_⟩
 replace hst := hst.of0
 refine ws_next (pend' := [(25, U6 (u64.wrap a1.Quota)), (24, I6 a1.Quota), (23, Pt b461 6), (21, U6 a1.Authority), (20, Pt b461 5)]) hst (by kernel_rfl) (pkr z z (fun w hst => by kernel_rfl) (pkr z z (fun w hst => x_load z isAgg3 (hst.bc1 z)) (pkr z z (fun w hst => x_field z underlying46 z sizeOf3 z) (pkr z z (fun w hst => x_load z isAgg25 (hst.bc1 z)) (pkr z z (fun w hst => x_field z underlying46 z sizeOf25 z) pk_nil))))) ?_
 refine ws_e1 19 (by kernel_rfl) ?_
 refine nxe [22, 26] (by kernel_rfl) z z ?_
 clear hst
 intro w hst
 obtain ⟨t496, ht497, hm⟩ := bind_some hm
 refine wec call21 [p0, U6 t491, I6 (8:Int)] z z ?_
 refine (octet_Writer_Num_ref hst.to1 ht497).mono ?_
 rintro _ w498 ⟨rfl, hst⟩
 refine ⟨_, z, ?_⟩
 replace hst := hst.of1
 refine ws_next (pend' := [(25, U6 (u64.wrap a1.Quota)), (24, I6 a1.Quota), (23, Pt b461 6), (21, U6 a1.Authority), (20, Pt b461 5)]) hst (by kernel_rfl) (pkr z z (fun w hst => by kernel_rfl) (pkr z z (fun w hst => x_load z isAgg3 (hst.bc1 z)) (pkr z z (fun w hst => x_field z underlying46 z sizeOf3 z) (pkr z z (fun w hst => x_load z isAgg25 (hst.bc1 z)) (pkr z z (fun w hst => x_field z underlying46 z sizeOf25 z) pk_nil))))) ?_
 refine ws_e1 22 (by kernel_rfl) ?_
 refine nxe [26] (by kernel_rfl) z z ?_
 clear hst
 intro w hst
 obtain ⟨t501, ht502, hm⟩ := bind_some hm
 refine wec call21 [p0, U6 a1.Authority, I6 (8:Int)] z z ?_
 refine (octet_Writer_Num_ref hst.to1 ht502).mono ?_
 rintro _ w503 ⟨rfl, hst⟩
 refine ⟨_, z, ?_⟩
 replace hst := hst.of1
 refine ws_next (pend' := [(25, U6 (u64.wrap a1.Quota)), (24, I6 a1.Quota), (23, Pt b461 6)]) hst (by kernel_rfl) (pkr z z (fun w hst => by kernel_rfl) (pkr z z (fun w hst => x_load z isAgg3 (hst.bc1 z)) (pkr z z (fun w hst => x_field z underlying46 z sizeOf3 z) pk_nil))) ?_
 refine ws_e1 26 (by kernel_rfl) ?_
 refine nxe [] (by kernel_rfl) z z ?_
 clear hst
 intro w hst
 obtain ⟨t506, ht507, hm⟩ := bind_some hm
 refine wec call21 [p0, U6 (u64.wrap a1.Quota), I6 (4:Int)] z z ?_
 refine (octet_Writer_Num_ref hst.to1 ht507).mono ?_
 rintro _ w508 ⟨rfl, hst⟩
 refine ⟨_, z, ?_⟩
 replace hst := hst.of1
 refine ws_next (pend' := []) hst (by kernel_rfl) pk_nil ?_
 refine ws_nil ?_
 intro w hst
 obtain rfl := some_inj hm
 refine post_end (vs := []) results58 rvs_nil ?_
 exact ⟨z, hst.keep1⟩
}

theorem command_Encode_ref {w0 w : World} {I : HL} {R : SP} {a0 : api_Command} {r0_0 : Value} {r0_1 : Value} {r0_2 : Value} {r0_3 : Value} {r0_4 : Value} {r0_5 : Value} {r0_6 : Value} {r0_7 : Value} (f0_0 : Rd tyF64 R I r0_0 a0.Hold.Gets) (f0_1 : Rd tyF2 R I r0_1 a0.Hold.Scans) (f0_2 : Rd tyF64 R I r0_2 a0.Hold.Puts) (f0_3 : Rd (tyInt .u8) R I r0_3 a0.Hold.Data) (f0_4 : Rd ty_api_Write R I r0_4 a0.Writes) (f0_5 : Rd ty_api_Got R I r0_5 a0.R.Gots) (f0_6 : Rd (tySl ty_api_Pair) R I r0_6 a0.R.Scans) (f0_7 : Rd ty_api_Part R I r0_7 a0.Parts) (hst : St w0 w I [] R) {r : ((List Int))} (hm : command_Encode a0 = some r) :
  Calls prog 26 #[.agg #[U1 a0.Kind, U6 a0.ID.Session, U6 a0.ID.Seq, U6 a0.Epoch, U6 a0.Index, I6 a0.E, U6 a0.Hold.ID.Session, U6 a0.Hold.ID.Seq, U6 a0.Hold.Epoch, r0_0, r0_1, r0_2, r0_3, r0_4, I6 a0.R.E, U6 a0.R.Epoch, U6 a0.R.Index, r0_5, r0_6, U6 a0.Shards, r0_7, U6 a0.Rule.ID, I6 a0.Rule.From, I6 a0.Rule.To, F6 a0.Rule.Lo, F6 a0.Rule.Hi, U6 a0.Rule.Authority, I6 a0.Rule.Quota, .bool a0.On]] w fun e w' => ∃ (q0_0 : Value), e = .returned (q0_0) ∧ St w0 w' I [ownS (tyInt .u8) q0_0 r] R := by {
 unfold command_Encode at hm
 refine calls_start (args := [.agg #[U1 a0.Kind, U6 a0.ID.Session, U6 a0.ID.Seq, U6 a0.Epoch, U6 a0.Index, I6 a0.E, U6 a0.Hold.ID.Session, U6 a0.Hold.ID.Seq, U6 a0.Hold.Epoch, r0_0, r0_1, r0_2, r0_3, r0_4, I6 a0.R.E, U6 a0.R.Epoch, U6 a0.R.Index, r0_5, r0_6, U6 a0.Shards, r0_7, U6 a0.Rule.ID, I6 a0.Rule.From, I6 a0.Rule.To, F6 a0.Rule.Lo, F6 a0.Rule.Hi, U6 a0.Rule.Authority, I6 a0.Rule.Quota, .bool a0.On]]) func26 z ntmps26 (Nat.le_of_ble_eq_true z) ?_
 refine wp_seq (wrl ?_)
 obtain ⟨b484, w485, ew486, eb487, hst⟩ := hst.box [U1 a0.Kind, U6 a0.ID.Session, U6 a0.ID.Seq, U6 a0.Epoch, U6 a0.Index, I6 a0.E, U6 a0.Hold.ID.Session, U6 a0.Hold.ID.Seq, U6 a0.Hold.Epoch, r0_0, r0_1, r0_2, r0_3, r0_4, I6 a0.R.E, U6 a0.R.Epoch, U6 a0.R.Index, r0_5, r0_6, U6 a0.Shards, r0_7, U6 a0.Rule.ID, I6 a0.Rule.From, I6 a0.Rule.To, F6 a0.Rule.Lo, F6 a0.Rule.Hi, U6 a0.Rule.Authority, I6 a0.Rule.Quota, .bool a0.On] 48
 refine wl_run (v := Pt b484 0) (w' := w485) z z (x_al (by kernel_rfl) ew486 eb487) ?_
 refine wv ((.slice none 0 0)) z z z (wl_nil (tn (wp_seq (wrl (wv (.agg #[Zs]) z z (by kernel_rfl) ?_)))))
 obtain ⟨b491, w492, ew493, eb494, hst⟩ := hst.box [Zs] 74
 refine wl_run (v := Pt b491 0) (w' := w492) z z (x_al (by kernel_rfl) ew493 eb494) ?_
 obtain ⟨b497, w498, ew499, eb500, hst⟩ := hst.box [.pointer none] 72
 refine wl_run (v := Pt b497 0) (w' := w498) z z (x_al (by kernel_rfl) ew499 eb500) ?_
 obtain ⟨w502, hr503, hst⟩ := hst.by_ [Pt b491 0] 0 (Pt b491 0) sizeOf72 z (oC z oN) (by kernel_rfl)
 refine wl_unit z z (x_unit hr503) ?_
 refine wl_nil (tn (wp_seq (wrl (wv (Pt b491 0) z z (x_load z isAgg72 (hst.bc0 z)) (wv (Pt b484 0) z z (x_field z underlying48 z sizeOf5 z) (wv (.int .u8 a0.Kind) z z (x_load z isAgg5 (hst.bc2 z)) (wv (.int .u64 (u64.wrap a0.Kind)) z z (by kernel_rfl) ?_)))))))
 replace hst := hst.own_nil (tyInt .u8)
 replace hst := hst.pull2
 replace hst := at_octet_Writer_close (pv := Pt b491 0) (x := ({ p := [] } : octet_Writer)) hst z
 obtain ⟨t504, ht505, hm⟩ := bind_some hm
 refine wc call21 [Pt b491 0, U6 (u64.wrap a0.Kind), I6 (1:Int)] z z z ?_
 refine (octet_Writer_Num_ref hst.to1 ht505).mono ?_
 rintro _ w506 ⟨rfl, hst⟩
 refine ⟨_, z, ?_⟩
 replace hst := hst.of1
 refine wl_nil (tn (wp_seq (wrl (wv (.func (.func 56) #[] #[Pt b497 0, Pt b484 0]) z z (by kernel_rfl) (wv (.func (.func 56) #[] #[Pt b497 0, Pt b484 0]) z z z (wl_nil (tn (wp_seq (wp_seq (wrl (wv (Pt b484 0) z z (x_field z underlying48 z sizeOf5 z) (wv (.int .u8 a0.Kind) z z (x_load z isAgg5 (hst.bc2 z)) (wl_nil (tn (wp_block (wp_seq (wrl (wv (.bool (a0.Kind == (1:Int))) z z z (wv (.bool (a0.Kind == (1:Int))) z z z (wl_nil (tn ?_)))))))))))))))))))))
 refine bsplit (a0.Kind == (1:Int)) (fun hc509 => ?_) (fun hc509 => ?_)
 {
 replace hm := bif_t hc509 hm
 refine wp_ift (cvb hc509) ?_
 refine wrl (wv (Pt b491 0) z z (x_load z isAgg72 (hst.bc1 z)) (wv (Pt b484 3) z z (x_field z underlying48 z sizeOf25 z) (wv (.int .u64 a0.Epoch) z z (x_load z isAgg25 (hst.bc2 z)) ?_)))
 obtain ⟨t510, ht511, hm⟩ := bind_some hm
 refine wc call21 [Pt b491 0, U6 a0.Epoch, I6 (8:Int)] z z z ?_
 refine (octet_Writer_Num_ref hst.to1 ht511).mono ?_
 rintro _ w512 ⟨rfl, hst⟩
 refine ⟨_, z, ?_⟩
 replace hst := hst.of1
 refine wl_nil (blk_n (tn (wp_seq (wrl (wv (Pt b491 0) z z (x_load z isAgg72 (hst.bc1 z)) ?_)))))
 obtain ⟨t515, ht516, hm⟩ := bind_some hm
 refine wc call27 [Pt b491 0] z z z ?_
 refine (octet_Writer_Done_ref hst.to1 ht516).mono ?_
 rintro _ w517 ⟨v520, rfl, hst⟩
 refine ⟨_, z, ?_⟩
 replace hst := hst.of1
 refine wv (v520) z z z (wl_nil (tn (wp_ret ?_)))
 obtain rfl := some_inj hm
 refine post_ret (vs := [v520]) results26 (rvs_cons (rv_tmp z) rvs_nil) ?_
 exact ⟨v520, z, hst.keep1⟩
}
 {
 replace hm := bif_f hc509 hm
 refine wp_iff (cvb hc509) ?_
 refine wp_seq (wrl (wv (.bool (a0.Kind == (2:Int))) z z z (wv (.bool (a0.Kind == (2:Int))) z z z (wl_nil (tn ?_)))))
 refine bsplit (a0.Kind == (2:Int)) (fun hc522 => ?_) (fun hc522 => ?_)
 {
 replace hm := bif_t hc522 hm
 refine wp_ift (cvb hc522) ?_
 refine wrl (wv (Pt b491 0) z z (x_load z isAgg72 (hst.bc1 z)) (wv (Pt b484 6) z z (x_field z underlying48 z sizeOf36 z) (wv (.agg #[U6 a0.Hold.ID.Session, U6 a0.Hold.ID.Seq, U6 a0.Hold.Epoch, r0_0, r0_1, r0_2, r0_3]) z z (x_loadN (cs := [U6 a0.Hold.ID.Session, U6 a0.Hold.ID.Seq, U6 a0.Hold.Epoch, r0_0, r0_1, r0_2, r0_3]) z isAgg36 sizeOf36 (hst.bcs2 6 z)) ?_)))
 obtain ⟨t523, ht524, hm⟩ := bind_some hm
 refine wc call23 [Pt b491 0, .agg #[U6 a0.Hold.ID.Session, U6 a0.Hold.ID.Seq, U6 a0.Hold.Epoch, r0_0, r0_1, r0_2, r0_3]] z z z ?_
 refine (locks_Lay_ref (f0_0.mono (rd_weak _)) (f0_1.mono (rd_weak _)) (f0_2.mono (rd_weak _)) (f0_3.mono (rd_weak _)) hst.to1 ht524).mono ?_
 rintro _ w525 ⟨rfl, hst⟩
 refine ⟨_, z, ?_⟩
 replace hst := hst.of1
 refine wl_nil (blk_n (tn (wp_seq (wrl (wv (Pt b491 0) z z (x_load z isAgg72 (hst.bc1 z)) ?_)))))
 obtain ⟨t528, ht529, hm⟩ := bind_some hm
 refine wc call27 [Pt b491 0] z z z ?_
 refine (octet_Writer_Done_ref hst.to1 ht529).mono ?_
 rintro _ w530 ⟨v533, rfl, hst⟩
 refine ⟨_, z, ?_⟩
 replace hst := hst.of1
 refine wv (v533) z z z (wl_nil (tn (wp_ret ?_)))
 obtain rfl := some_inj hm
 refine post_ret (vs := [v533]) results26 (rvs_cons (rv_tmp z) rvs_nil) ?_
 exact ⟨v533, z, hst.keep1⟩
}
 {
 replace hm := bif_f hc522 hm
 refine wp_iff (cvb hc522) ?_
 refine wp_seq (wrl (wv (.bool (a0.Kind == (3:Int))) z z z (wv (.bool (a0.Kind == (3:Int))) z z z (wl_nil (tn ?_)))))
 refine bsplit (a0.Kind == (3:Int)) (fun hc535 => ?_) (fun hc535 => ?_)
 {
 replace hm := bif_t hc535 hm
 refine wp_ift (cvb hc535) ?_
 refine wp_seq (wrl (wv (.func (.func 56) #[] #[Pt b497 0, Pt b484 0]) z z z ?_))
 obtain ⟨y548, hq549, hm⟩ := bind_some hm
 refine wl_call z z (x_callv call56 (caps := [Pt b497 0, Pt b484 0]) z (vs := []) z) ?_
 refine Calls.mono (show Calls prog 56 #[Pt b497 0, Pt b484 0] _ (fun e w' => ∃ (z546 : octet_Writer), y548 = z546 ∧ e = .returned (.tuple #[]) ∧ St w0 w' I [cells b484 [U1 a0.Kind, U6 a0.ID.Session, U6 a0.ID.Seq, U6 a0.Epoch, U6 a0.Index, I6 a0.E, U6 a0.Hold.ID.Session, U6 a0.Hold.ID.Seq, U6 a0.Hold.Epoch, r0_0, r0_1, r0_2, r0_3, r0_4, I6 a0.R.E, U6 a0.R.Epoch, U6 a0.R.Index, r0_5, r0_6, U6 a0.Shards, r0_7, U6 a0.Rule.ID, I6 a0.Rule.From, I6 a0.Rule.To, F6 a0.Rule.Lo, F6 a0.Rule.Hi, U6 a0.Rule.Authority, I6 a0.Rule.Quota, .bool a0.On], at_octet_Writer (Pt b491 0) z546, cells b497 [Pt b491 0]] R) from ?_) ?_
 {
 clear hm; have hm := hq549
 refine calls_start (args := [Pt b497 0, Pt b484 0]) func56 z ntmps56 (Nat.le_of_ble_eq_true z) ?_
 refine wp_region_St hst 9 [0, 1, 2, 3, 4, 5, 6, 7, 8] [0, 0, 2, 6, 15, 0, 32, 96, 255] [] z (by kernel_rfl) (by kernel_rfl) Try.mixed (by kernel_rfl) ?_
 refine wsr (Pt b491 0) 0 z z z (by kernel_rfl) (fun w hst => x_load z isAgg72 (hst.bc1 z)) (wsr (Pt b484 1) 1 z z z (by kernel_rfl) (fun w hst => x_field z underlying48 z sizeOf32 z) (wsr (Pt b484 1) 2 z z z (by kernel_rfl) (fun w hst => x_field z underlying32 z sizeOf25 z) (wsr (.int .u64 a0.ID.Session) 3 z z z (by kernel_rfl) (fun w hst => x_load z isAgg25 (hst.bc2 z)) (wsr (Pt b484 1) 5 z z z (by kernel_rfl) (fun w hst => x_field z underlying48 z sizeOf32 z) (wsr (Pt b484 2) 6 z z z (by kernel_rfl) (fun w hst => x_field z underlying32 z sizeOf25 z) (wsr (.int .u64 a0.ID.Seq) 7 z z z (by kernel_rfl) (fun w hst => x_load z isAgg25 (hst.bc2 z)) ?_))))))
 refine ws_e1 4 (by kernel_rfl) ?_
 refine nxe [8] (by kernel_rfl) z z ?_
 clear hst
 intro w hst
 obtain ⟨t536, ht537, hm⟩ := bind_some hm
 refine wec call21 [Pt b491 0, U6 a0.ID.Session, I6 (8:Int)] z z ?_
 refine (octet_Writer_Num_ref hst.to1 ht537).mono ?_
 rintro _ w538 ⟨rfl, hst⟩
 refine ⟨_, z, ?_⟩
 replace hst := hst.of1
 refine ws_next (pend' := [(7, U6 a0.ID.Seq), (6, Pt b484 2), (5, Pt b484 1)]) hst (by kernel_rfl) (pkr z z (fun w hst => x_load z isAgg25 (hst.bc2 z)) (pkr z z (fun w hst => x_field z underlying32 z sizeOf25 z) (pkr z z (fun w hst => x_field z underlying48 z sizeOf32 z) pk_nil))) ?_
 refine ws_e1 8 (by kernel_rfl) ?_
 refine nxe [] (by kernel_rfl) z z ?_
 clear hst
 intro w hst
 obtain ⟨t541, ht542, hm⟩ := bind_some hm
 refine wec call21 [Pt b491 0, U6 a0.ID.Seq, I6 (8:Int)] z z ?_
 refine (octet_Writer_Num_ref hst.to1 ht542).mono ?_
 rintro _ w543 ⟨rfl, hst⟩
 refine ⟨_, z, ?_⟩
 replace hst := hst.of1
 refine ws_next (pend' := []) hst (by kernel_rfl) pk_nil ?_
 refine ws_nil ?_
 intro w hst
 refine post_end (vs := []) results56 rvs_nil ?_
 replace hst := hst.pull1.pull1.pull2.keep3
 obtain rfl := some_inj hm
 exact ⟨t541, z, z, hst⟩
}
 clear hst
 rintro _ w550 ⟨z546, rfl, rfl, hst⟩
 refine ⟨_, z, ?_⟩
 try dsimp only at hm
 refine wl_nil (tn (wp_seq ?_))
 refine wp_region_St hst 11 [0, 1, 2, 3, 4, 5, 6, 7, 8, 9, 10] [0, 0, 2, 6, 15, 0, 32, 127, 0, 256, 1023] [] z (by kernel_rfl) (by kernel_rfl) Try.mixed (by kernel_rfl) ?_
 refine wsr (Pt b491 0) 0 z z z (by kernel_rfl) (fun w hst => x_load z isAgg72 (hst.bc2 z)) (wsr (Pt b484 5) 1 z z z (by kernel_rfl) (fun w hst => x_field z underlying48 z sizeOf37 z) (wsr (.int .i64 a0.E) 2 z z z (by kernel_rfl) (fun w hst => x_load z isAgg37 (hst.bc0 z)) (wsr (.int .u64 (u64.wrap a0.E)) 3 z z z (by kernel_rfl) (fun w hst => by kernel_rfl) (wsr (Pt b484 3) 5 z z z (by kernel_rfl) (fun w hst => x_field z underlying48 z sizeOf25 z) (wsr (.int .u64 a0.Epoch) 6 z z z (by kernel_rfl) (fun w hst => x_load z isAgg25 (hst.bc0 z)) (wsr (Pt b484 4) 8 z z z (by kernel_rfl) (fun w hst => x_field z underlying48 z sizeOf25 z) (wsr (.int .u64 a0.Index) 9 z z z (by kernel_rfl) (fun w hst => x_load z isAgg25 (hst.bc0 z)) ?_)))))))
 refine ws_e1 4 (by kernel_rfl) ?_
 refine nxe [7, 10] (by kernel_rfl) z z ?_
 clear hst
 intro w hst
 replace hst := hst.pull1
 obtain ⟨t551, ht552, hm⟩ := bind_some hm
 refine wec call21 [Pt b491 0, U6 (u64.wrap a0.E), I6 (1:Int)] z z ?_
 refine (octet_Writer_Num_ref hst.to1 ht552).mono ?_
 rintro _ w553 ⟨rfl, hst⟩
 refine ⟨_, z, ?_⟩
 replace hst := hst.of1
 refine ws_next (pend' := [(9, U6 a0.Index), (8, Pt b484 4), (6, U6 a0.Epoch), (5, Pt b484 3)]) hst (by kernel_rfl) (pkr z z (fun w hst => x_load z isAgg25 (hst.bc1 z)) (pkr z z (fun w hst => x_field z underlying48 z sizeOf25 z) (pkr z z (fun w hst => x_load z isAgg25 (hst.bc1 z)) (pkr z z (fun w hst => x_field z underlying48 z sizeOf25 z) pk_nil)))) ?_
 refine ws_e1 7 (by kernel_rfl) ?_
 refine nxe [10] (by kernel_rfl) z z ?_
 clear hst
 intro w hst
 obtain ⟨t556, ht557, hm⟩ := bind_some hm
 refine wec call21 [Pt b491 0, U6 a0.Epoch, I6 (8:Int)] z z ?_
 refine (octet_Writer_Num_ref hst.to1 ht557).mono ?_
 rintro _ w558 ⟨rfl, hst⟩
 refine ⟨_, z, ?_⟩
 replace hst := hst.of1
 refine ws_next (pend' := [(9, U6 a0.Index), (8, Pt b484 4)]) hst (by kernel_rfl) (pkr z z (fun w hst => x_load z isAgg25 (hst.bc1 z)) (pkr z z (fun w hst => x_field z underlying48 z sizeOf25 z) pk_nil)) ?_
 refine ws_e1 10 (by kernel_rfl) ?_
 refine nxe [] (by kernel_rfl) z z ?_
 clear hst
 intro w hst
 obtain ⟨t561, ht562, hm⟩ := bind_some hm
 refine wec call21 [Pt b491 0, U6 a0.Index, I6 (8:Int)] z z ?_
 refine (octet_Writer_Num_ref hst.to1 ht562).mono ?_
 rintro _ w563 ⟨rfl, hst⟩
 refine ⟨_, z, ?_⟩
 replace hst := hst.of1
 refine ws_next (pend' := []) hst (by kernel_rfl) pk_nil ?_
 refine ws_nil ?_
 intro w hst
 refine tn (wrl (wv (Pt b491 0) z z (x_load z isAgg72 (hst.bc2 z)) (wv (Pt b484 13) z z (x_field z underlying48 z sizeOf42 z) (wv (r0_4) z z (x_load z isAgg42 (hst.bc1 z)) ?_))))
 obtain ⟨t566, ht567, hm⟩ := bind_some hm
 refine wc call57 [Pt b491 0, r0_4] z z z ?_
 refine (command_writes_ref (f0_4.mono (rd_weak _)) hst.to1 ht567).mono ?_
 rintro _ w568 ⟨rfl, hst⟩
 refine ⟨_, z, ?_⟩
 replace hst := hst.of1
 refine wl_nil (blk_n (tn (wp_seq (wrl (wv (Pt b491 0) z z (x_load z isAgg72 (hst.bc2 z)) ?_)))))
 obtain ⟨t571, ht572, hm⟩ := bind_some hm
 refine wc call27 [Pt b491 0] z z z ?_
 refine (octet_Writer_Done_ref hst.to1 ht572).mono ?_
 rintro _ w573 ⟨v576, rfl, hst⟩
 refine ⟨_, z, ?_⟩
 replace hst := hst.of1
 refine wv (v576) z z z (wl_nil (tn (wp_ret ?_)))
 obtain rfl := some_inj hm
 refine post_ret (vs := [v576]) results26 (rvs_cons (rv_tmp z) rvs_nil) ?_
 exact ⟨v576, z, hst.keep1⟩
}
 {
 replace hm := bif_f hc535 hm
 refine wp_iff (cvb hc535) ?_
 refine wp_seq (wrl (wv (.bool (a0.Kind == (4:Int))) z z z (wv (.bool (a0.Kind == (4:Int))) z z z (wl_nil (tn ?_)))))
 refine bsplit (a0.Kind == (4:Int)) (fun hc578 => ?_) (fun hc578 => ?_)
 {
 replace hm := bif_t hc578 hm
 refine wp_ift (cvb hc578) ?_
 refine wp_seq (wrl (wv (.func (.func 56) #[] #[Pt b497 0, Pt b484 0]) z z z ?_))
 obtain ⟨y591, hq592, hm⟩ := bind_some hm
 refine wl_call z z (x_callv call56 (caps := [Pt b497 0, Pt b484 0]) z (vs := []) z) ?_
 refine Calls.mono (show Calls prog 56 #[Pt b497 0, Pt b484 0] _ (fun e w' => ∃ (z589 : octet_Writer), y591 = z589 ∧ e = .returned (.tuple #[]) ∧ St w0 w' I [cells b484 [U1 a0.Kind, U6 a0.ID.Session, U6 a0.ID.Seq, U6 a0.Epoch, U6 a0.Index, I6 a0.E, U6 a0.Hold.ID.Session, U6 a0.Hold.ID.Seq, U6 a0.Hold.Epoch, r0_0, r0_1, r0_2, r0_3, r0_4, I6 a0.R.E, U6 a0.R.Epoch, U6 a0.R.Index, r0_5, r0_6, U6 a0.Shards, r0_7, U6 a0.Rule.ID, I6 a0.Rule.From, I6 a0.Rule.To, F6 a0.Rule.Lo, F6 a0.Rule.Hi, U6 a0.Rule.Authority, I6 a0.Rule.Quota, .bool a0.On], at_octet_Writer (Pt b491 0) z589, cells b497 [Pt b491 0]] R) from ?_) ?_
 {
 clear hm; have hm := hq592
 refine calls_start (args := [Pt b497 0, Pt b484 0]) func56 z ntmps56 (Nat.le_of_ble_eq_true z) ?_
 refine wp_region_St hst 9 [0, 1, 2, 3, 4, 5, 6, 7, 8] [0, 0, 2, 6, 15, 0, 32, 96, 255] [] z (by kernel_rfl) (by kernel_rfl) Try.mixed (by kernel_rfl) ?_
 refine wsr (Pt b491 0) 0 z z z (by kernel_rfl) (fun w hst => x_load z isAgg72 (hst.bc1 z)) (wsr (Pt b484 1) 1 z z z (by kernel_rfl) (fun w hst => x_field z underlying48 z sizeOf32 z) (wsr (Pt b484 1) 2 z z z (by kernel_rfl) (fun w hst => x_field z underlying32 z sizeOf25 z) (wsr (.int .u64 a0.ID.Session) 3 z z z (by kernel_rfl) (fun w hst => x_load z isAgg25 (hst.bc2 z)) (wsr (Pt b484 1) 5 z z z (by kernel_rfl) (fun w hst => x_field z underlying48 z sizeOf32 z) (wsr (Pt b484 2) 6 z z z (by kernel_rfl) (fun w hst => x_field z underlying32 z sizeOf25 z) (wsr (.int .u64 a0.ID.Seq) 7 z z z (by kernel_rfl) (fun w hst => x_load z isAgg25 (hst.bc2 z)) ?_))))))
 refine ws_e1 4 (by kernel_rfl) ?_
 refine nxe [8] (by kernel_rfl) z z ?_
 clear hst
 intro w hst
 obtain ⟨t579, ht580, hm⟩ := bind_some hm
 refine wec call21 [Pt b491 0, U6 a0.ID.Session, I6 (8:Int)] z z ?_
 refine (octet_Writer_Num_ref hst.to1 ht580).mono ?_
 rintro _ w581 ⟨rfl, hst⟩
 refine ⟨_, z, ?_⟩
 replace hst := hst.of1
 refine ws_next (pend' := [(7, U6 a0.ID.Seq), (6, Pt b484 2), (5, Pt b484 1)]) hst (by kernel_rfl) (pkr z z (fun w hst => x_load z isAgg25 (hst.bc2 z)) (pkr z z (fun w hst => x_field z underlying32 z sizeOf25 z) (pkr z z (fun w hst => x_field z underlying48 z sizeOf32 z) pk_nil))) ?_
 refine ws_e1 8 (by kernel_rfl) ?_
 refine nxe [] (by kernel_rfl) z z ?_
 clear hst
 intro w hst
 obtain ⟨t584, ht585, hm⟩ := bind_some hm
 refine wec call21 [Pt b491 0, U6 a0.ID.Seq, I6 (8:Int)] z z ?_
 refine (octet_Writer_Num_ref hst.to1 ht585).mono ?_
 rintro _ w586 ⟨rfl, hst⟩
 refine ⟨_, z, ?_⟩
 replace hst := hst.of1
 refine ws_next (pend' := []) hst (by kernel_rfl) pk_nil ?_
 refine ws_nil ?_
 intro w hst
 refine post_end (vs := []) results56 rvs_nil ?_
 replace hst := hst.pull1.pull1.pull2.keep3
 obtain rfl := some_inj hm
 exact ⟨t584, z, z, hst⟩
}
 clear hst
 rintro _ w593 ⟨z589, rfl, rfl, hst⟩
 refine ⟨_, z, ?_⟩
 try dsimp only at hm
 refine wl_nil (tn (wp_seq ?_))
 refine wp_region_St hst 12 [0, 1, 2, 3, 4, 5, 6, 7, 8, 9, 10, 11] [0, 0, 2, 7, 0, 16, 63, 0, 128, 384, 896, 2047] [] z (by kernel_rfl) (by kernel_rfl) Try.mixed (by kernel_rfl) ?_
 refine wsr (Pt b491 0) 0 z z z (by kernel_rfl) (fun w hst => x_load z isAgg72 (hst.bc2 z)) (wsr (Pt b484 3) 1 z z z (by kernel_rfl) (fun w hst => x_field z underlying48 z sizeOf25 z) (wsr (.int .u64 a0.Epoch) 2 z z z (by kernel_rfl) (fun w hst => x_load z isAgg25 (hst.bc0 z)) (wsr (Pt b484 19) 4 z z z (by kernel_rfl) (fun w hst => x_field z underlying48 z sizeOf25 z) (wsr (.int .u64 a0.Shards) 5 z z z (by kernel_rfl) (fun w hst => x_load z isAgg25 (hst.bc0 z)) (wsr (Pt b484 20) 7 z z z (by kernel_rfl) (fun w hst => x_field z underlying48 z sizeOf43 z) (wsr (r0_7) 8 z z z (by kernel_rfl) (fun w hst => x_load z isAgg43 (hst.bc0 z)) (wsr (.int .i64 ((a0.Parts).length : Int)) 9 z z z (by kernel_rfl) (fun w hst => x_len z underlying43 (rd_sliceV f0_7)) (wsr (.int .u64 (u64.wrap ((a0.Parts).length : Int))) 10 z z z (by kernel_rfl) (fun w hst => by kernel_rfl) ?_))))))))
 refine ws_e1 3 (by kernel_rfl) ?_
 refine nxe [6, 11] (by kernel_rfl) z z ?_
 clear hst
 intro w hst
 replace hst := hst.pull1
 obtain ⟨t594, ht595, hm⟩ := bind_some hm
 refine wec call21 [Pt b491 0, U6 a0.Epoch, I6 (8:Int)] z z ?_
 refine (octet_Writer_Num_ref hst.to1 ht595).mono ?_
 rintro _ w596 ⟨rfl, hst⟩
 refine ⟨_, z, ?_⟩
 replace hst := hst.of1
 refine ws_next (pend' := [(10, U6 (u64.wrap ((a0.Parts).length : Int))), (9, I6 ((a0.Parts).length : Int)), (8, r0_7), (7, Pt b484 20), (5, U6 a0.Shards), (4, Pt b484 19)]) hst (by kernel_rfl) (pkr z z (fun w hst => by kernel_rfl) (pkr z z (fun w hst => x_len z underlying43 (rd_sliceV f0_7)) (pkr z z (fun w hst => x_load z isAgg43 (hst.bc1 z)) (pkr z z (fun w hst => x_field z underlying48 z sizeOf43 z) (pkr z z (fun w hst => x_load z isAgg25 (hst.bc1 z)) (pkr z z (fun w hst => x_field z underlying48 z sizeOf25 z) pk_nil)))))) ?_
 refine ws_e1 6 (by kernel_rfl) ?_
 refine nxe [11] (by kernel_rfl) z z ?_
 clear hst
 intro w hst
 obtain ⟨t599, ht600, hm⟩ := bind_some hm
 refine wec call21 [Pt b491 0, U6 a0.Shards, I6 (2:Int)] z z ?_
 refine (octet_Writer_Num_ref hst.to1 ht600).mono ?_
 rintro _ w601 ⟨rfl, hst⟩
 refine ⟨_, z, ?_⟩
 replace hst := hst.of1
 refine ws_next (pend' := [(10, U6 (u64.wrap ((a0.Parts).length : Int))), (9, I6 ((a0.Parts).length : Int)), (8, r0_7), (7, Pt b484 20)]) hst (by kernel_rfl) (pkr z z (fun w hst => by kernel_rfl) (pkr z z (fun w hst => x_len z underlying43 (rd_sliceV f0_7)) (pkr z z (fun w hst => x_load z isAgg43 (hst.bc1 z)) (pkr z z (fun w hst => x_field z underlying48 z sizeOf43 z) pk_nil)))) ?_
 refine ws_e1 11 (by kernel_rfl) ?_
 refine nxe [] (by kernel_rfl) z z ?_
 clear hst
 intro w hst
 obtain ⟨t604, ht605, hm⟩ := bind_some hm
 refine wec call21 [Pt b491 0, U6 (u64.wrap ((a0.Parts).length : Int)), I6 (4:Int)] z z ?_
 refine (octet_Writer_Num_ref hst.to1 ht605).mono ?_
 rintro _ w606 ⟨rfl, hst⟩
 refine ⟨_, z, ?_⟩
 replace hst := hst.of1
 refine ws_next (pend' := []) hst (by kernel_rfl) pk_nil ?_
 refine ws_nil ?_
 intro w hst
 refine tn ?_
 obtain ⟨y714, hm, hx715⟩ := bind_some hm
 refine wp_cut (fun a w => ∃ (z711 : octet_Writer) (σ712 : Nat → Value), (command_Encode_j0 a0) z711 = some r ∧ a = Fr 121 (upd (upd σ712 1 (Pt b484 0)) 3 (Pt b497 0)) ∧ St w0 w I [cells b484 [U1 a0.Kind, U6 a0.ID.Session, U6 a0.ID.Seq, U6 a0.Epoch, U6 a0.Index, I6 a0.E, U6 a0.Hold.ID.Session, U6 a0.Hold.ID.Seq, U6 a0.Hold.Epoch, r0_0, r0_1, r0_2, r0_3, r0_4, I6 a0.R.E, U6 a0.R.Epoch, U6 a0.R.Index, r0_5, r0_6, U6 a0.Shards, r0_7, U6 a0.Rule.ID, I6 a0.Rule.From, I6 a0.Rule.To, F6 a0.Rule.Lo, F6 a0.Rule.Hi, U6 a0.Rule.Authority, I6 a0.Rule.Quota, .bool a0.On], cells b497 [Pt b491 0], at_octet_Writer (Pt b491 0) z711] R) ?_ ?_
 {
 refine wp_seq (wrl (wv (Pt b484 20) z z (x_field z underlying48 z sizeOf43 z) (wv (r0_7) z z (x_load z isAgg43 (hst.bc1 z)) (wv (.int .i64 ((a0.Parts).length : Int)) z z (x_len z underlying43 (rd_sliceV f0_7)) (wv (.int .i64 (0:Int)) z z z (wl_nil (tn (wp_block ?_))))))))
 obtain ⟨n674, hm⟩ := loopO_some hm
 refine wp_loop_n (fun n a w => ∃ (z671 : octet_Writer) (z672 : Int) (σ673 : Nat → Value), loopN (command_Encode_l1 a0) n (z671, z672) = some y714 ∧ a = Fr 121 (upd (upd (upd (upd (upd σ673 1 (Pt b484 0)) 3 (Pt b497 0)) 65 (r0_7)) 66 (.int .i64 ((a0.Parts).length : Int))) 67 (.int .i64 z672)) ∧ St w0 w I [at_octet_Writer (Pt b491 0) z671, cells b484 [U1 a0.Kind, U6 a0.ID.Session, U6 a0.ID.Seq, U6 a0.Epoch, U6 a0.Index, I6 a0.E, U6 a0.Hold.ID.Session, U6 a0.Hold.ID.Seq, U6 a0.Hold.Epoch, r0_0, r0_1, r0_2, r0_3, r0_4, I6 a0.R.E, U6 a0.R.Epoch, U6 a0.R.Index, r0_5, r0_6, U6 a0.Shards, r0_7, U6 a0.Rule.ID, I6 a0.Rule.From, I6 a0.Rule.To, F6 a0.Rule.Lo, F6 a0.Rule.Hi, U6 a0.Rule.Authority, I6 a0.Rule.Quota, .bool a0.On], cells b497 [Pt b491 0]] R) n674 ⟨t604, (0:Int), _, hm, (fu 1 (Pt b484 0) z (fu 3 (Pt b497 0) z (fu 65 r0_7 z (fu 66 (.int .i64 ((a0.Parts).length : Int)) z (fu 67 (.int .i64 (0:Int)) z z))))), hst⟩ ?_
 rintro n680 _ w675 ⟨z671, z672, σ673, hm, rfl, hst⟩
 obtain ⟨n677, y678, rfl, hm, hx679⟩ := loopN_some hm
 dsimp only [command_Encode_l1] at hm
 refine wp_seq (wrl (wv (.bool (decide (z672 < ((a0.Parts).length : Int)))) z z z (wl_nil (tn (wp_seq ?_)))))
 refine bsplit (decide (z672 < ((a0.Parts).length : Int))) (fun hc681 => ?_) (fun hc681 => ?_)
 {
 replace hm := bif_t hc681 hm
 refine wp_ift (cvb hc681) ?_
 refine wp_skip (tn (wp_seq (wp_block (wp_seq (wrl ?_)))))
 obtain ⟨x682, hx683, hm⟩ := bind_some hm
 obtain ⟨h684, h685, hi686⟩ := geto_some hx683
 refine wv (.pointer (some (eAddr r0_7 (z672.toNat * 2 + 0)))) z z (x_index z z underlying43 sizeOf110 (rd_sliceV f0_7) h684 h685) ?_
 obtain ⟨cs687, hr688, hc689⟩ := Rd.getF f0_7 hi686
 obtain ⟨v690, rfl, f691, -⟩ := hr688
 refine wv (.agg #[I6 x682.Shard, v690]) z z (x_loadN (cs := [I6 x682.Shard, v690]) z isAgg110 sizeOf110 (eCells (o := 0) (hc689 (HL.le.refl _) hst) z)) ?_
 obtain ⟨b694, w695, ew696, eb697, hst⟩ := hst.box [Zi, Zs] 110
 refine wl_run (v := Pt b694 0) (w' := w695) z z (x_al (by kernel_rfl) ew696 eb697) ?_
 obtain ⟨w699, hr700, hst⟩ := hst.bx [I6 x682.Shard, v690] sizeOf110 z (oC z (oC (one_of_sliceV (rd_sliceV f691)) oN)) (by kernel_rfl)
 refine wl_unit z z (x_unit hr700) ?_
 refine wl_nil (tn (wp_seq (wrl (wv (Pt b491 0) z z (x_load z isAgg72 (hst.bc3 z)) (wv (Pt b694 0) z z (x_field z underlying110 z sizeOf3 z) (wv (.int .i64 x682.Shard) z z (x_load z isAgg3 (hst.bc0 z)) (wv (.int .u64 (u64.wrap x682.Shard)) z z (by kernel_rfl) ?_)))))))
 replace hst := hst.pull1
 obtain ⟨t701, ht702, hm⟩ := bind_some hm
 refine wc call21 [Pt b491 0, U6 (u64.wrap x682.Shard), I6 (1:Int)] z z z ?_
 refine (octet_Writer_Num_ref hst.to1 ht702).mono ?_
 rintro _ w703 ⟨rfl, hst⟩
 refine ⟨_, z, ?_⟩
 replace hst := hst.of1
 refine wl_nil (tn (wrl (wv (Pt b491 0) z z (x_load z isAgg72 (hst.bc3 z)) (wv (Pt b694 1) z z (x_field z underlying110 z sizeOf42 z) (wv (v690) z z (x_load z isAgg42 (hst.bc1 z)) ?_)))))
 obtain ⟨t706, ht707, hm⟩ := bind_some hm
 refine wc call57 [Pt b491 0, v690] z z z ?_
 refine (command_writes_ref (f691.mono (rd_weak _)) hst.to1 ht707).mono ?_
 rintro _ w708 ⟨rfl, hst⟩
 refine ⟨_, z, ?_⟩
 replace hst := hst.of1
 refine wl_nil (blk_n (tn (wrl (wv (.int .i64 (i64.wrap (z672 + (1:Int)))) z z z (wv (.int .i64 (i64.wrap (z672 + (1:Int)))) z z z (wl_nil (tn ?_)))))))
 replace hst := hst.pull3.pull3.pull2.keep3
 obtain rfl := some_inj hm
 exact ⟨_, Nat.lt_succ_self _, t706, (i64.wrap (z672 + (1:Int))), _, hx679, (fu 1 (Pt b484 0) z (fu 3 (Pt b497 0) z (fu 65 r0_7 z (fu 66 (.int .i64 ((a0.Parts).length : Int)) z (fu 67 (.int .i64 (i64.wrap (z672 + (1:Int)))) z z))))), hst⟩
}
 {
 replace hm := bif_f hc681 hm
 refine wp_iff (cvb hc681) ?_
 refine wp_exit (then_x (then_x ?_))
 replace hm := inr_up hm hx679
 refine blk_x (tn ?_)
 replace hst := hst.pull2.pull2.keep3
 obtain rfl := some_inj hm
 exact ⟨z671, _, hx715, (fu 1 (Pt b484 0) z (fu 3 (Pt b497 0) z z)), hst⟩
}
}
 {
 clear hst
 rintro _ w716 ⟨z711, σ712, hm, rfl, hst⟩
 dsimp only [command_Encode_j0] at hm
 refine wrl (wv (Pt b491 0) z z (x_load z isAgg72 (hst.bc1 z)) (wv (Pt b484 14) z z (x_field z underlying48 z sizeOf41 z) (wv (.agg #[I6 a0.R.E, U6 a0.R.Epoch, U6 a0.R.Index, r0_5, r0_6]) z z (x_loadN (cs := [I6 a0.R.E, U6 a0.R.Epoch, U6 a0.R.Index, r0_5, r0_6]) z isAgg41 sizeOf41 (hst.bcs0 14 z)) ?_)))
 replace hst := hst.pull2
 obtain ⟨t717, ht718, hm⟩ := bind_some hm
 refine wc call24 [Pt b491 0, .agg #[I6 a0.R.E, U6 a0.R.Epoch, U6 a0.R.Index, r0_5, r0_6]] z z z ?_
 refine (command_LayReply_ref (f0_5.mono (rd_weak _)) (f0_6.mono (rd_weak _)) hst.to1 ht718).mono ?_
 rintro _ w719 ⟨rfl, hst⟩
 refine ⟨_, z, ?_⟩
 replace hst := hst.of1
 refine wl_nil (blk_n (tn (wp_seq (wrl (wv (Pt b491 0) z z (x_load z isAgg72 (hst.bc2 z)) ?_)))))
 obtain ⟨t722, ht723, hm⟩ := bind_some hm
 refine wc call27 [Pt b491 0] z z z ?_
 refine (octet_Writer_Done_ref hst.to1 ht723).mono ?_
 rintro _ w724 ⟨v727, rfl, hst⟩
 refine ⟨_, z, ?_⟩
 replace hst := hst.of1
 refine wv (v727) z z z (wl_nil (tn (wp_ret ?_)))
 obtain rfl := some_inj hm
 refine post_ret (vs := [v727]) results26 (rvs_cons (rv_tmp z) rvs_nil) ?_
 exact ⟨v727, z, hst.keep1⟩
}
}
 {
 replace hm := bif_f hc578 hm
 refine wp_iff (cvb hc578) ?_
 refine wp_seq (wrl (wv (.bool (a0.Kind == (5:Int))) z z z (wv (.bool (a0.Kind == (5:Int))) z z z (wl_nil (tn ?_)))))
 refine bsplit (a0.Kind == (5:Int)) (fun hc729 => ?_) (fun hc729 => ?_)
 {
 replace hm := bif_t hc729 hm
 refine wp_ift (cvb hc729) ?_
 refine wrl (wv (.func (.func 56) #[] #[Pt b497 0, Pt b484 0]) z z z ?_)
 obtain ⟨y742, hq743, hm⟩ := bind_some hm
 refine wl_call z z (x_callv call56 (caps := [Pt b497 0, Pt b484 0]) z (vs := []) z) ?_
 refine Calls.mono (show Calls prog 56 #[Pt b497 0, Pt b484 0] _ (fun e w' => ∃ (z740 : octet_Writer), y742 = z740 ∧ e = .returned (.tuple #[]) ∧ St w0 w' I [cells b484 [U1 a0.Kind, U6 a0.ID.Session, U6 a0.ID.Seq, U6 a0.Epoch, U6 a0.Index, I6 a0.E, U6 a0.Hold.ID.Session, U6 a0.Hold.ID.Seq, U6 a0.Hold.Epoch, r0_0, r0_1, r0_2, r0_3, r0_4, I6 a0.R.E, U6 a0.R.Epoch, U6 a0.R.Index, r0_5, r0_6, U6 a0.Shards, r0_7, U6 a0.Rule.ID, I6 a0.Rule.From, I6 a0.Rule.To, F6 a0.Rule.Lo, F6 a0.Rule.Hi, U6 a0.Rule.Authority, I6 a0.Rule.Quota, .bool a0.On], at_octet_Writer (Pt b491 0) z740, cells b497 [Pt b491 0]] R) from ?_) ?_
 {
 clear hm; have hm := hq743
 refine calls_start (args := [Pt b497 0, Pt b484 0]) func56 z ntmps56 (Nat.le_of_ble_eq_true z) ?_
 refine wp_region_St hst 9 [0, 1, 2, 3, 4, 5, 6, 7, 8] [0, 0, 2, 6, 15, 0, 32, 96, 255] [] z (by kernel_rfl) (by kernel_rfl) Try.mixed (by kernel_rfl) ?_
 refine wsr (Pt b491 0) 0 z z z (by kernel_rfl) (fun w hst => x_load z isAgg72 (hst.bc1 z)) (wsr (Pt b484 1) 1 z z z (by kernel_rfl) (fun w hst => x_field z underlying48 z sizeOf32 z) (wsr (Pt b484 1) 2 z z z (by kernel_rfl) (fun w hst => x_field z underlying32 z sizeOf25 z) (wsr (.int .u64 a0.ID.Session) 3 z z z (by kernel_rfl) (fun w hst => x_load z isAgg25 (hst.bc2 z)) (wsr (Pt b484 1) 5 z z z (by kernel_rfl) (fun w hst => x_field z underlying48 z sizeOf32 z) (wsr (Pt b484 2) 6 z z z (by kernel_rfl) (fun w hst => x_field z underlying32 z sizeOf25 z) (wsr (.int .u64 a0.ID.Seq) 7 z z z (by kernel_rfl) (fun w hst => x_load z isAgg25 (hst.bc2 z)) ?_))))))
 refine ws_e1 4 (by kernel_rfl) ?_
 refine nxe [8] (by kernel_rfl) z z ?_
 clear hst
 intro w hst
 obtain ⟨t730, ht731, hm⟩ := bind_some hm
 refine wec call21 [Pt b491 0, U6 a0.ID.Session, I6 (8:Int)] z z ?_
 refine (octet_Writer_Num_ref hst.to1 ht731).mono ?_
 rintro _ w732 ⟨rfl, hst⟩
 refine ⟨_, z, ?_⟩
 replace hst := hst.of1
 refine ws_next (pend' := [(7, U6 a0.ID.Seq), (6, Pt b484 2), (5, Pt b484 1)]) hst (by kernel_rfl) (pkr z z (fun w hst => x_load z isAgg25 (hst.bc2 z)) (pkr z z (fun w hst => x_field z underlying32 z sizeOf25 z) (pkr z z (fun w hst => x_field z underlying48 z sizeOf32 z) pk_nil))) ?_
 refine ws_e1 8 (by kernel_rfl) ?_
 refine nxe [] (by kernel_rfl) z z ?_
 clear hst
 intro w hst
 obtain ⟨t735, ht736, hm⟩ := bind_some hm
 refine wec call21 [Pt b491 0, U6 a0.ID.Seq, I6 (8:Int)] z z ?_
 refine (octet_Writer_Num_ref hst.to1 ht736).mono ?_
 rintro _ w737 ⟨rfl, hst⟩
 refine ⟨_, z, ?_⟩
 replace hst := hst.of1
 refine ws_next (pend' := []) hst (by kernel_rfl) pk_nil ?_
 refine ws_nil ?_
 intro w hst
 refine post_end (vs := []) results56 rvs_nil ?_
 replace hst := hst.pull1.pull1.pull2.keep3
 obtain rfl := some_inj hm
 exact ⟨t735, z, z, hst⟩
}
 clear hst
 rintro _ w744 ⟨z740, rfl, rfl, hst⟩
 refine ⟨_, z, ?_⟩
 try dsimp only at hm
 refine wl_nil (blk_n (tn (wp_seq (wrl (wv (Pt b491 0) z z (x_load z isAgg72 (hst.bc2 z)) ?_)))))
 replace hst := hst.pull1
 obtain ⟨t745, ht746, hm⟩ := bind_some hm
 refine wc call27 [Pt b491 0] z z z ?_
 refine (octet_Writer_Done_ref hst.to1 ht746).mono ?_
 rintro _ w747 ⟨v750, rfl, hst⟩
 refine ⟨_, z, ?_⟩
 replace hst := hst.of1
 refine wv (v750) z z z (wl_nil (tn (wp_ret ?_)))
 obtain rfl := some_inj hm
 refine post_ret (vs := [v750]) results26 (rvs_cons (rv_tmp z) rvs_nil) ?_
 exact ⟨v750, z, hst.keep1⟩
}
 {
 replace hm := bif_f hc729 hm
 refine wp_iff (cvb hc729) ?_
 refine wp_seq (wrl (wv (.bool (a0.Kind == (6:Int))) z z z (wv (.bool (a0.Kind == (6:Int))) z z z (wl_nil (tn ?_)))))
 refine bsplit (a0.Kind == (6:Int)) (fun hc752 => ?_) (fun hc752 => ?_)
 {
 replace hm := bif_t hc752 hm
 refine wp_ift (cvb hc752) ?_
 refine wp_seq (wrl (wv (Pt b491 0) z z (x_load z isAgg72 (hst.bc1 z)) (wv (Pt b484 21) z z (x_field z underlying48 z sizeOf46 z) (wv (.agg #[U6 a0.Rule.ID, I6 a0.Rule.From, I6 a0.Rule.To, F6 a0.Rule.Lo, F6 a0.Rule.Hi, U6 a0.Rule.Authority, I6 a0.Rule.Quota]) z z (x_loadN (cs := [U6 a0.Rule.ID, I6 a0.Rule.From, I6 a0.Rule.To, F6 a0.Rule.Lo, F6 a0.Rule.Hi, U6 a0.Rule.Authority, I6 a0.Rule.Quota]) z isAgg46 sizeOf46 (hst.bcs2 21 z)) ?_))))
 obtain ⟨t753, ht754, hm⟩ := bind_some hm
 refine wc call58 [Pt b491 0, .agg #[U6 a0.Rule.ID, I6 a0.Rule.From, I6 a0.Rule.To, F6 a0.Rule.Lo, F6 a0.Rule.Hi, U6 a0.Rule.Authority, I6 a0.Rule.Quota]] z z z ?_
 refine (command_layRule_ref hst.to1 ht754).mono ?_
 rintro _ w755 ⟨rfl, hst⟩
 refine ⟨_, z, ?_⟩
 replace hst := hst.of1
 refine wl_nil (tn (wrl (wv (Pt b491 0) z z (x_load z isAgg72 (hst.bc1 z)) (wv (Pt b484 28) z z (x_field z underlying48 z sizeOf4 z) (wv (.bool a0.On) z z (x_load z isAgg4 (hst.bc2 z)) ?_)))))
 obtain ⟨t758, ht759, hm⟩ := bind_some hm
 refine wc call54 [Pt b491 0, .bool a0.On] z z z ?_
 refine (octet_Writer_Flag_ref hst.to1 ht759).mono ?_
 rintro _ w760 ⟨rfl, hst⟩
 refine ⟨_, z, ?_⟩
 replace hst := hst.of1
 refine wl_nil (blk_n (tn (wp_seq (wrl (wv (Pt b491 0) z z (x_load z isAgg72 (hst.bc1 z)) ?_)))))
 obtain ⟨t763, ht764, hm⟩ := bind_some hm
 refine wc call27 [Pt b491 0] z z z ?_
 refine (octet_Writer_Done_ref hst.to1 ht764).mono ?_
 rintro _ w765 ⟨v768, rfl, hst⟩
 refine ⟨_, z, ?_⟩
 replace hst := hst.of1
 refine wv (v768) z z z (wl_nil (tn (wp_ret ?_)))
 obtain rfl := some_inj hm
 refine post_ret (vs := [v768]) results26 (rvs_cons (rv_tmp z) rvs_nil) ?_
 exact ⟨v768, z, hst.keep1⟩
}
 {
 replace hm := bif_f hc752 hm
 refine wp_iff (cvb hc752) ?_
 refine wp_seq (wrl (wv (.bool (a0.Kind == (7:Int))) z z z (wv (.bool (a0.Kind == (7:Int))) z z z (wl_nil (tn ?_)))))
 refine bsplit (a0.Kind == (7:Int)) (fun hc770 => ?_) (fun hc770 => ?_)
 {
 replace hm := bif_t hc770 hm
 refine wp_ift (cvb hc770) ?_
 refine wp_seq (wrl (wv (.func (.func 56) #[] #[Pt b497 0, Pt b484 0]) z z z ?_))
 obtain ⟨y783, hq784, hm⟩ := bind_some hm
 refine wl_call z z (x_callv call56 (caps := [Pt b497 0, Pt b484 0]) z (vs := []) z) ?_
 refine Calls.mono (show Calls prog 56 #[Pt b497 0, Pt b484 0] _ (fun e w' => ∃ (z781 : octet_Writer), y783 = z781 ∧ e = .returned (.tuple #[]) ∧ St w0 w' I [cells b484 [U1 a0.Kind, U6 a0.ID.Session, U6 a0.ID.Seq, U6 a0.Epoch, U6 a0.Index, I6 a0.E, U6 a0.Hold.ID.Session, U6 a0.Hold.ID.Seq, U6 a0.Hold.Epoch, r0_0, r0_1, r0_2, r0_3, r0_4, I6 a0.R.E, U6 a0.R.Epoch, U6 a0.R.Index, r0_5, r0_6, U6 a0.Shards, r0_7, U6 a0.Rule.ID, I6 a0.Rule.From, I6 a0.Rule.To, F6 a0.Rule.Lo, F6 a0.Rule.Hi, U6 a0.Rule.Authority, I6 a0.Rule.Quota, .bool a0.On], at_octet_Writer (Pt b491 0) z781, cells b497 [Pt b491 0]] R) from ?_) ?_
 {
 clear hm; have hm := hq784
 refine calls_start (args := [Pt b497 0, Pt b484 0]) func56 z ntmps56 (Nat.le_of_ble_eq_true z) ?_
 refine wp_region_St hst 9 [0, 1, 2, 3, 4, 5, 6, 7, 8] [0, 0, 2, 6, 15, 0, 32, 96, 255] [] z (by kernel_rfl) (by kernel_rfl) Try.mixed (by kernel_rfl) ?_
 refine wsr (Pt b491 0) 0 z z z (by kernel_rfl) (fun w hst => x_load z isAgg72 (hst.bc1 z)) (wsr (Pt b484 1) 1 z z z (by kernel_rfl) (fun w hst => x_field z underlying48 z sizeOf32 z) (wsr (Pt b484 1) 2 z z z (by kernel_rfl) (fun w hst => x_field z underlying32 z sizeOf25 z) (wsr (.int .u64 a0.ID.Session) 3 z z z (by kernel_rfl) (fun w hst => x_load z isAgg25 (hst.bc2 z)) (wsr (Pt b484 1) 5 z z z (by kernel_rfl) (fun w hst => x_field z underlying48 z sizeOf32 z) (wsr (Pt b484 2) 6 z z z (by kernel_rfl) (fun w hst => x_field z underlying32 z sizeOf25 z) (wsr (.int .u64 a0.ID.Seq) 7 z z z (by kernel_rfl) (fun w hst => x_load z isAgg25 (hst.bc2 z)) ?_))))))
 refine ws_e1 4 (by kernel_rfl) ?_
 refine nxe [8] (by kernel_rfl) z z ?_
 clear hst
 intro w hst
 obtain ⟨t771, ht772, hm⟩ := bind_some hm
 refine wec call21 [Pt b491 0, U6 a0.ID.Session, I6 (8:Int)] z z ?_
 refine (octet_Writer_Num_ref hst.to1 ht772).mono ?_
 rintro _ w773 ⟨rfl, hst⟩
 refine ⟨_, z, ?_⟩
 replace hst := hst.of1
 refine ws_next (pend' := [(7, U6 a0.ID.Seq), (6, Pt b484 2), (5, Pt b484 1)]) hst (by kernel_rfl) (pkr z z (fun w hst => x_load z isAgg25 (hst.bc2 z)) (pkr z z (fun w hst => x_field z underlying32 z sizeOf25 z) (pkr z z (fun w hst => x_field z underlying48 z sizeOf32 z) pk_nil))) ?_
 refine ws_e1 8 (by kernel_rfl) ?_
 refine nxe [] (by kernel_rfl) z z ?_
 clear hst
 intro w hst
 obtain ⟨t776, ht777, hm⟩ := bind_some hm
 refine wec call21 [Pt b491 0, U6 a0.ID.Seq, I6 (8:Int)] z z ?_
 refine (octet_Writer_Num_ref hst.to1 ht777).mono ?_
 rintro _ w778 ⟨rfl, hst⟩
 refine ⟨_, z, ?_⟩
 replace hst := hst.of1
 refine ws_next (pend' := []) hst (by kernel_rfl) pk_nil ?_
 refine ws_nil ?_
 intro w hst
 refine post_end (vs := []) results56 rvs_nil ?_
 replace hst := hst.pull1.pull1.pull2.keep3
 obtain rfl := some_inj hm
 exact ⟨t776, z, z, hst⟩
}
 clear hst
 rintro _ w785 ⟨z781, rfl, rfl, hst⟩
 refine ⟨_, z, ?_⟩
 try dsimp only at hm
 refine wl_nil (tn (wp_seq (wrl (wv (Pt b491 0) z z (x_load z isAgg72 (hst.bc2 z)) (wv (Pt b484 3) z z (x_field z underlying48 z sizeOf25 z) (wv (.int .u64 a0.Epoch) z z (x_load z isAgg25 (hst.bc0 z)) ?_))))))
 replace hst := hst.pull1
 obtain ⟨t786, ht787, hm⟩ := bind_some hm
 refine wc call21 [Pt b491 0, U6 a0.Epoch, I6 (8:Int)] z z z ?_
 refine (octet_Writer_Num_ref hst.to1 ht787).mono ?_
 rintro _ w788 ⟨rfl, hst⟩
 refine ⟨_, z, ?_⟩
 replace hst := hst.of1
 refine wl_nil (tn (wp_seq (wrl (wv (Pt b491 0) z z (x_load z isAgg72 (hst.bc2 z)) (wv (Pt b484 21) z z (x_field z underlying48 z sizeOf46 z) (wv (.agg #[U6 a0.Rule.ID, I6 a0.Rule.From, I6 a0.Rule.To, F6 a0.Rule.Lo, F6 a0.Rule.Hi, U6 a0.Rule.Authority, I6 a0.Rule.Quota]) z z (x_loadN (cs := [U6 a0.Rule.ID, I6 a0.Rule.From, I6 a0.Rule.To, F6 a0.Rule.Lo, F6 a0.Rule.Hi, U6 a0.Rule.Authority, I6 a0.Rule.Quota]) z isAgg46 sizeOf46 (hst.bcs1 21 z)) ?_))))))
 obtain ⟨t791, ht792, hm⟩ := bind_some hm
 refine wc call58 [Pt b491 0, .agg #[U6 a0.Rule.ID, I6 a0.Rule.From, I6 a0.Rule.To, F6 a0.Rule.Lo, F6 a0.Rule.Hi, U6 a0.Rule.Authority, I6 a0.Rule.Quota]] z z z ?_
 refine (command_layRule_ref hst.to1 ht792).mono ?_
 rintro _ w793 ⟨rfl, hst⟩
 refine ⟨_, z, ?_⟩
 replace hst := hst.of1
 refine wl_nil (tn (wp_seq (wrl (wv (Pt b491 0) z z (x_load z isAgg72 (hst.bc2 z)) (wv (Pt b484 13) z z (x_field z underlying48 z sizeOf42 z) (wv (r0_4) z z (x_load z isAgg42 (hst.bc1 z)) ?_))))))
 obtain ⟨t796, ht797, hm⟩ := bind_some hm
 refine wc call57 [Pt b491 0, r0_4] z z z ?_
 refine (command_writes_ref (f0_4.mono (rd_weak _)) hst.to1 ht797).mono ?_
 rintro _ w798 ⟨rfl, hst⟩
 refine ⟨_, z, ?_⟩
 replace hst := hst.of1
 refine wl_nil (tn (wrl (wv (Pt b491 0) z z (x_load z isAgg72 (hst.bc2 z)) (wv (Pt b484 14) z z (x_field z underlying48 z sizeOf41 z) (wv (.agg #[I6 a0.R.E, U6 a0.R.Epoch, U6 a0.R.Index, r0_5, r0_6]) z z (x_loadN (cs := [I6 a0.R.E, U6 a0.R.Epoch, U6 a0.R.Index, r0_5, r0_6]) z isAgg41 sizeOf41 (hst.bcs1 14 z)) ?_)))))
 obtain ⟨t801, ht802, hm⟩ := bind_some hm
 refine wc call24 [Pt b491 0, .agg #[I6 a0.R.E, U6 a0.R.Epoch, U6 a0.R.Index, r0_5, r0_6]] z z z ?_
 refine (command_LayReply_ref (f0_5.mono (rd_weak _)) (f0_6.mono (rd_weak _)) hst.to1 ht802).mono ?_
 rintro _ w803 ⟨rfl, hst⟩
 refine ⟨_, z, ?_⟩
 replace hst := hst.of1
 refine wl_nil (blk_n (tn (wp_seq (wrl (wv (Pt b491 0) z z (x_load z isAgg72 (hst.bc2 z)) ?_)))))
 obtain ⟨t806, ht807, hm⟩ := bind_some hm
 refine wc call27 [Pt b491 0] z z z ?_
 refine (octet_Writer_Done_ref hst.to1 ht807).mono ?_
 rintro _ w808 ⟨v811, rfl, hst⟩
 refine ⟨_, z, ?_⟩
 replace hst := hst.of1
 refine wv (v811) z z z (wl_nil (tn (wp_ret ?_)))
 obtain rfl := some_inj hm
 refine post_ret (vs := [v811]) results26 (rvs_cons (rv_tmp z) rvs_nil) ?_
 exact ⟨v811, z, hst.keep1⟩
}
 {
 replace hm := bif_f hc770 hm
 refine wp_iff (cvb hc770) ?_
 refine wp_skip (blk_n (tn (wp_seq (wrl ?_))))
 refine wv (Pt b491 0) z z (x_load z isAgg72 (hst.bc1 z)) ?_
 obtain ⟨t813, ht814, hm⟩ := bind_some hm
 refine wc call27 [Pt b491 0] z z z ?_
 refine (octet_Writer_Done_ref hst.to1 ht814).mono ?_
 rintro _ w815 ⟨v818, rfl, hst⟩
 refine ⟨_, z, ?_⟩
 replace hst := hst.of1
 refine wv (v818) z z z (wl_nil (tn (wp_ret ?_)))
 obtain rfl := some_inj hm
 refine post_ret (vs := [v818]) results26 (rvs_cons (rv_tmp z) rvs_nil) ?_
 exact ⟨v818, z, hst.keep1⟩
}
}
}
}
}
}
}
}

theorem mail_Encode_ref {w0 w : World} {I : HL} {R : SP} {a0 : api_Mail} {r0_0 : Value} {r0_1 : Value} {r0_2 : Value} {r0_3 : Value} {r0_4 : Value} {r0_5 : Value} {r0_6 : Value} {r0_7 : Value} {r0_8 : Value} {r0_9 : Value} {r0_10 : Value} {r0_11 : Value} {r0_12 : Value} {r0_13 : Value} {r0_14 : Value} {r0_15 : Value} (f0_0 : Rd ty_api_Entry R I r0_0 a0.M.Entries) (f0_1 : Rd (tyInt .u8) R I r0_1 a0.M.S.Data) (f0_2 : Rd tyF64 R I r0_2 a0.H.Gets) (f0_3 : Rd tyF2 R I r0_3 a0.H.Scans) (f0_4 : Rd tyF64 R I r0_4 a0.H.Puts) (f0_5 : Rd (tyInt .u8) R I r0_5 a0.H.Data) (f0_6 : Rd ty_api_Got R I r0_6 a0.R.Gots) (f0_7 : Rd (tySl ty_api_Pair) R I r0_7 a0.R.Scans) (f0_8 : Rd tyF64 R I r0_8 a0.C.Hold.Gets) (f0_9 : Rd tyF2 R I r0_9 a0.C.Hold.Scans) (f0_10 : Rd tyF64 R I r0_10 a0.C.Hold.Puts) (f0_11 : Rd (tyInt .u8) R I r0_11 a0.C.Hold.Data) (f0_12 : Rd ty_api_Write R I r0_12 a0.C.Writes) (f0_13 : Rd ty_api_Got R I r0_13 a0.C.R.Gots) (f0_14 : Rd (tySl ty_api_Pair) R I r0_14 a0.C.R.Scans) (f0_15 : Rd ty_api_Part R I r0_15 a0.C.Parts) (hst : St w0 w I [] R) {r : ((List Int))} (hm : mail_Encode a0 = some r) :
  Calls prog 8 #[.agg #[U1 a0.Kind, U1 a0.M.Kind, I6 a0.M.From, I6 a0.M.To, U6 a0.M.Term, U6 a0.M.Index, U6 a0.M.LogTerm, U6 a0.M.Commit, .bool a0.M.OK, r0_0, U6 a0.M.S.Index, U6 a0.M.S.Term, U6 a0.M.S.Voters, r0_1, U6 a0.H.ID.Session, U6 a0.H.ID.Seq, U6 a0.H.Epoch, r0_2, r0_3, r0_4, r0_5, U6 a0.ID.Session, U6 a0.ID.Seq, I6 a0.R.E, U6 a0.R.Epoch, U6 a0.R.Index, r0_6, r0_7, U1 a0.C.Kind, U6 a0.C.ID.Session, U6 a0.C.ID.Seq, U6 a0.C.Epoch, U6 a0.C.Index, I6 a0.C.E, U6 a0.C.Hold.ID.Session, U6 a0.C.Hold.ID.Seq, U6 a0.C.Hold.Epoch, r0_8, r0_9, r0_10, r0_11, r0_12, I6 a0.C.R.E, U6 a0.C.R.Epoch, U6 a0.C.R.Index, r0_13, r0_14, U6 a0.C.Shards, r0_15, U6 a0.C.Rule.ID, I6 a0.C.Rule.From, I6 a0.C.Rule.To, F6 a0.C.Rule.Lo, F6 a0.C.Rule.Hi, U6 a0.C.Rule.Authority, I6 a0.C.Rule.Quota, .bool a0.C.On]] w fun e w' => ∃ (q0_0 : Value), e = .returned (q0_0) ∧ St w0 w' I [ownS (tyInt .u8) q0_0 r] R := by {
 unfold mail_Encode at hm
 refine calls_start (args := [.agg #[U1 a0.Kind, U1 a0.M.Kind, I6 a0.M.From, I6 a0.M.To, U6 a0.M.Term, U6 a0.M.Index, U6 a0.M.LogTerm, U6 a0.M.Commit, .bool a0.M.OK, r0_0, U6 a0.M.S.Index, U6 a0.M.S.Term, U6 a0.M.S.Voters, r0_1, U6 a0.H.ID.Session, U6 a0.H.ID.Seq, U6 a0.H.Epoch, r0_2, r0_3, r0_4, r0_5, U6 a0.ID.Session, U6 a0.ID.Seq, I6 a0.R.E, U6 a0.R.Epoch, U6 a0.R.Index, r0_6, r0_7, U1 a0.C.Kind, U6 a0.C.ID.Session, U6 a0.C.ID.Seq, U6 a0.C.Epoch, U6 a0.C.Index, I6 a0.C.E, U6 a0.C.Hold.ID.Session, U6 a0.C.Hold.ID.Seq, U6 a0.C.Hold.Epoch, r0_8, r0_9, r0_10, r0_11, r0_12, I6 a0.C.R.E, U6 a0.C.R.Epoch, U6 a0.C.R.Index, r0_13, r0_14, U6 a0.C.Shards, r0_15, U6 a0.C.Rule.ID, I6 a0.C.Rule.From, I6 a0.C.Rule.To, F6 a0.C.Rule.Lo, F6 a0.C.Rule.Hi, U6 a0.C.Rule.Authority, I6 a0.C.Rule.Quota, .bool a0.C.On]]) func8 z ntmps8 (Nat.le_of_ble_eq_true z) ?_
 refine wp_seq (wrl ?_)
 obtain ⟨b194, w195, ew196, eb197, hst⟩ := hst.box [U1 a0.Kind, U1 a0.M.Kind, I6 a0.M.From, I6 a0.M.To, U6 a0.M.Term, U6 a0.M.Index, U6 a0.M.LogTerm, U6 a0.M.Commit, .bool a0.M.OK, r0_0, U6 a0.M.S.Index, U6 a0.M.S.Term, U6 a0.M.S.Voters, r0_1, U6 a0.H.ID.Session, U6 a0.H.ID.Seq, U6 a0.H.Epoch, r0_2, r0_3, r0_4, r0_5, U6 a0.ID.Session, U6 a0.ID.Seq, I6 a0.R.E, U6 a0.R.Epoch, U6 a0.R.Index, r0_6, r0_7, U1 a0.C.Kind, U6 a0.C.ID.Session, U6 a0.C.ID.Seq, U6 a0.C.Epoch, U6 a0.C.Index, I6 a0.C.E, U6 a0.C.Hold.ID.Session, U6 a0.C.Hold.ID.Seq, U6 a0.C.Hold.Epoch, r0_8, r0_9, r0_10, r0_11, r0_12, I6 a0.C.R.E, U6 a0.C.R.Epoch, U6 a0.C.R.Index, r0_13, r0_14, U6 a0.C.Shards, r0_15, U6 a0.C.Rule.ID, I6 a0.C.Rule.From, I6 a0.C.Rule.To, F6 a0.C.Rule.Lo, F6 a0.C.Rule.Hi, U6 a0.C.Rule.Authority, I6 a0.C.Rule.Quota, .bool a0.C.On] 50
 refine wl_run (v := Pt b194 0) (w' := w195) z z (x_al (by kernel_rfl) ew196 eb197) ?_
 refine wv ((.slice none 0 0)) z z z (wl_nil (tn (wp_seq (wrl (wv (.agg #[Zs]) z z (by kernel_rfl) ?_)))))
 obtain ⟨b201, w202, ew203, eb204, hst⟩ := hst.box [Zs] 74
 refine wl_run (v := Pt b201 0) (w' := w202) z z (x_al (by kernel_rfl) ew203 eb204) ?_
 refine wv (Pt b201 0) z z z (wl_nil (tn (wp_seq (wrl (wv (Pt b201 0) z z z (wv (Pt b194 0) z z (x_field z underlying50 z sizeOf5 z) (wv (.int .u8 a0.Kind) z z (x_load z isAgg5 (hst.bc1 z)) (wv (.int .u64 (u64.wrap a0.Kind)) z z (by kernel_rfl) ?_))))))))
 replace hst := hst.own_nil (tyInt .u8)
 replace hst := hst.pull1
 replace hst := at_octet_Writer_close (pv := Pt b201 0) (x := ({ p := [] } : octet_Writer)) hst z
 obtain ⟨t207, ht208, hm⟩ := bind_some hm
 refine wc call21 [Pt b201 0, U6 (u64.wrap a0.Kind), I6 (1:Int)] z z z ?_
 refine (octet_Writer_Num_ref hst.to1 ht208).mono ?_
 rintro _ w209 ⟨rfl, hst⟩
 refine ⟨_, z, ?_⟩
 replace hst := hst.of1
 refine wl_nil (tn (wp_seq (wp_seq (wrl (wv (Pt b194 0) z z (x_field z underlying50 z sizeOf5 z) (wv (.int .u8 a0.Kind) z z (x_load z isAgg5 (hst.bc1 z)) (wl_nil (tn (wp_block (wp_seq (wrl (wv (.bool (a0.Kind == (1:Int))) z z z (wv (.bool (a0.Kind == (1:Int))) z z z (wl_nil (tn ?_)))))))))))))))
 refine bsplit (a0.Kind == (1:Int)) (fun hc212 => ?_) (fun hc212 => ?_)
 {
 replace hm := bif_t hc212 hm
 refine wp_ift (cvb hc212) ?_
 refine wrl (wv (Pt b201 0) z z z (wv (Pt b194 1) z z (x_field z underlying50 z sizeOf30 z) (wv (.agg #[U1 a0.M.Kind, I6 a0.M.From, I6 a0.M.To, U6 a0.M.Term, U6 a0.M.Index, U6 a0.M.LogTerm, U6 a0.M.Commit, .bool a0.M.OK, r0_0, U6 a0.M.S.Index, U6 a0.M.S.Term, U6 a0.M.S.Voters, r0_1]) z z (x_loadN (cs := [U1 a0.M.Kind, I6 a0.M.From, I6 a0.M.To, U6 a0.M.Term, U6 a0.M.Index, U6 a0.M.LogTerm, U6 a0.M.Commit, .bool a0.M.OK, r0_0, U6 a0.M.S.Index, U6 a0.M.S.Term, U6 a0.M.S.Voters, r0_1]) z isAgg30 sizeOf30 (hst.bcs1 1 z)) ?_)))
 obtain ⟨t213, ht214, hm⟩ := bind_some hm
 refine wc call22 [Pt b201 0, .agg #[U1 a0.M.Kind, I6 a0.M.From, I6 a0.M.To, U6 a0.M.Term, U6 a0.M.Index, U6 a0.M.LogTerm, U6 a0.M.Commit, .bool a0.M.OK, r0_0, U6 a0.M.S.Index, U6 a0.M.S.Term, U6 a0.M.S.Voters, r0_1]] z z z ?_
 refine (mail_message_ref (f0_0.mono (rd_weak _)) (f0_1.mono (rd_weak _)) hst.to1 ht214).mono ?_
 rintro _ w215 ⟨rfl, hst⟩
 refine ⟨_, z, ?_⟩
 replace hst := hst.of1
 refine wl_nil (blk_n (tn (wp_seq (wrl (wv (Pt b201 0) z z z ?_)))))
 obtain ⟨t218, ht219, hm⟩ := bind_some hm
 refine wc call27 [Pt b201 0] z z z ?_
 refine (octet_Writer_Done_ref hst.to1 ht219).mono ?_
 rintro _ w220 ⟨v223, rfl, hst⟩
 refine ⟨_, z, ?_⟩
 replace hst := hst.of1
 refine wv (v223) z z z (wl_nil (tn (wp_ret ?_)))
 obtain rfl := some_inj hm
 refine post_ret (vs := [v223]) results8 (rvs_cons (rv_tmp z) rvs_nil) ?_
 exact ⟨v223, z, hst.keep1⟩
}
 {
 replace hm := bif_f hc212 hm
 refine wp_iff (cvb hc212) ?_
 obtain ⟨y229, hm, hx230⟩ := bind_some hm
 refine wp_cut (fun a w => ∃ (z226 : Bool) (σ227 : Nat → Value), (mail_Encode_j0 t207 a0) z226 = some r ∧ a = Fr 56 (upd (upd (upd (upd σ227 1 (Pt b194 0)) 3 (Pt b201 0)) 12 (.int .u8 a0.Kind)) 19 (.bool z226)) ∧ St w0 w I [cells b194 [U1 a0.Kind, U1 a0.M.Kind, I6 a0.M.From, I6 a0.M.To, U6 a0.M.Term, U6 a0.M.Index, U6 a0.M.LogTerm, U6 a0.M.Commit, .bool a0.M.OK, r0_0, U6 a0.M.S.Index, U6 a0.M.S.Term, U6 a0.M.S.Voters, r0_1, U6 a0.H.ID.Session, U6 a0.H.ID.Seq, U6 a0.H.Epoch, r0_2, r0_3, r0_4, r0_5, U6 a0.ID.Session, U6 a0.ID.Seq, I6 a0.R.E, U6 a0.R.Epoch, U6 a0.R.Index, r0_6, r0_7, U1 a0.C.Kind, U6 a0.C.ID.Session, U6 a0.C.ID.Seq, U6 a0.C.Epoch, U6 a0.C.Index, I6 a0.C.E, U6 a0.C.Hold.ID.Session, U6 a0.C.Hold.ID.Seq, U6 a0.C.Hold.Epoch, r0_8, r0_9, r0_10, r0_11, r0_12, I6 a0.C.R.E, U6 a0.C.R.Epoch, U6 a0.C.R.Index, r0_13, r0_14, U6 a0.C.Shards, r0_15, U6 a0.C.Rule.ID, I6 a0.C.Rule.From, I6 a0.C.Rule.To, F6 a0.C.Rule.Lo, F6 a0.C.Rule.Hi, U6 a0.C.Rule.Authority, I6 a0.C.Rule.Quota, .bool a0.C.On], at_octet_Writer (Pt b201 0) t207] R) ?_ ?_
 {
 refine wp_seq (wrl (wv (.bool (a0.Kind == (2:Int))) z z z (wv (.bool (a0.Kind == (2:Int))) z z z (wl_nil (tn ?_)))))
 refine bsplit (a0.Kind == (2:Int)) (fun hc225 => ?_) (fun hc225 => ?_)
 {
 replace hm := bif_t hc225 hm
 refine wp_ift (cvb hc225) ?_
 refine wp_skip (tn ?_)
 replace hst := hst.pull1.keep2
 obtain rfl := some_inj hm
 exact ⟨(a0.Kind == (2:Int)), _, hx230, (fu 1 (Pt b194 0) z (fu 3 (Pt b201 0) z (fu 12 (.int .u8 a0.Kind) z (fu 19 (.bool (a0.Kind == (2:Int))) z z)))), hst⟩
}
 {
 replace hm := bif_f hc225 hm
 refine wp_iff (cvb hc225) ?_
 refine wrl (wv (.bool (a0.Kind == (6:Int))) z z z (wv (.bool (a0.Kind == (6:Int))) z z z (wl_nil (tn ?_))))
 replace hst := hst.pull1.keep2
 obtain rfl := some_inj hm
 exact ⟨(a0.Kind == (6:Int)), _, hx230, (fu 1 (Pt b194 0) z (fu 3 (Pt b201 0) z (fu 12 (.int .u8 a0.Kind) z (fu 19 (.bool (a0.Kind == (6:Int))) z z)))), hst⟩
}
}
 {
 clear hst
 rintro _ w231 ⟨z226, σ227, hm, rfl, hst⟩
 dsimp only [mail_Encode_j0] at hm
 refine bsplit z226 (fun hc232 => ?_) (fun hc232 => ?_)
 {
 replace hm := bif_t hc232 hm
 refine wp_ift (cvb hc232) ?_
 refine wrl (wv (Pt b201 0) z z z (wv (Pt b194 14) z z (x_field z underlying50 z sizeOf36 z) (wv (.agg #[U6 a0.H.ID.Session, U6 a0.H.ID.Seq, U6 a0.H.Epoch, r0_2, r0_3, r0_4, r0_5]) z z (x_loadN (cs := [U6 a0.H.ID.Session, U6 a0.H.ID.Seq, U6 a0.H.Epoch, r0_2, r0_3, r0_4, r0_5]) z isAgg36 sizeOf36 (hst.bcs0 14 z)) ?_)))
 replace hst := hst.pull1
 obtain ⟨t233, ht234, hm⟩ := bind_some hm
 refine wc call23 [Pt b201 0, .agg #[U6 a0.H.ID.Session, U6 a0.H.ID.Seq, U6 a0.H.Epoch, r0_2, r0_3, r0_4, r0_5]] z z z ?_
 refine (locks_Lay_ref (f0_2.mono (rd_weak _)) (f0_3.mono (rd_weak _)) (f0_4.mono (rd_weak _)) (f0_5.mono (rd_weak _)) hst.to1 ht234).mono ?_
 rintro _ w235 ⟨rfl, hst⟩
 refine ⟨_, z, ?_⟩
 replace hst := hst.of1
 refine wl_nil (blk_n (tn (wp_seq (wrl (wv (Pt b201 0) z z z ?_)))))
 obtain ⟨t238, ht239, hm⟩ := bind_some hm
 refine wc call27 [Pt b201 0] z z z ?_
 refine (octet_Writer_Done_ref hst.to1 ht239).mono ?_
 rintro _ w240 ⟨v243, rfl, hst⟩
 refine ⟨_, z, ?_⟩
 replace hst := hst.of1
 refine wv (v243) z z z (wl_nil (tn (wp_ret ?_)))
 obtain rfl := some_inj hm
 refine post_ret (vs := [v243]) results8 (rvs_cons (rv_tmp z) rvs_nil) ?_
 exact ⟨v243, z, hst.keep1⟩
}
 {
 replace hm := bif_f hc232 hm
 refine wp_iff (cvb hc232) ?_
 refine wp_seq (wrl (wv (.bool (a0.Kind == (3:Int))) z z z (wv (.bool (a0.Kind == (3:Int))) z z z (wl_nil (tn ?_)))))
 refine bsplit (a0.Kind == (3:Int)) (fun hc245 => ?_) (fun hc245 => ?_)
 {
 replace hm := bif_t hc245 hm
 refine wp_ift (cvb hc245) ?_
 refine wp_seq (wrl (wv (Pt b201 0) z z z (wv (Pt b194 14) z z (x_field z underlying50 z sizeOf36 z) (wv (.agg #[U6 a0.H.ID.Session, U6 a0.H.ID.Seq, U6 a0.H.Epoch, r0_2, r0_3, r0_4, r0_5]) z z (x_loadN (cs := [U6 a0.H.ID.Session, U6 a0.H.ID.Seq, U6 a0.H.Epoch, r0_2, r0_3, r0_4, r0_5]) z isAgg36 sizeOf36 (hst.bcs0 14 z)) ?_))))
 replace hst := hst.pull1
 obtain ⟨t246, ht247, hm⟩ := bind_some hm
 refine wc call23 [Pt b201 0, .agg #[U6 a0.H.ID.Session, U6 a0.H.ID.Seq, U6 a0.H.Epoch, r0_2, r0_3, r0_4, r0_5]] z z z ?_
 refine (locks_Lay_ref (f0_2.mono (rd_weak _)) (f0_3.mono (rd_weak _)) (f0_4.mono (rd_weak _)) (f0_5.mono (rd_weak _)) hst.to1 ht247).mono ?_
 rintro _ w248 ⟨rfl, hst⟩
 refine ⟨_, z, ?_⟩
 replace hst := hst.of1
 refine wl_nil (tn (wrl (wv (Pt b201 0) z z z (wv (Pt b194 23) z z (x_field z underlying50 z sizeOf41 z) (wv (.agg #[I6 a0.R.E, U6 a0.R.Epoch, U6 a0.R.Index, r0_6, r0_7]) z z (x_loadN (cs := [I6 a0.R.E, U6 a0.R.Epoch, U6 a0.R.Index, r0_6, r0_7]) z isAgg41 sizeOf41 (hst.bcs1 23 z)) ?_)))))
 obtain ⟨t251, ht252, hm⟩ := bind_some hm
 refine wc call24 [Pt b201 0, .agg #[I6 a0.R.E, U6 a0.R.Epoch, U6 a0.R.Index, r0_6, r0_7]] z z z ?_
 refine (command_LayReply_ref (f0_6.mono (rd_weak _)) (f0_7.mono (rd_weak _)) hst.to1 ht252).mono ?_
 rintro _ w253 ⟨rfl, hst⟩
 refine ⟨_, z, ?_⟩
 replace hst := hst.of1
 refine wl_nil (blk_n (tn (wp_seq (wrl (wv (Pt b201 0) z z z ?_)))))
 obtain ⟨t256, ht257, hm⟩ := bind_some hm
 refine wc call27 [Pt b201 0] z z z ?_
 refine (octet_Writer_Done_ref hst.to1 ht257).mono ?_
 rintro _ w258 ⟨v261, rfl, hst⟩
 refine ⟨_, z, ?_⟩
 replace hst := hst.of1
 refine wv (v261) z z z (wl_nil (tn (wp_ret ?_)))
 obtain rfl := some_inj hm
 refine post_ret (vs := [v261]) results8 (rvs_cons (rv_tmp z) rvs_nil) ?_
 exact ⟨v261, z, hst.keep1⟩
}
 {
 replace hm := bif_f hc245 hm
 refine wp_iff (cvb hc245) ?_
 refine wp_seq (wrl (wv (.bool (a0.Kind == (4:Int))) z z z (wv (.bool (a0.Kind == (4:Int))) z z z (wl_nil (tn ?_)))))
 refine bsplit (a0.Kind == (4:Int)) (fun hc263 => ?_) (fun hc263 => ?_)
 {
 replace hm := bif_t hc263 hm
 refine wp_ift (cvb hc263) ?_
 refine wrl (wv (Pt b201 0) z z z (wv (Pt b194 28) z z (x_field z underlying50 z sizeOf48 z) (wv (.agg #[U1 a0.C.Kind, U6 a0.C.ID.Session, U6 a0.C.ID.Seq, U6 a0.C.Epoch, U6 a0.C.Index, I6 a0.C.E, U6 a0.C.Hold.ID.Session, U6 a0.C.Hold.ID.Seq, U6 a0.C.Hold.Epoch, r0_8, r0_9, r0_10, r0_11, r0_12, I6 a0.C.R.E, U6 a0.C.R.Epoch, U6 a0.C.R.Index, r0_13, r0_14, U6 a0.C.Shards, r0_15, U6 a0.C.Rule.ID, I6 a0.C.Rule.From, I6 a0.C.Rule.To, F6 a0.C.Rule.Lo, F6 a0.C.Rule.Hi, U6 a0.C.Rule.Authority, I6 a0.C.Rule.Quota, .bool a0.C.On]) z z (x_loadN (cs := [U1 a0.C.Kind, U6 a0.C.ID.Session, U6 a0.C.ID.Seq, U6 a0.C.Epoch, U6 a0.C.Index, I6 a0.C.E, U6 a0.C.Hold.ID.Session, U6 a0.C.Hold.ID.Seq, U6 a0.C.Hold.Epoch, r0_8, r0_9, r0_10, r0_11, r0_12, I6 a0.C.R.E, U6 a0.C.R.Epoch, U6 a0.C.R.Index, r0_13, r0_14, U6 a0.C.Shards, r0_15, U6 a0.C.Rule.ID, I6 a0.C.Rule.From, I6 a0.C.Rule.To, F6 a0.C.Rule.Lo, F6 a0.C.Rule.Hi, U6 a0.C.Rule.Authority, I6 a0.C.Rule.Quota, .bool a0.C.On]) z isAgg48 sizeOf48 (hst.bcs0 28 z)) ?_)))
 obtain ⟨t264, ht265, hm⟩ := bind_some hm
 refine wc call26 [.agg #[U1 a0.C.Kind, U6 a0.C.ID.Session, U6 a0.C.ID.Seq, U6 a0.C.Epoch, U6 a0.C.Index, I6 a0.C.E, U6 a0.C.Hold.ID.Session, U6 a0.C.Hold.ID.Seq, U6 a0.C.Hold.Epoch, r0_8, r0_9, r0_10, r0_11, r0_12, I6 a0.C.R.E, U6 a0.C.R.Epoch, U6 a0.C.R.Index, r0_13, r0_14, U6 a0.C.Shards, r0_15, U6 a0.C.Rule.ID, I6 a0.C.Rule.From, I6 a0.C.Rule.To, F6 a0.C.Rule.Lo, F6 a0.C.Rule.Hi, U6 a0.C.Rule.Authority, I6 a0.C.Rule.Quota, .bool a0.C.On]] z z z ?_
 refine (command_Encode_ref (f0_8.mono (rd_weak _)) (f0_9.mono (rd_weak _)) (f0_10.mono (rd_weak _)) (f0_11.mono (rd_weak _)) (f0_12.mono (rd_weak _)) (f0_13.mono (rd_weak _)) (f0_14.mono (rd_weak _)) (f0_15.mono (rd_weak _)) hst.to0 ht265).mono ?_
 rintro _ w266 ⟨v269, rfl, hst⟩
 refine ⟨_, z, ?_⟩
 replace hst := hst.of1
 obtain ⟨css271, hq272, hst⟩ := hst.own_open
 replace hst := hst.pull2
 obtain ⟨t273, ht274, hm⟩ := bind_some hm
 refine wc call25 [Pt b201 0, v269] z z z ?_
 refine (octet_Writer_Bytes_ref (hst.sub.rdrow0 hq272) hst.to1 ht274).mono ?_
 rintro _ w275 ⟨rfl, hst⟩
 refine ⟨_, z, ?_⟩
 replace hst := hst.of1.pull1.own_close hq272
 refine wl_nil (blk_n (tn (wp_seq (wrl (wv (Pt b201 0) z z z ?_)))))
 replace hst := hst.pull1
 obtain ⟨t278, ht279, hm⟩ := bind_some hm
 refine wc call27 [Pt b201 0] z z z ?_
 refine (octet_Writer_Done_ref hst.to1 ht279).mono ?_
 rintro _ w280 ⟨v283, rfl, hst⟩
 refine ⟨_, z, ?_⟩
 replace hst := hst.of1
 refine wv (v283) z z z (wl_nil (tn (wp_ret ?_)))
 obtain rfl := some_inj hm
 refine post_ret (vs := [v283]) results8 (rvs_cons (rv_tmp z) rvs_nil) ?_
 exact ⟨v283, z, hst.keep1⟩
}
 {
 replace hm := bif_f hc263 hm
 refine wp_iff (cvb hc263) ?_
 refine wp_seq (wrl (wv (.bool (a0.Kind == (5:Int))) z z z (wv (.bool (a0.Kind == (5:Int))) z z z (wl_nil (tn ?_)))))
 refine bsplit (a0.Kind == (5:Int)) (fun hc285 => ?_) (fun hc285 => ?_)
 {
 replace hm := bif_t hc285 hm
 refine wp_ift (cvb hc285) ?_
 refine wp_region_St hst 9 [0, 1, 2, 3, 4, 5, 6, 7, 8] [0, 0, 2, 6, 15, 0, 32, 96, 255] [] z (by kernel_rfl) (by kernel_rfl) Try.mixed (by kernel_rfl) ?_
 refine wsr (Pt b201 0) 0 z z z (by kernel_rfl) (fun w hst => z) (wsr (Pt b194 21) 1 z z z (by kernel_rfl) (fun w hst => x_field z underlying50 z sizeOf32 z) (wsr (Pt b194 21) 2 z z z (by kernel_rfl) (fun w hst => x_field z underlying32 z sizeOf25 z) (wsr (.int .u64 a0.ID.Session) 3 z z z (by kernel_rfl) (fun w hst => x_load z isAgg25 (hst.bc0 z)) (wsr (Pt b194 21) 5 z z z (by kernel_rfl) (fun w hst => x_field z underlying50 z sizeOf32 z) (wsr (Pt b194 22) 6 z z z (by kernel_rfl) (fun w hst => x_field z underlying32 z sizeOf25 z) (wsr (.int .u64 a0.ID.Seq) 7 z z z (by kernel_rfl) (fun w hst => x_load z isAgg25 (hst.bc0 z)) ?_))))))
 refine ws_e1 4 (by kernel_rfl) ?_
 refine nxe [8] (by kernel_rfl) z z ?_
 clear hst
 intro w hst
 replace hst := hst.pull1
 obtain ⟨t286, ht287, hm⟩ := bind_some hm
 refine wec call21 [Pt b201 0, U6 a0.ID.Session, I6 (8:Int)] z z ?_
 refine (octet_Writer_Num_ref hst.to1 ht287).mono ?_
 rintro _ w288 ⟨rfl, hst⟩
 refine ⟨_, z, ?_⟩
 replace hst := hst.of1
 refine ws_next (pend' := [(7, U6 a0.ID.Seq), (6, Pt b194 22), (5, Pt b194 21)]) hst (by kernel_rfl) (pkr z z (fun w hst => x_load z isAgg25 (hst.bc1 z)) (pkr z z (fun w hst => x_field z underlying32 z sizeOf25 z) (pkr z z (fun w hst => x_field z underlying50 z sizeOf32 z) pk_nil))) ?_
 refine ws_e1 8 (by kernel_rfl) ?_
 refine nxe [] (by kernel_rfl) z z ?_
 clear hst
 intro w hst
 obtain ⟨t291, ht292, hm⟩ := bind_some hm
 refine wec call21 [Pt b201 0, U6 a0.ID.Seq, I6 (8:Int)] z z ?_
 refine (octet_Writer_Num_ref hst.to1 ht292).mono ?_
 rintro _ w293 ⟨rfl, hst⟩
 refine ⟨_, z, ?_⟩
 replace hst := hst.of1
 refine ws_next (pend' := []) hst (by kernel_rfl) pk_nil ?_
 refine ws_nil ?_
 intro w hst
 refine blk_n (tn (wp_seq (wrl ?_)))
 refine wv (Pt b201 0) z z z ?_
 obtain ⟨t296, ht297, hm⟩ := bind_some hm
 refine wc call27 [Pt b201 0] z z z ?_
 refine (octet_Writer_Done_ref hst.to1 ht297).mono ?_
 rintro _ w298 ⟨v301, rfl, hst⟩
 refine ⟨_, z, ?_⟩
 replace hst := hst.of1
 refine wv (v301) z z z (wl_nil (tn (wp_ret ?_)))
 obtain rfl := some_inj hm
 refine post_ret (vs := [v301]) results8 (rvs_cons (rv_tmp z) rvs_nil) ?_
 exact ⟨v301, z, hst.keep1⟩
}
 {
 replace hm := bif_f hc285 hm
 refine wp_iff (cvb hc285) ?_
 refine wp_skip (blk_n (tn (wp_seq (wrl ?_))))
 refine wv (Pt b201 0) z z z ?_
 replace hst := hst.pull1
 obtain ⟨t303, ht304, hm⟩ := bind_some hm
 refine wc call27 [Pt b201 0] z z z ?_
 refine (octet_Writer_Done_ref hst.to1 ht304).mono ?_
 rintro _ w305 ⟨v308, rfl, hst⟩
 refine ⟨_, z, ?_⟩
 replace hst := hst.of1
 refine wv (v308) z z z (wl_nil (tn (wp_ret ?_)))
 obtain rfl := some_inj hm
 refine post_ret (vs := [v308]) results8 (rvs_cons (rv_tmp z) rvs_nil) ?_
 exact ⟨v308, z, hst.keep1⟩
}
}
}
}
}
}
}

theorem law17_awake_ref {w0 w : World} {I : HL} {R : SP}   (hst : St w0 w I [] R) {r : (Bool)} (hm : law17_awake = some r) :
  Calls prog 6 #[] w fun e w' => e = .returned (.bool r) ∧ St w0 w' I [] R := by {
 unfold law17_awake at hm
 refine calls_start (args := []) func6 z ntmps6 (Nat.le_of_ble_eq_true z) ?_
 refine wp_seq (wrl (wv (.bool false) z z z (wl_nil (tn (wp_seq (wrl (wv (.agg #[U1 (5:Int), Zb, Zi, Zi, Zu, Zu, Zu, Zu, .bool false, Zs, Zu, Zu, Zu, Zs, Zu, Zu, Zu, Zs, Zs, Zs, Zs, Zu, Zu, Zi, Zu, Zu, Zs, Zs, Zb, Zu, Zu, Zu, Zu, Zi, Zu, Zu, Zu, Zs, Zs, Zs, Zs, Zs, Zi, Zu, Zu, Zs, Zs, Zu, Zs, Zu, Zi, Zi, Zf, Zf, Zu, Zi, .bool false]) z z (by kernel_rfl) ?_)))))))
 obtain ⟨b102, w103, ew104, eb105, hst⟩ := hst.box [Zb, Zb, Zi, Zi, Zu, Zu, Zu, Zu, .bool false, Zs, Zu, Zu, Zu, Zs, Zu, Zu, Zu, Zs, Zs, Zs, Zs, Zu, Zu, Zi, Zu, Zu, Zs, Zs, Zb, Zu, Zu, Zu, Zu, Zi, Zu, Zu, Zu, Zs, Zs, Zs, Zs, Zs, Zi, Zu, Zu, Zs, Zs, Zu, Zs, Zu, Zi, Zi, Zf, Zf, Zu, Zi, .bool false] 50
 refine wl_run (v := Pt b102 0) (w' := w103) z z (x_al (by kernel_rfl) ew104 eb105) ?_
 obtain ⟨w107, hr108, hst⟩ := hst.bx [U1 (5:Int), Zb, Zi, Zi, Zu, Zu, Zu, Zu, .bool false, Zs, Zu, Zu, Zu, Zs, Zu, Zu, Zu, Zs, Zs, Zs, Zs, Zu, Zu, Zi, Zu, Zu, Zs, Zs, Zb, Zu, Zu, Zu, Zu, Zi, Zu, Zu, Zu, Zs, Zs, Zs, Zs, Zs, Zi, Zu, Zu, Zs, Zs, Zu, Zs, Zu, Zi, Zi, Zf, Zf, Zu, Zi, .bool false] sizeOf50 z (oC z (oC z (oC z (oC z (oC z (oC z (oC z (oC z (oC z (oC z (oC z (oC z (oC z (oC z (oC z (oC z (oC z (oC z (oC z (oC z (oC z (oC z (oC z (oC z (oC z (oC z (oC z (oC z (oC z (oC z (oC z (oC z (oC z (oC z (oC z (oC z (oC z (oC z (oC z (oC z (oC z (oC z (oC z (oC z (oC z (oC z (oC z (oC z (oC z (oC z (oC z (oC z (oC z (oC z (oC z (oC z (oC z oN))))))))))))))))))))))))))))))))))))))))))))))))))))))))) (by kernel_rfl)
 refine wl_unit z z (x_unit hr108) ?_
 refine wl_nil (tn (wp_seq (wrl (wv (Pt b102 21) z z (x_field z underlying50 z sizeOf32 z) (wv (Pt b102 21) z z (x_field z underlying32 z sizeOf25 z) ?_)))))
 obtain ⟨w109, hr110, hst⟩ := hst.by_ [U1 (5:Int), Zb, Zi, Zi, Zu, Zu, Zu, Zu, .bool false, Zs, Zu, Zu, Zu, Zs, Zu, Zu, Zu, Zs, Zs, Zs, Zs, U6 (1:Int), Zu, Zi, Zu, Zu, Zs, Zs, Zb, Zu, Zu, Zu, Zu, Zi, Zu, Zu, Zu, Zs, Zs, Zs, Zs, Zs, Zi, Zu, Zu, Zs, Zs, Zu, Zs, Zu, Zi, Zi, Zf, Zf, Zu, Zi, .bool false] 21 (.int .u64 (1:Int)) sizeOf25 z (oC z oN) (by kernel_rfl)
 refine wl_unit z z (x_unit hr110) ?_
 refine wl_nil (tn (wp_seq (wrl (wv (Pt b102 21) z z (x_field z underlying50 z sizeOf32 z) (wv (Pt b102 22) z z (x_field z underlying32 z sizeOf25 z) ?_)))))
 obtain ⟨w111, hr112, hst⟩ := hst.by_ [U1 (5:Int), Zb, Zi, Zi, Zu, Zu, Zu, Zu, .bool false, Zs, Zu, Zu, Zu, Zs, Zu, Zu, Zu, Zs, Zs, Zs, Zs, U6 (1:Int), U6 (2:Int), Zi, Zu, Zu, Zs, Zs, Zb, Zu, Zu, Zu, Zu, Zi, Zu, Zu, Zu, Zs, Zs, Zs, Zs, Zs, Zi, Zu, Zu, Zs, Zs, Zu, Zs, Zu, Zi, Zi, Zf, Zf, Zu, Zi, .bool false] 22 (.int .u64 (2:Int)) sizeOf25 z (oC z oN) (by kernel_rfl)
 refine wl_unit z z (x_unit hr112) ?_
 refine wl_nil (tn (wp_seq (wrl (wv (.agg #[U1 (5:Int), Zb, Zi, Zi, Zu, Zu, Zu, Zu, .bool false, Zs, Zu, Zu, Zu, Zs, Zu, Zu, Zu, Zs, Zs, Zs, Zs, U6 (1:Int), U6 (2:Int), Zi, Zu, Zu, Zs, Zs, Zb, Zu, Zu, Zu, Zu, Zi, Zu, Zu, Zu, Zs, Zs, Zs, Zs, Zs, Zi, Zu, Zu, Zs, Zs, Zu, Zs, Zu, Zi, Zi, Zf, Zf, Zu, Zi, .bool false]) z z (x_loadN (cs := [U1 (5:Int), Zb, Zi, Zi, Zu, Zu, Zu, Zu, .bool false, Zs, Zu, Zu, Zu, Zs, Zu, Zu, Zu, Zs, Zs, Zs, Zs, U6 (1:Int), U6 (2:Int), Zi, Zu, Zu, Zs, Zs, Zb, Zu, Zu, Zu, Zu, Zi, Zu, Zu, Zu, Zs, Zs, Zs, Zs, Zs, Zi, Zu, Zu, Zs, Zs, Zu, Zs, Zu, Zi, Zi, Zf, Zf, Zu, Zi, .bool false]) z isAgg50 sizeOf50 (hst.bcs0 0 z)) ?_))))
 have f113 : Ro ty_api_Entry I (.slice none 0 0) [] := ro_nil
 have f114 : Ro (tyInt .u8) I (.slice none 0 0) [] := ro_nil
 have f115 : Ro tyF64 I (.slice none 0 0) [] := ro_nil
 have f116 : Ro tyF2 I (.slice none 0 0) [] := ro_nil
 have f117 : Ro tyF64 I (.slice none 0 0) [] := ro_nil
 have f118 : Ro (tyInt .u8) I (.slice none 0 0) [] := ro_nil
 have f119 : Ro ty_api_Got I (.slice none 0 0) [] := ro_nil
 have f120 : Ro (tySl ty_api_Pair) I (.slice none 0 0) [] := ro_nil
 have f121 : Ro tyF64 I (.slice none 0 0) [] := ro_nil
 have f122 : Ro tyF2 I (.slice none 0 0) [] := ro_nil
 have f123 : Ro tyF64 I (.slice none 0 0) [] := ro_nil
 have f124 : Ro (tyInt .u8) I (.slice none 0 0) [] := ro_nil
 have f125 : Ro ty_api_Write I (.slice none 0 0) [] := ro_nil
 have f126 : Ro ty_api_Got I (.slice none 0 0) [] := ro_nil
 have f127 : Ro (tySl ty_api_Pair) I (.slice none 0 0) [] := ro_nil
 have f128 : Ro ty_api_Part I (.slice none 0 0) [] := ro_nil
 obtain ⟨t129, ht130, hm⟩ := bind_some hm
 refine wc call8 [.agg #[U1 (5:Int), Zb, Zi, Zi, Zu, Zu, Zu, Zu, .bool false, Zs, Zu, Zu, Zu, Zs, Zu, Zu, Zu, Zs, Zs, Zs, Zs, U6 (1:Int), U6 (2:Int), Zi, Zu, Zu, Zs, Zs, Zb, Zu, Zu, Zu, Zu, Zi, Zu, Zu, Zu, Zs, Zs, Zs, Zs, Zs, Zi, Zu, Zu, Zs, Zs, Zu, Zs, Zu, Zi, Zi, Zf, Zf, Zu, Zi, .bool false]] z z z ?_
 refine (mail_Encode_ref (f113.mono ro_rd) (f114.mono ro_rd) (f115.mono ro_rd) (f116.mono ro_rd) (f117.mono ro_rd) (f118.mono ro_rd) (f119.mono ro_rd) (f120.mono ro_rd) (f121.mono ro_rd) (f122.mono ro_rd) (f123.mono ro_rd) (f124.mono ro_rd) (f125.mono ro_rd) (f126.mono ro_rd) (f127.mono ro_rd) (f128.mono ro_rd) hst.to0 ht130).mono ?_
 rintro _ w131 ⟨v134, rfl, hst⟩
 refine ⟨_, z, ?_⟩
 replace hst := hst.of1
 refine wv (.string (toStr t129)) z z (x_tostr underlying22 underlying9 underlying5 z hst.src0) (wv (.bool (sEq (toStr t129) (ByteArray.mk #[5, 1, 0, 0, 0, 0, 0, 0, 0, 2, 0, 0, 0, 0, 0, 0, 0]))) z z (by kernel_rfl) (wv (.bool (sEq (toStr t129) (ByteArray.mk #[5, 1, 0, 0, 0, 0, 0, 0, 0, 2, 0, 0, 0, 0, 0, 0, 0]))) z z z ?_))
 refine bsplit (sEq (toStr t129) (ByteArray.mk #[5, 1, 0, 0, 0, 0, 0, 0, 0, 2, 0, 0, 0, 0, 0, 0, 0])) (fun hc136 => ?_) (fun hc136 => ?_)
 {
 replace hm := bif_t hc136 hm
 refine wv (.bool true) z z (x_pick_t hc136 z z) (wv (.bool true) z z z (wl_nil (tn (wp_ret ?_))))
 obtain rfl := some_inj hm
 refine post_ret (vs := [.bool true]) results6 (rvs_cons (rv_tmp z) rvs_nil) ?_
 exact ⟨z, hst.keep0⟩
}
 {
 replace hm := bif_f hc136 hm
 refine wv (.bool false) z z (x_pick_f hc136 z z) (wv (.bool false) z z z (wl_nil (tn (wp_ret ?_))))
 obtain rfl := some_inj hm
 refine post_ret (vs := [.bool false]) results6 (rvs_cons (rv_tmp z) rvs_nil) ?_
 exact ⟨z, hst.keep0⟩
}
}

theorem ref12_Tape_Next_ref {w0 w : World} {I : HL} {R : SP} {a0 : ref12_Tape} {p0 : Value} {a1 : Int}  (hst : St w0 w I [at_ref12_Tape p0 a0] R) {r : (Int × ref12_Tape)} (hm : ref12_Tape_Next a0 a1 = some r) :
  Calls prog 28 #[p0, I6 a1] w fun e w' => e = .returned (.int .i64 r.1) ∧ St w0 w' I [at_ref12_Tape p0 r.2] R := by {
 unfold ref12_Tape_Next at hm
 refine calls_start (args := [p0, I6 a1]) func28 z ntmps28 (Nat.le_of_ble_eq_true z) ?_
 refine wp_seq (wrl (wv (.int .i64 (0:Int)) z z z (wl_nil (tn (wp_seq (wp_seq ?_))))))
 obtain ⟨b69, v70, ⟨rfl, f72⟩, hst'⟩ := at_ref12_Tape_open hst
 clear hst
 have hst := hst'
 clear hst'
 refine wq_regionS hst Try.mixed (by kernel_rfl) ?_
 refine wq_run (v := Pt b69 0) z z (fun w hst => z) ?_
 refine wq_run (v := Pt b69 0) z z (fun w hst => z) ?_
 refine wq_run (v := Pt b69 1) z z (fun w hst => x_field z underlying57 z sizeOf3 z) ?_
 refine wq_run (v := .int .i64 a0.I) z z (fun w hst => x_load z isAgg3 (hst.bc0 z)) ?_
 refine wq_run (v := Pt b69 0) z z (fun w hst => z) ?_
 refine wq_run (v := Pt b69 0) z z (fun w hst => z) ?_
 refine wq_run (v := Pt b69 0) z z (fun w hst => x_field z underlying57 z sizeOf22 z) ?_
 refine wq_run (v := v70) z z (fun w hst => x_load z isAgg22 (hst.bc0 z)) ?_
 refine wq_run (v := .int .i64 ((a0.L).length : Int)) z z (fun w hst => x_len z underlying22 (ro_sliceV f72)) ?_
 refine wq_run (v := .bool (decide (a0.I ≥ ((a0.L).length : Int)))) z z (fun w hst => z) ?_
 refine wq_nil ?_
 intro w hst
 refine tn ?_
 refine bsplit (decide (a0.I ≥ ((a0.L).length : Int))) (fun hc73 => ?_) (fun hc73 => ?_)
 {
 replace hm := bif_t hc73 hm
 refine wp_ift (cvb hc73) ?_
 refine wp_seq (wrl (wv (.int .i64 (0:Int)) z z z (wl_nil (tn (wp_ret (then_r ?_))))))
 replace hst := at_ref12_Tape_close (pv := Pt b69 0) (x := a0) hst ⟨z, f72⟩
 obtain rfl := some_inj hm
 refine post_ret (vs := [Zi]) results28 (rvs_cons (rv_tmp z) rvs_nil) ?_
 exact ⟨z, hst.keep1⟩
}
 {
 replace hm := bif_f hc73 hm
 refine wp_iff (cvb hc73) ?_
 refine wp_skip (tn (wp_seq (wrl ?_)))
 refine wv (Pt b69 0) z z z (wv (Pt b69 0) z z z (wv (Pt b69 1) z z (x_field z underlying57 z sizeOf3 z) (wv (.int .i64 a0.I) z z (x_load z isAgg3 (hst.bc0 z)) (wv (.int .i64 (i64.wrap (a0.I + (1:Int)))) z z z (wv (Pt b69 0) z z z (wv (Pt b69 1) z z (x_field z underlying57 z sizeOf3 z) ?_))))))
 obtain ⟨w74, hr75, hst⟩ := hst.by_ [v70, I6 (i64.wrap (a0.I + (1:Int)))] 1 (.int .i64 (i64.wrap (a0.I + (1:Int)))) sizeOf3 z (oC z oN) (by kernel_rfl)
 refine wl_unit z z (x_unit hr75) ?_
 refine wl_nil (tn (wp_seq ?_))
 refine wq_regionS hst Try.mixed (by kernel_rfl) ?_
 refine wq_run (v := Pt b69 0) z z (fun w hst => z) ?_
 refine wq_run (v := Pt b69 0) z z (fun w hst => z) ?_
 refine wq_run (v := Pt b69 0) z z (fun w hst => x_field z underlying57 z sizeOf22 z) ?_
 refine wq_run (v := v70) z z (fun w hst => x_load z isAgg22 (hst.bc0 z)) ?_
 refine wq_run (v := Pt b69 0) z z (fun w hst => z) ?_
 refine wq_run (v := Pt b69 0) z z (fun w hst => z) ?_
 refine wq_run (v := Pt b69 1) z z (fun w hst => x_field z underlying57 z sizeOf3 z) ?_
 refine wq_run (v := .int .i64 (i64.wrap (a0.I + (1:Int)))) z z (fun w hst => x_load z isAgg3 (hst.bc0 z)) ?_
 refine wq_run (v := .int .i64 (i64.wrap ((i64.wrap (a0.I + (1:Int))) - (1:Int)))) z z (fun w hst => z) ?_
 obtain ⟨x76, hx77, hm⟩ := bind_some hm
 obtain ⟨h78, h79, hi80⟩ := geto_some hx77
 refine wq_run (v := .pointer (some (eAddr v70 ((i64.wrap ((i64.wrap (a0.I + (1:Int))) - (1:Int))).toNat * 1 + 0)))) z z (fun w hst => x_index z z underlying22 sizeOf5 (ro_sliceV f72) h78 h79) ?_
 refine wq_run (v := .int .u8 x76) z z (fun w hst => x_load z isAgg5 (ro_load f72 hst hi80 (by rintro _ rfl; rfl))) ?_
 refine wq_run (v := .int .i64 (i64.wrap x76)) z z (fun w hst => by kernel_rfl) ?_
 refine wq_run (v := .int .i64 a1) z z (fun w hst => z) ?_
 obtain ⟨hg81, hm⟩ := gd_some hm
 refine wq_run (v := .int .i64 (Int.tmod (i64.wrap x76) a1)) z z (fun w hst => x_rem (not_t hg81) z z) ?_
 refine wq_run (v := .int .i64 (Int.tmod (i64.wrap x76) a1)) z z (fun w hst => z) ?_
 refine wq_nil ?_
 intro w hst
 refine tn (wp_ret ?_)
 replace hst := at_ref12_Tape_close (pv := Pt b69 0) (x := ({ L := a0.L, I := (i64.wrap (a0.I + (1:Int))) } : ref12_Tape)) hst ⟨z, f72⟩
 obtain rfl := some_inj hm
 refine post_ret (vs := [I6 (Int.tmod (i64.wrap x76) a1)]) results28 (rvs_cons (rv_tmp z) rvs_nil) ?_
 exact ⟨z, hst.keep1⟩
}
}

end Go.Proofs.Ytldfdainhdiffaa
