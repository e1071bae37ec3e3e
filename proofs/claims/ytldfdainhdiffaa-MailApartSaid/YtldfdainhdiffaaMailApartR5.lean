/- The Go functions refine their models, part 5. -/
import Derived.Test.YtldfdainhdiffaaMailApartR4
set_option linter.unusedVariables false
set_option linter.unusedSimpArgs false
set_option maxRecDepth 100000
set_option maxHeartbeats 4000000
namespace Go.Proofs.Ytldfdainhdiffaa
open Go Go.V
open _root_.Go.Proofs.Try IntKind
attribute [local irreducible] wpList Code.wp wpQuiet Calls bodyPost Oper.wp wpS Nx PendOK YieldsIn
theorem ref11_SameReply_ref {w0 w : World} {I : HL} {R : SP} {a0 : api_Reply} {r0_0 : Value} {r0_1 : Value} {a1 : api_Reply} {r1_0 : Value} {r1_1 : Value} (f0_0 : Rd ty_api_Got R I r0_0 a0.Gots) (f0_1 : Rd (tySl ty_api_Pair) R I r0_1 a0.Scans) (f1_0 : Rd ty_api_Got R I r1_0 a1.Gots) (f1_1 : Rd (tySl ty_api_Pair) R I r1_1 a1.Scans) (hst : St w0 w I [] R) {r : (Bool)} (hm : ref11_SameReply a0 a1 = some r) :
  Calls prog 43 #[.agg #[I6 a0.E, U6 a0.Epoch, U6 a0.Index, r0_0, r0_1], .agg #[I6 a1.E, U6 a1.Epoch, U6 a1.Index, r1_0, r1_1]] w fun e w' => e = .returned (.bool r) ∧ St w0 w' I [] R := by {
 unfold ref11_SameReply at hm
 refine calls_start (args := [.agg #[I6 a0.E, U6 a0.Epoch, U6 a0.Index, r0_0, r0_1], .agg #[I6 a1.E, U6 a1.Epoch, U6 a1.Index, r1_0, r1_1]]) func43 z ntmps43 (Nat.le_of_ble_eq_true z) ?_
 refine wp_seq (wrl ?_)
 obtain ⟨b486, w487, ew488, eb489, hst⟩ := hst.box [I6 a0.E, U6 a0.Epoch, U6 a0.Index, r0_0, r0_1] 41
 refine wl_run (v := Pt b486 0) (w' := w487) z z (x_al (by kernel_rfl) ew488 eb489) ?_
 obtain ⟨b491, w492, ew493, eb494, hst⟩ := hst.box [I6 a1.E, U6 a1.Epoch, U6 a1.Index, r1_0, r1_1] 41
 refine wl_run (v := Pt b491 0) (w' := w492) z z (x_al (by kernel_rfl) ew493 eb494) ?_
 refine wv (.bool false) z z z (wl_nil (tn (wp_seq (wp_seq (wrl (wv (Pt b486 0) z z (x_field z underlying41 z sizeOf37 z) (wv (.int .i64 a0.E) z z (x_load z isAgg37 (hst.bc1 z)) (wv (Pt b491 0) z z (x_field z underlying41 z sizeOf37 z) (wv (.int .i64 a1.E) z z (x_load z isAgg37 (hst.bc0 z)) (wv (.bool (a0.E != a1.E)) z z z (wv (.bool (a0.E != a1.E)) z z z ?_)))))))))))
 refine bsplit (a0.E != a1.E) (fun hc496 => ?_) (fun hc496 => ?_)
 {
 replace hm := bif_t hc496 hm
 refine wo hc496 z z z z z z (wo hc496 z z z z z z (wo hc496 z z z z z z (wo hc496 z z z z z z (wo hc496 z z z z z z (wv (.bool true) z z (x_pick_t hc496 z z) (wv (.bool true) z z z (wz z z z z z z (wz z z z z z z (wz z z z z z z (wz z z z z z z (wz z z z z z z (wv (.bool true) z z (x_pick_t z z z) ?_))))))))))))
 refine wv (.bool true) z z z (wz z z z z z z (wz z z z z z z (wz z z z z z z (wz z z z z z z (wz z z z z z z (wz z z z z z z (wv (.bool true) z z (x_pick_t z z z) (wv (.bool true) z z z (wz z z z z z z (wz z z z z z z (wz z z z z z z (wz z z z z z z ?_))))))))))))
 refine wz z z z z z z (wz z z z z z z (wz z z z z z z (wv (.bool true) z z (x_pick_t z z z) (wl_nil (tn ?_)))))
 refine wp_ift z ?_
 refine wp_seq (wrl (wv (.bool false) z z z (wl_nil (tn (wp_ret (then_r ?_))))))
 obtain rfl := some_inj hm
 refine post_ret (vs := [.bool false]) results43 (rvs_cons (rv_tmp z) rvs_nil) ?_
 exact ⟨z, hst.keep0⟩
}
 {
 replace hm := bif_f hc496 hm
 refine wv (Pt b486 1) ((wanted_eq z z z (cvb hc496)).trans z) z (x_field z underlying41 z sizeOf25 z) (wv (.int .u64 a0.Epoch) ((wanted_eq z z z (cvb hc496)).trans z) z (x_load z isAgg25 (hst.bc1 z)) (wv (Pt b491 1) ((wanted_eq z z z (cvb hc496)).trans z) z (x_field z underlying41 z sizeOf25 z) (wv (.int .u64 a1.Epoch) ((wanted_eq z z z (cvb hc496)).trans z) z (x_load z isAgg25 (hst.bc0 z)) (wv (.bool (a0.Epoch != a1.Epoch)) ((wanted_eq z z z (cvb hc496)).trans z) z z (wv (.bool (a0.Epoch != a1.Epoch)) z z (x_pick_f hc496 z z) (wv (.bool (a0.Epoch != a1.Epoch)) z z z ?_))))))
 refine bsplit (a0.Epoch != a1.Epoch) (fun hc497 => ?_) (fun hc497 => ?_)
 {
 replace hm := bif_t hc497 hm
 refine wo hc497 z z z z z z (wo hc497 z z z z z z (wo hc497 z z z z z z (wo hc497 z z z z z z (wo hc497 z z z z z z (wv (.bool true) z z (x_pick_t hc497 z z) (wv (.bool true) z z z (wz z z z z z z (wz z z z z z z (wz z z z z z z (wz z z z z z z (wz z z z z z z (wz z z z z z z ?_))))))))))))
 refine wv (.bool true) z z (x_pick_t z z z) (wv (.bool true) z z z (wz z z z z z z (wz z z z z z z (wz z z z z z z (wz z z z z z z (wz z z z z z z (wz z z z z z z (wz z z z z z z (wv (.bool true) z z (x_pick_t z z z) (wl_nil (tn ?_)))))))))))
 refine wp_ift z ?_
 refine wp_seq (wrl (wv (.bool false) z z z (wl_nil (tn (wp_ret (then_r ?_))))))
 obtain rfl := some_inj hm
 refine post_ret (vs := [.bool false]) results43 (rvs_cons (rv_tmp z) rvs_nil) ?_
 exact ⟨z, hst.keep0⟩
}
 {
 replace hm := bif_f hc497 hm
 refine wv (Pt b486 2) ((wanted_eq z z z (cvb hc497)).trans z) z (x_field z underlying41 z sizeOf25 z) (wv (.int .u64 a0.Index) ((wanted_eq z z z (cvb hc497)).trans z) z (x_load z isAgg25 (hst.bc1 z)) (wv (Pt b491 2) ((wanted_eq z z z (cvb hc497)).trans z) z (x_field z underlying41 z sizeOf25 z) (wv (.int .u64 a1.Index) ((wanted_eq z z z (cvb hc497)).trans z) z (x_load z isAgg25 (hst.bc0 z)) (wv (.bool (a0.Index != a1.Index)) ((wanted_eq z z z (cvb hc497)).trans z) z z (wv (.bool (a0.Index != a1.Index)) z z (x_pick_f hc497 z z) (wv (.bool (a0.Index != a1.Index)) z z z ?_))))))
 refine bsplit (a0.Index != a1.Index) (fun hc498 => ?_) (fun hc498 => ?_)
 {
 replace hm := bif_t hc498 hm
 refine wo hc498 z z z z z z (wo hc498 z z z z z z (wo hc498 z z z z z z (wo hc498 z z z z z z (wo hc498 z z z z z z (wo hc498 z z z z z z (wv (.bool true) z z (x_pick_t hc498 z z) (wv (.bool true) z z z (wz z z z z z z (wz z z z z z z (wz z z z z z z (wz z z z z z z (wz z z z z z z ?_))))))))))))
 refine wz z z z z z z (wz z z z z z z (wv (.bool true) z z (x_pick_t z z z) (wl_nil (tn ?_))))
 refine wp_ift z ?_
 refine wp_seq (wrl (wv (.bool false) z z z (wl_nil (tn (wp_ret (then_r ?_))))))
 obtain rfl := some_inj hm
 refine post_ret (vs := [.bool false]) results43 (rvs_cons (rv_tmp z) rvs_nil) ?_
 exact ⟨z, hst.keep0⟩
}
 {
 replace hm := bif_f hc498 hm
 refine wv (Pt b486 3) ((wanted_eq z z z (cvb hc498)).trans z) z (x_field z underlying41 z sizeOf38 z) (wv (r0_0) ((wanted_eq z z z (cvb hc498)).trans z) z (x_load z isAgg38 (hst.bc1 z)) (wv (Pt b491 3) ((wanted_eq z z z (cvb hc498)).trans z) z (x_field z underlying41 z sizeOf38 z) (wv (r1_0) ((wanted_eq z z z (cvb hc498)).trans z) z (x_load z isAgg38 (hst.bc0 z)) ?_)))
 obtain ⟨t499, ht500, hm⟩ := bind_some hm
 refine wl_call ((wanted_eq z z z (cvb hc498)).trans z) z (x_call call65 z (vs := [r0_0, r1_0]) z) ?_
 refine (ref11_SameGots_ref (f0_0.mono (rd_weak _)) (f1_0.mono (rd_weak _)) hst.to0 ht500).mono ?_
 rintro _ w501 ⟨rfl, hst⟩
 refine ⟨_, z, ?_⟩
 replace hst := hst.of0
 refine wv (.bool (!t499)) ((wanted_eq z z z (cvb hc498)).trans z) z z (wv (.bool (!t499)) z z (x_pick_f hc498 z z) (wv (.bool (!t499)) z z z ?_))
 refine bsplit (!t499) (fun hc504 => ?_) (fun hc504 => ?_)
 {
 replace hm := bif_t hc504 hm
 refine wo hc504 z z z z z z (wo hc504 z z z z z z (wo hc504 z z z z z z (wo hc504 z z z z z z (wo hc504 z z z z z z (wo hc504 z z z z z z (wo hc504 z z z z z z (wv (.bool true) z z (x_pick_t hc504 z z) (wl_nil (tn ?_)))))))))
 refine wp_ift z ?_
 refine wp_seq (wrl (wv (.bool false) z z z (wl_nil (tn (wp_ret (then_r ?_))))))
 obtain rfl := some_inj hm
 refine post_ret (vs := [.bool false]) results43 (rvs_cons (rv_tmp z) rvs_nil) ?_
 exact ⟨z, hst.keep0⟩
}
 {
 replace hm := bif_f hc504 hm
 refine wv (Pt b486 4) ((wanted_eq z z z (cvb hc504)).trans z) z (x_field z underlying41 z sizeOf39 z) (wv (r0_1) ((wanted_eq z z z (cvb hc504)).trans z) z (x_load z isAgg39 (hst.bc1 z)) (wv (.int .i64 ((a0.Scans).length : Int)) ((wanted_eq z z z (cvb hc504)).trans z) z (x_len z underlying39 (rd_sliceV f0_1)) (wv (Pt b491 4) ((wanted_eq z z z (cvb hc504)).trans z) z (x_field z underlying41 z sizeOf39 z) (wv (r1_1) ((wanted_eq z z z (cvb hc504)).trans z) z (x_load z isAgg39 (hst.bc0 z)) (wv (.int .i64 ((a1.Scans).length : Int)) ((wanted_eq z z z (cvb hc504)).trans z) z (x_len z underlying39 (rd_sliceV f1_1)) (wv (.bool (((a0.Scans).length : Int) != ((a1.Scans).length : Int))) ((wanted_eq z z z (cvb hc504)).trans z) z z (wv (.bool (((a0.Scans).length : Int) != ((a1.Scans).length : Int))) z z (x_pick_f hc504 z z) (wl_nil (tn ?_)))))))))
 refine bsplit (((a0.Scans).length : Int) != ((a1.Scans).length : Int)) (fun hc505 => ?_) (fun hc505 => ?_)
 {
 replace hm := bif_t hc505 hm
 refine wp_ift (cvb hc505) ?_
 refine wp_seq (wrl (wv (.bool false) z z z (wl_nil (tn (wp_ret (then_r ?_))))))
 obtain rfl := some_inj hm
 refine post_ret (vs := [.bool false]) results43 (rvs_cons (rv_tmp z) rvs_nil) ?_
 exact ⟨z, hst.keep0⟩
}
 {
 replace hm := bif_f hc505 hm
 refine wp_iff (cvb hc505) ?_
 refine wp_skip (tn (wp_seq (wp_seq (wrl ?_))))
 refine wv (.int .i64 (0:Int)) z z z (wl_nil (tn (wp_block ?_)))
 obtain ⟨n567, hm⟩ := loopO_some hm
 refine wp_loop_n (fun n a w => ∃ (z565 : Int) (σ566 : Nat → Value), loopN (ref11_SameReply_l0 a0 a1) n z565 = some r ∧ a = Fr 61 (upd (upd (upd σ566 2 (Pt b486 0)) 3 (Pt b491 0)) 5 (.int .i64 z565)) ∧ St w0 w I [cells b491 [I6 a1.E, U6 a1.Epoch, U6 a1.Index, r1_0, r1_1], cells b486 [I6 a0.E, U6 a0.Epoch, U6 a0.Index, r0_0, r0_1]] R) n567 ⟨(0:Int), _, hm, (fu 2 (Pt b486 0) z (fu 3 (Pt b491 0) z (fu 5 (.int .i64 (0:Int)) z z))), hst⟩ ?_
 rintro n573 _ w568 ⟨z565, σ566, hm, rfl, hst⟩
 obtain ⟨n570, y571, rfl, hm, hx572⟩ := loopN_some hm
 dsimp only [ref11_SameReply_l0] at hm
 refine wp_seq (wp_seq (wrl (wv (.int .i64 z565) z z z (wv (Pt b486 4) z z (x_field z underlying41 z sizeOf39 z) (wv (r0_1) z z (x_load z isAgg39 (hst.bc1 z)) (wv (.int .i64 ((a0.Scans).length : Int)) z z (x_len z underlying39 (rd_sliceV f0_1)) (wv (.bool (decide (z565 < ((a0.Scans).length : Int)))) z z z (wl_nil (tn ?_)))))))))
 refine bsplit (decide (z565 < ((a0.Scans).length : Int))) (fun hc574 => ?_) (fun hc574 => ?_)
 {
 replace hm := bif_t hc574 hm
 refine wp_ift (cvb hc574) ?_
 refine wp_skip (tn (wp_seq (wp_block (wp_seq ?_))))
 refine wp_region_St hst 12 [0, 1, 2, 3, 4, 5, 6, 7, 8, 9, 10, 11] [0, 1, 0, 7, 15, 0, 32, 0, 224, 480, 1023, 2047] [] z (by kernel_rfl) (by kernel_rfl) Try.mixed (by kernel_rfl) ?_
 refine wsr (Pt b486 4) 0 z z z (by kernel_rfl) (fun w hst => x_field z underlying41 z sizeOf39 z) (wsr (r0_1) 1 z z z (by kernel_rfl) (fun w hst => x_load z isAgg39 (hst.bc1 z)) (wsr (.int .i64 z565) 2 z z z (by kernel_rfl) (fun w hst => z) ?_))
 obtain ⟨x575, hx576, hm⟩ := bind_some hm
 obtain ⟨h577, h578, hi579⟩ := geto_some hx576
 refine wsr (.pointer (some (eAddr r0_1 (z565.toNat * 1 + 0)))) 3 z z z (by kernel_rfl) (fun w hst => x_index z z underlying39 sizeOf105 (rd_sliceV f0_1) h577 h578) ?_
 obtain ⟨cs580, hr581, hc582⟩ := Rd.getF f0_1 hi579
 obtain ⟨v583, rfl, f584, -⟩ := hr581
 refine wsr (v583) 4 z z z (by kernel_rfl) (fun w hst => x_load z isAgg105 ((hc582 (HL.le.refl _) hst) 0 _ z)) (wsr (Pt b491 4) 5 z z z (by kernel_rfl) (fun w hst => x_field z underlying41 z sizeOf39 z) (wsr (r1_1) 6 z z z (by kernel_rfl) (fun w hst => x_load z isAgg39 (hst.bc0 z)) (wsr (.int .i64 z565) 7 z z z (by kernel_rfl) (fun w hst => z) ?_)))
 obtain ⟨x586, hx587, hm⟩ := bind_some hm
 obtain ⟨h588, h589, hi590⟩ := geto_some hx587
 refine wsr (.pointer (some (eAddr r1_1 (z565.toNat * 1 + 0)))) 8 z z z (by kernel_rfl) (fun w hst => x_index z z underlying39 sizeOf105 (rd_sliceV f1_1) h588 h589) ?_
 obtain ⟨cs591, hr592, hc593⟩ := Rd.getF f1_1 hi590
 obtain ⟨v594, rfl, f595, -⟩ := hr592
 refine wsr (v594) 9 z z z (by kernel_rfl) (fun w hst => x_load z isAgg105 ((hc593 (HL.le.refl _) hst) 0 _ z)) ?_
 refine ws_e1 10 (by kernel_rfl) ?_
 refine nxe [11] (by kernel_rfl) z z ?_
 clear hst
 intro w hst
 obtain ⟨t597, ht598, hm⟩ := bind_some hm
 refine wec call66 [v583, v594] z z ?_
 refine (ref11_SamePairs_ref (f584.mono (rd_weak _)) (f595.mono (rd_weak _)) hst.to0 ht598).mono ?_
 rintro _ w599 ⟨rfl, hst⟩
 refine ⟨_, z, ?_⟩
 replace hst := hst.of0
 refine ws_next (pend' := []) hst (by kernel_rfl) pk_nil ?_
 refine wsr (.bool (!t597)) 11 z z z (by kernel_rfl) (fun w hst => z) ?_
 refine ws_nil ?_
 intro w hst
 refine tn ?_
 refine bsplit (!t597) (fun hc602 => ?_) (fun hc602 => ?_)
 {
 replace hm := bif_t hc602 hm
 refine wp_ift (cvb hc602) ?_
 refine wp_seq (wrl (wv (.bool false) z z z (wl_nil (tn (wp_ret (blk_r (then_r (then_r ?_))))))))
 replace hm := inr_up hm hx572
 refine blk_r (then_r ?_)
 obtain rfl := some_inj hm
 refine post_ret (vs := [.bool false]) results43 (rvs_cons (rv_tmp z) rvs_nil) ?_
 exact ⟨z, hst.keep0⟩
}
 {
 replace hm := bif_f hc602 hm
 refine wp_iff (cvb hc602) ?_
 refine wp_skip (blk_n (tn (wrl ?_)))
 refine wv (.int .i64 z565) z z z (wv (.int .i64 (i64.wrap (z565 + (1:Int)))) z z z (wv (.int .i64 (i64.wrap (z565 + (1:Int)))) z z z (wl_nil (tn ?_))))
 replace hst := hst.pull1.pull1.keep2
 obtain rfl := some_inj hm
 exact ⟨_, Nat.lt_succ_self _, (i64.wrap (z565 + (1:Int))), _, hx572, (fu 2 (Pt b486 0) z (fu 3 (Pt b491 0) z (fu 5 (.int .i64 (i64.wrap (z565 + (1:Int)))) z z))), hst⟩
}
}
 {
 replace hm := bif_f hc574 hm
 refine wp_iff (cvb hc574) ?_
 refine wp_exit (then_x (then_x ?_))
 replace hm := inr_up hm hx572
 refine blk_x (tn (wp_seq (wrl ?_)))
 refine wv (.bool true) z z z (wl_nil (tn (wp_ret ?_)))
 obtain rfl := some_inj hm
 refine post_ret (vs := [.bool true]) results43 (rvs_cons (rv_tmp z) rvs_nil) ?_
 exact ⟨z, hst.keep0⟩
}
}
}
}
}
}
}

theorem law17_same_ref {w0 w : World} {I : HL} {R : SP} {a0 : api_Mail} {r0_0 : Value} {r0_1 : Value} {r0_2 : Value} {r0_3 : Value} {r0_4 : Value} {r0_5 : Value} {r0_6 : Value} {r0_7 : Value} {r0_8 : Value} {r0_9 : Value} {r0_10 : Value} {r0_11 : Value} {r0_12 : Value} {r0_13 : Value} {r0_14 : Value} {r0_15 : Value} {a1 : api_Mail} {r1_0 : Value} {r1_1 : Value} {r1_2 : Value} {r1_3 : Value} {r1_4 : Value} {r1_5 : Value} {r1_6 : Value} {r1_7 : Value} {r1_8 : Value} {r1_9 : Value} {r1_10 : Value} {r1_11 : Value} {r1_12 : Value} {r1_13 : Value} {r1_14 : Value} {r1_15 : Value} (f0_0 : Rd ty_api_Entry R I r0_0 a0.M.Entries) (f0_1 : Rd (tyInt .u8) R I r0_1 a0.M.S.Data) (f0_2 : Rd tyF64 R I r0_2 a0.H.Gets) (f0_3 : Rd tyF2 R I r0_3 a0.H.Scans) (f0_4 : Rd tyF64 R I r0_4 a0.H.Puts) (f0_5 : Rd (tyInt .u8) R I r0_5 a0.H.Data) (f0_6 : Rd ty_api_Got R I r0_6 a0.R.Gots) (f0_7 : Rd (tySl ty_api_Pair) R I r0_7 a0.R.Scans) (f0_8 : Rd tyF64 R I r0_8 a0.C.Hold.Gets) (f0_9 : Rd tyF2 R I r0_9 a0.C.Hold.Scans) (f0_10 : Rd tyF64 R I r0_10 a0.C.Hold.Puts) (f0_11 : Rd (tyInt .u8) R I r0_11 a0.C.Hold.Data) (f0_12 : Rd ty_api_Write R I r0_12 a0.C.Writes) (f0_13 : Rd ty_api_Got R I r0_13 a0.C.R.Gots) (f0_14 : Rd (tySl ty_api_Pair) R I r0_14 a0.C.R.Scans) (f0_15 : Rd ty_api_Part R I r0_15 a0.C.Parts) (f1_0 : Rd ty_api_Entry R I r1_0 a1.M.Entries) (f1_1 : Rd (tyInt .u8) R I r1_1 a1.M.S.Data) (f1_2 : Rd tyF64 R I r1_2 a1.H.Gets) (f1_3 : Rd tyF2 R I r1_3 a1.H.Scans) (f1_4 : Rd tyF64 R I r1_4 a1.H.Puts) (f1_5 : Rd (tyInt .u8) R I r1_5 a1.H.Data) (f1_6 : Rd ty_api_Got R I r1_6 a1.R.Gots) (f1_7 : Rd (tySl ty_api_Pair) R I r1_7 a1.R.Scans) (f1_8 : Rd tyF64 R I r1_8 a1.C.Hold.Gets) (f1_9 : Rd tyF2 R I r1_9 a1.C.Hold.Scans) (f1_10 : Rd tyF64 R I r1_10 a1.C.Hold.Puts) (f1_11 : Rd (tyInt .u8) R I r1_11 a1.C.Hold.Data) (f1_12 : Rd ty_api_Write R I r1_12 a1.C.Writes) (f1_13 : Rd ty_api_Got R I r1_13 a1.C.R.Gots) (f1_14 : Rd (tySl ty_api_Pair) R I r1_14 a1.C.R.Scans) (f1_15 : Rd ty_api_Part R I r1_15 a1.C.Parts) (hst : St w0 w I [] R) {r : (Bool)} (hm : law17_same a0 a1 = some r) :
  Calls prog 11 #[.agg #[U1 a0.Kind, U1 a0.M.Kind, I6 a0.M.From, I6 a0.M.To, U6 a0.M.Term, U6 a0.M.Index, U6 a0.M.LogTerm, U6 a0.M.Commit, .bool a0.M.OK, r0_0, U6 a0.M.S.Index, U6 a0.M.S.Term, U6 a0.M.S.Voters, r0_1, U6 a0.H.ID.Session, U6 a0.H.ID.Seq, U6 a0.H.Epoch, r0_2, r0_3, r0_4, r0_5, U6 a0.ID.Session, U6 a0.ID.Seq, I6 a0.R.E, U6 a0.R.Epoch, U6 a0.R.Index, r0_6, r0_7, U1 a0.C.Kind, U6 a0.C.ID.Session, U6 a0.C.ID.Seq, U6 a0.C.Epoch, U6 a0.C.Index, I6 a0.C.E, U6 a0.C.Hold.ID.Session, U6 a0.C.Hold.ID.Seq, U6 a0.C.Hold.Epoch, r0_8, r0_9, r0_10, r0_11, r0_12, I6 a0.C.R.E, U6 a0.C.R.Epoch, U6 a0.C.R.Index, r0_13, r0_14, U6 a0.C.Shards, r0_15, U6 a0.C.Rule.ID, I6 a0.C.Rule.From, I6 a0.C.Rule.To, F6 a0.C.Rule.Lo, F6 a0.C.Rule.Hi, U6 a0.C.Rule.Authority, I6 a0.C.Rule.Quota, .bool a0.C.On], .agg #[U1 a1.Kind, U1 a1.M.Kind, I6 a1.M.From, I6 a1.M.To, U6 a1.M.Term, U6 a1.M.Index, U6 a1.M.LogTerm, U6 a1.M.Commit, .bool a1.M.OK, r1_0, U6 a1.M.S.Index, U6 a1.M.S.Term, U6 a1.M.S.Voters, r1_1, U6 a1.H.ID.Session, U6 a1.H.ID.Seq, U6 a1.H.Epoch, r1_2, r1_3, r1_4, r1_5, U6 a1.ID.Session, U6 a1.ID.Seq, I6 a1.R.E, U6 a1.R.Epoch, U6 a1.R.Index, r1_6, r1_7, U1 a1.C.Kind, U6 a1.C.ID.Session, U6 a1.C.ID.Seq, U6 a1.C.Epoch, U6 a1.C.Index, I6 a1.C.E, U6 a1.C.Hold.ID.Session, U6 a1.C.Hold.ID.Seq, U6 a1.C.Hold.Epoch, r1_8, r1_9, r1_10, r1_11, r1_12, I6 a1.C.R.E, U6 a1.C.R.Epoch, U6 a1.C.R.Index, r1_13, r1_14, U6 a1.C.Shards, r1_15, U6 a1.C.Rule.ID, I6 a1.C.Rule.From, I6 a1.C.Rule.To, F6 a1.C.Rule.Lo, F6 a1.C.Rule.Hi, U6 a1.C.Rule.Authority, I6 a1.C.Rule.Quota, .bool a1.C.On]] w fun e w' => e = .returned (.bool r) ∧ St w0 w' I [] R := by {
 unfold law17_same at hm
 refine calls_start (args := [.agg #[U1 a0.Kind, U1 a0.M.Kind, I6 a0.M.From, I6 a0.M.To, U6 a0.M.Term, U6 a0.M.Index, U6 a0.M.LogTerm, U6 a0.M.Commit, .bool a0.M.OK, r0_0, U6 a0.M.S.Index, U6 a0.M.S.Term, U6 a0.M.S.Voters, r0_1, U6 a0.H.ID.Session, U6 a0.H.ID.Seq, U6 a0.H.Epoch, r0_2, r0_3, r0_4, r0_5, U6 a0.ID.Session, U6 a0.ID.Seq, I6 a0.R.E, U6 a0.R.Epoch, U6 a0.R.Index, r0_6, r0_7, U1 a0.C.Kind, U6 a0.C.ID.Session, U6 a0.C.ID.Seq, U6 a0.C.Epoch, U6 a0.C.Index, I6 a0.C.E, U6 a0.C.Hold.ID.Session, U6 a0.C.Hold.ID.Seq, U6 a0.C.Hold.Epoch, r0_8, r0_9, r0_10, r0_11, r0_12, I6 a0.C.R.E, U6 a0.C.R.Epoch, U6 a0.C.R.Index, r0_13, r0_14, U6 a0.C.Shards, r0_15, U6 a0.C.Rule.ID, I6 a0.C.Rule.From, I6 a0.C.Rule.To, F6 a0.C.Rule.Lo, F6 a0.C.Rule.Hi, U6 a0.C.Rule.Authority, I6 a0.C.Rule.Quota, .bool a0.C.On], .agg #[U1 a1.Kind, U1 a1.M.Kind, I6 a1.M.From, I6 a1.M.To, U6 a1.M.Term, U6 a1.M.Index, U6 a1.M.LogTerm, U6 a1.M.Commit, .bool a1.M.OK, r1_0, U6 a1.M.S.Index, U6 a1.M.S.Term, U6 a1.M.S.Voters, r1_1, U6 a1.H.ID.Session, U6 a1.H.ID.Seq, U6 a1.H.Epoch, r1_2, r1_3, r1_4, r1_5, U6 a1.ID.Session, U6 a1.ID.Seq, I6 a1.R.E, U6 a1.R.Epoch, U6 a1.R.Index, r1_6, r1_7, U1 a1.C.Kind, U6 a1.C.ID.Session, U6 a1.C.ID.Seq, U6 a1.C.Epoch, U6 a1.C.Index, I6 a1.C.E, U6 a1.C.Hold.ID.Session, U6 a1.C.Hold.ID.Seq, U6 a1.C.Hold.Epoch, r1_8, r1_9, r1_10, r1_11, r1_12, I6 a1.C.R.E, U6 a1.C.R.Epoch, U6 a1.C.R.Index, r1_13, r1_14, U6 a1.C.Shards, r1_15, U6 a1.C.Rule.ID, I6 a1.C.Rule.From, I6 a1.C.Rule.To, F6 a1.C.Rule.Lo, F6 a1.C.Rule.Hi, U6 a1.C.Rule.Authority, I6 a1.C.Rule.Quota, .bool a1.C.On]]) func11 z ntmps11 (Nat.le_of_ble_eq_true z) ?_
 refine wp_seq (wrl ?_)
 obtain ⟨b421, w422, ew423, eb424, hst⟩ := hst.box [U1 a0.Kind, U1 a0.M.Kind, I6 a0.M.From, I6 a0.M.To, U6 a0.M.Term, U6 a0.M.Index, U6 a0.M.LogTerm, U6 a0.M.Commit, .bool a0.M.OK, r0_0, U6 a0.M.S.Index, U6 a0.M.S.Term, U6 a0.M.S.Voters, r0_1, U6 a0.H.ID.Session, U6 a0.H.ID.Seq, U6 a0.H.Epoch, r0_2, r0_3, r0_4, r0_5, U6 a0.ID.Session, U6 a0.ID.Seq, I6 a0.R.E, U6 a0.R.Epoch, U6 a0.R.Index, r0_6, r0_7, U1 a0.C.Kind, U6 a0.C.ID.Session, U6 a0.C.ID.Seq, U6 a0.C.Epoch, U6 a0.C.Index, I6 a0.C.E, U6 a0.C.Hold.ID.Session, U6 a0.C.Hold.ID.Seq, U6 a0.C.Hold.Epoch, r0_8, r0_9, r0_10, r0_11, r0_12, I6 a0.C.R.E, U6 a0.C.R.Epoch, U6 a0.C.R.Index, r0_13, r0_14, U6 a0.C.Shards, r0_15, U6 a0.C.Rule.ID, I6 a0.C.Rule.From, I6 a0.C.Rule.To, F6 a0.C.Rule.Lo, F6 a0.C.Rule.Hi, U6 a0.C.Rule.Authority, I6 a0.C.Rule.Quota, .bool a0.C.On] 50
 refine wl_run (v := Pt b421 0) (w' := w422) z z (x_al (by kernel_rfl) ew423 eb424) ?_
 obtain ⟨b426, w427, ew428, eb429, hst⟩ := hst.box [U1 a1.Kind, U1 a1.M.Kind, I6 a1.M.From, I6 a1.M.To, U6 a1.M.Term, U6 a1.M.Index, U6 a1.M.LogTerm, U6 a1.M.Commit, .bool a1.M.OK, r1_0, U6 a1.M.S.Index, U6 a1.M.S.Term, U6 a1.M.S.Voters, r1_1, U6 a1.H.ID.Session, U6 a1.H.ID.Seq, U6 a1.H.Epoch, r1_2, r1_3, r1_4, r1_5, U6 a1.ID.Session, U6 a1.ID.Seq, I6 a1.R.E, U6 a1.R.Epoch, U6 a1.R.Index, r1_6, r1_7, U1 a1.C.Kind, U6 a1.C.ID.Session, U6 a1.C.ID.Seq, U6 a1.C.Epoch, U6 a1.C.Index, I6 a1.C.E, U6 a1.C.Hold.ID.Session, U6 a1.C.Hold.ID.Seq, U6 a1.C.Hold.Epoch, r1_8, r1_9, r1_10, r1_11, r1_12, I6 a1.C.R.E, U6 a1.C.R.Epoch, U6 a1.C.R.Index, r1_13, r1_14, U6 a1.C.Shards, r1_15, U6 a1.C.Rule.ID, I6 a1.C.Rule.From, I6 a1.C.Rule.To, F6 a1.C.Rule.Lo, F6 a1.C.Rule.Hi, U6 a1.C.Rule.Authority, I6 a1.C.Rule.Quota, .bool a1.C.On] 50
 refine wl_run (v := Pt b426 0) (w' := w427) z z (x_al (by kernel_rfl) ew428 eb429) ?_
 refine wv (.bool false) z z z (wl_nil (tn (wp_seq (wrl (wv (Pt b421 1) z z (x_field z underlying50 z sizeOf30 z) (wv (.agg #[U1 a0.M.Kind, I6 a0.M.From, I6 a0.M.To, U6 a0.M.Term, U6 a0.M.Index, U6 a0.M.LogTerm, U6 a0.M.Commit, .bool a0.M.OK, r0_0, U6 a0.M.S.Index, U6 a0.M.S.Term, U6 a0.M.S.Voters, r0_1]) z z (x_loadN (cs := [U1 a0.M.Kind, I6 a0.M.From, I6 a0.M.To, U6 a0.M.Term, U6 a0.M.Index, U6 a0.M.LogTerm, U6 a0.M.Commit, .bool a0.M.OK, r0_0, U6 a0.M.S.Index, U6 a0.M.S.Term, U6 a0.M.S.Voters, r0_1]) z isAgg30 sizeOf30 (hst.bcs1 1 z)) ?_))))))
 obtain ⟨b433, w434, ew435, eb436, hst⟩ := hst.box [Zb, Zi, Zi, Zu, Zu, Zu, Zu, .bool false, Zs, Zu, Zu, Zu, Zs] 30
 refine wl_run (v := Pt b433 0) (w' := w434) z z (x_al (by kernel_rfl) ew435 eb436) ?_
 obtain ⟨w438, hr439, hst⟩ := hst.bx [U1 a0.M.Kind, I6 a0.M.From, I6 a0.M.To, U6 a0.M.Term, U6 a0.M.Index, U6 a0.M.LogTerm, U6 a0.M.Commit, .bool a0.M.OK, r0_0, U6 a0.M.S.Index, U6 a0.M.S.Term, U6 a0.M.S.Voters, r0_1] sizeOf30 z (oC z (oC z (oC z (oC z (oC z (oC z (oC z (oC z (oC (one_of_sliceV (rd_sliceV f0_0)) (oC z (oC z (oC z (oC (one_of_sliceV (rd_sliceV f0_1)) oN))))))))))))) (by kernel_rfl)
 refine wl_unit z z (x_unit hr439) ?_
 refine wl_nil (tn (wp_seq (wrl (wv (Pt b426 1) z z (x_field z underlying50 z sizeOf30 z) (wv (.agg #[U1 a1.M.Kind, I6 a1.M.From, I6 a1.M.To, U6 a1.M.Term, U6 a1.M.Index, U6 a1.M.LogTerm, U6 a1.M.Commit, .bool a1.M.OK, r1_0, U6 a1.M.S.Index, U6 a1.M.S.Term, U6 a1.M.S.Voters, r1_1]) z z (x_loadN (cs := [U1 a1.M.Kind, I6 a1.M.From, I6 a1.M.To, U6 a1.M.Term, U6 a1.M.Index, U6 a1.M.LogTerm, U6 a1.M.Commit, .bool a1.M.OK, r1_0, U6 a1.M.S.Index, U6 a1.M.S.Term, U6 a1.M.S.Voters, r1_1]) z isAgg30 sizeOf30 (hst.bcs1 1 z)) ?_)))))
 obtain ⟨b442, w443, ew444, eb445, hst⟩ := hst.box [Zb, Zi, Zi, Zu, Zu, Zu, Zu, .bool false, Zs, Zu, Zu, Zu, Zs] 30
 refine wl_run (v := Pt b442 0) (w' := w443) z z (x_al (by kernel_rfl) ew444 eb445) ?_
 obtain ⟨w447, hr448, hst⟩ := hst.bx [U1 a1.M.Kind, I6 a1.M.From, I6 a1.M.To, U6 a1.M.Term, U6 a1.M.Index, U6 a1.M.LogTerm, U6 a1.M.Commit, .bool a1.M.OK, r1_0, U6 a1.M.S.Index, U6 a1.M.S.Term, U6 a1.M.S.Voters, r1_1] sizeOf30 z (oC z (oC z (oC z (oC z (oC z (oC z (oC z (oC z (oC (one_of_sliceV (rd_sliceV f1_0)) (oC z (oC z (oC z (oC (one_of_sliceV (rd_sliceV f1_1)) oN))))))))))))) (by kernel_rfl)
 refine wl_unit z z (x_unit hr448) ?_
 refine wl_nil (tn (wp_seq (wp_seq (wrl (wv (Pt b433 0) z z (x_field z underlying30 z sizeOf5 z) (wv (.int .u8 a0.M.Kind) z z (x_load z isAgg5 (hst.bc1 z)) (wv (Pt b442 0) z z (x_field z underlying30 z sizeOf5 z) (wv (.int .u8 a1.M.Kind) z z (x_load z isAgg5 (hst.bc0 z)) (wv (.bool (a0.M.Kind != a1.M.Kind)) z z z (wv (.bool (a0.M.Kind != a1.M.Kind)) z z z ?_))))))))))
 refine bsplit (a0.M.Kind != a1.M.Kind) (fun hc449 => ?_) (fun hc449 => ?_)
 {
 replace hm := bif_t hc449 hm
 refine wo hc449 z z z z z z (wo hc449 z z z z z z (wo hc449 z z z z z z (wo hc449 z z z z z z (wo hc449 z z z z z z (wv (.bool true) z z (x_pick_t hc449 z z) (wv (.bool true) z z z (wz z z z z z z (wz z z z z z z (wz z z z z z z (wz z z z z z z (wz z z z z z z (wv (.bool true) z z (x_pick_t z z z) ?_))))))))))))
 refine wv (.bool true) z z z (wz z z z z z z (wz z z z z z z (wz z z z z z z (wz z z z z z z (wz z z z z z z (wv (.bool true) z z (x_pick_t z z z) (wv (.bool true) z z z (wz z z z z z z (wz z z z z z z (wz z z z z z z (wz z z z z z z (wz z z z z z z ?_))))))))))))
 refine wv (.bool true) z z (x_pick_t z z z) (wv (.bool true) z z z (wz z z z z z z (wz z z z z z z (wz z z z z z z (wz z z z z z z (wz z z z z z z (wv (.bool true) z z (x_pick_t z z z) (wv (.bool true) z z z (wz z z z z z z (wz z z z z z z (wz z z z z z z (wz z z z z z z ?_))))))))))))
 refine wz z z z z z z (wv (.bool true) z z (x_pick_t z z z) (wv (.bool true) z z z (wz z z z z z z (wz z z z z z z (wz z z z z z z (wz z z z z z z (wz z z z z z z (wv (.bool true) z z (x_pick_t z z z) (wv (.bool true) z z z (wz z z z z z z (wz z z z z z z (wz z z z z z z ?_))))))))))))
 refine wz z z z z z z (wz z z z z z z (wz z z z z z z (wv (.bool true) z z (x_pick_t z z z) (wv (.bool true) z z z (wz z z z z z z (wz z z z z z z (wz z z z z z z (wz z z z z z z (wz z z z z z z (wz z z z z z z (wz z z z z z z (wv (.bool true) z z (x_pick_t z z z) ?_))))))))))))
 refine wv (.bool true) z z z (wz z z z z z z (wz z z z z z z (wz z z z z z z (wz z z z z z z (wz z z z z z z (wz z z z z z z (wz z z z z z z (wv (.bool true) z z (x_pick_t z z z) (wv (.bool true) z z z (wz z z z z z z (wz z z z z z z (wz z z z z z z ?_))))))))))))
 refine wz z z z z z z (wz z z z z z z (wz z z z z z z (wz z z z z z z (wv (.bool true) z z (x_pick_t z z z) (wv (.bool true) z z z (wz z z z z z z (wz z z z z z z (wz z z z z z z (wz z z z z z z (wz z z z z z z (wz z z z z z z (wz z z z z z z ?_))))))))))))
 refine wz z z z z z z (wz z z z z z z (wv (.bool true) z z (x_pick_t z z z) (wl_nil (tn ?_))))
 refine wp_ift z ?_
 refine wp_seq (wrl (wv (.bool false) z z z (wl_nil (tn (wp_ret (then_r ?_))))))
 obtain rfl := some_inj hm
 refine post_ret (vs := [.bool false]) results11 (rvs_cons (rv_tmp z) rvs_nil) ?_
 exact ⟨z, hst.keep0⟩
}
 {
 replace hm := bif_f hc449 hm
 refine wv (Pt b433 1) ((wanted_eq z z z (cvb hc449)).trans z) z (x_field z underlying30 z sizeOf3 z) (wv (.int .i64 a0.M.From) ((wanted_eq z z z (cvb hc449)).trans z) z (x_load z isAgg3 (hst.bc1 z)) (wv (Pt b442 1) ((wanted_eq z z z (cvb hc449)).trans z) z (x_field z underlying30 z sizeOf3 z) (wv (.int .i64 a1.M.From) ((wanted_eq z z z (cvb hc449)).trans z) z (x_load z isAgg3 (hst.bc0 z)) (wv (.bool (a0.M.From != a1.M.From)) ((wanted_eq z z z (cvb hc449)).trans z) z z (wv (.bool (a0.M.From != a1.M.From)) z z (x_pick_f hc449 z z) (wv (.bool (a0.M.From != a1.M.From)) z z z ?_))))))
 refine bsplit (a0.M.From != a1.M.From) (fun hc450 => ?_) (fun hc450 => ?_)
 {
 replace hm := bif_t hc450 hm
 refine wo hc450 z z z z z z (wo hc450 z z z z z z (wo hc450 z z z z z z (wo hc450 z z z z z z (wo hc450 z z z z z z (wv (.bool true) z z (x_pick_t hc450 z z) (wv (.bool true) z z z (wz z z z z z z (wz z z z z z z (wz z z z z z z (wz z z z z z z (wz z z z z z z (wv (.bool true) z z (x_pick_t z z z) ?_))))))))))))
 refine wv (.bool true) z z z (wz z z z z z z (wz z z z z z z (wz z z z z z z (wz z z z z z z (wz z z z z z z (wv (.bool true) z z (x_pick_t z z z) (wv (.bool true) z z z (wz z z z z z z (wz z z z z z z (wz z z z z z z (wz z z z z z z (wz z z z z z z ?_))))))))))))
 refine wv (.bool true) z z (x_pick_t z z z) (wv (.bool true) z z z (wz z z z z z z (wz z z z z z z (wz z z z z z z (wz z z z z z z (wz z z z z z z (wv (.bool true) z z (x_pick_t z z z) (wv (.bool true) z z z (wz z z z z z z (wz z z z z z z (wz z z z z z z (wz z z z z z z ?_))))))))))))
 refine wz z z z z z z (wv (.bool true) z z (x_pick_t z z z) (wv (.bool true) z z z (wz z z z z z z (wz z z z z z z (wz z z z z z z (wz z z z z z z (wz z z z z z z (wz z z z z z z (wv (.bool true) z z (x_pick_t z z z) (wv (.bool true) z z z (wz z z z z z z (wz z z z z z z ?_))))))))))))
 refine wz z z z z z z (wz z z z z z z (wz z z z z z z (wz z z z z z z (wz z z z z z z (wv (.bool true) z z (x_pick_t z z z) (wv (.bool true) z z z (wz z z z z z z (wz z z z z z z (wz z z z z z z (wz z z z z z z (wz z z z z z z (wz z z z z z z ?_))))))))))))
 refine wz z z z z z z (wv (.bool true) z z (x_pick_t z z z) (wv (.bool true) z z z (wz z z z z z z (wz z z z z z z (wz z z z z z z (wz z z z z z z (wz z z z z z z (wz z z z z z z (wz z z z z z z (wv (.bool true) z z (x_pick_t z z z) (wv (.bool true) z z z (wz z z z z z z ?_))))))))))))
 refine wz z z z z z z (wz z z z z z z (wz z z z z z z (wz z z z z z z (wz z z z z z z (wz z z z z z z (wz z z z z z z (wz z z z z z z (wv (.bool true) z z (x_pick_t z z z) (wl_nil (tn ?_))))))))))
 refine wp_ift z ?_
 refine wp_seq (wrl (wv (.bool false) z z z (wl_nil (tn (wp_ret (then_r ?_))))))
 obtain rfl := some_inj hm
 refine post_ret (vs := [.bool false]) results11 (rvs_cons (rv_tmp z) rvs_nil) ?_
 exact ⟨z, hst.keep0⟩
}
 {
 replace hm := bif_f hc450 hm
 refine wv (Pt b433 2) ((wanted_eq z z z (cvb hc450)).trans z) z (x_field z underlying30 z sizeOf3 z) (wv (.int .i64 a0.M.To) ((wanted_eq z z z (cvb hc450)).trans z) z (x_load z isAgg3 (hst.bc1 z)) (wv (Pt b442 2) ((wanted_eq z z z (cvb hc450)).trans z) z (x_field z underlying30 z sizeOf3 z) (wv (.int .i64 a1.M.To) ((wanted_eq z z z (cvb hc450)).trans z) z (x_load z isAgg3 (hst.bc0 z)) (wv (.bool (a0.M.To != a1.M.To)) ((wanted_eq z z z (cvb hc450)).trans z) z z (wv (.bool (a0.M.To != a1.M.To)) z z (x_pick_f hc450 z z) (wv (.bool (a0.M.To != a1.M.To)) z z z ?_))))))
 refine bsplit (a0.M.To != a1.M.To) (fun hc451 => ?_) (fun hc451 => ?_)
 {
 replace hm := bif_t hc451 hm
 refine wo hc451 z z z z z z (wo hc451 z z z z z z (wo hc451 z z z z z z (wo hc451 z z z z z z (wo hc451 z z z z z z (wv (.bool true) z z (x_pick_t hc451 z z) (wv (.bool true) z z z (wz z z z z z z (wz z z z z z z (wz z z z z z z (wz z z z z z z (wz z z z z z z (wv (.bool true) z z (x_pick_t z z z) ?_))))))))))))
 refine wv (.bool true) z z z (wz z z z z z z (wz z z z z z z (wz z z z z z z (wz z z z z z z (wz z z z z z z (wv (.bool true) z z (x_pick_t z z z) (wv (.bool true) z z z (wz z z z z z z (wz z z z z z z (wz z z z z z z (wz z z z z z z (wz z z z z z z ?_))))))))))))
 refine wv (.bool true) z z (x_pick_t z z z) (wv (.bool true) z z z (wz z z z z z z (wz z z z z z z (wz z z z z z z (wz z z z z z z (wz z z z z z z (wv (.bool true) z z (x_pick_t z z z) (wv (.bool true) z z z (wz z z z z z z (wz z z z z z z (wz z z z z z z (wz z z z z z z ?_))))))))))))
 refine wz z z z z z z (wz z z z z z z (wv (.bool true) z z (x_pick_t z z z) (wv (.bool true) z z z (wz z z z z z z (wz z z z z z z (wz z z z z z z (wz z z z z z z (wz z z z z z z (wz z z z z z z (wz z z z z z z (wv (.bool true) z z (x_pick_t z z z) (wv (.bool true) z z z ?_))))))))))))
 refine wz z z z z z z (wz z z z z z z (wz z z z z z z (wz z z z z z z (wz z z z z z z (wz z z z z z z (wz z z z z z z (wv (.bool true) z z (x_pick_t z z z) (wv (.bool true) z z z (wz z z z z z z (wz z z z z z z (wz z z z z z z (wz z z z z z z ?_))))))))))))
 refine wz z z z z z z (wz z z z z z z (wz z z z z z z (wv (.bool true) z z (x_pick_t z z z) (wv (.bool true) z z z (wz z z z z z z (wz z z z z z z (wz z z z z z z (wz z z z z z z (wz z z z z z z (wz z z z z z z (wz z z z z z z (wz z z z z z z ?_))))))))))))
 refine wz z z z z z z (wv (.bool true) z z (x_pick_t z z z) (wl_nil (tn ?_)))
 refine wp_ift z ?_
 refine wp_seq (wrl (wv (.bool false) z z z (wl_nil (tn (wp_ret (then_r ?_))))))
 obtain rfl := some_inj hm
 refine post_ret (vs := [.bool false]) results11 (rvs_cons (rv_tmp z) rvs_nil) ?_
 exact ⟨z, hst.keep0⟩
}
 {
 replace hm := bif_f hc451 hm
 refine wv (Pt b433 3) ((wanted_eq z z z (cvb hc451)).trans z) z (x_field z underlying30 z sizeOf25 z) (wv (.int .u64 a0.M.Term) ((wanted_eq z z z (cvb hc451)).trans z) z (x_load z isAgg25 (hst.bc1 z)) (wv (Pt b442 3) ((wanted_eq z z z (cvb hc451)).trans z) z (x_field z underlying30 z sizeOf25 z) (wv (.int .u64 a1.M.Term) ((wanted_eq z z z (cvb hc451)).trans z) z (x_load z isAgg25 (hst.bc0 z)) (wv (.bool (a0.M.Term != a1.M.Term)) ((wanted_eq z z z (cvb hc451)).trans z) z z (wv (.bool (a0.M.Term != a1.M.Term)) z z (x_pick_f hc451 z z) (wv (.bool (a0.M.Term != a1.M.Term)) z z z ?_))))))
 refine bsplit (a0.M.Term != a1.M.Term) (fun hc452 => ?_) (fun hc452 => ?_)
 {
 replace hm := bif_t hc452 hm
 refine wo hc452 z z z z z z (wo hc452 z z z z z z (wo hc452 z z z z z z (wo hc452 z z z z z z (wo hc452 z z z z z z (wv (.bool true) z z (x_pick_t hc452 z z) (wv (.bool true) z z z (wz z z z z z z (wz z z z z z z (wz z z z z z z (wz z z z z z z (wz z z z z z z (wv (.bool true) z z (x_pick_t z z z) ?_))))))))))))
 refine wv (.bool true) z z z (wz z z z z z z (wz z z z z z z (wz z z z z z z (wz z z z z z z (wz z z z z z z (wv (.bool true) z z (x_pick_t z z z) (wv (.bool true) z z z (wz z z z z z z (wz z z z z z z (wz z z z z z z (wz z z z z z z (wz z z z z z z ?_))))))))))))
 refine wv (.bool true) z z (x_pick_t z z z) (wv (.bool true) z z z (wz z z z z z z (wz z z z z z z (wz z z z z z z (wz z z z z z z (wz z z z z z z (wz z z z z z z (wv (.bool true) z z (x_pick_t z z z) (wv (.bool true) z z z (wz z z z z z z (wz z z z z z z (wz z z z z z z ?_))))))))))))
 refine wz z z z z z z (wz z z z z z z (wz z z z z z z (wz z z z z z z (wv (.bool true) z z (x_pick_t z z z) (wv (.bool true) z z z (wz z z z z z z (wz z z z z z z (wz z z z z z z (wz z z z z z z (wz z z z z z z (wz z z z z z z (wz z z z z z z ?_))))))))))))
 refine wv (.bool true) z z (x_pick_t z z z) (wv (.bool true) z z z (wz z z z z z z (wz z z z z z z (wz z z z z z z (wz z z z z z z (wz z z z z z z (wz z z z z z z (wz z z z z z z (wv (.bool true) z z (x_pick_t z z z) (wv (.bool true) z z z (wz z z z z z z (wz z z z z z z ?_))))))))))))
 refine wz z z z z z z (wz z z z z z z (wz z z z z z z (wz z z z z z z (wz z z z z z z (wz z z z z z z (wz z z z z z z (wv (.bool true) z z (x_pick_t z z z) (wl_nil (tn ?_)))))))))
 refine wp_ift z ?_
 refine wp_seq (wrl (wv (.bool false) z z z (wl_nil (tn (wp_ret (then_r ?_))))))
 obtain rfl := some_inj hm
 refine post_ret (vs := [.bool false]) results11 (rvs_cons (rv_tmp z) rvs_nil) ?_
 exact ⟨z, hst.keep0⟩
}
 {
 replace hm := bif_f hc452 hm
 refine wv (Pt b433 4) ((wanted_eq z z z (cvb hc452)).trans z) z (x_field z underlying30 z sizeOf25 z) (wv (.int .u64 a0.M.Index) ((wanted_eq z z z (cvb hc452)).trans z) z (x_load z isAgg25 (hst.bc1 z)) (wv (Pt b442 4) ((wanted_eq z z z (cvb hc452)).trans z) z (x_field z underlying30 z sizeOf25 z) (wv (.int .u64 a1.M.Index) ((wanted_eq z z z (cvb hc452)).trans z) z (x_load z isAgg25 (hst.bc0 z)) (wv (.bool (a0.M.Index != a1.M.Index)) ((wanted_eq z z z (cvb hc452)).trans z) z z (wv (.bool (a0.M.Index != a1.M.Index)) z z (x_pick_f hc452 z z) (wv (.bool (a0.M.Index != a1.M.Index)) z z z ?_))))))
 refine bsplit (a0.M.Index != a1.M.Index) (fun hc453 => ?_) (fun hc453 => ?_)
 {
 replace hm := bif_t hc453 hm
 refine wo hc453 z z z z z z (wo hc453 z z z z z z (wo hc453 z z z z z z (wo hc453 z z z z z z (wo hc453 z z z z z z (wv (.bool true) z z (x_pick_t hc453 z z) (wv (.bool true) z z z (wz z z z z z z (wz z z z z z z (wz z z z z z z (wz z z z z z z (wz z z z z z z (wv (.bool true) z z (x_pick_t z z z) ?_))))))))))))
 refine wv (.bool true) z z z (wz z z z z z z (wz z z z z z z (wz z z z z z z (wz z z z z z z (wz z z z z z z (wv (.bool true) z z (x_pick_t z z z) (wv (.bool true) z z z (wz z z z z z z (wz z z z z z z (wz z z z z z z (wz z z z z z z (wz z z z z z z ?_))))))))))))
 refine wz z z z z z z (wv (.bool true) z z (x_pick_t z z z) (wv (.bool true) z z z (wz z z z z z z (wz z z z z z z (wz z z z z z z (wz z z z z z z (wz z z z z z z (wz z z z z z z (wz z z z z z z (wv (.bool true) z z (x_pick_t z z z) (wv (.bool true) z z z (wz z z z z z z ?_))))))))))))
 refine wz z z z z z z (wz z z z z z z (wz z z z z z z (wz z z z z z z (wz z z z z z z (wz z z z z z z (wv (.bool true) z z (x_pick_t z z z) (wv (.bool true) z z z (wz z z z z z z (wz z z z z z z (wz z z z z z z (wz z z z z z z (wz z z z z z z ?_))))))))))))
 refine wz z z z z z z (wz z z z z z z (wv (.bool true) z z (x_pick_t z z z) (wv (.bool true) z z z (wz z z z z z z (wz z z z z z z (wz z z z z z z (wz z z z z z z (wz z z z z z z (wz z z z z z z (wz z z z z z z (wz z z z z z z (wz z z z z z z ?_))))))))))))
 refine wv (.bool true) z z (x_pick_t z z z) (wl_nil (tn ?_))
 refine wp_ift z ?_
 refine wp_seq (wrl (wv (.bool false) z z z (wl_nil (tn (wp_ret (then_r ?_))))))
 obtain rfl := some_inj hm
 refine post_ret (vs := [.bool false]) results11 (rvs_cons (rv_tmp z) rvs_nil) ?_
 exact ⟨z, hst.keep0⟩
}
 {
 replace hm := bif_f hc453 hm
 refine wv (Pt b433 5) ((wanted_eq z z z (cvb hc453)).trans z) z (x_field z underlying30 z sizeOf25 z) (wv (.int .u64 a0.M.LogTerm) ((wanted_eq z z z (cvb hc453)).trans z) z (x_load z isAgg25 (hst.bc1 z)) (wv (Pt b442 5) ((wanted_eq z z z (cvb hc453)).trans z) z (x_field z underlying30 z sizeOf25 z) (wv (.int .u64 a1.M.LogTerm) ((wanted_eq z z z (cvb hc453)).trans z) z (x_load z isAgg25 (hst.bc0 z)) (wv (.bool (a0.M.LogTerm != a1.M.LogTerm)) ((wanted_eq z z z (cvb hc453)).trans z) z z (wv (.bool (a0.M.LogTerm != a1.M.LogTerm)) z z (x_pick_f hc453 z z) (wv (.bool (a0.M.LogTerm != a1.M.LogTerm)) z z z ?_))))))
 refine bsplit (a0.M.LogTerm != a1.M.LogTerm) (fun hc454 => ?_) (fun hc454 => ?_)
 {
 replace hm := bif_t hc454 hm
 refine wo hc454 z z z z z z (wo hc454 z z z z z z (wo hc454 z z z z z z (wo hc454 z z z z z z (wo hc454 z z z z z z (wv (.bool true) z z (x_pick_t hc454 z z) (wv (.bool true) z z z (wz z z z z z z (wz z z z z z z (wz z z z z z z (wz z z z z z z (wz z z z z z z (wv (.bool true) z z (x_pick_t z z z) ?_))))))))))))
 refine wv (.bool true) z z z (wz z z z z z z (wz z z z z z z (wz z z z z z z (wz z z z z z z (wz z z z z z z (wz z z z z z z (wv (.bool true) z z (x_pick_t z z z) (wv (.bool true) z z z (wz z z z z z z (wz z z z z z z (wz z z z z z z (wz z z z z z z ?_))))))))))))
 refine wz z z z z z z (wz z z z z z z (wz z z z z z z (wv (.bool true) z z (x_pick_t z z z) (wv (.bool true) z z z (wz z z z z z z (wz z z z z z z (wz z z z z z z (wz z z z z z z (wz z z z z z z (wz z z z z z z (wz z z z z z z (wv (.bool true) z z (x_pick_t z z z) ?_))))))))))))
 refine wv (.bool true) z z z (wz z z z z z z (wz z z z z z z (wz z z z z z z (wz z z z z z z (wz z z z z z z (wz z z z z z z (wz z z z z z z (wv (.bool true) z z (x_pick_t z z z) (wv (.bool true) z z z (wz z z z z z z (wz z z z z z z (wz z z z z z z ?_))))))))))))
 refine wz z z z z z z (wz z z z z z z (wz z z z z z z (wz z z z z z z (wz z z z z z z (wz z z z z z z (wv (.bool true) z z (x_pick_t z z z) (wl_nil (tn ?_))))))))
 refine wp_ift z ?_
 refine wp_seq (wrl (wv (.bool false) z z z (wl_nil (tn (wp_ret (then_r ?_))))))
 obtain rfl := some_inj hm
 refine post_ret (vs := [.bool false]) results11 (rvs_cons (rv_tmp z) rvs_nil) ?_
 exact ⟨z, hst.keep0⟩
}
 {
 replace hm := bif_f hc454 hm
 refine wv (Pt b433 6) ((wanted_eq z z z (cvb hc454)).trans z) z (x_field z underlying30 z sizeOf25 z) (wv (.int .u64 a0.M.Commit) ((wanted_eq z z z (cvb hc454)).trans z) z (x_load z isAgg25 (hst.bc1 z)) (wv (Pt b442 6) ((wanted_eq z z z (cvb hc454)).trans z) z (x_field z underlying30 z sizeOf25 z) (wv (.int .u64 a1.M.Commit) ((wanted_eq z z z (cvb hc454)).trans z) z (x_load z isAgg25 (hst.bc0 z)) (wv (.bool (a0.M.Commit != a1.M.Commit)) ((wanted_eq z z z (cvb hc454)).trans z) z z (wv (.bool (a0.M.Commit != a1.M.Commit)) z z (x_pick_f hc454 z z) (wv (.bool (a0.M.Commit != a1.M.Commit)) z z z ?_))))))
 refine bsplit (a0.M.Commit != a1.M.Commit) (fun hc455 => ?_) (fun hc455 => ?_)
 {
 replace hm := bif_t hc455 hm
 refine wo hc455 z z z z z z (wo hc455 z z z z z z (wo hc455 z z z z z z (wo hc455 z z z z z z (wo hc455 z z z z z z (wv (.bool true) z z (x_pick_t hc455 z z) (wv (.bool true) z z z (wz z z z z z z (wz z z z z z z (wz z z z z z z (wz z z z z z z (wz z z z z z z (wz z z z z z z ?_))))))))))))
 refine wv (.bool true) z z (x_pick_t z z z) (wv (.bool true) z z z (wz z z z z z z (wz z z z z z z (wz z z z z z z (wz z z z z z z (wz z z z z z z (wz z z z z z z (wz z z z z z z (wv (.bool true) z z (x_pick_t z z z) (wv (.bool true) z z z (wz z z z z z z (wz z z z z z z ?_))))))))))))
 refine wz z z z z z z (wz z z z z z z (wz z z z z z z (wz z z z z z z (wz z z z z z z (wv (.bool true) z z (x_pick_t z z z) (wv (.bool true) z z z (wz z z z z z z (wz z z z z z z (wz z z z z z z (wz z z z z z z (wz z z z z z z (wz z z z z z z ?_))))))))))))
 refine wz z z z z z z (wv (.bool true) z z (x_pick_t z z z) (wv (.bool true) z z z (wz z z z z z z (wz z z z z z z (wz z z z z z z (wz z z z z z z (wz z z z z z z (wz z z z z z z (wz z z z z z z (wz z z z z z z (wz z z z z z z (wv (.bool true) z z (x_pick_t z z z) ?_))))))))))))
 refine wl_nil (tn ?_)
 refine wp_ift z ?_
 refine wp_seq (wrl (wv (.bool false) z z z (wl_nil (tn (wp_ret (then_r ?_))))))
 obtain rfl := some_inj hm
 refine post_ret (vs := [.bool false]) results11 (rvs_cons (rv_tmp z) rvs_nil) ?_
 exact ⟨z, hst.keep0⟩
}
 {
 replace hm := bif_f hc455 hm
 refine wv (Pt b433 7) ((wanted_eq z z z (cvb hc455)).trans z) z (x_field z underlying30 z sizeOf4 z) (wv (.bool a0.M.OK) ((wanted_eq z z z (cvb hc455)).trans z) z (x_load z isAgg4 (hst.bc1 z)) (wv (Pt b442 7) ((wanted_eq z z z (cvb hc455)).trans z) z (x_field z underlying30 z sizeOf4 z) (wv (.bool a1.M.OK) ((wanted_eq z z z (cvb hc455)).trans z) z (x_load z isAgg4 (hst.bc0 z)) (wv (.bool (!(a0.M.OK == a1.M.OK))) ((wanted_eq z z z (cvb hc455)).trans z) z (by kernel_rfl) (wv (.bool (!(a0.M.OK == a1.M.OK))) z z (x_pick_f hc455 z z) (wv (.bool (!(a0.M.OK == a1.M.OK))) z z z ?_))))))
 refine bsplit (!(a0.M.OK == a1.M.OK)) (fun hc456 => ?_) (fun hc456 => ?_)
 {
 replace hm := bif_t hc456 hm
 refine wo hc456 z z z z z z (wo hc456 z z z z z z (wo hc456 z z z z z z (wo hc456 z z z z z z (wo hc456 z z z z z z (wo hc456 z z z z z z (wv (.bool true) z z (x_pick_t hc456 z z) (wv (.bool true) z z z (wz z z z z z z (wz z z z z z z (wz z z z z z z (wz z z z z z z (wz z z z z z z ?_))))))))))))
 refine wz z z z z z z (wz z z z z z z (wv (.bool true) z z (x_pick_t z z z) (wv (.bool true) z z z (wz z z z z z z (wz z z z z z z (wz z z z z z z (wz z z z z z z (wz z z z z z z (wz z z z z z z (wz z z z z z z (wv (.bool true) z z (x_pick_t z z z) (wv (.bool true) z z z ?_))))))))))))
 refine wz z z z z z z (wz z z z z z z (wz z z z z z z (wz z z z z z z (wz z z z z z z (wz z z z z z z (wz z z z z z z (wv (.bool true) z z (x_pick_t z z z) (wv (.bool true) z z z (wz z z z z z z (wz z z z z z z (wz z z z z z z (wz z z z z z z ?_))))))))))))
 refine wz z z z z z z (wz z z z z z z (wz z z z z z z (wz z z z z z z (wz z z z z z z (wv (.bool true) z z (x_pick_t z z z) (wl_nil (tn ?_)))))))
 refine wp_ift z ?_
 refine wp_seq (wrl (wv (.bool false) z z z (wl_nil (tn (wp_ret (then_r ?_))))))
 obtain rfl := some_inj hm
 refine post_ret (vs := [.bool false]) results11 (rvs_cons (rv_tmp z) rvs_nil) ?_
 exact ⟨z, hst.keep0⟩
}
 {
 replace hm := bif_f hc456 hm
 refine wv (Pt b433 8) ((wanted_eq z z z (cvb hc456)).trans z) z (x_field z underlying30 z sizeOf26 z) (wv (r0_0) ((wanted_eq z z z (cvb hc456)).trans z) z (x_load z isAgg26 (hst.bc1 z)) (wv (Pt b442 8) ((wanted_eq z z z (cvb hc456)).trans z) z (x_field z underlying30 z sizeOf26 z) (wv (r1_0) ((wanted_eq z z z (cvb hc456)).trans z) z (x_load z isAgg26 (hst.bc0 z)) ?_)))
 obtain ⟨t457, ht458, hm⟩ := bind_some hm
 refine wl_call ((wanted_eq z z z (cvb hc456)).trans z) z (x_call call41 z (vs := [r0_0, r1_0]) z) ?_
 refine (ref08_SameEntries_ref (f0_0.mono (rd_weak _)) (f1_0.mono (rd_weak _)) hst.to0 ht458).mono ?_
 rintro _ w459 ⟨rfl, hst⟩
 refine ⟨_, z, ?_⟩
 replace hst := hst.of0
 refine wv (.bool (!t457)) ((wanted_eq z z z (cvb hc456)).trans z) z z (wv (.bool (!t457)) z z (x_pick_f hc456 z z) (wv (.bool (!t457)) z z z ?_))
 refine bsplit (!t457) (fun hc462 => ?_) (fun hc462 => ?_)
 {
 replace hm := bif_t hc462 hm
 refine wo hc462 z z z z z z (wo hc462 z z z z z z (wo hc462 z z z z z z (wo hc462 z z z z z z (wo hc462 z z z z z z (wo hc462 z z z z z z (wo hc462 z z z z z z (wv (.bool true) z z (x_pick_t hc462 z z) (wv (.bool true) z z z (wz z z z z z z (wz z z z z z z (wz z z z z z z (wz z z z z z z ?_))))))))))))
 refine wz z z z z z z (wz z z z z z z (wz z z z z z z (wv (.bool true) z z (x_pick_t z z z) (wv (.bool true) z z z (wz z z z z z z (wz z z z z z z (wz z z z z z z (wz z z z z z z (wz z z z z z z (wz z z z z z z (wz z z z z z z (wv (.bool true) z z (x_pick_t z z z) ?_))))))))))))
 refine wv (.bool true) z z z (wz z z z z z z (wz z z z z z z (wz z z z z z z (wz z z z z z z (wz z z z z z z (wz z z z z z z (wz z z z z z z (wz z z z z z z (wz z z z z z z (wv (.bool true) z z (x_pick_t z z z) (wl_nil (tn ?_))))))))))))
 refine wp_ift z ?_
 refine wp_seq (wrl (wv (.bool false) z z z (wl_nil (tn (wp_ret (then_r ?_))))))
 obtain rfl := some_inj hm
 refine post_ret (vs := [.bool false]) results11 (rvs_cons (rv_tmp z) rvs_nil) ?_
 exact ⟨z, hst.keep0⟩
}
 {
 replace hm := bif_f hc462 hm
 refine wv (Pt b433 9) ((wanted_eq z z z (cvb hc462)).trans z) z (x_field z underlying30 z sizeOf28 z) (wv (Pt b433 9) ((wanted_eq z z z (cvb hc462)).trans z) z (x_field z underlying28 z sizeOf25 z) (wv (.int .u64 a0.M.S.Index) ((wanted_eq z z z (cvb hc462)).trans z) z (x_load z isAgg25 (hst.bc1 z)) (wv (Pt b442 9) ((wanted_eq z z z (cvb hc462)).trans z) z (x_field z underlying30 z sizeOf28 z) (wv (Pt b442 9) ((wanted_eq z z z (cvb hc462)).trans z) z (x_field z underlying28 z sizeOf25 z) (wv (.int .u64 a1.M.S.Index) ((wanted_eq z z z (cvb hc462)).trans z) z (x_load z isAgg25 (hst.bc0 z)) (wv (.bool (a0.M.S.Index != a1.M.S.Index)) ((wanted_eq z z z (cvb hc462)).trans z) z z (wv (.bool (a0.M.S.Index != a1.M.S.Index)) z z (x_pick_f hc462 z z) (wv (.bool (a0.M.S.Index != a1.M.S.Index)) z z z ?_))))))))
 refine bsplit (a0.M.S.Index != a1.M.S.Index) (fun hc463 => ?_) (fun hc463 => ?_)
 {
 replace hm := bif_t hc463 hm
 refine wo hc463 z z z z z z (wo hc463 z z z z z z (wo hc463 z z z z z z (wo hc463 z z z z z z (wo hc463 z z z z z z (wo hc463 z z z z z z (wo hc463 z z z z z z (wv (.bool true) z z (x_pick_t hc463 z z) (wv (.bool true) z z z (wz z z z z z z (wz z z z z z z (wz z z z z z z (wz z z z z z z ?_))))))))))))
 refine wz z z z z z z (wz z z z z z z (wz z z z z z z (wv (.bool true) z z (x_pick_t z z z) (wv (.bool true) z z z (wz z z z z z z (wz z z z z z z (wz z z z z z z (wz z z z z z z (wz z z z z z z (wz z z z z z z (wz z z z z z z (wz z z z z z z ?_))))))))))))
 refine wz z z z z z z (wv (.bool true) z z (x_pick_t z z z) (wl_nil (tn ?_)))
 refine wp_ift z ?_
 refine wp_seq (wrl (wv (.bool false) z z z (wl_nil (tn (wp_ret (then_r ?_))))))
 obtain rfl := some_inj hm
 refine post_ret (vs := [.bool false]) results11 (rvs_cons (rv_tmp z) rvs_nil) ?_
 exact ⟨z, hst.keep0⟩
}
 {
 replace hm := bif_f hc463 hm
 refine wv (Pt b433 9) ((wanted_eq z z z (cvb hc463)).trans z) z (x_field z underlying30 z sizeOf28 z) (wv (Pt b433 10) ((wanted_eq z z z (cvb hc463)).trans z) z (x_field z underlying28 z sizeOf25 z) (wv (.int .u64 a0.M.S.Term) ((wanted_eq z z z (cvb hc463)).trans z) z (x_load z isAgg25 (hst.bc1 z)) (wv (Pt b442 9) ((wanted_eq z z z (cvb hc463)).trans z) z (x_field z underlying30 z sizeOf28 z) (wv (Pt b442 10) ((wanted_eq z z z (cvb hc463)).trans z) z (x_field z underlying28 z sizeOf25 z) (wv (.int .u64 a1.M.S.Term) ((wanted_eq z z z (cvb hc463)).trans z) z (x_load z isAgg25 (hst.bc0 z)) (wv (.bool (a0.M.S.Term != a1.M.S.Term)) ((wanted_eq z z z (cvb hc463)).trans z) z z (wv (.bool (a0.M.S.Term != a1.M.S.Term)) z z (x_pick_f hc463 z z) (wv (.bool (a0.M.S.Term != a1.M.S.Term)) z z z ?_))))))))
 refine bsplit (a0.M.S.Term != a1.M.S.Term) (fun hc464 => ?_) (fun hc464 => ?_)
 {
 replace hm := bif_t hc464 hm
 refine wo hc464 z z z z z z (wo hc464 z z z z z z (wo hc464 z z z z z z (wo hc464 z z z z z z (wo hc464 z z z z z z (wo hc464 z z z z z z (wo hc464 z z z z z z (wv (.bool true) z z (x_pick_t hc464 z z) (wv (.bool true) z z z (wz z z z z z z (wz z z z z z z (wz z z z z z z (wz z z z z z z ?_))))))))))))
 refine wz z z z z z z (wz z z z z z z (wz z z z z z z (wz z z z z z z (wz z z z z z z (wv (.bool true) z z (x_pick_t z z z) (wl_nil (tn ?_)))))))
 refine wp_ift z ?_
 refine wp_seq (wrl (wv (.bool false) z z z (wl_nil (tn (wp_ret (then_r ?_))))))
 obtain rfl := some_inj hm
 refine post_ret (vs := [.bool false]) results11 (rvs_cons (rv_tmp z) rvs_nil) ?_
 exact ⟨z, hst.keep0⟩
}
 {
 replace hm := bif_f hc464 hm
 refine wv (Pt b433 9) ((wanted_eq z z z (cvb hc464)).trans z) z (x_field z underlying30 z sizeOf28 z) (wv (Pt b433 11) ((wanted_eq z z z (cvb hc464)).trans z) z (x_field z underlying28 z sizeOf25 z) (wv (.int .u64 a0.M.S.Voters) ((wanted_eq z z z (cvb hc464)).trans z) z (x_load z isAgg25 (hst.bc1 z)) (wv (Pt b442 9) ((wanted_eq z z z (cvb hc464)).trans z) z (x_field z underlying30 z sizeOf28 z) (wv (Pt b442 11) ((wanted_eq z z z (cvb hc464)).trans z) z (x_field z underlying28 z sizeOf25 z) (wv (.int .u64 a1.M.S.Voters) ((wanted_eq z z z (cvb hc464)).trans z) z (x_load z isAgg25 (hst.bc0 z)) (wv (.bool (a0.M.S.Voters != a1.M.S.Voters)) ((wanted_eq z z z (cvb hc464)).trans z) z z (wv (.bool (a0.M.S.Voters != a1.M.S.Voters)) z z (x_pick_f hc464 z z) (wv (.bool (a0.M.S.Voters != a1.M.S.Voters)) z z z ?_))))))))
 refine bsplit (a0.M.S.Voters != a1.M.S.Voters) (fun hc465 => ?_) (fun hc465 => ?_)
 {
 replace hm := bif_t hc465 hm
 refine wo hc465 z z z z z z (wo hc465 z z z z z z (wo hc465 z z z z z z (wo hc465 z z z z z z (wo hc465 z z z z z z (wo hc465 z z z z z z (wo hc465 z z z z z z (wo hc465 z z z z z z (wo hc465 z z z z z z (wv (.bool true) z z (x_pick_t hc465 z z) (wl_nil (tn ?_)))))))))))
 refine wp_ift z ?_
 refine wp_seq (wrl (wv (.bool false) z z z (wl_nil (tn (wp_ret (then_r ?_))))))
 obtain rfl := some_inj hm
 refine post_ret (vs := [.bool false]) results11 (rvs_cons (rv_tmp z) rvs_nil) ?_
 exact ⟨z, hst.keep0⟩
}
 {
 replace hm := bif_f hc465 hm
 refine wv (Pt b433 9) ((wanted_eq z z z (cvb hc465)).trans z) z (x_field z underlying30 z sizeOf28 z) (wv (Pt b433 12) ((wanted_eq z z z (cvb hc465)).trans z) z (x_field z underlying28 z sizeOf22 z) (wv (r0_1) ((wanted_eq z z z (cvb hc465)).trans z) z (x_load z isAgg22 (hst.bc1 z)) (wv (.string (toStr a0.M.S.Data)) ((wanted_eq z z z (cvb hc465)).trans z) z (x_tostr underlying22 underlying9 underlying5 z (Src.of_rd hst f0_1 flat_int)) (wv (Pt b442 9) ((wanted_eq z z z (cvb hc465)).trans z) z (x_field z underlying30 z sizeOf28 z) (wv (Pt b442 12) ((wanted_eq z z z (cvb hc465)).trans z) z (x_field z underlying28 z sizeOf22 z) (wv (r1_1) ((wanted_eq z z z (cvb hc465)).trans z) z (x_load z isAgg22 (hst.bc0 z)) (wv (.string (toStr a1.M.S.Data)) ((wanted_eq z z z (cvb hc465)).trans z) z (x_tostr underlying22 underlying9 underlying5 z (Src.of_rd hst f1_1 flat_int)) (wv (.bool (!(sEq (toStr a0.M.S.Data) (toStr a1.M.S.Data)))) ((wanted_eq z z z (cvb hc465)).trans z) z (by kernel_rfl) (wv (.bool (!(sEq (toStr a0.M.S.Data) (toStr a1.M.S.Data)))) z z (x_pick_f hc465 z z) (wl_nil (tn ?_)))))))))))
 refine bsplit (!(sEq (toStr a0.M.S.Data) (toStr a1.M.S.Data))) (fun hc466 => ?_) (fun hc466 => ?_)
 {
 replace hm := bif_t hc466 hm
 refine wp_ift (cvb hc466) ?_
 refine wp_seq (wrl (wv (.bool false) z z z (wl_nil (tn (wp_ret (then_r ?_))))))
 obtain rfl := some_inj hm
 refine post_ret (vs := [.bool false]) results11 (rvs_cons (rv_tmp z) rvs_nil) ?_
 exact ⟨z, hst.keep0⟩
}
 {
 replace hm := bif_f hc466 hm
 refine wp_iff (cvb hc466) ?_
 refine wp_skip (tn (wp_seq ?_))
 refine wp_region_St hst 38 [0, 1, 2, 3, 4, 5, 6, 7, 8, 9, 10, 11, 12, 13, 14, 15, 16, 17, 18, 19, 20, 21, 22, 23, 24, 25, 26, 27, 28, 29, 30, 31, 32, 33, 34, 35, 36, 37] [0, 1, 0, 4, 15, 31, 63, 127, 63, 319, 1023, 2047, 4095, 8191, 16383, 8191, 40959, 131071, 262143, 524287, 1048575, 2097151, 1048575, 5242879, 16777215, 33554431, 67108863, 134217727, 268435455, 536870911, 1073741823, 134217727, 2281701375, 7516192767, 16106127359, 34359738367, 68719476735, 137438953471] [] z (by kernel_rfl) (by kernel_rfl) Try.mixed (by kernel_rfl) ?_
 refine wsr (Pt b421 0) 0 z z z (by kernel_rfl) (fun w hst => x_field z underlying50 z sizeOf5 z) (wsr (.int .u8 a0.Kind) 1 z z z (by kernel_rfl) (fun w hst => x_load z isAgg5 (hst.bc3 z)) (wsr (Pt b426 0) 2 z z z (by kernel_rfl) (fun w hst => x_field z underlying50 z sizeOf5 z) (wsr (.int .u8 a1.Kind) 3 z z z (by kernel_rfl) (fun w hst => x_load z isAgg5 (hst.bc2 z)) (wsr (.bool (a0.Kind == a1.Kind)) 4 z z z (by kernel_rfl) (fun w hst => z) (wsr (.bool (a0.Kind == a1.Kind)) 5 z z z (by kernel_rfl) (fun w hst => z) ?_)))))
 refine bsplit (a0.Kind == a1.Kind) (fun hc467 => ?_) (fun hc467 => ?_)
 {
 replace hm := bif_t hc467 hm
 refine ws_q (v := Pt b421 21) 6 [7, 8, 9, 10, 11, 12, 13, 14, 15, 16, 17, 18, 19, 20, 21, 22, 23, 24, 25, 26, 27, 28, 29, 30, 31, 32, 33, 34, 35, 36, 37] (by kernel_rfl) z z (yi_run ((wanted_eq z z z (cvb hc467)).trans z) (fun w hst => x_field z underlying50 z sizeOf32 z)) (ws_q (v := .agg #[U6 a0.ID.Session, U6 a0.ID.Seq]) 7 [8, 9, 10, 11, 12, 13, 14, 15, 16, 17, 18, 19, 20, 21, 22, 23, 24, 25, 26, 27, 28, 29, 30, 31, 32, 33, 34, 35, 36, 37] (by kernel_rfl) z z (yi_run ((wanted_eq z z z (cvb hc467)).trans z) (fun w hst => x_loadN (cs := [U6 a0.ID.Session, U6 a0.ID.Seq]) z isAgg32 sizeOf32 (hst.bcs3 21 z))) (ws_q (v := Pt b426 21) 8 [9, 10, 11, 12, 13, 14, 15, 16, 17, 18, 19, 20, 21, 22, 23, 24, 25, 26, 27, 28, 29, 30, 31, 32, 33, 34, 35, 36, 37] (by kernel_rfl) z z (yi_run ((wanted_eq z z z (cvb hc467)).trans z) (fun w hst => x_field z underlying50 z sizeOf32 z)) (ws_q (v := .agg #[U6 a1.ID.Session, U6 a1.ID.Seq]) 9 [10, 11, 12, 13, 14, 15, 16, 17, 18, 19, 20, 21, 22, 23, 24, 25, 26, 27, 28, 29, 30, 31, 32, 33, 34, 35, 36, 37] (by kernel_rfl) z z (yi_run ((wanted_eq z z z (cvb hc467)).trans z) (fun w hst => x_loadN (cs := [U6 a1.ID.Session, U6 a1.ID.Seq]) z isAgg32 sizeOf32 (hst.bcs2 21 z))) (ws_q (v := .bool ((a0.ID.Session == a1.ID.Session) && (a0.ID.Seq == a1.ID.Seq))) 10 [11, 12, 13, 14, 15, 16, 17, 18, 19, 20, 21, 22, 23, 24, 25, 26, 27, 28, 29, 30, 31, 32, 33, 34, 35, 36, 37] (by kernel_rfl) z z (yi_run ((wanted_eq z z z (cvb hc467)).trans z) (fun w hst => x_aggeq2 z z (by kernel_rfl) underlying32 (by kernel_rfl) (by kernel_rfl) (by kernel_rfl) underlying25 underlying25 (fun _ _ _ => by kernel_rfl) (fun _ _ _ => by kernel_rfl))) (wsr (.bool ((a0.ID.Session == a1.ID.Session) && (a0.ID.Seq == a1.ID.Seq))) 11 z z z (by kernel_rfl) (fun w hst => x_pick_t hc467 z z) (wsr (.bool ((a0.ID.Session == a1.ID.Session) && (a0.ID.Seq == a1.ID.Seq))) 12 z z z (by kernel_rfl) (fun w hst => z) ?_))))))
 refine bsplit ((a0.ID.Session == a1.ID.Session) && (a0.ID.Seq == a1.ID.Seq)) (fun hc468 => ?_) (fun hc468 => ?_)
 {
 replace hm := bif_t hc468 hm
 refine ws_q (v := Pt b421 14) 13 [14, 15, 16, 17, 18, 19, 20, 21, 22, 23, 24, 25, 26, 27, 28, 29, 30, 31, 32, 33, 34, 35, 36, 37] (by kernel_rfl) z z (yi_run ((wanted_eq z z z (cvb hc468)).trans z) (fun w hst => x_field z underlying50 z sizeOf36 z)) (ws_q (v := .agg #[U6 a0.H.ID.Session, U6 a0.H.ID.Seq, U6 a0.H.Epoch, r0_2, r0_3, r0_4, r0_5]) 14 [15, 16, 17, 18, 19, 20, 21, 22, 23, 24, 25, 26, 27, 28, 29, 30, 31, 32, 33, 34, 35, 36, 37] (by kernel_rfl) z z (yi_run ((wanted_eq z z z (cvb hc468)).trans z) (fun w hst => x_loadN (cs := [U6 a0.H.ID.Session, U6 a0.H.ID.Seq, U6 a0.H.Epoch, r0_2, r0_3, r0_4, r0_5]) z isAgg36 sizeOf36 (hst.bcs3 14 z))) (ws_q (v := Pt b426 14) 15 [16, 17, 18, 19, 20, 21, 22, 23, 24, 25, 26, 27, 28, 29, 30, 31, 32, 33, 34, 35, 36, 37] (by kernel_rfl) z z (yi_run ((wanted_eq z z z (cvb hc468)).trans z) (fun w hst => x_field z underlying50 z sizeOf36 z)) (ws_q (v := .agg #[U6 a1.H.ID.Session, U6 a1.H.ID.Seq, U6 a1.H.Epoch, r1_2, r1_3, r1_4, r1_5]) 16 [17, 18, 19, 20, 21, 22, 23, 24, 25, 26, 27, 28, 29, 30, 31, 32, 33, 34, 35, 36, 37] (by kernel_rfl) z z (yi_run ((wanted_eq z z z (cvb hc468)).trans z) (fun w hst => x_loadN (cs := [U6 a1.H.ID.Session, U6 a1.H.ID.Seq, U6 a1.H.Epoch, r1_2, r1_3, r1_4, r1_5]) z isAgg36 sizeOf36 (hst.bcs2 14 z))) ?_)))
 refine ws_e1 17 (by kernel_rfl) ?_
 refine nxe [18, 19, 20, 21, 22, 23, 24, 25, 26, 27, 28, 29, 30, 31, 32, 33, 34, 35, 36, 37] (by kernel_rfl) z ((wanted_eq z z z (cvb hc468)).trans z) ?_
 clear hst
 intro w hst
 obtain ⟨t469, ht470, hm⟩ := bind_some hm
 refine wec call42 [.agg #[U6 a0.H.ID.Session, U6 a0.H.ID.Seq, U6 a0.H.Epoch, r0_2, r0_3, r0_4, r0_5], .agg #[U6 a1.H.ID.Session, U6 a1.H.ID.Seq, U6 a1.H.Epoch, r1_2, r1_3, r1_4, r1_5]] z z ?_
 refine (ref11_SameHold_ref (f0_2.mono (rd_weak _)) (f0_3.mono (rd_weak _)) (f0_4.mono (rd_weak _)) (f0_5.mono (rd_weak _)) (f1_2.mono (rd_weak _)) (f1_3.mono (rd_weak _)) (f1_4.mono (rd_weak _)) (f1_5.mono (rd_weak _)) hst.to0 ht470).mono ?_
 rintro _ w471 ⟨rfl, hst⟩
 refine ⟨_, z, ?_⟩
 replace hst := hst.of0
 refine ws_next (pend' := []) hst (by kernel_rfl) pk_nil ?_
 refine wsr (.bool t469) 18 z z z (by kernel_rfl) (fun w hst => x_pick_t hc468 z z) (wsr (.bool t469) 19 z z z (by kernel_rfl) (fun w hst => z) ?_)
 refine bsplit t469 (fun hc474 => ?_) (fun hc474 => ?_)
 {
 replace hm := bif_t hc474 hm
 refine ws_q (v := Pt b421 23) 20 [21, 22, 23, 24, 25, 26, 27, 28, 29, 30, 31, 32, 33, 34, 35, 36, 37] (by kernel_rfl) z z (yi_run ((wanted_eq z z z (cvb hc474)).trans z) (fun w hst => x_field z underlying50 z sizeOf41 z)) (ws_q (v := .agg #[I6 a0.R.E, U6 a0.R.Epoch, U6 a0.R.Index, r0_6, r0_7]) 21 [22, 23, 24, 25, 26, 27, 28, 29, 30, 31, 32, 33, 34, 35, 36, 37] (by kernel_rfl) z z (yi_run ((wanted_eq z z z (cvb hc474)).trans z) (fun w hst => x_loadN (cs := [I6 a0.R.E, U6 a0.R.Epoch, U6 a0.R.Index, r0_6, r0_7]) z isAgg41 sizeOf41 (hst.bcs3 23 z))) (ws_q (v := Pt b426 23) 22 [23, 24, 25, 26, 27, 28, 29, 30, 31, 32, 33, 34, 35, 36, 37] (by kernel_rfl) z z (yi_run ((wanted_eq z z z (cvb hc474)).trans z) (fun w hst => x_field z underlying50 z sizeOf41 z)) (ws_q (v := .agg #[I6 a1.R.E, U6 a1.R.Epoch, U6 a1.R.Index, r1_6, r1_7]) 23 [24, 25, 26, 27, 28, 29, 30, 31, 32, 33, 34, 35, 36, 37] (by kernel_rfl) z z (yi_run ((wanted_eq z z z (cvb hc474)).trans z) (fun w hst => x_loadN (cs := [I6 a1.R.E, U6 a1.R.Epoch, U6 a1.R.Index, r1_6, r1_7]) z isAgg41 sizeOf41 (hst.bcs2 23 z))) ?_)))
 refine ws_e1 24 (by kernel_rfl) ?_
 refine nxe [25, 26, 27, 28, 29, 30, 31, 32, 33, 34, 35, 36, 37] (by kernel_rfl) z ((wanted_eq z z z (cvb hc474)).trans z) ?_
 clear hst
 intro w hst
 obtain ⟨t475, ht476, hm⟩ := bind_some hm
 refine wec call43 [.agg #[I6 a0.R.E, U6 a0.R.Epoch, U6 a0.R.Index, r0_6, r0_7], .agg #[I6 a1.R.E, U6 a1.R.Epoch, U6 a1.R.Index, r1_6, r1_7]] z z ?_
 refine (ref11_SameReply_ref (f0_6.mono (rd_weak _)) (f0_7.mono (rd_weak _)) (f1_6.mono (rd_weak _)) (f1_7.mono (rd_weak _)) hst.to0 ht476).mono ?_
 rintro _ w477 ⟨rfl, hst⟩
 refine ⟨_, z, ?_⟩
 replace hst := hst.of0
 refine ws_next (pend' := []) hst (by kernel_rfl) pk_nil ?_
 refine wsr (.bool t475) 25 z z z (by kernel_rfl) (fun w hst => x_pick_t hc474 z z) (wsr (.bool t475) 26 z z z (by kernel_rfl) (fun w hst => z) ?_)
 refine bsplit t475 (fun hc480 => ?_) (fun hc480 => ?_)
 {
 replace hm := bif_t hc480 hm
 refine ws_q (v := Pt b421 28) 27 [28, 29, 30, 31, 32, 33, 34, 35, 36, 37] (by kernel_rfl) z z (yi_run ((wanted_eq z z z (cvb hc480)).trans z) (fun w hst => x_field z underlying50 z sizeOf48 z)) (ws_q (v := .agg #[U1 a0.C.Kind, U6 a0.C.ID.Session, U6 a0.C.ID.Seq, U6 a0.C.Epoch, U6 a0.C.Index, I6 a0.C.E, U6 a0.C.Hold.ID.Session, U6 a0.C.Hold.ID.Seq, U6 a0.C.Hold.Epoch, r0_8, r0_9, r0_10, r0_11, r0_12, I6 a0.C.R.E, U6 a0.C.R.Epoch, U6 a0.C.R.Index, r0_13, r0_14, U6 a0.C.Shards, r0_15, U6 a0.C.Rule.ID, I6 a0.C.Rule.From, I6 a0.C.Rule.To, F6 a0.C.Rule.Lo, F6 a0.C.Rule.Hi, U6 a0.C.Rule.Authority, I6 a0.C.Rule.Quota, .bool a0.C.On]) 28 [29, 30, 31, 32, 33, 34, 35, 36, 37] (by kernel_rfl) z z (yi_run ((wanted_eq z z z (cvb hc480)).trans z) (fun w hst => x_loadN (cs := [U1 a0.C.Kind, U6 a0.C.ID.Session, U6 a0.C.ID.Seq, U6 a0.C.Epoch, U6 a0.C.Index, I6 a0.C.E, U6 a0.C.Hold.ID.Session, U6 a0.C.Hold.ID.Seq, U6 a0.C.Hold.Epoch, r0_8, r0_9, r0_10, r0_11, r0_12, I6 a0.C.R.E, U6 a0.C.R.Epoch, U6 a0.C.R.Index, r0_13, r0_14, U6 a0.C.Shards, r0_15, U6 a0.C.Rule.ID, I6 a0.C.Rule.From, I6 a0.C.Rule.To, F6 a0.C.Rule.Lo, F6 a0.C.Rule.Hi, U6 a0.C.Rule.Authority, I6 a0.C.Rule.Quota, .bool a0.C.On]) z isAgg48 sizeOf48 (hst.bcs3 28 z))) (ws_q (v := Pt b426 28) 31 [29, 30, 32, 33, 34, 35, 36, 37] (by kernel_rfl) z z (yi_run ((wanted_eq z z z (cvb hc480)).trans z) (fun w hst => x_field z underlying50 z sizeOf48 z)) (ws_q (v := .agg #[U1 a1.C.Kind, U6 a1.C.ID.Session, U6 a1.C.ID.Seq, U6 a1.C.Epoch, U6 a1.C.Index, I6 a1.C.E, U6 a1.C.Hold.ID.Session, U6 a1.C.Hold.ID.Seq, U6 a1.C.Hold.Epoch, r1_8, r1_9, r1_10, r1_11, r1_12, I6 a1.C.R.E, U6 a1.C.R.Epoch, U6 a1.C.R.Index, r1_13, r1_14, U6 a1.C.Shards, r1_15, U6 a1.C.Rule.ID, I6 a1.C.Rule.From, I6 a1.C.Rule.To, F6 a1.C.Rule.Lo, F6 a1.C.Rule.Hi, U6 a1.C.Rule.Authority, I6 a1.C.Rule.Quota, .bool a1.C.On]) 32 [29, 30, 33, 34, 35, 36, 37] (by kernel_rfl) z z (yi_run ((wanted_eq z z z (cvb hc480)).trans z) (fun w hst => x_loadN (cs := [U1 a1.C.Kind, U6 a1.C.ID.Session, U6 a1.C.ID.Seq, U6 a1.C.Epoch, U6 a1.C.Index, I6 a1.C.E, U6 a1.C.Hold.ID.Session, U6 a1.C.Hold.ID.Seq, U6 a1.C.Hold.Epoch, r1_8, r1_9, r1_10, r1_11, r1_12, I6 a1.C.R.E, U6 a1.C.R.Epoch, U6 a1.C.R.Index, r1_13, r1_14, U6 a1.C.Shards, r1_15, U6 a1.C.Rule.ID, I6 a1.C.Rule.From, I6 a1.C.Rule.To, F6 a1.C.Rule.Lo, F6 a1.C.Rule.Hi, U6 a1.C.Rule.Authority, I6 a1.C.Rule.Quota, .bool a1.C.On]) z isAgg48 sizeOf48 (hst.bcs2 28 z))) ?_)))
 refine ws_e1 29 (by kernel_rfl) ?_
 refine nxe [30, 33, 34, 35, 36, 37] (by kernel_rfl) z ((wanted_eq z z z (cvb hc480)).trans z) ?_
 clear hst
 intro w hst
 obtain ⟨t481, ht482, hm⟩ := bind_some hm
 refine wec call39 [.agg #[U1 a0.C.Kind, U6 a0.C.ID.Session, U6 a0.C.ID.Seq, U6 a0.C.Epoch, U6 a0.C.Index, I6 a0.C.E, U6 a0.C.Hold.ID.Session, U6 a0.C.Hold.ID.Seq, U6 a0.C.Hold.Epoch, r0_8, r0_9, r0_10, r0_11, r0_12, I6 a0.C.R.E, U6 a0.C.R.Epoch, U6 a0.C.R.Index, r0_13, r0_14, U6 a0.C.Shards, r0_15, U6 a0.C.Rule.ID, I6 a0.C.Rule.From, I6 a0.C.Rule.To, F6 a0.C.Rule.Lo, F6 a0.C.Rule.Hi, U6 a0.C.Rule.Authority, I6 a0.C.Rule.Quota, .bool a0.C.On]] z z ?_
 refine (ref13_Command_ref (f0_8.mono (rd_weak _)) (f0_9.mono (rd_weak _)) (f0_10.mono (rd_weak _)) (f0_11.mono (rd_weak _)) (f0_12.mono (rd_weak _)) (f0_13.mono (rd_weak _)) (f0_14.mono (rd_weak _)) (f0_15.mono (rd_weak _)) hst.to0 ht482).mono ?_
 rintro _ w483 ⟨v486, rfl, hst⟩
 refine ⟨_, z, ?_⟩
 replace hst := hst.of1
 refine ws_next (pend' := [(32, .agg #[U1 a1.C.Kind, U6 a1.C.ID.Session, U6 a1.C.ID.Seq, U6 a1.C.Epoch, U6 a1.C.Index, I6 a1.C.E, U6 a1.C.Hold.ID.Session, U6 a1.C.Hold.ID.Seq, U6 a1.C.Hold.Epoch, r1_8, r1_9, r1_10, r1_11, r1_12, I6 a1.C.R.E, U6 a1.C.R.Epoch, U6 a1.C.R.Index, r1_13, r1_14, U6 a1.C.Shards, r1_15, U6 a1.C.Rule.ID, I6 a1.C.Rule.From, I6 a1.C.Rule.To, F6 a1.C.Rule.Lo, F6 a1.C.Rule.Hi, U6 a1.C.Rule.Authority, I6 a1.C.Rule.Quota, .bool a1.C.On]), (31, Pt b426 28)]) hst (by kernel_rfl) (pk_cons z (yi_run ((wanted_eq z z z (cvb hc480)).trans z) (fun w hst => x_loadN (cs := [U1 a1.C.Kind, U6 a1.C.ID.Session, U6 a1.C.ID.Seq, U6 a1.C.Epoch, U6 a1.C.Index, I6 a1.C.E, U6 a1.C.Hold.ID.Session, U6 a1.C.Hold.ID.Seq, U6 a1.C.Hold.Epoch, r1_8, r1_9, r1_10, r1_11, r1_12, I6 a1.C.R.E, U6 a1.C.R.Epoch, U6 a1.C.R.Index, r1_13, r1_14, U6 a1.C.Shards, r1_15, U6 a1.C.Rule.ID, I6 a1.C.Rule.From, I6 a1.C.Rule.To, F6 a1.C.Rule.Lo, F6 a1.C.Rule.Hi, U6 a1.C.Rule.Authority, I6 a1.C.Rule.Quota, .bool a1.C.On]) z isAgg48 sizeOf48 (hst.bcs3 28 z))) (pk_cons z (yi_run ((wanted_eq z z z (cvb hc480)).trans z) (fun w hst => x_field z underlying50 z sizeOf48 z)) pk_nil)) ?_
 refine ws_q (v := .string (toStr t481)) 30 [33, 34, 35, 36, 37] (by kernel_rfl) z z (yi_run ((wanted_eq z z z (cvb hc480)).trans z) (fun w hst => x_tostr underlying22 underlying9 underlying5 z hst.src0)) ?_
 refine ws_e1 33 (by kernel_rfl) ?_
 refine nxe [34, 35, 36, 37] (by kernel_rfl) z ((wanted_eq z z z (cvb hc480)).trans z) ?_
 clear hst
 intro w hst
 obtain ⟨t488, ht489, hm⟩ := bind_some hm
 refine wec call39 [.agg #[U1 a1.C.Kind, U6 a1.C.ID.Session, U6 a1.C.ID.Seq, U6 a1.C.Epoch, U6 a1.C.Index, I6 a1.C.E, U6 a1.C.Hold.ID.Session, U6 a1.C.Hold.ID.Seq, U6 a1.C.Hold.Epoch, r1_8, r1_9, r1_10, r1_11, r1_12, I6 a1.C.R.E, U6 a1.C.R.Epoch, U6 a1.C.R.Index, r1_13, r1_14, U6 a1.C.Shards, r1_15, U6 a1.C.Rule.ID, I6 a1.C.Rule.From, I6 a1.C.Rule.To, F6 a1.C.Rule.Lo, F6 a1.C.Rule.Hi, U6 a1.C.Rule.Authority, I6 a1.C.Rule.Quota, .bool a1.C.On]] z z ?_
 refine (ref13_Command_ref (f1_8.mono (rd_weak _)) (f1_9.mono (rd_weak _)) (f1_10.mono (rd_weak _)) (f1_11.mono (rd_weak _)) (f1_12.mono (rd_weak _)) (f1_13.mono (rd_weak _)) (f1_14.mono (rd_weak _)) (f1_15.mono (rd_weak _)) hst.to0 ht489).mono ?_
 rintro _ w490 ⟨v493, rfl, hst⟩
 refine ⟨_, z, ?_⟩
 replace hst := hst.of1
 refine ws_next (pend' := [(30, .string (toStr t481))]) hst (by kernel_rfl) (pk_cons z (yi_run ((wanted_eq z z z (cvb hc480)).trans z) (fun w hst => x_tostr underlying22 underlying9 underlying5 z hst.src1)) pk_nil) ?_
 refine ws_q (v := .string (toStr t488)) 34 [35, 36, 37] (by kernel_rfl) z z (yi_run ((wanted_eq z z z (cvb hc480)).trans z) (fun w hst => x_tostr underlying22 underlying9 underlying5 z hst.src0)) (ws_q (v := .bool (sEq (toStr t481) (toStr t488))) 35 [36, 37] (by kernel_rfl) z z (yi_run ((wanted_eq z z z (cvb hc480)).trans z) (fun w hst => by kernel_rfl)) (wsr (.bool (sEq (toStr t481) (toStr t488))) 36 z z z (by kernel_rfl) (fun w hst => x_pick_t hc480 z z) (wsr (.bool (sEq (toStr t481) (toStr t488))) 37 z z z (by kernel_rfl) (fun w hst => z) ?_)))
 refine ws_nil ?_
 intro w hst
 refine tn (wp_ret ?_)
 obtain rfl := some_inj hm
 refine post_ret (vs := [.bool (sEq (toStr t481) (toStr t488))]) results11 (rvs_cons (rv_tmp z) rvs_nil) ?_
 exact ⟨z, hst.keep0⟩
}
 {
 replace hm := bif_f hc480 hm
 refine ws_q (v := undef) 27 [28, 29, 30, 31, 32, 33, 34, 35, 36, 37] (by kernel_rfl) z z (yi_off ((wanted_eq z z z (cvb hc480)).trans z)) (ws_q (v := undef) 28 [29, 30, 31, 32, 33, 34, 35, 36, 37] (by kernel_rfl) z z (yi_off ((wanted_eq z z z (cvb hc480)).trans z)) (ws_q (v := undef) 29 [30, 31, 32, 33, 34, 35, 36, 37] (by kernel_rfl) z z (yi_off ((wanted_eq z z z (cvb hc480)).trans z)) (ws_q (v := undef) 30 [31, 32, 33, 34, 35, 36, 37] (by kernel_rfl) z z (yi_off ((wanted_eq z z z (cvb hc480)).trans z)) (ws_q (v := undef) 31 [32, 33, 34, 35, 36, 37] (by kernel_rfl) z z (yi_off ((wanted_eq z z z (cvb hc480)).trans z)) (ws_q (v := undef) 32 [33, 34, 35, 36, 37] (by kernel_rfl) z z (yi_off ((wanted_eq z z z (cvb hc480)).trans z)) (ws_q (v := undef) 33 [34, 35, 36, 37] (by kernel_rfl) z z (yi_off ((wanted_eq z z z (cvb hc480)).trans z)) (ws_q (v := undef) 34 [35, 36, 37] (by kernel_rfl) z z (yi_off ((wanted_eq z z z (cvb hc480)).trans z)) (ws_q (v := undef) 35 [36, 37] (by kernel_rfl) z z (yi_off ((wanted_eq z z z (cvb hc480)).trans z)) (wsr (.bool false) 36 z z z (by kernel_rfl) (fun w hst => x_pick_f hc480 z z) (wsr (.bool false) 37 z z z (by kernel_rfl) (fun w hst => z) ?_))))))))))
 refine ws_nil ?_
 intro w hst
 refine tn (wp_ret ?_)
 obtain rfl := some_inj hm
 refine post_ret (vs := [.bool false]) results11 (rvs_cons (rv_tmp z) rvs_nil) ?_
 exact ⟨z, hst.keep0⟩
}
}
 {
 replace hm := bif_f hc474 hm
 refine ws_q (v := undef) 20 [21, 22, 23, 24, 25, 26, 27, 28, 29, 30, 31, 32, 33, 34, 35, 36, 37] (by kernel_rfl) z z (yi_off ((wanted_eq z z z (cvb hc474)).trans z)) (ws_q (v := undef) 21 [22, 23, 24, 25, 26, 27, 28, 29, 30, 31, 32, 33, 34, 35, 36, 37] (by kernel_rfl) z z (yi_off ((wanted_eq z z z (cvb hc474)).trans z)) (ws_q (v := undef) 22 [23, 24, 25, 26, 27, 28, 29, 30, 31, 32, 33, 34, 35, 36, 37] (by kernel_rfl) z z (yi_off ((wanted_eq z z z (cvb hc474)).trans z)) (ws_q (v := undef) 23 [24, 25, 26, 27, 28, 29, 30, 31, 32, 33, 34, 35, 36, 37] (by kernel_rfl) z z (yi_off ((wanted_eq z z z (cvb hc474)).trans z)) (ws_q (v := undef) 24 [25, 26, 27, 28, 29, 30, 31, 32, 33, 34, 35, 36, 37] (by kernel_rfl) z z (yi_off ((wanted_eq z z z (cvb hc474)).trans z)) (wsr (.bool false) 25 z z z (by kernel_rfl) (fun w hst => x_pick_f hc474 z z) (wsr (.bool false) 26 z z z (by kernel_rfl) (fun w hst => z) (ws_q (v := undef) 27 [28, 29, 30, 31, 32, 33, 34, 35, 36, 37] (by kernel_rfl) z z (yi_off ((wanted_eq z z z z).trans z)) (ws_q (v := undef) 28 [29, 30, 31, 32, 33, 34, 35, 36, 37] (by kernel_rfl) z z (yi_off ((wanted_eq z z z z).trans z)) (ws_q (v := undef) 29 [30, 31, 32, 33, 34, 35, 36, 37] (by kernel_rfl) z z (yi_off ((wanted_eq z z z z).trans z)) (ws_q (v := undef) 30 [31, 32, 33, 34, 35, 36, 37] (by kernel_rfl) z z (yi_off ((wanted_eq z z z z).trans z)) (ws_q (v := undef) 31 [32, 33, 34, 35, 36, 37] (by kernel_rfl) z z (yi_off ((wanted_eq z z z z).trans z)) (ws_q (v := undef) 32 [33, 34, 35, 36, 37] (by kernel_rfl) z z (yi_off ((wanted_eq z z z z).trans z)) ?_))))))))))))
 refine ws_q (v := undef) 33 [34, 35, 36, 37] (by kernel_rfl) z z (yi_off ((wanted_eq z z z z).trans z)) (ws_q (v := undef) 34 [35, 36, 37] (by kernel_rfl) z z (yi_off ((wanted_eq z z z z).trans z)) (ws_q (v := undef) 35 [36, 37] (by kernel_rfl) z z (yi_off ((wanted_eq z z z z).trans z)) (wsr (.bool false) 36 z z z (by kernel_rfl) (fun w hst => x_pick_f z z z) (wsr (.bool false) 37 z z z (by kernel_rfl) (fun w hst => z) ?_))))
 refine ws_nil ?_
 intro w hst
 refine tn (wp_ret ?_)
 obtain rfl := some_inj hm
 refine post_ret (vs := [.bool false]) results11 (rvs_cons (rv_tmp z) rvs_nil) ?_
 exact ⟨z, hst.keep0⟩
}
}
 {
 replace hm := bif_f hc468 hm
 refine ws_q (v := undef) 13 [14, 15, 16, 17, 18, 19, 20, 21, 22, 23, 24, 25, 26, 27, 28, 29, 30, 31, 32, 33, 34, 35, 36, 37] (by kernel_rfl) z z (yi_off ((wanted_eq z z z (cvb hc468)).trans z)) (ws_q (v := undef) 14 [15, 16, 17, 18, 19, 20, 21, 22, 23, 24, 25, 26, 27, 28, 29, 30, 31, 32, 33, 34, 35, 36, 37] (by kernel_rfl) z z (yi_off ((wanted_eq z z z (cvb hc468)).trans z)) (ws_q (v := undef) 15 [16, 17, 18, 19, 20, 21, 22, 23, 24, 25, 26, 27, 28, 29, 30, 31, 32, 33, 34, 35, 36, 37] (by kernel_rfl) z z (yi_off ((wanted_eq z z z (cvb hc468)).trans z)) (ws_q (v := undef) 16 [17, 18, 19, 20, 21, 22, 23, 24, 25, 26, 27, 28, 29, 30, 31, 32, 33, 34, 35, 36, 37] (by kernel_rfl) z z (yi_off ((wanted_eq z z z (cvb hc468)).trans z)) (ws_q (v := undef) 17 [18, 19, 20, 21, 22, 23, 24, 25, 26, 27, 28, 29, 30, 31, 32, 33, 34, 35, 36, 37] (by kernel_rfl) z z (yi_off ((wanted_eq z z z (cvb hc468)).trans z)) (wsr (.bool false) 18 z z z (by kernel_rfl) (fun w hst => x_pick_f hc468 z z) (wsr (.bool false) 19 z z z (by kernel_rfl) (fun w hst => z) (ws_q (v := undef) 20 [21, 22, 23, 24, 25, 26, 27, 28, 29, 30, 31, 32, 33, 34, 35, 36, 37] (by kernel_rfl) z z (yi_off ((wanted_eq z z z z).trans z)) (ws_q (v := undef) 21 [22, 23, 24, 25, 26, 27, 28, 29, 30, 31, 32, 33, 34, 35, 36, 37] (by kernel_rfl) z z (yi_off ((wanted_eq z z z z).trans z)) (ws_q (v := undef) 22 [23, 24, 25, 26, 27, 28, 29, 30, 31, 32, 33, 34, 35, 36, 37] (by kernel_rfl) z z (yi_off ((wanted_eq z z z z).trans z)) (ws_q (v := undef) 23 [24, 25, 26, 27, 28, 29, 30, 31, 32, 33, 34, 35, 36, 37] (by kernel_rfl) z z (yi_off ((wanted_eq z z z z).trans z)) (ws_q (v := undef) 24 [25, 26, 27, 28, 29, 30, 31, 32, 33, 34, 35, 36, 37] (by kernel_rfl) z z (yi_off ((wanted_eq z z z z).trans z)) (wsr (.bool false) 25 z z z (by kernel_rfl) (fun w hst => x_pick_f z z z) ?_))))))))))))
 refine wsr (.bool false) 26 z z z (by kernel_rfl) (fun w hst => z) (ws_q (v := undef) 27 [28, 29, 30, 31, 32, 33, 34, 35, 36, 37] (by kernel_rfl) z z (yi_off ((wanted_eq z z z z).trans z)) (ws_q (v := undef) 28 [29, 30, 31, 32, 33, 34, 35, 36, 37] (by kernel_rfl) z z (yi_off ((wanted_eq z z z z).trans z)) (ws_q (v := undef) 29 [30, 31, 32, 33, 34, 35, 36, 37] (by kernel_rfl) z z (yi_off ((wanted_eq z z z z).trans z)) (ws_q (v := undef) 30 [31, 32, 33, 34, 35, 36, 37] (by kernel_rfl) z z (yi_off ((wanted_eq z z z z).trans z)) (ws_q (v := undef) 31 [32, 33, 34, 35, 36, 37] (by kernel_rfl) z z (yi_off ((wanted_eq z z z z).trans z)) (ws_q (v := undef) 32 [33, 34, 35, 36, 37] (by kernel_rfl) z z (yi_off ((wanted_eq z z z z).trans z)) (ws_q (v := undef) 33 [34, 35, 36, 37] (by kernel_rfl) z z (yi_off ((wanted_eq z z z z).trans z)) (ws_q (v := undef) 34 [35, 36, 37] (by kernel_rfl) z z (yi_off ((wanted_eq z z z z).trans z)) (ws_q (v := undef) 35 [36, 37] (by kernel_rfl) z z (yi_off ((wanted_eq z z z z).trans z)) (wsr (.bool false) 36 z z z (by kernel_rfl) (fun w hst => x_pick_f z z z) (wsr (.bool false) 37 z z z (by kernel_rfl) (fun w hst => z) ?_)))))))))))
 refine ws_nil ?_
 intro w hst
 refine tn (wp_ret ?_)
 obtain rfl := some_inj hm
 refine post_ret (vs := [.bool false]) results11 (rvs_cons (rv_tmp z) rvs_nil) ?_
 exact ⟨z, hst.keep0⟩
}
}
 {
 replace hm := bif_f hc467 hm
 refine ws_q (v := undef) 6 [7, 8, 9, 10, 11, 12, 13, 14, 15, 16, 17, 18, 19, 20, 21, 22, 23, 24, 25, 26, 27, 28, 29, 30, 31, 32, 33, 34, 35, 36, 37] (by kernel_rfl) z z (yi_off ((wanted_eq z z z (cvb hc467)).trans z)) (ws_q (v := undef) 7 [8, 9, 10, 11, 12, 13, 14, 15, 16, 17, 18, 19, 20, 21, 22, 23, 24, 25, 26, 27, 28, 29, 30, 31, 32, 33, 34, 35, 36, 37] (by kernel_rfl) z z (yi_off ((wanted_eq z z z (cvb hc467)).trans z)) (ws_q (v := undef) 8 [9, 10, 11, 12, 13, 14, 15, 16, 17, 18, 19, 20, 21, 22, 23, 24, 25, 26, 27, 28, 29, 30, 31, 32, 33, 34, 35, 36, 37] (by kernel_rfl) z z (yi_off ((wanted_eq z z z (cvb hc467)).trans z)) (ws_q (v := undef) 9 [10, 11, 12, 13, 14, 15, 16, 17, 18, 19, 20, 21, 22, 23, 24, 25, 26, 27, 28, 29, 30, 31, 32, 33, 34, 35, 36, 37] (by kernel_rfl) z z (yi_off ((wanted_eq z z z (cvb hc467)).trans z)) (ws_q (v := undef) 10 [11, 12, 13, 14, 15, 16, 17, 18, 19, 20, 21, 22, 23, 24, 25, 26, 27, 28, 29, 30, 31, 32, 33, 34, 35, 36, 37] (by kernel_rfl) z z (yi_off ((wanted_eq z z z (cvb hc467)).trans z)) (wsr (.bool false) 11 z z z (by kernel_rfl) (fun w hst => x_pick_f hc467 z z) (wsr (.bool false) 12 z z z (by kernel_rfl) (fun w hst => z) (ws_q (v := undef) 13 [14, 15, 16, 17, 18, 19, 20, 21, 22, 23, 24, 25, 26, 27, 28, 29, 30, 31, 32, 33, 34, 35, 36, 37] (by kernel_rfl) z z (yi_off ((wanted_eq z z z z).trans z)) (ws_q (v := undef) 14 [15, 16, 17, 18, 19, 20, 21, 22, 23, 24, 25, 26, 27, 28, 29, 30, 31, 32, 33, 34, 35, 36, 37] (by kernel_rfl) z z (yi_off ((wanted_eq z z z z).trans z)) (ws_q (v := undef) 15 [16, 17, 18, 19, 20, 21, 22, 23, 24, 25, 26, 27, 28, 29, 30, 31, 32, 33, 34, 35, 36, 37] (by kernel_rfl) z z (yi_off ((wanted_eq z z z z).trans z)) (ws_q (v := undef) 16 [17, 18, 19, 20, 21, 22, 23, 24, 25, 26, 27, 28, 29, 30, 31, 32, 33, 34, 35, 36, 37] (by kernel_rfl) z z (yi_off ((wanted_eq z z z z).trans z)) (ws_q (v := undef) 17 [18, 19, 20, 21, 22, 23, 24, 25, 26, 27, 28, 29, 30, 31, 32, 33, 34, 35, 36, 37] (by kernel_rfl) z z (yi_off ((wanted_eq z z z z).trans z)) (wsr (.bool false) 18 z z z (by kernel_rfl) (fun w hst => x_pick_f z z z) ?_))))))))))))
 refine wsr (.bool false) 19 z z z (by kernel_rfl) (fun w hst => z) (ws_q (v := undef) 20 [21, 22, 23, 24, 25, 26, 27, 28, 29, 30, 31, 32, 33, 34, 35, 36, 37] (by kernel_rfl) z z (yi_off ((wanted_eq z z z z).trans z)) (ws_q (v := undef) 21 [22, 23, 24, 25, 26, 27, 28, 29, 30, 31, 32, 33, 34, 35, 36, 37] (by kernel_rfl) z z (yi_off ((wanted_eq z z z z).trans z)) (ws_q (v := undef) 22 [23, 24, 25, 26, 27, 28, 29, 30, 31, 32, 33, 34, 35, 36, 37] (by kernel_rfl) z z (yi_off ((wanted_eq z z z z).trans z)) (ws_q (v := undef) 23 [24, 25, 26, 27, 28, 29, 30, 31, 32, 33, 34, 35, 36, 37] (by kernel_rfl) z z (yi_off ((wanted_eq z z z z).trans z)) (ws_q (v := undef) 24 [25, 26, 27, 28, 29, 30, 31, 32, 33, 34, 35, 36, 37] (by kernel_rfl) z z (yi_off ((wanted_eq z z z z).trans z)) (wsr (.bool false) 25 z z z (by kernel_rfl) (fun w hst => x_pick_f z z z) (wsr (.bool false) 26 z z z (by kernel_rfl) (fun w hst => z) (ws_q (v := undef) 27 [28, 29, 30, 31, 32, 33, 34, 35, 36, 37] (by kernel_rfl) z z (yi_off ((wanted_eq z z z z).trans z)) (ws_q (v := undef) 28 [29, 30, 31, 32, 33, 34, 35, 36, 37] (by kernel_rfl) z z (yi_off ((wanted_eq z z z z).trans z)) (ws_q (v := undef) 29 [30, 31, 32, 33, 34, 35, 36, 37] (by kernel_rfl) z z (yi_off ((wanted_eq z z z z).trans z)) (ws_q (v := undef) 30 [31, 32, 33, 34, 35, 36, 37] (by kernel_rfl) z z (yi_off ((wanted_eq z z z z).trans z)) (ws_q (v := undef) 31 [32, 33, 34, 35, 36, 37] (by kernel_rfl) z z (yi_off ((wanted_eq z z z z).trans z)) ?_))))))))))))
 refine ws_q (v := undef) 32 [33, 34, 35, 36, 37] (by kernel_rfl) z z (yi_off ((wanted_eq z z z z).trans z)) (ws_q (v := undef) 33 [34, 35, 36, 37] (by kernel_rfl) z z (yi_off ((wanted_eq z z z z).trans z)) (ws_q (v := undef) 34 [35, 36, 37] (by kernel_rfl) z z (yi_off ((wanted_eq z z z z).trans z)) (ws_q (v := undef) 35 [36, 37] (by kernel_rfl) z z (yi_off ((wanted_eq z z z z).trans z)) (wsr (.bool false) 36 z z z (by kernel_rfl) (fun w hst => x_pick_f z z z) (wsr (.bool false) 37 z z z (by kernel_rfl) (fun w hst => z) ?_)))))
 refine ws_nil ?_
 intro w hst
 refine tn (wp_ret ?_)
 obtain rfl := some_inj hm
 refine post_ret (vs := [.bool false]) results11 (rvs_cons (rv_tmp z) rvs_nil) ?_
 exact ⟨z, hst.keep0⟩
}
}
}
}
}
}
}
}
}
}
}
}
}
}
}

theorem law17_MailApart_ref {w0 w : World} {I : HL} {R : SP} {a0 : (List Int)} {r0_0 : Value} {a1 : (List Int)} {r1_0 : Value} {a2 : Int} (f0_0 : Ro (tyInt .u8) I r0_0 a0) (f1_0 : Ro (tyInt .u8) I r1_0 a1) (hst : St w0 w I [] R) {r : (Bool)} (hm : law17_MailApart a0 a1 a2 = some r) :
  Calls prog 5 #[r0_0, r1_0, U1 a2] w fun e w' => ∃ (I' : HL), e = .returned (.bool r) ∧ I.le I' ∧ St w0 w' I' [] R := by {
 unfold law17_MailApart at hm
 refine calls_start (args := [r0_0, r1_0, U1 a2]) func5 z ntmps5 (Nat.le_of_ble_eq_true z) ?_
 have hI0 := HL.le.refl I
 refine wp_seq (wrl (wv (.bool false) z z z (wl_nil (tn (wp_seq (wp_seq (wrl ?_)))))))
 obtain ⟨t433, ht434, hm⟩ := bind_some hm
 refine wc call6 [] z z z ?_
 refine (law17_awake_ref hst.to0 ht434).mono ?_
 rintro _ w435 ⟨rfl, hst⟩
 refine ⟨_, z, ?_⟩
 replace hst := hst.of0
 refine wv (.bool (!t433)) z z z (wv (.bool (!t433)) z z z ?_)
 refine bsplit (!t433) (fun hc438 => ?_) (fun hc438 => ?_)
 {
 replace hm := bif_t hc438 hm
 refine wo hc438 z z z z z z (wo hc438 z z z z z z (wo hc438 z z z z z z (wv (.bool true) z z (x_pick_t hc438 z z) (wv (.bool true) z z z (wz z z z z z z (wz z z z z z z (wz z z z z z z (wv (.bool true) z z (x_pick_t z z z) (wl_nil (tn ?_))))))))))
 refine wp_ift z ?_
 refine wp_seq (wrl ?_)
 obtain ⟨t439, ht440, hm⟩ := bind_some hm
 refine wc call6 [] z z z ?_
 refine (law17_awake_ref hst.to0 ht440).mono ?_
 rintro _ w441 ⟨rfl, hst⟩
 refine ⟨_, z, ?_⟩
 replace hst := hst.of0
 refine wv (.bool t439) z z z (wl_nil (tn (wp_ret (then_r ?_))))
 obtain rfl := some_inj hm
 refine post_ret (vs := [.bool t439]) results5 (rvs_cons (rv_tmp z) rvs_nil) ?_
 exact ⟨_, z, hI0, hst.keep0⟩
}
 {
 replace hm := bif_f hc438 hm
 refine wv (r0_0) ((wanted_eq z z z (cvb hc438)).trans z) z z (wv (.int .i64 ((a0).length : Int)) ((wanted_eq z z z (cvb hc438)).trans z) z (x_len z underlying22 (ro_sliceV f0_0)) (wv (.bool (decide (((a0).length : Int) > (100:Int)))) ((wanted_eq z z z (cvb hc438)).trans z) z z (wv (.bool (decide (((a0).length : Int) > (100:Int)))) z z (x_pick_f hc438 z z) (wv (.bool (decide (((a0).length : Int) > (100:Int)))) z z z ?_))))
 refine bsplit (decide (((a0).length : Int) > (100:Int))) (fun hc444 => ?_) (fun hc444 => ?_)
 {
 replace hm := bif_t hc444 hm
 refine wo hc444 z z z z z z (wo hc444 z z z z z z (wo hc444 z z z z z z (wv (.bool true) z z (x_pick_t hc444 z z) (wl_nil (tn ?_)))))
 refine wp_ift z ?_
 refine wp_seq (wrl ?_)
 obtain ⟨t445, ht446, hm⟩ := bind_some hm
 refine wc call6 [] z z z ?_
 refine (law17_awake_ref hst.to0 ht446).mono ?_
 rintro _ w447 ⟨rfl, hst⟩
 refine ⟨_, z, ?_⟩
 replace hst := hst.of0
 refine wv (.bool t445) z z z (wl_nil (tn (wp_ret (then_r ?_))))
 obtain rfl := some_inj hm
 refine post_ret (vs := [.bool t445]) results5 (rvs_cons (rv_tmp z) rvs_nil) ?_
 exact ⟨_, z, hI0, hst.keep0⟩
}
 {
 replace hm := bif_f hc444 hm
 refine wv (r1_0) ((wanted_eq z z z (cvb hc444)).trans z) z z (wv (.int .i64 ((a1).length : Int)) ((wanted_eq z z z (cvb hc444)).trans z) z (x_len z underlying22 (ro_sliceV f1_0)) (wv (.bool (decide (((a1).length : Int) > (100:Int)))) ((wanted_eq z z z (cvb hc444)).trans z) z z (wv (.bool (decide (((a1).length : Int) > (100:Int)))) z z (x_pick_f hc444 z z) (wl_nil (tn ?_)))))
 refine bsplit (decide (((a1).length : Int) > (100:Int))) (fun hc450 => ?_) (fun hc450 => ?_)
 {
 replace hm := bif_t hc450 hm
 refine wp_ift (cvb hc450) ?_
 refine wp_seq (wrl ?_)
 obtain ⟨t451, ht452, hm⟩ := bind_some hm
 refine wc call6 [] z z z ?_
 refine (law17_awake_ref hst.to0 ht452).mono ?_
 rintro _ w453 ⟨rfl, hst⟩
 refine ⟨_, z, ?_⟩
 replace hst := hst.of0
 refine wv (.bool t451) z z z (wl_nil (tn (wp_ret (then_r ?_))))
 obtain rfl := some_inj hm
 refine post_ret (vs := [.bool t451]) results5 (rvs_cons (rv_tmp z) rvs_nil) ?_
 exact ⟨_, z, hI0, hst.keep0⟩
}
 {
 replace hm := bif_f hc450 hm
 refine wp_iff (cvb hc450) ?_
 refine wp_skip (tn (wp_seq (wrl ?_)))
 refine wv (r0_0) z z z (wv (.agg #[r0_0, Zi]) z z (by obtain ⟨_, _, hv_, _⟩ := (ro_sliceV f0_0); rw [hv_]; kernel_rfl) ?_)
 obtain ⟨b457, w458, ew459, eb460, hst⟩ := hst.box [r0_0, Zi] 57
 refine wl_run (v := Pt b457 0) (w' := w458) z z (x_al (by kernel_rfl) ew459 eb460) ?_
 replace hst := at_ref12_Tape_close (pv := Pt b457 0) (x := ({ L := a0, I := (0:Int) } : ref12_Tape)) hst ⟨z, f0_0⟩
 obtain ⟨t462, ht463, hm⟩ := bind_some hm
 refine wc call9 [Pt b457 0] z z z ?_
 refine (law17_make1_ref hst.to1 ht463).mono ?_
 rintro _ w464 ⟨I465, v467, v469, v471, v473, v475, v477, v479, v481, v483, v485, v487, v489, v491, v493, v495, v497, rfl, hI466, hst⟩
 refine ⟨_, z, ?_⟩
 replace hst := hst.of17
 replace f0_0 := f0_0.mono (ro_le hI466)
 replace f1_0 := f1_0.mono (ro_le hI466)
 replace hI0 := hI0.trans hI466
 obtain ⟨b515, w516, ew517, eb518, hst⟩ := hst.box [Zb, Zb, Zi, Zi, Zu, Zu, Zu, Zu, .bool false, Zs, Zu, Zu, Zu, Zs, Zu, Zu, Zu, Zs, Zs, Zs, Zs, Zu, Zu, Zi, Zu, Zu, Zs, Zs, Zb, Zu, Zu, Zu, Zu, Zi, Zu, Zu, Zu, Zs, Zs, Zs, Zs, Zs, Zi, Zu, Zu, Zs, Zs, Zu, Zs, Zu, Zi, Zi, Zf, Zf, Zu, Zi, .bool false] 50
 refine wl_run (v := Pt b515 0) (w' := w516) z z (x_al (by kernel_rfl) ew517 eb518) ?_
 obtain ⟨w520, hr521, hst⟩ := hst.bx [U1 t462.1.Kind, U1 t462.1.M.Kind, I6 t462.1.M.From, I6 t462.1.M.To, U6 t462.1.M.Term, U6 t462.1.M.Index, U6 t462.1.M.LogTerm, U6 t462.1.M.Commit, .bool t462.1.M.OK, v467, U6 t462.1.M.S.Index, U6 t462.1.M.S.Term, U6 t462.1.M.S.Voters, v469, U6 t462.1.H.ID.Session, U6 t462.1.H.ID.Seq, U6 t462.1.H.Epoch, v471, v473, v475, v477, U6 t462.1.ID.Session, U6 t462.1.ID.Seq, I6 t462.1.R.E, U6 t462.1.R.Epoch, U6 t462.1.R.Index, v479, v481, U1 t462.1.C.Kind, U6 t462.1.C.ID.Session, U6 t462.1.C.ID.Seq, U6 t462.1.C.Epoch, U6 t462.1.C.Index, I6 t462.1.C.E, U6 t462.1.C.Hold.ID.Session, U6 t462.1.C.Hold.ID.Seq, U6 t462.1.C.Hold.Epoch, v483, v485, v487, v489, v491, I6 t462.1.C.R.E, U6 t462.1.C.R.Epoch, U6 t462.1.C.R.Index, v493, v495, U6 t462.1.C.Shards, v497, U6 t462.1.C.Rule.ID, I6 t462.1.C.Rule.From, I6 t462.1.C.Rule.To, F6 t462.1.C.Rule.Lo, F6 t462.1.C.Rule.Hi, U6 t462.1.C.Rule.Authority, I6 t462.1.C.Rule.Quota, .bool t462.1.C.On] sizeOf50 z (oC z (oC z (oC z (oC z (oC z (oC z (oC z (oC z (oC z (oC (one_of_sliceV hst.sv1) (oC z (oC z (oC z (oC (one_of_sliceV hst.sv2) (oC z (oC z (oC z (oC (one_of_sliceV hst.sv3) (oC (one_of_sliceV hst.sv4) (oC (one_of_sliceV hst.sv5) (oC (one_of_sliceV hst.sv6) (oC z (oC z (oC z (oC z (oC z (oC (one_of_sliceV hst.sv7) (oC (one_of_sliceV hst.sv8) (oC z (oC z (oC z (oC z (oC z (oC z (oC z (oC z (oC z (oC (one_of_sliceV hst.sv9) (oC (one_of_sliceV hst.sv10) (oC (one_of_sliceV hst.sv11) (oC (one_of_sliceV hst.sv12) (oC (one_of_sliceV hst.sv13) (oC z (oC z (oC z (oC (one_of_sliceV hst.sv14) (oC (one_of_sliceV hst.sv15) (oC z (oC (one_of_sliceV hst.sv16) (oC z (oC z (oC z (oC z (oC z (oC z (oC z (oC z oN))))))))))))))))))))))))))))))))))))))))))))))))))))))))) (by kernel_rfl)
 refine wl_unit z z (x_unit hr521) ?_
 refine wl_nil (tn (wp_seq (wrl (wv (r1_0) z z z (wv (.agg #[r1_0, Zi]) z z (by obtain ⟨_, _, hv_, _⟩ := (ro_sliceV f1_0); rw [hv_]; kernel_rfl) ?_)))))
 obtain ⟨b523, w524, ew525, eb526, hst⟩ := hst.box [r1_0, Zi] 57
 refine wl_run (v := Pt b523 0) (w' := w524) z z (x_al (by kernel_rfl) ew525 eb526) ?_
 replace hst := at_ref12_Tape_close (pv := Pt b523 0) (x := ({ L := a1, I := (0:Int) } : ref12_Tape)) hst ⟨z, f1_0⟩
 obtain ⟨t528, ht529, hm⟩ := bind_some hm
 refine wc call9 [Pt b523 0] z z z ?_
 refine (law17_make1_ref hst.to1 ht529).mono ?_
 rintro _ w530 ⟨I531, v533, v535, v537, v539, v541, v543, v545, v547, v549, v551, v553, v555, v557, v559, v561, v563, rfl, hI532, hst⟩
 refine ⟨_, z, ?_⟩
 replace hst := hst.of17
 replace f0_0 := f0_0.mono (ro_le hI532)
 replace f1_0 := f1_0.mono (ro_le hI532)
 replace hI0 := hI0.trans hI532
 obtain ⟨b581, w582, ew583, eb584, hst⟩ := hst.box [Zb, Zb, Zi, Zi, Zu, Zu, Zu, Zu, .bool false, Zs, Zu, Zu, Zu, Zs, Zu, Zu, Zu, Zs, Zs, Zs, Zs, Zu, Zu, Zi, Zu, Zu, Zs, Zs, Zb, Zu, Zu, Zu, Zu, Zi, Zu, Zu, Zu, Zs, Zs, Zs, Zs, Zs, Zi, Zu, Zu, Zs, Zs, Zu, Zs, Zu, Zi, Zi, Zf, Zf, Zu, Zi, .bool false] 50
 refine wl_run (v := Pt b581 0) (w' := w582) z z (x_al (by kernel_rfl) ew583 eb584) ?_
 obtain ⟨w586, hr587, hst⟩ := hst.bx [U1 t528.1.Kind, U1 t528.1.M.Kind, I6 t528.1.M.From, I6 t528.1.M.To, U6 t528.1.M.Term, U6 t528.1.M.Index, U6 t528.1.M.LogTerm, U6 t528.1.M.Commit, .bool t528.1.M.OK, v533, U6 t528.1.M.S.Index, U6 t528.1.M.S.Term, U6 t528.1.M.S.Voters, v535, U6 t528.1.H.ID.Session, U6 t528.1.H.ID.Seq, U6 t528.1.H.Epoch, v537, v539, v541, v543, U6 t528.1.ID.Session, U6 t528.1.ID.Seq, I6 t528.1.R.E, U6 t528.1.R.Epoch, U6 t528.1.R.Index, v545, v547, U1 t528.1.C.Kind, U6 t528.1.C.ID.Session, U6 t528.1.C.ID.Seq, U6 t528.1.C.Epoch, U6 t528.1.C.Index, I6 t528.1.C.E, U6 t528.1.C.Hold.ID.Session, U6 t528.1.C.Hold.ID.Seq, U6 t528.1.C.Hold.Epoch, v549, v551, v553, v555, v557, I6 t528.1.C.R.E, U6 t528.1.C.R.Epoch, U6 t528.1.C.R.Index, v559, v561, U6 t528.1.C.Shards, v563, U6 t528.1.C.Rule.ID, I6 t528.1.C.Rule.From, I6 t528.1.C.Rule.To, F6 t528.1.C.Rule.Lo, F6 t528.1.C.Rule.Hi, U6 t528.1.C.Rule.Authority, I6 t528.1.C.Rule.Quota, .bool t528.1.C.On] sizeOf50 z (oC z (oC z (oC z (oC z (oC z (oC z (oC z (oC z (oC z (oC (one_of_sliceV hst.sv1) (oC z (oC z (oC z (oC (one_of_sliceV hst.sv2) (oC z (oC z (oC z (oC (one_of_sliceV hst.sv3) (oC (one_of_sliceV hst.sv4) (oC (one_of_sliceV hst.sv5) (oC (one_of_sliceV hst.sv6) (oC z (oC z (oC z (oC z (oC z (oC (one_of_sliceV hst.sv7) (oC (one_of_sliceV hst.sv8) (oC z (oC z (oC z (oC z (oC z (oC z (oC z (oC z (oC z (oC (one_of_sliceV hst.sv9) (oC (one_of_sliceV hst.sv10) (oC (one_of_sliceV hst.sv11) (oC (one_of_sliceV hst.sv12) (oC (one_of_sliceV hst.sv13) (oC z (oC z (oC z (oC (one_of_sliceV hst.sv14) (oC (one_of_sliceV hst.sv15) (oC z (oC (one_of_sliceV hst.sv16) (oC z (oC z (oC z (oC z (oC z (oC z (oC z (oC z oN))))))))))))))))))))))))))))))))))))))))))))))))))))))))) (by kernel_rfl)
 refine wl_unit z z (x_unit hr587) ?_
 refine wl_nil (tn (wp_seq (wrl (wv (.int .u8 a2) z z z (wv (.int .u8 (Int.tmod a2 (7:Int))) z z (x_rem (by decide) z z) (wv (.int .u8 (u8.wrap ((1:Int) + (Int.tmod a2 (7:Int))))) z z z (wv (.agg #[U1 (u8.wrap ((1:Int) + (Int.tmod a2 (7:Int)))), Zu, Zu, Zu, Zu, Zi, Zu, Zu, Zu, Zs, Zs, Zs, Zs, Zs, Zi, Zu, Zu, Zs, Zs, Zu, Zs, Zu, Zi, Zi, Zf, Zf, Zu, Zi, .bool false]) z z (by kernel_rfl) ?_)))))))
 obtain ⟨b604, w605, ew606, eb607, hst⟩ := hst.box [Zb, Zu, Zu, Zu, Zu, Zi, Zu, Zu, Zu, Zs, Zs, Zs, Zs, Zs, Zi, Zu, Zu, Zs, Zs, Zu, Zs, Zu, Zi, Zi, Zf, Zf, Zu, Zi, .bool false] 48
 refine wl_run (v := Pt b604 0) (w' := w605) z z (x_al (by kernel_rfl) ew606 eb607) ?_
 obtain ⟨w609, hr610, hst⟩ := hst.bx [U1 (u8.wrap ((1:Int) + (Int.tmod a2 (7:Int)))), Zu, Zu, Zu, Zu, Zi, Zu, Zu, Zu, Zs, Zs, Zs, Zs, Zs, Zi, Zu, Zu, Zs, Zs, Zu, Zs, Zu, Zi, Zi, Zf, Zf, Zu, Zi, .bool false] sizeOf48 z (oC z (oC z (oC z (oC z (oC z (oC z (oC z (oC z (oC z (oC z (oC z (oC z (oC z (oC z (oC z (oC z (oC z (oC z (oC z (oC z (oC z (oC z (oC z (oC z (oC z (oC z (oC z (oC z (oC z oN))))))))))))))))))))))))))))) (by kernel_rfl)
 refine wl_unit z z (x_unit hr610) ?_
 refine wl_nil (tn (wp_seq (wrl (wv (.agg #[U1 (u8.wrap ((1:Int) + (Int.tmod a2 (7:Int)))), Zu, Zu, Zu, Zu, Zi, Zu, Zu, Zu, Zs, Zs, Zs, Zs, Zs, Zi, Zu, Zu, Zs, Zs, Zu, Zs, Zu, Zi, Zi, Zf, Zf, Zu, Zi, .bool false]) z z (x_loadN (cs := [U1 (u8.wrap ((1:Int) + (Int.tmod a2 (7:Int)))), Zu, Zu, Zu, Zu, Zi, Zu, Zu, Zu, Zs, Zs, Zs, Zs, Zs, Zi, Zu, Zu, Zs, Zs, Zu, Zs, Zu, Zi, Zi, Zf, Zf, Zu, Zi, .bool false]) z isAgg48 sizeOf48 (hst.bcs0 0 z)) (wv (.agg #[U1 (4:Int), Zb, Zi, Zi, Zu, Zu, Zu, Zu, .bool false, Zs, Zu, Zu, Zu, Zs, Zu, Zu, Zu, Zs, Zs, Zs, Zs, Zu, Zu, Zi, Zu, Zu, Zs, Zs, U1 (u8.wrap ((1:Int) + (Int.tmod a2 (7:Int)))), Zu, Zu, Zu, Zu, Zi, Zu, Zu, Zu, Zs, Zs, Zs, Zs, Zs, Zi, Zu, Zu, Zs, Zs, Zu, Zs, Zu, Zi, Zi, Zf, Zf, Zu, Zi, .bool false]) z z (by kernel_rfl) ?_)))))
 have f627 : Ro ty_api_Entry I531 (.slice none 0 0) [] := ro_nil
 have f628 : Ro (tyInt .u8) I531 (.slice none 0 0) [] := ro_nil
 have f629 : Ro tyF64 I531 (.slice none 0 0) [] := ro_nil
 have f630 : Ro tyF2 I531 (.slice none 0 0) [] := ro_nil
 have f631 : Ro tyF64 I531 (.slice none 0 0) [] := ro_nil
 have f632 : Ro (tyInt .u8) I531 (.slice none 0 0) [] := ro_nil
 have f633 : Ro ty_api_Got I531 (.slice none 0 0) [] := ro_nil
 have f634 : Ro (tySl ty_api_Pair) I531 (.slice none 0 0) [] := ro_nil
 have f635 : Ro tyF64 I531 (.slice none 0 0) [] := ro_nil
 have f636 : Ro tyF2 I531 (.slice none 0 0) [] := ro_nil
 have f637 : Ro tyF64 I531 (.slice none 0 0) [] := ro_nil
 have f638 : Ro (tyInt .u8) I531 (.slice none 0 0) [] := ro_nil
 have f639 : Ro ty_api_Write I531 (.slice none 0 0) [] := ro_nil
 have f640 : Ro ty_api_Got I531 (.slice none 0 0) [] := ro_nil
 have f641 : Ro (tySl ty_api_Pair) I531 (.slice none 0 0) [] := ro_nil
 have f642 : Ro ty_api_Part I531 (.slice none 0 0) [] := ro_nil
 obtain ⟨t643, ht644, hm⟩ := bind_some hm
 refine wc call10 [.agg #[U1 (4:Int), Zb, Zi, Zi, Zu, Zu, Zu, Zu, .bool false, Zs, Zu, Zu, Zu, Zs, Zu, Zu, Zu, Zs, Zs, Zs, Zs, Zu, Zu, Zi, Zu, Zu, Zs, Zs, U1 (u8.wrap ((1:Int) + (Int.tmod a2 (7:Int)))), Zu, Zu, Zu, Zu, Zi, Zu, Zu, Zu, Zs, Zs, Zs, Zs, Zs, Zi, Zu, Zu, Zs, Zs, Zu, Zs, Zu, Zi, Zi, Zf, Zf, Zu, Zi, .bool false]] z z z ?_
 refine (ref13_Mail_ref (f627.mono ro_rd) (f628.mono ro_rd) (f629.mono ro_rd) (f630.mono ro_rd) (f631.mono ro_rd) (f632.mono ro_rd) (f633.mono ro_rd) (f634.mono ro_rd) (f635.mono ro_rd) (f636.mono ro_rd) (f637.mono ro_rd) (f638.mono ro_rd) (f639.mono ro_rd) (f640.mono ro_rd) (f641.mono ro_rd) (f642.mono ro_rd) hst.to0 ht644).mono ?_
 rintro _ w645 ⟨v648, rfl, hst⟩
 refine ⟨_, z, ?_⟩
 replace hst := hst.of1
 obtain ⟨I650, hI651, f652, hst⟩ := hst.own_fix
 replace f0_0 := f0_0.mono (ro_le hI651)
 replace f1_0 := f1_0.mono (ro_le hI651)
 replace f627 := f627.mono (ro_le hI651)
 replace f628 := f628.mono (ro_le hI651)
 replace f629 := f629.mono (ro_le hI651)
 replace f630 := f630.mono (ro_le hI651)
 replace f631 := f631.mono (ro_le hI651)
 replace f632 := f632.mono (ro_le hI651)
 replace f633 := f633.mono (ro_le hI651)
 replace f634 := f634.mono (ro_le hI651)
 replace f635 := f635.mono (ro_le hI651)
 replace f636 := f636.mono (ro_le hI651)
 replace f637 := f637.mono (ro_le hI651)
 replace f638 := f638.mono (ro_le hI651)
 replace f639 := f639.mono (ro_le hI651)
 replace f640 := f640.mono (ro_le hI651)
 replace f641 := f641.mono (ro_le hI651)
 replace f642 := f642.mono (ro_le hI651)
 replace hI0 := hI0.trans hI651
 obtain ⟨t653, ht654, hm⟩ := bind_some hm
 refine wc call7 [v648] z z z ?_
 refine (mail_Decode_ref f652 hst.to0 ht654).mono ?_
 rintro _ w655 ⟨I656, v658, v660, v662, v664, v666, v668, v670, v672, v674, v676, v678, v680, v682, v684, v686, v688, rfl, hI657, hst⟩
 refine ⟨_, z, ?_⟩
 replace hst := hst.of16
 replace f0_0 := f0_0.mono (ro_le hI657)
 replace f1_0 := f1_0.mono (ro_le hI657)
 replace f627 := f627.mono (ro_le hI657)
 replace f628 := f628.mono (ro_le hI657)
 replace f629 := f629.mono (ro_le hI657)
 replace f630 := f630.mono (ro_le hI657)
 replace f631 := f631.mono (ro_le hI657)
 replace f632 := f632.mono (ro_le hI657)
 replace f633 := f633.mono (ro_le hI657)
 replace f634 := f634.mono (ro_le hI657)
 replace f635 := f635.mono (ro_le hI657)
 replace f636 := f636.mono (ro_le hI657)
 replace f637 := f637.mono (ro_le hI657)
 replace f638 := f638.mono (ro_le hI657)
 replace f639 := f639.mono (ro_le hI657)
 replace f640 := f640.mono (ro_le hI657)
 replace f641 := f641.mono (ro_le hI657)
 replace f642 := f642.mono (ro_le hI657)
 replace f652 := f652.mono (ro_le hI657)
 replace hI0 := hI0.trans hI657
 refine wv (.tuple #[.agg #[U1 t653.1.Kind, U1 t653.1.M.Kind, I6 t653.1.M.From, I6 t653.1.M.To, U6 t653.1.M.Term, U6 t653.1.M.Index, U6 t653.1.M.LogTerm, U6 t653.1.M.Commit, .bool t653.1.M.OK, v658, U6 t653.1.M.S.Index, U6 t653.1.M.S.Term, U6 t653.1.M.S.Voters, v660, U6 t653.1.H.ID.Session, U6 t653.1.H.ID.Seq, U6 t653.1.H.Epoch, v662, v664, v666, v668, U6 t653.1.ID.Session, U6 t653.1.ID.Seq, I6 t653.1.R.E, U6 t653.1.R.Epoch, U6 t653.1.R.Index, v670, v672, U1 t653.1.C.Kind, U6 t653.1.C.ID.Session, U6 t653.1.C.ID.Seq, U6 t653.1.C.Epoch, U6 t653.1.C.Index, I6 t653.1.C.E, U6 t653.1.C.Hold.ID.Session, U6 t653.1.C.Hold.ID.Seq, U6 t653.1.C.Hold.Epoch, v674, v676, v678, v680, v682, I6 t653.1.C.R.E, U6 t653.1.C.R.Epoch, U6 t653.1.C.R.Index, v684, v686, U6 t653.1.C.Shards, v688, U6 t653.1.C.Rule.ID, I6 t653.1.C.Rule.From, I6 t653.1.C.Rule.To, F6 t653.1.C.Rule.Lo, F6 t653.1.C.Rule.Hi, U6 t653.1.C.Rule.Authority, I6 t653.1.C.Rule.Quota, .bool t653.1.C.On], I6 t653.2]) z z z (wv (.agg #[U1 t653.1.Kind, U1 t653.1.M.Kind, I6 t653.1.M.From, I6 t653.1.M.To, U6 t653.1.M.Term, U6 t653.1.M.Index, U6 t653.1.M.LogTerm, U6 t653.1.M.Commit, .bool t653.1.M.OK, v658, U6 t653.1.M.S.Index, U6 t653.1.M.S.Term, U6 t653.1.M.S.Voters, v660, U6 t653.1.H.ID.Session, U6 t653.1.H.ID.Seq, U6 t653.1.H.Epoch, v662, v664, v666, v668, U6 t653.1.ID.Session, U6 t653.1.ID.Seq, I6 t653.1.R.E, U6 t653.1.R.Epoch, U6 t653.1.R.Index, v670, v672, U1 t653.1.C.Kind, U6 t653.1.C.ID.Session, U6 t653.1.C.ID.Seq, U6 t653.1.C.Epoch, U6 t653.1.C.Index, I6 t653.1.C.E, U6 t653.1.C.Hold.ID.Session, U6 t653.1.C.Hold.ID.Seq, U6 t653.1.C.Hold.Epoch, v674, v676, v678, v680, v682, I6 t653.1.C.R.E, U6 t653.1.C.R.Epoch, U6 t653.1.C.R.Index, v684, v686, U6 t653.1.C.Shards, v688, U6 t653.1.C.Rule.ID, I6 t653.1.C.Rule.From, I6 t653.1.C.Rule.To, F6 t653.1.C.Rule.Lo, F6 t653.1.C.Rule.Hi, U6 t653.1.C.Rule.Authority, I6 t653.1.C.Rule.Quota, .bool t653.1.C.On]) z z z (wv (.int .i64 t653.2) z z z ?_))
 obtain ⟨b706, w707, ew708, eb709, hst⟩ := hst.box [Zb, Zb, Zi, Zi, Zu, Zu, Zu, Zu, .bool false, Zs, Zu, Zu, Zu, Zs, Zu, Zu, Zu, Zs, Zs, Zs, Zs, Zu, Zu, Zi, Zu, Zu, Zs, Zs, Zb, Zu, Zu, Zu, Zu, Zi, Zu, Zu, Zu, Zs, Zs, Zs, Zs, Zs, Zi, Zu, Zu, Zs, Zs, Zu, Zs, Zu, Zi, Zi, Zf, Zf, Zu, Zi, .bool false] 50
 refine wl_run (v := Pt b706 0) (w' := w707) z z (x_al (by kernel_rfl) ew708 eb709) ?_
 obtain ⟨w711, hr712, hst⟩ := hst.bx [U1 t653.1.Kind, U1 t653.1.M.Kind, I6 t653.1.M.From, I6 t653.1.M.To, U6 t653.1.M.Term, U6 t653.1.M.Index, U6 t653.1.M.LogTerm, U6 t653.1.M.Commit, .bool t653.1.M.OK, v658, U6 t653.1.M.S.Index, U6 t653.1.M.S.Term, U6 t653.1.M.S.Voters, v660, U6 t653.1.H.ID.Session, U6 t653.1.H.ID.Seq, U6 t653.1.H.Epoch, v662, v664, v666, v668, U6 t653.1.ID.Session, U6 t653.1.ID.Seq, I6 t653.1.R.E, U6 t653.1.R.Epoch, U6 t653.1.R.Index, v670, v672, U1 t653.1.C.Kind, U6 t653.1.C.ID.Session, U6 t653.1.C.ID.Seq, U6 t653.1.C.Epoch, U6 t653.1.C.Index, I6 t653.1.C.E, U6 t653.1.C.Hold.ID.Session, U6 t653.1.C.Hold.ID.Seq, U6 t653.1.C.Hold.Epoch, v674, v676, v678, v680, v682, I6 t653.1.C.R.E, U6 t653.1.C.R.Epoch, U6 t653.1.C.R.Index, v684, v686, U6 t653.1.C.Shards, v688, U6 t653.1.C.Rule.ID, I6 t653.1.C.Rule.From, I6 t653.1.C.Rule.To, F6 t653.1.C.Rule.Lo, F6 t653.1.C.Rule.Hi, U6 t653.1.C.Rule.Authority, I6 t653.1.C.Rule.Quota, .bool t653.1.C.On] sizeOf50 z (oC z (oC z (oC z (oC z (oC z (oC z (oC z (oC z (oC z (oC (one_of_sliceV hst.sv1) (oC z (oC z (oC z (oC (one_of_sliceV hst.sv2) (oC z (oC z (oC z (oC (one_of_sliceV hst.sv3) (oC (one_of_sliceV hst.sv4) (oC (one_of_sliceV hst.sv5) (oC (one_of_sliceV hst.sv6) (oC z (oC z (oC z (oC z (oC z (oC (one_of_sliceV hst.sv7) (oC (one_of_sliceV hst.sv8) (oC z (oC z (oC z (oC z (oC z (oC z (oC z (oC z (oC z (oC (one_of_sliceV hst.sv9) (oC (one_of_sliceV hst.sv10) (oC (one_of_sliceV hst.sv11) (oC (one_of_sliceV hst.sv12) (oC (one_of_sliceV hst.sv13) (oC z (oC z (oC z (oC (one_of_sliceV hst.sv14) (oC (one_of_sliceV hst.sv15) (oC z (oC (one_of_sliceV hst.sv16) (oC z (oC z (oC z (oC z (oC z (oC z (oC z (oC z oN))))))))))))))))))))))))))))))))))))))))))))))))))))))))) (by kernel_rfl)
 refine wl_unit z z (x_unit hr712) ?_
 refine wv (.int .i64 t653.2) z z z (wl_nil (tn (wp_seq ?_)))
 refine wp_region_St hst 20 [0, 1, 2, 3, 4, 5, 6, 7, 8, 9, 10, 11, 12, 13, 14, 15, 16, 17, 18, 19] [0, 1, 3, 0, 11, 27, 63, 0, 0, 411, 1023, 2047, 4095, 8191, 4095, 20479, 53247, 131071, 262143, 524287] [] z (by kernel_rfl) (by kernel_rfl) Try.mixed (by kernel_rfl) ?_
 refine wsr (.agg #[U1 t462.1.Kind, U1 t462.1.M.Kind, I6 t462.1.M.From, I6 t462.1.M.To, U6 t462.1.M.Term, U6 t462.1.M.Index, U6 t462.1.M.LogTerm, U6 t462.1.M.Commit, .bool t462.1.M.OK, v467, U6 t462.1.M.S.Index, U6 t462.1.M.S.Term, U6 t462.1.M.S.Voters, v469, U6 t462.1.H.ID.Session, U6 t462.1.H.ID.Seq, U6 t462.1.H.Epoch, v471, v473, v475, v477, U6 t462.1.ID.Session, U6 t462.1.ID.Seq, I6 t462.1.R.E, U6 t462.1.R.Epoch, U6 t462.1.R.Index, v479, v481, U1 t462.1.C.Kind, U6 t462.1.C.ID.Session, U6 t462.1.C.ID.Seq, U6 t462.1.C.Epoch, U6 t462.1.C.Index, I6 t462.1.C.E, U6 t462.1.C.Hold.ID.Session, U6 t462.1.C.Hold.ID.Seq, U6 t462.1.C.Hold.Epoch, v483, v485, v487, v489, v491, I6 t462.1.C.R.E, U6 t462.1.C.R.Epoch, U6 t462.1.C.R.Index, v493, v495, U6 t462.1.C.Shards, v497, U6 t462.1.C.Rule.ID, I6 t462.1.C.Rule.From, I6 t462.1.C.Rule.To, F6 t462.1.C.Rule.Lo, F6 t462.1.C.Rule.Hi, U6 t462.1.C.Rule.Authority, I6 t462.1.C.Rule.Quota, .bool t462.1.C.On]) 0 z z z (by kernel_rfl) (fun w hst => x_loadN (cs := [U1 t462.1.Kind, U1 t462.1.M.Kind, I6 t462.1.M.From, I6 t462.1.M.To, U6 t462.1.M.Term, U6 t462.1.M.Index, U6 t462.1.M.LogTerm, U6 t462.1.M.Commit, .bool t462.1.M.OK, v467, U6 t462.1.M.S.Index, U6 t462.1.M.S.Term, U6 t462.1.M.S.Voters, v469, U6 t462.1.H.ID.Session, U6 t462.1.H.ID.Seq, U6 t462.1.H.Epoch, v471, v473, v475, v477, U6 t462.1.ID.Session, U6 t462.1.ID.Seq, I6 t462.1.R.E, U6 t462.1.R.Epoch, U6 t462.1.R.Index, v479, v481, U1 t462.1.C.Kind, U6 t462.1.C.ID.Session, U6 t462.1.C.ID.Seq, U6 t462.1.C.Epoch, U6 t462.1.C.Index, I6 t462.1.C.E, U6 t462.1.C.Hold.ID.Session, U6 t462.1.C.Hold.ID.Seq, U6 t462.1.C.Hold.Epoch, v483, v485, v487, v489, v491, I6 t462.1.C.R.E, U6 t462.1.C.R.Epoch, U6 t462.1.C.R.Index, v493, v495, U6 t462.1.C.Shards, v497, U6 t462.1.C.Rule.ID, I6 t462.1.C.Rule.From, I6 t462.1.C.Rule.To, F6 t462.1.C.Rule.Lo, F6 t462.1.C.Rule.Hi, U6 t462.1.C.Rule.Authority, I6 t462.1.C.Rule.Quota, .bool t462.1.C.On]) z isAgg50 sizeOf50 (hst.bcs36 0 z)) (wsr (.agg #[U1 t528.1.Kind, U1 t528.1.M.Kind, I6 t528.1.M.From, I6 t528.1.M.To, U6 t528.1.M.Term, U6 t528.1.M.Index, U6 t528.1.M.LogTerm, U6 t528.1.M.Commit, .bool t528.1.M.OK, v533, U6 t528.1.M.S.Index, U6 t528.1.M.S.Term, U6 t528.1.M.S.Voters, v535, U6 t528.1.H.ID.Session, U6 t528.1.H.ID.Seq, U6 t528.1.H.Epoch, v537, v539, v541, v543, U6 t528.1.ID.Session, U6 t528.1.ID.Seq, I6 t528.1.R.E, U6 t528.1.R.Epoch, U6 t528.1.R.Index, v545, v547, U1 t528.1.C.Kind, U6 t528.1.C.ID.Session, U6 t528.1.C.ID.Seq, U6 t528.1.C.Epoch, U6 t528.1.C.Index, I6 t528.1.C.E, U6 t528.1.C.Hold.ID.Session, U6 t528.1.C.Hold.ID.Seq, U6 t528.1.C.Hold.Epoch, v549, v551, v553, v555, v557, I6 t528.1.C.R.E, U6 t528.1.C.R.Epoch, U6 t528.1.C.R.Index, v559, v561, U6 t528.1.C.Shards, v563, U6 t528.1.C.Rule.ID, I6 t528.1.C.Rule.From, I6 t528.1.C.Rule.To, F6 t528.1.C.Rule.Lo, F6 t528.1.C.Rule.Hi, U6 t528.1.C.Rule.Authority, I6 t528.1.C.Rule.Quota, .bool t528.1.C.On]) 3 z z z (by kernel_rfl) (fun w hst => x_loadN (cs := [U1 t528.1.Kind, U1 t528.1.M.Kind, I6 t528.1.M.From, I6 t528.1.M.To, U6 t528.1.M.Term, U6 t528.1.M.Index, U6 t528.1.M.LogTerm, U6 t528.1.M.Commit, .bool t528.1.M.OK, v533, U6 t528.1.M.S.Index, U6 t528.1.M.S.Term, U6 t528.1.M.S.Voters, v535, U6 t528.1.H.ID.Session, U6 t528.1.H.ID.Seq, U6 t528.1.H.Epoch, v537, v539, v541, v543, U6 t528.1.ID.Session, U6 t528.1.ID.Seq, I6 t528.1.R.E, U6 t528.1.R.Epoch, U6 t528.1.R.Index, v545, v547, U1 t528.1.C.Kind, U6 t528.1.C.ID.Session, U6 t528.1.C.ID.Seq, U6 t528.1.C.Epoch, U6 t528.1.C.Index, I6 t528.1.C.E, U6 t528.1.C.Hold.ID.Session, U6 t528.1.C.Hold.ID.Seq, U6 t528.1.C.Hold.Epoch, v549, v551, v553, v555, v557, I6 t528.1.C.R.E, U6 t528.1.C.R.Epoch, U6 t528.1.C.R.Index, v559, v561, U6 t528.1.C.Shards, v563, U6 t528.1.C.Rule.ID, I6 t528.1.C.Rule.From, I6 t528.1.C.Rule.To, F6 t528.1.C.Rule.Lo, F6 t528.1.C.Rule.Hi, U6 t528.1.C.Rule.Authority, I6 t528.1.C.Rule.Quota, .bool t528.1.C.On]) z isAgg50 sizeOf50 (hst.bcs18 0 z)) (wsr (.agg #[U1 t462.1.Kind, U1 t462.1.M.Kind, I6 t462.1.M.From, I6 t462.1.M.To, U6 t462.1.M.Term, U6 t462.1.M.Index, U6 t462.1.M.LogTerm, U6 t462.1.M.Commit, .bool t462.1.M.OK, v467, U6 t462.1.M.S.Index, U6 t462.1.M.S.Term, U6 t462.1.M.S.Voters, v469, U6 t462.1.H.ID.Session, U6 t462.1.H.ID.Seq, U6 t462.1.H.Epoch, v471, v473, v475, v477, U6 t462.1.ID.Session, U6 t462.1.ID.Seq, I6 t462.1.R.E, U6 t462.1.R.Epoch, U6 t462.1.R.Index, v479, v481, U1 t462.1.C.Kind, U6 t462.1.C.ID.Session, U6 t462.1.C.ID.Seq, U6 t462.1.C.Epoch, U6 t462.1.C.Index, I6 t462.1.C.E, U6 t462.1.C.Hold.ID.Session, U6 t462.1.C.Hold.ID.Seq, U6 t462.1.C.Hold.Epoch, v483, v485, v487, v489, v491, I6 t462.1.C.R.E, U6 t462.1.C.R.Epoch, U6 t462.1.C.R.Index, v493, v495, U6 t462.1.C.Shards, v497, U6 t462.1.C.Rule.ID, I6 t462.1.C.Rule.From, I6 t462.1.C.Rule.To, F6 t462.1.C.Rule.Lo, F6 t462.1.C.Rule.Hi, U6 t462.1.C.Rule.Authority, I6 t462.1.C.Rule.Quota, .bool t462.1.C.On]) 7 z z z (by kernel_rfl) (fun w hst => x_loadN (cs := [U1 t462.1.Kind, U1 t462.1.M.Kind, I6 t462.1.M.From, I6 t462.1.M.To, U6 t462.1.M.Term, U6 t462.1.M.Index, U6 t462.1.M.LogTerm, U6 t462.1.M.Commit, .bool t462.1.M.OK, v467, U6 t462.1.M.S.Index, U6 t462.1.M.S.Term, U6 t462.1.M.S.Voters, v469, U6 t462.1.H.ID.Session, U6 t462.1.H.ID.Seq, U6 t462.1.H.Epoch, v471, v473, v475, v477, U6 t462.1.ID.Session, U6 t462.1.ID.Seq, I6 t462.1.R.E, U6 t462.1.R.Epoch, U6 t462.1.R.Index, v479, v481, U1 t462.1.C.Kind, U6 t462.1.C.ID.Session, U6 t462.1.C.ID.Seq, U6 t462.1.C.Epoch, U6 t462.1.C.Index, I6 t462.1.C.E, U6 t462.1.C.Hold.ID.Session, U6 t462.1.C.Hold.ID.Seq, U6 t462.1.C.Hold.Epoch, v483, v485, v487, v489, v491, I6 t462.1.C.R.E, U6 t462.1.C.R.Epoch, U6 t462.1.C.R.Index, v493, v495, U6 t462.1.C.Shards, v497, U6 t462.1.C.Rule.ID, I6 t462.1.C.Rule.From, I6 t462.1.C.Rule.To, F6 t462.1.C.Rule.Lo, F6 t462.1.C.Rule.Hi, U6 t462.1.C.Rule.Authority, I6 t462.1.C.Rule.Quota, .bool t462.1.C.On]) z isAgg50 sizeOf50 (hst.bcs36 0 z)) (wsr (.agg #[U1 t528.1.Kind, U1 t528.1.M.Kind, I6 t528.1.M.From, I6 t528.1.M.To, U6 t528.1.M.Term, U6 t528.1.M.Index, U6 t528.1.M.LogTerm, U6 t528.1.M.Commit, .bool t528.1.M.OK, v533, U6 t528.1.M.S.Index, U6 t528.1.M.S.Term, U6 t528.1.M.S.Voters, v535, U6 t528.1.H.ID.Session, U6 t528.1.H.ID.Seq, U6 t528.1.H.Epoch, v537, v539, v541, v543, U6 t528.1.ID.Session, U6 t528.1.ID.Seq, I6 t528.1.R.E, U6 t528.1.R.Epoch, U6 t528.1.R.Index, v545, v547, U1 t528.1.C.Kind, U6 t528.1.C.ID.Session, U6 t528.1.C.ID.Seq, U6 t528.1.C.Epoch, U6 t528.1.C.Index, I6 t528.1.C.E, U6 t528.1.C.Hold.ID.Session, U6 t528.1.C.Hold.ID.Seq, U6 t528.1.C.Hold.Epoch, v549, v551, v553, v555, v557, I6 t528.1.C.R.E, U6 t528.1.C.R.Epoch, U6 t528.1.C.R.Index, v559, v561, U6 t528.1.C.Shards, v563, U6 t528.1.C.Rule.ID, I6 t528.1.C.Rule.From, I6 t528.1.C.Rule.To, F6 t528.1.C.Rule.Lo, F6 t528.1.C.Rule.Hi, U6 t528.1.C.Rule.Authority, I6 t528.1.C.Rule.Quota, .bool t528.1.C.On]) 8 z z z (by kernel_rfl) (fun w hst => x_loadN (cs := [U1 t528.1.Kind, U1 t528.1.M.Kind, I6 t528.1.M.From, I6 t528.1.M.To, U6 t528.1.M.Term, U6 t528.1.M.Index, U6 t528.1.M.LogTerm, U6 t528.1.M.Commit, .bool t528.1.M.OK, v533, U6 t528.1.M.S.Index, U6 t528.1.M.S.Term, U6 t528.1.M.S.Voters, v535, U6 t528.1.H.ID.Session, U6 t528.1.H.ID.Seq, U6 t528.1.H.Epoch, v537, v539, v541, v543, U6 t528.1.ID.Session, U6 t528.1.ID.Seq, I6 t528.1.R.E, U6 t528.1.R.Epoch, U6 t528.1.R.Index, v545, v547, U1 t528.1.C.Kind, U6 t528.1.C.ID.Session, U6 t528.1.C.ID.Seq, U6 t528.1.C.Epoch, U6 t528.1.C.Index, I6 t528.1.C.E, U6 t528.1.C.Hold.ID.Session, U6 t528.1.C.Hold.ID.Seq, U6 t528.1.C.Hold.Epoch, v549, v551, v553, v555, v557, I6 t528.1.C.R.E, U6 t528.1.C.R.Epoch, U6 t528.1.C.R.Index, v559, v561, U6 t528.1.C.Shards, v563, U6 t528.1.C.Rule.ID, I6 t528.1.C.Rule.From, I6 t528.1.C.Rule.To, F6 t528.1.C.Rule.Lo, F6 t528.1.C.Rule.Hi, U6 t528.1.C.Rule.Authority, I6 t528.1.C.Rule.Quota, .bool t528.1.C.On]) z isAgg50 sizeOf50 (hst.bcs18 0 z)) ?_)))
 refine ws_e1 1 (by kernel_rfl) ?_
 refine nxe [2, 4, 5, 6, 9, 10, 11, 12, 13, 14, 15, 16, 17, 18, 19] (by kernel_rfl) z z ?_
 clear hst
 intro w hst
 replace hst := hst.pull37
 obtain ⟨css713, hq714, hst⟩ := hst.own_open
 replace hst := hst.pull38
 obtain ⟨css715, hq716, hst⟩ := hst.own_open
 replace hst := hst.pull39
 obtain ⟨css717, hq718, hst⟩ := hst.own_open
 replace hst := hst.pull40
 obtain ⟨css719, hq720, hst⟩ := hst.own_open
 replace hst := hst.pull41
 obtain ⟨css721, hq722, hst⟩ := hst.own_open
 replace hst := hst.pull42
 obtain ⟨css723, hq724, hst⟩ := hst.own_open
 replace hst := hst.pull43
 obtain ⟨css725, hq726, hst⟩ := hst.own_open
 replace hst := hst.pull44
 obtain ⟨css727, hq728, hst⟩ := hst.own_open
 replace hst := hst.pull45
 obtain ⟨css729, hq730, hst⟩ := hst.own_open
 replace hst := hst.pull46
 obtain ⟨css731, hq732, hst⟩ := hst.own_open
 replace hst := hst.pull47
 obtain ⟨css733, hq734, hst⟩ := hst.own_open
 replace hst := hst.pull48
 obtain ⟨css735, hq736, hst⟩ := hst.own_open
 replace hst := hst.pull49
 obtain ⟨css737, hq738, hst⟩ := hst.own_open
 replace hst := hst.pull50
 obtain ⟨css739, hq740, hst⟩ := hst.own_open
 replace hst := hst.pull51
 obtain ⟨css741, hq742, hst⟩ := hst.own_open
 replace hst := hst.pull52
 obtain ⟨css743, hq744, hst⟩ := hst.own_open
 obtain ⟨t745, ht746, hm⟩ := bind_some hm
 refine wec call8 [.agg #[U1 t462.1.Kind, U1 t462.1.M.Kind, I6 t462.1.M.From, I6 t462.1.M.To, U6 t462.1.M.Term, U6 t462.1.M.Index, U6 t462.1.M.LogTerm, U6 t462.1.M.Commit, .bool t462.1.M.OK, v467, U6 t462.1.M.S.Index, U6 t462.1.M.S.Term, U6 t462.1.M.S.Voters, v469, U6 t462.1.H.ID.Session, U6 t462.1.H.ID.Seq, U6 t462.1.H.Epoch, v471, v473, v475, v477, U6 t462.1.ID.Session, U6 t462.1.ID.Seq, I6 t462.1.R.E, U6 t462.1.R.Epoch, U6 t462.1.R.Index, v479, v481, U1 t462.1.C.Kind, U6 t462.1.C.ID.Session, U6 t462.1.C.ID.Seq, U6 t462.1.C.Epoch, U6 t462.1.C.Index, I6 t462.1.C.E, U6 t462.1.C.Hold.ID.Session, U6 t462.1.C.Hold.ID.Seq, U6 t462.1.C.Hold.Epoch, v483, v485, v487, v489, v491, I6 t462.1.C.R.E, U6 t462.1.C.R.Epoch, U6 t462.1.C.R.Index, v493, v495, U6 t462.1.C.Shards, v497, U6 t462.1.C.Rule.ID, I6 t462.1.C.Rule.From, I6 t462.1.C.Rule.To, F6 t462.1.C.Rule.Lo, F6 t462.1.C.Rule.Hi, U6 t462.1.C.Rule.Authority, I6 t462.1.C.Rule.Quota, .bool t462.1.C.On]] z z ?_
 refine (mail_Encode_ref (hst.rdrow15 hq714) (hst.rdrow14 hq716) (hst.rdrow13 hq718) (hst.rdrow12 hq720) (hst.rdrow11 hq722) (hst.rdrow10 hq724) (hst.rdrow9 hq726) (hst.rdrow8 hq728) (hst.rdrow7 hq730) (hst.rdrow6 hq732) (hst.rdrow5 hq734) (hst.rdrow4 hq736) (hst.rdrow3 hq738) (hst.rdrow2 hq740) (hst.rdrow1 hq742) (hst.rdrow0 hq744) hst.to0 ht746).mono ?_
 rintro _ w747 ⟨v750, rfl, hst⟩
 refine ⟨_, z, ?_⟩
 replace hst := hst.of1.pull16.own_close hq714
 replace hst := hst.pull16.own_close hq716
 replace hst := hst.pull16.own_close hq718
 replace hst := hst.pull16.own_close hq720
 replace hst := hst.pull16.own_close hq722
 replace hst := hst.pull16.own_close hq724
 replace hst := hst.pull16.own_close hq726
 replace hst := hst.pull16.own_close hq728
 replace hst := hst.pull16.own_close hq730
 replace hst := hst.pull16.own_close hq732
 replace hst := hst.pull16.own_close hq734
 replace hst := hst.pull16.own_close hq736
 replace hst := hst.pull16.own_close hq738
 replace hst := hst.pull16.own_close hq740
 replace hst := hst.pull16.own_close hq742
 replace hst := hst.pull16.own_close hq744
 refine ws_next (pend' := [(8, .agg #[U1 t528.1.Kind, U1 t528.1.M.Kind, I6 t528.1.M.From, I6 t528.1.M.To, U6 t528.1.M.Term, U6 t528.1.M.Index, U6 t528.1.M.LogTerm, U6 t528.1.M.Commit, .bool t528.1.M.OK, v533, U6 t528.1.M.S.Index, U6 t528.1.M.S.Term, U6 t528.1.M.S.Voters, v535, U6 t528.1.H.ID.Session, U6 t528.1.H.ID.Seq, U6 t528.1.H.Epoch, v537, v539, v541, v543, U6 t528.1.ID.Session, U6 t528.1.ID.Seq, I6 t528.1.R.E, U6 t528.1.R.Epoch, U6 t528.1.R.Index, v545, v547, U1 t528.1.C.Kind, U6 t528.1.C.ID.Session, U6 t528.1.C.ID.Seq, U6 t528.1.C.Epoch, U6 t528.1.C.Index, I6 t528.1.C.E, U6 t528.1.C.Hold.ID.Session, U6 t528.1.C.Hold.ID.Seq, U6 t528.1.C.Hold.Epoch, v549, v551, v553, v555, v557, I6 t528.1.C.R.E, U6 t528.1.C.R.Epoch, U6 t528.1.C.R.Index, v559, v561, U6 t528.1.C.Shards, v563, U6 t528.1.C.Rule.ID, I6 t528.1.C.Rule.From, I6 t528.1.C.Rule.To, F6 t528.1.C.Rule.Lo, F6 t528.1.C.Rule.Hi, U6 t528.1.C.Rule.Authority, I6 t528.1.C.Rule.Quota, .bool t528.1.C.On]), (7, .agg #[U1 t462.1.Kind, U1 t462.1.M.Kind, I6 t462.1.M.From, I6 t462.1.M.To, U6 t462.1.M.Term, U6 t462.1.M.Index, U6 t462.1.M.LogTerm, U6 t462.1.M.Commit, .bool t462.1.M.OK, v467, U6 t462.1.M.S.Index, U6 t462.1.M.S.Term, U6 t462.1.M.S.Voters, v469, U6 t462.1.H.ID.Session, U6 t462.1.H.ID.Seq, U6 t462.1.H.Epoch, v471, v473, v475, v477, U6 t462.1.ID.Session, U6 t462.1.ID.Seq, I6 t462.1.R.E, U6 t462.1.R.Epoch, U6 t462.1.R.Index, v479, v481, U1 t462.1.C.Kind, U6 t462.1.C.ID.Session, U6 t462.1.C.ID.Seq, U6 t462.1.C.Epoch, U6 t462.1.C.Index, I6 t462.1.C.E, U6 t462.1.C.Hold.ID.Session, U6 t462.1.C.Hold.ID.Seq, U6 t462.1.C.Hold.Epoch, v483, v485, v487, v489, v491, I6 t462.1.C.R.E, U6 t462.1.C.R.Epoch, U6 t462.1.C.R.Index, v493, v495, U6 t462.1.C.Shards, v497, U6 t462.1.C.Rule.ID, I6 t462.1.C.Rule.From, I6 t462.1.C.Rule.To, F6 t462.1.C.Rule.Lo, F6 t462.1.C.Rule.Hi, U6 t462.1.C.Rule.Authority, I6 t462.1.C.Rule.Quota, .bool t462.1.C.On]), (3, .agg #[U1 t528.1.Kind, U1 t528.1.M.Kind, I6 t528.1.M.From, I6 t528.1.M.To, U6 t528.1.M.Term, U6 t528.1.M.Index, U6 t528.1.M.LogTerm, U6 t528.1.M.Commit, .bool t528.1.M.OK, v533, U6 t528.1.M.S.Index, U6 t528.1.M.S.Term, U6 t528.1.M.S.Voters, v535, U6 t528.1.H.ID.Session, U6 t528.1.H.ID.Seq, U6 t528.1.H.Epoch, v537, v539, v541, v543, U6 t528.1.ID.Session, U6 t528.1.ID.Seq, I6 t528.1.R.E, U6 t528.1.R.Epoch, U6 t528.1.R.Index, v545, v547, U1 t528.1.C.Kind, U6 t528.1.C.ID.Session, U6 t528.1.C.ID.Seq, U6 t528.1.C.Epoch, U6 t528.1.C.Index, I6 t528.1.C.E, U6 t528.1.C.Hold.ID.Session, U6 t528.1.C.Hold.ID.Seq, U6 t528.1.C.Hold.Epoch, v549, v551, v553, v555, v557, I6 t528.1.C.R.E, U6 t528.1.C.R.Epoch, U6 t528.1.C.R.Index, v559, v561, U6 t528.1.C.Shards, v563, U6 t528.1.C.Rule.ID, I6 t528.1.C.Rule.From, I6 t528.1.C.Rule.To, F6 t528.1.C.Rule.Lo, F6 t528.1.C.Rule.Hi, U6 t528.1.C.Rule.Authority, I6 t528.1.C.Rule.Quota, .bool t528.1.C.On])]) hst (by kernel_rfl) (pkr z z (fun w hst => x_loadN (cs := [U1 t528.1.Kind, U1 t528.1.M.Kind, I6 t528.1.M.From, I6 t528.1.M.To, U6 t528.1.M.Term, U6 t528.1.M.Index, U6 t528.1.M.LogTerm, U6 t528.1.M.Commit, .bool t528.1.M.OK, v533, U6 t528.1.M.S.Index, U6 t528.1.M.S.Term, U6 t528.1.M.S.Voters, v535, U6 t528.1.H.ID.Session, U6 t528.1.H.ID.Seq, U6 t528.1.H.Epoch, v537, v539, v541, v543, U6 t528.1.ID.Session, U6 t528.1.ID.Seq, I6 t528.1.R.E, U6 t528.1.R.Epoch, U6 t528.1.R.Index, v545, v547, U1 t528.1.C.Kind, U6 t528.1.C.ID.Session, U6 t528.1.C.ID.Seq, U6 t528.1.C.Epoch, U6 t528.1.C.Index, I6 t528.1.C.E, U6 t528.1.C.Hold.ID.Session, U6 t528.1.C.Hold.ID.Seq, U6 t528.1.C.Hold.Epoch, v549, v551, v553, v555, v557, I6 t528.1.C.R.E, U6 t528.1.C.R.Epoch, U6 t528.1.C.R.Index, v559, v561, U6 t528.1.C.Shards, v563, U6 t528.1.C.Rule.ID, I6 t528.1.C.Rule.From, I6 t528.1.C.Rule.To, F6 t528.1.C.Rule.Lo, F6 t528.1.C.Rule.Hi, U6 t528.1.C.Rule.Authority, I6 t528.1.C.Rule.Quota, .bool t528.1.C.On]) z isAgg50 sizeOf50 (hst.bcs35 0 z)) (pkr z z (fun w hst => x_loadN (cs := [U1 t462.1.Kind, U1 t462.1.M.Kind, I6 t462.1.M.From, I6 t462.1.M.To, U6 t462.1.M.Term, U6 t462.1.M.Index, U6 t462.1.M.LogTerm, U6 t462.1.M.Commit, .bool t462.1.M.OK, v467, U6 t462.1.M.S.Index, U6 t462.1.M.S.Term, U6 t462.1.M.S.Voters, v469, U6 t462.1.H.ID.Session, U6 t462.1.H.ID.Seq, U6 t462.1.H.Epoch, v471, v473, v475, v477, U6 t462.1.ID.Session, U6 t462.1.ID.Seq, I6 t462.1.R.E, U6 t462.1.R.Epoch, U6 t462.1.R.Index, v479, v481, U1 t462.1.C.Kind, U6 t462.1.C.ID.Session, U6 t462.1.C.ID.Seq, U6 t462.1.C.Epoch, U6 t462.1.C.Index, I6 t462.1.C.E, U6 t462.1.C.Hold.ID.Session, U6 t462.1.C.Hold.ID.Seq, U6 t462.1.C.Hold.Epoch, v483, v485, v487, v489, v491, I6 t462.1.C.R.E, U6 t462.1.C.R.Epoch, U6 t462.1.C.R.Index, v493, v495, U6 t462.1.C.Shards, v497, U6 t462.1.C.Rule.ID, I6 t462.1.C.Rule.From, I6 t462.1.C.Rule.To, F6 t462.1.C.Rule.Lo, F6 t462.1.C.Rule.Hi, U6 t462.1.C.Rule.Authority, I6 t462.1.C.Rule.Quota, .bool t462.1.C.On]) z isAgg50 sizeOf50 (hst.bcs53 0 z)) (pkr z z (fun w hst => x_loadN (cs := [U1 t528.1.Kind, U1 t528.1.M.Kind, I6 t528.1.M.From, I6 t528.1.M.To, U6 t528.1.M.Term, U6 t528.1.M.Index, U6 t528.1.M.LogTerm, U6 t528.1.M.Commit, .bool t528.1.M.OK, v533, U6 t528.1.M.S.Index, U6 t528.1.M.S.Term, U6 t528.1.M.S.Voters, v535, U6 t528.1.H.ID.Session, U6 t528.1.H.ID.Seq, U6 t528.1.H.Epoch, v537, v539, v541, v543, U6 t528.1.ID.Session, U6 t528.1.ID.Seq, I6 t528.1.R.E, U6 t528.1.R.Epoch, U6 t528.1.R.Index, v545, v547, U1 t528.1.C.Kind, U6 t528.1.C.ID.Session, U6 t528.1.C.ID.Seq, U6 t528.1.C.Epoch, U6 t528.1.C.Index, I6 t528.1.C.E, U6 t528.1.C.Hold.ID.Session, U6 t528.1.C.Hold.ID.Seq, U6 t528.1.C.Hold.Epoch, v549, v551, v553, v555, v557, I6 t528.1.C.R.E, U6 t528.1.C.R.Epoch, U6 t528.1.C.R.Index, v559, v561, U6 t528.1.C.Shards, v563, U6 t528.1.C.Rule.ID, I6 t528.1.C.Rule.From, I6 t528.1.C.Rule.To, F6 t528.1.C.Rule.Lo, F6 t528.1.C.Rule.Hi, U6 t528.1.C.Rule.Authority, I6 t528.1.C.Rule.Quota, .bool t528.1.C.On]) z isAgg50 sizeOf50 (hst.bcs35 0 z)) pk_nil))) ?_
 refine wsr (.string (toStr t745)) 2 z z z (by kernel_rfl) (fun w hst => x_tostr underlying22 underlying9 underlying5 z hst.src16) ?_
 refine ws_e1 4 (by kernel_rfl) ?_
 refine nxe [5, 6, 9, 10, 11, 12, 13, 14, 15, 16, 17, 18, 19] (by kernel_rfl) z z ?_
 clear hst
 intro w hst
 replace hst := hst.pull36
 obtain ⟨css752, hq753, hst⟩ := hst.own_open
 replace hst := hst.pull37
 obtain ⟨css754, hq755, hst⟩ := hst.own_open
 replace hst := hst.pull38
 obtain ⟨css756, hq757, hst⟩ := hst.own_open
 replace hst := hst.pull39
 obtain ⟨css758, hq759, hst⟩ := hst.own_open
 replace hst := hst.pull40
 obtain ⟨css760, hq761, hst⟩ := hst.own_open
 replace hst := hst.pull41
 obtain ⟨css762, hq763, hst⟩ := hst.own_open
 replace hst := hst.pull42
 obtain ⟨css764, hq765, hst⟩ := hst.own_open
 replace hst := hst.pull43
 obtain ⟨css766, hq767, hst⟩ := hst.own_open
 replace hst := hst.pull44
 obtain ⟨css768, hq769, hst⟩ := hst.own_open
 replace hst := hst.pull45
 obtain ⟨css770, hq771, hst⟩ := hst.own_open
 replace hst := hst.pull46
 obtain ⟨css772, hq773, hst⟩ := hst.own_open
 replace hst := hst.pull47
 obtain ⟨css774, hq775, hst⟩ := hst.own_open
 replace hst := hst.pull48
 obtain ⟨css776, hq777, hst⟩ := hst.own_open
 replace hst := hst.pull49
 obtain ⟨css778, hq779, hst⟩ := hst.own_open
 replace hst := hst.pull50
 obtain ⟨css780, hq781, hst⟩ := hst.own_open
 replace hst := hst.pull51
 obtain ⟨css782, hq783, hst⟩ := hst.own_open
 obtain ⟨t784, ht785, hm⟩ := bind_some hm
 refine wec call8 [.agg #[U1 t528.1.Kind, U1 t528.1.M.Kind, I6 t528.1.M.From, I6 t528.1.M.To, U6 t528.1.M.Term, U6 t528.1.M.Index, U6 t528.1.M.LogTerm, U6 t528.1.M.Commit, .bool t528.1.M.OK, v533, U6 t528.1.M.S.Index, U6 t528.1.M.S.Term, U6 t528.1.M.S.Voters, v535, U6 t528.1.H.ID.Session, U6 t528.1.H.ID.Seq, U6 t528.1.H.Epoch, v537, v539, v541, v543, U6 t528.1.ID.Session, U6 t528.1.ID.Seq, I6 t528.1.R.E, U6 t528.1.R.Epoch, U6 t528.1.R.Index, v545, v547, U1 t528.1.C.Kind, U6 t528.1.C.ID.Session, U6 t528.1.C.ID.Seq, U6 t528.1.C.Epoch, U6 t528.1.C.Index, I6 t528.1.C.E, U6 t528.1.C.Hold.ID.Session, U6 t528.1.C.Hold.ID.Seq, U6 t528.1.C.Hold.Epoch, v549, v551, v553, v555, v557, I6 t528.1.C.R.E, U6 t528.1.C.R.Epoch, U6 t528.1.C.R.Index, v559, v561, U6 t528.1.C.Shards, v563, U6 t528.1.C.Rule.ID, I6 t528.1.C.Rule.From, I6 t528.1.C.Rule.To, F6 t528.1.C.Rule.Lo, F6 t528.1.C.Rule.Hi, U6 t528.1.C.Rule.Authority, I6 t528.1.C.Rule.Quota, .bool t528.1.C.On]] z z ?_
 refine (mail_Encode_ref (hst.rdrow15 hq753) (hst.rdrow14 hq755) (hst.rdrow13 hq757) (hst.rdrow12 hq759) (hst.rdrow11 hq761) (hst.rdrow10 hq763) (hst.rdrow9 hq765) (hst.rdrow8 hq767) (hst.rdrow7 hq769) (hst.rdrow6 hq771) (hst.rdrow5 hq773) (hst.rdrow4 hq775) (hst.rdrow3 hq777) (hst.rdrow2 hq779) (hst.rdrow1 hq781) (hst.rdrow0 hq783) hst.to0 ht785).mono ?_
 rintro _ w786 ⟨v789, rfl, hst⟩
 refine ⟨_, z, ?_⟩
 replace hst := hst.of1.pull16.own_close hq753
 replace hst := hst.pull16.own_close hq755
 replace hst := hst.pull16.own_close hq757
 replace hst := hst.pull16.own_close hq759
 replace hst := hst.pull16.own_close hq761
 replace hst := hst.pull16.own_close hq763
 replace hst := hst.pull16.own_close hq765
 replace hst := hst.pull16.own_close hq767
 replace hst := hst.pull16.own_close hq769
 replace hst := hst.pull16.own_close hq771
 replace hst := hst.pull16.own_close hq773
 replace hst := hst.pull16.own_close hq775
 replace hst := hst.pull16.own_close hq777
 replace hst := hst.pull16.own_close hq779
 replace hst := hst.pull16.own_close hq781
 replace hst := hst.pull16.own_close hq783
 refine ws_next (pend' := [(2, .string (toStr t745)), (8, .agg #[U1 t528.1.Kind, U1 t528.1.M.Kind, I6 t528.1.M.From, I6 t528.1.M.To, U6 t528.1.M.Term, U6 t528.1.M.Index, U6 t528.1.M.LogTerm, U6 t528.1.M.Commit, .bool t528.1.M.OK, v533, U6 t528.1.M.S.Index, U6 t528.1.M.S.Term, U6 t528.1.M.S.Voters, v535, U6 t528.1.H.ID.Session, U6 t528.1.H.ID.Seq, U6 t528.1.H.Epoch, v537, v539, v541, v543, U6 t528.1.ID.Session, U6 t528.1.ID.Seq, I6 t528.1.R.E, U6 t528.1.R.Epoch, U6 t528.1.R.Index, v545, v547, U1 t528.1.C.Kind, U6 t528.1.C.ID.Session, U6 t528.1.C.ID.Seq, U6 t528.1.C.Epoch, U6 t528.1.C.Index, I6 t528.1.C.E, U6 t528.1.C.Hold.ID.Session, U6 t528.1.C.Hold.ID.Seq, U6 t528.1.C.Hold.Epoch, v549, v551, v553, v555, v557, I6 t528.1.C.R.E, U6 t528.1.C.R.Epoch, U6 t528.1.C.R.Index, v559, v561, U6 t528.1.C.Shards, v563, U6 t528.1.C.Rule.ID, I6 t528.1.C.Rule.From, I6 t528.1.C.Rule.To, F6 t528.1.C.Rule.Lo, F6 t528.1.C.Rule.Hi, U6 t528.1.C.Rule.Authority, I6 t528.1.C.Rule.Quota, .bool t528.1.C.On]), (7, .agg #[U1 t462.1.Kind, U1 t462.1.M.Kind, I6 t462.1.M.From, I6 t462.1.M.To, U6 t462.1.M.Term, U6 t462.1.M.Index, U6 t462.1.M.LogTerm, U6 t462.1.M.Commit, .bool t462.1.M.OK, v467, U6 t462.1.M.S.Index, U6 t462.1.M.S.Term, U6 t462.1.M.S.Voters, v469, U6 t462.1.H.ID.Session, U6 t462.1.H.ID.Seq, U6 t462.1.H.Epoch, v471, v473, v475, v477, U6 t462.1.ID.Session, U6 t462.1.ID.Seq, I6 t462.1.R.E, U6 t462.1.R.Epoch, U6 t462.1.R.Index, v479, v481, U1 t462.1.C.Kind, U6 t462.1.C.ID.Session, U6 t462.1.C.ID.Seq, U6 t462.1.C.Epoch, U6 t462.1.C.Index, I6 t462.1.C.E, U6 t462.1.C.Hold.ID.Session, U6 t462.1.C.Hold.ID.Seq, U6 t462.1.C.Hold.Epoch, v483, v485, v487, v489, v491, I6 t462.1.C.R.E, U6 t462.1.C.R.Epoch, U6 t462.1.C.R.Index, v493, v495, U6 t462.1.C.Shards, v497, U6 t462.1.C.Rule.ID, I6 t462.1.C.Rule.From, I6 t462.1.C.Rule.To, F6 t462.1.C.Rule.Lo, F6 t462.1.C.Rule.Hi, U6 t462.1.C.Rule.Authority, I6 t462.1.C.Rule.Quota, .bool t462.1.C.On])]) hst (by kernel_rfl) (pkr z z (fun w hst => x_tostr underlying22 underlying9 underlying5 z hst.src33) (pkr z z (fun w hst => x_loadN (cs := [U1 t528.1.Kind, U1 t528.1.M.Kind, I6 t528.1.M.From, I6 t528.1.M.To, U6 t528.1.M.Term, U6 t528.1.M.Index, U6 t528.1.M.LogTerm, U6 t528.1.M.Commit, .bool t528.1.M.OK, v533, U6 t528.1.M.S.Index, U6 t528.1.M.S.Term, U6 t528.1.M.S.Voters, v535, U6 t528.1.H.ID.Session, U6 t528.1.H.ID.Seq, U6 t528.1.H.Epoch, v537, v539, v541, v543, U6 t528.1.ID.Session, U6 t528.1.ID.Seq, I6 t528.1.R.E, U6 t528.1.R.Epoch, U6 t528.1.R.Index, v545, v547, U1 t528.1.C.Kind, U6 t528.1.C.ID.Session, U6 t528.1.C.ID.Seq, U6 t528.1.C.Epoch, U6 t528.1.C.Index, I6 t528.1.C.E, U6 t528.1.C.Hold.ID.Session, U6 t528.1.C.Hold.ID.Seq, U6 t528.1.C.Hold.Epoch, v549, v551, v553, v555, v557, I6 t528.1.C.R.E, U6 t528.1.C.R.Epoch, U6 t528.1.C.R.Index, v559, v561, U6 t528.1.C.Shards, v563, U6 t528.1.C.Rule.ID, I6 t528.1.C.Rule.From, I6 t528.1.C.Rule.To, F6 t528.1.C.Rule.Lo, F6 t528.1.C.Rule.Hi, U6 t528.1.C.Rule.Authority, I6 t528.1.C.Rule.Quota, .bool t528.1.C.On]) z isAgg50 sizeOf50 (hst.bcs52 0 z)) (pkr z z (fun w hst => x_loadN (cs := [U1 t462.1.Kind, U1 t462.1.M.Kind, I6 t462.1.M.From, I6 t462.1.M.To, U6 t462.1.M.Term, U6 t462.1.M.Index, U6 t462.1.M.LogTerm, U6 t462.1.M.Commit, .bool t462.1.M.OK, v467, U6 t462.1.M.S.Index, U6 t462.1.M.S.Term, U6 t462.1.M.S.Voters, v469, U6 t462.1.H.ID.Session, U6 t462.1.H.ID.Seq, U6 t462.1.H.Epoch, v471, v473, v475, v477, U6 t462.1.ID.Session, U6 t462.1.ID.Seq, I6 t462.1.R.E, U6 t462.1.R.Epoch, U6 t462.1.R.Index, v479, v481, U1 t462.1.C.Kind, U6 t462.1.C.ID.Session, U6 t462.1.C.ID.Seq, U6 t462.1.C.Epoch, U6 t462.1.C.Index, I6 t462.1.C.E, U6 t462.1.C.Hold.ID.Session, U6 t462.1.C.Hold.ID.Seq, U6 t462.1.C.Hold.Epoch, v483, v485, v487, v489, v491, I6 t462.1.C.R.E, U6 t462.1.C.R.Epoch, U6 t462.1.C.R.Index, v493, v495, U6 t462.1.C.Shards, v497, U6 t462.1.C.Rule.ID, I6 t462.1.C.Rule.From, I6 t462.1.C.Rule.To, F6 t462.1.C.Rule.Lo, F6 t462.1.C.Rule.Hi, U6 t462.1.C.Rule.Authority, I6 t462.1.C.Rule.Quota, .bool t462.1.C.On]) z isAgg50 sizeOf50 (hst.bcs54 0 z)) pk_nil))) ?_
 refine wsr (.string (toStr t784)) 5 z z z (by kernel_rfl) (fun w hst => x_tostr underlying22 underlying9 underlying5 z hst.src16) (wsr (.bool (sEq (toStr t745) (toStr t784))) 6 z z z (by kernel_rfl) (fun w hst => by kernel_rfl) ?_)
 refine ws_e1 9 (by kernel_rfl) ?_
 refine nxe [10, 11, 12, 13, 14, 15, 16, 17, 18, 19] (by kernel_rfl) z z ?_
 clear hst
 intro w hst
 replace hst := hst.pull32
 obtain ⟨css791, hq792, hst⟩ := hst.own_open
 replace hst := hst.pull32
 obtain ⟨css793, hq794, hst⟩ := hst.own_open
 replace hst := hst.pull32
 obtain ⟨css795, hq796, hst⟩ := hst.own_open
 replace hst := hst.pull32
 obtain ⟨css797, hq798, hst⟩ := hst.own_open
 replace hst := hst.pull32
 obtain ⟨css799, hq800, hst⟩ := hst.own_open
 replace hst := hst.pull32
 obtain ⟨css801, hq802, hst⟩ := hst.own_open
 replace hst := hst.pull32
 obtain ⟨css803, hq804, hst⟩ := hst.own_open
 replace hst := hst.pull32
 obtain ⟨css805, hq806, hst⟩ := hst.own_open
 replace hst := hst.pull32
 obtain ⟨css807, hq808, hst⟩ := hst.own_open
 replace hst := hst.pull32
 obtain ⟨css809, hq810, hst⟩ := hst.own_open
 replace hst := hst.pull32
 obtain ⟨css811, hq812, hst⟩ := hst.own_open
 replace hst := hst.pull32
 obtain ⟨css813, hq814, hst⟩ := hst.own_open
 replace hst := hst.pull32
 obtain ⟨css815, hq816, hst⟩ := hst.own_open
 replace hst := hst.pull32
 obtain ⟨css817, hq818, hst⟩ := hst.own_open
 replace hst := hst.pull32
 obtain ⟨css819, hq820, hst⟩ := hst.own_open
 replace hst := hst.pull32
 obtain ⟨css821, hq822, hst⟩ := hst.own_open
 replace hst := hst.pull31
 obtain ⟨css823, hq824, hst⟩ := hst.own_open
 replace hst := hst.pull31
 obtain ⟨css825, hq826, hst⟩ := hst.own_open
 replace hst := hst.pull31
 obtain ⟨css827, hq828, hst⟩ := hst.own_open
 replace hst := hst.pull31
 obtain ⟨css829, hq830, hst⟩ := hst.own_open
 replace hst := hst.pull31
 obtain ⟨css831, hq832, hst⟩ := hst.own_open
 replace hst := hst.pull31
 obtain ⟨css833, hq834, hst⟩ := hst.own_open
 replace hst := hst.pull31
 obtain ⟨css835, hq836, hst⟩ := hst.own_open
 replace hst := hst.pull31
 obtain ⟨css837, hq838, hst⟩ := hst.own_open
 replace hst := hst.pull31
 obtain ⟨css839, hq840, hst⟩ := hst.own_open
 replace hst := hst.pull31
 obtain ⟨css841, hq842, hst⟩ := hst.own_open
 replace hst := hst.pull31
 obtain ⟨css843, hq844, hst⟩ := hst.own_open
 replace hst := hst.pull31
 obtain ⟨css845, hq846, hst⟩ := hst.own_open
 replace hst := hst.pull31
 obtain ⟨css847, hq848, hst⟩ := hst.own_open
 replace hst := hst.pull31
 obtain ⟨css849, hq850, hst⟩ := hst.own_open
 replace hst := hst.pull31
 obtain ⟨css851, hq852, hst⟩ := hst.own_open
 replace hst := hst.pull31
 obtain ⟨css853, hq854, hst⟩ := hst.own_open
 obtain ⟨t855, ht856, hm⟩ := bind_some hm
 refine wec call11 [.agg #[U1 t462.1.Kind, U1 t462.1.M.Kind, I6 t462.1.M.From, I6 t462.1.M.To, U6 t462.1.M.Term, U6 t462.1.M.Index, U6 t462.1.M.LogTerm, U6 t462.1.M.Commit, .bool t462.1.M.OK, v467, U6 t462.1.M.S.Index, U6 t462.1.M.S.Term, U6 t462.1.M.S.Voters, v469, U6 t462.1.H.ID.Session, U6 t462.1.H.ID.Seq, U6 t462.1.H.Epoch, v471, v473, v475, v477, U6 t462.1.ID.Session, U6 t462.1.ID.Seq, I6 t462.1.R.E, U6 t462.1.R.Epoch, U6 t462.1.R.Index, v479, v481, U1 t462.1.C.Kind, U6 t462.1.C.ID.Session, U6 t462.1.C.ID.Seq, U6 t462.1.C.Epoch, U6 t462.1.C.Index, I6 t462.1.C.E, U6 t462.1.C.Hold.ID.Session, U6 t462.1.C.Hold.ID.Seq, U6 t462.1.C.Hold.Epoch, v483, v485, v487, v489, v491, I6 t462.1.C.R.E, U6 t462.1.C.R.Epoch, U6 t462.1.C.R.Index, v493, v495, U6 t462.1.C.Shards, v497, U6 t462.1.C.Rule.ID, I6 t462.1.C.Rule.From, I6 t462.1.C.Rule.To, F6 t462.1.C.Rule.Lo, F6 t462.1.C.Rule.Hi, U6 t462.1.C.Rule.Authority, I6 t462.1.C.Rule.Quota, .bool t462.1.C.On], .agg #[U1 t528.1.Kind, U1 t528.1.M.Kind, I6 t528.1.M.From, I6 t528.1.M.To, U6 t528.1.M.Term, U6 t528.1.M.Index, U6 t528.1.M.LogTerm, U6 t528.1.M.Commit, .bool t528.1.M.OK, v533, U6 t528.1.M.S.Index, U6 t528.1.M.S.Term, U6 t528.1.M.S.Voters, v535, U6 t528.1.H.ID.Session, U6 t528.1.H.ID.Seq, U6 t528.1.H.Epoch, v537, v539, v541, v543, U6 t528.1.ID.Session, U6 t528.1.ID.Seq, I6 t528.1.R.E, U6 t528.1.R.Epoch, U6 t528.1.R.Index, v545, v547, U1 t528.1.C.Kind, U6 t528.1.C.ID.Session, U6 t528.1.C.ID.Seq, U6 t528.1.C.Epoch, U6 t528.1.C.Index, I6 t528.1.C.E, U6 t528.1.C.Hold.ID.Session, U6 t528.1.C.Hold.ID.Seq, U6 t528.1.C.Hold.Epoch, v549, v551, v553, v555, v557, I6 t528.1.C.R.E, U6 t528.1.C.R.Epoch, U6 t528.1.C.R.Index, v559, v561, U6 t528.1.C.Shards, v563, U6 t528.1.C.Rule.ID, I6 t528.1.C.Rule.From, I6 t528.1.C.Rule.To, F6 t528.1.C.Rule.Lo, F6 t528.1.C.Rule.Hi, U6 t528.1.C.Rule.Authority, I6 t528.1.C.Rule.Quota, .bool t528.1.C.On]] z z ?_
 refine (law17_same_ref (hst.rdrow31 hq792) (hst.rdrow30 hq794) (hst.rdrow29 hq796) (hst.rdrow28 hq798) (hst.rdrow27 hq800) (hst.rdrow26 hq802) (hst.rdrow25 hq804) (hst.rdrow24 hq806) (hst.rdrow23 hq808) (hst.rdrow22 hq810) (hst.rdrow21 hq812) (hst.rdrow20 hq814) (hst.rdrow19 hq816) (hst.rdrow18 hq818) (hst.rdrow17 hq820) (hst.rdrow16 hq822) (hst.rdrow15 hq824) (hst.rdrow14 hq826) (hst.rdrow13 hq828) (hst.rdrow12 hq830) (hst.rdrow11 hq832) (hst.rdrow10 hq834) (hst.rdrow9 hq836) (hst.rdrow8 hq838) (hst.rdrow7 hq840) (hst.rdrow6 hq842) (hst.rdrow5 hq844) (hst.rdrow4 hq846) (hst.rdrow3 hq848) (hst.rdrow2 hq850) (hst.rdrow1 hq852) (hst.rdrow0 hq854) hst.to0 ht856).mono ?_
 rintro _ w857 ⟨rfl, hst⟩
 refine ⟨_, z, ?_⟩
 replace hst := hst.of0.pull31.own_close hq792
 replace hst := hst.pull31.own_close hq794
 replace hst := hst.pull31.own_close hq796
 replace hst := hst.pull31.own_close hq798
 replace hst := hst.pull31.own_close hq800
 replace hst := hst.pull31.own_close hq802
 replace hst := hst.pull31.own_close hq804
 replace hst := hst.pull31.own_close hq806
 replace hst := hst.pull31.own_close hq808
 replace hst := hst.pull31.own_close hq810
 replace hst := hst.pull31.own_close hq812
 replace hst := hst.pull31.own_close hq814
 replace hst := hst.pull31.own_close hq816
 replace hst := hst.pull31.own_close hq818
 replace hst := hst.pull31.own_close hq820
 replace hst := hst.pull31.own_close hq822
 replace hst := hst.pull31.own_close hq824
 replace hst := hst.pull31.own_close hq826
 replace hst := hst.pull31.own_close hq828
 replace hst := hst.pull31.own_close hq830
 replace hst := hst.pull31.own_close hq832
 replace hst := hst.pull31.own_close hq834
 replace hst := hst.pull31.own_close hq836
 replace hst := hst.pull31.own_close hq838
 replace hst := hst.pull31.own_close hq840
 replace hst := hst.pull31.own_close hq842
 replace hst := hst.pull31.own_close hq844
 replace hst := hst.pull31.own_close hq846
 replace hst := hst.pull31.own_close hq848
 replace hst := hst.pull31.own_close hq850
 replace hst := hst.pull31.own_close hq852
 replace hst := hst.pull31.own_close hq854
 refine ws_next (pend' := [(6, .bool (sEq (toStr t745) (toStr t784))), (5, .string (toStr t784)), (2, .string (toStr t745))]) hst (by kernel_rfl) (pkr z z (fun w hst => by kernel_rfl) (pkr z z (fun w hst => x_tostr underlying22 underlying9 underlying5 z hst.src32) (pkr z z (fun w hst => x_tostr underlying22 underlying9 underlying5 z hst.src33) pk_nil))) ?_
 refine wsr (.bool ((sEq (toStr t745) (toStr t784)) == t855)) 10 z z z (by kernel_rfl) (fun w hst => by kernel_rfl) (wsr (.bool ((sEq (toStr t745) (toStr t784)) == t855)) 11 z z z (by kernel_rfl) (fun w hst => z) ?_)
 refine bsplit ((sEq (toStr t745) (toStr t784)) == t855) (fun hc860 => ?_) (fun hc860 => ?_)
 {
 replace hm := bif_t hc860 hm
 refine ws_q (v := .int .i64 t653.2) 12 [13, 14, 15, 16, 17, 18, 19] (by kernel_rfl) z z (yi_run ((wanted_eq z z z (cvb hc860)).trans z) (fun w hst => z)) (ws_q (v := .bool (t653.2 == (0:Int))) 13 [14, 15, 16, 17, 18, 19] (by kernel_rfl) z z (yi_run ((wanted_eq z z z (cvb hc860)).trans z) (fun w hst => z)) (ws_q (v := Pt b604 0) 14 [15, 16, 17, 18, 19] (by kernel_rfl) z z (yi_run ((wanted_eq z z z (cvb hc860)).trans z) (fun w hst => x_field z underlying48 z sizeOf5 z)) (ws_q (v := .int .u8 (u8.wrap ((1:Int) + (Int.tmod a2 (7:Int))))) 15 [16, 17, 18, 19] (by kernel_rfl) z z (yi_run ((wanted_eq z z z (cvb hc860)).trans z) (fun w hst => x_load z isAgg5 (hst.bc51 z))) (ws_q (v := .bool ((u8.wrap ((1:Int) + (Int.tmod a2 (7:Int)))) == (3:Int))) 16 [17, 18, 19] (by kernel_rfl) z z (yi_run ((wanted_eq z z z (cvb hc860)).trans z) (fun w hst => z)) (ws_q (v := .bool ((t653.2 == (0:Int)) == ((u8.wrap ((1:Int) + (Int.tmod a2 (7:Int)))) == (3:Int)))) 17 [18, 19] (by kernel_rfl) z z (yi_run ((wanted_eq z z z (cvb hc860)).trans z) (fun w hst => by kernel_rfl)) (wsr (.bool ((t653.2 == (0:Int)) == ((u8.wrap ((1:Int) + (Int.tmod a2 (7:Int)))) == (3:Int)))) 18 z z z (by kernel_rfl) (fun w hst => x_pick_t hc860 z z) (wsr (.bool ((t653.2 == (0:Int)) == ((u8.wrap ((1:Int) + (Int.tmod a2 (7:Int)))) == (3:Int)))) 19 z z z (by kernel_rfl) (fun w hst => z) ?_)))))))
 refine ws_nil ?_
 intro w hst
 refine tn (wp_ret ?_)
 obtain rfl := some_inj hm
 refine post_ret (vs := [.bool ((t653.2 == (0:Int)) == ((u8.wrap ((1:Int) + (Int.tmod a2 (7:Int)))) == (3:Int)))]) results5 (rvs_cons (rv_tmp z) rvs_nil) ?_
 exact ⟨_, z, hI0, hst.keep0⟩
}
 {
 replace hm := bif_f hc860 hm
 refine ws_q (v := undef) 12 [13, 14, 15, 16, 17, 18, 19] (by kernel_rfl) z z (yi_off ((wanted_eq z z z (cvb hc860)).trans z)) (ws_q (v := undef) 13 [14, 15, 16, 17, 18, 19] (by kernel_rfl) z z (yi_off ((wanted_eq z z z (cvb hc860)).trans z)) (ws_q (v := undef) 14 [15, 16, 17, 18, 19] (by kernel_rfl) z z (yi_off ((wanted_eq z z z (cvb hc860)).trans z)) (ws_q (v := undef) 15 [16, 17, 18, 19] (by kernel_rfl) z z (yi_off ((wanted_eq z z z (cvb hc860)).trans z)) (ws_q (v := undef) 16 [17, 18, 19] (by kernel_rfl) z z (yi_off ((wanted_eq z z z (cvb hc860)).trans z)) (ws_q (v := undef) 17 [18, 19] (by kernel_rfl) z z (yi_off ((wanted_eq z z z (cvb hc860)).trans z)) (wsr (.bool false) 18 z z z (by kernel_rfl) (fun w hst => x_pick_f hc860 z z) (wsr (.bool false) 19 z z z (by kernel_rfl) (fun w hst => z) ?_)))))))
 refine ws_nil ?_
 intro w hst
 refine tn (wp_ret ?_)
 obtain rfl := some_inj hm
 refine post_ret (vs := [.bool false]) results5 (rvs_cons (rv_tmp z) rvs_nil) ?_
 exact ⟨_, z, hI0, hst.keep0⟩
}
}
}
}
}

end Go.Proofs.Ytldfdainhdiffaa
