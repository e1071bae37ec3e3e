/- The Go functions refine their models, part 2. -/
import Derived.Test.YtldfdainhdiffaaMailBytesR1
set_option linter.unusedVariables false
set_option linter.unusedSimpArgs false
set_option maxRecDepth 100000
set_option maxHeartbeats 4000000
namespace Go.Proofs.Ytldfdainhdiffaa
open Go Go.V
open _root_.Go.Proofs.Try IntKind
attribute [local irreducible] wpList Code.wp wpQuiet Calls bodyPost Oper.wp wpS Nx PendOK YieldsIn
theorem octet_Reader_Num_ref {w0 w : World} {I : HL} {R : SP} {a0 : octet_Reader} {p0 : Value} {a1 : Int}  (hst : St w0 w I [at_octet_Reader p0 a0] R) {r : (Int × octet_Reader)} (hm : octet_Reader_Num a0 a1 = some r) :
  Calls prog 13 #[p0, I6 a1] w fun e w' => e = .returned (.int .u64 r.1) ∧ St w0 w' I [at_octet_Reader p0 r.2] R := by {
 unfold octet_Reader_Num at hm
 refine calls_start (args := [p0, I6 a1]) func13 z ntmps13 (Nat.le_of_ble_eq_true z) ?_
 refine wp_seq (wrl (wv (.int .u64 (0:Int)) z z z (wl_nil (tn (wp_seq (wp_seq (wrl (wv (p0) z z z ?_))))))))
 obtain ⟨b245, v246, ⟨rfl, f248⟩, hst'⟩ := at_octet_Reader_open hst
 clear hst
 have hst := hst'
 clear hst'
 refine wv (.bool false) z z (by kernel_rfl) (wv (.bool false) z z z (wv (Pt b245 0) ((wanted_eq z z z z).trans z) z z (wv (Pt b245 0) ((wanted_eq z z z z).trans z) z z (wv (Pt b245 1) ((wanted_eq z z z z).trans z) z (x_field z underlying99 z sizeOf4 z) (wv (.bool a0.bad) ((wanted_eq z z z z).trans z) z (x_load z isAgg4 (hst.bc0 z)) (wv (.bool a0.bad) z z (x_pick_f z z z) (wv (.bool a0.bad) z z z ?_)))))))
 refine bsplit a0.bad (fun hc249 => ?_) (fun hc249 => ?_)
 {
 replace hm := bif_t hc249 hm
 refine wo hc249 z z z z z z (wo hc249 z z z z z z (wv (.bool true) z z (x_pick_t hc249 z z) (wv (.bool true) z z z (wz z z z z z z (wz z z z z z z (wz z z z z z z (wz z z z z z z (wz z z z z z z (wz z z z z z z (wz z z z z z z (wv (.bool true) z z (x_pick_t z z z) (wl_nil (tn ?_)))))))))))))
 refine wp_ift z ?_
 refine wp_seq (wrl (wv (Pt b245 0) z z z ?_))
 replace hst := at_octet_Reader_close (pv := Pt b245 0) (x := a0) hst ⟨z, f248⟩
 obtain ⟨t250, ht251, hm⟩ := bind_some hm
 refine wc call44 [Pt b245 0] z z z ?_
 refine (octet_Reader_spoil_ref hst.to1 ht251).mono ?_
 rintro _ w252 ⟨rfl, hst⟩
 refine ⟨_, z, ?_⟩
 replace hst := hst.of1
 refine wl_nil (tn (wp_seq (wrl (wv (.int .u64 (0:Int)) z z z (wl_nil (tn (wp_ret (then_r ?_))))))))
 obtain rfl := some_inj hm
 refine post_ret (vs := [Zu]) results13 (rvs_cons (rv_tmp z) rvs_nil) ?_
 exact ⟨z, hst.keep1⟩
}
 {
 replace hm := bif_f hc249 hm
 refine wv (.int .i64 a1) ((wanted_eq z z z (cvb hc249)).trans z) z z (wv (.bool (decide (a1 < (0:Int)))) ((wanted_eq z z z (cvb hc249)).trans z) z z (wv (.bool (decide (a1 < (0:Int)))) z z (x_pick_f hc249 z z) (wv (.bool (decide (a1 < (0:Int)))) z z z ?_)))
 refine bsplit (decide (a1 < (0:Int))) (fun hc255 => ?_) (fun hc255 => ?_)
 {
 replace hm := bif_t hc255 hm
 refine wo hc255 z z z z z z (wo hc255 z z z z z z (wo hc255 z z z z z z (wo hc255 z z z z z z (wo hc255 z z z z z z (wo hc255 z z z z z z (wo hc255 z z z z z z (wv (.bool true) z z (x_pick_t hc255 z z) (wl_nil (tn ?_)))))))))
 refine wp_ift z ?_
 refine wp_seq (wrl (wv (Pt b245 0) z z z ?_))
 replace hst := at_octet_Reader_close (pv := Pt b245 0) (x := a0) hst ⟨z, f248⟩
 obtain ⟨t256, ht257, hm⟩ := bind_some hm
 refine wc call44 [Pt b245 0] z z z ?_
 refine (octet_Reader_spoil_ref hst.to1 ht257).mono ?_
 rintro _ w258 ⟨rfl, hst⟩
 refine ⟨_, z, ?_⟩
 replace hst := hst.of1
 refine wl_nil (tn (wp_seq (wrl (wv (.int .u64 (0:Int)) z z z (wl_nil (tn (wp_ret (then_r ?_))))))))
 obtain rfl := some_inj hm
 refine post_ret (vs := [Zu]) results13 (rvs_cons (rv_tmp z) rvs_nil) ?_
 exact ⟨z, hst.keep1⟩
}
 {
 replace hm := bif_f hc255 hm
 refine wv (Pt b245 0) ((wanted_eq z z z (cvb hc255)).trans z) z z (wv (Pt b245 0) ((wanted_eq z z z (cvb hc255)).trans z) z z (wv (Pt b245 0) ((wanted_eq z z z (cvb hc255)).trans z) z (x_field z underlying99 z sizeOf22 z) (wv (v246) ((wanted_eq z z z (cvb hc255)).trans z) z (x_load z isAgg22 (hst.bc0 z)) (wv (.int .i64 ((a0.p).length : Int)) ((wanted_eq z z z (cvb hc255)).trans z) z (x_len z underlying22 (ro_sliceV f248)) (wv (.int .i64 a1) ((wanted_eq z z z (cvb hc255)).trans z) z z (wv (.bool (decide (((a0.p).length : Int) < a1))) ((wanted_eq z z z (cvb hc255)).trans z) z z (wv (.bool (decide (((a0.p).length : Int) < a1))) z z (x_pick_f hc255 z z) (wl_nil (tn ?_)))))))))
 refine bsplit (decide (((a0.p).length : Int) < a1)) (fun hc261 => ?_) (fun hc261 => ?_)
 {
 replace hm := bif_t hc261 hm
 refine wp_ift (cvb hc261) ?_
 refine wp_seq (wrl (wv (Pt b245 0) z z z ?_))
 replace hst := at_octet_Reader_close (pv := Pt b245 0) (x := a0) hst ⟨z, f248⟩
 obtain ⟨t262, ht263, hm⟩ := bind_some hm
 refine wc call44 [Pt b245 0] z z z ?_
 refine (octet_Reader_spoil_ref hst.to1 ht263).mono ?_
 rintro _ w264 ⟨rfl, hst⟩
 refine ⟨_, z, ?_⟩
 replace hst := hst.of1
 refine wl_nil (tn (wp_seq (wrl (wv (.int .u64 (0:Int)) z z z (wl_nil (tn (wp_ret (then_r ?_))))))))
 obtain rfl := some_inj hm
 refine post_ret (vs := [Zu]) results13 (rvs_cons (rv_tmp z) rvs_nil) ?_
 exact ⟨z, hst.keep1⟩
}
 {
 replace hm := bif_f hc261 hm
 refine wp_iff (cvb hc261) ?_
 refine wp_skip (tn (wp_seq (wrl ?_)))
 refine wv (.int .u64 (0:Int)) z z z (wl_nil (tn ?_))
 obtain ⟨y318, hm, hx319⟩ := bind_some hm
 refine wp_cut (fun a w => ∃ (z315 : Int) (σ316 : Nat → Value), (octet_Reader_Num_j0 a0 a1) z315 = some r ∧ a = Fr 59 (upd (upd (upd σ316 0 (Pt b245 0)) 1 (.int .i64 a1)) 5 (.int .u64 z315)) ∧ St w0 w I [at_octet_Reader (Pt b245 0) a0] R) ?_ ?_
 {
 refine wp_seq (wrl (wv (.int .i64 a1) z z z (wv (.int .i64 (if (8:Int) < a1 then (8:Int) else a1)) z z (by kernel_rfl) (wv (.int .i64 (0:Int)) z z z (wl_nil (tn (wp_block ?_)))))))
 replace hst := at_octet_Reader_close (pv := Pt b245 0) (x := a0) hst ⟨z, f248⟩
 obtain ⟨n296, hm⟩ := loopO_some hm
 refine wp_loop_n (fun n a w => ∃ (z293 : Int) (z294 : Int) (σ295 : Nat → Value), loopN (octet_Reader_Num_l1 a1 a0) n (z293, z294) = some y318 ∧ a = Fr 59 (upd (upd (upd (upd (upd σ295 0 (Pt b245 0)) 1 (.int .i64 a1)) 5 (.int .u64 z294)) 31 (.int .i64 (if (8:Int) < a1 then (8:Int) else a1))) 32 (.int .i64 z293)) ∧ St w0 w I [at_octet_Reader (Pt b245 0) a0] R) n296 ⟨(0:Int), (0:Int), _, hm, (fu 0 (Pt b245 0) z (fu 1 (.int .i64 a1) z (fu 5 (.int .u64 (0:Int)) z (fu 31 (.int .i64 (if (8:Int) < a1 then (8:Int) else a1)) z (fu 32 (.int .i64 (0:Int)) z z))))), hst⟩ ?_
 rintro n302 _ w297 ⟨z293, z294, σ295, hm, rfl, hst⟩
 obtain ⟨n299, y300, rfl, hm, hx301⟩ := loopN_some hm
 dsimp only [octet_Reader_Num_l1] at hm
 refine wp_seq (wrl (wv (.bool (decide (z293 < (if (8:Int) < a1 then (8:Int) else a1)))) z z z (wl_nil (tn (wp_seq ?_)))))
 refine bsplit (decide (z293 < (if (8:Int) < a1 then (8:Int) else a1))) (fun hc303 => ?_) (fun hc303 => ?_)
 {
 replace hm := bif_t hc303 hm
 refine wp_ift (cvb hc303) ?_
 refine wp_skip (tn (wp_seq (wp_block (wp_seq (wrl ?_)))))
 refine wv (.int .i64 z293) z z z (wv (.int .i64 z293) z z z (wl_nil (tn (wrl (wv (.int .u64 z294) z z z (wv (Pt b245 0) z z z ?_))))))
 obtain ⟨b304, v305, ⟨e308, f307⟩, hst'⟩ := at_octet_Reader_open hst
 clear hst
 have e308 := ptr_inj e308
 subst e308
 have hst := hst'
 clear hst'
 refine wv (Pt b245 0) z z z (wv (Pt b245 0) z z (x_field z underlying99 z sizeOf22 z) (wv (v305) z z (x_load z isAgg22 (hst.bc0 z)) (wv (.int .i64 z293) z z z ?_)))
 obtain ⟨x309, hx310, hm⟩ := bind_some hm
 obtain ⟨h311, h312, hi313⟩ := geto_some hx310
 refine wv (.pointer (some (eAddr v305 (z293.toNat * 1 + 0)))) z z (x_index z z underlying22 sizeOf5 (ro_sliceV f307) h311 h312) (wv (.int .u8 x309) z z (x_load z isAgg5 (ro_load f307 hst hi313 (by rintro _ rfl; rfl))) (wv (.int .u64 (u64.wrap x309)) z z (by kernel_rfl) (wv (.int .i64 z293) z z z (wv (.int .i64 (i64.wrap ((8:Int) * z293))) z z z ?_))))
 obtain ⟨hg314, hm⟩ := gd_some hm
 refine wv (.int .u64 (iShl .u64 (u64.wrap x309) (i64.wrap ((8:Int) * z293)))) z z (x_shl (of_decide_eq_true hg314) z z) (wv (.int .u64 (bOr .u64 z294 (iShl .u64 (u64.wrap x309) (i64.wrap ((8:Int) * z293))))) z z z (wv (.int .u64 (bOr .u64 z294 (iShl .u64 (u64.wrap x309) (i64.wrap ((8:Int) * z293))))) z z z (wl_nil (blk_n (tn (wrl (wv (.int .i64 (i64.wrap (z293 + (1:Int)))) z z z (wv (.int .i64 (i64.wrap (z293 + (1:Int)))) z z z (wl_nil (tn ?_))))))))))
 replace hst := at_octet_Reader_close (pv := Pt b245 0) (x := a0) hst ⟨z, f307⟩
 replace hst := hst.keep1
 obtain rfl := some_inj hm
 exact ⟨_, Nat.lt_succ_self _, (i64.wrap (z293 + (1:Int))), (bOr .u64 z294 (iShl .u64 (u64.wrap x309) (i64.wrap ((8:Int) * z293)))), _, hx301, (fu 0 (Pt b245 0) z (fu 1 (.int .i64 a1) z (fu 5 (.int .u64 (bOr .u64 z294 (iShl .u64 (u64.wrap x309) (i64.wrap ((8:Int) * z293))))) z (fu 31 (.int .i64 (if (8:Int) < a1 then (8:Int) else a1)) z (fu 32 (.int .i64 (i64.wrap (z293 + (1:Int)))) z z))))), hst⟩
}
 {
 replace hm := bif_f hc303 hm
 refine wp_iff (cvb hc303) ?_
 refine wp_exit (then_x (then_x ?_))
 replace hm := inr_up hm hx301
 refine blk_x (tn ?_)
 replace hst := hst.keep1
 obtain rfl := some_inj hm
 exact ⟨z294, _, hx319, (fu 0 (Pt b245 0) z (fu 1 (.int .i64 a1) z (fu 5 (.int .u64 z294) z z))), hst⟩
}
}
 {
 clear hst
 rintro _ w320 ⟨z315, σ316, hm, rfl, hst⟩
 dsimp only [octet_Reader_Num_j0] at hm
 refine wp_seq (wrl (wv (Pt b245 0) z z z (wv (Pt b245 0) z z z ?_)))
 obtain ⟨b321, v322, ⟨e325, f324⟩, hst'⟩ := at_octet_Reader_open hst
 clear hst
 have e325 := ptr_inj e325
 subst e325
 have hst := hst'
 clear hst'
 refine wv (Pt b245 0) z z z (wv (Pt b245 0) z z (x_field z underlying99 z sizeOf22 z) (wv (v322) z z (x_load z isAgg22 (hst.bc0 z)) (wv (.int .i64 a1) z z z ?_)))
 obtain ⟨hg326, hm⟩ := gd_some hm
 obtain ⟨h327, h328, h329⟩ := fits_of hg326
 have f331 : Ro (tyInt .u8) I (slcV 1 v322 a1.toNat (((a0.p).length : Nat) : Int).toNat) (subs a0.p a1 (((a0.p).length : Nat) : Int)) := Ro.part f324 h328 h329 h327
 refine wv ((slcV 1 v322 a1.toNat (((a0.p).length : Nat) : Int).toNat)) z z (x_slice underlying22 sizeOf5 z (ro_sliceV f324) h327 h328 h329 .i64 .i64 (.inl z) (.inr ⟨z, z⟩)) (wv (Pt b245 0) z z z (wv (Pt b245 0) z z (x_field z underlying99 z sizeOf22 z) ?_))
 obtain ⟨w332, hr333, hst⟩ := hst.boxStore1 (P := prog) (t := 22) (cs' := [(slcV 1 v322 a1.toNat (((a0.p).length : Nat) : Int).toNat), .bool a0.bad]) 0 (slcV 1 v322 a1.toNat (((a0.p).length : Nat) : Int).toNat) (one_of_sliceV (ro_sliceV f331)) sizeOf22 z z
 refine wl_unit z z (x_unit hr333) ?_
 refine wl_nil (tn (wp_seq (wrl (wv (.int .u64 z315) z z z (wv (.int .u64 z315) z z z (wl_nil (tn (wp_ret ?_))))))))
 replace hst := at_octet_Reader_close (pv := Pt b245 0) (x := ({ p := (subs a0.p a1 (((a0.p).length : Nat) : Int)), bad := a0.bad } : octet_Reader)) hst ⟨z, f331⟩
 obtain rfl := some_inj hm
 refine post_ret (vs := [U6 z315]) results13 (rvs_cons (rv_tmp z) rvs_nil) ?_
 exact ⟨z, hst.keep1⟩
}
}
}
}
}

theorem octet_Reader_Flag_ref {w0 w : World} {I : HL} {R : SP} {a0 : octet_Reader} {p0 : Value}  (hst : St w0 w I [at_octet_Reader p0 a0] R) {r : (Bool × octet_Reader)} (hm : octet_Reader_Flag a0 = some r) :
  Calls prog 45 #[p0] w fun e w' => e = .returned (.bool r.1) ∧ St w0 w' I [at_octet_Reader p0 r.2] R := by {
 unfold octet_Reader_Flag at hm
 refine calls_start (args := [p0]) func45 z ntmps45 (Nat.le_of_ble_eq_true z) ?_
 refine wp_seq (wrl (wv (.bool false) z z z (wl_nil (tn (wp_seq (wrl (wv (p0) z z z ?_)))))))
 obtain ⟨t255, ht256, hm⟩ := bind_some hm
 refine wc call13 [p0, I6 (1:Int)] z z z ?_
 refine (octet_Reader_Num_ref hst.to1 ht256).mono ?_
 rintro _ w257 ⟨rfl, hst⟩
 refine ⟨_, z, ?_⟩
 replace hst := hst.of1
 refine wv (.int .u64 t255.1) z z z (wl_nil (tn (wp_seq (wp_seq (wrl (wv (.int .u64 t255.1) z z z (wv (.bool (decide (t255.1 > (1:Int)))) z z z (wl_nil (tn ?_)))))))))
 refine bsplit (decide (t255.1 > (1:Int))) (fun hc260 => ?_) (fun hc260 => ?_)
 {
 replace hm := bif_t hc260 hm
 refine wp_ift (cvb hc260) ?_
 refine wp_seq (wrl (wv (p0) z z z ?_))
 obtain ⟨t261, ht262, hm⟩ := bind_some hm
 refine wc call44 [p0] z z z ?_
 refine (octet_Reader_spoil_ref hst.to1 ht262).mono ?_
 rintro _ w263 ⟨rfl, hst⟩
 refine ⟨_, z, ?_⟩
 replace hst := hst.of1
 refine wl_nil (tn (wp_seq (wrl (wv (.bool false) z z z (wl_nil (tn (wp_ret (then_r ?_))))))))
 obtain rfl := some_inj hm
 refine post_ret (vs := [.bool false]) results45 (rvs_cons (rv_tmp z) rvs_nil) ?_
 exact ⟨z, hst.keep1⟩
}
 {
 replace hm := bif_f hc260 hm
 refine wp_iff (cvb hc260) ?_
 refine wp_skip (tn (wp_seq (wrl ?_)))
 refine wv (.int .u64 t255.1) z z z (wv (.bool (t255.1 == (1:Int))) z z z (wv (.bool (t255.1 == (1:Int))) z z z (wl_nil (tn (wp_ret ?_)))))
 obtain rfl := some_inj hm
 refine post_ret (vs := [.bool (t255.1 == (1:Int))]) results45 (rvs_cons (rv_tmp z) rvs_nil) ?_
 exact ⟨z, hst.keep1⟩
}
}

theorem octet_Reader_Bad_ref {w0 w : World} {I : HL} {R : SP} {a0 : octet_Reader} {p0 : Value}  (hst : St w0 w I [at_octet_Reader p0 a0] R) {r : (Bool)} (hm : octet_Reader_Bad a0 = some r) :
  Calls prog 52 #[p0] w fun e w' => e = .returned (.bool r) ∧ St w0 w' I [at_octet_Reader p0 a0] R := by {
 unfold octet_Reader_Bad at hm
 refine calls_start (args := [p0]) func52 z ntmps52 (Nat.le_of_ble_eq_true z) ?_
 refine wp_seq (wrl (wv (.bool false) z z z (wl_nil (tn (wp_seq (wrl (wv (p0) z z z ?_)))))))
 obtain ⟨b265, v266, ⟨rfl, f268⟩, hst'⟩ := at_octet_Reader_open hst
 clear hst
 have hst := hst'
 clear hst'
 refine wv (.bool false) z z (by kernel_rfl) (wv (.bool false) z z z (wv (Pt b265 0) ((wanted_eq z z z z).trans z) z z (wv (Pt b265 0) ((wanted_eq z z z z).trans z) z z (wv (Pt b265 1) ((wanted_eq z z z z).trans z) z (x_field z underlying99 z sizeOf4 z) (wv (.bool a0.bad) ((wanted_eq z z z z).trans z) z (x_load z isAgg4 (hst.bc0 z)) (wv (.bool a0.bad) z z (x_pick_f z z z) (wv (.bool a0.bad) z z z (wl_nil (tn (wp_ret ?_))))))))))
 replace hst := at_octet_Reader_close (pv := Pt b265 0) (x := a0) hst ⟨z, f268⟩
 obtain rfl := some_inj hm
 refine post_ret (vs := [.bool a0.bad]) results52 (rvs_cons (rv_tmp z) rvs_nil) ?_
 exact ⟨z, hst.keep1⟩
}

theorem octet_Reader_Left_ref {w0 w : World} {I : HL} {R : SP} {a0 : octet_Reader} {p0 : Value}  (hst : St w0 w I [at_octet_Reader p0 a0] R) {r : (Int)} (hm : octet_Reader_Left a0 = some r) :
  Calls prog 47 #[p0] w fun e w' => e = .returned (.int .i64 r) ∧ St w0 w' I [at_octet_Reader p0 a0] R := by {
 unfold octet_Reader_Left at hm
 refine calls_start (args := [p0]) func47 z ntmps47 (Nat.le_of_ble_eq_true z) ?_
 refine wp_seq (wrl (wv (.int .i64 (0:Int)) z z z (wl_nil (tn (wp_seq (wp_seq (wrl (wv (p0) z z z ?_))))))))
 obtain ⟨t270, ht271, hm⟩ := bind_some hm
 refine wc call52 [p0] z z z ?_
 refine (octet_Reader_Bad_ref hst.to1 ht271).mono ?_
 rintro _ w272 ⟨rfl, hst⟩
 refine ⟨_, z, ?_⟩
 replace hst := hst.of1
 refine wl_nil (tn ?_)
 refine bsplit t270 (fun hc275 => ?_) (fun hc275 => ?_)
 {
 replace hm := bif_t hc275 hm
 refine wp_ift (cvb hc275) ?_
 refine wp_seq (wrl (wv (.int .i64 (0:Int)) z z z (wl_nil (tn (wp_ret (then_r ?_))))))
 obtain rfl := some_inj hm
 refine post_ret (vs := [Zi]) results47 (rvs_cons (rv_tmp z) rvs_nil) ?_
 exact ⟨z, hst.keep1⟩
}
 {
 replace hm := bif_f hc275 hm
 refine wp_iff (cvb hc275) ?_
 refine wp_skip (tn (wp_seq (wrl ?_)))
 refine wv (p0) z z z ?_
 obtain ⟨b276, v277, ⟨rfl, f279⟩, hst'⟩ := at_octet_Reader_open hst
 clear hst
 have hst := hst'
 clear hst'
 refine wv (Pt b276 0) z z z (wv (Pt b276 0) z z (x_field z underlying99 z sizeOf22 z) (wv (v277) z z (x_load z isAgg22 (hst.bc0 z)) (wv (.int .i64 ((a0.p).length : Int)) z z (x_len z underlying22 (ro_sliceV f279)) (wv (.int .i64 ((a0.p).length : Int)) z z z (wl_nil (tn (wp_ret ?_)))))))
 replace hst := at_octet_Reader_close (pv := Pt b276 0) (x := a0) hst ⟨z, f279⟩
 obtain rfl := some_inj hm
 refine post_ret (vs := [I6 ((a0.p).length : Int)]) results47 (rvs_cons (rv_tmp z) rvs_nil) ?_
 exact ⟨z, hst.keep1⟩
}
}

theorem octet_Reader_Count_ref {w0 w : World} {I : HL} {R : SP} {a0 : octet_Reader} {p0 : Value} {a1 : Int}  (hst : St w0 w I [at_octet_Reader p0 a0] R) {r : (Int × octet_Reader)} (hm : octet_Reader_Count a0 a1 = some r) :
  Calls prog 46 #[p0, I6 a1] w fun e w' => e = .returned (.int .i64 r.1) ∧ St w0 w' I [at_octet_Reader p0 r.2] R := by {
 unfold octet_Reader_Count at hm
 refine calls_start (args := [p0, I6 a1]) func46 z ntmps46 (Nat.le_of_ble_eq_true z) ?_
 refine wp_seq (wrl (wv (.int .i64 (0:Int)) z z z (wl_nil (tn (wp_seq (wrl (wv (p0) z z z ?_)))))))
 obtain ⟨t282, ht283, hm⟩ := bind_some hm
 refine wc call13 [p0, I6 (4:Int)] z z z ?_
 refine (octet_Reader_Num_ref hst.to1 ht283).mono ?_
 rintro _ w284 ⟨rfl, hst⟩
 refine ⟨_, z, ?_⟩
 replace hst := hst.of1
 refine wv (.int .u64 t282.1) z z z (wl_nil (tn (wp_seq (wp_seq (wrl (wv (.int .i64 a1) z z z (wv (.bool (decide (a1 < (0:Int)))) z z z (wv (.bool (decide (a1 < (0:Int)))) z z z ?_))))))))
 refine bsplit (decide (a1 < (0:Int))) (fun hc287 => ?_) (fun hc287 => ?_)
 {
 replace hm := bif_t hc287 hm
 refine wo hc287 z z z z z z (wo hc287 z z z z z z (wo hc287 z z z z z z (wo hc287 z z z z z z (wv (.bool true) z z (x_pick_t hc287 z z) (wl_nil (tn ?_))))))
 refine wp_ift z ?_
 refine wp_seq (wrl (wv (p0) z z z ?_))
 obtain ⟨t288, ht289, hm⟩ := bind_some hm
 refine wc call44 [p0] z z z ?_
 refine (octet_Reader_spoil_ref hst.to1 ht289).mono ?_
 rintro _ w290 ⟨rfl, hst⟩
 refine ⟨_, z, ?_⟩
 replace hst := hst.of1
 refine wl_nil (tn (wp_seq (wrl (wv (.int .i64 (0:Int)) z z z (wl_nil (tn (wp_ret (then_r ?_))))))))
 obtain rfl := some_inj hm
 refine post_ret (vs := [Zi]) results46 (rvs_cons (rv_tmp z) rvs_nil) ?_
 exact ⟨z, hst.keep1⟩
}
 {
 replace hm := bif_f hc287 hm
 refine wv (.int .u64 t282.1) ((wanted_eq z z z (cvb hc287)).trans z) z z (wv (.int .i64 a1) ((wanted_eq z z z (cvb hc287)).trans z) z z (wv (.int .u64 (u64.wrap a1)) ((wanted_eq z z z (cvb hc287)).trans z) z (by kernel_rfl) (wv (.bool (decide (t282.1 > (u64.wrap a1)))) ((wanted_eq z z z (cvb hc287)).trans z) z z (wv (.bool (decide (t282.1 > (u64.wrap a1)))) z z (x_pick_f hc287 z z) (wl_nil (tn ?_))))))
 refine bsplit (decide (t282.1 > (u64.wrap a1))) (fun hc293 => ?_) (fun hc293 => ?_)
 {
 replace hm := bif_t hc293 hm
 refine wp_ift (cvb hc293) ?_
 refine wp_seq (wrl (wv (p0) z z z ?_))
 obtain ⟨t294, ht295, hm⟩ := bind_some hm
 refine wc call44 [p0] z z z ?_
 refine (octet_Reader_spoil_ref hst.to1 ht295).mono ?_
 rintro _ w296 ⟨rfl, hst⟩
 refine ⟨_, z, ?_⟩
 replace hst := hst.of1
 refine wl_nil (tn (wp_seq (wrl (wv (.int .i64 (0:Int)) z z z (wl_nil (tn (wp_ret (then_r ?_))))))))
 obtain rfl := some_inj hm
 refine post_ret (vs := [Zi]) results46 (rvs_cons (rv_tmp z) rvs_nil) ?_
 exact ⟨z, hst.keep1⟩
}
 {
 replace hm := bif_f hc293 hm
 refine wp_iff (cvb hc293) ?_
 refine wp_skip (tn (wp_seq (wrl ?_)))
 refine wv (.int .u64 t282.1) z z z (wv (.int .i64 (i64.wrap t282.1)) z z (by kernel_rfl) (wv (.int .i64 (i64.wrap t282.1)) z z z (wl_nil (tn (wp_ret ?_)))))
 obtain rfl := some_inj hm
 refine post_ret (vs := [I6 (i64.wrap t282.1)]) results46 (rvs_cons (rv_tmp z) rvs_nil) ?_
 exact ⟨z, hst.keep1⟩
}
}
}

theorem octet_Reader_Bytes_ref {w0 w : World} {I : HL} {R : SP} {a0 : octet_Reader} {p0 : Value} {a1 : Int}  (hst : St w0 w I [at_octet_Reader p0 a0] R) {r : ((List Int) × octet_Reader)} (hm : octet_Reader_Bytes a0 a1 = some r) :
  Calls prog 18 #[p0, I6 a1] w fun e w' => ∃ (q0_0 : Value), e = .returned (q0_0) ∧ St w0 w' I [ownS (tyInt .u8) q0_0 r.1, at_octet_Reader p0 r.2] R := by {
 unfold octet_Reader_Bytes at hm
 refine calls_start (args := [p0, I6 a1]) func18 z ntmps18 (Nat.le_of_ble_eq_true z) ?_
 refine wp_seq (wrl (wv ((.slice none 0 0)) z z z (wl_nil (tn (wp_seq (wrl (wv (p0) z z z ?_)))))))
 obtain ⟨t329, ht330, hm⟩ := bind_some hm
 refine wc call13 [p0, I6 (4:Int)] z z z ?_
 refine (octet_Reader_Num_ref hst.to1 ht330).mono ?_
 rintro _ w331 ⟨rfl, hst⟩
 refine ⟨_, z, ?_⟩
 replace hst := hst.of1
 refine wv (.int .u64 t329.1) z z z (wl_nil (tn (wp_seq (wp_seq (wrl (wv (p0) z z z ?_))))))
 obtain ⟨b334, v335, ⟨rfl, f337⟩, hst'⟩ := at_octet_Reader_open hst
 clear hst
 have hst := hst'
 clear hst'
 refine wv (.bool false) z z (by kernel_rfl) (wv (.bool false) z z z (wv (Pt b334 0) ((wanted_eq z z z z).trans z) z z (wv (Pt b334 0) ((wanted_eq z z z z).trans z) z z (wv (Pt b334 1) ((wanted_eq z z z z).trans z) z (x_field z underlying99 z sizeOf4 z) (wv (.bool t329.2.bad) ((wanted_eq z z z z).trans z) z (x_load z isAgg4 (hst.bc0 z)) (wv (.bool t329.2.bad) z z (x_pick_f z z z) (wv (.bool t329.2.bad) z z z ?_)))))))
 refine bsplit t329.2.bad (fun hc338 => ?_) (fun hc338 => ?_)
 {
 replace hm := bif_t hc338 hm
 refine wo hc338 z z z z z z (wo hc338 z z z z z z (wv (.bool true) z z (x_pick_t hc338 z z) (wv (.bool true) z z z (wz z z z z z z (wz z z z z z z (wz z z z z z z (wz z z z z z z (wv (.bool true) z z (x_pick_t z z z) (wv (.bool true) z z z (wz z z z z z z (wz z z z z z z (wz z z z z z z ?_))))))))))))
 refine wz z z z z z z (wz z z z z z z (wz z z z z z z (wz z z z z z z (wz z z z z z z (wv (.bool true) z z (x_pick_t z z z) (wl_nil (tn ?_)))))))
 refine wp_ift z ?_
 refine wp_seq (wrl (wv (Pt b334 0) z z z ?_))
 replace hst := at_octet_Reader_close (pv := Pt b334 0) (x := t329.2) hst ⟨z, f337⟩
 obtain ⟨t339, ht340, hm⟩ := bind_some hm
 refine wc call44 [Pt b334 0] z z z ?_
 refine (octet_Reader_spoil_ref hst.to1 ht340).mono ?_
 rintro _ w341 ⟨rfl, hst⟩
 refine ⟨_, z, ?_⟩
 replace hst := hst.of1
 refine wl_nil (tn (wp_seq (wrl (wv ((.slice none 0 0)) z z z (wl_nil (tn (wp_ret (then_r ?_))))))))
 replace hst := hst.own_nil (tyInt .u8)
 obtain rfl := some_inj hm
 refine post_ret (vs := [Zs]) results18 (rvs_cons (rv_tmp z) rvs_nil) ?_
 replace hst := hst.pull1.pull1
 exact ⟨(.slice none 0 0), z, hst.keep2⟩
}
 {
 replace hm := bif_f hc338 hm
 refine wv (.int .i64 a1) ((wanted_eq z z z (cvb hc338)).trans z) z z (wv (.bool (decide (a1 < (0:Int)))) ((wanted_eq z z z (cvb hc338)).trans z) z z (wv (.bool (decide (a1 < (0:Int)))) z z (x_pick_f hc338 z z) (wv (.bool (decide (a1 < (0:Int)))) z z z ?_)))
 refine bsplit (decide (a1 < (0:Int))) (fun hc345 => ?_) (fun hc345 => ?_)
 {
 replace hm := bif_t hc345 hm
 refine wo hc345 z z z z z z (wo hc345 z z z z z z (wo hc345 z z z z z z (wo hc345 z z z z z z (wv (.bool true) z z (x_pick_t hc345 z z) (wv (.bool true) z z z (wz z z z z z z (wz z z z z z z (wz z z z z z z (wz z z z z z z (wz z z z z z z (wz z z z z z z (wz z z z z z z ?_))))))))))))
 refine wz z z z z z z (wv (.bool true) z z (x_pick_t z z z) (wl_nil (tn ?_)))
 refine wp_ift z ?_
 refine wp_seq (wrl (wv (Pt b334 0) z z z ?_))
 replace hst := at_octet_Reader_close (pv := Pt b334 0) (x := t329.2) hst ⟨z, f337⟩
 obtain ⟨t346, ht347, hm⟩ := bind_some hm
 refine wc call44 [Pt b334 0] z z z ?_
 refine (octet_Reader_spoil_ref hst.to1 ht347).mono ?_
 rintro _ w348 ⟨rfl, hst⟩
 refine ⟨_, z, ?_⟩
 replace hst := hst.of1
 refine wl_nil (tn (wp_seq (wrl (wv ((.slice none 0 0)) z z z (wl_nil (tn (wp_ret (then_r ?_))))))))
 replace hst := hst.own_nil (tyInt .u8)
 obtain rfl := some_inj hm
 refine post_ret (vs := [Zs]) results18 (rvs_cons (rv_tmp z) rvs_nil) ?_
 replace hst := hst.pull1.pull1
 exact ⟨(.slice none 0 0), z, hst.keep2⟩
}
 {
 replace hm := bif_f hc345 hm
 refine wv (.int .u64 t329.1) ((wanted_eq z z z (cvb hc345)).trans z) z z (wv (.int .i64 a1) ((wanted_eq z z z (cvb hc345)).trans z) z z (wv (.int .u64 (u64.wrap a1)) ((wanted_eq z z z (cvb hc345)).trans z) z (by kernel_rfl) (wv (.bool (decide (t329.1 > (u64.wrap a1)))) ((wanted_eq z z z (cvb hc345)).trans z) z z (wv (.bool (decide (t329.1 > (u64.wrap a1)))) z z (x_pick_f hc345 z z) (wv (.bool (decide (t329.1 > (u64.wrap a1)))) z z z ?_)))))
 refine bsplit (decide (t329.1 > (u64.wrap a1))) (fun hc352 => ?_) (fun hc352 => ?_)
 {
 replace hm := bif_t hc352 hm
 refine wo hc352 z z z z z z (wo hc352 z z z z z z (wo hc352 z z z z z z (wo hc352 z z z z z z (wo hc352 z z z z z z (wo hc352 z z z z z z (wo hc352 z z z z z z (wo hc352 z z z z z z (wv (.bool true) z z (x_pick_t hc352 z z) (wl_nil (tn ?_))))))))))
 refine wp_ift z ?_
 refine wp_seq (wrl (wv (Pt b334 0) z z z ?_))
 replace hst := at_octet_Reader_close (pv := Pt b334 0) (x := t329.2) hst ⟨z, f337⟩
 obtain ⟨t353, ht354, hm⟩ := bind_some hm
 refine wc call44 [Pt b334 0] z z z ?_
 refine (octet_Reader_spoil_ref hst.to1 ht354).mono ?_
 rintro _ w355 ⟨rfl, hst⟩
 refine ⟨_, z, ?_⟩
 replace hst := hst.of1
 refine wl_nil (tn (wp_seq (wrl (wv ((.slice none 0 0)) z z z (wl_nil (tn (wp_ret (then_r ?_))))))))
 replace hst := hst.own_nil (tyInt .u8)
 obtain rfl := some_inj hm
 refine post_ret (vs := [Zs]) results18 (rvs_cons (rv_tmp z) rvs_nil) ?_
 replace hst := hst.pull1.pull1
 exact ⟨(.slice none 0 0), z, hst.keep2⟩
}
 {
 replace hm := bif_f hc352 hm
 refine wv (.int .u64 t329.1) ((wanted_eq z z z (cvb hc352)).trans z) z z (wv (Pt b334 0) ((wanted_eq z z z (cvb hc352)).trans z) z z (wv (Pt b334 0) ((wanted_eq z z z (cvb hc352)).trans z) z z (wv (Pt b334 0) ((wanted_eq z z z (cvb hc352)).trans z) z (x_field z underlying99 z sizeOf22 z) (wv (v335) ((wanted_eq z z z (cvb hc352)).trans z) z (x_load z isAgg22 (hst.bc0 z)) (wv (.int .i64 ((t329.2.p).length : Int)) ((wanted_eq z z z (cvb hc352)).trans z) z (x_len z underlying22 (ro_sliceV f337)) (wv (.int .u64 (u64.wrap ((t329.2.p).length : Int))) ((wanted_eq z z z (cvb hc352)).trans z) z (by kernel_rfl) (wv (.bool (decide (t329.1 > (u64.wrap ((t329.2.p).length : Int))))) ((wanted_eq z z z (cvb hc352)).trans z) z z (wv (.bool (decide (t329.1 > (u64.wrap ((t329.2.p).length : Int))))) z z (x_pick_f hc352 z z) (wl_nil (tn ?_))))))))))
 refine bsplit (decide (t329.1 > (u64.wrap ((t329.2.p).length : Int)))) (fun hc359 => ?_) (fun hc359 => ?_)
 {
 replace hm := bif_t hc359 hm
 refine wp_ift (cvb hc359) ?_
 refine wp_seq (wrl (wv (Pt b334 0) z z z ?_))
 replace hst := at_octet_Reader_close (pv := Pt b334 0) (x := t329.2) hst ⟨z, f337⟩
 obtain ⟨t360, ht361, hm⟩ := bind_some hm
 refine wc call44 [Pt b334 0] z z z ?_
 refine (octet_Reader_spoil_ref hst.to1 ht361).mono ?_
 rintro _ w362 ⟨rfl, hst⟩
 refine ⟨_, z, ?_⟩
 replace hst := hst.of1
 refine wl_nil (tn (wp_seq (wrl (wv ((.slice none 0 0)) z z z (wl_nil (tn (wp_ret (then_r ?_))))))))
 replace hst := hst.own_nil (tyInt .u8)
 obtain rfl := some_inj hm
 refine post_ret (vs := [Zs]) results18 (rvs_cons (rv_tmp z) rvs_nil) ?_
 replace hst := hst.pull1.pull1
 exact ⟨(.slice none 0 0), z, hst.keep2⟩
}
 {
 replace hm := bif_f hc359 hm
 refine wp_iff (cvb hc359) ?_
 refine wp_skip (tn (wp_seq (wrl ?_)))
 refine wv (Pt b334 0) z z z (wv (Pt b334 0) z z z (wv (Pt b334 0) z z (x_field z underlying99 z sizeOf22 z) (wv (v335) z z (x_load z isAgg22 (hst.bc0 z)) (wv (.int .u64 t329.1) z z z ?_))))
 obtain ⟨hg366, hm⟩ := gd_some hm
 obtain ⟨h367, h368, h369⟩ := fits_of hg366
 have f371 : Ro (tyInt .u8) I (slcV 1 v335 (0:Int).toNat t329.1.toNat) (subs t329.2.p (0:Int) t329.1) := Ro.part f337 h368 h369 h367
 refine wv ((slcV 1 v335 (0:Int).toNat t329.1.toNat)) z z (x_slice underlying22 sizeOf5 z (ro_sliceV f337) h367 h368 h369 .i64 .u64 (.inr ⟨z, z⟩) (.inl z)) ?_
 replace hst := hst.own_nil (tyInt .u8)
 obtain ⟨hg373, hm⟩ := gd_some hm
 obtain ⟨v374, w375, hr376, hst⟩ := run_append elem_22 underlying22 hst (Src.of_ro hst f371) (room_of hg373 z) 22
 replace hst := St.nil_app hst
 refine wl_run (v := v374) (w' := w375) z z (x_append z z hr376) ?_
 refine wv (v374) z z z (wl_nil (tn (wp_seq (wrl (wv (Pt b334 0) z z z (wv (Pt b334 0) z z z (wv (Pt b334 0) z z z (wv (Pt b334 0) z z (x_field z underlying99 z sizeOf22 z) (wv (v335) z z (x_load z isAgg22 (hst.bc1 z)) (wv (.int .u64 t329.1) z z z ?_))))))))))
 obtain ⟨hg377, hm⟩ := gd_some hm
 obtain ⟨h378, h379, h380⟩ := fits_of hg377
 have f382 : Ro (tyInt .u8) I (slcV 1 v335 t329.1.toNat (((t329.2.p).length : Nat) : Int).toNat) (subs t329.2.p t329.1 (((t329.2.p).length : Nat) : Int)) := Ro.part f337 h379 h380 h378
 refine wv ((slcV 1 v335 t329.1.toNat (((t329.2.p).length : Nat) : Int).toNat)) z z (x_slice underlying22 sizeOf5 z (ro_sliceV f337) h378 h379 h380 .u64 .i64 (.inl z) (.inr ⟨z, z⟩)) (wv (Pt b334 0) z z z (wv (Pt b334 0) z z (x_field z underlying99 z sizeOf22 z) ?_))
 replace hst := hst.pull1
 obtain ⟨w383, hr384, hst⟩ := hst.boxStore1 (P := prog) (t := 22) (cs' := [(slcV 1 v335 t329.1.toNat (((t329.2.p).length : Nat) : Int).toNat), .bool t329.2.bad]) 0 (slcV 1 v335 t329.1.toNat (((t329.2.p).length : Nat) : Int).toNat) (one_of_sliceV (ro_sliceV f382)) sizeOf22 z z
 refine wl_unit z z (x_unit hr384) ?_
 refine wl_nil (tn (wp_seq (wrl (wv (v374) z z z (wv (v374) z z z (wl_nil (tn (wp_ret ?_))))))))
 replace hst := at_octet_Reader_close (pv := Pt b334 0) (x := ({ p := (subs t329.2.p t329.1 (((t329.2.p).length : Nat) : Int)), bad := t329.2.bad } : octet_Reader)) hst ⟨z, f382⟩
 obtain rfl := some_inj hm
 refine post_ret (vs := [v374]) results18 (rvs_cons (rv_tmp z) rvs_nil) ?_
 replace hst := hst.pull1
 exact ⟨v374, z, hst.keep2⟩
}
}
}
}
}

theorem mail_readMessage_ref {w0 w : World} {I : HL} {R : SP} {a0 : octet_Reader} {p0 : Value}  (hst : St w0 w I [at_octet_Reader p0 a0] R) {r : (api_Message × octet_Reader)} (hm : mail_readMessage a0 = some r) :
  Calls prog 14 #[p0] w fun e w' => ∃ (I' : HL) (q0_0 : Value) (q0_1 : Value), e = .returned (.agg #[U1 r.1.Kind, I6 r.1.From, I6 r.1.To, U6 r.1.Term, U6 r.1.Index, U6 r.1.LogTerm, U6 r.1.Commit, .bool r.1.OK, q0_0, U6 r.1.S.Index, U6 r.1.S.Term, U6 r.1.S.Voters, q0_1]) ∧ I.le I' ∧ St w0 w' I' [ownS ty_api_Entry q0_0 r.1.Entries, ownS (tyInt .u8) q0_1 r.1.S.Data, at_octet_Reader p0 r.2] R := by {
 unfold mail_readMessage at hm
 refine calls_start (args := [p0]) func14 z ntmps14 (Nat.le_of_ble_eq_true z) ?_
 have hI0 := HL.le.refl I
 refine wp_seq (wrl ?_)
 obtain ⟨b484, w485, ew486, eb487, hst⟩ := hst.box [Zb, Zi, Zi, Zu, Zu, Zu, Zu, .bool false, Zs, Zu, Zu, Zu, Zs] 30
 refine wl_run (v := Pt b484 0) (w' := w485) z z (x_al (by kernel_rfl) ew486 eb487) ?_
 refine wl_nil (tn (wp_seq (wrl (wv (p0) z z z ?_))))
 replace hst := hst.pull1
 obtain ⟨t489, ht490, hm⟩ := bind_some hm
 refine wc call13 [p0, I6 (1:Int)] z z z ?_
 refine (octet_Reader_Num_ref hst.to1 ht490).mono ?_
 rintro _ w491 ⟨rfl, hst⟩
 refine ⟨_, z, ?_⟩
 replace hst := hst.of1
 refine wv (.int .u8 (u8.wrap t489.1)) z z (by kernel_rfl) (wv (p0) z z z ?_)
 obtain ⟨t494, ht495, hm⟩ := bind_some hm
 refine wc call13 [p0, I6 (1:Int)] z z z ?_
 refine (octet_Reader_Num_ref hst.to1 ht495).mono ?_
 rintro _ w496 ⟨rfl, hst⟩
 refine ⟨_, z, ?_⟩
 replace hst := hst.of1
 refine wv (.int .i64 (i64.wrap t494.1)) z z (by kernel_rfl) (wv (p0) z z z ?_)
 obtain ⟨t499, ht500, hm⟩ := bind_some hm
 refine wc call13 [p0, I6 (1:Int)] z z z ?_
 refine (octet_Reader_Num_ref hst.to1 ht500).mono ?_
 rintro _ w501 ⟨rfl, hst⟩
 refine ⟨_, z, ?_⟩
 replace hst := hst.of1
 refine wv (.int .i64 (i64.wrap t499.1)) z z (by kernel_rfl) (wv (p0) z z z ?_)
 obtain ⟨t504, ht505, hm⟩ := bind_some hm
 refine wc call13 [p0, I6 (8:Int)] z z z ?_
 refine (octet_Reader_Num_ref hst.to1 ht505).mono ?_
 rintro _ w506 ⟨rfl, hst⟩
 refine ⟨_, z, ?_⟩
 replace hst := hst.of1
 refine wv (p0) z z z ?_
 obtain ⟨t509, ht510, hm⟩ := bind_some hm
 refine wc call13 [p0, I6 (8:Int)] z z z ?_
 refine (octet_Reader_Num_ref hst.to1 ht510).mono ?_
 rintro _ w511 ⟨rfl, hst⟩
 refine ⟨_, z, ?_⟩
 replace hst := hst.of1
 refine wv (p0) z z z ?_
 obtain ⟨t514, ht515, hm⟩ := bind_some hm
 refine wc call13 [p0, I6 (8:Int)] z z z ?_
 refine (octet_Reader_Num_ref hst.to1 ht515).mono ?_
 rintro _ w516 ⟨rfl, hst⟩
 refine ⟨_, z, ?_⟩
 replace hst := hst.of1
 refine wv (p0) z z z ?_
 obtain ⟨t519, ht520, hm⟩ := bind_some hm
 refine wc call13 [p0, I6 (8:Int)] z z z ?_
 refine (octet_Reader_Num_ref hst.to1 ht520).mono ?_
 rintro _ w521 ⟨rfl, hst⟩
 refine ⟨_, z, ?_⟩
 replace hst := hst.of1
 refine wv (p0) z z z ?_
 obtain ⟨t524, ht525, hm⟩ := bind_some hm
 refine wc call45 [p0] z z z ?_
 refine (octet_Reader_Flag_ref hst.to1 ht525).mono ?_
 rintro _ w526 ⟨rfl, hst⟩
 refine ⟨_, z, ?_⟩
 replace hst := hst.of1
 refine wv (.agg #[U1 (u8.wrap t489.1), I6 (i64.wrap t494.1), I6 (i64.wrap t499.1), U6 t504.1, U6 t509.1, U6 t514.1, U6 t519.1, .bool t524.1, Zs, Zu, Zu, Zu, Zs]) z z (by kernel_rfl) ?_
 obtain ⟨b533, w534, ew535, eb536, hst⟩ := hst.box [Zb, Zi, Zi, Zu, Zu, Zu, Zu, .bool false, Zs, Zu, Zu, Zu, Zs] 30
 refine wl_run (v := Pt b533 0) (w' := w534) z z (x_al (by kernel_rfl) ew535 eb536) ?_
 obtain ⟨w538, hr539, hst⟩ := hst.bx [U1 (u8.wrap t489.1), I6 (i64.wrap t494.1), I6 (i64.wrap t499.1), U6 t504.1, U6 t509.1, U6 t514.1, U6 t519.1, .bool t524.1, Zs, Zu, Zu, Zu, Zs] sizeOf30 z (oC z (oC z (oC z (oC z (oC z (oC z (oC z (oC z (oC z (oC z (oC z (oC z (oC z oN))))))))))))) (by kernel_rfl)
 refine wl_unit z z (x_unit hr539) ?_
 refine wl_nil (tn ?_)
 obtain ⟨y732, hm, hx733⟩ := bind_some hm
 refine wp_cut (fun a w => ∃ (I729 : HL) (z725 : octet_Reader) (z728 : (List api_Entry)) (v727 : Value) (σ730 : Nat → Value), (mail_readMessage_j0 t489 t494 t499 t504 t509 t514 t519 t524) (z725, z728) = some r ∧ a = Fr 57 (upd (upd (upd σ730 0 (p0)) 2 (Pt b484 0)) 3 (Pt b533 0)) ∧ I.le I729 ∧ St w0 w I729 [at_octet_Reader p0 z725, cells b484 [Zb, Zi, Zi, Zu, Zu, Zu, Zu, .bool false, Zs, Zu, Zu, Zu, Zs], cells b533 [U1 (u8.wrap t489.1), I6 (i64.wrap t494.1), I6 (i64.wrap t499.1), U6 t504.1, U6 t509.1, U6 t514.1, U6 t519.1, .bool t524.1, v727, Zu, Zu, Zu, Zs], ownS ty_api_Entry v727 z728] R) ?_ ?_
 {
 have hL734 := HL.le.refl I
 refine wp_seq (wrl (wv (p0) z z z (wv (p0) z z z ?_)))
 replace hst := hst.pull1
 obtain ⟨t540, ht541, hm⟩ := bind_some hm
 refine wc call47 [p0] z z z ?_
 refine (octet_Reader_Left_ref hst.to1 ht541).mono ?_
 rintro _ w542 ⟨rfl, hst⟩
 refine ⟨_, z, ?_⟩
 replace hst := hst.of1
 obtain ⟨t545, ht546, hm⟩ := bind_some hm
 refine wc call46 [p0, I6 t540] z z z ?_
 refine (octet_Reader_Count_ref hst.to1 ht546).mono ?_
 rintro _ w547 ⟨rfl, hst⟩
 refine ⟨_, z, ?_⟩
 replace hst := hst.of1
 refine wv (.int .i64 (0:Int)) z z z (wl_nil (tn (wp_block ?_)))
 replace hst := hst.own_nil ty_api_Entry
 obtain ⟨n679, hm⟩ := loopO_some hm
 refine wp_loop_n (fun n a w => ∃ (I677 : HL) (z672 : (List api_Entry)) (z675 : octet_Reader) (z676 : Int) (v673 : Value) (σ678 : Nat → Value), loopN (mail_readMessage_l1 t545) n (z672, z675, z676) = some y732 ∧ a = Fr 57 (upd (upd (upd (upd (upd σ678 0 (p0)) 2 (Pt b484 0)) 3 (Pt b533 0)) 27 (.int .i64 t545.1)) 28 (.int .i64 z676)) ∧ I.le I677 ∧ St w0 w I677 [ownS ty_api_Entry v673 z672, at_octet_Reader p0 z675, cells b533 [U1 (u8.wrap t489.1), I6 (i64.wrap t494.1), I6 (i64.wrap t499.1), U6 t504.1, U6 t509.1, U6 t514.1, U6 t519.1, .bool t524.1, v673, Zu, Zu, Zu, Zs], cells b484 [Zb, Zi, Zi, Zu, Zu, Zu, Zu, .bool false, Zs, Zu, Zu, Zu, Zs]] R) n679 ⟨_, [], t545.2, (0:Int), Zs, _, hm, (fu 0 p0 z (fu 2 (Pt b484 0) z (fu 3 (Pt b533 0) z (fu 27 (.int .i64 t545.1) z (fu 28 (.int .i64 (0:Int)) z z))))), (HL.le.refl _), hst⟩ ?_
 rintro n685 _ w680 ⟨I677, z672, z675, z676, v673, σ678, hm, rfl, hL681, hst⟩
 obtain ⟨n682, y683, rfl, hm, hx684⟩ := loopN_some hm
 dsimp only [mail_readMessage_l1] at hm
 replace hI0 := hI0.trans hL681
 replace hL734 := hL734.trans hL681
 refine wp_seq (wrl (wv (.bool (decide (z676 < t545.1))) z z z (wl_nil (tn (wp_seq ?_)))))
 refine bsplit (decide (z676 < t545.1)) (fun hc686 => ?_) (fun hc686 => ?_)
 {
 replace hm := bif_t hc686 hm
 refine wp_ift (cvb hc686) ?_
 refine wp_skip (tn (wp_seq (wp_block ?_)))
 refine wp_region_St hst 16 [0, 1, 2, 3, 4, 5, 6, 7, 8, 9, 10, 11, 12, 13, 14, 15] [0, 1, 0, 4, 0, 28, 0, 124, 252, 0, 764, 2044, 4092, 8191, 16383, 32767] [] z (by kernel_rfl) (by kernel_rfl) Try.mixed (by kernel_rfl) ?_
 refine wsr (Pt b533 8) 0 z z z (by kernel_rfl) (fun w hst => x_field z underlying30 z sizeOf26 z) (wsr (v673) 1 z z z (by kernel_rfl) (fun w hst => x_load z isAgg26 (hst.bc2 z)) (wsr (p0) 2 z z z (by kernel_rfl) (fun w hst => z) (wsr (p0) 4 z z z (by kernel_rfl) (fun w hst => z) (wsr (p0) 6 z z z (by kernel_rfl) (fun w hst => z) (wsr (p0) 9 z z z (by kernel_rfl) (fun w hst => z) ?_)))))
 refine ws_e1 3 (by kernel_rfl) ?_
 refine nxe [5, 7, 8, 10, 11, 12, 13, 14, 15] (by kernel_rfl) z z ?_
 clear hst
 intro w hst
 replace hst := hst.pull1
 obtain ⟨t687, ht688, hm⟩ := bind_some hm
 refine wec call13 [p0, I6 (8:Int)] z z ?_
 refine (octet_Reader_Num_ref hst.to1 ht688).mono ?_
 rintro _ w689 ⟨rfl, hst⟩
 refine ⟨_, z, ?_⟩
 replace hst := hst.of1
 refine ws_next (pend' := [(9, p0), (6, p0), (4, p0), (1, v673), (0, Pt b533 8)]) hst (by kernel_rfl) (pkr z z (fun w hst => z) (pkr z z (fun w hst => z) (pkr z z (fun w hst => z) (pkr z z (fun w hst => x_load z isAgg26 (hst.bc2 z)) (pkr z z (fun w hst => x_field z underlying30 z sizeOf26 z) pk_nil))))) ?_
 refine ws_e1 5 (by kernel_rfl) ?_
 refine nxe [7, 8, 10, 11, 12, 13, 14, 15] (by kernel_rfl) z z ?_
 clear hst
 intro w hst
 obtain ⟨t692, ht693, hm⟩ := bind_some hm
 refine wec call13 [p0, I6 (8:Int)] z z ?_
 refine (octet_Reader_Num_ref hst.to1 ht693).mono ?_
 rintro _ w694 ⟨rfl, hst⟩
 refine ⟨_, z, ?_⟩
 replace hst := hst.of1
 refine ws_next (pend' := [(9, p0), (6, p0), (1, v673), (0, Pt b533 8)]) hst (by kernel_rfl) (pkr z z (fun w hst => z) (pkr z z (fun w hst => z) (pkr z z (fun w hst => x_load z isAgg26 (hst.bc2 z)) (pkr z z (fun w hst => x_field z underlying30 z sizeOf26 z) pk_nil)))) ?_
 refine ws_e1 7 (by kernel_rfl) ?_
 refine nxe [8, 10, 11, 12, 13, 14, 15] (by kernel_rfl) z z ?_
 clear hst
 intro w hst
 obtain ⟨t697, ht698, hm⟩ := bind_some hm
 refine wec call13 [p0, I6 (1:Int)] z z ?_
 refine (octet_Reader_Num_ref hst.to1 ht698).mono ?_
 rintro _ w699 ⟨rfl, hst⟩
 refine ⟨_, z, ?_⟩
 replace hst := hst.of1
 refine ws_next (pend' := [(9, p0), (1, v673), (0, Pt b533 8)]) hst (by kernel_rfl) (pkr z z (fun w hst => z) (pkr z z (fun w hst => x_load z isAgg26 (hst.bc2 z)) (pkr z z (fun w hst => x_field z underlying30 z sizeOf26 z) pk_nil))) ?_
 refine wsr (.int .u8 (u8.wrap t697.1)) 8 z z z (by kernel_rfl) (fun w hst => by kernel_rfl) ?_
 refine ws_e1 10 (by kernel_rfl) ?_
 refine nxe [11, 12, 13, 14, 15] (by kernel_rfl) z z ?_
 clear hst
 intro w hst
 obtain ⟨t702, ht703, hm⟩ := bind_some hm
 refine wec call18 [p0, I6 (1048576:Int)] z z ?_
 refine (octet_Reader_Bytes_ref hst.to1 ht703).mono ?_
 rintro _ w704 ⟨v707, rfl, hst⟩
 refine ⟨_, z, ?_⟩
 replace hst := hst.of2
 refine ws_next (pend' := [(8, U1 (u8.wrap t697.1)), (1, v673), (0, Pt b533 8)]) hst (by kernel_rfl) (pkr z z (fun w hst => by kernel_rfl) (pkr z z (fun w hst => x_load z isAgg26 (hst.bc3 z)) (pkr z z (fun w hst => x_field z underlying30 z sizeOf26 z) pk_nil))) ?_
 refine wsr (.agg #[U6 t687.1, U6 t692.1, U1 (u8.wrap t697.1), v707]) 11 rfl rfl rfl (by kernel_rfl) (fun w hst => by obtain ⟨_, _, hv_, _⟩ := hst.sv0; rw [hv_]; kernel_rfl) ?_
 refine ws_e1 12 (by kernel_rfl) ?_
 refine nxe [13, 14, 15] (by kernel_rfl) z z ?_
 clear hst
 intro w hst
 obtain ⟨I711, hI712, f713, hst⟩ := hst.own_fix
 replace hI0 := hI0.trans hI712
 replace hL734 := hL734.trans hI712
 replace hL681 := hL681.trans hI712
 obtain ⟨b714, w715, ew716, eb717, hst⟩ := hst.lits (E := ty_api_Entry) (xs := [({ Index := t687.1, Term := t692.1, Kind := (u8.wrap t697.1), Data := t702.1 } : api_Entry)]) [[U6 t687.1, U6 t692.1, U1 (u8.wrap t697.1), v707]] 84 1 z (Reps.cons ⟨_, z, f713, one_of_sliceV (ro_sliceV f713)⟩ Reps.nil)
 refine we_run (v := (.slice (some ⟨b714, 0, none⟩) 1 1)) (w' := w715) z (x_als (by kernel_rfl) ew716 eb717) ?_
 refine ws_next (pend' := [(1, v673), (0, Pt b533 8)]) hst (by kernel_rfl) (pkr z z (fun w hst => x_load z isAgg26 (hst.bc3 z)) (pkr z z (fun w hst => x_field z underlying30 z sizeOf26 z) pk_nil)) ?_
 refine ws_e1 13 (by kernel_rfl) ?_
 refine nxe [14, 15] (by kernel_rfl) z z ?_
 clear hst
 intro w hst
 obtain ⟨hg719, hm⟩ := gd_some hm
 replace hst := hst.pull2
 obtain ⟨v720, w721, hr722, hst⟩ := run_append elem_26 underlying26 hst hst.src1 (room_of hg719 z) 26
 refine we_run (v := v720) (w' := w721) z (x_append z z hr722) ?_
 refine ws_next (pend' := []) hst (by kernel_rfl) pk_nil ?_
 refine wsr (Pt b533 8) 14 z z z (by kernel_rfl) (fun w hst => x_field z underlying30 z sizeOf26 z) ?_
 refine ws_e1 15 (by kernel_rfl) ?_
 refine nxe [] (by kernel_rfl) z z ?_
 clear hst
 intro w hst
 replace hst := hst.pull3
 obtain ⟨w723, hr724, hst⟩ := hst.boxStore1 (P := prog) (t := 26) (cs' := [U1 (u8.wrap t489.1), I6 (i64.wrap t494.1), I6 (i64.wrap t499.1), U6 t504.1, U6 t509.1, U6 t514.1, U6 t519.1, .bool t524.1, v720, Zu, Zu, Zu, Zs]) 8 v720 (one_of_sliceV hst.sv1) sizeOf26 z z
 refine we_unit z (x_unit hr724) ?_
 refine ws_next (pend' := []) hst (by kernel_rfl) pk_nil ?_
 refine ws_nil ?_
 intro w hst
 refine blk_n (tn (wrl ?_))
 refine wv (.int .i64 (i64.wrap (z676 + (1:Int)))) z z z (wv (.int .i64 (i64.wrap (z676 + (1:Int)))) z z z (wl_nil (tn ?_)))
 replace hst := hst.pull4.pull1.pull4.pull3.keep4
 obtain rfl := some_inj hm
 exact ⟨_, Nat.lt_succ_self _, _, (z672 ++ ([({ Index := t687.1, Term := t692.1, Kind := (u8.wrap t697.1), Data := t702.1 } : api_Entry)])), t702.2, (i64.wrap (z676 + (1:Int))), v720, _, hx684, (fu 0 p0 z (fu 2 (Pt b484 0) z (fu 3 (Pt b533 0) z (fu 27 (.int .i64 t545.1) z (fu 28 (.int .i64 (i64.wrap (z676 + (1:Int)))) z z))))), hL681, hst⟩
}
 {
 replace hm := bif_f hc686 hm
 refine wp_iff (cvb hc686) ?_
 refine wp_exit (then_x (then_x ?_))
 replace hm := inr_up hm hx684
 refine blk_x (tn ?_)
 replace hst := hst.pull2.pull3.pull3.keep4
 obtain rfl := some_inj hm
 exact ⟨_, z675, z672, v673, _, hx733, (fu 0 p0 z (fu 2 (Pt b484 0) z (fu 3 (Pt b533 0) z z))), hL734, hst⟩
}
}
 {
 clear hst
 rintro _ w735 ⟨I729, z725, z728, v727, σ730, hm, rfl, hL731, hst⟩
 dsimp only [mail_readMessage_j0] at hm
 replace hI0 := hI0.trans hL731
 refine wp_seq (wrl (wv (p0) z z z ?_))
 obtain ⟨t736, ht737, hm⟩ := bind_some hm
 refine wc call13 [p0, I6 (8:Int)] z z z ?_
 refine (octet_Reader_Num_ref hst.to1 ht737).mono ?_
 rintro _ w738 ⟨rfl, hst⟩
 refine ⟨_, z, ?_⟩
 replace hst := hst.of1
 refine wv (p0) z z z ?_
 obtain ⟨t741, ht742, hm⟩ := bind_some hm
 refine wc call13 [p0, I6 (8:Int)] z z z ?_
 refine (octet_Reader_Num_ref hst.to1 ht742).mono ?_
 rintro _ w743 ⟨rfl, hst⟩
 refine ⟨_, z, ?_⟩
 replace hst := hst.of1
 refine wv (p0) z z z ?_
 obtain ⟨t746, ht747, hm⟩ := bind_some hm
 refine wc call13 [p0, I6 (8:Int)] z z z ?_
 refine (octet_Reader_Num_ref hst.to1 ht747).mono ?_
 rintro _ w748 ⟨rfl, hst⟩
 refine ⟨_, z, ?_⟩
 replace hst := hst.of1
 refine wv (p0) z z z ?_
 obtain ⟨t751, ht752, hm⟩ := bind_some hm
 refine wc call18 [p0, I6 (1048576:Int)] z z z ?_
 refine (octet_Reader_Bytes_ref hst.to1 ht752).mono ?_
 rintro _ w753 ⟨v756, rfl, hst⟩
 refine ⟨_, z, ?_⟩
 replace hst := hst.of2
 refine wv (.agg #[U6 t736.1, U6 t741.1, U6 t746.1, v756]) z z (by obtain ⟨_, _, hv_, _⟩ := hst.sv0; rw [hv_]; kernel_rfl) (wv (Pt b533 9) z z (x_field z underlying30 z sizeOf28 z) ?_)
 replace hst := hst.pull3
 obtain ⟨w759, hr760, hst⟩ := hst.by_ [U1 (u8.wrap t489.1), I6 (i64.wrap t494.1), I6 (i64.wrap t499.1), U6 t504.1, U6 t509.1, U6 t514.1, U6 t519.1, .bool t524.1, v727, U6 t736.1, U6 t741.1, U6 t746.1, v756] 9 (.agg #[U6 t736.1, U6 t741.1, U6 t746.1, v756]) sizeOf28 z (oC z (oC z (oC z (oC (one_of_sliceV hst.sv1) oN)))) (by kernel_rfl)
 refine wl_unit z z (x_unit hr760) ?_
 refine wl_nil (tn (wp_seq (wrl (wv (.agg #[U1 (u8.wrap t489.1), I6 (i64.wrap t494.1), I6 (i64.wrap t499.1), U6 t504.1, U6 t509.1, U6 t514.1, U6 t519.1, .bool t524.1, v727, U6 t736.1, U6 t741.1, U6 t746.1, v756]) z z (x_loadN (cs := [U1 (u8.wrap t489.1), I6 (i64.wrap t494.1), I6 (i64.wrap t499.1), U6 t504.1, U6 t509.1, U6 t514.1, U6 t519.1, .bool t524.1, v727, U6 t736.1, U6 t741.1, U6 t746.1, v756]) z isAgg30 sizeOf30 (hst.bcs0 0 z)) ?_))))
 replace hst := hst.pull3
 obtain ⟨w761, hr762, hst⟩ := hst.bx [U1 (u8.wrap t489.1), I6 (i64.wrap t494.1), I6 (i64.wrap t499.1), U6 t504.1, U6 t509.1, U6 t514.1, U6 t519.1, .bool t524.1, v727, U6 t736.1, U6 t741.1, U6 t746.1, v756] sizeOf30 z (oC z (oC z (oC z (oC z (oC z (oC z (oC z (oC z (oC (one_of_sliceV hst.sv4) (oC z (oC z (oC z (oC (one_of_sliceV hst.sv2) oN))))))))))))) (by kernel_rfl)
 refine wl_unit z z (x_unit hr762) ?_
 refine wl_nil (tn (wp_ret ?_))
 obtain rfl := some_inj hm
 refine post_ret (vs := [.agg #[U1 (u8.wrap t489.1), I6 (i64.wrap t494.1), I6 (i64.wrap t499.1), U6 t504.1, U6 t509.1, U6 t514.1, U6 t519.1, .bool t524.1, v727, U6 t736.1, U6 t741.1, U6 t746.1, v756]]) results14 (rvs_cons (rv_cell (cs := [U1 (u8.wrap t489.1), I6 (i64.wrap t494.1), I6 (i64.wrap t499.1), U6 t504.1, U6 t509.1, U6 t514.1, U6 t519.1, .bool t524.1, v727, U6 t736.1, U6 t741.1, U6 t746.1, v756]) z isAgg30 sizeOf30 (hst.bcs0 0 z)) rvs_nil) ?_
 replace hst := hst.pull3.pull3.pull4
 exact ⟨_, v727, v756, z, hI0, hst.keep3⟩
}
}

theorem number_Back_ref {w0 w : World} {I : HL} {R : SP} {a0 : Int}  (hst : St w0 w I [] R) {r : (Nat)} (hm : number_Back a0 = some r) :
  Calls prog 48 #[U6 a0] w fun e w' => e = .returned (.float .f64 r) ∧ St w0 w' I [] R := by {
 unfold number_Back at hm
 refine calls_start (args := [U6 a0]) func48 z ntmps48 (Nat.le_of_ble_eq_true z) ?_
 refine wp_seq (wrl (wv (.float .f64 (0:Nat)) z z z (wl_nil (tn (wp_seq (wp_seq (wrl (wv (.int .u64 a0) z z z (wv (.int .u64 (iShr .u64 a0 (63:Int))) z z (x_shr (by decide) z z) (wv (.bool ((iShr .u64 a0 (63:Int)) == (1:Int))) z z z (wl_nil (tn ?_))))))))))))
 refine bsplit ((iShr .u64 a0 (63:Int)) == (1:Int)) (fun hc265 => ?_) (fun hc265 => ?_)
 {
 replace hm := bif_t hc265 hm
 refine wp_ift (cvb hc265) ?_
 refine wp_seq (wrl (wv (.int .u64 a0) z z z (wv (.int .u64 (bAndNot .u64 a0 (9223372036854775808:Int))) z z z (wv (.float .f64 (Int.toNat (bAndNot .u64 a0 (9223372036854775808:Int)))) z z (by kernel_rfl) (wv (.float .f64 (Int.toNat (bAndNot .u64 a0 (9223372036854775808:Int)))) z z z (wl_nil (tn (wp_ret (then_r ?_)))))))))
 obtain rfl := some_inj hm
 refine post_ret (vs := [F6 (Int.toNat (bAndNot .u64 a0 (9223372036854775808:Int)))]) results48 (rvs_cons (rv_tmp z) rvs_nil) ?_
 exact ⟨z, hst.keep0⟩
}
 {
 replace hm := bif_f hc265 hm
 refine wp_iff (cvb hc265) ?_
 refine wp_skip (tn (wp_seq (wrl ?_)))
 refine wv (.int .u64 a0) z z z (wv (.int .u64 (bXor .u64 ((18446744073709551615):Int) a0)) z z (by kernel_rfl) (wv (.float .f64 (Int.toNat (bXor .u64 ((18446744073709551615):Int) a0))) z z (by kernel_rfl) (wv (.float .f64 (Int.toNat (bXor .u64 ((18446744073709551615):Int) a0))) z z z (wl_nil (tn (wp_ret ?_))))))
 obtain rfl := some_inj hm
 refine post_ret (vs := [F6 (Int.toNat (bXor .u64 ((18446744073709551615):Int) a0))]) results48 (rvs_cons (rv_tmp z) rvs_nil) ?_
 exact ⟨z, hst.keep0⟩
}
}

theorem locks_Read_ref {w0 w : World} {I : HL} {R : SP} {a0 : octet_Reader} {p0 : Value}  (hst : St w0 w I [at_octet_Reader p0 a0] R) {r : (api_Hold × octet_Reader)} (hm : locks_Read a0 = some r) :
  Calls prog 15 #[p0] w fun e w' => ∃ (q0_0 : Value) (q0_1 : Value) (q0_2 : Value) (q0_3 : Value), e = .returned (.agg #[U6 r.1.ID.Session, U6 r.1.ID.Seq, U6 r.1.Epoch, q0_0, q0_1, q0_2, q0_3]) ∧ St w0 w' I [ownS tyF64 q0_0 r.1.Gets, ownS tyF2 q0_1 r.1.Scans, ownS tyF64 q0_2 r.1.Puts, ownS (tyInt .u8) q0_3 r.1.Data, at_octet_Reader p0 r.2] R := by {
 unfold locks_Read at hm
 refine calls_start (args := [p0]) func15 z ntmps15 (Nat.le_of_ble_eq_true z) ?_
 refine wp_seq (wrl ?_)
 obtain ⟨b674, w675, ew676, eb677, hst⟩ := hst.box [Zu, Zu, Zu, Zs, Zs, Zs, Zs] 36
 refine wl_run (v := Pt b674 0) (w' := w675) z z (x_al (by kernel_rfl) ew676 eb677) ?_
 refine wl_nil (tn (wp_seq (wrl (wv (p0) z z z ?_))))
 replace hst := hst.pull1
 obtain ⟨t679, ht680, hm⟩ := bind_some hm
 refine wc call13 [p0, I6 (8:Int)] z z z ?_
 refine (octet_Reader_Num_ref hst.to1 ht680).mono ?_
 rintro _ w681 ⟨rfl, hst⟩
 refine ⟨_, z, ?_⟩
 replace hst := hst.of1
 refine wv (p0) z z z ?_
 obtain ⟨t684, ht685, hm⟩ := bind_some hm
 refine wc call13 [p0, I6 (8:Int)] z z z ?_
 refine (octet_Reader_Num_ref hst.to1 ht685).mono ?_
 rintro _ w686 ⟨rfl, hst⟩
 refine ⟨_, z, ?_⟩
 replace hst := hst.of1
 refine wv (.agg #[U6 t679.1, U6 t684.1]) z z (by kernel_rfl) (wv (p0) z z z ?_)
 obtain ⟨t689, ht690, hm⟩ := bind_some hm
 refine wc call13 [p0, I6 (8:Int)] z z z ?_
 refine (octet_Reader_Num_ref hst.to1 ht690).mono ?_
 rintro _ w691 ⟨rfl, hst⟩
 refine ⟨_, z, ?_⟩
 replace hst := hst.of1
 refine wv (.agg #[U6 t679.1, U6 t684.1, U6 t689.1, Zs, Zs, Zs, Zs]) z z (by kernel_rfl) ?_
 obtain ⟨b702, w703, ew704, eb705, hst⟩ := hst.box [Zu, Zu, Zu, Zs, Zs, Zs, Zs] 36
 refine wl_run (v := Pt b702 0) (w' := w703) z z (x_al (by kernel_rfl) ew704 eb705) ?_
 obtain ⟨w707, hr708, hst⟩ := hst.bx [U6 t679.1, U6 t684.1, U6 t689.1, Zs, Zs, Zs, Zs] sizeOf36 z (oC z (oC z (oC z (oC z (oC z (oC z (oC z oN))))))) (by kernel_rfl)
 refine wl_unit z z (x_unit hr708) ?_
 refine wl_nil (tn ?_)
 obtain ⟨y826, hm, hx827⟩ := bind_some hm
 refine wp_cut (fun a w => ∃ (z820 : octet_Reader) (z823 : (List Nat)) (v822 : Value) (σ824 : Nat → Value), (locks_Read_j0 t679 t684 t689) (z820, z823) = some r ∧ a = Fr 59 (upd (upd (upd σ824 0 (p0)) 2 (Pt b674 0)) 3 (Pt b702 0)) ∧ St w0 w I [at_octet_Reader p0 z820, cells b674 [Zu, Zu, Zu, Zs, Zs, Zs, Zs], cells b702 [U6 t679.1, U6 t684.1, U6 t689.1, v822, Zs, Zs, Zs], ownS tyF64 v822 z823] R) ?_ ?_
 {
 refine wp_seq (wrl (wv (p0) z z z ?_))
 replace hst := hst.pull1
 obtain ⟨t709, ht710, hm⟩ := bind_some hm
 refine wc call46 [p0, I6 (32:Int)] z z z ?_
 refine (octet_Reader_Count_ref hst.to1 ht710).mono ?_
 rintro _ w711 ⟨rfl, hst⟩
 refine ⟨_, z, ?_⟩
 replace hst := hst.of1
 refine wv (.int .i64 (0:Int)) z z z (wl_nil (tn (wp_block ?_)))
 replace hst := hst.own_nil tyF64
 obtain ⟨n791, hm⟩ := loopO_some hm
 refine wp_loop_n (fun n a w => ∃ (z785 : (List Nat)) (z788 : octet_Reader) (z789 : Int) (v786 : Value) (σ790 : Nat → Value), loopN (locks_Read_l1 t709) n (z785, z788, z789) = some y826 ∧ a = Fr 59 (upd (upd (upd (upd (upd σ790 0 (p0)) 2 (Pt b674 0)) 3 (Pt b702 0)) 13 (.int .i64 t709.1)) 14 (.int .i64 z789)) ∧ St w0 w I [ownS tyF64 v786 z785, at_octet_Reader p0 z788, cells b702 [U6 t679.1, U6 t684.1, U6 t689.1, v786, Zs, Zs, Zs], cells b674 [Zu, Zu, Zu, Zs, Zs, Zs, Zs]] R) n791 ⟨[], t709.2, (0:Int), Zs, _, hm, (fu 0 p0 z (fu 2 (Pt b674 0) z (fu 3 (Pt b702 0) z (fu 13 (.int .i64 t709.1) z (fu 14 (.int .i64 (0:Int)) z z))))), hst⟩ ?_
 rintro n797 _ w792 ⟨z785, z788, z789, v786, σ790, hm, rfl, hst⟩
 obtain ⟨n794, y795, rfl, hm, hx796⟩ := loopN_some hm
 dsimp only [locks_Read_l1] at hm
 refine wp_seq (wrl (wv (.bool (decide (z789 < t709.1))) z z z (wl_nil (tn (wp_seq ?_)))))
 refine bsplit (decide (z789 < t709.1)) (fun hc798 => ?_) (fun hc798 => ?_)
 {
 replace hm := bif_t hc798 hm
 refine wp_ift (cvb hc798) ?_
 refine wp_skip (tn (wp_seq (wp_block ?_)))
 refine wp_region_St hst 9 [0, 1, 2, 3, 4, 5, 6, 7, 8] [0, 1, 0, 4, 12, 28, 63, 127, 255] [] z (by kernel_rfl) (by kernel_rfl) Try.mixed (by kernel_rfl) ?_
 refine wsr (Pt b702 3) 0 z z z (by kernel_rfl) (fun w hst => x_field z underlying36 z sizeOf33 z) (wsr (v786) 1 z z z (by kernel_rfl) (fun w hst => x_load z isAgg33 (hst.bc2 z)) (wsr (p0) 2 z z z (by kernel_rfl) (fun w hst => z) ?_))
 refine ws_e1 3 (by kernel_rfl) ?_
 refine nxe [4, 5, 6, 7, 8] (by kernel_rfl) z z ?_
 clear hst
 intro w hst
 replace hst := hst.pull1
 obtain ⟨t799, ht800, hm⟩ := bind_some hm
 refine wec call13 [p0, I6 (8:Int)] z z ?_
 refine (octet_Reader_Num_ref hst.to1 ht800).mono ?_
 rintro _ w801 ⟨rfl, hst⟩
 refine ⟨_, z, ?_⟩
 replace hst := hst.of1
 refine ws_next (pend' := [(1, v786), (0, Pt b702 3)]) hst (by kernel_rfl) (pkr z z (fun w hst => x_load z isAgg33 (hst.bc2 z)) (pkr z z (fun w hst => x_field z underlying36 z sizeOf33 z) pk_nil)) ?_
 refine ws_e1 4 (by kernel_rfl) ?_
 refine nxe [5, 6, 7, 8] (by kernel_rfl) z z ?_
 clear hst
 intro w hst
 obtain ⟨t804, ht805, hm⟩ := bind_some hm
 refine wec call48 [U6 t799.1] z z ?_
 refine (number_Back_ref hst.to0 ht805).mono ?_
 rintro _ w806 ⟨rfl, hst⟩
 refine ⟨_, z, ?_⟩
 replace hst := hst.of0
 refine ws_next (pend' := [(1, v786), (0, Pt b702 3)]) hst (by kernel_rfl) (pkr z z (fun w hst => x_load z isAgg33 (hst.bc2 z)) (pkr z z (fun w hst => x_field z underlying36 z sizeOf33 z) pk_nil)) ?_
 refine ws_e1 5 (by kernel_rfl) ?_
 refine nxe [6, 7, 8] (by kernel_rfl) z z ?_
 clear hst
 intro w hst
 obtain ⟨b809, w810, ew811, eb812, hst⟩ := hst.lits (E := tyF64) (xs := [t804]) [[F6 t804]] 44 1 z (Reps.cons z Reps.nil)
 refine we_run (v := (.slice (some ⟨b809, 0, none⟩) 1 1)) (w' := w810) z (x_als (by kernel_rfl) ew811 eb812) ?_
 refine ws_next (pend' := [(1, v786), (0, Pt b702 3)]) hst (by kernel_rfl) (pkr z z (fun w hst => x_load z isAgg33 (hst.bc3 z)) (pkr z z (fun w hst => x_field z underlying36 z sizeOf33 z) pk_nil)) ?_
 refine ws_e1 6 (by kernel_rfl) ?_
 refine nxe [7, 8] (by kernel_rfl) z z ?_
 clear hst
 intro w hst
 obtain ⟨hg814, hm⟩ := gd_some hm
 replace hst := hst.pull2
 obtain ⟨v815, w816, hr817, hst⟩ := run_append elem_33 underlying33 hst hst.src1 (room_of hg814 z) 33
 refine we_run (v := v815) (w' := w816) z (x_append z z hr817) ?_
 refine ws_next (pend' := []) hst (by kernel_rfl) pk_nil ?_
 refine wsr (Pt b702 3) 7 z z z (by kernel_rfl) (fun w hst => x_field z underlying36 z sizeOf33 z) ?_
 refine ws_e1 8 (by kernel_rfl) ?_
 refine nxe [] (by kernel_rfl) z z ?_
 clear hst
 intro w hst
 replace hst := hst.pull3
 obtain ⟨w818, hr819, hst⟩ := hst.boxStore1 (P := prog) (t := 33) (cs' := [U6 t679.1, U6 t684.1, U6 t689.1, v815, Zs, Zs, Zs]) 3 v815 (one_of_sliceV hst.sv1) sizeOf33 z z
 refine we_unit z (x_unit hr819) ?_
 refine ws_next (pend' := []) hst (by kernel_rfl) pk_nil ?_
 refine ws_nil ?_
 intro w hst
 refine blk_n (tn (wrl ?_))
 refine wv (.int .i64 (i64.wrap (z789 + (1:Int)))) z z z (wv (.int .i64 (i64.wrap (z789 + (1:Int)))) z z z (wl_nil (tn ?_)))
 replace hst := hst.pull4.pull1.pull4.pull3.keep4
 obtain rfl := some_inj hm
 exact ⟨_, Nat.lt_succ_self _, (z785 ++ ([t804])), t799.2, (i64.wrap (z789 + (1:Int))), v815, _, hx796, (fu 0 p0 z (fu 2 (Pt b674 0) z (fu 3 (Pt b702 0) z (fu 13 (.int .i64 t709.1) z (fu 14 (.int .i64 (i64.wrap (z789 + (1:Int)))) z z))))), hst⟩
}
 {
 replace hm := bif_f hc798 hm
 refine wp_iff (cvb hc798) ?_
 refine wp_exit (then_x (then_x ?_))
 replace hm := inr_up hm hx796
 refine blk_x (tn ?_)
 replace hst := hst.pull2.pull3.pull3.keep4
 obtain rfl := some_inj hm
 exact ⟨z788, z785, v786, _, hx827, (fu 0 p0 z (fu 2 (Pt b674 0) z (fu 3 (Pt b702 0) z z))), hst⟩
}
}
 {
 clear hst
 rintro _ w828 ⟨z820, z823, v822, σ824, hm, rfl, hst⟩
 dsimp only [locks_Read_j0] at hm
 obtain ⟨y986, hm, hx987⟩ := bind_some hm
 refine wp_cut (fun a w => ∃ (z980 : octet_Reader) (z983 : (List (Nat × Nat))) (v982 : Value) (σ984 : Nat → Value), (locks_Read_j2 t679 t684 t689 z823) (z980, z983) = some r ∧ a = Fr 59 (upd (upd (upd σ984 0 (p0)) 2 (Pt b674 0)) 3 (Pt b702 0)) ∧ St w0 w I [at_octet_Reader p0 z980, cells b674 [Zu, Zu, Zu, Zs, Zs, Zs, Zs], cells b702 [U6 t679.1, U6 t684.1, U6 t689.1, v822, v982, Zs, Zs], ownS tyF64 v822 z823, ownS tyF2 v982 z983] R) ?_ ?_
 {
 refine wp_seq (wrl (wv (p0) z z z ?_))
 obtain ⟨t829, ht830, hm⟩ := bind_some hm
 refine wc call46 [p0, I6 (32:Int)] z z z ?_
 refine (octet_Reader_Count_ref hst.to1 ht830).mono ?_
 rintro _ w831 ⟨rfl, hst⟩
 refine ⟨_, z, ?_⟩
 replace hst := hst.of1
 refine wv (.int .i64 (0:Int)) z z z (wl_nil (tn (wp_block ?_)))
 replace hst := hst.own_nil tyF2
 obtain ⟨n941, hm⟩ := loopO_some hm
 refine wp_loop_n (fun n a w => ∃ (z935 : (List (Nat × Nat))) (z938 : octet_Reader) (z939 : Int) (v936 : Value) (σ940 : Nat → Value), loopN (locks_Read_l3 t829) n (z935, z938, z939) = some y986 ∧ a = Fr 59 (upd (upd (upd (upd (upd σ940 0 (p0)) 2 (Pt b674 0)) 3 (Pt b702 0)) 26 (.int .i64 t829.1)) 27 (.int .i64 z939)) ∧ St w0 w I [ownS tyF2 v936 z935, at_octet_Reader p0 z938, cells b674 [Zu, Zu, Zu, Zs, Zs, Zs, Zs], cells b702 [U6 t679.1, U6 t684.1, U6 t689.1, v822, v936, Zs, Zs], ownS tyF64 v822 z823] R) n941 ⟨[], t829.2, (0:Int), Zs, _, hm, (fu 0 p0 z (fu 2 (Pt b674 0) z (fu 3 (Pt b702 0) z (fu 26 (.int .i64 t829.1) z (fu 27 (.int .i64 (0:Int)) z z))))), hst⟩ ?_
 rintro n947 _ w942 ⟨z935, z938, z939, v936, σ940, hm, rfl, hst⟩
 obtain ⟨n944, y945, rfl, hm, hx946⟩ := loopN_some hm
 dsimp only [locks_Read_l3] at hm
 refine wp_seq (wrl (wv (.bool (decide (z939 < t829.1))) z z z (wl_nil (tn (wp_seq ?_)))))
 refine bsplit (decide (z939 < t829.1)) (fun hc948 => ?_) (fun hc948 => ?_)
 {
 replace hm := bif_t hc948 hm
 refine wp_ift (cvb hc948) ?_
 refine wp_skip (tn (wp_seq (wp_block ?_)))
 refine wp_region_St hst 13 [0, 1, 2, 3, 4, 5, 6, 7, 8, 9, 10, 11, 12] [0, 1, 0, 4, 12, 0, 60, 124, 252, 508, 1023, 2047, 4095] [] z (by kernel_rfl) (by kernel_rfl) Try.mixed (by kernel_rfl) ?_
 refine wsr (Pt b702 4) 0 z z z (by kernel_rfl) (fun w hst => x_field z underlying36 z sizeOf34 z) (wsr (v936) 1 z z z (by kernel_rfl) (fun w hst => x_load z isAgg34 (hst.bc3 z)) (wsr (p0) 2 z z z (by kernel_rfl) (fun w hst => z) (wsr (p0) 5 z z z (by kernel_rfl) (fun w hst => z) ?_)))
 refine ws_e1 3 (by kernel_rfl) ?_
 refine nxe [4, 6, 7, 8, 9, 10, 11, 12] (by kernel_rfl) z z ?_
 clear hst
 intro w hst
 replace hst := hst.pull1
 obtain ⟨t949, ht950, hm⟩ := bind_some hm
 refine wec call13 [p0, I6 (8:Int)] z z ?_
 refine (octet_Reader_Num_ref hst.to1 ht950).mono ?_
 rintro _ w951 ⟨rfl, hst⟩
 refine ⟨_, z, ?_⟩
 replace hst := hst.of1
 refine ws_next (pend' := [(5, p0), (1, v936), (0, Pt b702 4)]) hst (by kernel_rfl) (pkr z z (fun w hst => z) (pkr z z (fun w hst => x_load z isAgg34 (hst.bc3 z)) (pkr z z (fun w hst => x_field z underlying36 z sizeOf34 z) pk_nil))) ?_
 refine ws_e1 4 (by kernel_rfl) ?_
 refine nxe [6, 7, 8, 9, 10, 11, 12] (by kernel_rfl) z z ?_
 clear hst
 intro w hst
 obtain ⟨t954, ht955, hm⟩ := bind_some hm
 refine wec call48 [U6 t949.1] z z ?_
 refine (number_Back_ref hst.to0 ht955).mono ?_
 rintro _ w956 ⟨rfl, hst⟩
 refine ⟨_, z, ?_⟩
 replace hst := hst.of0
 refine ws_next (pend' := [(5, p0), (1, v936), (0, Pt b702 4)]) hst (by kernel_rfl) (pkr z z (fun w hst => z) (pkr z z (fun w hst => x_load z isAgg34 (hst.bc3 z)) (pkr z z (fun w hst => x_field z underlying36 z sizeOf34 z) pk_nil))) ?_
 refine ws_e1 6 (by kernel_rfl) ?_
 refine nxe [7, 8, 9, 10, 11, 12] (by kernel_rfl) z z ?_
 clear hst
 intro w hst
 obtain ⟨t959, ht960, hm⟩ := bind_some hm
 refine wec call13 [p0, I6 (8:Int)] z z ?_
 refine (octet_Reader_Num_ref hst.to1 ht960).mono ?_
 rintro _ w961 ⟨rfl, hst⟩
 refine ⟨_, z, ?_⟩
 replace hst := hst.of1
 refine ws_next (pend' := [(1, v936), (0, Pt b702 4)]) hst (by kernel_rfl) (pkr z z (fun w hst => x_load z isAgg34 (hst.bc3 z)) (pkr z z (fun w hst => x_field z underlying36 z sizeOf34 z) pk_nil)) ?_
 refine ws_e1 7 (by kernel_rfl) ?_
 refine nxe [8, 9, 10, 11, 12] (by kernel_rfl) z z ?_
 clear hst
 intro w hst
 obtain ⟨t964, ht965, hm⟩ := bind_some hm
 refine wec call48 [U6 t959.1] z z ?_
 refine (number_Back_ref hst.to0 ht965).mono ?_
 rintro _ w966 ⟨rfl, hst⟩
 refine ⟨_, z, ?_⟩
 replace hst := hst.of0
 refine ws_next (pend' := [(1, v936), (0, Pt b702 4)]) hst (by kernel_rfl) (pkr z z (fun w hst => x_load z isAgg34 (hst.bc3 z)) (pkr z z (fun w hst => x_field z underlying36 z sizeOf34 z) pk_nil)) ?_
 refine wsr (.agg #[F6 t954, F6 t964]) 8 z z z (by kernel_rfl) (fun w hst => by kernel_rfl) ?_
 refine ws_e1 9 (by kernel_rfl) ?_
 refine nxe [10, 11, 12] (by kernel_rfl) z z ?_
 clear hst
 intro w hst
 obtain ⟨b969, w970, ew971, eb972, hst⟩ := hst.lits (E := tyF2) (xs := [(t954, t964)]) [[F6 t954, F6 t964]] 102 1 z (Reps.cons z Reps.nil)
 refine we_run (v := (.slice (some ⟨b969, 0, none⟩) 1 1)) (w' := w970) z (x_als (by kernel_rfl) ew971 eb972) ?_
 refine ws_next (pend' := [(1, v936), (0, Pt b702 4)]) hst (by kernel_rfl) (pkr z z (fun w hst => x_load z isAgg34 (hst.bc4 z)) (pkr z z (fun w hst => x_field z underlying36 z sizeOf34 z) pk_nil)) ?_
 refine ws_e1 10 (by kernel_rfl) ?_
 refine nxe [11, 12] (by kernel_rfl) z z ?_
 clear hst
 intro w hst
 obtain ⟨hg974, hm⟩ := gd_some hm
 replace hst := hst.pull2
 obtain ⟨v975, w976, hr977, hst⟩ := run_append elem_34 underlying34 hst hst.src1 (room_of hg974 z) 34
 refine we_run (v := v975) (w' := w976) z (x_append z z hr977) ?_
 refine ws_next (pend' := []) hst (by kernel_rfl) pk_nil ?_
 refine wsr (Pt b702 4) 11 z z z (by kernel_rfl) (fun w hst => x_field z underlying36 z sizeOf34 z) ?_
 refine ws_e1 12 (by kernel_rfl) ?_
 refine nxe [] (by kernel_rfl) z z ?_
 clear hst
 intro w hst
 replace hst := hst.pull4
 obtain ⟨w978, hr979, hst⟩ := hst.boxStore1 (P := prog) (t := 34) (cs' := [U6 t679.1, U6 t684.1, U6 t689.1, v822, v975, Zs, Zs]) 4 v975 (one_of_sliceV hst.sv1) sizeOf34 z z
 refine we_unit z (x_unit hr979) ?_
 refine ws_next (pend' := []) hst (by kernel_rfl) pk_nil ?_
 refine ws_nil ?_
 intro w hst
 refine blk_n (tn (wrl ?_))
 refine wv (.int .i64 (i64.wrap (z939 + (1:Int)))) z z z (wv (.int .i64 (i64.wrap (z939 + (1:Int)))) z z z (wl_nil (tn ?_)))
 replace hst := hst.pull5.pull1.pull5.pull5.pull4.keep5
 obtain rfl := some_inj hm
 exact ⟨_, Nat.lt_succ_self _, (z935 ++ ([(t954, t964)])), t959.2, (i64.wrap (z939 + (1:Int))), v975, _, hx946, (fu 0 p0 z (fu 2 (Pt b674 0) z (fu 3 (Pt b702 0) z (fu 26 (.int .i64 t829.1) z (fu 27 (.int .i64 (i64.wrap (z939 + (1:Int)))) z z))))), hst⟩
}
 {
 replace hm := bif_f hc948 hm
 refine wp_iff (cvb hc948) ?_
 refine wp_exit (then_x (then_x ?_))
 replace hm := inr_up hm hx946
 refine blk_x (tn ?_)
 replace hst := hst.pull4.pull4.pull4.pull4.keep5
 obtain rfl := some_inj hm
 exact ⟨z938, z935, v936, _, hx987, (fu 0 p0 z (fu 2 (Pt b674 0) z (fu 3 (Pt b702 0) z z))), hst⟩
}
}
 {
 clear hst
 rintro _ w988 ⟨z980, z983, v982, σ984, hm, rfl, hst⟩
 dsimp only [locks_Read_j2] at hm
 obtain ⟨y1106, hm, hx1107⟩ := bind_some hm
 refine wp_cut (fun a w => ∃ (z1100 : octet_Reader) (z1103 : (List Nat)) (v1102 : Value) (σ1104 : Nat → Value), (locks_Read_j4 t679 t684 t689 z823 z983) (z1100, z1103) = some r ∧ a = Fr 59 (upd (upd (upd σ1104 0 (p0)) 2 (Pt b674 0)) 3 (Pt b702 0)) ∧ St w0 w I [at_octet_Reader p0 z1100, cells b674 [Zu, Zu, Zu, Zs, Zs, Zs, Zs], cells b702 [U6 t679.1, U6 t684.1, U6 t689.1, v822, v982, v1102, Zs], ownS tyF64 v822 z823, ownS tyF2 v982 z983, ownS tyF64 v1102 z1103] R) ?_ ?_
 {
 refine wp_seq (wrl (wv (p0) z z z ?_))
 obtain ⟨t989, ht990, hm⟩ := bind_some hm
 refine wc call46 [p0, I6 (32:Int)] z z z ?_
 refine (octet_Reader_Count_ref hst.to1 ht990).mono ?_
 rintro _ w991 ⟨rfl, hst⟩
 refine ⟨_, z, ?_⟩
 replace hst := hst.of1
 refine wv (.int .i64 (0:Int)) z z z (wl_nil (tn (wp_block ?_)))
 replace hst := hst.own_nil tyF64
 obtain ⟨n1071, hm⟩ := loopO_some hm
 refine wp_loop_n (fun n a w => ∃ (z1065 : (List Nat)) (z1068 : octet_Reader) (z1069 : Int) (v1066 : Value) (σ1070 : Nat → Value), loopN (locks_Read_l5 t989) n (z1065, z1068, z1069) = some y1106 ∧ a = Fr 59 (upd (upd (upd (upd (upd σ1070 0 (p0)) 2 (Pt b674 0)) 3 (Pt b702 0)) 43 (.int .i64 t989.1)) 44 (.int .i64 z1069)) ∧ St w0 w I [ownS tyF64 v1066 z1065, at_octet_Reader p0 z1068, cells b674 [Zu, Zu, Zu, Zs, Zs, Zs, Zs], cells b702 [U6 t679.1, U6 t684.1, U6 t689.1, v822, v982, v1066, Zs], ownS tyF64 v822 z823, ownS tyF2 v982 z983] R) n1071 ⟨[], t989.2, (0:Int), Zs, _, hm, (fu 0 p0 z (fu 2 (Pt b674 0) z (fu 3 (Pt b702 0) z (fu 43 (.int .i64 t989.1) z (fu 44 (.int .i64 (0:Int)) z z))))), hst⟩ ?_
 rintro n1077 _ w1072 ⟨z1065, z1068, z1069, v1066, σ1070, hm, rfl, hst⟩
 obtain ⟨n1074, y1075, rfl, hm, hx1076⟩ := loopN_some hm
 dsimp only [locks_Read_l5] at hm
 refine wp_seq (wrl (wv (.bool (decide (z1069 < t989.1))) z z z (wl_nil (tn (wp_seq ?_)))))
 refine bsplit (decide (z1069 < t989.1)) (fun hc1078 => ?_) (fun hc1078 => ?_)
 {
 replace hm := bif_t hc1078 hm
 refine wp_ift (cvb hc1078) ?_
 refine wp_skip (tn (wp_seq (wp_block ?_)))
 refine wp_region_St hst 9 [0, 1, 2, 3, 4, 5, 6, 7, 8] [0, 1, 0, 4, 12, 28, 63, 127, 255] [] z (by kernel_rfl) (by kernel_rfl) Try.mixed (by kernel_rfl) ?_
 refine wsr (Pt b702 5) 0 z z z (by kernel_rfl) (fun w hst => x_field z underlying36 z sizeOf33 z) (wsr (v1066) 1 z z z (by kernel_rfl) (fun w hst => x_load z isAgg33 (hst.bc3 z)) (wsr (p0) 2 z z z (by kernel_rfl) (fun w hst => z) ?_))
 refine ws_e1 3 (by kernel_rfl) ?_
 refine nxe [4, 5, 6, 7, 8] (by kernel_rfl) z z ?_
 clear hst
 intro w hst
 replace hst := hst.pull1
 obtain ⟨t1079, ht1080, hm⟩ := bind_some hm
 refine wec call13 [p0, I6 (8:Int)] z z ?_
 refine (octet_Reader_Num_ref hst.to1 ht1080).mono ?_
 rintro _ w1081 ⟨rfl, hst⟩
 refine ⟨_, z, ?_⟩
 replace hst := hst.of1
 refine ws_next (pend' := [(1, v1066), (0, Pt b702 5)]) hst (by kernel_rfl) (pkr z z (fun w hst => x_load z isAgg33 (hst.bc3 z)) (pkr z z (fun w hst => x_field z underlying36 z sizeOf33 z) pk_nil)) ?_
 refine ws_e1 4 (by kernel_rfl) ?_
 refine nxe [5, 6, 7, 8] (by kernel_rfl) z z ?_
 clear hst
 intro w hst
 obtain ⟨t1084, ht1085, hm⟩ := bind_some hm
 refine wec call48 [U6 t1079.1] z z ?_
 refine (number_Back_ref hst.to0 ht1085).mono ?_
 rintro _ w1086 ⟨rfl, hst⟩
 refine ⟨_, z, ?_⟩
 replace hst := hst.of0
 refine ws_next (pend' := [(1, v1066), (0, Pt b702 5)]) hst (by kernel_rfl) (pkr z z (fun w hst => x_load z isAgg33 (hst.bc3 z)) (pkr z z (fun w hst => x_field z underlying36 z sizeOf33 z) pk_nil)) ?_
 refine ws_e1 5 (by kernel_rfl) ?_
 refine nxe [6, 7, 8] (by kernel_rfl) z z ?_
 clear hst
 intro w hst
 obtain ⟨b1089, w1090, ew1091, eb1092, hst⟩ := hst.lits (E := tyF64) (xs := [t1084]) [[F6 t1084]] 44 1 z (Reps.cons z Reps.nil)
 refine we_run (v := (.slice (some ⟨b1089, 0, none⟩) 1 1)) (w' := w1090) z (x_als (by kernel_rfl) ew1091 eb1092) ?_
 refine ws_next (pend' := [(1, v1066), (0, Pt b702 5)]) hst (by kernel_rfl) (pkr z z (fun w hst => x_load z isAgg33 (hst.bc4 z)) (pkr z z (fun w hst => x_field z underlying36 z sizeOf33 z) pk_nil)) ?_
 refine ws_e1 6 (by kernel_rfl) ?_
 refine nxe [7, 8] (by kernel_rfl) z z ?_
 clear hst
 intro w hst
 obtain ⟨hg1094, hm⟩ := gd_some hm
 replace hst := hst.pull2
 obtain ⟨v1095, w1096, hr1097, hst⟩ := run_append elem_33 underlying33 hst hst.src1 (room_of hg1094 z) 33
 refine we_run (v := v1095) (w' := w1096) z (x_append z z hr1097) ?_
 refine ws_next (pend' := []) hst (by kernel_rfl) pk_nil ?_
 refine wsr (Pt b702 5) 7 z z z (by kernel_rfl) (fun w hst => x_field z underlying36 z sizeOf33 z) ?_
 refine ws_e1 8 (by kernel_rfl) ?_
 refine nxe [] (by kernel_rfl) z z ?_
 clear hst
 intro w hst
 replace hst := hst.pull4
 obtain ⟨w1098, hr1099, hst⟩ := hst.boxStore1 (P := prog) (t := 33) (cs' := [U6 t679.1, U6 t684.1, U6 t689.1, v822, v982, v1095, Zs]) 5 v1095 (one_of_sliceV hst.sv1) sizeOf33 z z
 refine we_unit z (x_unit hr1099) ?_
 refine ws_next (pend' := []) hst (by kernel_rfl) pk_nil ?_
 refine ws_nil ?_
 intro w hst
 refine blk_n (tn (wrl ?_))
 refine wv (.int .i64 (i64.wrap (z1069 + (1:Int)))) z z z (wv (.int .i64 (i64.wrap (z1069 + (1:Int)))) z z z (wl_nil (tn ?_)))
 replace hst := hst.pull6.pull6.pull2.pull6.pull6.pull5.keep6
 obtain rfl := some_inj hm
 exact ⟨_, Nat.lt_succ_self _, (z1065 ++ ([t1084])), t1079.2, (i64.wrap (z1069 + (1:Int))), v1095, _, hx1076, (fu 0 p0 z (fu 2 (Pt b674 0) z (fu 3 (Pt b702 0) z (fu 43 (.int .i64 t989.1) z (fu 44 (.int .i64 (i64.wrap (z1069 + (1:Int)))) z z))))), hst⟩
}
 {
 replace hm := bif_f hc1078 hm
 refine wp_iff (cvb hc1078) ?_
 refine wp_exit (then_x (then_x ?_))
 replace hm := inr_up hm hx1076
 refine blk_x (tn ?_)
 replace hst := hst.pull5.pull5.pull5.pull5.pull5.keep6
 obtain rfl := some_inj hm
 exact ⟨z1068, z1065, v1066, _, hx1107, (fu 0 p0 z (fu 2 (Pt b674 0) z (fu 3 (Pt b702 0) z z))), hst⟩
}
}
 {
 clear hst
 rintro _ w1108 ⟨z1100, z1103, v1102, σ1104, hm, rfl, hst⟩
 dsimp only [locks_Read_j4] at hm
 refine wp_seq (wrl (wv (p0) z z z ?_))
 obtain ⟨t1109, ht1110, hm⟩ := bind_some hm
 refine wc call18 [p0, I6 (257:Int)] z z z ?_
 refine (octet_Reader_Bytes_ref hst.to1 ht1110).mono ?_
 rintro _ w1111 ⟨v1114, rfl, hst⟩
 refine ⟨_, z, ?_⟩
 replace hst := hst.of2
 refine wv (Pt b702 6) z z (x_field z underlying36 z sizeOf22 z) ?_
 replace hst := hst.pull3
 obtain ⟨w1116, hr1117, hst⟩ := hst.boxStore1 (P := prog) (t := 22) (cs' := [U6 t679.1, U6 t684.1, U6 t689.1, v822, v982, v1102, v1114]) 6 v1114 (one_of_sliceV hst.sv1) sizeOf22 z z
 refine wl_unit z z (x_unit hr1117) ?_
 refine wl_nil (tn (wp_seq (wrl (wv (.agg #[U6 t679.1, U6 t684.1, U6 t689.1, v822, v982, v1102, v1114]) z z (x_loadN (cs := [U6 t679.1, U6 t684.1, U6 t689.1, v822, v982, v1102, v1114]) z isAgg36 sizeOf36 (hst.bcs0 0 z)) ?_))))
 replace hst := hst.pull3
 obtain ⟨w1118, hr1119, hst⟩ := hst.bx [U6 t679.1, U6 t684.1, U6 t689.1, v822, v982, v1102, v1114] sizeOf36 z (oC z (oC z (oC z (oC (one_of_sliceV hst.sv4) (oC (one_of_sliceV hst.sv5) (oC (one_of_sliceV hst.sv6) (oC (one_of_sliceV hst.sv2) oN))))))) (by kernel_rfl)
 refine wl_unit z z (x_unit hr1119) ?_
 refine wl_nil (tn (wp_ret ?_))
 obtain rfl := some_inj hm
 refine post_ret (vs := [.agg #[U6 t679.1, U6 t684.1, U6 t689.1, v822, v982, v1102, v1114]]) results15 (rvs_cons (rv_cell (cs := [U6 t679.1, U6 t684.1, U6 t689.1, v822, v982, v1102, v1114]) z isAgg36 sizeOf36 (hst.bcs0 0 z)) rvs_nil) ?_
 replace hst := hst.pull3.pull3.pull6.pull6.pull6
 exact ⟨v822, v982, v1102, v1114, z, hst.keep5⟩
}
}
}
}

theorem command_ReadReply_ref {w0 w : World} {I : HL} {R : SP} {a0 : octet_Reader} {p0 : Value}  (hst : St w0 w I [at_octet_Reader p0 a0] R) {r : (api_Reply × octet_Reader)} (hm : command_ReadReply a0 = some r) :
  Calls prog 16 #[p0] w fun e w' => ∃ (I' : HL) (q0_0 : Value) (q0_1 : Value), e = .returned (.agg #[I6 r.1.E, U6 r.1.Epoch, U6 r.1.Index, q0_0, q0_1]) ∧ I.le I' ∧ St w0 w' I' [ownS ty_api_Got q0_0 r.1.Gots, ownS (tySl ty_api_Pair) q0_1 r.1.Scans, at_octet_Reader p0 r.2] R := by {
 unfold command_ReadReply at hm
 refine calls_start (args := [p0]) func16 z ntmps16 (Nat.le_of_ble_eq_true z) ?_
 have hI0 := HL.le.refl I
 refine wp_seq (wrl ?_)
 obtain ⟨b1183, w1184, ew1185, eb1186, hst⟩ := hst.box [Zi, Zu, Zu, Zs, Zs] 41
 refine wl_run (v := Pt b1183 0) (w' := w1184) z z (x_al (by kernel_rfl) ew1185 eb1186) ?_
 refine wl_nil (tn (wp_seq (wrl (wv (p0) z z z ?_))))
 replace hst := hst.pull1
 obtain ⟨t1188, ht1189, hm⟩ := bind_some hm
 refine wc call13 [p0, I6 (1:Int)] z z z ?_
 refine (octet_Reader_Num_ref hst.to1 ht1189).mono ?_
 rintro _ w1190 ⟨rfl, hst⟩
 refine ⟨_, z, ?_⟩
 replace hst := hst.of1
 refine wv (.int .i64 (i64.wrap t1188.1)) z z (by kernel_rfl) (wv (p0) z z z ?_)
 obtain ⟨t1193, ht1194, hm⟩ := bind_some hm
 refine wc call13 [p0, I6 (8:Int)] z z z ?_
 refine (octet_Reader_Num_ref hst.to1 ht1194).mono ?_
 rintro _ w1195 ⟨rfl, hst⟩
 refine ⟨_, z, ?_⟩
 replace hst := hst.of1
 refine wv (p0) z z z ?_
 obtain ⟨t1198, ht1199, hm⟩ := bind_some hm
 refine wc call13 [p0, I6 (8:Int)] z z z ?_
 refine (octet_Reader_Num_ref hst.to1 ht1199).mono ?_
 rintro _ w1200 ⟨rfl, hst⟩
 refine ⟨_, z, ?_⟩
 replace hst := hst.of1
 refine wv (.agg #[I6 (i64.wrap t1188.1), U6 t1193.1, U6 t1198.1, Zs, Zs]) z z (by kernel_rfl) ?_
 obtain ⟨b1207, w1208, ew1209, eb1210, hst⟩ := hst.box [Zi, Zu, Zu, Zs, Zs] 41
 refine wl_run (v := Pt b1207 0) (w' := w1208) z z (x_al (by kernel_rfl) ew1209 eb1210) ?_
 obtain ⟨w1212, hr1213, hst⟩ := hst.bx [I6 (i64.wrap t1188.1), U6 t1193.1, U6 t1198.1, Zs, Zs] sizeOf41 z (oC z (oC z (oC z (oC z (oC z oN))))) (by kernel_rfl)
 refine wl_unit z z (x_unit hr1213) ?_
 refine wl_nil (tn ?_)
 obtain ⟨y1361, hm, hx1362⟩ := bind_some hm
 refine wp_cut (fun a w => ∃ (I1358 : HL) (z1354 : octet_Reader) (z1357 : (List api_Got)) (v1356 : Value) (σ1359 : Nat → Value), (command_ReadReply_j0 t1188 t1193 t1198) (z1354, z1357) = some r ∧ a = Fr 54 (upd (upd (upd σ1359 0 (p0)) 2 (Pt b1183 0)) 3 (Pt b1207 0)) ∧ I.le I1358 ∧ St w0 w I1358 [at_octet_Reader p0 z1354, cells b1183 [Zi, Zu, Zu, Zs, Zs], cells b1207 [I6 (i64.wrap t1188.1), U6 t1193.1, U6 t1198.1, v1356, Zs], ownS ty_api_Got v1356 z1357] R) ?_ ?_
 {
 have hL1363 := HL.le.refl I
 refine wp_seq (wrl (wv (p0) z z z ?_))
 replace hst := hst.pull1
 obtain ⟨t1214, ht1215, hm⟩ := bind_some hm
 refine wc call46 [p0, I6 (32:Int)] z z z ?_
 refine (octet_Reader_Count_ref hst.to1 ht1215).mono ?_
 rintro _ w1216 ⟨rfl, hst⟩
 refine ⟨_, z, ?_⟩
 replace hst := hst.of1
 refine wv (.int .i64 (0:Int)) z z z (wl_nil (tn (wp_block ?_)))
 replace hst := hst.own_nil ty_api_Got
 obtain ⟨n1318, hm⟩ := loopO_some hm
 refine wp_loop_n (fun n a w => ∃ (I1316 : HL) (z1311 : (List api_Got)) (z1314 : octet_Reader) (z1315 : Int) (v1312 : Value) (σ1317 : Nat → Value), loopN (command_ReadReply_l1 t1214) n (z1311, z1314, z1315) = some y1361 ∧ a = Fr 54 (upd (upd (upd (upd (upd σ1317 0 (p0)) 2 (Pt b1183 0)) 3 (Pt b1207 0)) 14 (.int .i64 t1214.1)) 15 (.int .i64 z1315)) ∧ I.le I1316 ∧ St w0 w I1316 [ownS ty_api_Got v1312 z1311, at_octet_Reader p0 z1314, cells b1207 [I6 (i64.wrap t1188.1), U6 t1193.1, U6 t1198.1, v1312, Zs], cells b1183 [Zi, Zu, Zu, Zs, Zs]] R) n1318 ⟨_, [], t1214.2, (0:Int), Zs, _, hm, (fu 0 p0 z (fu 2 (Pt b1183 0) z (fu 3 (Pt b1207 0) z (fu 14 (.int .i64 t1214.1) z (fu 15 (.int .i64 (0:Int)) z z))))), (HL.le.refl _), hst⟩ ?_
 rintro n1324 _ w1319 ⟨I1316, z1311, z1314, z1315, v1312, σ1317, hm, rfl, hL1320, hst⟩
 obtain ⟨n1321, y1322, rfl, hm, hx1323⟩ := loopN_some hm
 dsimp only [command_ReadReply_l1] at hm
 replace hI0 := hI0.trans hL1320
 replace hL1363 := hL1363.trans hL1320
 refine wp_seq (wrl (wv (.bool (decide (z1315 < t1214.1))) z z z (wl_nil (tn (wp_seq ?_)))))
 refine bsplit (decide (z1315 < t1214.1)) (fun hc1325 => ?_) (fun hc1325 => ?_)
 {
 replace hm := bif_t hc1325 hm
 refine wp_ift (cvb hc1325) ?_
 refine wp_skip (tn (wp_seq (wp_block ?_)))
 refine wp_region_St hst 11 [0, 1, 2, 3, 4, 5, 6, 7, 8, 9, 10] [0, 1, 0, 4, 0, 28, 60, 124, 255, 511, 1023] [] z (by kernel_rfl) (by kernel_rfl) Try.mixed (by kernel_rfl) ?_
 refine wsr (Pt b1207 3) 0 z z z (by kernel_rfl) (fun w hst => x_field z underlying41 z sizeOf38 z) (wsr (v1312) 1 z z z (by kernel_rfl) (fun w hst => x_load z isAgg38 (hst.bc2 z)) (wsr (p0) 2 z z z (by kernel_rfl) (fun w hst => z) (wsr (p0) 4 z z z (by kernel_rfl) (fun w hst => z) ?_)))
 refine ws_e1 3 (by kernel_rfl) ?_
 refine nxe [5, 6, 7, 8, 9, 10] (by kernel_rfl) z z ?_
 clear hst
 intro w hst
 replace hst := hst.pull1
 obtain ⟨t1326, ht1327, hm⟩ := bind_some hm
 refine wec call45 [p0] z z ?_
 refine (octet_Reader_Flag_ref hst.to1 ht1327).mono ?_
 rintro _ w1328 ⟨rfl, hst⟩
 refine ⟨_, z, ?_⟩
 replace hst := hst.of1
 refine ws_next (pend' := [(4, p0), (1, v1312), (0, Pt b1207 3)]) hst (by kernel_rfl) (pkr z z (fun w hst => z) (pkr z z (fun w hst => x_load z isAgg38 (hst.bc2 z)) (pkr z z (fun w hst => x_field z underlying41 z sizeOf38 z) pk_nil))) ?_
 refine ws_e1 5 (by kernel_rfl) ?_
 refine nxe [6, 7, 8, 9, 10] (by kernel_rfl) z z ?_
 clear hst
 intro w hst
 obtain ⟨t1331, ht1332, hm⟩ := bind_some hm
 refine wec call18 [p0, I6 (256:Int)] z z ?_
 refine (octet_Reader_Bytes_ref hst.to1 ht1332).mono ?_
 rintro _ w1333 ⟨v1336, rfl, hst⟩
 refine ⟨_, z, ?_⟩
 replace hst := hst.of2
 refine ws_next (pend' := [(1, v1312), (0, Pt b1207 3)]) hst (by kernel_rfl) (pkr z z (fun w hst => x_load z isAgg38 (hst.bc3 z)) (pkr z z (fun w hst => x_field z underlying41 z sizeOf38 z) pk_nil)) ?_
 refine wsr (.agg #[.bool t1326.1, v1336]) 6 rfl rfl rfl (by kernel_rfl) (fun w hst => by obtain ⟨_, _, hv_, _⟩ := hst.sv0; rw [hv_]; kernel_rfl) ?_
 refine ws_e1 7 (by kernel_rfl) ?_
 refine nxe [8, 9, 10] (by kernel_rfl) z z ?_
 clear hst
 intro w hst
 obtain ⟨I1340, hI1341, f1342, hst⟩ := hst.own_fix
 replace hI0 := hI0.trans hI1341
 replace hL1363 := hL1363.trans hI1341
 replace hL1320 := hL1320.trans hI1341
 obtain ⟨b1343, w1344, ew1345, eb1346, hst⟩ := hst.lits (E := ty_api_Got) (xs := [({ Has := t1326.1, Val := t1331.1 } : api_Got)]) [[.bool t1326.1, v1336]] 104 1 z (Reps.cons ⟨_, z, f1342, one_of_sliceV (ro_sliceV f1342)⟩ Reps.nil)
 refine we_run (v := (.slice (some ⟨b1343, 0, none⟩) 1 1)) (w' := w1344) z (x_als (by kernel_rfl) ew1345 eb1346) ?_
 refine ws_next (pend' := [(1, v1312), (0, Pt b1207 3)]) hst (by kernel_rfl) (pkr z z (fun w hst => x_load z isAgg38 (hst.bc3 z)) (pkr z z (fun w hst => x_field z underlying41 z sizeOf38 z) pk_nil)) ?_
 refine ws_e1 8 (by kernel_rfl) ?_
 refine nxe [9, 10] (by kernel_rfl) z z ?_
 clear hst
 intro w hst
 obtain ⟨hg1348, hm⟩ := gd_some hm
 replace hst := hst.pull2
 obtain ⟨v1349, w1350, hr1351, hst⟩ := run_append elem_38 underlying38 hst hst.src1 (room_of hg1348 z) 38
 refine we_run (v := v1349) (w' := w1350) z (x_append z z hr1351) ?_
 refine ws_next (pend' := []) hst (by kernel_rfl) pk_nil ?_
 refine wsr (Pt b1207 3) 9 z z z (by kernel_rfl) (fun w hst => x_field z underlying41 z sizeOf38 z) ?_
 refine ws_e1 10 (by kernel_rfl) ?_
 refine nxe [] (by kernel_rfl) z z ?_
 clear hst
 intro w hst
 replace hst := hst.pull3
 obtain ⟨w1352, hr1353, hst⟩ := hst.boxStore1 (P := prog) (t := 38) (cs' := [I6 (i64.wrap t1188.1), U6 t1193.1, U6 t1198.1, v1349, Zs]) 3 v1349 (one_of_sliceV hst.sv1) sizeOf38 z z
 refine we_unit z (x_unit hr1353) ?_
 refine ws_next (pend' := []) hst (by kernel_rfl) pk_nil ?_
 refine ws_nil ?_
 intro w hst
 refine blk_n (tn (wrl ?_))
 refine wv (.int .i64 (i64.wrap (z1315 + (1:Int)))) z z z (wv (.int .i64 (i64.wrap (z1315 + (1:Int)))) z z z (wl_nil (tn ?_)))
 replace hst := hst.pull4.pull1.pull4.pull3.keep4
 obtain rfl := some_inj hm
 exact ⟨_, Nat.lt_succ_self _, _, (z1311 ++ ([({ Has := t1326.1, Val := t1331.1 } : api_Got)])), t1331.2, (i64.wrap (z1315 + (1:Int))), v1349, _, hx1323, (fu 0 p0 z (fu 2 (Pt b1183 0) z (fu 3 (Pt b1207 0) z (fu 14 (.int .i64 t1214.1) z (fu 15 (.int .i64 (i64.wrap (z1315 + (1:Int)))) z z))))), hL1320, hst⟩
}
 {
 replace hm := bif_f hc1325 hm
 refine wp_iff (cvb hc1325) ?_
 refine wp_exit (then_x (then_x ?_))
 replace hm := inr_up hm hx1323
 refine blk_x (tn ?_)
 replace hst := hst.pull2.pull3.pull3.keep4
 obtain rfl := some_inj hm
 exact ⟨_, z1314, z1311, v1312, _, hx1362, (fu 0 p0 z (fu 2 (Pt b1183 0) z (fu 3 (Pt b1207 0) z z))), hL1363, hst⟩
}
}
 {
 clear hst
 rintro _ w1364 ⟨I1358, z1354, z1357, v1356, σ1359, hm, rfl, hL1360, hst⟩
 dsimp only [command_ReadReply_j0] at hm
 replace hI0 := hI0.trans hL1360
 refine wp_seq (wp_seq (wrl (wv (p0) z z z ?_)))
 obtain ⟨t1365, ht1366, hm⟩ := bind_some hm
 refine wc call46 [p0, I6 (32:Int)] z z z ?_
 refine (octet_Reader_Count_ref hst.to1 ht1366).mono ?_
 rintro _ w1367 ⟨rfl, hst⟩
 refine ⟨_, z, ?_⟩
 replace hst := hst.of1
 refine wv (.int .i64 (0:Int)) z z z (wl_nil (tn (wp_block ?_)))
 replace hst := hst.own_nil (tySl ty_api_Pair)
 obtain ⟨n1922, hm⟩ := loopO_some hm
 refine wp_loop_n (fun n a w => ∃ (I1920 : HL) (z1915 : (List (List api_Pair))) (z1918 : octet_Reader) (z1919 : Int) (v1916 : Value) (σ1921 : Nat → Value), loopN (command_ReadReply_l2 t1365 t1188 t1193 t1198 z1357) n (z1915, z1918, z1919) = some r ∧ a = Fr 54 (upd (upd (upd (upd (upd σ1921 0 (p0)) 2 (Pt b1183 0)) 3 (Pt b1207 0)) 29 (.int .i64 t1365.1)) 30 (.int .i64 z1919)) ∧ I1358.le I1920 ∧ St w0 w I1920 [ownS (tySl ty_api_Pair) v1916 z1915, at_octet_Reader p0 z1918, cells b1183 [Zi, Zu, Zu, Zs, Zs], cells b1207 [I6 (i64.wrap t1188.1), U6 t1193.1, U6 t1198.1, v1356, v1916], ownS ty_api_Got v1356 z1357] R) n1922 ⟨_, [], t1365.2, (0:Int), Zs, _, hm, (fu 0 p0 z (fu 2 (Pt b1183 0) z (fu 3 (Pt b1207 0) z (fu 29 (.int .i64 t1365.1) z (fu 30 (.int .i64 (0:Int)) z z))))), (HL.le.refl _), hst⟩ ?_
 rintro n1928 _ w1923 ⟨I1920, z1915, z1918, z1919, v1916, σ1921, hm, rfl, hL1924, hst⟩
 obtain ⟨n1925, y1926, rfl, hm, hx1927⟩ := loopN_some hm
 dsimp only [command_ReadReply_l2] at hm
 replace hI0 := hI0.trans hL1924
 refine wp_seq (wrl (wv (.bool (decide (z1919 < t1365.1))) z z z (wl_nil (tn (wp_seq ?_)))))
 refine bsplit (decide (z1919 < t1365.1)) (fun hc1929 => ?_) (fun hc1929 => ?_)
 {
 replace hm := bif_t hc1929 hm
 refine wp_ift (cvb hc1929) ?_
 refine wp_skip (tn (wp_seq (wp_block (wp_seq (wrl ?_)))))
 refine wv ((.slice none 0 0)) z z z (wl_nil (tn ?_))
 obtain ⟨y2090, hm, hx2091⟩ := bind_some hm
 refine wp_cut (fun a w => ∃ (I2087 : HL) (z2083 : octet_Reader) (z2086 : (List api_Pair)) (v2085 : Value) (σ2088 : Nat → Value), (command_ReadReply_j3 z1915 z1919) (z2083, z2086) = some y1926 ∧ a = Fr 54 (upd (upd (upd (upd (upd (upd σ2088 0 (p0)) 2 (Pt b1183 0)) 3 (Pt b1207 0)) 4 (v2085)) 29 (.int .i64 t1365.1)) 30 (.int .i64 z1919)) ∧ I1920.le I2087 ∧ St w0 w I2087 [at_octet_Reader p0 z2083, cells b1183 [Zi, Zu, Zu, Zs, Zs], cells b1207 [I6 (i64.wrap t1188.1), U6 t1193.1, U6 t1198.1, v1356, v1916], ownS ty_api_Got v1356 z1357, ownS (tySl ty_api_Pair) v1916 z1915, ownS ty_api_Pair v2085 z2086] R) ?_ ?_
 {
 have hL2092 := HL.le.refl I1920
 refine wp_seq (wrl (wv (p0) z z z ?_))
 replace hst := hst.pull1
 obtain ⟨t1931, ht1932, hm⟩ := bind_some hm
 refine wc call46 [p0, I6 (64:Int)] z z z ?_
 refine (octet_Reader_Count_ref hst.to1 ht1932).mono ?_
 rintro _ w1933 ⟨rfl, hst⟩
 refine ⟨_, z, ?_⟩
 replace hst := hst.of1
 refine wv (.int .i64 (0:Int)) z z z (wl_nil (tn (wp_block ?_)))
 replace hst := hst.own_nil ty_api_Pair
 obtain ⟨n2044, hm⟩ := loopO_some hm
 refine wp_loop_n (fun n a w => ∃ (I2042 : HL) (z2037 : octet_Reader) (z2038 : Int) (z2039 : (List api_Pair)) (v2040 : Value) (σ2043 : Nat → Value), loopN (command_ReadReply_l4 t1931) n (z2037, z2038, z2039) = some y2090 ∧ a = Fr 54 (upd (upd (upd (upd (upd (upd (upd (upd σ2043 0 (p0)) 2 (Pt b1183 0)) 3 (Pt b1207 0)) 4 (v2040)) 29 (.int .i64 t1365.1)) 30 (.int .i64 z1919)) 33 (.int .i64 t1931.1)) 34 (.int .i64 z2038)) ∧ I1920.le I2042 ∧ St w0 w I2042 [ownS ty_api_Pair v2040 z2039, at_octet_Reader p0 z2037, ownS (tySl ty_api_Pair) v1916 z1915, cells b1183 [Zi, Zu, Zu, Zs, Zs], cells b1207 [I6 (i64.wrap t1188.1), U6 t1193.1, U6 t1198.1, v1356, v1916], ownS ty_api_Got v1356 z1357] R) n2044 ⟨_, t1931.2, (0:Int), [], Zs, _, hm, (fu 0 p0 z (fu 2 (Pt b1183 0) z (fu 3 (Pt b1207 0) z (fu 4 (.slice none 0 0) z (fu 29 (.int .i64 t1365.1) z (fu 30 (.int .i64 z1919) z (fu 33 (.int .i64 t1931.1) z (fu 34 (.int .i64 (0:Int)) z z)))))))), (HL.le.refl _), hst⟩ ?_
 rintro n2050 _ w2045 ⟨I2042, z2037, z2038, z2039, v2040, σ2043, hm, rfl, hL2046, hst⟩
 obtain ⟨n2047, y2048, rfl, hm, hx2049⟩ := loopN_some hm
 dsimp only [command_ReadReply_l4] at hm
 replace hI0 := hI0.trans hL2046
 replace hL1924 := hL1924.trans hL2046
 replace hL2092 := hL2092.trans hL2046
 refine wp_seq (wrl (wv (.bool (decide (z2038 < t1931.1))) z z z (wl_nil (tn (wp_seq ?_)))))
 refine bsplit (decide (z2038 < t1931.1)) (fun hc2051 => ?_) (fun hc2051 => ?_)
 {
 replace hm := bif_t hc2051 hm
 refine wp_ift (cvb hc2051) ?_
 refine wp_skip (tn (wp_seq (wp_block (wrl ?_))))
 refine wv (v2040) z z z (wv (p0) z z z ?_)
 replace hst := hst.pull1
 obtain ⟨t2052, ht2053, hm⟩ := bind_some hm
 refine wc call13 [p0, I6 (8:Int)] z z z ?_
 refine (octet_Reader_Num_ref hst.to1 ht2053).mono ?_
 rintro _ w2054 ⟨rfl, hst⟩
 refine ⟨_, z, ?_⟩
 replace hst := hst.of1
 obtain ⟨t2057, ht2058, hm⟩ := bind_some hm
 refine wc call48 [U6 t2052.1] z z z ?_
 refine (number_Back_ref hst.to0 ht2058).mono ?_
 rintro _ w2059 ⟨rfl, hst⟩
 refine ⟨_, z, ?_⟩
 replace hst := hst.of0
 refine wv (p0) z z z ?_
 obtain ⟨t2062, ht2063, hm⟩ := bind_some hm
 refine wc call18 [p0, I6 (256:Int)] z z z ?_
 refine (octet_Reader_Bytes_ref hst.to1 ht2063).mono ?_
 rintro _ w2064 ⟨v2067, rfl, hst⟩
 refine ⟨_, z, ?_⟩
 replace hst := hst.of2
 refine wv (.agg #[F6 t2057, v2067]) z z (by obtain ⟨_, _, hv_, _⟩ := hst.sv0; rw [hv_]; kernel_rfl) ?_
 obtain ⟨I2071, hI2072, f2073, hst⟩ := hst.own_fix
 replace hI0 := hI0.trans hI2072
 replace hL1924 := hL1924.trans hI2072
 replace hL2092 := hL2092.trans hI2072
 replace hL2046 := hL2046.trans hI2072
 obtain ⟨b2074, w2075, ew2076, eb2077, hst⟩ := hst.lits (E := ty_api_Pair) (xs := [({ At := t2057, Val := t2062.1 } : api_Pair)]) [[F6 t2057, v2067]] 107 1 z (Reps.cons ⟨_, z, f2073, one_of_sliceV (ro_sliceV f2073)⟩ Reps.nil)
 refine wl_run (v := (.slice (some ⟨b2074, 0, none⟩) 1 1)) (w' := w2075) z z (x_als (by kernel_rfl) ew2076 eb2077) ?_
 obtain ⟨hg2079, hm⟩ := gd_some hm
 replace hst := hst.pull2
 obtain ⟨v2080, w2081, hr2082, hst⟩ := run_append elem_105 underlying105 hst hst.src1 (room_of hg2079 z) 105
 refine wl_run (v := v2080) (w' := w2081) z z (x_append z z hr2082) ?_
 refine wv (v2080) z z z (wl_nil (blk_n (tn (wrl (wv (.int .i64 (i64.wrap (z2038 + (1:Int)))) z z z (wv (.int .i64 (i64.wrap (z2038 + (1:Int)))) z z z (wl_nil (tn ?_))))))))
 replace hst := hst.pull6.pull6.pull6.pull6.pull6.pull5.keep6
 obtain rfl := some_inj hm
 exact ⟨_, Nat.lt_succ_self _, _, t2062.2, (i64.wrap (z2038 + (1:Int))), (z2039 ++ ([({ At := t2057, Val := t2062.1 } : api_Pair)])), v2080, _, hx2049, (fu 0 p0 z (fu 2 (Pt b1183 0) z (fu 3 (Pt b1207 0) z (fu 4 v2080 z (fu 29 (.int .i64 t1365.1) z (fu 30 (.int .i64 z1919) z (fu 33 (.int .i64 t1931.1) z (fu 34 (.int .i64 (i64.wrap (z2038 + (1:Int)))) z z)))))))), hL2046, hst⟩
}
 {
 replace hm := bif_f hc2051 hm
 refine wp_iff (cvb hc2051) ?_
 refine wp_exit (then_x (then_x ?_))
 replace hm := inr_up hm hx2049
 refine blk_x (tn ?_)
 replace hst := hst.pull2.pull5.pull5.pull5.pull5.keep6
 obtain rfl := some_inj hm
 exact ⟨_, z2037, z2039, v2040, _, hx2091, (fu 0 p0 z (fu 2 (Pt b1183 0) z (fu 3 (Pt b1207 0) z (fu 4 v2040 z (fu 29 (.int .i64 t1365.1) z (fu 30 (.int .i64 z1919) z z)))))), hL2092, hst⟩
}
}
 {
 clear hst
 rintro _ w2093 ⟨I2087, z2083, z2086, v2085, σ2088, hm, rfl, hL2089, hst⟩
 dsimp only [command_ReadReply_j3] at hm
 replace hI0 := hI0.trans hL2089
 replace hL1924 := hL1924.trans hL2089
 refine wrl (wv (Pt b1207 4) z z (x_field z underlying41 z sizeOf39 z) (wv (v1916) z z (x_load z isAgg39 (hst.bc2 z)) (wv (v2085) z z z ?_)))
 replace hst := hst.pull5
 obtain ⟨I2095, hI2096, f2097, hst⟩ := hst.own_fix
 replace hI0 := hI0.trans hI2096
 replace hL1924 := hL1924.trans hI2096
 obtain ⟨b2098, w2099, ew2100, eb2101, hst⟩ := hst.lits (E := (tySl ty_api_Pair)) (xs := [z2086]) [[v2085]] 105 1 z (Reps.cons ⟨_, z, f2097, one_of_sliceV (ro_sliceV f2097)⟩ Reps.nil)
 refine wl_run (v := (.slice (some ⟨b2098, 0, none⟩) 1 1)) (w' := w2099) z z (x_als (by obtain ⟨_, _, hv_, _⟩ := (ro_sliceV f2097); rw [hv_]; kernel_rfl) ew2100 eb2101) ?_
 obtain ⟨hg2103, hm⟩ := gd_some hm
 replace hst := hst.pull5
 obtain ⟨v2104, w2105, hr2106, hst⟩ := run_append elem_39 underlying39 hst hst.src1 (room_of hg2103 z) 39
 refine wl_run (v := v2104) (w' := w2105) z z (x_append z z hr2106) ?_
 refine wv (Pt b1207 4) z z (x_field z underlying41 z sizeOf39 z) ?_
 replace hst := hst.pull4
 obtain ⟨w2107, hr2108, hst⟩ := hst.boxStore1 (P := prog) (t := 39) (cs' := [I6 (i64.wrap t1188.1), U6 t1193.1, U6 t1198.1, v1356, v2104]) 4 v2104 (one_of_sliceV hst.sv1) sizeOf39 z z
 refine wl_unit z z (x_unit hr2108) ?_
 refine wl_nil (blk_n (tn (wrl (wv (.int .i64 (i64.wrap (z1919 + (1:Int)))) z z z (wv (.int .i64 (i64.wrap (z1919 + (1:Int)))) z z z (wl_nil (tn ?_)))))))
 replace hst := hst.pull5.pull1.pull5.pull5.pull4.keep5
 obtain rfl := some_inj hm
 exact ⟨_, Nat.lt_succ_self _, _, (z1915 ++ ([z2086])), z2083, (i64.wrap (z1919 + (1:Int))), v2104, _, hx1927, (fu 0 p0 z (fu 2 (Pt b1183 0) z (fu 3 (Pt b1207 0) z (fu 29 (.int .i64 t1365.1) z (fu 30 (.int .i64 (i64.wrap (z1919 + (1:Int)))) z z))))), hL1924, hst⟩
}
}
 {
 replace hm := bif_f hc1929 hm
 refine wp_iff (cvb hc1929) ?_
 refine wp_exit (then_x (then_x ?_))
 replace hm := inr_up hm hx1927
 refine blk_x (tn (wp_seq (wrl ?_)))
 refine wv (.agg #[I6 (i64.wrap t1188.1), U6 t1193.1, U6 t1198.1, v1356, v1916]) z z (x_loadN (cs := [I6 (i64.wrap t1188.1), U6 t1193.1, U6 t1198.1, v1356, v1916]) z isAgg41 sizeOf41 (hst.bcs3 0 z)) ?_
 replace hst := hst.pull2
 obtain ⟨w2109, hr2110, hst⟩ := hst.bx [I6 (i64.wrap t1188.1), U6 t1193.1, U6 t1198.1, v1356, v1916] sizeOf41 z (oC z (oC z (oC z (oC (one_of_sliceV hst.sv4) (oC (one_of_sliceV hst.sv1) oN))))) (by kernel_rfl)
 refine wl_unit z z (x_unit hr2110) ?_
 refine wl_nil (tn (wp_ret ?_))
 obtain rfl := some_inj hm
 refine post_ret (vs := [.agg #[I6 (i64.wrap t1188.1), U6 t1193.1, U6 t1198.1, v1356, v1916]]) results16 (rvs_cons (rv_cell (cs := [I6 (i64.wrap t1188.1), U6 t1193.1, U6 t1198.1, v1356, v1916]) z isAgg41 sizeOf41 (hst.bcs0 0 z)) rvs_nil) ?_
 replace hst := hst.pull2.pull2.pull4
 exact ⟨_, v1356, v1916, z, hI0, hst.keep3⟩
}
}
}

theorem command_readWrites_ref {w0 w : World} {I : HL} {R : SP} {a0 : octet_Reader} {p0 : Value}  (hst : St w0 w I [at_octet_Reader p0 a0] R) {r : ((List api_Write) × octet_Reader)} (hm : command_readWrites a0 = some r) :
  Calls prog 50 #[p0] w fun e w' => ∃ (I' : HL) (q0_0 : Value), e = .returned (q0_0) ∧ I.le I' ∧ St w0 w' I' [ownS ty_api_Write q0_0 r.1, at_octet_Reader p0 r.2] R := by {
 unfold command_readWrites at hm
 refine calls_start (args := [p0]) func50 z ntmps50 (Nat.le_of_ble_eq_true z) ?_
 have hI0 := HL.le.refl I
 refine wp_seq (wrl (wv ((.slice none 0 0)) z z z (wl_nil (tn (wp_seq (wrl (wv ((.slice none 0 0)) z z z (wl_nil (tn (wp_seq (wp_seq (wrl (wv (p0) z z z ?_)))))))))))))
 obtain ⟨t571, ht572, hm⟩ := bind_some hm
 refine wc call46 [p0, I6 (32:Int)] z z z ?_
 refine (octet_Reader_Count_ref hst.to1 ht572).mono ?_
 rintro _ w573 ⟨rfl, hst⟩
 refine ⟨_, z, ?_⟩
 replace hst := hst.of1
 refine wv (.int .i64 (0:Int)) z z z (wl_nil (tn (wp_block ?_)))
 replace hst := hst.own_nil ty_api_Write
 obtain ⟨n699, hm⟩ := loopO_some hm
 refine wp_loop_n (fun n a w => ∃ (I697 : HL) (z692 : octet_Reader) (z693 : (List api_Write)) (z696 : Int) (v694 : Value) (σ698 : Nat → Value), loopN (command_readWrites_l0 t571) n (z692, z693, z696) = some r ∧ a = Fr 21 (upd (upd (upd (upd σ698 0 (p0)) 3 (v694)) 5 (.int .i64 t571.1)) 6 (.int .i64 z696)) ∧ I.le I697 ∧ St w0 w I697 [ownS ty_api_Write v694 z693, at_octet_Reader p0 z692] R) n699 ⟨_, t571.2, [], (0:Int), Zs, _, hm, (fu 0 p0 z (fu 3 (.slice none 0 0) z (fu 5 (.int .i64 t571.1) z (fu 6 (.int .i64 (0:Int)) z z)))), (HL.le.refl _), hst⟩ ?_
 rintro n705 _ w700 ⟨I697, z692, z693, z696, v694, σ698, hm, rfl, hL701, hst⟩
 obtain ⟨n702, y703, rfl, hm, hx704⟩ := loopN_some hm
 dsimp only [command_readWrites_l0] at hm
 replace hI0 := hI0.trans hL701
 refine wp_seq (wrl (wv (.bool (decide (z696 < t571.1))) z z z (wl_nil (tn (wp_seq ?_)))))
 refine bsplit (decide (z696 < t571.1)) (fun hc706 => ?_) (fun hc706 => ?_)
 {
 replace hm := bif_t hc706 hm
 refine wp_ift (cvb hc706) ?_
 refine wp_skip (tn (wp_seq (wp_block (wrl ?_))))
 refine wv (v694) z z z (wv (p0) z z z ?_)
 replace hst := hst.pull1
 obtain ⟨t707, ht708, hm⟩ := bind_some hm
 refine wc call13 [p0, I6 (8:Int)] z z z ?_
 refine (octet_Reader_Num_ref hst.to1 ht708).mono ?_
 rintro _ w709 ⟨rfl, hst⟩
 refine ⟨_, z, ?_⟩
 replace hst := hst.of1
 obtain ⟨t712, ht713, hm⟩ := bind_some hm
 refine wc call48 [U6 t707.1] z z z ?_
 refine (number_Back_ref hst.to0 ht713).mono ?_
 rintro _ w714 ⟨rfl, hst⟩
 refine ⟨_, z, ?_⟩
 replace hst := hst.of0
 refine wv (p0) z z z ?_
 obtain ⟨t717, ht718, hm⟩ := bind_some hm
 refine wc call45 [p0] z z z ?_
 refine (octet_Reader_Flag_ref hst.to1 ht718).mono ?_
 rintro _ w719 ⟨rfl, hst⟩
 refine ⟨_, z, ?_⟩
 replace hst := hst.of1
 refine wv (p0) z z z ?_
 obtain ⟨t722, ht723, hm⟩ := bind_some hm
 refine wc call18 [p0, I6 (256:Int)] z z z ?_
 refine (octet_Reader_Bytes_ref hst.to1 ht723).mono ?_
 rintro _ w724 ⟨v727, rfl, hst⟩
 refine ⟨_, z, ?_⟩
 replace hst := hst.of2
 refine wv (.agg #[F6 t712, .bool t717.1, v727]) z z (by obtain ⟨_, _, hv_, _⟩ := hst.sv0; rw [hv_]; kernel_rfl) ?_
 obtain ⟨I731, hI732, f733, hst⟩ := hst.own_fix
 replace hI0 := hI0.trans hI732
 replace hL701 := hL701.trans hI732
 obtain ⟨b734, w735, ew736, eb737, hst⟩ := hst.lits (E := ty_api_Write) (xs := [({ At := t712, Del := t717.1, Val := t722.1 } : api_Write)]) [[F6 t712, .bool t717.1, v727]] 120 1 z (Reps.cons ⟨_, z, f733, one_of_sliceV (ro_sliceV f733)⟩ Reps.nil)
 refine wl_run (v := (.slice (some ⟨b734, 0, none⟩) 1 1)) (w' := w735) z z (x_als (by kernel_rfl) ew736 eb737) ?_
 obtain ⟨hg739, hm⟩ := gd_some hm
 replace hst := hst.pull2
 obtain ⟨v740, w741, hr742, hst⟩ := run_append elem_42 underlying42 hst hst.src1 (room_of hg739 z) 42
 refine wl_run (v := v740) (w' := w741) z z (x_append z z hr742) ?_
 refine wv (v740) z z z (wl_nil (blk_n (tn (wrl (wv (.int .i64 (i64.wrap (z696 + (1:Int)))) z z z (wv (.int .i64 (i64.wrap (z696 + (1:Int)))) z z z (wl_nil (tn ?_))))))))
 replace hst := hst.pull2.pull1.keep2
 obtain rfl := some_inj hm
 exact ⟨_, Nat.lt_succ_self _, _, t722.2, (z693 ++ ([({ At := t712, Del := t717.1, Val := t722.1 } : api_Write)])), (i64.wrap (z696 + (1:Int))), v740, _, hx704, (fu 0 p0 z (fu 3 v740 z (fu 5 (.int .i64 t571.1) z (fu 6 (.int .i64 (i64.wrap (z696 + (1:Int)))) z z)))), hL701, hst⟩
}
 {
 replace hm := bif_f hc706 hm
 refine wp_iff (cvb hc706) ?_
 refine wp_exit (then_x (then_x ?_))
 replace hm := inr_up hm hx704
 refine blk_x (tn (wp_seq (wrl ?_)))
 refine wv (v694) z z z (wv (v694) z z z (wl_nil (tn (wp_ret ?_))))
 obtain rfl := some_inj hm
 refine post_ret (vs := [v694]) results50 (rvs_cons (rv_tmp z) rvs_nil) ?_
 replace hst := hst.pull1.pull1
 exact ⟨_, v694, z, hI0, hst.keep2⟩
}
}

theorem command_readRule_ref {w0 w : World} {I : HL} {R : SP} {a0 : octet_Reader} {p0 : Value}  (hst : St w0 w I [at_octet_Reader p0 a0] R) {r : (api_Rule × octet_Reader)} (hm : command_readRule a0 = some r) :
  Calls prog 51 #[p0] w fun e w' => e = .returned (.agg #[U6 r.1.ID, I6 r.1.From, I6 r.1.To, F6 r.1.Lo, F6 r.1.Hi, U6 r.1.Authority, I6 r.1.Quota]) ∧ St w0 w' I [at_octet_Reader p0 r.2] R := by {
 unfold command_readRule at hm
 refine calls_start (args := [p0]) func51 z ntmps51 (Nat.le_of_ble_eq_true z) ?_
 refine wp_seq (wrl ?_)
 obtain ⟨b673, w674, ew675, eb676, hst⟩ := hst.box [Zu, Zi, Zi, Zf, Zf, Zu, Zi] 46
 refine wl_run (v := Pt b673 0) (w' := w674) z z (x_al (by kernel_rfl) ew675 eb676) ?_
 refine wl_nil (tn (wp_seq (wrl (wv (p0) z z z ?_))))
 replace hst := hst.pull1
 obtain ⟨t678, ht679, hm⟩ := bind_some hm
 refine wc call13 [p0, I6 (8:Int)] z z z ?_
 refine (octet_Reader_Num_ref hst.to1 ht679).mono ?_
 rintro _ w680 ⟨rfl, hst⟩
 refine ⟨_, z, ?_⟩
 replace hst := hst.of1
 refine wv (p0) z z z ?_
 obtain ⟨t683, ht684, hm⟩ := bind_some hm
 refine wc call13 [p0, I6 (1:Int)] z z z ?_
 refine (octet_Reader_Num_ref hst.to1 ht684).mono ?_
 rintro _ w685 ⟨rfl, hst⟩
 refine ⟨_, z, ?_⟩
 replace hst := hst.of1
 refine wv (.int .i64 (i64.wrap t683.1)) z z (by kernel_rfl) (wv (p0) z z z ?_)
 obtain ⟨t688, ht689, hm⟩ := bind_some hm
 refine wc call13 [p0, I6 (1:Int)] z z z ?_
 refine (octet_Reader_Num_ref hst.to1 ht689).mono ?_
 rintro _ w690 ⟨rfl, hst⟩
 refine ⟨_, z, ?_⟩
 replace hst := hst.of1
 refine wv (.int .i64 (i64.wrap t688.1)) z z (by kernel_rfl) (wv (p0) z z z ?_)
 obtain ⟨t693, ht694, hm⟩ := bind_some hm
 refine wc call13 [p0, I6 (8:Int)] z z z ?_
 refine (octet_Reader_Num_ref hst.to1 ht694).mono ?_
 rintro _ w695 ⟨rfl, hst⟩
 refine ⟨_, z, ?_⟩
 replace hst := hst.of1
 obtain ⟨t698, ht699, hm⟩ := bind_some hm
 refine wc call48 [U6 t693.1] z z z ?_
 refine (number_Back_ref hst.to0 ht699).mono ?_
 rintro _ w700 ⟨rfl, hst⟩
 refine ⟨_, z, ?_⟩
 replace hst := hst.of0
 refine wv (p0) z z z ?_
 obtain ⟨t703, ht704, hm⟩ := bind_some hm
 refine wc call13 [p0, I6 (8:Int)] z z z ?_
 refine (octet_Reader_Num_ref hst.to1 ht704).mono ?_
 rintro _ w705 ⟨rfl, hst⟩
 refine ⟨_, z, ?_⟩
 replace hst := hst.of1
 obtain ⟨t708, ht709, hm⟩ := bind_some hm
 refine wc call48 [U6 t703.1] z z z ?_
 refine (number_Back_ref hst.to0 ht709).mono ?_
 rintro _ w710 ⟨rfl, hst⟩
 refine ⟨_, z, ?_⟩
 replace hst := hst.of0
 refine wv (p0) z z z ?_
 obtain ⟨t713, ht714, hm⟩ := bind_some hm
 refine wc call13 [p0, I6 (8:Int)] z z z ?_
 refine (octet_Reader_Num_ref hst.to1 ht714).mono ?_
 rintro _ w715 ⟨rfl, hst⟩
 refine ⟨_, z, ?_⟩
 replace hst := hst.of1
 refine wv (p0) z z z ?_
 obtain ⟨t718, ht719, hm⟩ := bind_some hm
 refine wc call13 [p0, I6 (4:Int)] z z z ?_
 refine (octet_Reader_Num_ref hst.to1 ht719).mono ?_
 rintro _ w720 ⟨rfl, hst⟩
 refine ⟨_, z, ?_⟩
 replace hst := hst.of1
 refine wv (.int .i64 (i64.wrap t718.1)) z z (by kernel_rfl) (wv (.agg #[U6 t678.1, I6 (i64.wrap t683.1), I6 (i64.wrap t688.1), F6 t698, F6 t708, U6 t713.1, I6 (i64.wrap t718.1)]) z z (by kernel_rfl) ?_)
 replace hst := hst.pull1
 obtain ⟨w723, hr724, hst⟩ := hst.bx [U6 t678.1, I6 (i64.wrap t683.1), I6 (i64.wrap t688.1), F6 t698, F6 t708, U6 t713.1, I6 (i64.wrap t718.1)] sizeOf46 z (oC z (oC z (oC z (oC z (oC z (oC z (oC z oN))))))) (by kernel_rfl)
 refine wl_unit z z (x_unit hr724) ?_
 refine wl_nil (tn (wp_ret ?_))
 obtain rfl := some_inj hm
 refine post_ret (vs := [.agg #[U6 t678.1, I6 (i64.wrap t683.1), I6 (i64.wrap t688.1), F6 t698, F6 t708, U6 t713.1, I6 (i64.wrap t718.1)]]) results51 (rvs_cons (rv_cell (cs := [U6 t678.1, I6 (i64.wrap t683.1), I6 (i64.wrap t688.1), F6 t698, F6 t708, U6 t713.1, I6 (i64.wrap t718.1)]) z isAgg46 sizeOf46 (hst.bcs0 0 z)) rvs_nil) ?_
 replace hst := hst.pull1
 exact ⟨z, hst.keep1⟩
}

theorem octet_Reader_End_ref {w0 w : World} {I : HL} {R : SP} {a0 : octet_Reader} {p0 : Value}  (hst : St w0 w I [at_octet_Reader p0 a0] R) {r : (Bool)} (hm : octet_Reader_End a0 = some r) :
  Calls prog 19 #[p0] w fun e w' => e = .returned (.bool r) ∧ St w0 w' I [at_octet_Reader p0 a0] R := by {
 unfold octet_Reader_End at hm
 refine calls_start (args := [p0]) func19 z ntmps19 (Nat.le_of_ble_eq_true z) ?_
 refine wp_seq (wrl (wv (.bool false) z z z (wl_nil (tn (wp_seq (wrl (wv (p0) z z z ?_)))))))
 obtain ⟨t734, ht735, hm⟩ := bind_some hm
 refine wc call52 [p0] z z z ?_
 refine (octet_Reader_Bad_ref hst.to1 ht735).mono ?_
 rintro _ w736 ⟨rfl, hst⟩
 refine ⟨_, z, ?_⟩
 replace hst := hst.of1
 refine wv (.bool (!t734)) z z z (wv (.bool (!t734)) z z z ?_)
 refine bsplit (!t734) (fun hc739 => ?_) (fun hc739 => ?_)
 {
 replace hm := bif_t hc739 hm
 refine wv (p0) ((wanted_eq z z z (cvb hc739)).trans z) z z ?_
 obtain ⟨b740, v741, ⟨rfl, f743⟩, hst'⟩ := at_octet_Reader_open hst
 clear hst
 have hst := hst'
 clear hst'
 refine wv (Pt b740 0) ((wanted_eq z z z (cvb hc739)).trans z) z z (wv (Pt b740 0) ((wanted_eq z z z (cvb hc739)).trans z) z (x_field z underlying99 z sizeOf22 z) (wv (v741) ((wanted_eq z z z (cvb hc739)).trans z) z (x_load z isAgg22 (hst.bc0 z)) (wv (.int .i64 ((a0.p).length : Int)) ((wanted_eq z z z (cvb hc739)).trans z) z (x_len z underlying22 (ro_sliceV f743)) (wv (.bool (((a0.p).length : Int) == (0:Int))) ((wanted_eq z z z (cvb hc739)).trans z) z z (wv (.bool (((a0.p).length : Int) == (0:Int))) z z (x_pick_t hc739 z z) (wv (.bool (((a0.p).length : Int) == (0:Int))) z z z (wl_nil (tn (wp_ret ?_)))))))))
 replace hst := at_octet_Reader_close (pv := Pt b740 0) (x := a0) hst ⟨z, f743⟩
 obtain rfl := some_inj hm
 refine post_ret (vs := [.bool (((a0.p).length : Int) == (0:Int))]) results19 (rvs_cons (rv_tmp z) rvs_nil) ?_
 exact ⟨z, hst.keep1⟩
}
 {
 replace hm := bif_f hc739 hm
 refine wo hc739 z z z z z z (wo hc739 z z z z z z (wo hc739 z z z z z z (wo hc739 z z z z z z (wo hc739 z z z z z z (wo hc739 z z z z z z (wv (.bool false) z z (x_pick_f hc739 z z) (wv (.bool false) z z z (wl_nil (tn (wp_ret ?_))))))))))
 obtain rfl := some_inj hm
 refine post_ret (vs := [.bool false]) results19 (rvs_cons (rv_tmp z) rvs_nil) ?_
 exact ⟨z, hst.keep1⟩
}
}

theorem slices_Equal_byte_byte_ref {w0 w : World} {I : HL} {R : SP} {a0 : (List Int)} {r0_0 : Value} {a1 : (List Int)} {r1_0 : Value} (f0_0 : Rd (tyInt .u8) R I r0_0 a0) (f1_0 : Rd (tyInt .u8) R I r1_0 a1) (hst : St w0 w I [] R) {r : (Bool)} (hm : slices_Equal_byte_byte a0 a1 = some r) :
  Calls prog 20 #[r0_0, r1_0] w fun e w' => e = .returned (.bool r) ∧ St w0 w' I [] R := by {
 unfold slices_Equal_byte_byte at hm
 refine calls_start (args := [r0_0, r1_0]) func20 z ntmps20 (Nat.le_of_ble_eq_true z) ?_
 refine wp_seq (wrl (wv (.bool false) z z z (wl_nil (tn (wp_seq (wp_seq (wrl (wv (r0_0) z z z (wv (.int .i64 ((a0).length : Int)) z z (x_len z underlying22 (rd_sliceV f0_0)) (wv (r1_0) z z z (wv (.int .i64 ((a1).length : Int)) z z (x_len z underlying22 (rd_sliceV f1_0)) (wv (.bool (((a0).length : Int) != ((a1).length : Int))) z z z (wl_nil (tn ?_))))))))))))))
 refine bsplit (((a0).length : Int) != ((a1).length : Int)) (fun hc812 => ?_) (fun hc812 => ?_)
 {
 replace hm := bif_t hc812 hm
 refine wp_ift (cvb hc812) ?_
 refine wp_seq (wrl (wv (.bool false) z z z (wl_nil (tn (wp_ret (then_r ?_))))))
 obtain rfl := some_inj hm
 refine post_ret (vs := [.bool false]) results20 (rvs_cons (rv_tmp z) rvs_nil) ?_
 exact ⟨z, hst.keep0⟩
}
 {
 replace hm := bif_f hc812 hm
 refine wp_iff (cvb hc812) ?_
 refine wp_skip (tn (wp_seq (wp_seq (wrl ?_))))
 refine wv (r0_0) z z z (wv (.int .i64 ((a0).length : Int)) z z (x_len z underlying22 (rd_sliceV f0_0)) (wv (.int .i64 (0:Int)) z z z (wl_nil (tn (wp_block ?_)))))
 obtain ⟨n840, hm⟩ := loopO_some hm
 refine wp_loop_n (fun n a w => ∃ (z838 : Int) (σ839 : Nat → Value), loopN (slices_Equal_byte_byte_l0 a0 a1) n z838 = some r ∧ a = Fr 26 (upd (upd (upd (upd σ839 0 (r0_0)) 1 (r1_0)) 12 (.int .i64 ((a0).length : Int))) 13 (.int .i64 z838)) ∧ St w0 w I [] R) n840 ⟨(0:Int), _, hm, (fu 0 r0_0 z (fu 1 r1_0 z (fu 12 (.int .i64 ((a0).length : Int)) z (fu 13 (.int .i64 (0:Int)) z z)))), hst⟩ ?_
 rintro n846 _ w841 ⟨z838, σ839, hm, rfl, hst⟩
 obtain ⟨n843, y844, rfl, hm, hx845⟩ := loopN_some hm
 dsimp only [slices_Equal_byte_byte_l0] at hm
 refine wp_seq (wrl (wv (.bool (decide (z838 < ((a0).length : Int)))) z z z (wl_nil (tn (wp_seq ?_)))))
 refine bsplit (decide (z838 < ((a0).length : Int))) (fun hc847 => ?_) (fun hc847 => ?_)
 {
 replace hm := bif_t hc847 hm
 refine wp_ift (cvb hc847) ?_
 refine wp_skip (tn (wp_seq (wp_block (wp_seq (wrl ?_)))))
 refine wv (.int .i64 z838) z z z (wv (.int .i64 z838) z z z (wl_nil (tn (wp_seq ?_))))
 refine wq_regionS hst Try.mixed (by kernel_rfl) ?_
 refine wq_run (v := r0_0) z z (fun w hst => z) ?_
 refine wq_run (v := .int .i64 z838) z z (fun w hst => z) ?_
 obtain ⟨x848, hx849, hm⟩ := bind_some hm
 obtain ⟨h850, h851, hi852⟩ := geto_some hx849
 refine wq_run (v := .pointer (some (eAddr r0_0 (z838.toNat * 1 + 0)))) z z (fun w hst => x_index z z underlying22 sizeOf5 (rd_sliceV f0_0) h850 h851) ?_
 refine wq_run (v := .int .u8 x848) z z (fun w hst => x_load z isAgg5 (rd_load f0_0 (HL.le.refl _) hst hi852 (by rintro _ rfl; rfl))) ?_
 refine wq_run (v := r1_0) z z (fun w hst => z) ?_
 refine wq_run (v := .int .i64 z838) z z (fun w hst => z) ?_
 obtain ⟨x853, hx854, hm⟩ := bind_some hm
 obtain ⟨h855, h856, hi857⟩ := geto_some hx854
 refine wq_run (v := .pointer (some (eAddr r1_0 (z838.toNat * 1 + 0)))) z z (fun w hst => x_index z z underlying22 sizeOf5 (rd_sliceV f1_0) h855 h856) ?_
 refine wq_run (v := .int .u8 x853) z z (fun w hst => x_load z isAgg5 (rd_load f1_0 (HL.le.refl _) hst hi857 (by rintro _ rfl; rfl))) ?_
 refine wq_run (v := .bool (x848 != x853)) z z (fun w hst => z) ?_
 refine wq_nil ?_
 intro w hst
 refine tn ?_
 refine bsplit (x848 != x853) (fun hc858 => ?_) (fun hc858 => ?_)
 {
 replace hm := bif_t hc858 hm
 refine wp_ift (cvb hc858) ?_
 refine wp_seq (wrl (wv (.bool false) z z z (wl_nil (tn (wp_ret (blk_r (then_r (then_r ?_))))))))
 replace hm := inr_up hm hx845
 refine blk_r (then_r ?_)
 obtain rfl := some_inj hm
 refine post_ret (vs := [.bool false]) results20 (rvs_cons (rv_tmp z) rvs_nil) ?_
 exact ⟨z, hst.keep0⟩
}
 {
 replace hm := bif_f hc858 hm
 refine wp_iff (cvb hc858) ?_
 refine wp_skip (blk_n (tn (wrl ?_)))
 refine wv (.int .i64 (i64.wrap (z838 + (1:Int)))) z z z (wv (.int .i64 (i64.wrap (z838 + (1:Int)))) z z z (wl_nil (tn ?_)))
 replace hst := hst.keep0
 obtain rfl := some_inj hm
 exact ⟨_, Nat.lt_succ_self _, (i64.wrap (z838 + (1:Int))), _, hx845, (fu 0 r0_0 z (fu 1 r1_0 z (fu 12 (.int .i64 ((a0).length : Int)) z (fu 13 (.int .i64 (i64.wrap (z838 + (1:Int)))) z z)))), hst⟩
}
}
 {
 replace hm := bif_f hc847 hm
 refine wp_iff (cvb hc847) ?_
 refine wp_exit (then_x (then_x ?_))
 replace hm := inr_up hm hx845
 refine blk_x (tn (wp_seq (wrl ?_)))
 refine wv (.bool true) z z z (wl_nil (tn (wp_ret ?_)))
 obtain rfl := some_inj hm
 refine post_ret (vs := [.bool true]) results20 (rvs_cons (rv_tmp z) rvs_nil) ?_
 exact ⟨z, hst.keep0⟩
}
}
}

end Go.Proofs.Ytldfdainhdiffaa
