/- The Go functions refine their models, part 1. -/
import Derived.Test.YtbdhhmnncknhhaaLocksBytesR0
set_option linter.unusedVariables false
set_option linter.unusedSimpArgs false
set_option maxRecDepth 100000
set_option maxHeartbeats 4000000
namespace Go.Proofs.Ytbdhhmnncknhhaa
open Go Go.V
open _root_.Go.Proofs.Try IntKind
attribute [local irreducible] wpList Code.wp wpQuiet Calls bodyPost Oper.wp wpS Nx PendOK YieldsIn
theorem octet_Reader_Num_ref {w0 w : World} {I : HL} {R : SP} {a0 : octet_Reader} {p0 : Value} {a1 : Int}  (hst : St w0 w I [at_octet_Reader p0 a0] R) {r : (Int × octet_Reader)} (hm : octet_Reader_Num a0 a1 = some r) :
  Calls prog 63 #[p0, I6 a1] w fun e w' => e = .returned (.int .u64 r.1) ∧ St w0 w' I [at_octet_Reader p0 r.2] R := by {
 unfold octet_Reader_Num at hm
 refine calls_start (args := [p0, I6 a1]) func63 z ntmps63 (Nat.le_of_ble_eq_true z) ?_
 refine wp_seq (wrl (wv (.int .u64 (0:Int)) z z z (wl_nil (tn (wp_seq (wp_seq (wrl (wv (p0) z z z ?_))))))))
 obtain ⟨b169, v170, ⟨rfl, f172⟩, hst'⟩ := at_octet_Reader_open hst
 clear hst
 have hst := hst'
 clear hst'
 refine wv (.bool false) z z (by kernel_rfl) (wv (.bool false) z z z (wv (Pt b169 0) ((wanted_eq z z z z).trans z) z z (wv (Pt b169 0) ((wanted_eq z z z z).trans z) z z (wv (Pt b169 1) ((wanted_eq z z z z).trans z) z (x_field z underlying100 z sizeOf4 z) (wv (.bool a0.bad) ((wanted_eq z z z z).trans z) z (x_load z isAgg4 (hst.bc0 z)) (wv (.bool a0.bad) z z (x_pick_f z z z) (wv (.bool a0.bad) z z z ?_)))))))
 refine bsplit a0.bad (fun hc173 => ?_) (fun hc173 => ?_)
 {
 replace hm := bif_t hc173 hm
 refine wo hc173 z z z z z z (wo hc173 z z z z z z (wv (.bool true) z z (x_pick_t hc173 z z) (wv (.bool true) z z z (wz z z z z z z (wz z z z z z z (wz z z z z z z (wz z z z z z z (wz z z z z z z (wz z z z z z z (wz z z z z z z (wv (.bool true) z z (x_pick_t z z z) (wl_nil (tn ?_)))))))))))))
 refine wp_ift z ?_
 refine wp_seq (wrl (wv (Pt b169 0) z z z ?_))
 replace hst := at_octet_Reader_close (pv := Pt b169 0) (x := a0) hst ⟨z, f172⟩
 obtain ⟨t174, ht175, hm⟩ := bind_some hm
 refine wc call84 [Pt b169 0] z z z ?_
 refine (octet_Reader_spoil_ref hst.to1 ht175).mono ?_
 rintro _ w176 ⟨rfl, hst⟩
 refine ⟨_, z, ?_⟩
 replace hst := hst.of1
 refine wl_nil (tn (wp_seq (wrl (wv (.int .u64 (0:Int)) z z z (wl_nil (tn (wp_ret (then_r ?_))))))))
 obtain rfl := some_inj hm
 refine post_ret (vs := [Zu]) results63 (rvs_cons (rv_tmp z) rvs_nil) ?_
 exact ⟨z, hst.keep1⟩
}
 {
 replace hm := bif_f hc173 hm
 refine wv (.int .i64 a1) ((wanted_eq z z z (cvb hc173)).trans z) z z (wv (.bool (decide (a1 < (0:Int)))) ((wanted_eq z z z (cvb hc173)).trans z) z z (wv (.bool (decide (a1 < (0:Int)))) z z (x_pick_f hc173 z z) (wv (.bool (decide (a1 < (0:Int)))) z z z ?_)))
 refine bsplit (decide (a1 < (0:Int))) (fun hc179 => ?_) (fun hc179 => ?_)
 {
 replace hm := bif_t hc179 hm
 refine wo hc179 z z z z z z (wo hc179 z z z z z z (wo hc179 z z z z z z (wo hc179 z z z z z z (wo hc179 z z z z z z (wo hc179 z z z z z z (wo hc179 z z z z z z (wv (.bool true) z z (x_pick_t hc179 z z) (wl_nil (tn ?_)))))))))
 refine wp_ift z ?_
 refine wp_seq (wrl (wv (Pt b169 0) z z z ?_))
 replace hst := at_octet_Reader_close (pv := Pt b169 0) (x := a0) hst ⟨z, f172⟩
 obtain ⟨t180, ht181, hm⟩ := bind_some hm
 refine wc call84 [Pt b169 0] z z z ?_
 refine (octet_Reader_spoil_ref hst.to1 ht181).mono ?_
 rintro _ w182 ⟨rfl, hst⟩
 refine ⟨_, z, ?_⟩
 replace hst := hst.of1
 refine wl_nil (tn (wp_seq (wrl (wv (.int .u64 (0:Int)) z z z (wl_nil (tn (wp_ret (then_r ?_))))))))
 obtain rfl := some_inj hm
 refine post_ret (vs := [Zu]) results63 (rvs_cons (rv_tmp z) rvs_nil) ?_
 exact ⟨z, hst.keep1⟩
}
 {
 replace hm := bif_f hc179 hm
 refine wv (Pt b169 0) ((wanted_eq z z z (cvb hc179)).trans z) z z (wv (Pt b169 0) ((wanted_eq z z z (cvb hc179)).trans z) z z (wv (Pt b169 0) ((wanted_eq z z z (cvb hc179)).trans z) z (x_field z underlying100 z sizeOf32 z) (wv (v170) ((wanted_eq z z z (cvb hc179)).trans z) z (x_load z isAgg32 (hst.bc0 z)) (wv (.int .i64 ((a0.p).length : Int)) ((wanted_eq z z z (cvb hc179)).trans z) z (x_len z underlying32 (ro_sliceV f172)) (wv (.int .i64 a1) ((wanted_eq z z z (cvb hc179)).trans z) z z (wv (.bool (decide (((a0.p).length : Int) < a1))) ((wanted_eq z z z (cvb hc179)).trans z) z z (wv (.bool (decide (((a0.p).length : Int) < a1))) z z (x_pick_f hc179 z z) (wl_nil (tn ?_)))))))))
 refine bsplit (decide (((a0.p).length : Int) < a1)) (fun hc185 => ?_) (fun hc185 => ?_)
 {
 replace hm := bif_t hc185 hm
 refine wp_ift (cvb hc185) ?_
 refine wp_seq (wrl (wv (Pt b169 0) z z z ?_))
 replace hst := at_octet_Reader_close (pv := Pt b169 0) (x := a0) hst ⟨z, f172⟩
 obtain ⟨t186, ht187, hm⟩ := bind_some hm
 refine wc call84 [Pt b169 0] z z z ?_
 refine (octet_Reader_spoil_ref hst.to1 ht187).mono ?_
 rintro _ w188 ⟨rfl, hst⟩
 refine ⟨_, z, ?_⟩
 replace hst := hst.of1
 refine wl_nil (tn (wp_seq (wrl (wv (.int .u64 (0:Int)) z z z (wl_nil (tn (wp_ret (then_r ?_))))))))
 obtain rfl := some_inj hm
 refine post_ret (vs := [Zu]) results63 (rvs_cons (rv_tmp z) rvs_nil) ?_
 exact ⟨z, hst.keep1⟩
}
 {
 replace hm := bif_f hc185 hm
 refine wp_iff (cvb hc185) ?_
 refine wp_skip (tn (wp_seq (wrl ?_)))
 refine wv (.int .u64 (0:Int)) z z z (wl_nil (tn ?_))
 obtain ⟨y242, hm, hx243⟩ := bind_some hm
 refine wp_cut (fun a w => ∃ (z239 : Int) (σ240 : Nat → Value), (octet_Reader_Num_j0 a0 a1) z239 = some r ∧ a = Fr 59 (upd (upd (upd σ240 0 (Pt b169 0)) 1 (.int .i64 a1)) 5 (.int .u64 z239)) ∧ St w0 w I [at_octet_Reader (Pt b169 0) a0] R) ?_ ?_
 {
 refine wp_seq (wrl (wv (.int .i64 a1) z z z (wv (.int .i64 (if (8:Int) < a1 then (8:Int) else a1)) z z (by kernel_rfl) (wv (.int .i64 (0:Int)) z z z (wl_nil (tn (wp_block ?_)))))))
 replace hst := at_octet_Reader_close (pv := Pt b169 0) (x := a0) hst ⟨z, f172⟩
 obtain ⟨n220, hm⟩ := loopO_some hm
 refine wp_loop_n (fun n a w => ∃ (z217 : Int) (z218 : Int) (σ219 : Nat → Value), loopN (octet_Reader_Num_l1 a1 a0) n (z217, z218) = some y242 ∧ a = Fr 59 (upd (upd (upd (upd (upd σ219 0 (Pt b169 0)) 1 (.int .i64 a1)) 5 (.int .u64 z218)) 31 (.int .i64 (if (8:Int) < a1 then (8:Int) else a1))) 32 (.int .i64 z217)) ∧ St w0 w I [at_octet_Reader (Pt b169 0) a0] R) n220 ⟨(0:Int), (0:Int), _, hm, (fu 0 (Pt b169 0) z (fu 1 (.int .i64 a1) z (fu 5 (.int .u64 (0:Int)) z (fu 31 (.int .i64 (if (8:Int) < a1 then (8:Int) else a1)) z (fu 32 (.int .i64 (0:Int)) z z))))), hst⟩ ?_
 rintro n226 _ w221 ⟨z217, z218, σ219, hm, rfl, hst⟩
 obtain ⟨n223, y224, rfl, hm, hx225⟩ := loopN_some hm
 dsimp only [octet_Reader_Num_l1] at hm
 refine wp_seq (wrl (wv (.bool (decide (z217 < (if (8:Int) < a1 then (8:Int) else a1)))) z z z (wl_nil (tn (wp_seq ?_)))))
 refine bsplit (decide (z217 < (if (8:Int) < a1 then (8:Int) else a1))) (fun hc227 => ?_) (fun hc227 => ?_)
 {
 replace hm := bif_t hc227 hm
 refine wp_ift (cvb hc227) ?_
 refine wp_skip (tn (wp_seq (wp_block (wp_seq (wrl ?_)))))
 refine wv (.int .i64 z217) z z z (wv (.int .i64 z217) z z z (wl_nil (tn (wrl (wv (.int .u64 z218) z z z (wv (Pt b169 0) z z z ?_))))))
 obtain ⟨b228, v229, ⟨e232, f231⟩, hst'⟩ := at_octet_Reader_open hst
 clear hst
 have e232 := ptr_inj e232
 subst e232
 have hst := hst'
 clear hst'
 refine wv (Pt b169 0) z z z (wv (Pt b169 0) z z (x_field z underlying100 z sizeOf32 z) (wv (v229) z z (x_load z isAgg32 (hst.bc0 z)) (wv (.int .i64 z217) z z z ?_)))
 obtain ⟨x233, hx234, hm⟩ := bind_some hm
 obtain ⟨h235, h236, hi237⟩ := geto_some hx234
 refine wv (.pointer (some (eAddr v229 (z217.toNat * 1 + 0)))) z z (x_index z z underlying32 sizeOf5 (ro_sliceV f231) h235 h236) (wv (.int .u8 x233) z z (x_load z isAgg5 (ro_load f231 hst hi237 (by rintro _ rfl; rfl))) (wv (.int .u64 (u64.wrap x233)) z z (by kernel_rfl) (wv (.int .i64 z217) z z z (wv (.int .i64 (i64.wrap ((8:Int) * z217))) z z z ?_))))
 obtain ⟨hg238, hm⟩ := gd_some hm
 refine wv (.int .u64 (iShl .u64 (u64.wrap x233) (i64.wrap ((8:Int) * z217)))) z z (x_shl (of_decide_eq_true hg238) z z) (wv (.int .u64 (bOr .u64 z218 (iShl .u64 (u64.wrap x233) (i64.wrap ((8:Int) * z217))))) z z z (wv (.int .u64 (bOr .u64 z218 (iShl .u64 (u64.wrap x233) (i64.wrap ((8:Int) * z217))))) z z z (wl_nil (blk_n (tn (wrl (wv (.int .i64 (i64.wrap (z217 + (1:Int)))) z z z (wv (.int .i64 (i64.wrap (z217 + (1:Int)))) z z z (wl_nil (tn ?_))))))))))
 replace hst := at_octet_Reader_close (pv := Pt b169 0) (x := a0) hst ⟨z, f231⟩
 replace hst := hst.keep1
 obtain rfl := some_inj hm
 exact ⟨_, Nat.lt_succ_self _, (i64.wrap (z217 + (1:Int))), (bOr .u64 z218 (iShl .u64 (u64.wrap x233) (i64.wrap ((8:Int) * z217)))), _, hx225, (fu 0 (Pt b169 0) z (fu 1 (.int .i64 a1) z (fu 5 (.int .u64 (bOr .u64 z218 (iShl .u64 (u64.wrap x233) (i64.wrap ((8:Int) * z217))))) z (fu 31 (.int .i64 (if (8:Int) < a1 then (8:Int) else a1)) z (fu 32 (.int .i64 (i64.wrap (z217 + (1:Int)))) z z))))), hst⟩
}
 {
 replace hm := bif_f hc227 hm
 refine wp_iff (cvb hc227) ?_
 refine wp_exit (then_x (then_x ?_))
 replace hm := inr_up hm hx225
 refine blk_x (tn ?_)
 replace hst := hst.keep1
 obtain rfl := some_inj hm
 exact ⟨z218, _, hx243, (fu 0 (Pt b169 0) z (fu 1 (.int .i64 a1) z (fu 5 (.int .u64 z218) z z))), hst⟩
}
}
 {
 clear hst
 rintro _ w244 ⟨z239, σ240, hm, rfl, hst⟩
 dsimp only [octet_Reader_Num_j0] at hm
 refine wp_seq (wrl (wv (Pt b169 0) z z z (wv (Pt b169 0) z z z ?_)))
 obtain ⟨b245, v246, ⟨e249, f248⟩, hst'⟩ := at_octet_Reader_open hst
 clear hst
 have e249 := ptr_inj e249
 subst e249
 have hst := hst'
 clear hst'
 refine wv (Pt b169 0) z z z (wv (Pt b169 0) z z (x_field z underlying100 z sizeOf32 z) (wv (v246) z z (x_load z isAgg32 (hst.bc0 z)) (wv (.int .i64 a1) z z z ?_)))
 obtain ⟨hg250, hm⟩ := gd_some hm
 obtain ⟨h251, h252, h253⟩ := fits_of hg250
 have f255 : Ro (tyInt .u8) I (slcV 1 v246 a1.toNat (((a0.p).length : Nat) : Int).toNat) (subs a0.p a1 (((a0.p).length : Nat) : Int)) := Ro.part f248 h252 h253 h251
 refine wv ((slcV 1 v246 a1.toNat (((a0.p).length : Nat) : Int).toNat)) z z (x_slice underlying32 sizeOf5 z (ro_sliceV f248) h251 h252 h253 .i64 .i64 (.inl z) (.inr ⟨z, z⟩)) (wv (Pt b169 0) z z z (wv (Pt b169 0) z z (x_field z underlying100 z sizeOf32 z) ?_))
 obtain ⟨w256, hr257, hst⟩ := hst.boxStore1 (P := prog) (t := 32) (cs' := [(slcV 1 v246 a1.toNat (((a0.p).length : Nat) : Int).toNat), .bool a0.bad]) 0 (slcV 1 v246 a1.toNat (((a0.p).length : Nat) : Int).toNat) (one_of_sliceV (ro_sliceV f255)) sizeOf32 z z
 refine wl_unit z z (x_unit hr257) ?_
 refine wl_nil (tn (wp_seq (wrl (wv (.int .u64 z239) z z z (wv (.int .u64 z239) z z z (wl_nil (tn (wp_ret ?_))))))))
 replace hst := at_octet_Reader_close (pv := Pt b169 0) (x := ({ p := (subs a0.p a1 (((a0.p).length : Nat) : Int)), bad := a0.bad } : octet_Reader)) hst ⟨z, f255⟩
 obtain rfl := some_inj hm
 refine post_ret (vs := [U6 z239]) results63 (rvs_cons (rv_tmp z) rvs_nil) ?_
 exact ⟨z, hst.keep1⟩
}
}
}
}
}

theorem octet_Reader_Count_ref {w0 w : World} {I : HL} {R : SP} {a0 : octet_Reader} {p0 : Value} {a1 : Int}  (hst : St w0 w I [at_octet_Reader p0 a0] R) {r : (Int × octet_Reader)} (hm : octet_Reader_Count a0 a1 = some r) :
  Calls prog 57 #[p0, I6 a1] w fun e w' => e = .returned (.int .i64 r.1) ∧ St w0 w' I [at_octet_Reader p0 r.2] R := by {
 unfold octet_Reader_Count at hm
 refine calls_start (args := [p0, I6 a1]) func57 z ntmps57 (Nat.le_of_ble_eq_true z) ?_
 refine wp_seq (wrl (wv (.int .i64 (0:Int)) z z z (wl_nil (tn (wp_seq (wrl (wv (p0) z z z ?_)))))))
 obtain ⟨t127, ht128, hm⟩ := bind_some hm
 refine wc call63 [p0, I6 (4:Int)] z z z ?_
 refine (octet_Reader_Num_ref hst.to1 ht128).mono ?_
 rintro _ w129 ⟨rfl, hst⟩
 refine ⟨_, z, ?_⟩
 replace hst := hst.of1
 refine wv (.int .u64 t127.1) z z z (wl_nil (tn (wp_seq (wp_seq (wrl (wv (.int .i64 a1) z z z (wv (.bool (decide (a1 < (0:Int)))) z z z (wv (.bool (decide (a1 < (0:Int)))) z z z ?_))))))))
 refine bsplit (decide (a1 < (0:Int))) (fun hc132 => ?_) (fun hc132 => ?_)
 {
 replace hm := bif_t hc132 hm
 refine wo hc132 z z z z z z (wo hc132 z z z z z z (wo hc132 z z z z z z (wo hc132 z z z z z z (wv (.bool true) z z (x_pick_t hc132 z z) (wl_nil (tn ?_))))))
 refine wp_ift z ?_
 refine wp_seq (wrl (wv (p0) z z z ?_))
 obtain ⟨t133, ht134, hm⟩ := bind_some hm
 refine wc call84 [p0] z z z ?_
 refine (octet_Reader_spoil_ref hst.to1 ht134).mono ?_
 rintro _ w135 ⟨rfl, hst⟩
 refine ⟨_, z, ?_⟩
 replace hst := hst.of1
 refine wl_nil (tn (wp_seq (wrl (wv (.int .i64 (0:Int)) z z z (wl_nil (tn (wp_ret (then_r ?_))))))))
 obtain rfl := some_inj hm
 refine post_ret (vs := [Zi]) results57 (rvs_cons (rv_tmp z) rvs_nil) ?_
 exact ⟨z, hst.keep1⟩
}
 {
 replace hm := bif_f hc132 hm
 refine wv (.int .u64 t127.1) ((wanted_eq z z z (cvb hc132)).trans z) z z (wv (.int .i64 a1) ((wanted_eq z z z (cvb hc132)).trans z) z z (wv (.int .u64 (u64.wrap a1)) ((wanted_eq z z z (cvb hc132)).trans z) z (by kernel_rfl) (wv (.bool (decide (t127.1 > (u64.wrap a1)))) ((wanted_eq z z z (cvb hc132)).trans z) z z (wv (.bool (decide (t127.1 > (u64.wrap a1)))) z z (x_pick_f hc132 z z) (wl_nil (tn ?_))))))
 refine bsplit (decide (t127.1 > (u64.wrap a1))) (fun hc138 => ?_) (fun hc138 => ?_)
 {
 replace hm := bif_t hc138 hm
 refine wp_ift (cvb hc138) ?_
 refine wp_seq (wrl (wv (p0) z z z ?_))
 obtain ⟨t139, ht140, hm⟩ := bind_some hm
 refine wc call84 [p0] z z z ?_
 refine (octet_Reader_spoil_ref hst.to1 ht140).mono ?_
 rintro _ w141 ⟨rfl, hst⟩
 refine ⟨_, z, ?_⟩
 replace hst := hst.of1
 refine wl_nil (tn (wp_seq (wrl (wv (.int .i64 (0:Int)) z z z (wl_nil (tn (wp_ret (then_r ?_))))))))
 obtain rfl := some_inj hm
 refine post_ret (vs := [Zi]) results57 (rvs_cons (rv_tmp z) rvs_nil) ?_
 exact ⟨z, hst.keep1⟩
}
 {
 replace hm := bif_f hc138 hm
 refine wp_iff (cvb hc138) ?_
 refine wp_skip (tn (wp_seq (wrl ?_)))
 refine wv (.int .u64 t127.1) z z z (wv (.int .i64 (i64.wrap t127.1)) z z (by kernel_rfl) (wv (.int .i64 (i64.wrap t127.1)) z z z (wl_nil (tn (wp_ret ?_)))))
 obtain rfl := some_inj hm
 refine post_ret (vs := [I6 (i64.wrap t127.1)]) results57 (rvs_cons (rv_tmp z) rvs_nil) ?_
 exact ⟨z, hst.keep1⟩
}
}
}

theorem number_Back_ref {w0 w : World} {I : HL} {R : SP} {a0 : Int}  (hst : St w0 w I [] R) {r : (Nat)} (hm : number_Back a0 = some r) :
  Calls prog 64 #[U6 a0] w fun e w' => e = .returned (.float .f64 r) ∧ St w0 w' I [] R := by {
 unfold number_Back at hm
 refine calls_start (args := [U6 a0]) func64 z ntmps64 (Nat.le_of_ble_eq_true z) ?_
 refine wp_seq (wrl (wv (.float .f64 (0:Nat)) z z z (wl_nil (tn (wp_seq (wp_seq (wrl (wv (.int .u64 a0) z z z (wv (.int .u64 (iShr .u64 a0 (63:Int))) z z (x_shr (by decide) z z) (wv (.bool ((iShr .u64 a0 (63:Int)) == (1:Int))) z z z (wl_nil (tn ?_))))))))))))
 refine bsplit ((iShr .u64 a0 (63:Int)) == (1:Int)) (fun hc115 => ?_) (fun hc115 => ?_)
 {
 replace hm := bif_t hc115 hm
 refine wp_ift (cvb hc115) ?_
 refine wp_seq (wrl (wv (.int .u64 a0) z z z (wv (.int .u64 (bAndNot .u64 a0 (9223372036854775808:Int))) z z z (wv (.float .f64 (Int.toNat (bAndNot .u64 a0 (9223372036854775808:Int)))) z z (by kernel_rfl) (wv (.float .f64 (Int.toNat (bAndNot .u64 a0 (9223372036854775808:Int)))) z z z (wl_nil (tn (wp_ret (then_r ?_)))))))))
 obtain rfl := some_inj hm
 refine post_ret (vs := [F6 (Int.toNat (bAndNot .u64 a0 (9223372036854775808:Int)))]) results64 (rvs_cons (rv_tmp z) rvs_nil) ?_
 exact ⟨z, hst.keep0⟩
}
 {
 replace hm := bif_f hc115 hm
 refine wp_iff (cvb hc115) ?_
 refine wp_skip (tn (wp_seq (wrl ?_)))
 refine wv (.int .u64 a0) z z z (wv (.int .u64 (bXor .u64 ((18446744073709551615):Int) a0)) z z (by kernel_rfl) (wv (.float .f64 (Int.toNat (bXor .u64 ((18446744073709551615):Int) a0))) z z (by kernel_rfl) (wv (.float .f64 (Int.toNat (bXor .u64 ((18446744073709551615):Int) a0))) z z z (wl_nil (tn (wp_ret ?_))))))
 obtain rfl := some_inj hm
 refine post_ret (vs := [F6 (Int.toNat (bXor .u64 ((18446744073709551615):Int) a0))]) results64 (rvs_cons (rv_tmp z) rvs_nil) ?_
 exact ⟨z, hst.keep0⟩
}
}

theorem octet_Reader_Bytes_ref {w0 w : World} {I : HL} {R : SP} {a0 : octet_Reader} {p0 : Value} {a1 : Int}  (hst : St w0 w I [at_octet_Reader p0 a0] R) {r : ((List Int) × octet_Reader)} (hm : octet_Reader_Bytes a0 a1 = some r) :
  Calls prog 65 #[p0, I6 a1] w fun e w' => ∃ (q0_0 : Value), e = .returned (q0_0) ∧ St w0 w' I [ownS (tyInt .u8) q0_0 r.1, at_octet_Reader p0 r.2] R := by {
 unfold octet_Reader_Bytes at hm
 refine calls_start (args := [p0, I6 a1]) func65 z ntmps65 (Nat.le_of_ble_eq_true z) ?_
 refine wp_seq (wrl (wv ((.slice none 0 0)) z z z (wl_nil (tn (wp_seq (wrl (wv (p0) z z z ?_)))))))
 obtain ⟨t581, ht582, hm⟩ := bind_some hm
 refine wc call63 [p0, I6 (4:Int)] z z z ?_
 refine (octet_Reader_Num_ref hst.to1 ht582).mono ?_
 rintro _ w583 ⟨rfl, hst⟩
 refine ⟨_, z, ?_⟩
 replace hst := hst.of1
 refine wv (.int .u64 t581.1) z z z (wl_nil (tn (wp_seq (wp_seq (wrl (wv (p0) z z z ?_))))))
 obtain ⟨b586, v587, ⟨rfl, f589⟩, hst'⟩ := at_octet_Reader_open hst
 clear hst
 have hst := hst'
 clear hst'
 refine wv (.bool false) z z (by kernel_rfl) (wv (.bool false) z z z (wv (Pt b586 0) ((wanted_eq z z z z).trans z) z z (wv (Pt b586 0) ((wanted_eq z z z z).trans z) z z (wv (Pt b586 1) ((wanted_eq z z z z).trans z) z (x_field z underlying100 z sizeOf4 z) (wv (.bool t581.2.bad) ((wanted_eq z z z z).trans z) z (x_load z isAgg4 (hst.bc0 z)) (wv (.bool t581.2.bad) z z (x_pick_f z z z) (wv (.bool t581.2.bad) z z z ?_)))))))
 refine bsplit t581.2.bad (fun hc590 => ?_) (fun hc590 => ?_)
 {
 replace hm := bif_t hc590 hm
 refine wo hc590 z z z z z z (wo hc590 z z z z z z (wv (.bool true) z z (x_pick_t hc590 z z) (wv (.bool true) z z z (wz z z z z z z (wz z z z z z z (wz z z z z z z (wz z z z z z z (wv (.bool true) z z (x_pick_t z z z) (wv (.bool true) z z z (wz z z z z z z (wz z z z z z z (wz z z z z z z ?_))))))))))))
 refine wz z z z z z z (wz z z z z z z (wz z z z z z z (wz z z z z z z (wz z z z z z z (wv (.bool true) z z (x_pick_t z z z) (wl_nil (tn ?_)))))))
 refine wp_ift z ?_
 refine wp_seq (wrl (wv (Pt b586 0) z z z ?_))
 replace hst := at_octet_Reader_close (pv := Pt b586 0) (x := t581.2) hst ⟨z, f589⟩
 obtain ⟨t591, ht592, hm⟩ := bind_some hm
 refine wc call84 [Pt b586 0] z z z ?_
 refine (octet_Reader_spoil_ref hst.to1 ht592).mono ?_
 rintro _ w593 ⟨rfl, hst⟩
 refine ⟨_, z, ?_⟩
 replace hst := hst.of1
 refine wl_nil (tn (wp_seq (wrl (wv ((.slice none 0 0)) z z z (wl_nil (tn (wp_ret (then_r ?_))))))))
 replace hst := hst.own_nil (tyInt .u8)
 obtain rfl := some_inj hm
 refine post_ret (vs := [Zs]) results65 (rvs_cons (rv_tmp z) rvs_nil) ?_
 replace hst := hst.pull1.pull1
 exact ⟨(.slice none 0 0), z, hst.keep2⟩
}
 {
 replace hm := bif_f hc590 hm
 refine wv (.int .i64 a1) ((wanted_eq z z z (cvb hc590)).trans z) z z (wv (.bool (decide (a1 < (0:Int)))) ((wanted_eq z z z (cvb hc590)).trans z) z z (wv (.bool (decide (a1 < (0:Int)))) z z (x_pick_f hc590 z z) (wv (.bool (decide (a1 < (0:Int)))) z z z ?_)))
 refine bsplit (decide (a1 < (0:Int))) (fun hc597 => ?_) (fun hc597 => ?_)
 {
 replace hm := bif_t hc597 hm
 refine wo hc597 z z z z z z (wo hc597 z z z z z z (wo hc597 z z z z z z (wo hc597 z z z z z z (wv (.bool true) z z (x_pick_t hc597 z z) (wv (.bool true) z z z (wz z z z z z z (wz z z z z z z (wz z z z z z z (wz z z z z z z (wz z z z z z z (wz z z z z z z (wz z z z z z z ?_))))))))))))
 refine wz z z z z z z (wv (.bool true) z z (x_pick_t z z z) (wl_nil (tn ?_)))
 refine wp_ift z ?_
 refine wp_seq (wrl (wv (Pt b586 0) z z z ?_))
 replace hst := at_octet_Reader_close (pv := Pt b586 0) (x := t581.2) hst ⟨z, f589⟩
 obtain ⟨t598, ht599, hm⟩ := bind_some hm
 refine wc call84 [Pt b586 0] z z z ?_
 refine (octet_Reader_spoil_ref hst.to1 ht599).mono ?_
 rintro _ w600 ⟨rfl, hst⟩
 refine ⟨_, z, ?_⟩
 replace hst := hst.of1
 refine wl_nil (tn (wp_seq (wrl (wv ((.slice none 0 0)) z z z (wl_nil (tn (wp_ret (then_r ?_))))))))
 replace hst := hst.own_nil (tyInt .u8)
 obtain rfl := some_inj hm
 refine post_ret (vs := [Zs]) results65 (rvs_cons (rv_tmp z) rvs_nil) ?_
 replace hst := hst.pull1.pull1
 exact ⟨(.slice none 0 0), z, hst.keep2⟩
}
 {
 replace hm := bif_f hc597 hm
 refine wv (.int .u64 t581.1) ((wanted_eq z z z (cvb hc597)).trans z) z z (wv (.int .i64 a1) ((wanted_eq z z z (cvb hc597)).trans z) z z (wv (.int .u64 (u64.wrap a1)) ((wanted_eq z z z (cvb hc597)).trans z) z (by kernel_rfl) (wv (.bool (decide (t581.1 > (u64.wrap a1)))) ((wanted_eq z z z (cvb hc597)).trans z) z z (wv (.bool (decide (t581.1 > (u64.wrap a1)))) z z (x_pick_f hc597 z z) (wv (.bool (decide (t581.1 > (u64.wrap a1)))) z z z ?_)))))
 refine bsplit (decide (t581.1 > (u64.wrap a1))) (fun hc604 => ?_) (fun hc604 => ?_)
 {
 replace hm := bif_t hc604 hm
 refine wo hc604 z z z z z z (wo hc604 z z z z z z (wo hc604 z z z z z z (wo hc604 z z z z z z (wo hc604 z z z z z z (wo hc604 z z z z z z (wo hc604 z z z z z z (wo hc604 z z z z z z (wv (.bool true) z z (x_pick_t hc604 z z) (wl_nil (tn ?_))))))))))
 refine wp_ift z ?_
 refine wp_seq (wrl (wv (Pt b586 0) z z z ?_))
 replace hst := at_octet_Reader_close (pv := Pt b586 0) (x := t581.2) hst ⟨z, f589⟩
 obtain ⟨t605, ht606, hm⟩ := bind_some hm
 refine wc call84 [Pt b586 0] z z z ?_
 refine (octet_Reader_spoil_ref hst.to1 ht606).mono ?_
 rintro _ w607 ⟨rfl, hst⟩
 refine ⟨_, z, ?_⟩
 replace hst := hst.of1
 refine wl_nil (tn (wp_seq (wrl (wv ((.slice none 0 0)) z z z (wl_nil (tn (wp_ret (then_r ?_))))))))
 replace hst := hst.own_nil (tyInt .u8)
 obtain rfl := some_inj hm
 refine post_ret (vs := [Zs]) results65 (rvs_cons (rv_tmp z) rvs_nil) ?_
 replace hst := hst.pull1.pull1
 exact ⟨(.slice none 0 0), z, hst.keep2⟩
}
 {
 replace hm := bif_f hc604 hm
 refine wv (.int .u64 t581.1) ((wanted_eq z z z (cvb hc604)).trans z) z z (wv (Pt b586 0) ((wanted_eq z z z (cvb hc604)).trans z) z z (wv (Pt b586 0) ((wanted_eq z z z (cvb hc604)).trans z) z z (wv (Pt b586 0) ((wanted_eq z z z (cvb hc604)).trans z) z (x_field z underlying100 z sizeOf32 z) (wv (v587) ((wanted_eq z z z (cvb hc604)).trans z) z (x_load z isAgg32 (hst.bc0 z)) (wv (.int .i64 ((t581.2.p).length : Int)) ((wanted_eq z z z (cvb hc604)).trans z) z (x_len z underlying32 (ro_sliceV f589)) (wv (.int .u64 (u64.wrap ((t581.2.p).length : Int))) ((wanted_eq z z z (cvb hc604)).trans z) z (by kernel_rfl) (wv (.bool (decide (t581.1 > (u64.wrap ((t581.2.p).length : Int))))) ((wanted_eq z z z (cvb hc604)).trans z) z z (wv (.bool (decide (t581.1 > (u64.wrap ((t581.2.p).length : Int))))) z z (x_pick_f hc604 z z) (wl_nil (tn ?_))))))))))
 refine bsplit (decide (t581.1 > (u64.wrap ((t581.2.p).length : Int)))) (fun hc611 => ?_) (fun hc611 => ?_)
 {
 replace hm := bif_t hc611 hm
 refine wp_ift (cvb hc611) ?_
 refine wp_seq (wrl (wv (Pt b586 0) z z z ?_))
 replace hst := at_octet_Reader_close (pv := Pt b586 0) (x := t581.2) hst ⟨z, f589⟩
 obtain ⟨t612, ht613, hm⟩ := bind_some hm
 refine wc call84 [Pt b586 0] z z z ?_
 refine (octet_Reader_spoil_ref hst.to1 ht613).mono ?_
 rintro _ w614 ⟨rfl, hst⟩
 refine ⟨_, z, ?_⟩
 replace hst := hst.of1
 refine wl_nil (tn (wp_seq (wrl (wv ((.slice none 0 0)) z z z (wl_nil (tn (wp_ret (then_r ?_))))))))
 replace hst := hst.own_nil (tyInt .u8)
 obtain rfl := some_inj hm
 refine post_ret (vs := [Zs]) results65 (rvs_cons (rv_tmp z) rvs_nil) ?_
 replace hst := hst.pull1.pull1
 exact ⟨(.slice none 0 0), z, hst.keep2⟩
}
 {
 replace hm := bif_f hc611 hm
 refine wp_iff (cvb hc611) ?_
 refine wp_skip (tn (wp_seq (wrl ?_)))
 refine wv (Pt b586 0) z z z (wv (Pt b586 0) z z z (wv (Pt b586 0) z z (x_field z underlying100 z sizeOf32 z) (wv (v587) z z (x_load z isAgg32 (hst.bc0 z)) (wv (.int .u64 t581.1) z z z ?_))))
 obtain ⟨hg618, hm⟩ := gd_some hm
 obtain ⟨h619, h620, h621⟩ := fits_of hg618
 have f623 : Ro (tyInt .u8) I (slcV 1 v587 (0:Int).toNat t581.1.toNat) (subs t581.2.p (0:Int) t581.1) := Ro.part f589 h620 h621 h619
 refine wv ((slcV 1 v587 (0:Int).toNat t581.1.toNat)) z z (x_slice underlying32 sizeOf5 z (ro_sliceV f589) h619 h620 h621 .i64 .u64 (.inr ⟨z, z⟩) (.inl z)) ?_
 replace hst := hst.own_nil (tyInt .u8)
 obtain ⟨hg625, hm⟩ := gd_some hm
 obtain ⟨v626, w627, hr628, hst⟩ := run_append elem_32 underlying32 hst (Src.of_ro hst f623) (room_of hg625 z) 32
 replace hst := St.nil_app hst
 refine wl_run (v := v626) (w' := w627) z z (x_append z z hr628) ?_
 refine wv (v626) z z z (wl_nil (tn (wp_seq (wrl (wv (Pt b586 0) z z z (wv (Pt b586 0) z z z (wv (Pt b586 0) z z z (wv (Pt b586 0) z z (x_field z underlying100 z sizeOf32 z) (wv (v587) z z (x_load z isAgg32 (hst.bc1 z)) (wv (.int .u64 t581.1) z z z ?_))))))))))
 obtain ⟨hg630, hm⟩ := gd_some hm
 obtain ⟨h631, h632, h633⟩ := fits_of hg630
 have f635 : Ro (tyInt .u8) I (slcV 1 v587 t581.1.toNat (((t581.2.p).length : Nat) : Int).toNat) (subs t581.2.p t581.1 (((t581.2.p).length : Nat) : Int)) := Ro.part f589 h632 h633 h631
 refine wv ((slcV 1 v587 t581.1.toNat (((t581.2.p).length : Nat) : Int).toNat)) z z (x_slice underlying32 sizeOf5 z (ro_sliceV f589) h631 h632 h633 .u64 .i64 (.inl z) (.inr ⟨z, z⟩)) (wv (Pt b586 0) z z z (wv (Pt b586 0) z z (x_field z underlying100 z sizeOf32 z) ?_))
 replace hst := hst.pull1
 obtain ⟨w636, hr637, hst⟩ := hst.boxStore1 (P := prog) (t := 32) (cs' := [(slcV 1 v587 t581.1.toNat (((t581.2.p).length : Nat) : Int).toNat), .bool t581.2.bad]) 0 (slcV 1 v587 t581.1.toNat (((t581.2.p).length : Nat) : Int).toNat) (one_of_sliceV (ro_sliceV f635)) sizeOf32 z z
 refine wl_unit z z (x_unit hr637) ?_
 refine wl_nil (tn (wp_seq (wrl (wv (v626) z z z (wv (v626) z z z (wl_nil (tn (wp_ret ?_))))))))
 replace hst := at_octet_Reader_close (pv := Pt b586 0) (x := ({ p := (subs t581.2.p t581.1 (((t581.2.p).length : Nat) : Int)), bad := t581.2.bad } : octet_Reader)) hst ⟨z, f635⟩
 obtain rfl := some_inj hm
 refine post_ret (vs := [v626]) results65 (rvs_cons (rv_tmp z) rvs_nil) ?_
 replace hst := hst.pull1
 exact ⟨v626, z, hst.keep2⟩
}
}
}
}
}

theorem locks_Read_ref {w0 w : World} {I : HL} {R : SP} {a0 : octet_Reader} {p0 : Value}  (hst : St w0 w I [at_octet_Reader p0 a0] R) {r : (api_Hold × octet_Reader)} (hm : locks_Read a0 = some r) :
  Calls prog 34 #[p0] w fun e w' => ∃ (q0_0 : Value) (q0_1 : Value) (q0_2 : Value) (q0_3 : Value), e = .returned (.agg #[U6 r.1.ID.Session, U6 r.1.ID.Seq, U6 r.1.Epoch, q0_0, q0_1, q0_2, q0_3]) ∧ St w0 w' I [ownS tyF64 q0_0 r.1.Gets, ownS tyF2 q0_1 r.1.Scans, ownS tyF64 q0_2 r.1.Puts, ownS (tyInt .u8) q0_3 r.1.Data, at_octet_Reader p0 r.2] R := by {
 unfold locks_Read at hm
 refine calls_start (args := [p0]) func34 z ntmps34 (Nat.le_of_ble_eq_true z) ?_
 refine wp_seq (wrl ?_)
 obtain ⟨b536, w537, ew538, eb539, hst⟩ := hst.box [Zu, Zu, Zu, Zs, Zs, Zs, Zs] 34
 refine wl_run (v := Pt b536 0) (w' := w537) z z (x_al (by kernel_rfl) ew538 eb539) ?_
 refine wl_nil (tn (wp_seq (wrl (wv (p0) z z z ?_))))
 replace hst := hst.pull1
 obtain ⟨t541, ht542, hm⟩ := bind_some hm
 refine wc call63 [p0, I6 (8:Int)] z z z ?_
 refine (octet_Reader_Num_ref hst.to1 ht542).mono ?_
 rintro _ w543 ⟨rfl, hst⟩
 refine ⟨_, z, ?_⟩
 replace hst := hst.of1
 refine wv (p0) z z z ?_
 obtain ⟨t546, ht547, hm⟩ := bind_some hm
 refine wc call63 [p0, I6 (8:Int)] z z z ?_
 refine (octet_Reader_Num_ref hst.to1 ht547).mono ?_
 rintro _ w548 ⟨rfl, hst⟩
 refine ⟨_, z, ?_⟩
 replace hst := hst.of1
 refine wv (.agg #[U6 t541.1, U6 t546.1]) z z (by kernel_rfl) (wv (p0) z z z ?_)
 obtain ⟨t551, ht552, hm⟩ := bind_some hm
 refine wc call63 [p0, I6 (8:Int)] z z z ?_
 refine (octet_Reader_Num_ref hst.to1 ht552).mono ?_
 rintro _ w553 ⟨rfl, hst⟩
 refine ⟨_, z, ?_⟩
 replace hst := hst.of1
 refine wv (.agg #[U6 t541.1, U6 t546.1, U6 t551.1, Zs, Zs, Zs, Zs]) z z (by kernel_rfl) ?_
 obtain ⟨b564, w565, ew566, eb567, hst⟩ := hst.box [Zu, Zu, Zu, Zs, Zs, Zs, Zs] 34
 refine wl_run (v := Pt b564 0) (w' := w565) z z (x_al (by kernel_rfl) ew566 eb567) ?_
 obtain ⟨w569, hr570, hst⟩ := hst.bx [U6 t541.1, U6 t546.1, U6 t551.1, Zs, Zs, Zs, Zs] sizeOf34 z (oC z (oC z (oC z (oC z (oC z (oC z (oC z oN))))))) (by kernel_rfl)
 refine wl_unit z z (x_unit hr570) ?_
 refine wl_nil (tn ?_)
 obtain ⟨y692, hm, hx693⟩ := bind_some hm
 refine wp_cut (fun a w => ∃ (z686 : octet_Reader) (z689 : (List Nat)) (v688 : Value) (σ690 : Nat → Value), (locks_Read_j0 t541 t546 t551) (z686, z689) = some r ∧ a = Fr 59 (upd (upd (upd σ690 0 (p0)) 2 (Pt b536 0)) 3 (Pt b564 0)) ∧ St w0 w I [at_octet_Reader p0 z686, cells b536 [Zu, Zu, Zu, Zs, Zs, Zs, Zs], cells b564 [U6 t541.1, U6 t546.1, U6 t551.1, v688, Zs, Zs, Zs], ownS tyF64 v688 z689] R) ?_ ?_
 {
 refine wp_seq (wrl (wv (p0) z z z ?_))
 replace hst := hst.pull1
 obtain ⟨t571, ht572, hm⟩ := bind_some hm
 refine wc call57 [p0, I6 (32:Int)] z z z ?_
 refine (octet_Reader_Count_ref hst.to1 ht572).mono ?_
 rintro _ w573 ⟨rfl, hst⟩
 refine ⟨_, z, ?_⟩
 replace hst := hst.of1
 refine wv (.int .i64 (0:Int)) z z z (wl_nil (tn (wp_block ?_)))
 replace hst := hst.own_nil tyF64
 obtain ⟨n656, hm⟩ := loopO_some hm
 refine wp_loop_n (fun n a w => ∃ (z650 : (List Nat)) (z653 : octet_Reader) (z654 : Int) (v651 : Value) (σ655 : Nat → Value), loopN (locks_Read_l1 t571) n (z650, z653, z654) = some y692 ∧ a = Fr 59 (upd (upd (upd (upd (upd σ655 0 (p0)) 2 (Pt b536 0)) 3 (Pt b564 0)) 13 (.int .i64 t571.1)) 14 (.int .i64 z654)) ∧ St w0 w I [ownS tyF64 v651 z650, at_octet_Reader p0 z653, cells b564 [U6 t541.1, U6 t546.1, U6 t551.1, v651, Zs, Zs, Zs], cells b536 [Zu, Zu, Zu, Zs, Zs, Zs, Zs]] R) n656 ⟨[], t571.2, (0:Int), Zs, _, hm, (fu 0 p0 z (fu 2 (Pt b536 0) z (fu 3 (Pt b564 0) z (fu 13 (.int .i64 t571.1) z (fu 14 (.int .i64 (0:Int)) z z))))), hst⟩ ?_
 rintro n662 _ w657 ⟨z650, z653, z654, v651, σ655, hm, rfl, hst⟩
 obtain ⟨n659, y660, rfl, hm, hx661⟩ := loopN_some hm
 dsimp only [locks_Read_l1] at hm
 refine wp_seq (wrl (wv (.bool (decide (z654 < t571.1))) z z z (wl_nil (tn (wp_seq ?_)))))
 refine bsplit (decide (z654 < t571.1)) (fun hc663 => ?_) (fun hc663 => ?_)
 {
 replace hm := bif_t hc663 hm
 refine wp_ift (cvb hc663) ?_
 refine wp_skip (tn (wp_seq (wp_block ?_)))
 refine wp_region_St hst 9 [0, 1, 2, 3, 4, 5, 6, 7, 8] [0, 1, 0, 4, 12, 28, 63, 127, 255] [] z (by kernel_rfl) (by kernel_rfl) Try.mixed (by kernel_rfl) ?_
 refine wsr (Pt b564 3) 0 z z z (by kernel_rfl) (fun w hst => x_field z underlying34 z sizeOf30 z) (wsr (v651) 1 z z z (by kernel_rfl) (fun w hst => x_load z isAgg30 (hst.bc2 z)) (wsr (p0) 2 z z z (by kernel_rfl) (fun w hst => z) ?_))
 refine ws_e1 3 (by kernel_rfl) ?_
 refine nxe [4, 5, 6, 7, 8] (by kernel_rfl) z z ?_
 clear hst
 intro w hst
 replace hst := hst.pull1
 obtain ⟨t664, ht665, hm⟩ := bind_some hm
 refine wec call63 [p0, I6 (8:Int)] z z ?_
 refine (octet_Reader_Num_ref hst.to1 ht665).mono ?_
 rintro _ w666 ⟨rfl, hst⟩
 refine ⟨_, z, ?_⟩
 replace hst := hst.of1
 refine ws_next (pend' := [(1, v651), (0, Pt b564 3)]) hst (by kernel_rfl) (pkr z z (fun w hst => x_load z isAgg30 (hst.bc2 z)) (pkr z z (fun w hst => x_field z underlying34 z sizeOf30 z) pk_nil)) ?_
 refine ws_e1 4 (by kernel_rfl) ?_
 refine nxe [5, 6, 7, 8] (by kernel_rfl) z z ?_
 clear hst
 intro w hst
 obtain ⟨t669, ht670, hm⟩ := bind_some hm
 refine wec call64 [U6 t664.1] z z ?_
 refine (number_Back_ref hst.to0 ht670).mono ?_
 rintro _ w671 ⟨rfl, hst⟩
 refine ⟨_, z, ?_⟩
 replace hst := hst.of0
 refine ws_next (pend' := [(1, v651), (0, Pt b564 3)]) hst (by kernel_rfl) (pkr z z (fun w hst => x_load z isAgg30 (hst.bc2 z)) (pkr z z (fun w hst => x_field z underlying34 z sizeOf30 z) pk_nil)) ?_
 refine ws_e1 5 (by kernel_rfl) ?_
 refine nxe [6, 7, 8] (by kernel_rfl) z z ?_
 clear hst
 intro w hst
 obtain ⟨b674, w675, ew676, eb677, hst⟩ := hst.lits (E := tyF64) (xs := [t669]) [[F6 t669]] 57 1 z (Reps.cons z Reps.nil)
 refine we_run (v := (.slice (some ⟨b674, 0, none⟩) 1 1)) (w' := w675) z (x_als (by kernel_rfl) ew676 eb677) ?_
 refine ws_next (pend' := [(1, v651), (0, Pt b564 3)]) hst (by kernel_rfl) (pkr z z (fun w hst => x_load z isAgg30 (hst.bc3 z)) (pkr z z (fun w hst => x_field z underlying34 z sizeOf30 z) pk_nil)) ?_
 refine ws_e1 6 (by kernel_rfl) ?_
 refine nxe [7, 8] (by kernel_rfl) z z ?_
 clear hst
 intro w hst
 obtain ⟨hg679, hm⟩ := gd_some hm
 replace hst := hst.pull2
 obtain ⟨v680, w681, hr682, hst⟩ := run_append elem_30 underlying30 hst hst.src1 (room_of hg679 z) 30
 refine we_run (v := v680) (w' := w681) z (x_append z z hr682) ?_
 refine ws_next (pend' := []) hst (by kernel_rfl) pk_nil ?_
 refine wsr (Pt b564 3) 7 z z z (by kernel_rfl) (fun w hst => x_field z underlying34 z sizeOf30 z) ?_
 refine ws_e1 8 (by kernel_rfl) ?_
 refine nxe [] (by kernel_rfl) z z ?_
 clear hst
 intro w hst
 replace hst := hst.pull3
 obtain ⟨w684, hr685, hst⟩ := hst.boxStore1 (P := prog) (t := 30) (cs' := [U6 t541.1, U6 t546.1, U6 t551.1, v680, Zs, Zs, Zs]) 3 v680 (one_of_sliceV hst.sv1) sizeOf30 z z
 refine we_unit z (x_unit hr685) ?_
 refine ws_next (pend' := []) hst (by kernel_rfl) pk_nil ?_
 refine ws_nil ?_
 intro w hst
 refine blk_n (tn (wrl ?_))
 refine wv (.int .i64 (i64.wrap (z654 + (1:Int)))) z z z (wv (.int .i64 (i64.wrap (z654 + (1:Int)))) z z z (wl_nil (tn ?_)))
 replace hst := hst.pull4.pull1.pull4.pull3.keep4
 obtain rfl := some_inj hm
 exact ⟨_, Nat.lt_succ_self _, (z650 ++ ([t669])), t664.2, (i64.wrap (z654 + (1:Int))), v680, _, hx661, (fu 0 p0 z (fu 2 (Pt b536 0) z (fu 3 (Pt b564 0) z (fu 13 (.int .i64 t571.1) z (fu 14 (.int .i64 (i64.wrap (z654 + (1:Int)))) z z))))), hst⟩
}
 {
 replace hm := bif_f hc663 hm
 refine wp_iff (cvb hc663) ?_
 refine wp_exit (then_x (then_x ?_))
 replace hm := inr_up hm hx661
 refine blk_x (tn ?_)
 replace hst := hst.pull2.pull3.pull3.keep4
 obtain rfl := some_inj hm
 exact ⟨z653, z650, v651, _, hx693, (fu 0 p0 z (fu 2 (Pt b536 0) z (fu 3 (Pt b564 0) z z))), hst⟩
}
}
 {
 clear hst
 rintro _ w694 ⟨z686, z689, v688, σ690, hm, rfl, hst⟩
 dsimp only [locks_Read_j0] at hm
 obtain ⟨y856, hm, hx857⟩ := bind_some hm
 refine wp_cut (fun a w => ∃ (z850 : octet_Reader) (z853 : (List (Nat × Nat))) (v852 : Value) (σ854 : Nat → Value), (locks_Read_j2 t541 t546 t551 z689) (z850, z853) = some r ∧ a = Fr 59 (upd (upd (upd σ854 0 (p0)) 2 (Pt b536 0)) 3 (Pt b564 0)) ∧ St w0 w I [at_octet_Reader p0 z850, cells b536 [Zu, Zu, Zu, Zs, Zs, Zs, Zs], cells b564 [U6 t541.1, U6 t546.1, U6 t551.1, v688, v852, Zs, Zs], ownS tyF64 v688 z689, ownS tyF2 v852 z853] R) ?_ ?_
 {
 refine wp_seq (wrl (wv (p0) z z z ?_))
 obtain ⟨t695, ht696, hm⟩ := bind_some hm
 refine wc call57 [p0, I6 (32:Int)] z z z ?_
 refine (octet_Reader_Count_ref hst.to1 ht696).mono ?_
 rintro _ w697 ⟨rfl, hst⟩
 refine ⟨_, z, ?_⟩
 replace hst := hst.of1
 refine wv (.int .i64 (0:Int)) z z z (wl_nil (tn (wp_block ?_)))
 replace hst := hst.own_nil tyF2
 obtain ⟨n810, hm⟩ := loopO_some hm
 refine wp_loop_n (fun n a w => ∃ (z804 : (List (Nat × Nat))) (z807 : octet_Reader) (z808 : Int) (v805 : Value) (σ809 : Nat → Value), loopN (locks_Read_l3 t695) n (z804, z807, z808) = some y856 ∧ a = Fr 59 (upd (upd (upd (upd (upd σ809 0 (p0)) 2 (Pt b536 0)) 3 (Pt b564 0)) 26 (.int .i64 t695.1)) 27 (.int .i64 z808)) ∧ St w0 w I [ownS tyF2 v805 z804, at_octet_Reader p0 z807, cells b536 [Zu, Zu, Zu, Zs, Zs, Zs, Zs], cells b564 [U6 t541.1, U6 t546.1, U6 t551.1, v688, v805, Zs, Zs], ownS tyF64 v688 z689] R) n810 ⟨[], t695.2, (0:Int), Zs, _, hm, (fu 0 p0 z (fu 2 (Pt b536 0) z (fu 3 (Pt b564 0) z (fu 26 (.int .i64 t695.1) z (fu 27 (.int .i64 (0:Int)) z z))))), hst⟩ ?_
 rintro n816 _ w811 ⟨z804, z807, z808, v805, σ809, hm, rfl, hst⟩
 obtain ⟨n813, y814, rfl, hm, hx815⟩ := loopN_some hm
 dsimp only [locks_Read_l3] at hm
 refine wp_seq (wrl (wv (.bool (decide (z808 < t695.1))) z z z (wl_nil (tn (wp_seq ?_)))))
 refine bsplit (decide (z808 < t695.1)) (fun hc817 => ?_) (fun hc817 => ?_)
 {
 replace hm := bif_t hc817 hm
 refine wp_ift (cvb hc817) ?_
 refine wp_skip (tn (wp_seq (wp_block ?_)))
 refine wp_region_St hst 13 [0, 1, 2, 3, 4, 5, 6, 7, 8, 9, 10, 11, 12] [0, 1, 0, 4, 12, 0, 60, 124, 252, 508, 1023, 2047, 4095] [] z (by kernel_rfl) (by kernel_rfl) Try.mixed (by kernel_rfl) ?_
 refine wsr (Pt b564 4) 0 z z z (by kernel_rfl) (fun w hst => x_field z underlying34 z sizeOf31 z) (wsr (v805) 1 z z z (by kernel_rfl) (fun w hst => x_load z isAgg31 (hst.bc3 z)) (wsr (p0) 2 z z z (by kernel_rfl) (fun w hst => z) (wsr (p0) 5 z z z (by kernel_rfl) (fun w hst => z) ?_)))
 refine ws_e1 3 (by kernel_rfl) ?_
 refine nxe [4, 6, 7, 8, 9, 10, 11, 12] (by kernel_rfl) z z ?_
 clear hst
 intro w hst
 replace hst := hst.pull1
 obtain ⟨t818, ht819, hm⟩ := bind_some hm
 refine wec call63 [p0, I6 (8:Int)] z z ?_
 refine (octet_Reader_Num_ref hst.to1 ht819).mono ?_
 rintro _ w820 ⟨rfl, hst⟩
 refine ⟨_, z, ?_⟩
 replace hst := hst.of1
 refine ws_next (pend' := [(5, p0), (1, v805), (0, Pt b564 4)]) hst (by kernel_rfl) (pkr z z (fun w hst => z) (pkr z z (fun w hst => x_load z isAgg31 (hst.bc3 z)) (pkr z z (fun w hst => x_field z underlying34 z sizeOf31 z) pk_nil))) ?_
 refine ws_e1 4 (by kernel_rfl) ?_
 refine nxe [6, 7, 8, 9, 10, 11, 12] (by kernel_rfl) z z ?_
 clear hst
 intro w hst
 obtain ⟨t823, ht824, hm⟩ := bind_some hm
 refine wec call64 [U6 t818.1] z z ?_
 refine (number_Back_ref hst.to0 ht824).mono ?_
 rintro _ w825 ⟨rfl, hst⟩
 refine ⟨_, z, ?_⟩
 replace hst := hst.of0
 refine ws_next (pend' := [(5, p0), (1, v805), (0, Pt b564 4)]) hst (by kernel_rfl) (pkr z z (fun w hst => z) (pkr z z (fun w hst => x_load z isAgg31 (hst.bc3 z)) (pkr z z (fun w hst => x_field z underlying34 z sizeOf31 z) pk_nil))) ?_
 refine ws_e1 6 (by kernel_rfl) ?_
 refine nxe [7, 8, 9, 10, 11, 12] (by kernel_rfl) z z ?_
 clear hst
 intro w hst
 obtain ⟨t828, ht829, hm⟩ := bind_some hm
 refine wec call63 [p0, I6 (8:Int)] z z ?_
 refine (octet_Reader_Num_ref hst.to1 ht829).mono ?_
 rintro _ w830 ⟨rfl, hst⟩
 refine ⟨_, z, ?_⟩
 replace hst := hst.of1
 refine ws_next (pend' := [(1, v805), (0, Pt b564 4)]) hst (by kernel_rfl) (pkr z z (fun w hst => x_load z isAgg31 (hst.bc3 z)) (pkr z z (fun w hst => x_field z underlying34 z sizeOf31 z) pk_nil)) ?_
 refine ws_e1 7 (by kernel_rfl) ?_
 refine nxe [8, 9, 10, 11, 12] (by kernel_rfl) z z ?_
 clear hst
 intro w hst
 obtain ⟨t833, ht834, hm⟩ := bind_some hm
 refine wec call64 [U6 t828.1] z z ?_
 refine (number_Back_ref hst.to0 ht834).mono ?_
 rintro _ w835 ⟨rfl, hst⟩
 refine ⟨_, z, ?_⟩
 replace hst := hst.of0
 refine ws_next (pend' := [(1, v805), (0, Pt b564 4)]) hst (by kernel_rfl) (pkr z z (fun w hst => x_load z isAgg31 (hst.bc3 z)) (pkr z z (fun w hst => x_field z underlying34 z sizeOf31 z) pk_nil)) ?_
 refine wsr (.agg #[F6 t823, F6 t833]) 8 z z z (by kernel_rfl) (fun w hst => by kernel_rfl) ?_
 refine ws_e1 9 (by kernel_rfl) ?_
 refine nxe [10, 11, 12] (by kernel_rfl) z z ?_
 clear hst
 intro w hst
 obtain ⟨b838, w839, ew840, eb841, hst⟩ := hst.lits (E := tyF2) (xs := [(t823, t833)]) [[F6 t823, F6 t833]] 75 1 z (Reps.cons z Reps.nil)
 refine we_run (v := (.slice (some ⟨b838, 0, none⟩) 1 1)) (w' := w839) z (x_als (by kernel_rfl) ew840 eb841) ?_
 refine ws_next (pend' := [(1, v805), (0, Pt b564 4)]) hst (by kernel_rfl) (pkr z z (fun w hst => x_load z isAgg31 (hst.bc4 z)) (pkr z z (fun w hst => x_field z underlying34 z sizeOf31 z) pk_nil)) ?_
 refine ws_e1 10 (by kernel_rfl) ?_
 refine nxe [11, 12] (by kernel_rfl) z z ?_
 clear hst
 intro w hst
 obtain ⟨hg843, hm⟩ := gd_some hm
 replace hst := hst.pull2
 obtain ⟨v844, w845, hr846, hst⟩ := run_append elem_31 underlying31 hst hst.src1 (room_of hg843 z) 31
 refine we_run (v := v844) (w' := w845) z (x_append z z hr846) ?_
 refine ws_next (pend' := []) hst (by kernel_rfl) pk_nil ?_
 refine wsr (Pt b564 4) 11 z z z (by kernel_rfl) (fun w hst => x_field z underlying34 z sizeOf31 z) ?_
 refine ws_e1 12 (by kernel_rfl) ?_
 refine nxe [] (by kernel_rfl) z z ?_
 clear hst
 intro w hst
 replace hst := hst.pull4
 obtain ⟨w848, hr849, hst⟩ := hst.boxStore1 (P := prog) (t := 31) (cs' := [U6 t541.1, U6 t546.1, U6 t551.1, v688, v844, Zs, Zs]) 4 v844 (one_of_sliceV hst.sv1) sizeOf31 z z
 refine we_unit z (x_unit hr849) ?_
 refine ws_next (pend' := []) hst (by kernel_rfl) pk_nil ?_
 refine ws_nil ?_
 intro w hst
 refine blk_n (tn (wrl ?_))
 refine wv (.int .i64 (i64.wrap (z808 + (1:Int)))) z z z (wv (.int .i64 (i64.wrap (z808 + (1:Int)))) z z z (wl_nil (tn ?_)))
 replace hst := hst.pull5.pull1.pull5.pull5.pull4.keep5
 obtain rfl := some_inj hm
 exact ⟨_, Nat.lt_succ_self _, (z804 ++ ([(t823, t833)])), t828.2, (i64.wrap (z808 + (1:Int))), v844, _, hx815, (fu 0 p0 z (fu 2 (Pt b536 0) z (fu 3 (Pt b564 0) z (fu 26 (.int .i64 t695.1) z (fu 27 (.int .i64 (i64.wrap (z808 + (1:Int)))) z z))))), hst⟩
}
 {
 replace hm := bif_f hc817 hm
 refine wp_iff (cvb hc817) ?_
 refine wp_exit (then_x (then_x ?_))
 replace hm := inr_up hm hx815
 refine blk_x (tn ?_)
 replace hst := hst.pull4.pull4.pull4.pull4.keep5
 obtain rfl := some_inj hm
 exact ⟨z807, z804, v805, _, hx857, (fu 0 p0 z (fu 2 (Pt b536 0) z (fu 3 (Pt b564 0) z z))), hst⟩
}
}
 {
 clear hst
 rintro _ w858 ⟨z850, z853, v852, σ854, hm, rfl, hst⟩
 dsimp only [locks_Read_j2] at hm
 obtain ⟨y980, hm, hx981⟩ := bind_some hm
 refine wp_cut (fun a w => ∃ (z974 : octet_Reader) (z977 : (List Nat)) (v976 : Value) (σ978 : Nat → Value), (locks_Read_j4 t541 t546 t551 z689 z853) (z974, z977) = some r ∧ a = Fr 59 (upd (upd (upd σ978 0 (p0)) 2 (Pt b536 0)) 3 (Pt b564 0)) ∧ St w0 w I [at_octet_Reader p0 z974, cells b536 [Zu, Zu, Zu, Zs, Zs, Zs, Zs], cells b564 [U6 t541.1, U6 t546.1, U6 t551.1, v688, v852, v976, Zs], ownS tyF64 v688 z689, ownS tyF2 v852 z853, ownS tyF64 v976 z977] R) ?_ ?_
 {
 refine wp_seq (wrl (wv (p0) z z z ?_))
 obtain ⟨t859, ht860, hm⟩ := bind_some hm
 refine wc call57 [p0, I6 (32:Int)] z z z ?_
 refine (octet_Reader_Count_ref hst.to1 ht860).mono ?_
 rintro _ w861 ⟨rfl, hst⟩
 refine ⟨_, z, ?_⟩
 replace hst := hst.of1
 refine wv (.int .i64 (0:Int)) z z z (wl_nil (tn (wp_block ?_)))
 replace hst := hst.own_nil tyF64
 obtain ⟨n944, hm⟩ := loopO_some hm
 refine wp_loop_n (fun n a w => ∃ (z938 : (List Nat)) (z941 : octet_Reader) (z942 : Int) (v939 : Value) (σ943 : Nat → Value), loopN (locks_Read_l5 t859) n (z938, z941, z942) = some y980 ∧ a = Fr 59 (upd (upd (upd (upd (upd σ943 0 (p0)) 2 (Pt b536 0)) 3 (Pt b564 0)) 43 (.int .i64 t859.1)) 44 (.int .i64 z942)) ∧ St w0 w I [ownS tyF64 v939 z938, at_octet_Reader p0 z941, cells b536 [Zu, Zu, Zu, Zs, Zs, Zs, Zs], cells b564 [U6 t541.1, U6 t546.1, U6 t551.1, v688, v852, v939, Zs], ownS tyF64 v688 z689, ownS tyF2 v852 z853] R) n944 ⟨[], t859.2, (0:Int), Zs, _, hm, (fu 0 p0 z (fu 2 (Pt b536 0) z (fu 3 (Pt b564 0) z (fu 43 (.int .i64 t859.1) z (fu 44 (.int .i64 (0:Int)) z z))))), hst⟩ ?_
 rintro n950 _ w945 ⟨z938, z941, z942, v939, σ943, hm, rfl, hst⟩
 obtain ⟨n947, y948, rfl, hm, hx949⟩ := loopN_some hm
 dsimp only [locks_Read_l5] at hm
 refine wp_seq (wrl (wv (.bool (decide (z942 < t859.1))) z z z (wl_nil (tn (wp_seq ?_)))))
 refine bsplit (decide (z942 < t859.1)) (fun hc951 => ?_) (fun hc951 => ?_)
 {
 replace hm := bif_t hc951 hm
 refine wp_ift (cvb hc951) ?_
 refine wp_skip (tn (wp_seq (wp_block ?_)))
 refine wp_region_St hst 9 [0, 1, 2, 3, 4, 5, 6, 7, 8] [0, 1, 0, 4, 12, 28, 63, 127, 255] [] z (by kernel_rfl) (by kernel_rfl) Try.mixed (by kernel_rfl) ?_
 refine wsr (Pt b564 5) 0 z z z (by kernel_rfl) (fun w hst => x_field z underlying34 z sizeOf30 z) (wsr (v939) 1 z z z (by kernel_rfl) (fun w hst => x_load z isAgg30 (hst.bc3 z)) (wsr (p0) 2 z z z (by kernel_rfl) (fun w hst => z) ?_))
 refine ws_e1 3 (by kernel_rfl) ?_
 refine nxe [4, 5, 6, 7, 8] (by kernel_rfl) z z ?_
 clear hst
 intro w hst
 replace hst := hst.pull1
 obtain ⟨t952, ht953, hm⟩ := bind_some hm
 refine wec call63 [p0, I6 (8:Int)] z z ?_
 refine (octet_Reader_Num_ref hst.to1 ht953).mono ?_
 rintro _ w954 ⟨rfl, hst⟩
 refine ⟨_, z, ?_⟩
 replace hst := hst.of1
 refine ws_next (pend' := [(1, v939), (0, Pt b564 5)]) hst (by kernel_rfl) (pkr z z (fun w hst => x_load z isAgg30 (hst.bc3 z)) (pkr z z (fun w hst => x_field z underlying34 z sizeOf30 z) pk_nil)) ?_
 refine ws_e1 4 (by kernel_rfl) ?_
 refine nxe [5, 6, 7, 8] (by kernel_rfl) z z ?_
 clear hst
 intro w hst
 obtain ⟨t957, ht958, hm⟩ := bind_some hm
 refine wec call64 [U6 t952.1] z z ?_
 refine (number_Back_ref hst.to0 ht958).mono ?_
 rintro _ w959 ⟨rfl, hst⟩
 refine ⟨_, z, ?_⟩
 replace hst := hst.of0
 refine ws_next (pend' := [(1, v939), (0, Pt b564 5)]) hst (by kernel_rfl) (pkr z z (fun w hst => x_load z isAgg30 (hst.bc3 z)) (pkr z z (fun w hst => x_field z underlying34 z sizeOf30 z) pk_nil)) ?_
 refine ws_e1 5 (by kernel_rfl) ?_
 refine nxe [6, 7, 8] (by kernel_rfl) z z ?_
 clear hst
 intro w hst
 obtain ⟨b962, w963, ew964, eb965, hst⟩ := hst.lits (E := tyF64) (xs := [t957]) [[F6 t957]] 57 1 z (Reps.cons z Reps.nil)
 refine we_run (v := (.slice (some ⟨b962, 0, none⟩) 1 1)) (w' := w963) z (x_als (by kernel_rfl) ew964 eb965) ?_
 refine ws_next (pend' := [(1, v939), (0, Pt b564 5)]) hst (by kernel_rfl) (pkr z z (fun w hst => x_load z isAgg30 (hst.bc4 z)) (pkr z z (fun w hst => x_field z underlying34 z sizeOf30 z) pk_nil)) ?_
 refine ws_e1 6 (by kernel_rfl) ?_
 refine nxe [7, 8] (by kernel_rfl) z z ?_
 clear hst
 intro w hst
 obtain ⟨hg967, hm⟩ := gd_some hm
 replace hst := hst.pull2
 obtain ⟨v968, w969, hr970, hst⟩ := run_append elem_30 underlying30 hst hst.src1 (room_of hg967 z) 30
 refine we_run (v := v968) (w' := w969) z (x_append z z hr970) ?_
 refine ws_next (pend' := []) hst (by kernel_rfl) pk_nil ?_
 refine wsr (Pt b564 5) 7 z z z (by kernel_rfl) (fun w hst => x_field z underlying34 z sizeOf30 z) ?_
 refine ws_e1 8 (by kernel_rfl) ?_
 refine nxe [] (by kernel_rfl) z z ?_
 clear hst
 intro w hst
 replace hst := hst.pull4
 obtain ⟨w972, hr973, hst⟩ := hst.boxStore1 (P := prog) (t := 30) (cs' := [U6 t541.1, U6 t546.1, U6 t551.1, v688, v852, v968, Zs]) 5 v968 (one_of_sliceV hst.sv1) sizeOf30 z z
 refine we_unit z (x_unit hr973) ?_
 refine ws_next (pend' := []) hst (by kernel_rfl) pk_nil ?_
 refine ws_nil ?_
 intro w hst
 refine blk_n (tn (wrl ?_))
 refine wv (.int .i64 (i64.wrap (z942 + (1:Int)))) z z z (wv (.int .i64 (i64.wrap (z942 + (1:Int)))) z z z (wl_nil (tn ?_)))
 replace hst := hst.pull6.pull6.pull2.pull6.pull6.pull5.keep6
 obtain rfl := some_inj hm
 exact ⟨_, Nat.lt_succ_self _, (z938 ++ ([t957])), t952.2, (i64.wrap (z942 + (1:Int))), v968, _, hx949, (fu 0 p0 z (fu 2 (Pt b536 0) z (fu 3 (Pt b564 0) z (fu 43 (.int .i64 t859.1) z (fu 44 (.int .i64 (i64.wrap (z942 + (1:Int)))) z z))))), hst⟩
}
 {
 replace hm := bif_f hc951 hm
 refine wp_iff (cvb hc951) ?_
 refine wp_exit (then_x (then_x ?_))
 replace hm := inr_up hm hx949
 refine blk_x (tn ?_)
 replace hst := hst.pull5.pull5.pull5.pull5.pull5.keep6
 obtain rfl := some_inj hm
 exact ⟨z941, z938, v939, _, hx981, (fu 0 p0 z (fu 2 (Pt b536 0) z (fu 3 (Pt b564 0) z z))), hst⟩
}
}
 {
 clear hst
 rintro _ w982 ⟨z974, z977, v976, σ978, hm, rfl, hst⟩
 dsimp only [locks_Read_j4] at hm
 refine wp_seq (wrl (wv (p0) z z z ?_))
 obtain ⟨t983, ht984, hm⟩ := bind_some hm
 refine wc call65 [p0, I6 (257:Int)] z z z ?_
 refine (octet_Reader_Bytes_ref hst.to1 ht984).mono ?_
 rintro _ w985 ⟨v988, rfl, hst⟩
 refine ⟨_, z, ?_⟩
 replace hst := hst.of2
 refine wv (Pt b564 6) z z (x_field z underlying34 z sizeOf32 z) ?_
 replace hst := hst.pull3
 obtain ⟨w990, hr991, hst⟩ := hst.boxStore1 (P := prog) (t := 32) (cs' := [U6 t541.1, U6 t546.1, U6 t551.1, v688, v852, v976, v988]) 6 v988 (one_of_sliceV hst.sv1) sizeOf32 z z
 refine wl_unit z z (x_unit hr991) ?_
 refine wl_nil (tn (wp_seq (wrl (wv (.agg #[U6 t541.1, U6 t546.1, U6 t551.1, v688, v852, v976, v988]) z z (x_loadN (cs := [U6 t541.1, U6 t546.1, U6 t551.1, v688, v852, v976, v988]) z isAgg34 sizeOf34 (hst.bcs0 0 z)) ?_))))
 replace hst := hst.pull3
 obtain ⟨w992, hr993, hst⟩ := hst.bx [U6 t541.1, U6 t546.1, U6 t551.1, v688, v852, v976, v988] sizeOf34 z (oC z (oC z (oC z (oC (one_of_sliceV hst.sv4) (oC (one_of_sliceV hst.sv5) (oC (one_of_sliceV hst.sv6) (oC (one_of_sliceV hst.sv2) oN))))))) (by kernel_rfl)
 refine wl_unit z z (x_unit hr993) ?_
 refine wl_nil (tn (wp_ret ?_))
 obtain rfl := some_inj hm
 refine post_ret (vs := [.agg #[U6 t541.1, U6 t546.1, U6 t551.1, v688, v852, v976, v988]]) results34 (rvs_cons (rv_cell (cs := [U6 t541.1, U6 t546.1, U6 t551.1, v688, v852, v976, v988]) z isAgg34 sizeOf34 (hst.bcs0 0 z)) rvs_nil) ?_
 replace hst := hst.pull3.pull3.pull6.pull6.pull6
 exact ⟨v688, v852, v976, v988, z, hst.keep5⟩
}
}
}
}

theorem ref02_Num_ref {w0 w : World} {I : HL} {R : SP} {a0 : (List Int)} {r0_0 : Value} {a1 : Int} {a2 : Int} (f0_0 : Rd (tyInt .u8) R I r0_0 a0) (hst : St w0 w I [] R) {r : ((List Int))} (hm : ref02_Num a0 a1 a2 = some r) :
  Calls prog 67 #[r0_0, U6 a1, I6 a2] w fun e w' => ∃ (q0_0 : Value), e = .returned (q0_0) ∧ St w0 w' I [ownS (tyInt .u8) q0_0 r] R := by {
 unfold ref02_Num at hm
 refine calls_start (args := [r0_0, U6 a1, I6 a2]) func67 z ntmps67 (Nat.le_of_ble_eq_true z) ?_
 refine wp_seq (wrl (wv ((.slice none 0 0)) z z z (wl_nil (tn (wp_seq (wrl (wv ((.slice none 0 0)) z z z (wl_nil (tn (wp_seq (wrl (wv ((.slice none 0 0)) z z z (wv (r0_0) z z z ?_)))))))))))))
 replace hst := hst.own_nil (tyInt .u8)
 obtain ⟨hg172, hm⟩ := gd_some hm
 obtain ⟨v173, w174, hr175, hst⟩ := run_append elem_32 underlying32 hst (Src.of_rd hst f0_0 flat_int) (room_of hg172 z) 32
 replace hst := St.nil_app hst
 refine wl_run (v := v173) (w' := w174) z z (x_append z z hr175) ?_
 refine wv (v173) z z z (wl_nil (tn (wp_seq (wp_seq (wrl (wv (.int .i64 (0:Int)) z z z (wl_nil (tn (wp_block ?_)))))))))
 obtain ⟨n210, hm⟩ := loopO_some hm
 refine wp_loop_n (fun n a w => ∃ (z204 : Int) (z205 : (List Int)) (z208 : Int) (v206 : Value) (σ209 : Nat → Value), loopN (ref02_Num_l0 a2) n (z204, z205, z208) = some r ∧ a = Fr 26 (upd (upd (upd (upd σ209 1 (.int .u64 z204)) 2 (.int .i64 a2)) 7 (v206)) 8 (.int .i64 z208)) ∧ St w0 w I [ownS (tyInt .u8) v206 z205] R) n210 ⟨a1, a0, (0:Int), v173, _, hm, (fu 1 (.int .u64 a1) z (fu 2 (.int .i64 a2) z (fu 7 v173 z (fu 8 (.int .i64 (0:Int)) z z)))), hst⟩ ?_
 rintro n216 _ w211 ⟨z204, z205, z208, v206, σ209, hm, rfl, hst⟩
 obtain ⟨n213, y214, rfl, hm, hx215⟩ := loopN_some hm
 dsimp only [ref02_Num_l0] at hm
 refine wp_seq (wp_seq (wrl (wv (.int .i64 z208) z z z (wv (.int .i64 a2) z z z (wv (.bool (decide (z208 < a2))) z z z (wl_nil (tn ?_)))))))
 refine bsplit (decide (z208 < a2)) (fun hc217 => ?_) (fun hc217 => ?_)
 {
 replace hm := bif_t hc217 hm
 refine wp_ift (cvb hc217) ?_
 refine wp_skip (tn (wp_seq (wp_block (wp_seq (wrl ?_)))))
 refine wv (v206) z z z (wv (.int .u64 z204) z z z (wv (.int .u64 (bAnd .u64 z204 (255:Int))) z z z (wv (.int .u8 (u8.wrap (bAnd .u64 z204 (255:Int)))) z z (by kernel_rfl) ?_)))
 obtain ⟨b218, w219, ew220, eb221, hst⟩ := hst.lits (E := (tyInt .u8)) (xs := [(u8.wrap (bAnd .u64 z204 (255:Int)))]) [[U1 (u8.wrap (bAnd .u64 z204 (255:Int)))]] 5 1 z (Reps.cons z Reps.nil)
 refine wl_run (v := (.slice (some ⟨b218, 0, none⟩) 1 1)) (w' := w219) z z (x_als (by kernel_rfl) ew220 eb221) ?_
 obtain ⟨hg223, hm⟩ := gd_some hm
 replace hst := hst.pull1
 obtain ⟨v224, w225, hr226, hst⟩ := run_append elem_32 underlying32 hst hst.src1 (room_of hg223 z) 32
 refine wl_run (v := v224) (w' := w225) z z (x_append z z hr226) ?_
 refine wv (v224) z z z (wl_nil (tn (wrl (wv (.int .u64 z204) z z z (wv (.int .u64 (iShr .u64 z204 (8:Int))) z z (x_shr (by decide) z z) (wv (.int .u64 (iShr .u64 z204 (8:Int))) z z z (wl_nil (blk_n (tn (wrl (wv (.int .i64 z208) z z z (wv (.int .i64 (i64.wrap (z208 + (1:Int)))) z z z (wv (.int .i64 (i64.wrap (z208 + (1:Int)))) z z z (wl_nil (tn ?_)))))))))))))))
 replace hst := hst.keep1
 obtain rfl := some_inj hm
 exact ⟨_, Nat.lt_succ_self _, (iShr .u64 z204 (8:Int)), (z205 ++ ([(u8.wrap (bAnd .u64 z204 (255:Int)))])), (i64.wrap (z208 + (1:Int))), v224, _, hx215, (fu 1 (.int .u64 (iShr .u64 z204 (8:Int))) z (fu 2 (.int .i64 a2) z (fu 7 v224 z (fu 8 (.int .i64 (i64.wrap (z208 + (1:Int)))) z z)))), hst⟩
}
 {
 replace hm := bif_f hc217 hm
 refine wp_iff (cvb hc217) ?_
 refine wp_exit (then_x (then_x ?_))
 replace hm := inr_up hm hx215
 refine blk_x (tn (wp_seq (wrl ?_)))
 refine wv (v206) z z z (wv (v206) z z z (wl_nil (tn (wp_ret ?_))))
 obtain rfl := some_inj hm
 refine post_ret (vs := [v206]) results67 (rvs_cons (rv_tmp z) rvs_nil) ?_
 exact ⟨v206, z, hst.keep1⟩
}
}

theorem ref12_ID_ref {w0 w : World} {I : HL} {R : SP} {a0 : (List Int)} {r0_0 : Value} {a1 : api_ID} (f0_0 : Rd (tyInt .u8) R I r0_0 a0) (hst : St w0 w I [] R) {r : ((List Int))} (hm : ref12_ID a0 a1 = some r) :
  Calls prog 66 #[r0_0, .agg #[U6 a1.Session, U6 a1.Seq]] w fun e w' => ∃ (q0_0 : Value), e = .returned (q0_0) ∧ St w0 w' I [ownS (tyInt .u8) q0_0 r] R := by {
 unfold ref12_ID at hm
 refine calls_start (args := [r0_0, .agg #[U6 a1.Session, U6 a1.Seq]]) func66 z ntmps66 (Nat.le_of_ble_eq_true z) ?_
 refine wp_seq (wrl ?_)
 obtain ⟨b127, w128, ew129, eb130, hst⟩ := hst.box [U6 a1.Session, U6 a1.Seq] 29
 refine wl_run (v := Pt b127 0) (w' := w128) z z (x_al (by kernel_rfl) ew129 eb130) ?_
 refine wv ((.slice none 0 0)) z z z (wl_nil (tn (wp_seq ?_)))
 refine wp_region_St hst 8 [0, 1, 2, 3, 4, 5, 6, 7] [0, 0, 2, 7, 0, 16, 63, 127] [] z (by kernel_rfl) (by kernel_rfl) Try.mixed (by kernel_rfl) ?_
 refine wsr (r0_0) 0 z z z (by kernel_rfl) (fun w hst => z) (wsr (Pt b127 0) 1 z z z (by kernel_rfl) (fun w hst => x_field z underlying29 z sizeOf27 z) (wsr (.int .u64 a1.Session) 2 z z z (by kernel_rfl) (fun w hst => x_load z isAgg27 (hst.bc0 z)) (wsr (Pt b127 1) 4 z z z (by kernel_rfl) (fun w hst => x_field z underlying29 z sizeOf27 z) (wsr (.int .u64 a1.Seq) 5 z z z (by kernel_rfl) (fun w hst => x_load z isAgg27 (hst.bc0 z)) ?_))))
 refine ws_e1 3 (by kernel_rfl) ?_
 refine nxe [6, 7] (by kernel_rfl) z z ?_
 clear hst
 intro w hst
 obtain ⟨t133, ht134, hm⟩ := bind_some hm
 refine wec call67 [r0_0, U6 a1.Session, I6 (8:Int)] z z ?_
 refine (ref02_Num_ref (f0_0.mono (rd_weak _)) hst.to0 ht134).mono ?_
 rintro _ w135 ⟨v138, rfl, hst⟩
 refine ⟨_, z, ?_⟩
 replace hst := hst.of1
 refine ws_next (pend' := [(5, U6 a1.Seq), (4, Pt b127 1)]) hst (by kernel_rfl) (pkr z z (fun w hst => x_load z isAgg27 (hst.bc1 z)) (pkr z z (fun w hst => x_field z underlying29 z sizeOf27 z) pk_nil)) ?_
 refine ws_e1 6 (by kernel_rfl) ?_
 refine nxe [7] (by kernel_rfl) z z ?_
 clear hst
 intro w hst
 obtain ⟨css140, hq141, hst⟩ := hst.own_open
 obtain ⟨t142, ht143, hm⟩ := bind_some hm
 refine wec call67 [v138, U6 a1.Seq, I6 (8:Int)] z z ?_
 refine (ref02_Num_ref (hst.rdrow0 hq141) hst.to0 ht143).mono ?_
 rintro _ w144 ⟨v147, rfl, hst⟩
 refine ⟨_, z, ?_⟩
 replace hst := hst.of1.pull1.own_close hq141
 refine ws_next (pend' := []) hst (by kernel_rfl) pk_nil ?_
 refine wsr (v147) 7 z z z (by kernel_rfl) (fun w hst => z) ?_
 refine ws_nil ?_
 intro w hst
 refine tn (wp_ret ?_)
 obtain rfl := some_inj hm
 refine post_ret (vs := [v147]) results66 (rvs_cons (rv_tmp z) rvs_nil) ?_
 replace hst := hst.pull1
 exact ⟨v147, z, hst.keep1⟩
}

theorem ref01_Rank_ref {w0 w : World} {I : HL} {R : SP} {a0 : Nat}  (hst : St w0 w I [] R) {r : (Int)} (hm : ref01_Rank a0 = some r) :
  Calls prog 68 #[F6 a0] w fun e w' => e = .returned (.int .u64 r) ∧ St w0 w' I [] R := by {
 unfold ref01_Rank at hm
 refine calls_start (args := [F6 a0]) func68 z ntmps68 (Nat.le_of_ble_eq_true z) ?_
 refine wp_seq (wrl (wv (.int .u64 (0:Int)) z z z (wl_nil (tn (wp_seq (wrl (wv (.float .f64 a0) z z z (wv (.int .u64 (Int.ofNat a0)) z z (by kernel_rfl) (wv (.int .u64 (Int.ofNat a0)) z z z (wl_nil (tn (wp_seq (wp_seq (wrl (wv (.float .f64 a0) z z z (wv (.float .f64 a0) z z z (wv (.bool (fNe a0 a0)) z z z (wl_nil (tn ?_)))))))))))))))))))
 refine bsplit (fNe a0 a0) (fun hc136 => ?_) (fun hc136 => ?_)
 {
 replace hm := bif_t hc136 hm
 refine wp_ift (cvb hc136) ?_
 refine wp_seq (wrl (wv (.int .u64 (18446744073709551615:Int)) z z z (wl_nil (tn (wp_ret (then_r ?_))))))
 obtain rfl := some_inj hm
 refine post_ret (vs := [U6 (18446744073709551615:Int)]) results68 (rvs_cons (rv_tmp z) rvs_nil) ?_
 exact ⟨z, hst.keep0⟩
}
 {
 replace hm := bif_f hc136 hm
 refine wp_iff (cvb hc136) ?_
 refine wp_skip (tn (wp_seq (wp_seq (wrl ?_))))
 refine wv (.int .u64 (Int.ofNat a0)) z z z (wv (.bool (decide ((Int.ofNat a0) ≥ (9223372036854775808:Int)))) z z z (wl_nil (tn ?_)))
 refine bsplit (decide ((Int.ofNat a0) ≥ (9223372036854775808:Int))) (fun hc137 => ?_) (fun hc137 => ?_)
 {
 replace hm := bif_t hc137 hm
 refine wp_ift (cvb hc137) ?_
 refine wp_seq (wrl (wv (.int .u64 (Int.ofNat a0)) z z z (wv (.int .u64 (u64.wrap ((18446744073709551615:Int) - (Int.ofNat a0)))) z z z (wv (.int .u64 (u64.wrap ((18446744073709551615:Int) - (Int.ofNat a0)))) z z z (wl_nil (tn (wp_ret (then_r ?_))))))))
 obtain rfl := some_inj hm
 refine post_ret (vs := [U6 (u64.wrap ((18446744073709551615:Int) - (Int.ofNat a0)))]) results68 (rvs_cons (rv_tmp z) rvs_nil) ?_
 exact ⟨z, hst.keep0⟩
}
 {
 replace hm := bif_f hc137 hm
 refine wp_iff (cvb hc137) ?_
 refine wp_skip (tn (wp_seq (wrl ?_)))
 refine wv (.int .u64 (Int.ofNat a0)) z z z (wv (.int .u64 (u64.wrap ((Int.ofNat a0) + (9223372036854775808:Int)))) z z z (wv (.int .u64 (u64.wrap ((Int.ofNat a0) + (9223372036854775808:Int)))) z z z (wl_nil (tn (wp_ret ?_)))))
 obtain rfl := some_inj hm
 refine post_ret (vs := [U6 (u64.wrap ((Int.ofNat a0) + (9223372036854775808:Int)))]) results68 (rvs_cons (rv_tmp z) rvs_nil) ?_
 exact ⟨z, hst.keep0⟩
}
}
}

theorem ref02_Bytes_ref {w0 w : World} {I : HL} {R : SP} {a0 : (List Int)} {r0_0 : Value} {a1 : (List Int)} {r1_0 : Value} (f0_0 : Rd (tyInt .u8) R I r0_0 a0) (f1_0 : Rd (tyInt .u8) R I r1_0 a1) (hst : St w0 w I [] R) {r : ((List Int))} (hm : ref02_Bytes a0 a1 = some r) :
  Calls prog 69 #[r0_0, r1_0] w fun e w' => ∃ (q0_0 : Value), e = .returned (q0_0) ∧ St w0 w' I [ownS (tyInt .u8) q0_0 r] R := by {
 unfold ref02_Bytes at hm
 refine calls_start (args := [r0_0, r1_0]) func69 z ntmps69 (Nat.le_of_ble_eq_true z) ?_
 refine wp_seq (wrl (wv ((.slice none 0 0)) z z z (wl_nil (tn (wp_seq (wrl (wv (r0_0) z z z (wv (r1_0) z z z (wv (.int .i64 ((a1).length : Int)) z z (x_len z underlying32 (rd_sliceV f1_0)) (wv (.int .u64 (u64.wrap ((a1).length : Int))) z z (by kernel_rfl) ?_))))))))))
 obtain ⟨t458, ht459, hm⟩ := bind_some hm
 refine wc call67 [r0_0, U6 (u64.wrap ((a1).length : Int)), I6 (4:Int)] z z z ?_
 refine (ref02_Num_ref (f0_0.mono (rd_weak _)) hst.to0 ht459).mono ?_
 rintro _ w460 ⟨v463, rfl, hst⟩
 refine ⟨_, z, ?_⟩
 replace hst := hst.of1
 refine wv (r1_0) z z z ?_
 obtain ⟨hg465, hm⟩ := gd_some hm
 obtain ⟨v466, w467, hr468, hst⟩ := run_append elem_32 underlying32 hst (Src.of_rd hst f1_0 flat_int) (room_of hg465 z) 32
 refine wl_run (v := v466) (w' := w467) z z (x_append z z hr468) ?_
 refine wv (v466) z z z (wl_nil (tn (wp_ret ?_)))
 obtain rfl := some_inj hm
 refine post_ret (vs := [v466]) results69 (rvs_cons (rv_tmp z) rvs_nil) ?_
 exact ⟨v466, z, hst.keep1⟩
}

theorem ref12_Hold_ref {w0 w : World} {I : HL} {R : SP} {a0 : (List Int)} {r0_0 : Value} {a1 : api_Hold} {r1_0 : Value} {r1_1 : Value} {r1_2 : Value} {r1_3 : Value} (f0_0 : Rd (tyInt .u8) R I r0_0 a0) (f1_0 : Rd tyF64 R I r1_0 a1.Gets) (f1_1 : Rd tyF2 R I r1_1 a1.Scans) (f1_2 : Rd tyF64 R I r1_2 a1.Puts) (f1_3 : Rd (tyInt .u8) R I r1_3 a1.Data) (hst : St w0 w I [] R) {r : ((List Int))} (hm : ref12_Hold a0 a1 = some r) :
  Calls prog 35 #[r0_0, .agg #[U6 a1.ID.Session, U6 a1.ID.Seq, U6 a1.Epoch, r1_0, r1_1, r1_2, r1_3]] w fun e w' => ∃ (q0_0 : Value), e = .returned (q0_0) ∧ St w0 w' I [ownS (tyInt .u8) q0_0 r] R := by {
 unfold ref12_Hold at hm
 refine calls_start (args := [r0_0, .agg #[U6 a1.ID.Session, U6 a1.ID.Seq, U6 a1.Epoch, r1_0, r1_1, r1_2, r1_3]]) func35 z ntmps35 (Nat.le_of_ble_eq_true z) ?_
 refine wp_seq (wrl ?_)
 obtain ⟨b454, w455, ew456, eb457, hst⟩ := hst.box [U6 a1.ID.Session, U6 a1.ID.Seq, U6 a1.Epoch, r1_0, r1_1, r1_2, r1_3] 34
 refine wl_run (v := Pt b454 0) (w' := w455) z z (x_al (by kernel_rfl) ew456 eb457) ?_
 refine wv ((.slice none 0 0)) z z z (wl_nil (tn (wp_seq (wrl (wv (r0_0) z z z (wv (Pt b454 0) z z (x_field z underlying34 z sizeOf29 z) (wv (.agg #[U6 a1.ID.Session, U6 a1.ID.Seq]) z z (x_loadN (cs := [U6 a1.ID.Session, U6 a1.ID.Seq]) z isAgg29 sizeOf29 (hst.bcs0 0 z)) ?_)))))))
 obtain ⟨t460, ht461, hm⟩ := bind_some hm
 refine wc call66 [r0_0, .agg #[U6 a1.ID.Session, U6 a1.ID.Seq]] z z z ?_
 refine (ref12_ID_ref (f0_0.mono (rd_weak _)) hst.to0 ht461).mono ?_
 rintro _ w462 ⟨v465, rfl, hst⟩
 refine ⟨_, z, ?_⟩
 replace hst := hst.of1
 refine wv (v465) z z z (wl_nil (tn (wp_seq (wrl (wv (v465) z z z (wv (Pt b454 2) z z (x_field z underlying34 z sizeOf27 z) (wv (.int .u64 a1.Epoch) z z (x_load z isAgg27 (hst.bc1 z)) ?_)))))))
 obtain ⟨css467, hq468, hst⟩ := hst.own_open
 obtain ⟨t469, ht470, hm⟩ := bind_some hm
 refine wc call67 [v465, U6 a1.Epoch, I6 (8:Int)] z z z ?_
 refine (ref02_Num_ref (hst.rdrow0 hq468) hst.to0 ht470).mono ?_
 rintro _ w471 ⟨v474, rfl, hst⟩
 refine ⟨_, z, ?_⟩
 replace hst := hst.of1.pull1.own_close hq468
 refine wv (v474) z z z (wl_nil (tn (wp_seq (wrl (wv (v474) z z z (wv (Pt b454 3) z z (x_field z underlying34 z sizeOf30 z) (wv (r1_0) z z (x_load z isAgg30 (hst.bc2 z)) (wv (.int .i64 ((a1.Gets).length : Int)) z z (x_len z underlying30 (rd_sliceV f1_0)) (wv (.int .u64 (u64.wrap ((a1.Gets).length : Int))) z z (by kernel_rfl) ?_)))))))))
 replace hst := hst.pull1
 obtain ⟨css476, hq477, hst⟩ := hst.own_open
 obtain ⟨t478, ht479, hm⟩ := bind_some hm
 refine wc call67 [v474, U6 (u64.wrap ((a1.Gets).length : Int)), I6 (4:Int)] z z z ?_
 refine (ref02_Num_ref (hst.rdrow0 hq477) hst.to0 ht479).mono ?_
 rintro _ w480 ⟨v483, rfl, hst⟩
 refine ⟨_, z, ?_⟩
 replace hst := hst.of1.pull1.own_close hq477
 refine wv (v483) z z z (wl_nil (tn ?_))
 obtain ⟨y566, hm, hx567⟩ := bind_some hm
 refine wp_cut (fun a w => ∃ (z563 : (List Int)) (v562 : Value) (σ564 : Nat → Value), (ref12_Hold_j0 a1) z563 = some r ∧ a = Fr 92 (upd (upd σ564 0 (v562)) 3 (Pt b454 0)) ∧ St w0 w I [ownS (tyInt .u8) v562 z563, cells b454 [U6 a1.ID.Session, U6 a1.ID.Seq, U6 a1.Epoch, r1_0, r1_1, r1_2, r1_3]] R) ?_ ?_
 {
 refine wp_seq (wrl (wv (.int .i64 (0:Int)) z z z (wl_nil (tn (wp_block ?_)))))
 replace hst := hst.sub.pull1.sub
 obtain ⟨n534, hm⟩ := loopO_some hm
 refine wp_loop_n (fun n a w => ∃ (z529 : (List Int)) (z532 : Int) (v530 : Value) (σ533 : Nat → Value), loopN (ref12_Hold_l1 a1) n (z529, z532) = some y566 ∧ a = Fr 92 (upd (upd (upd σ533 0 (v530)) 3 (Pt b454 0)) 5 (.int .i64 z532)) ∧ St w0 w I [ownS (tyInt .u8) v530 z529, cells b454 [U6 a1.ID.Session, U6 a1.ID.Seq, U6 a1.Epoch, r1_0, r1_1, r1_2, r1_3]] R) n534 ⟨t478, (0:Int), v483, _, hm, (fu 0 v483 z (fu 3 (Pt b454 0) z (fu 5 (.int .i64 (0:Int)) z z))), hst⟩ ?_
 rintro n540 _ w535 ⟨z529, z532, v530, σ533, hm, rfl, hst⟩
 obtain ⟨n537, y538, rfl, hm, hx539⟩ := loopN_some hm
 dsimp only [ref12_Hold_l1] at hm
 refine wp_seq (wp_seq (wrl (wv (.int .i64 z532) z z z (wv (Pt b454 3) z z (x_field z underlying34 z sizeOf30 z) (wv (r1_0) z z (x_load z isAgg30 (hst.bc1 z)) (wv (.int .i64 ((a1.Gets).length : Int)) z z (x_len z underlying30 (rd_sliceV f1_0)) (wv (.bool (decide (z532 < ((a1.Gets).length : Int)))) z z z (wl_nil (tn ?_)))))))))
 refine bsplit (decide (z532 < ((a1.Gets).length : Int))) (fun hc541 => ?_) (fun hc541 => ?_)
 {
 replace hm := bif_t hc541 hm
 refine wp_ift (cvb hc541) ?_
 refine wp_skip (tn (wp_seq (wp_block (wrl ?_))))
 refine wv (v530) z z z (wv (Pt b454 3) z z (x_field z underlying34 z sizeOf30 z) (wv (r1_0) z z (x_load z isAgg30 (hst.bc1 z)) (wv (.int .i64 z532) z z z ?_)))
 obtain ⟨x542, hx543, hm⟩ := bind_some hm
 obtain ⟨h544, h545, hi546⟩ := geto_some hx543
 refine wv (.pointer (some (eAddr r1_0 (z532.toNat * 1 + 0)))) z z (x_index z z underlying30 sizeOf57 (rd_sliceV f1_0) h544 h545) (wv (.float .f64 x542) z z (x_load z isAgg57 (rd_load f1_0 (HL.le.refl _) hst hi546 (by rintro _ rfl; rfl))) ?_)
 obtain ⟨t547, ht548, hm⟩ := bind_some hm
 refine wc call68 [F6 x542] z z z ?_
 refine (ref01_Rank_ref hst.to0 ht548).mono ?_
 rintro _ w549 ⟨rfl, hst⟩
 refine ⟨_, z, ?_⟩
 replace hst := hst.of0
 obtain ⟨css552, hq553, hst⟩ := hst.own_open
 obtain ⟨t554, ht555, hm⟩ := bind_some hm
 refine wc call67 [v530, U6 t547, I6 (8:Int)] z z z ?_
 refine (ref02_Num_ref (hst.rdrow0 hq553) hst.to0 ht555).mono ?_
 rintro _ w556 ⟨v559, rfl, hst⟩
 refine ⟨_, z, ?_⟩
 replace hst := hst.of1.pull1.own_close hq553
 refine wv (v559) z z z (wl_nil (blk_n (tn (wrl (wv (.int .i64 z532) z z z (wv (.int .i64 (i64.wrap (z532 + (1:Int)))) z z z (wv (.int .i64 (i64.wrap (z532 + (1:Int)))) z z z (wl_nil (tn ?_)))))))))
 replace hst := hst.pull2.pull2.keep2
 obtain rfl := some_inj hm
 exact ⟨_, Nat.lt_succ_self _, t554, (i64.wrap (z532 + (1:Int))), v559, _, hx539, (fu 0 v559 z (fu 3 (Pt b454 0) z (fu 5 (.int .i64 (i64.wrap (z532 + (1:Int)))) z z))), hst⟩
}
 {
 replace hm := bif_f hc541 hm
 refine wp_iff (cvb hc541) ?_
 refine wp_exit (then_x (then_x ?_))
 replace hm := inr_up hm hx539
 refine blk_x (tn ?_)
 replace hst := hst.pull1.pull1.keep2
 obtain rfl := some_inj hm
 exact ⟨z529, v530, _, hx567, (fu 0 v530 z (fu 3 (Pt b454 0) z z)), hst⟩
}
}
 {
 clear hst
 rintro _ w568 ⟨z563, v562, σ564, hm, rfl, hst⟩
 dsimp only [ref12_Hold_j0] at hm
 refine wp_seq (wrl (wv (v562) z z z (wv (Pt b454 4) z z (x_field z underlying34 z sizeOf31 z) (wv (r1_1) z z (x_load z isAgg31 (hst.bc1 z)) (wv (.int .i64 ((a1.Scans).length : Int)) z z (x_len z underlying31 (rd_sliceV f1_1)) (wv (.int .u64 (u64.wrap ((a1.Scans).length : Int))) z z (by kernel_rfl) ?_))))))
 obtain ⟨css569, hq570, hst⟩ := hst.own_open
 obtain ⟨t571, ht572, hm⟩ := bind_some hm
 refine wc call67 [v562, U6 (u64.wrap ((a1.Scans).length : Int)), I6 (4:Int)] z z z ?_
 refine (ref02_Num_ref (hst.rdrow0 hq570) hst.to0 ht572).mono ?_
 rintro _ w573 ⟨v576, rfl, hst⟩
 refine ⟨_, z, ?_⟩
 replace hst := hst.of1.pull1.own_close hq570
 refine wv (v576) z z z (wl_nil (tn ?_))
 obtain ⟨y701, hm, hx702⟩ := bind_some hm
 refine wp_cut (fun a w => ∃ (z698 : (List Int)) (v697 : Value) (σ699 : Nat → Value), (ref12_Hold_j2 a1) z698 = some r ∧ a = Fr 92 (upd (upd σ699 0 (v697)) 3 (Pt b454 0)) ∧ St w0 w I [ownS (tyInt .u8) v697 z698, cells b454 [U6 a1.ID.Session, U6 a1.ID.Seq, U6 a1.Epoch, r1_0, r1_1, r1_2, r1_3]] R) ?_ ?_
 {
 refine wp_seq (wrl (wv (.int .i64 (0:Int)) z z z (wl_nil (tn (wp_block ?_)))))
 replace hst := hst.sub
 obtain ⟨n655, hm⟩ := loopO_some hm
 refine wp_loop_n (fun n a w => ∃ (z650 : (List Int)) (z653 : Int) (v651 : Value) (σ654 : Nat → Value), loopN (ref12_Hold_l3 a1) n (z650, z653) = some y701 ∧ a = Fr 92 (upd (upd (upd σ654 0 (v651)) 3 (Pt b454 0)) 6 (.int .i64 z653)) ∧ St w0 w I [ownS (tyInt .u8) v651 z650, cells b454 [U6 a1.ID.Session, U6 a1.ID.Seq, U6 a1.Epoch, r1_0, r1_1, r1_2, r1_3]] R) n655 ⟨t571, (0:Int), v576, _, hm, (fu 0 v576 z (fu 3 (Pt b454 0) z (fu 6 (.int .i64 (0:Int)) z z))), hst⟩ ?_
 rintro n661 _ w656 ⟨z650, z653, v651, σ654, hm, rfl, hst⟩
 obtain ⟨n658, y659, rfl, hm, hx660⟩ := loopN_some hm
 dsimp only [ref12_Hold_l3] at hm
 refine wp_seq (wp_seq (wrl (wv (.int .i64 z653) z z z (wv (Pt b454 4) z z (x_field z underlying34 z sizeOf31 z) (wv (r1_1) z z (x_load z isAgg31 (hst.bc1 z)) (wv (.int .i64 ((a1.Scans).length : Int)) z z (x_len z underlying31 (rd_sliceV f1_1)) (wv (.bool (decide (z653 < ((a1.Scans).length : Int)))) z z z (wl_nil (tn ?_)))))))))
 refine bsplit (decide (z653 < ((a1.Scans).length : Int))) (fun hc662 => ?_) (fun hc662 => ?_)
 {
 replace hm := bif_t hc662 hm
 refine wp_ift (cvb hc662) ?_
 refine wp_skip (tn (wp_seq (wp_block ?_)))
 refine wp_region_St hst 18 [0, 1, 2, 3, 4, 5, 6, 7, 8, 9, 10, 11, 12, 13, 14, 15, 16, 17] [0, 0, 2, 0, 14, 30, 62, 126, 255, 0, 512, 0, 3584, 7680, 15872, 32767, 65535, 131071] [17] z (by kernel_rfl) (by kernel_rfl) Try.mixed (by kernel_rfl) ?_
 refine wsr (v651) 0 z z z (by kernel_rfl) (fun w hst => z) (wsr (Pt b454 4) 1 z z z (by kernel_rfl) (fun w hst => x_field z underlying34 z sizeOf31 z) (wsr (r1_1) 2 z z z (by kernel_rfl) (fun w hst => x_load z isAgg31 (hst.bc1 z)) (wsr (.int .i64 z653) 3 z z z (by kernel_rfl) (fun w hst => z) ?_)))
 obtain ⟨x663, hx664, hm⟩ := bind_some hm
 obtain ⟨h665, h666, hi667⟩ := geto_some hx664
 refine wsr (.pointer (some (eAddr r1_1 (z653.toNat * 2 + 0)))) 4 z z z (by kernel_rfl) (fun w hst => x_index z z underlying31 sizeOf75 (rd_sliceV f1_1) h665 h666) (wsr (.pointer (some (eAddr r1_1 (z653.toNat * 2 + 0)))) 5 z z z (by kernel_rfl) (fun w hst => x_index_arr_e (i := (0:Int)) z z underlying75 sizeOf57 (by decide) (by decide) z) (wsr (.float .f64 x663.1) 6 z z z (by kernel_rfl) (fun w hst => x_load z isAgg57 (rd_load f1_1 (HL.le.refl _) hst hi667 (by rintro _ rfl; rfl))) (wsr (Pt b454 4) 9 z z z (by kernel_rfl) (fun w hst => x_field z underlying34 z sizeOf31 z) (wsr (r1_1) 10 z z z (by kernel_rfl) (fun w hst => x_load z isAgg31 (hst.bc1 z)) (wsr (.int .i64 z653) 11 z z z (by kernel_rfl) (fun w hst => z) (wsr (.pointer (some (eAddr r1_1 (z653.toNat * 2 + 0)))) 12 z z z (by kernel_rfl) (fun w hst => x_index z z underlying31 sizeOf75 (rd_sliceV f1_1) h665 h666) (wsr (.pointer (some (eAddr r1_1 (z653.toNat * 2 + 1)))) 13 z z z (by kernel_rfl) (fun w hst => x_index_arr_e (i := (1:Int)) z z underlying75 sizeOf57 (by decide) (by decide) z) (wsr (.float .f64 x663.2) 14 z z z (by kernel_rfl) (fun w hst => x_load z isAgg57 (rd_load f1_1 (HL.le.refl _) hst hi667 (by rintro _ rfl; rfl))) ?_))))))))
 refine ws_e1 7 (by kernel_rfl) ?_
 refine nxe [8, 15, 16, 17] (by kernel_rfl) z z ?_
 clear hst
 intro w hst
 obtain ⟨t668, ht669, hm⟩ := bind_some hm
 refine wec call68 [F6 x663.1] z z ?_
 refine (ref01_Rank_ref hst.to0 ht669).mono ?_
 rintro _ w670 ⟨rfl, hst⟩
 refine ⟨_, z, ?_⟩
 replace hst := hst.of0
 refine ws_next (pend' := [(14, F6 x663.2), (13, .pointer (some (eAddr r1_1 (z653.toNat * 2 + 1)))), (12, .pointer (some (eAddr r1_1 (z653.toNat * 2 + 0)))), (11, I6 z653), (10, r1_1), (9, Pt b454 4), (0, v651)]) hst (by kernel_rfl) (pkr z z (fun w hst => x_load z isAgg57 (rd_load f1_1 (HL.le.refl _) hst hi667 (by rintro _ rfl; rfl))) (pkr z z (fun w hst => x_index_arr_e (i := (1:Int)) z z underlying75 sizeOf57 (by decide) (by decide) z) (pkr z z (fun w hst => x_index z z underlying31 sizeOf75 (rd_sliceV f1_1) h665 h666) (pkr z z (fun w hst => z) (pkr z z (fun w hst => x_load z isAgg31 (hst.bc1 z)) (pkr z z (fun w hst => x_field z underlying34 z sizeOf31 z) (pkr z z (fun w hst => z) pk_nil))))))) ?_
 refine ws_e1 8 (by kernel_rfl) ?_
 refine nxe [15, 16, 17] (by kernel_rfl) z z ?_
 clear hst
 intro w hst
 obtain ⟨css673, hq674, hst⟩ := hst.own_open
 obtain ⟨t675, ht676, hm⟩ := bind_some hm
 refine wec call67 [v651, U6 t668, I6 (8:Int)] z z ?_
 refine (ref02_Num_ref (hst.rdrow0 hq674) hst.to0 ht676).mono ?_
 rintro _ w677 ⟨v680, rfl, hst⟩
 refine ⟨_, z, ?_⟩
 replace hst := hst.of1.pull1.own_close hq674
 refine ws_next (pend' := [(14, F6 x663.2), (13, .pointer (some (eAddr r1_1 (z653.toNat * 2 + 1)))), (12, .pointer (some (eAddr r1_1 (z653.toNat * 2 + 0)))), (11, I6 z653), (10, r1_1), (9, Pt b454 4)]) hst (by kernel_rfl) (pkr z z (fun w hst => x_load z isAgg57 (rd_load f1_1 (HL.le.refl _) hst hi667 (by rintro _ rfl; rfl))) (pkr z z (fun w hst => x_index_arr_e (i := (1:Int)) z z underlying75 sizeOf57 (by decide) (by decide) z) (pkr z z (fun w hst => x_index z z underlying31 sizeOf75 (rd_sliceV f1_1) h665 h666) (pkr z z (fun w hst => z) (pkr z z (fun w hst => x_load z isAgg31 (hst.bc2 z)) (pkr z z (fun w hst => x_field z underlying34 z sizeOf31 z) pk_nil)))))) ?_
 refine ws_e1 15 (by kernel_rfl) ?_
 refine nxe [16, 17] (by kernel_rfl) z z ?_
 clear hst
 intro w hst
 obtain ⟨t682, ht683, hm⟩ := bind_some hm
 refine wec call68 [F6 x663.2] z z ?_
 refine (ref01_Rank_ref hst.to0 ht683).mono ?_
 rintro _ w684 ⟨rfl, hst⟩
 refine ⟨_, z, ?_⟩
 replace hst := hst.of0
 refine ws_next (pend' := []) hst (by kernel_rfl) pk_nil ?_
 refine ws_e1 16 (by kernel_rfl) ?_
 refine nxe [17] (by kernel_rfl) z z ?_
 clear hst
 intro w hst
 replace hst := hst.pull1
 obtain ⟨css687, hq688, hst⟩ := hst.own_open
 obtain ⟨t689, ht690, hm⟩ := bind_some hm
 refine wec call67 [v680, U6 t682, I6 (8:Int)] z z ?_
 refine (ref02_Num_ref (hst.rdrow0 hq688) hst.to0 ht690).mono ?_
 rintro _ w691 ⟨v694, rfl, hst⟩
 refine ⟨_, z, ?_⟩
 replace hst := hst.of1.pull1.own_close hq688
 refine ws_next (pend' := []) hst (by kernel_rfl) pk_nil ?_
 refine ws_e1 17 (by kernel_rfl) ?_
 refine nxe [] (by kernel_rfl) z z ?_
 clear hst
 intro w hst
 refine we_run (v := v694) (w' := w) z z ?_
 refine ws_next (pend' := []) hst (by kernel_rfl) pk_nil ?_
 refine ws_nil ?_
 intro w hst
 refine blk_n (tn (wrl ?_))
 refine wv (.int .i64 z653) z z z (wv (.int .i64 (i64.wrap (z653 + (1:Int)))) z z z (wv (.int .i64 (i64.wrap (z653 + (1:Int)))) z z z (wl_nil (tn ?_))))
 replace hst := hst.pull3.pull2.keep2
 obtain rfl := some_inj hm
 exact ⟨_, Nat.lt_succ_self _, t689, (i64.wrap (z653 + (1:Int))), v694, _, hx660, (fu 0 v694 z (fu 3 (Pt b454 0) z (fu 6 (.int .i64 (i64.wrap (z653 + (1:Int)))) z z))), hst⟩
}
 {
 replace hm := bif_f hc662 hm
 refine wp_iff (cvb hc662) ?_
 refine wp_exit (then_x (then_x ?_))
 replace hm := inr_up hm hx660
 refine blk_x (tn ?_)
 replace hst := hst.pull1.pull1.keep2
 obtain rfl := some_inj hm
 exact ⟨z650, v651, _, hx702, (fu 0 v651 z (fu 3 (Pt b454 0) z z)), hst⟩
}
}
 {
 clear hst
 rintro _ w703 ⟨z698, v697, σ699, hm, rfl, hst⟩
 dsimp only [ref12_Hold_j2] at hm
 refine wp_seq (wrl (wv (v697) z z z (wv (Pt b454 5) z z (x_field z underlying34 z sizeOf30 z) (wv (r1_2) z z (x_load z isAgg30 (hst.bc1 z)) (wv (.int .i64 ((a1.Puts).length : Int)) z z (x_len z underlying30 (rd_sliceV f1_2)) (wv (.int .u64 (u64.wrap ((a1.Puts).length : Int))) z z (by kernel_rfl) ?_))))))
 obtain ⟨css704, hq705, hst⟩ := hst.own_open
 obtain ⟨t706, ht707, hm⟩ := bind_some hm
 refine wc call67 [v697, U6 (u64.wrap ((a1.Puts).length : Int)), I6 (4:Int)] z z z ?_
 refine (ref02_Num_ref (hst.rdrow0 hq705) hst.to0 ht707).mono ?_
 rintro _ w708 ⟨v711, rfl, hst⟩
 refine ⟨_, z, ?_⟩
 replace hst := hst.of1.pull1.own_close hq705
 refine wv (v711) z z z (wl_nil (tn ?_))
 obtain ⟨y794, hm, hx795⟩ := bind_some hm
 refine wp_cut (fun a w => ∃ (z791 : (List Int)) (v790 : Value) (σ792 : Nat → Value), (ref12_Hold_j4 a1) z791 = some r ∧ a = Fr 92 (upd (upd σ792 0 (v790)) 3 (Pt b454 0)) ∧ St w0 w I [ownS (tyInt .u8) v790 z791, cells b454 [U6 a1.ID.Session, U6 a1.ID.Seq, U6 a1.Epoch, r1_0, r1_1, r1_2, r1_3]] R) ?_ ?_
 {
 refine wp_seq (wrl (wv (.int .i64 (0:Int)) z z z (wl_nil (tn (wp_block ?_)))))
 replace hst := hst.sub
 obtain ⟨n762, hm⟩ := loopO_some hm
 refine wp_loop_n (fun n a w => ∃ (z757 : (List Int)) (z760 : Int) (v758 : Value) (σ761 : Nat → Value), loopN (ref12_Hold_l5 a1) n (z757, z760) = some y794 ∧ a = Fr 92 (upd (upd (upd σ761 0 (v758)) 3 (Pt b454 0)) 7 (.int .i64 z760)) ∧ St w0 w I [ownS (tyInt .u8) v758 z757, cells b454 [U6 a1.ID.Session, U6 a1.ID.Seq, U6 a1.Epoch, r1_0, r1_1, r1_2, r1_3]] R) n762 ⟨t706, (0:Int), v711, _, hm, (fu 0 v711 z (fu 3 (Pt b454 0) z (fu 7 (.int .i64 (0:Int)) z z))), hst⟩ ?_
 rintro n768 _ w763 ⟨z757, z760, v758, σ761, hm, rfl, hst⟩
 obtain ⟨n765, y766, rfl, hm, hx767⟩ := loopN_some hm
 dsimp only [ref12_Hold_l5] at hm
 refine wp_seq (wp_seq (wrl (wv (.int .i64 z760) z z z (wv (Pt b454 5) z z (x_field z underlying34 z sizeOf30 z) (wv (r1_2) z z (x_load z isAgg30 (hst.bc1 z)) (wv (.int .i64 ((a1.Puts).length : Int)) z z (x_len z underlying30 (rd_sliceV f1_2)) (wv (.bool (decide (z760 < ((a1.Puts).length : Int)))) z z z (wl_nil (tn ?_)))))))))
 refine bsplit (decide (z760 < ((a1.Puts).length : Int))) (fun hc769 => ?_) (fun hc769 => ?_)
 {
 replace hm := bif_t hc769 hm
 refine wp_ift (cvb hc769) ?_
 refine wp_skip (tn (wp_seq (wp_block (wrl ?_))))
 refine wv (v758) z z z (wv (Pt b454 5) z z (x_field z underlying34 z sizeOf30 z) (wv (r1_2) z z (x_load z isAgg30 (hst.bc1 z)) (wv (.int .i64 z760) z z z ?_)))
 obtain ⟨x770, hx771, hm⟩ := bind_some hm
 obtain ⟨h772, h773, hi774⟩ := geto_some hx771
 refine wv (.pointer (some (eAddr r1_2 (z760.toNat * 1 + 0)))) z z (x_index z z underlying30 sizeOf57 (rd_sliceV f1_2) h772 h773) (wv (.float .f64 x770) z z (x_load z isAgg57 (rd_load f1_2 (HL.le.refl _) hst hi774 (by rintro _ rfl; rfl))) ?_)
 obtain ⟨t775, ht776, hm⟩ := bind_some hm
 refine wc call68 [F6 x770] z z z ?_
 refine (ref01_Rank_ref hst.to0 ht776).mono ?_
 rintro _ w777 ⟨rfl, hst⟩
 refine ⟨_, z, ?_⟩
 replace hst := hst.of0
 obtain ⟨css780, hq781, hst⟩ := hst.own_open
 obtain ⟨t782, ht783, hm⟩ := bind_some hm
 refine wc call67 [v758, U6 t775, I6 (8:Int)] z z z ?_
 refine (ref02_Num_ref (hst.rdrow0 hq781) hst.to0 ht783).mono ?_
 rintro _ w784 ⟨v787, rfl, hst⟩
 refine ⟨_, z, ?_⟩
 replace hst := hst.of1.pull1.own_close hq781
 refine wv (v787) z z z (wl_nil (blk_n (tn (wrl (wv (.int .i64 z760) z z z (wv (.int .i64 (i64.wrap (z760 + (1:Int)))) z z z (wv (.int .i64 (i64.wrap (z760 + (1:Int)))) z z z (wl_nil (tn ?_)))))))))
 replace hst := hst.pull2.pull2.keep2
 obtain rfl := some_inj hm
 exact ⟨_, Nat.lt_succ_self _, t782, (i64.wrap (z760 + (1:Int))), v787, _, hx767, (fu 0 v787 z (fu 3 (Pt b454 0) z (fu 7 (.int .i64 (i64.wrap (z760 + (1:Int)))) z z))), hst⟩
}
 {
 replace hm := bif_f hc769 hm
 refine wp_iff (cvb hc769) ?_
 refine wp_exit (then_x (then_x ?_))
 replace hm := inr_up hm hx767
 refine blk_x (tn ?_)
 replace hst := hst.pull1.pull1.keep2
 obtain rfl := some_inj hm
 exact ⟨z757, v758, _, hx795, (fu 0 v758 z (fu 3 (Pt b454 0) z z)), hst⟩
}
}
 {
 clear hst
 rintro _ w796 ⟨z791, v790, σ792, hm, rfl, hst⟩
 dsimp only [ref12_Hold_j4] at hm
 refine wp_seq (wrl (wv (v790) z z z (wv (Pt b454 6) z z (x_field z underlying34 z sizeOf32 z) (wv (r1_3) z z (x_load z isAgg32 (hst.bc1 z)) ?_))))
 obtain ⟨css797, hq798, hst⟩ := hst.own_open
 obtain ⟨t799, ht800, hm⟩ := bind_some hm
 refine wc call69 [v790, r1_3] z z z ?_
 refine (ref02_Bytes_ref (hst.rdrow0 hq798) (f1_3.mono (rd_weak _)) hst.to0 ht800).mono ?_
 rintro _ w801 ⟨v804, rfl, hst⟩
 refine ⟨_, z, ?_⟩
 replace hst := hst.of1.pull1.own_close hq798
 refine wv (v804) z z z (wl_nil (tn (wp_ret ?_)))
 obtain rfl := some_inj hm
 refine post_ret (vs := [v804]) results35 (rvs_cons (rv_tmp z) rvs_nil) ?_
 replace hst := hst.pull1
 exact ⟨v804, z, hst.keep1⟩
}
}
}
}

theorem octet_Reader_Bad_ref {w0 w : World} {I : HL} {R : SP} {a0 : octet_Reader} {p0 : Value}  (hst : St w0 w I [at_octet_Reader p0 a0] R) {r : (Bool)} (hm : octet_Reader_Bad a0 = some r) :
  Calls prog 70 #[p0] w fun e w' => e = .returned (.bool r) ∧ St w0 w' I [at_octet_Reader p0 a0] R := by {
 unfold octet_Reader_Bad at hm
 refine calls_start (args := [p0]) func70 z ntmps70 (Nat.le_of_ble_eq_true z) ?_
 refine wp_seq (wrl (wv (.bool false) z z z (wl_nil (tn (wp_seq (wrl (wv (p0) z z z ?_)))))))
 obtain ⟨b99, v100, ⟨rfl, f102⟩, hst'⟩ := at_octet_Reader_open hst
 clear hst
 have hst := hst'
 clear hst'
 refine wv (.bool false) z z (by kernel_rfl) (wv (.bool false) z z z (wv (Pt b99 0) ((wanted_eq z z z z).trans z) z z (wv (Pt b99 0) ((wanted_eq z z z z).trans z) z z (wv (Pt b99 1) ((wanted_eq z z z z).trans z) z (x_field z underlying100 z sizeOf4 z) (wv (.bool a0.bad) ((wanted_eq z z z z).trans z) z (x_load z isAgg4 (hst.bc0 z)) (wv (.bool a0.bad) z z (x_pick_f z z z) (wv (.bool a0.bad) z z z (wl_nil (tn (wp_ret ?_))))))))))
 replace hst := at_octet_Reader_close (pv := Pt b99 0) (x := a0) hst ⟨z, f102⟩
 obtain rfl := some_inj hm
 refine post_ret (vs := [.bool a0.bad]) results70 (rvs_cons (rv_tmp z) rvs_nil) ?_
 exact ⟨z, hst.keep1⟩
}

theorem octet_Reader_End_ref {w0 w : World} {I : HL} {R : SP} {a0 : octet_Reader} {p0 : Value}  (hst : St w0 w I [at_octet_Reader p0 a0] R) {r : (Bool)} (hm : octet_Reader_End a0 = some r) :
  Calls prog 36 #[p0] w fun e w' => e = .returned (.bool r) ∧ St w0 w' I [at_octet_Reader p0 a0] R := by {
 unfold octet_Reader_End at hm
 refine calls_start (args := [p0]) func36 z ntmps36 (Nat.le_of_ble_eq_true z) ?_
 refine wp_seq (wrl (wv (.bool false) z z z (wl_nil (tn (wp_seq (wrl (wv (p0) z z z ?_)))))))
 obtain ⟨t104, ht105, hm⟩ := bind_some hm
 refine wc call70 [p0] z z z ?_
 refine (octet_Reader_Bad_ref hst.to1 ht105).mono ?_
 rintro _ w106 ⟨rfl, hst⟩
 refine ⟨_, z, ?_⟩
 replace hst := hst.of1
 refine wv (.bool (!t104)) z z z (wv (.bool (!t104)) z z z ?_)
 refine bsplit (!t104) (fun hc109 => ?_) (fun hc109 => ?_)
 {
 replace hm := bif_t hc109 hm
 refine wv (p0) ((wanted_eq z z z (cvb hc109)).trans z) z z ?_
 obtain ⟨b110, v111, ⟨rfl, f113⟩, hst'⟩ := at_octet_Reader_open hst
 clear hst
 have hst := hst'
 clear hst'
 refine wv (Pt b110 0) ((wanted_eq z z z (cvb hc109)).trans z) z z (wv (Pt b110 0) ((wanted_eq z z z (cvb hc109)).trans z) z (x_field z underlying100 z sizeOf32 z) (wv (v111) ((wanted_eq z z z (cvb hc109)).trans z) z (x_load z isAgg32 (hst.bc0 z)) (wv (.int .i64 ((a0.p).length : Int)) ((wanted_eq z z z (cvb hc109)).trans z) z (x_len z underlying32 (ro_sliceV f113)) (wv (.bool (((a0.p).length : Int) == (0:Int))) ((wanted_eq z z z (cvb hc109)).trans z) z z (wv (.bool (((a0.p).length : Int) == (0:Int))) z z (x_pick_t hc109 z z) (wv (.bool (((a0.p).length : Int) == (0:Int))) z z z (wl_nil (tn (wp_ret ?_)))))))))
 replace hst := at_octet_Reader_close (pv := Pt b110 0) (x := a0) hst ⟨z, f113⟩
 obtain rfl := some_inj hm
 refine post_ret (vs := [.bool (((a0.p).length : Int) == (0:Int))]) results36 (rvs_cons (rv_tmp z) rvs_nil) ?_
 exact ⟨z, hst.keep1⟩
}
 {
 replace hm := bif_f hc109 hm
 refine wo hc109 z z z z z z (wo hc109 z z z z z z (wo hc109 z z z z z z (wo hc109 z z z z z z (wo hc109 z z z z z z (wo hc109 z z z z z z (wv (.bool false) z z (x_pick_f hc109 z z) (wv (.bool false) z z z (wl_nil (tn (wp_ret ?_))))))))))
 obtain rfl := some_inj hm
 refine post_ret (vs := [.bool false]) results36 (rvs_cons (rv_tmp z) rvs_nil) ?_
 exact ⟨z, hst.keep1⟩
}
}

theorem math_Signbit_ref {w0 w : World} {I : HL} {R : SP} {a0 : Nat}  (hst : St w0 w I [] R) {r : (Bool)} (hm : math_Signbit a0 = some r) :
  Calls prog 92 #[F6 a0] w fun e w' => e = .returned (.bool r) ∧ St w0 w' I [] R := by {
 unfold math_Signbit at hm
 refine calls_start (args := [F6 a0]) func92 z ntmps92 (Nat.le_of_ble_eq_true z) ?_
 refine wp_seq (wrl (wv (.bool false) z z z (wl_nil (tn (wp_seq (wrl (wv (.float .f64 a0) z z z (wv (.int .u64 (Int.ofNat a0)) z z (by kernel_rfl) (wv (.int .i64 (i64.wrap (Int.ofNat a0))) z z (by kernel_rfl) (wv (.bool (decide ((i64.wrap (Int.ofNat a0)) < (0:Int)))) z z z (wv (.bool (decide ((i64.wrap (Int.ofNat a0)) < (0:Int)))) z z z (wl_nil (tn (wp_ret ?_))))))))))))))
 obtain rfl := some_inj hm
 refine post_ret (vs := [.bool (decide ((i64.wrap (Int.ofNat a0)) < (0:Int)))]) results92 (rvs_cons (rv_tmp z) rvs_nil) ?_
 exact ⟨z, hst.keep0⟩
}

theorem ref01_Ahead_ref {w0 w : World} {I : HL} {R : SP} {a0 : Nat} {a1 : Nat}  (hst : St w0 w I [] R) {r : (Bool)} (hm : ref01_Ahead a0 a1 = some r) :
  Calls prog 76 #[F6 a0, F6 a1] w fun e w' => e = .returned (.bool r) ∧ St w0 w' I [] R := by {
 unfold ref01_Ahead at hm
 refine calls_start (args := [F6 a0, F6 a1]) func76 z ntmps76 (Nat.le_of_ble_eq_true z) ?_
 refine wp_seq (wrl (wv (.bool false) z z z (wl_nil (tn (wp_seq (wp_seq (wrl (wv (.float .f64 a0) z z z (wv (.float .f64 a0) z z z (wv (.bool (fNe a0 a0)) z z z (wl_nil (tn ?_))))))))))))
 refine bsplit (fNe a0 a0) (fun hc137 => ?_) (fun hc137 => ?_)
 {
 replace hm := bif_t hc137 hm
 refine wp_ift (cvb hc137) ?_
 refine wp_seq (wrl (wv (.bool false) z z z (wl_nil (tn (wp_ret (then_r ?_))))))
 obtain rfl := some_inj hm
 refine post_ret (vs := [.bool false]) results76 (rvs_cons (rv_tmp z) rvs_nil) ?_
 exact ⟨z, hst.keep0⟩
}
 {
 replace hm := bif_f hc137 hm
 refine wp_iff (cvb hc137) ?_
 refine wp_skip (tn (wp_seq (wp_seq (wrl ?_))))
 refine wv (.float .f64 a1) z z z (wv (.float .f64 a1) z z z (wv (.bool (fNe a1 a1)) z z z (wl_nil (tn ?_))))
 refine bsplit (fNe a1 a1) (fun hc138 => ?_) (fun hc138 => ?_)
 {
 replace hm := bif_t hc138 hm
 refine wp_ift (cvb hc138) ?_
 refine wp_seq (wrl (wv (.bool true) z z z (wl_nil (tn (wp_ret (then_r ?_))))))
 obtain rfl := some_inj hm
 refine post_ret (vs := [.bool true]) results76 (rvs_cons (rv_tmp z) rvs_nil) ?_
 exact ⟨z, hst.keep0⟩
}
 {
 replace hm := bif_f hc138 hm
 refine wp_iff (cvb hc138) ?_
 refine wp_skip (tn ?_)
 obtain ⟨y154, hm, hx155⟩ := joinO_some hm
 refine wp_cut (fun a w => ∃ (σ152 : Nat → Value), (ref01_Ahead_j0 a0 a1) () = some r ∧ a = Fr 27 (upd (upd σ152 0 (.float .f64 a0)) 1 (.float .f64 a1)) ∧ St w0 w I [] R) ?_ ?_
 {
 refine wp_seq (wrl (wv (.float .f64 a0) z z z (wv (.bool (fEq a0 (0:Nat))) z z z (wv (.bool (fEq a0 (0:Nat))) z z z ?_))))
 refine bsplit (fEq a0 (0:Nat)) (fun hc139 => ?_) (fun hc139 => ?_)
 {
 replace hm := bif_t hc139 hm
 refine wv (.float .f64 a1) ((wanted_eq z z z (cvb hc139)).trans z) z z (wv (.bool (fEq a1 (0:Nat))) ((wanted_eq z z z (cvb hc139)).trans z) z z (wv (.bool (fEq a1 (0:Nat))) z z (x_pick_t hc139 z z) (wl_nil (tn ?_))))
 refine bsplit (fEq a1 (0:Nat)) (fun hc140 => ?_) (fun hc140 => ?_)
 {
 replace hm := bif_t hc140 hm
 refine wp_ift (cvb hc140) ?_
 refine wp_seq (wrl (wv (.float .f64 a0) z z z ?_))
 obtain ⟨t141, ht142, hm⟩ := bind_some hm
 refine wc call92 [F6 a0] z z z ?_
 refine (math_Signbit_ref hst.to0 ht142).mono ?_
 rintro _ w143 ⟨rfl, hst⟩
 refine ⟨_, z, ?_⟩
 replace hst := hst.of0
 refine wv (.bool t141) z z z ?_
 refine bsplit t141 (fun hc146 => ?_) (fun hc146 => ?_)
 {
 replace hm := bif_t hc146 hm
 refine wv (.float .f64 a1) ((wanted_eq z z z (cvb hc146)).trans z) z z ?_
 obtain ⟨t147, ht148, hm⟩ := bind_some hm
 refine wl_call ((wanted_eq z z z (cvb hc146)).trans z) z (x_call call92 z (vs := [F6 a1]) z) ?_
 refine (math_Signbit_ref hst.to0 ht148).mono ?_
 rintro _ w149 ⟨rfl, hst⟩
 refine ⟨_, z, ?_⟩
 replace hst := hst.of0
 refine wv (.bool (!t147)) ((wanted_eq z z z (cvb hc146)).trans z) z z (wv (.bool (!t147)) z z (x_pick_t hc146 z z) (wv (.bool (!t147)) z z z (wl_nil (tn (wp_ret (then_r ?_))))))
 replace hm := inr_up hm hx155
 obtain rfl := some_inj hm
 refine post_ret (vs := [.bool (!t147)]) results76 (rvs_cons (rv_tmp z) rvs_nil) ?_
 exact ⟨z, hst.keep0⟩
}
 {
 replace hm := bif_f hc146 hm
 refine wo hc146 z z z z z z (wo hc146 z z z z z z (wo hc146 z z z z z z (wv (.bool false) z z (x_pick_f hc146 z z) (wv (.bool false) z z z (wl_nil (tn (wp_ret (then_r ?_))))))))
 replace hm := inr_up hm hx155
 obtain rfl := some_inj hm
 refine post_ret (vs := [.bool false]) results76 (rvs_cons (rv_tmp z) rvs_nil) ?_
 exact ⟨z, hst.keep0⟩
}
}
 {
 replace hm := bif_f hc140 hm
 refine wp_iff (cvb hc140) ?_
 refine wp_skip (tn ?_)
 replace hst := hst.keep0
 obtain rfl := some_inj hm
 exact ⟨_, hx155, (fu 0 (.float .f64 a0) z (fu 1 (.float .f64 a1) z z)), hst⟩
}
}
 {
 replace hm := bif_f hc139 hm
 refine wo hc139 z z z z z z (wo hc139 z z z z z z (wv (.bool false) z z (x_pick_f hc139 z z) (wl_nil (tn ?_))))
 refine wp_iff z ?_
 refine wp_skip (tn ?_)
 replace hst := hst.keep0
 obtain rfl := some_inj hm
 exact ⟨_, hx155, (fu 0 (.float .f64 a0) z (fu 1 (.float .f64 a1) z z)), hst⟩
}
}
 {
 clear hst
 rintro _ w156 ⟨σ152, hm, rfl, hst⟩
 dsimp only [ref01_Ahead_j0] at hm
 refine wp_seq (wrl (wv (.float .f64 a0) z z z (wv (.float .f64 a1) z z z (wv (.bool (fLt a0 a1)) z z z (wv (.bool (fLt a0 a1)) z z z (wl_nil (tn (wp_ret ?_))))))))
 obtain rfl := some_inj hm
 refine post_ret (vs := [.bool (fLt a0 a1)]) results76 (rvs_cons (rv_tmp z) rvs_nil) ?_
 exact ⟨z, hst.keep0⟩
}
}
}
}

theorem ref01_Same_ref {w0 w : World} {I : HL} {R : SP} {a0 : Nat} {a1 : Nat}  (hst : St w0 w I [] R) {r : (Bool)} (hm : ref01_Same a0 a1 = some r) :
  Calls prog 51 #[F6 a0, F6 a1] w fun e w' => e = .returned (.bool r) ∧ St w0 w' I [] R := by {
 unfold ref01_Same at hm
 refine calls_start (args := [F6 a0, F6 a1]) func51 z ntmps51 (Nat.le_of_ble_eq_true z) ?_
 refine wp_seq (wrl (wv (.bool false) z z z (wl_nil (tn (wp_seq (wrl (wv (.float .f64 a0) z z z (wv (.float .f64 a1) z z z ?_))))))))
 obtain ⟨t128, ht129, hm⟩ := bind_some hm
 refine wc call76 [F6 a0, F6 a1] z z z ?_
 refine (ref01_Ahead_ref hst.to0 ht129).mono ?_
 rintro _ w130 ⟨rfl, hst⟩
 refine ⟨_, z, ?_⟩
 replace hst := hst.of0
 refine wv (.bool (!t128)) z z z (wv (.bool (!t128)) z z z ?_)
 refine bsplit (!t128) (fun hc133 => ?_) (fun hc133 => ?_)
 {
 replace hm := bif_t hc133 hm
 refine wv (.float .f64 a1) ((wanted_eq z z z (cvb hc133)).trans z) z z (wv (.float .f64 a0) ((wanted_eq z z z (cvb hc133)).trans z) z z ?_)
 obtain ⟨t134, ht135, hm⟩ := bind_some hm
 refine wl_call ((wanted_eq z z z (cvb hc133)).trans z) z (x_call call76 z (vs := [F6 a1, F6 a0]) z) ?_
 refine (ref01_Ahead_ref hst.to0 ht135).mono ?_
 rintro _ w136 ⟨rfl, hst⟩
 refine ⟨_, z, ?_⟩
 replace hst := hst.of0
 refine wv (.bool (!t134)) ((wanted_eq z z z (cvb hc133)).trans z) z z (wv (.bool (!t134)) z z (x_pick_t hc133 z z) (wv (.bool (!t134)) z z z (wl_nil (tn (wp_ret ?_)))))
 obtain rfl := some_inj hm
 refine post_ret (vs := [.bool (!t134)]) results51 (rvs_cons (rv_tmp z) rvs_nil) ?_
 exact ⟨z, hst.keep0⟩
}
 {
 replace hm := bif_f hc133 hm
 refine wo hc133 z z z z z z (wo hc133 z z z z z z (wo hc133 z z z z z z (wo hc133 z z z z z z (wv (.bool false) z z (x_pick_f hc133 z z) (wv (.bool false) z z z (wl_nil (tn (wp_ret ?_))))))))
 obtain rfl := some_inj hm
 refine post_ret (vs := [.bool false]) results51 (rvs_cons (rv_tmp z) rvs_nil) ?_
 exact ⟨z, hst.keep0⟩
}
}

theorem ref11_SameHold_ref {w0 w : World} {I : HL} {R : SP} {a0 : api_Hold} {r0_0 : Value} {r0_1 : Value} {r0_2 : Value} {r0_3 : Value} {a1 : api_Hold} {r1_0 : Value} {r1_1 : Value} {r1_2 : Value} {r1_3 : Value} (f0_0 : Rd tyF64 R I r0_0 a0.Gets) (f0_1 : Rd tyF2 R I r0_1 a0.Scans) (f0_2 : Rd tyF64 R I r0_2 a0.Puts) (f0_3 : Rd (tyInt .u8) R I r0_3 a0.Data) (f1_0 : Rd tyF64 R I r1_0 a1.Gets) (f1_1 : Rd tyF2 R I r1_1 a1.Scans) (f1_2 : Rd tyF64 R I r1_2 a1.Puts) (f1_3 : Rd (tyInt .u8) R I r1_3 a1.Data) (hst : St w0 w I [] R) {r : (Bool)} (hm : ref11_SameHold a0 a1 = some r) :
  Calls prog 18 #[.agg #[U6 a0.ID.Session, U6 a0.ID.Seq, U6 a0.Epoch, r0_0, r0_1, r0_2, r0_3], .agg #[U6 a1.ID.Session, U6 a1.ID.Seq, U6 a1.Epoch, r1_0, r1_1, r1_2, r1_3]] w fun e w' => e = .returned (.bool r) ∧ St w0 w' I [] R := by {
 unfold ref11_SameHold at hm
 refine calls_start (args := [.agg #[U6 a0.ID.Session, U6 a0.ID.Seq, U6 a0.Epoch, r0_0, r0_1, r0_2, r0_3], .agg #[U6 a1.ID.Session, U6 a1.ID.Seq, U6 a1.Epoch, r1_0, r1_1, r1_2, r1_3]]) func18 z ntmps18 (Nat.le_of_ble_eq_true z) ?_
 refine wp_seq (wrl ?_)
 obtain ⟨b335, w336, ew337, eb338, hst⟩ := hst.box [U6 a0.ID.Session, U6 a0.ID.Seq, U6 a0.Epoch, r0_0, r0_1, r0_2, r0_3] 34
 refine wl_run (v := Pt b335 0) (w' := w336) z z (x_al (by kernel_rfl) ew337 eb338) ?_
 obtain ⟨b340, w341, ew342, eb343, hst⟩ := hst.box [U6 a1.ID.Session, U6 a1.ID.Seq, U6 a1.Epoch, r1_0, r1_1, r1_2, r1_3] 34
 refine wl_run (v := Pt b340 0) (w' := w341) z z (x_al (by kernel_rfl) ew342 eb343) ?_
 refine wv (.bool false) z z z (wl_nil (tn (wp_seq (wp_seq (wrl (wv (Pt b335 0) z z (x_field z underlying34 z sizeOf29 z) (wv (.agg #[U6 a0.ID.Session, U6 a0.ID.Seq]) z z (x_loadN (cs := [U6 a0.ID.Session, U6 a0.ID.Seq]) z isAgg29 sizeOf29 (hst.bcs1 0 z)) (wv (Pt b340 0) z z (x_field z underlying34 z sizeOf29 z) (wv (.agg #[U6 a1.ID.Session, U6 a1.ID.Seq]) z z (x_loadN (cs := [U6 a1.ID.Session, U6 a1.ID.Seq]) z isAgg29 sizeOf29 (hst.bcs0 0 z)) (wv (.bool (!((a0.ID.Session == a1.ID.Session) && (a0.ID.Seq == a1.ID.Seq)))) z z (x_aggne2 z z (by kernel_rfl) underlying29 (by kernel_rfl) (by kernel_rfl) (by kernel_rfl) underlying27 underlying27 (fun _ _ _ => by kernel_rfl) (fun _ _ _ => by kernel_rfl)) (wv (.bool (!((a0.ID.Session == a1.ID.Session) && (a0.ID.Seq == a1.ID.Seq)))) z z z ?_)))))))))))
 refine bsplit (!((a0.ID.Session == a1.ID.Session) && (a0.ID.Seq == a1.ID.Seq))) (fun hc345 => ?_) (fun hc345 => ?_)
 {
 replace hm := bif_t hc345 hm
 refine wo hc345 z z z z z z (wo hc345 z z z z z z (wo hc345 z z z z z z (wo hc345 z z z z z z (wo hc345 z z z z z z (wv (.bool true) z z (x_pick_t hc345 z z) (wv (.bool true) z z z (wz z z z z z z (wz z z z z z z (wz z z z z z z (wz z z z z z z (wz z z z z z z (wz z z z z z z ?_))))))))))))
 refine wz z z z z z z (wv (.bool true) z z (x_pick_t z z z) (wv (.bool true) z z z (wz z z z z z z (wz z z z z z z (wz z z z z z z (wz z z z z z z (wz z z z z z z (wz z z z z z z (wz z z z z z z (wv (.bool true) z z (x_pick_t z z z) (wv (.bool true) z z z (wz z z z z z z ?_))))))))))))
 refine wz z z z z z z (wz z z z z z z (wz z z z z z z (wz z z z z z z (wz z z z z z z (wz z z z z z z (wv (.bool true) z z (x_pick_t z z z) (wv (.bool true) z z z (wz z z z z z z (wz z z z z z z (wz z z z z z z (wz z z z z z z (wz z z z z z z ?_))))))))))))
 refine wz z z z z z z (wz z z z z z z (wv (.bool true) z z (x_pick_t z z z) (wl_nil (tn ?_))))
 refine wp_ift z ?_
 refine wp_seq (wrl (wv (.bool false) z z z (wl_nil (tn (wp_ret (then_r ?_))))))
 obtain rfl := some_inj hm
 refine post_ret (vs := [.bool false]) results18 (rvs_cons (rv_tmp z) rvs_nil) ?_
 exact ⟨z, hst.keep0⟩
}
 {
 replace hm := bif_f hc345 hm
 refine wv (Pt b335 2) ((wanted_eq z z z (cvb hc345)).trans z) z (x_field z underlying34 z sizeOf27 z) (wv (.int .u64 a0.Epoch) ((wanted_eq z z z (cvb hc345)).trans z) z (x_load z isAgg27 (hst.bc1 z)) (wv (Pt b340 2) ((wanted_eq z z z (cvb hc345)).trans z) z (x_field z underlying34 z sizeOf27 z) (wv (.int .u64 a1.Epoch) ((wanted_eq z z z (cvb hc345)).trans z) z (x_load z isAgg27 (hst.bc0 z)) (wv (.bool (a0.Epoch != a1.Epoch)) ((wanted_eq z z z (cvb hc345)).trans z) z z (wv (.bool (a0.Epoch != a1.Epoch)) z z (x_pick_f hc345 z z) (wv (.bool (a0.Epoch != a1.Epoch)) z z z ?_))))))
 refine bsplit (a0.Epoch != a1.Epoch) (fun hc346 => ?_) (fun hc346 => ?_)
 {
 replace hm := bif_t hc346 hm
 refine wo hc346 z z z z z z (wo hc346 z z z z z z (wo hc346 z z z z z z (wo hc346 z z z z z z (wo hc346 z z z z z z (wo hc346 z z z z z z (wo hc346 z z z z z z (wv (.bool true) z z (x_pick_t hc346 z z) (wv (.bool true) z z z (wz z z z z z z (wz z z z z z z (wz z z z z z z (wz z z z z z z ?_))))))))))))
 refine wz z z z z z z (wz z z z z z z (wz z z z z z z (wv (.bool true) z z (x_pick_t z z z) (wv (.bool true) z z z (wz z z z z z z (wz z z z z z z (wz z z z z z z (wz z z z z z z (wz z z z z z z (wz z z z z z z (wz z z z z z z (wv (.bool true) z z (x_pick_t z z z) ?_))))))))))))
 refine wv (.bool true) z z z (wz z z z z z z (wz z z z z z z (wz z z z z z z (wz z z z z z z (wz z z z z z z (wz z z z z z z (wz z z z z z z (wv (.bool true) z z (x_pick_t z z z) (wl_nil (tn ?_))))))))))
 refine wp_ift z ?_
 refine wp_seq (wrl (wv (.bool false) z z z (wl_nil (tn (wp_ret (then_r ?_))))))
 obtain rfl := some_inj hm
 refine post_ret (vs := [.bool false]) results18 (rvs_cons (rv_tmp z) rvs_nil) ?_
 exact ⟨z, hst.keep0⟩
}
 {
 replace hm := bif_f hc346 hm
 refine wv (Pt b335 3) ((wanted_eq z z z (cvb hc346)).trans z) z (x_field z underlying34 z sizeOf30 z) (wv (r0_0) ((wanted_eq z z z (cvb hc346)).trans z) z (x_load z isAgg30 (hst.bc1 z)) (wv (.int .i64 ((a0.Gets).length : Int)) ((wanted_eq z z z (cvb hc346)).trans z) z (x_len z underlying30 (rd_sliceV f0_0)) (wv (Pt b340 3) ((wanted_eq z z z (cvb hc346)).trans z) z (x_field z underlying34 z sizeOf30 z) (wv (r1_0) ((wanted_eq z z z (cvb hc346)).trans z) z (x_load z isAgg30 (hst.bc0 z)) (wv (.int .i64 ((a1.Gets).length : Int)) ((wanted_eq z z z (cvb hc346)).trans z) z (x_len z underlying30 (rd_sliceV f1_0)) (wv (.bool (((a0.Gets).length : Int) != ((a1.Gets).length : Int))) ((wanted_eq z z z (cvb hc346)).trans z) z z (wv (.bool (((a0.Gets).length : Int) != ((a1.Gets).length : Int))) z z (x_pick_f hc346 z z) (wv (.bool (((a0.Gets).length : Int) != ((a1.Gets).length : Int))) z z z ?_))))))))
 refine bsplit (((a0.Gets).length : Int) != ((a1.Gets).length : Int)) (fun hc347 => ?_) (fun hc347 => ?_)
 {
 replace hm := bif_t hc347 hm
 refine wo hc347 z z z z z z (wo hc347 z z z z z z (wo hc347 z z z z z z (wo hc347 z z z z z z (wo hc347 z z z z z z (wo hc347 z z z z z z (wo hc347 z z z z z z (wv (.bool true) z z (x_pick_t hc347 z z) (wv (.bool true) z z z (wz z z z z z z (wz z z z z z z (wz z z z z z z (wz z z z z z z ?_))))))))))))
 refine wz z z z z z z (wz z z z z z z (wz z z z z z z (wv (.bool true) z z (x_pick_t z z z) (wv (.bool true) z z z (wz z z z z z z (wz z z z z z z (wz z z z z z z (wz z z z z z z (wz z z z z z z (wz z z z z z z (wz z z z z z z (wv (.bool true) z z (x_pick_t z z z) ?_))))))))))))
 refine wl_nil (tn ?_)
 refine wp_ift z ?_
 refine wp_seq (wrl (wv (.bool false) z z z (wl_nil (tn (wp_ret (then_r ?_))))))
 obtain rfl := some_inj hm
 refine post_ret (vs := [.bool false]) results18 (rvs_cons (rv_tmp z) rvs_nil) ?_
 exact ⟨z, hst.keep0⟩
}
 {
 replace hm := bif_f hc347 hm
 refine wv (Pt b335 4) ((wanted_eq z z z (cvb hc347)).trans z) z (x_field z underlying34 z sizeOf31 z) (wv (r0_1) ((wanted_eq z z z (cvb hc347)).trans z) z (x_load z isAgg31 (hst.bc1 z)) (wv (.int .i64 ((a0.Scans).length : Int)) ((wanted_eq z z z (cvb hc347)).trans z) z (x_len z underlying31 (rd_sliceV f0_1)) (wv (Pt b340 4) ((wanted_eq z z z (cvb hc347)).trans z) z (x_field z underlying34 z sizeOf31 z) (wv (r1_1) ((wanted_eq z z z (cvb hc347)).trans z) z (x_load z isAgg31 (hst.bc0 z)) (wv (.int .i64 ((a1.Scans).length : Int)) ((wanted_eq z z z (cvb hc347)).trans z) z (x_len z underlying31 (rd_sliceV f1_1)) (wv (.bool (((a0.Scans).length : Int) != ((a1.Scans).length : Int))) ((wanted_eq z z z (cvb hc347)).trans z) z z (wv (.bool (((a0.Scans).length : Int) != ((a1.Scans).length : Int))) z z (x_pick_f hc347 z z) (wv (.bool (((a0.Scans).length : Int) != ((a1.Scans).length : Int))) z z z ?_))))))))
 refine bsplit (((a0.Scans).length : Int) != ((a1.Scans).length : Int)) (fun hc348 => ?_) (fun hc348 => ?_)
 {
 replace hm := bif_t hc348 hm
 refine wo hc348 z z z z z z (wo hc348 z z z z z z (wo hc348 z z z z z z (wo hc348 z z z z z z (wo hc348 z z z z z z (wo hc348 z z z z z z (wo hc348 z z z z z z (wv (.bool true) z z (x_pick_t hc348 z z) (wv (.bool true) z z z (wz z z z z z z (wz z z z z z z (wz z z z z z z (wz z z z z z z ?_))))))))))))
 refine wz z z z z z z (wz z z z z z z (wz z z z z z z (wv (.bool true) z z (x_pick_t z z z) (wl_nil (tn ?_)))))
 refine wp_ift z ?_
 refine wp_seq (wrl (wv (.bool false) z z z (wl_nil (tn (wp_ret (then_r ?_))))))
 obtain rfl := some_inj hm
 refine post_ret (vs := [.bool false]) results18 (rvs_cons (rv_tmp z) rvs_nil) ?_
 exact ⟨z, hst.keep0⟩
}
 {
 replace hm := bif_f hc348 hm
 refine wv (Pt b335 5) ((wanted_eq z z z (cvb hc348)).trans z) z (x_field z underlying34 z sizeOf30 z) (wv (r0_2) ((wanted_eq z z z (cvb hc348)).trans z) z (x_load z isAgg30 (hst.bc1 z)) (wv (.int .i64 ((a0.Puts).length : Int)) ((wanted_eq z z z (cvb hc348)).trans z) z (x_len z underlying30 (rd_sliceV f0_2)) (wv (Pt b340 5) ((wanted_eq z z z (cvb hc348)).trans z) z (x_field z underlying34 z sizeOf30 z) (wv (r1_2) ((wanted_eq z z z (cvb hc348)).trans z) z (x_load z isAgg30 (hst.bc0 z)) (wv (.int .i64 ((a1.Puts).length : Int)) ((wanted_eq z z z (cvb hc348)).trans z) z (x_len z underlying30 (rd_sliceV f1_2)) (wv (.bool (((a0.Puts).length : Int) != ((a1.Puts).length : Int))) ((wanted_eq z z z (cvb hc348)).trans z) z z (wv (.bool (((a0.Puts).length : Int) != ((a1.Puts).length : Int))) z z (x_pick_f hc348 z z) (wv (.bool (((a0.Puts).length : Int) != ((a1.Puts).length : Int))) z z z ?_))))))))
 refine bsplit (((a0.Puts).length : Int) != ((a1.Puts).length : Int)) (fun hc349 => ?_) (fun hc349 => ?_)
 {
 replace hm := bif_t hc349 hm
 refine wo hc349 z z z z z z (wo hc349 z z z z z z (wo hc349 z z z z z z (wo hc349 z z z z z z (wo hc349 z z z z z z (wo hc349 z z z z z z (wo hc349 z z z z z z (wv (.bool true) z z (x_pick_t hc349 z z) (wl_nil (tn ?_)))))))))
 refine wp_ift z ?_
 refine wp_seq (wrl (wv (.bool false) z z z (wl_nil (tn (wp_ret (then_r ?_))))))
 obtain rfl := some_inj hm
 refine post_ret (vs := [.bool false]) results18 (rvs_cons (rv_tmp z) rvs_nil) ?_
 exact ⟨z, hst.keep0⟩
}
 {
 replace hm := bif_f hc349 hm
 refine wv (Pt b335 6) ((wanted_eq z z z (cvb hc349)).trans z) z (x_field z underlying34 z sizeOf32 z) (wv (r0_3) ((wanted_eq z z z (cvb hc349)).trans z) z (x_load z isAgg32 (hst.bc1 z)) (wv (.string (toStr a0.Data)) ((wanted_eq z z z (cvb hc349)).trans z) z (x_tostr underlying32 underlying9 underlying5 z (Src.of_rd hst f0_3 flat_int)) (wv (Pt b340 6) ((wanted_eq z z z (cvb hc349)).trans z) z (x_field z underlying34 z sizeOf32 z) (wv (r1_3) ((wanted_eq z z z (cvb hc349)).trans z) z (x_load z isAgg32 (hst.bc0 z)) (wv (.string (toStr a1.Data)) ((wanted_eq z z z (cvb hc349)).trans z) z (x_tostr underlying32 underlying9 underlying5 z (Src.of_rd hst f1_3 flat_int)) (wv (.bool (!(sEq (toStr a0.Data) (toStr a1.Data)))) ((wanted_eq z z z (cvb hc349)).trans z) z (by kernel_rfl) (wv (.bool (!(sEq (toStr a0.Data) (toStr a1.Data)))) z z (x_pick_f hc349 z z) (wl_nil (tn ?_)))))))))
 refine bsplit (!(sEq (toStr a0.Data) (toStr a1.Data))) (fun hc350 => ?_) (fun hc350 => ?_)
 {
 replace hm := bif_t hc350 hm
 refine wp_ift (cvb hc350) ?_
 refine wp_seq (wrl (wv (.bool false) z z z (wl_nil (tn (wp_ret (then_r ?_))))))
 obtain rfl := some_inj hm
 refine post_ret (vs := [.bool false]) results18 (rvs_cons (rv_tmp z) rvs_nil) ?_
 exact ⟨z, hst.keep0⟩
}
 {
 replace hm := bif_f hc350 hm
 refine wp_iff (cvb hc350) ?_
 refine wp_skip (tn ?_)
 obtain ⟨y414, hm, hx415⟩ := joinO_some hm
 refine wp_cut (fun a w => ∃ (σ412 : Nat → Value), (ref11_SameHold_j0 a0 a1) () = some r ∧ a = Fr 131 (upd (upd σ412 2 (Pt b335 0)) 3 (Pt b340 0)) ∧ St w0 w I [cells b335 [U6 a0.ID.Session, U6 a0.ID.Seq, U6 a0.Epoch, r0_0, r0_1, r0_2, r0_3], cells b340 [U6 a1.ID.Session, U6 a1.ID.Seq, U6 a1.Epoch, r1_0, r1_1, r1_2, r1_3]] R) ?_ ?_
 {
 refine wp_seq (wrl (wv (.int .i64 (0:Int)) z z z (wl_nil (tn (wp_block ?_)))))
 obtain ⟨n388, hm⟩ := loopO_some hm
 refine wp_loop_n (fun n a w => ∃ (z386 : Int) (σ387 : Nat → Value), loopN (ref11_SameHold_l1 a0 a1) n z386 = some y414 ∧ a = Fr 131 (upd (upd (upd σ387 2 (Pt b335 0)) 3 (Pt b340 0)) 5 (.int .i64 z386)) ∧ St w0 w I [cells b340 [U6 a1.ID.Session, U6 a1.ID.Seq, U6 a1.Epoch, r1_0, r1_1, r1_2, r1_3], cells b335 [U6 a0.ID.Session, U6 a0.ID.Seq, U6 a0.Epoch, r0_0, r0_1, r0_2, r0_3]] R) n388 ⟨(0:Int), _, hm, (fu 2 (Pt b335 0) z (fu 3 (Pt b340 0) z (fu 5 (.int .i64 (0:Int)) z z))), hst⟩ ?_
 rintro n394 _ w389 ⟨z386, σ387, hm, rfl, hst⟩
 obtain ⟨n391, y392, rfl, hm, hx393⟩ := loopN_some hm
 dsimp only [ref11_SameHold_l1] at hm
 refine wp_seq (wp_seq (wrl (wv (.int .i64 z386) z z z (wv (Pt b335 3) z z (x_field z underlying34 z sizeOf30 z) (wv (r0_0) z z (x_load z isAgg30 (hst.bc1 z)) (wv (.int .i64 ((a0.Gets).length : Int)) z z (x_len z underlying30 (rd_sliceV f0_0)) (wv (.bool (decide (z386 < ((a0.Gets).length : Int)))) z z z (wl_nil (tn ?_)))))))))
 refine bsplit (decide (z386 < ((a0.Gets).length : Int))) (fun hc395 => ?_) (fun hc395 => ?_)
 {
 replace hm := bif_t hc395 hm
 refine wp_ift (cvb hc395) ?_
 refine wp_skip (tn (wp_seq (wp_block (wp_seq ?_))))
 refine wp_region_St hst 12 [0, 1, 2, 3, 4, 5, 6, 7, 8, 9, 10, 11] [0, 1, 0, 7, 15, 0, 32, 0, 224, 480, 1023, 2047] [] z (by kernel_rfl) (by kernel_rfl) Try.mixed (by kernel_rfl) ?_
 refine wsr (Pt b335 3) 0 z z z (by kernel_rfl) (fun w hst => x_field z underlying34 z sizeOf30 z) (wsr (r0_0) 1 z z z (by kernel_rfl) (fun w hst => x_load z isAgg30 (hst.bc1 z)) (wsr (.int .i64 z386) 2 z z z (by kernel_rfl) (fun w hst => z) ?_))
 obtain ⟨x396, hx397, hm⟩ := bind_some hm
 obtain ⟨h398, h399, hi400⟩ := geto_some hx397
 refine wsr (.pointer (some (eAddr r0_0 (z386.toNat * 1 + 0)))) 3 z z z (by kernel_rfl) (fun w hst => x_index z z underlying30 sizeOf57 (rd_sliceV f0_0) h398 h399) (wsr (.float .f64 x396) 4 z z z (by kernel_rfl) (fun w hst => x_load z isAgg57 (rd_load f0_0 (HL.le.refl _) hst hi400 (by rintro _ rfl; rfl))) (wsr (Pt b340 3) 5 z z z (by kernel_rfl) (fun w hst => x_field z underlying34 z sizeOf30 z) (wsr (r1_0) 6 z z z (by kernel_rfl) (fun w hst => x_load z isAgg30 (hst.bc0 z)) (wsr (.int .i64 z386) 7 z z z (by kernel_rfl) (fun w hst => z) ?_))))
 obtain ⟨x401, hx402, hm⟩ := bind_some hm
 obtain ⟨h403, h404, hi405⟩ := geto_some hx402
 refine wsr (.pointer (some (eAddr r1_0 (z386.toNat * 1 + 0)))) 8 z z z (by kernel_rfl) (fun w hst => x_index z z underlying30 sizeOf57 (rd_sliceV f1_0) h403 h404) (wsr (.float .f64 x401) 9 z z z (by kernel_rfl) (fun w hst => x_load z isAgg57 (rd_load f1_0 (HL.le.refl _) hst hi405 (by rintro _ rfl; rfl))) ?_)
 refine ws_e1 10 (by kernel_rfl) ?_
 refine nxe [11] (by kernel_rfl) z z ?_
 clear hst
 intro w hst
 obtain ⟨t406, ht407, hm⟩ := bind_some hm
 refine wec call51 [F6 x396, F6 x401] z z ?_
 refine (ref01_Same_ref hst.to0 ht407).mono ?_
 rintro _ w408 ⟨rfl, hst⟩
 refine ⟨_, z, ?_⟩
 replace hst := hst.of0
 refine ws_next (pend' := []) hst (by kernel_rfl) pk_nil ?_
 refine wsr (.bool (!t406)) 11 z z z (by kernel_rfl) (fun w hst => z) ?_
 refine ws_nil ?_
 intro w hst
 refine tn ?_
 refine bsplit (!t406) (fun hc411 => ?_) (fun hc411 => ?_)
 {
 replace hm := bif_t hc411 hm
 refine wp_ift (cvb hc411) ?_
 refine wp_seq (wrl (wv (.bool false) z z z (wl_nil (tn (wp_ret (blk_r (then_r (then_r ?_))))))))
 replace hm := inr_up hm hx393
 refine blk_r (then_r ?_)
 replace hm := inr_up hm hx415
 obtain rfl := some_inj hm
 refine post_ret (vs := [.bool false]) results18 (rvs_cons (rv_tmp z) rvs_nil) ?_
 exact ⟨z, hst.keep0⟩
}
 {
 replace hm := bif_f hc411 hm
 refine wp_iff (cvb hc411) ?_
 refine wp_skip (blk_n (tn (wrl ?_)))
 refine wv (.int .i64 z386) z z z (wv (.int .i64 (i64.wrap (z386 + (1:Int)))) z z z (wv (.int .i64 (i64.wrap (z386 + (1:Int)))) z z z (wl_nil (tn ?_))))
 replace hst := hst.pull1.pull1.keep2
 obtain rfl := some_inj hm
 exact ⟨_, Nat.lt_succ_self _, (i64.wrap (z386 + (1:Int))), _, hx393, (fu 2 (Pt b335 0) z (fu 3 (Pt b340 0) z (fu 5 (.int .i64 (i64.wrap (z386 + (1:Int)))) z z))), hst⟩
}
}
 {
 replace hm := bif_f hc395 hm
 refine wp_iff (cvb hc395) ?_
 refine wp_exit (then_x (then_x ?_))
 replace hm := inr_up hm hx393
 refine blk_x (tn ?_)
 replace hst := hst.pull1.keep2
 obtain rfl := some_inj hm
 exact ⟨_, hx415, (fu 2 (Pt b335 0) z (fu 3 (Pt b340 0) z z)), hst⟩
}
}
 {
 clear hst
 rintro _ w416 ⟨σ412, hm, rfl, hst⟩
 dsimp only [ref11_SameHold_j0] at hm
 obtain ⟨y498, hm, hx499⟩ := joinO_some hm
 refine wp_cut (fun a w => ∃ (σ496 : Nat → Value), (ref11_SameHold_j2 a0 a1) () = some r ∧ a = Fr 131 (upd (upd σ496 2 (Pt b335 0)) 3 (Pt b340 0)) ∧ St w0 w I [cells b335 [U6 a0.ID.Session, U6 a0.ID.Seq, U6 a0.Epoch, r0_0, r0_1, r0_2, r0_3], cells b340 [U6 a1.ID.Session, U6 a1.ID.Seq, U6 a1.Epoch, r1_0, r1_1, r1_2, r1_3]] R) ?_ ?_
 {
 refine wp_seq (wrl (wv (.int .i64 (0:Int)) z z z (wl_nil (tn (wp_block ?_)))))
 obtain ⟨n466, hm⟩ := loopO_some hm
 refine wp_loop_n (fun n a w => ∃ (z464 : Int) (σ465 : Nat → Value), loopN (ref11_SameHold_l3 a0 a1) n z464 = some y498 ∧ a = Fr 131 (upd (upd (upd σ465 2 (Pt b335 0)) 3 (Pt b340 0)) 6 (.int .i64 z464)) ∧ St w0 w I [cells b335 [U6 a0.ID.Session, U6 a0.ID.Seq, U6 a0.Epoch, r0_0, r0_1, r0_2, r0_3], cells b340 [U6 a1.ID.Session, U6 a1.ID.Seq, U6 a1.Epoch, r1_0, r1_1, r1_2, r1_3]] R) n466 ⟨(0:Int), _, hm, (fu 2 (Pt b335 0) z (fu 3 (Pt b340 0) z (fu 6 (.int .i64 (0:Int)) z z))), hst⟩ ?_
 rintro n472 _ w467 ⟨z464, σ465, hm, rfl, hst⟩
 obtain ⟨n469, y470, rfl, hm, hx471⟩ := loopN_some hm
 dsimp only [ref11_SameHold_l3] at hm
 refine wp_seq (wp_seq (wrl (wv (.int .i64 z464) z z z (wv (Pt b335 4) z z (x_field z underlying34 z sizeOf31 z) (wv (r0_1) z z (x_load z isAgg31 (hst.bc0 z)) (wv (.int .i64 ((a0.Scans).length : Int)) z z (x_len z underlying31 (rd_sliceV f0_1)) (wv (.bool (decide (z464 < ((a0.Scans).length : Int)))) z z z (wl_nil (tn ?_)))))))))
 refine bsplit (decide (z464 < ((a0.Scans).length : Int))) (fun hc473 => ?_) (fun hc473 => ?_)
 {
 replace hm := bif_t hc473 hm
 refine wp_ift (cvb hc473) ?_
 refine wp_skip (tn (wp_seq (wp_block (wp_seq ?_))))
 refine wp_region_St hst 30 [0, 1, 2, 3, 4, 5, 6, 7, 8, 9, 10, 11, 12, 13, 14, 15, 16, 17, 18, 19, 20, 21, 22, 23, 24, 25, 26, 27, 28, 29] [0, 1, 0, 7, 15, 31, 0, 64, 0, 448, 960, 1984, 4095, 8191, 16383, 32767, 65535, 32767, 262143, 524287, 1048575, 32767, 2129919, 32767, 14712831, 31490047, 65044479, 134217727, 268435455, 536870911] [] z (by kernel_rfl) (by kernel_rfl) Try.mixed (by kernel_rfl) ?_
 refine wsr (Pt b335 4) 0 z z z (by kernel_rfl) (fun w hst => x_field z underlying34 z sizeOf31 z) (wsr (r0_1) 1 z z z (by kernel_rfl) (fun w hst => x_load z isAgg31 (hst.bc0 z)) (wsr (.int .i64 z464) 2 z z z (by kernel_rfl) (fun w hst => z) ?_))
 obtain ⟨x474, hx475, hm⟩ := bind_some hm
 obtain ⟨h476, h477, hi478⟩ := geto_some hx475
 refine wsr (.pointer (some (eAddr r0_1 (z464.toNat * 2 + 0)))) 3 z z z (by kernel_rfl) (fun w hst => x_index z z underlying31 sizeOf75 (rd_sliceV f0_1) h476 h477) (wsr (.pointer (some (eAddr r0_1 (z464.toNat * 2 + 0)))) 4 z z z (by kernel_rfl) (fun w hst => x_index_arr_e (i := (0:Int)) z z underlying75 sizeOf57 (by decide) (by decide) z) (wsr (.float .f64 x474.1) 5 z z z (by kernel_rfl) (fun w hst => x_load z isAgg57 (rd_load f0_1 (HL.le.refl _) hst hi478 (by rintro _ rfl; rfl))) (wsr (Pt b340 4) 6 z z z (by kernel_rfl) (fun w hst => x_field z underlying34 z sizeOf31 z) (wsr (r1_1) 7 z z z (by kernel_rfl) (fun w hst => x_load z isAgg31 (hst.bc1 z)) (wsr (.int .i64 z464) 8 z z z (by kernel_rfl) (fun w hst => z) ?_)))))
 obtain ⟨x479, hx480, hm⟩ := bind_some hm
 obtain ⟨h481, h482, hi483⟩ := geto_some hx480
 refine wsr (.pointer (some (eAddr r1_1 (z464.toNat * 2 + 0)))) 9 z z z (by kernel_rfl) (fun w hst => x_index z z underlying31 sizeOf75 (rd_sliceV f1_1) h481 h482) (wsr (.pointer (some (eAddr r1_1 (z464.toNat * 2 + 0)))) 10 z z z (by kernel_rfl) (fun w hst => x_index_arr_e (i := (0:Int)) z z underlying75 sizeOf57 (by decide) (by decide) z) (wsr (.float .f64 x479.1) 11 z z z (by kernel_rfl) (fun w hst => x_load z isAgg57 (rd_load f1_1 (HL.le.refl _) hst hi483 (by rintro _ rfl; rfl))) ?_))
 refine ws_e1 12 (by kernel_rfl) ?_
 refine nxe [13, 14, 15, 16, 17, 18, 19, 20, 21, 22, 23, 24, 25, 26, 27, 28, 29] (by kernel_rfl) z z ?_
 clear hst
 intro w hst
 obtain ⟨t484, ht485, hm⟩ := bind_some hm
 refine wec call51 [F6 x474.1, F6 x479.1] z z ?_
 refine (ref01_Same_ref hst.to0 ht485).mono ?_
 rintro _ w486 ⟨rfl, hst⟩
 refine ⟨_, z, ?_⟩
 replace hst := hst.of0
 refine ws_next (pend' := []) hst (by kernel_rfl) pk_nil ?_
 refine wsr (.bool (!t484)) 13 z z z (by kernel_rfl) (fun w hst => z) (wsr (.bool (!t484)) 14 z z z (by kernel_rfl) (fun w hst => z) ?_)
 refine bsplit (!t484) (fun hc489 => ?_) (fun hc489 => ?_)
 {
 replace hm := bif_t hc489 hm
 refine ws_q (v := undef) 15 [16, 17, 18, 19, 20, 21, 22, 23, 24, 25, 26, 27, 28, 29] (by kernel_rfl) z z (yi_off ((wanted_eq z z z (cvb hc489)).trans z)) (ws_q (v := undef) 16 [17, 18, 19, 20, 21, 22, 23, 24, 25, 26, 27, 28, 29] (by kernel_rfl) z z (yi_off ((wanted_eq z z z (cvb hc489)).trans z)) (ws_q (v := undef) 17 [18, 19, 20, 21, 22, 23, 24, 25, 26, 27, 28, 29] (by kernel_rfl) z z (yi_off ((wanted_eq z z z (cvb hc489)).trans z)) (ws_q (v := undef) 18 [19, 20, 21, 22, 23, 24, 25, 26, 27, 28, 29] (by kernel_rfl) z z (yi_off ((wanted_eq z z z (cvb hc489)).trans z)) (ws_q (v := undef) 19 [20, 21, 22, 23, 24, 25, 26, 27, 28, 29] (by kernel_rfl) z z (yi_off ((wanted_eq z z z (cvb hc489)).trans z)) (ws_q (v := undef) 20 [21, 22, 23, 24, 25, 26, 27, 28, 29] (by kernel_rfl) z z (yi_off ((wanted_eq z z z (cvb hc489)).trans z)) (ws_q (v := undef) 21 [22, 23, 24, 25, 26, 27, 28, 29] (by kernel_rfl) z z (yi_off ((wanted_eq z z z (cvb hc489)).trans z)) (ws_q (v := undef) 22 [23, 24, 25, 26, 27, 28, 29] (by kernel_rfl) z z (yi_off ((wanted_eq z z z (cvb hc489)).trans z)) (ws_q (v := undef) 23 [24, 25, 26, 27, 28, 29] (by kernel_rfl) z z (yi_off ((wanted_eq z z z (cvb hc489)).trans z)) (ws_q (v := undef) 24 [25, 26, 27, 28, 29] (by kernel_rfl) z z (yi_off ((wanted_eq z z z (cvb hc489)).trans z)) (ws_q (v := undef) 25 [26, 27, 28, 29] (by kernel_rfl) z z (yi_off ((wanted_eq z z z (cvb hc489)).trans z)) (ws_q (v := undef) 26 [27, 28, 29] (by kernel_rfl) z z (yi_off ((wanted_eq z z z (cvb hc489)).trans z)) (ws_q (v := undef) 27 [28, 29] (by kernel_rfl) z z (yi_off ((wanted_eq z z z (cvb hc489)).trans z)) ?_))))))))))))
 refine ws_q (v := undef) 28 [29] (by kernel_rfl) z z (yi_off ((wanted_eq z z z (cvb hc489)).trans z)) (wsr (.bool true) 29 z z z (by kernel_rfl) (fun w hst => x_pick_t hc489 z z) ?_)
 refine ws_nil ?_
 intro w hst
 refine tn ?_
 refine wp_ift z ?_
 refine wp_seq (wrl (wv (.bool false) z z z (wl_nil (tn (wp_ret (blk_r (then_r (then_r ?_))))))))
 replace hm := inr_up hm hx471
 refine blk_r (then_r ?_)
 replace hm := inr_up hm hx499
 obtain rfl := some_inj hm
 refine post_ret (vs := [.bool false]) results18 (rvs_cons (rv_tmp z) rvs_nil) ?_
 exact ⟨z, hst.keep0⟩
}
 {
 replace hm := bif_f hc489 hm
 refine ws_q (v := Pt b335 4) 15 [16, 17, 18, 19, 20, 21, 22, 23, 24, 25, 26, 27, 28, 29] (by kernel_rfl) z z (yi_run ((wanted_eq z z z (cvb hc489)).trans z) (fun w hst => x_field z underlying34 z sizeOf31 z)) (ws_q (v := r0_1) 16 [17, 18, 19, 20, 21, 22, 23, 24, 25, 26, 27, 28, 29] (by kernel_rfl) z z (yi_run ((wanted_eq z z z (cvb hc489)).trans z) (fun w hst => x_load z isAgg31 (hst.bc0 z))) (ws_q (v := .int .i64 z464) 17 [18, 19, 20, 21, 22, 23, 24, 25, 26, 27, 28, 29] (by kernel_rfl) z z (yi_run ((wanted_eq z z z (cvb hc489)).trans z) (fun w hst => z)) (ws_q (v := .pointer (some (eAddr r0_1 (z464.toNat * 2 + 0)))) 18 [19, 20, 21, 22, 23, 24, 25, 26, 27, 28, 29] (by kernel_rfl) z z (yi_run ((wanted_eq z z z (cvb hc489)).trans z) (fun w hst => x_index z z underlying31 sizeOf75 (rd_sliceV f0_1) h476 h477)) (ws_q (v := .pointer (some (eAddr r0_1 (z464.toNat * 2 + 1)))) 19 [20, 21, 22, 23, 24, 25, 26, 27, 28, 29] (by kernel_rfl) z z (yi_run ((wanted_eq z z z (cvb hc489)).trans z) (fun w hst => x_index_arr_e (i := (1:Int)) z z underlying75 sizeOf57 (by decide) (by decide) z)) (ws_q (v := .float .f64 x474.2) 20 [21, 22, 23, 24, 25, 26, 27, 28, 29] (by kernel_rfl) z z (yi_run ((wanted_eq z z z (cvb hc489)).trans z) (fun w hst => x_load z isAgg57 (rd_load f0_1 (HL.le.refl _) hst hi478 (by rintro _ rfl; rfl)))) (ws_q (v := Pt b340 4) 21 [22, 23, 24, 25, 26, 27, 28, 29] (by kernel_rfl) z z (yi_run ((wanted_eq z z z (cvb hc489)).trans z) (fun w hst => x_field z underlying34 z sizeOf31 z)) (ws_q (v := r1_1) 22 [23, 24, 25, 26, 27, 28, 29] (by kernel_rfl) z z (yi_run ((wanted_eq z z z (cvb hc489)).trans z) (fun w hst => x_load z isAgg31 (hst.bc1 z))) (ws_q (v := .int .i64 z464) 23 [24, 25, 26, 27, 28, 29] (by kernel_rfl) z z (yi_run ((wanted_eq z z z (cvb hc489)).trans z) (fun w hst => z)) (ws_q (v := .pointer (some (eAddr r1_1 (z464.toNat * 2 + 0)))) 24 [25, 26, 27, 28, 29] (by kernel_rfl) z z (yi_run ((wanted_eq z z z (cvb hc489)).trans z) (fun w hst => x_index z z underlying31 sizeOf75 (rd_sliceV f1_1) h481 h482)) (ws_q (v := .pointer (some (eAddr r1_1 (z464.toNat * 2 + 1)))) 25 [26, 27, 28, 29] (by kernel_rfl) z z (yi_run ((wanted_eq z z z (cvb hc489)).trans z) (fun w hst => x_index_arr_e (i := (1:Int)) z z underlying75 sizeOf57 (by decide) (by decide) z)) (ws_q (v := .float .f64 x479.2) 26 [27, 28, 29] (by kernel_rfl) z z (yi_run ((wanted_eq z z z (cvb hc489)).trans z) (fun w hst => x_load z isAgg57 (rd_load f1_1 (HL.le.refl _) hst hi483 (by rintro _ rfl; rfl)))) ?_)))))))))))
 refine ws_e1 27 (by kernel_rfl) ?_
 refine nxe [28, 29] (by kernel_rfl) z ((wanted_eq z z z (cvb hc489)).trans z) ?_
 clear hst
 intro w hst
 obtain ⟨t490, ht491, hm⟩ := bind_some hm
 refine wec call51 [F6 x474.2, F6 x479.2] z z ?_
 refine (ref01_Same_ref hst.to0 ht491).mono ?_
 rintro _ w492 ⟨rfl, hst⟩
 refine ⟨_, z, ?_⟩
 replace hst := hst.of0
 refine ws_next (pend' := []) hst (by kernel_rfl) pk_nil ?_
 refine ws_q (v := .bool (!t490)) 28 [29] (by kernel_rfl) z z (yi_run ((wanted_eq z z z (cvb hc489)).trans z) (fun w hst => z)) (wsr (.bool (!t490)) 29 z z z (by kernel_rfl) (fun w hst => x_pick_f hc489 z z) ?_)
 refine ws_nil ?_
 intro w hst
 refine tn ?_
 refine bsplit (!t490) (fun hc495 => ?_) (fun hc495 => ?_)
 {
 replace hm := bif_t hc495 hm
 refine wp_ift (cvb hc495) ?_
 refine wp_seq (wrl (wv (.bool false) z z z (wl_nil (tn (wp_ret (blk_r (then_r (then_r ?_))))))))
 replace hm := inr_up hm hx471
 refine blk_r (then_r ?_)
 replace hm := inr_up hm hx499
 obtain rfl := some_inj hm
 refine post_ret (vs := [.bool false]) results18 (rvs_cons (rv_tmp z) rvs_nil) ?_
 exact ⟨z, hst.keep0⟩
}
 {
 replace hm := bif_f hc495 hm
 refine wp_iff (cvb hc495) ?_
 refine wp_skip (blk_n (tn (wrl ?_)))
 refine wv (.int .i64 z464) z z z (wv (.int .i64 (i64.wrap (z464 + (1:Int)))) z z z (wv (.int .i64 (i64.wrap (z464 + (1:Int)))) z z z (wl_nil (tn ?_))))
 replace hst := hst.pull1.pull1.keep2
 obtain rfl := some_inj hm
 exact ⟨_, Nat.lt_succ_self _, (i64.wrap (z464 + (1:Int))), _, hx471, (fu 2 (Pt b335 0) z (fu 3 (Pt b340 0) z (fu 6 (.int .i64 (i64.wrap (z464 + (1:Int)))) z z))), hst⟩
}
}
}
 {
 replace hm := bif_f hc473 hm
 refine wp_iff (cvb hc473) ?_
 refine wp_exit (then_x (then_x ?_))
 replace hm := inr_up hm hx471
 refine blk_x (tn ?_)
 replace hst := hst.pull1.pull1.keep2
 obtain rfl := some_inj hm
 exact ⟨_, hx499, (fu 2 (Pt b335 0) z (fu 3 (Pt b340 0) z z)), hst⟩
}
}
 {
 clear hst
 rintro _ w500 ⟨σ496, hm, rfl, hst⟩
 dsimp only [ref11_SameHold_j2] at hm
 refine wp_seq (wp_seq (wrl (wv (.int .i64 (0:Int)) z z z (wl_nil (tn (wp_block ?_))))))
 obtain ⟨n538, hm⟩ := loopO_some hm
 refine wp_loop_n (fun n a w => ∃ (z536 : Int) (σ537 : Nat → Value), loopN (ref11_SameHold_l4 a0 a1) n z536 = some r ∧ a = Fr 131 (upd (upd (upd σ537 2 (Pt b335 0)) 3 (Pt b340 0)) 7 (.int .i64 z536)) ∧ St w0 w I [cells b335 [U6 a0.ID.Session, U6 a0.ID.Seq, U6 a0.Epoch, r0_0, r0_1, r0_2, r0_3], cells b340 [U6 a1.ID.Session, U6 a1.ID.Seq, U6 a1.Epoch, r1_0, r1_1, r1_2, r1_3]] R) n538 ⟨(0:Int), _, hm, (fu 2 (Pt b335 0) z (fu 3 (Pt b340 0) z (fu 7 (.int .i64 (0:Int)) z z))), hst⟩ ?_
 rintro n544 _ w539 ⟨z536, σ537, hm, rfl, hst⟩
 obtain ⟨n541, y542, rfl, hm, hx543⟩ := loopN_some hm
 dsimp only [ref11_SameHold_l4] at hm
 refine wp_seq (wp_seq (wrl (wv (.int .i64 z536) z z z (wv (Pt b335 5) z z (x_field z underlying34 z sizeOf30 z) (wv (r0_2) z z (x_load z isAgg30 (hst.bc0 z)) (wv (.int .i64 ((a0.Puts).length : Int)) z z (x_len z underlying30 (rd_sliceV f0_2)) (wv (.bool (decide (z536 < ((a0.Puts).length : Int)))) z z z (wl_nil (tn ?_)))))))))
 refine bsplit (decide (z536 < ((a0.Puts).length : Int))) (fun hc545 => ?_) (fun hc545 => ?_)
 {
 replace hm := bif_t hc545 hm
 refine wp_ift (cvb hc545) ?_
 refine wp_skip (tn (wp_seq (wp_block (wp_seq ?_))))
 refine wp_region_St hst 12 [0, 1, 2, 3, 4, 5, 6, 7, 8, 9, 10, 11] [0, 1, 0, 7, 15, 0, 32, 0, 224, 480, 1023, 2047] [] z (by kernel_rfl) (by kernel_rfl) Try.mixed (by kernel_rfl) ?_
 refine wsr (Pt b335 5) 0 z z z (by kernel_rfl) (fun w hst => x_field z underlying34 z sizeOf30 z) (wsr (r0_2) 1 z z z (by kernel_rfl) (fun w hst => x_load z isAgg30 (hst.bc0 z)) (wsr (.int .i64 z536) 2 z z z (by kernel_rfl) (fun w hst => z) ?_))
 obtain ⟨x546, hx547, hm⟩ := bind_some hm
 obtain ⟨h548, h549, hi550⟩ := geto_some hx547
 refine wsr (.pointer (some (eAddr r0_2 (z536.toNat * 1 + 0)))) 3 z z z (by kernel_rfl) (fun w hst => x_index z z underlying30 sizeOf57 (rd_sliceV f0_2) h548 h549) (wsr (.float .f64 x546) 4 z z z (by kernel_rfl) (fun w hst => x_load z isAgg57 (rd_load f0_2 (HL.le.refl _) hst hi550 (by rintro _ rfl; rfl))) (wsr (Pt b340 5) 5 z z z (by kernel_rfl) (fun w hst => x_field z underlying34 z sizeOf30 z) (wsr (r1_2) 6 z z z (by kernel_rfl) (fun w hst => x_load z isAgg30 (hst.bc1 z)) (wsr (.int .i64 z536) 7 z z z (by kernel_rfl) (fun w hst => z) ?_))))
 obtain ⟨x551, hx552, hm⟩ := bind_some hm
 obtain ⟨h553, h554, hi555⟩ := geto_some hx552
 refine wsr (.pointer (some (eAddr r1_2 (z536.toNat * 1 + 0)))) 8 z z z (by kernel_rfl) (fun w hst => x_index z z underlying30 sizeOf57 (rd_sliceV f1_2) h553 h554) (wsr (.float .f64 x551) 9 z z z (by kernel_rfl) (fun w hst => x_load z isAgg57 (rd_load f1_2 (HL.le.refl _) hst hi555 (by rintro _ rfl; rfl))) ?_)
 refine ws_e1 10 (by kernel_rfl) ?_
 refine nxe [11] (by kernel_rfl) z z ?_
 clear hst
 intro w hst
 obtain ⟨t556, ht557, hm⟩ := bind_some hm
 refine wec call51 [F6 x546, F6 x551] z z ?_
 refine (ref01_Same_ref hst.to0 ht557).mono ?_
 rintro _ w558 ⟨rfl, hst⟩
 refine ⟨_, z, ?_⟩
 replace hst := hst.of0
 refine ws_next (pend' := []) hst (by kernel_rfl) pk_nil ?_
 refine wsr (.bool (!t556)) 11 z z z (by kernel_rfl) (fun w hst => z) ?_
 refine ws_nil ?_
 intro w hst
 refine tn ?_
 refine bsplit (!t556) (fun hc561 => ?_) (fun hc561 => ?_)
 {
 replace hm := bif_t hc561 hm
 refine wp_ift (cvb hc561) ?_
 refine wp_seq (wrl (wv (.bool false) z z z (wl_nil (tn (wp_ret (blk_r (then_r (then_r ?_))))))))
 replace hm := inr_up hm hx543
 refine blk_r (then_r ?_)
 obtain rfl := some_inj hm
 refine post_ret (vs := [.bool false]) results18 (rvs_cons (rv_tmp z) rvs_nil) ?_
 exact ⟨z, hst.keep0⟩
}
 {
 replace hm := bif_f hc561 hm
 refine wp_iff (cvb hc561) ?_
 refine wp_skip (blk_n (tn (wrl ?_)))
 refine wv (.int .i64 z536) z z z (wv (.int .i64 (i64.wrap (z536 + (1:Int)))) z z z (wv (.int .i64 (i64.wrap (z536 + (1:Int)))) z z z (wl_nil (tn ?_))))
 replace hst := hst.pull1.pull1.keep2
 obtain rfl := some_inj hm
 exact ⟨_, Nat.lt_succ_self _, (i64.wrap (z536 + (1:Int))), _, hx543, (fu 2 (Pt b335 0) z (fu 3 (Pt b340 0) z (fu 7 (.int .i64 (i64.wrap (z536 + (1:Int)))) z z))), hst⟩
}
}
 {
 replace hm := bif_f hc545 hm
 refine wp_iff (cvb hc545) ?_
 refine wp_exit (then_x (then_x ?_))
 replace hm := inr_up hm hx543
 refine blk_x (tn (wp_seq (wrl ?_)))
 refine wv (.bool true) z z z (wl_nil (tn (wp_ret ?_)))
 obtain rfl := some_inj hm
 refine post_ret (vs := [.bool true]) results18 (rvs_cons (rv_tmp z) rvs_nil) ?_
 exact ⟨z, hst.keep0⟩
}
}
}
}
}
}
}
}
}
}

theorem ref12_Tape_Next_ref {w0 w : World} {I : HL} {R : SP} {a0 : ref12_Tape} {p0 : Value} {a1 : Int}  (hst : St w0 w I [at_ref12_Tape p0 a0] R) {r : (Int × ref12_Tape)} (hm : ref12_Tape_Next a0 a1 = some r) :
  Calls prog 20 #[p0, I6 a1] w fun e w' => e = .returned (.int .i64 r.1) ∧ St w0 w' I [at_ref12_Tape p0 r.2] R := by {
 unfold ref12_Tape_Next at hm
 refine calls_start (args := [p0, I6 a1]) func20 z ntmps20 (Nat.le_of_ble_eq_true z) ?_
 refine wp_seq (wrl (wv (.int .i64 (0:Int)) z z z (wl_nil (tn (wp_seq (wp_seq ?_))))))
 obtain ⟨b174, v175, ⟨rfl, f177⟩, hst'⟩ := at_ref12_Tape_open hst
 clear hst
 have hst := hst'
 clear hst'
 refine wq_regionS hst Try.mixed (by kernel_rfl) ?_
 refine wq_run (v := Pt b174 0) z z (fun w hst => z) ?_
 refine wq_run (v := Pt b174 0) z z (fun w hst => z) ?_
 refine wq_run (v := Pt b174 1) z z (fun w hst => x_field z underlying45 z sizeOf3 z) ?_
 refine wq_run (v := .int .i64 a0.I) z z (fun w hst => x_load z isAgg3 (hst.bc0 z)) ?_
 refine wq_run (v := Pt b174 0) z z (fun w hst => z) ?_
 refine wq_run (v := Pt b174 0) z z (fun w hst => z) ?_
 refine wq_run (v := Pt b174 0) z z (fun w hst => x_field z underlying45 z sizeOf32 z) ?_
 refine wq_run (v := v175) z z (fun w hst => x_load z isAgg32 (hst.bc0 z)) ?_
 refine wq_run (v := .int .i64 ((a0.L).length : Int)) z z (fun w hst => x_len z underlying32 (ro_sliceV f177)) ?_
 refine wq_run (v := .bool (decide (a0.I ≥ ((a0.L).length : Int)))) z z (fun w hst => z) ?_
 refine wq_nil ?_
 intro w hst
 refine tn ?_
 refine bsplit (decide (a0.I ≥ ((a0.L).length : Int))) (fun hc178 => ?_) (fun hc178 => ?_)
 {
 replace hm := bif_t hc178 hm
 refine wp_ift (cvb hc178) ?_
 refine wp_seq (wrl (wv (.int .i64 (0:Int)) z z z (wl_nil (tn (wp_ret (then_r ?_))))))
 replace hst := at_ref12_Tape_close (pv := Pt b174 0) (x := a0) hst ⟨z, f177⟩
 obtain rfl := some_inj hm
 refine post_ret (vs := [Zi]) results20 (rvs_cons (rv_tmp z) rvs_nil) ?_
 exact ⟨z, hst.keep1⟩
}
 {
 replace hm := bif_f hc178 hm
 refine wp_iff (cvb hc178) ?_
 refine wp_skip (tn (wp_seq (wrl ?_)))
 refine wv (Pt b174 0) z z z (wv (Pt b174 0) z z z (wv (Pt b174 1) z z (x_field z underlying45 z sizeOf3 z) (wv (.int .i64 a0.I) z z (x_load z isAgg3 (hst.bc0 z)) (wv (.int .i64 (i64.wrap (a0.I + (1:Int)))) z z z (wv (Pt b174 0) z z z (wv (Pt b174 1) z z (x_field z underlying45 z sizeOf3 z) ?_))))))
 obtain ⟨w179, hr180, hst⟩ := hst.by_ [v175, I6 (i64.wrap (a0.I + (1:Int)))] 1 (.int .i64 (i64.wrap (a0.I + (1:Int)))) sizeOf3 z (oC z oN) (by kernel_rfl)
 refine wl_unit z z (x_unit hr180) ?_
 refine wl_nil (tn (wp_seq ?_))
 refine wq_regionS hst Try.mixed (by kernel_rfl) ?_
 refine wq_run (v := Pt b174 0) z z (fun w hst => z) ?_
 refine wq_run (v := Pt b174 0) z z (fun w hst => z) ?_
 refine wq_run (v := Pt b174 0) z z (fun w hst => x_field z underlying45 z sizeOf32 z) ?_
 refine wq_run (v := v175) z z (fun w hst => x_load z isAgg32 (hst.bc0 z)) ?_
 refine wq_run (v := Pt b174 0) z z (fun w hst => z) ?_
 refine wq_run (v := Pt b174 0) z z (fun w hst => z) ?_
 refine wq_run (v := Pt b174 1) z z (fun w hst => x_field z underlying45 z sizeOf3 z) ?_
 refine wq_run (v := .int .i64 (i64.wrap (a0.I + (1:Int)))) z z (fun w hst => x_load z isAgg3 (hst.bc0 z)) ?_
 refine wq_run (v := .int .i64 (i64.wrap ((i64.wrap (a0.I + (1:Int))) - (1:Int)))) z z (fun w hst => z) ?_
 obtain ⟨x181, hx182, hm⟩ := bind_some hm
 obtain ⟨h183, h184, hi185⟩ := geto_some hx182
 refine wq_run (v := .pointer (some (eAddr v175 ((i64.wrap ((i64.wrap (a0.I + (1:Int))) - (1:Int))).toNat * 1 + 0)))) z z (fun w hst => x_index z z underlying32 sizeOf5 (ro_sliceV f177) h183 h184) ?_
 refine wq_run (v := .int .u8 x181) z z (fun w hst => x_load z isAgg5 (ro_load f177 hst hi185 (by rintro _ rfl; rfl))) ?_
 refine wq_run (v := .int .i64 (i64.wrap x181)) z z (fun w hst => by kernel_rfl) ?_
 refine wq_run (v := .int .i64 a1) z z (fun w hst => z) ?_
 obtain ⟨hg186, hm⟩ := gd_some hm
 refine wq_run (v := .int .i64 (Int.tmod (i64.wrap x181) a1)) z z (fun w hst => x_rem (not_t hg186) z z) ?_
 refine wq_run (v := .int .i64 (Int.tmod (i64.wrap x181) a1)) z z (fun w hst => z) ?_
 refine wq_nil ?_
 intro w hst
 refine tn (wp_ret ?_)
 replace hst := at_ref12_Tape_close (pv := Pt b174 0) (x := ({ L := a0.L, I := (i64.wrap (a0.I + (1:Int))) } : ref12_Tape)) hst ⟨z, f177⟩
 obtain rfl := some_inj hm
 refine post_ret (vs := [I6 (Int.tmod (i64.wrap x181) a1)]) results20 (rvs_cons (rv_tmp z) rvs_nil) ?_
 exact ⟨z, hst.keep1⟩
}
}

theorem ref12_Tape_Of_ref {w0 w : World} {I : HL} {R : SP} {a0 : ref12_Tape} {p0 : Value}  (hst : St w0 w I [at_ref12_Tape p0 a0] R) {r : (api_ID × ref12_Tape)} (hm : ref12_Tape_Of a0 = some r) :
  Calls prog 21 #[p0] w fun e w' => e = .returned (.agg #[U6 r.1.Session, U6 r.1.Seq]) ∧ St w0 w' I [at_ref12_Tape p0 r.2] R := by {
 unfold ref12_Tape_Of at hm
 refine calls_start (args := [p0]) func21 z ntmps21 (Nat.le_of_ble_eq_true z) ?_
 refine wp_seq (wrl ?_)
 obtain ⟨b172, w173, ew174, eb175, hst⟩ := hst.box [Zu, Zu] 29
 refine wl_run (v := Pt b172 0) (w' := w173) z z (x_al (by kernel_rfl) ew174 eb175) ?_
 refine wl_nil (tn (wp_seq (wrl (wv (p0) z z z ?_))))
 replace hst := hst.pull1
 obtain ⟨t177, ht178, hm⟩ := bind_some hm
 refine wc call20 [p0, I6 (4:Int)] z z z ?_
 refine (ref12_Tape_Next_ref hst.to1 ht178).mono ?_
 rintro _ w179 ⟨rfl, hst⟩
 refine ⟨_, z, ?_⟩
 replace hst := hst.of1
 refine wv (.int .u64 (u64.wrap t177.1)) z z (by kernel_rfl) (wv (p0) z z z ?_)
 obtain ⟨t182, ht183, hm⟩ := bind_some hm
 refine wc call20 [p0, I6 (4:Int)] z z z ?_
 refine (ref12_Tape_Next_ref hst.to1 ht183).mono ?_
 rintro _ w184 ⟨rfl, hst⟩
 refine ⟨_, z, ?_⟩
 replace hst := hst.of1
 refine wv (.int .i64 (i64.wrap ((1:Int) + t182.1))) z z z (wv (.int .u64 (u64.wrap (i64.wrap ((1:Int) + t182.1)))) z z (by kernel_rfl) (wv (.agg #[U6 (u64.wrap t177.1), U6 (u64.wrap (i64.wrap ((1:Int) + t182.1)))]) z z (by kernel_rfl) ?_))
 replace hst := hst.pull1
 obtain ⟨w187, hr188, hst⟩ := hst.bx [U6 (u64.wrap t177.1), U6 (u64.wrap (i64.wrap ((1:Int) + t182.1)))] sizeOf29 z (oC z (oC z oN)) (by kernel_rfl)
 refine wl_unit z z (x_unit hr188) ?_
 refine wl_nil (tn (wp_ret ?_))
 obtain rfl := some_inj hm
 refine post_ret (vs := [.agg #[U6 (u64.wrap t177.1), U6 (u64.wrap (i64.wrap ((1:Int) + t182.1)))]]) results21 (rvs_cons (rv_cell (cs := [U6 (u64.wrap t177.1), U6 (u64.wrap (i64.wrap ((1:Int) + t182.1)))]) z isAgg29 sizeOf29 (hst.bcs0 0 z)) rvs_nil) ?_
 replace hst := hst.pull1
 exact ⟨z, hst.keep1⟩
}

theorem ref12_small_ref {w0 w : World} {I : HL} {R : SP} {a0 : Int}  (hst : St w0 w I [] R) {r : (Nat)} (hm : ref12_small a0 = some r) :
  Calls prog 75 #[U1 a0] w fun e w' => e = .returned (.float .f64 r) ∧ St w0 w' I [] R := by {
 unfold ref12_small at hm
 refine calls_start (args := [U1 a0]) func75 z ntmps75 (Nat.le_of_ble_eq_true z) ?_
 refine wp_seq (wrl (wv (.float .f64 (0:Nat)) z z z (wl_nil (tn (wp_seq (wrl ?_))))))
 obtain ⟨b200, w201, ew202, eb203, hst⟩ := hst.lits (E := tyF64) (xs := [(0:Nat), (4607182418800017408:Nat), (13830554455654793216:Nat), (4612811918334230528:Nat), (9094988921128908188:Nat), (18318360957983683996:Nat), (4602678819172646912:Nat), (4613937818241073152:Nat)]) [[Zf], [F6 (4607182418800017408:Nat)], [F6 (13830554455654793216:Nat)], [F6 (4612811918334230528:Nat)], [F6 (9094988921128908188:Nat)], [F6 (18318360957983683996:Nat)], [F6 (4602678819172646912:Nat)], [F6 (4613937818241073152:Nat)]] 57 8 z (Reps.cons z (Reps.cons z (Reps.cons z (Reps.cons z (Reps.cons z (Reps.cons z (Reps.cons z (Reps.cons z Reps.nil))))))))
 refine wl_run (v := (.slice (some ⟨b200, 0, none⟩) 8 8)) (w' := w201) z z (x_als (by kernel_rfl) ew202 eb203) ?_
 refine wv ((.slice (some ⟨b200, 0, none⟩) 8 8)) z z z (wl_nil (tn (wp_seq (wrl (wv ((.slice (some ⟨b200, 0, none⟩) 8 8)) z z z (wv (.int .u8 a0) z z z (wv (.int .u8 (Int.tmod a0 (8:Int))) z z (x_rem (by decide) z z) ?_)))))))
 obtain ⟨x205, hx206, hm⟩ := bind_some hm
 obtain ⟨h207, h208, hi209⟩ := geto_some hx206
 refine wv (.pointer (some (eAddr (.slice (some ⟨b200, 0, none⟩) 8 8) ((Int.tmod a0 (8:Int)).toNat * 1 + 0)))) z z (x_index z z underlying30 sizeOf57 hst.sv0 h207 h208) (wv (.float .f64 x205) z z (x_load z isAgg57 (hst.ol0 hi209 (by rintro _ rfl; rfl))) (wv (.float .f64 x205) z z z (wl_nil (tn (wp_ret ?_)))))
 obtain rfl := some_inj hm
 refine post_ret (vs := [F6 x205]) results75 (rvs_cons (rv_tmp z) rvs_nil) ?_
 exact ⟨z, hst.keep0⟩
}

theorem ref12_Tape_Float_ref {w0 w : World} {I : HL} {R : SP} {a0 : ref12_Tape} {p0 : Value}  (hst : St w0 w I [at_ref12_Tape p0 a0] R) {r : (Nat × ref12_Tape)} (hm : ref12_Tape_Float a0 = some r) :
  Calls prog 44 #[p0] w fun e w' => e = .returned (.float .f64 r.1) ∧ St w0 w' I [at_ref12_Tape p0 r.2] R := by {
 unfold ref12_Tape_Float at hm
 refine calls_start (args := [p0]) func44 z ntmps44 (Nat.le_of_ble_eq_true z) ?_
 refine wp_seq (wrl (wv (.float .f64 (0:Nat)) z z z (wl_nil (tn (wp_seq (wrl (wv (p0) z z z ?_)))))))
 obtain ⟨t196, ht197, hm⟩ := bind_some hm
 refine wc call20 [p0, I6 (8:Int)] z z z ?_
 refine (ref12_Tape_Next_ref hst.to1 ht197).mono ?_
 rintro _ w198 ⟨rfl, hst⟩
 refine ⟨_, z, ?_⟩
 replace hst := hst.of1
 refine wv (.int .u8 (u8.wrap t196.1)) z z (by kernel_rfl) ?_
 obtain ⟨t201, ht202, hm⟩ := bind_some hm
 refine wc call75 [U1 (u8.wrap t196.1)] z z z ?_
 refine (ref12_small_ref hst.to0 ht202).mono ?_
 rintro _ w203 ⟨rfl, hst⟩
 refine ⟨_, z, ?_⟩
 replace hst := hst.of0
 refine wv (.float .f64 t201) z z z (wl_nil (tn (wp_ret ?_)))
 obtain rfl := some_inj hm
 refine post_ret (vs := [F6 t201]) results44 (rvs_cons (rv_tmp z) rvs_nil) ?_
 exact ⟨z, hst.keep1⟩
}

theorem ref12_Tape_Val_ref {w0 w : World} {I : HL} {R : SP} {a0 : ref12_Tape} {p0 : Value}  (hst : St w0 w I [at_ref12_Tape p0 a0] R) {r : ((List Int) × ref12_Tape)} (hm : ref12_Tape_Val a0 = some r) :
  Calls prog 45 #[p0] w fun e w' => ∃ (q0_0 : Value), e = .returned (q0_0) ∧ St w0 w' I [ownS (tyInt .u8) q0_0 r.1, at_ref12_Tape p0 r.2] R := by {
 unfold ref12_Tape_Val at hm
 refine calls_start (args := [p0]) func45 z ntmps45 (Nat.le_of_ble_eq_true z) ?_
 refine wp_seq (wrl (wv ((.slice none 0 0)) z z z (wl_nil (tn (wp_seq (wrl (wv ((.slice none 0 0)) z z z (wl_nil (tn (wp_seq (wrl (wv (p0) z z z ?_))))))))))))
 obtain ⟨t609, ht610, hm⟩ := bind_some hm
 refine wc call20 [p0, I6 (4:Int)] z z z ?_
 refine (ref12_Tape_Next_ref hst.to1 ht610).mono ?_
 rintro _ w611 ⟨rfl, hst⟩
 refine ⟨_, z, ?_⟩
 replace hst := hst.of1
 refine wv (.int .i64 t609.1) z z z (wl_nil (tn (wp_seq (wp_seq (wrl (wv (.int .i64 (0:Int)) z z z (wl_nil (tn (wp_block ?_)))))))))
 replace hst := hst.own_nil (tyInt .u8)
 obtain ⟨n673, hm⟩ := loopO_some hm
 refine wp_loop_n (fun n a w => ∃ (z667 : ref12_Tape) (z668 : (List Int)) (z671 : Int) (v669 : Value) (σ672 : Nat → Value), loopN (ref12_Tape_Val_l0 t609) n (z667, z668, z671) = some r ∧ a = Fr 21 (upd (upd (upd (upd σ672 0 (p0)) 3 (v669)) 4 (.int .i64 t609.1)) 5 (.int .i64 z671)) ∧ St w0 w I [ownS (tyInt .u8) v669 z668, at_ref12_Tape p0 z667] R) n673 ⟨t609.2, [], (0:Int), Zs, _, hm, (fu 0 p0 z (fu 3 (.slice none 0 0) z (fu 4 (.int .i64 t609.1) z (fu 5 (.int .i64 (0:Int)) z z)))), hst⟩ ?_
 rintro n679 _ w674 ⟨z667, z668, z671, v669, σ672, hm, rfl, hst⟩
 obtain ⟨n676, y677, rfl, hm, hx678⟩ := loopN_some hm
 dsimp only [ref12_Tape_Val_l0] at hm
 refine wp_seq (wp_seq (wrl (wv (.int .i64 z671) z z z (wv (.int .i64 t609.1) z z z (wv (.bool (decide (z671 < t609.1))) z z z (wl_nil (tn ?_)))))))
 refine bsplit (decide (z671 < t609.1)) (fun hc680 => ?_) (fun hc680 => ?_)
 {
 replace hm := bif_t hc680 hm
 refine wp_ift (cvb hc680) ?_
 refine wp_skip (tn (wp_seq (wp_block (wrl ?_))))
 refine wv (v669) z z z (wv (p0) z z z ?_)
 replace hst := hst.pull1
 obtain ⟨t681, ht682, hm⟩ := bind_some hm
 refine wc call20 [p0, I6 (26:Int)] z z z ?_
 refine (ref12_Tape_Next_ref hst.to1 ht682).mono ?_
 rintro _ w683 ⟨rfl, hst⟩
 refine ⟨_, z, ?_⟩
 replace hst := hst.of1
 refine wv (.int .i64 (i64.wrap ((97:Int) + t681.1))) z z z (wv (.int .u8 (u8.wrap (i64.wrap ((97:Int) + t681.1)))) z z (by kernel_rfl) ?_)
 obtain ⟨b686, w687, ew688, eb689, hst⟩ := hst.lits (E := (tyInt .u8)) (xs := [(u8.wrap (i64.wrap ((97:Int) + t681.1)))]) [[U1 (u8.wrap (i64.wrap ((97:Int) + t681.1)))]] 5 1 z (Reps.cons z Reps.nil)
 refine wl_run (v := (.slice (some ⟨b686, 0, none⟩) 1 1)) (w' := w687) z z (x_als (by kernel_rfl) ew688 eb689) ?_
 obtain ⟨hg691, hm⟩ := gd_some hm
 replace hst := hst.pull2
 obtain ⟨v692, w693, hr694, hst⟩ := run_append elem_32 underlying32 hst hst.src1 (room_of hg691 z) 32
 refine wl_run (v := v692) (w' := w693) z z (x_append z z hr694) ?_
 refine wv (v692) z z z (wl_nil (blk_n (tn (wrl (wv (.int .i64 z671) z z z (wv (.int .i64 (i64.wrap (z671 + (1:Int)))) z z z (wv (.int .i64 (i64.wrap (z671 + (1:Int)))) z z z (wl_nil (tn ?_)))))))))
 replace hst := hst.pull2.pull1.keep2
 obtain rfl := some_inj hm
 exact ⟨_, Nat.lt_succ_self _, t681.2, (z668 ++ ([(u8.wrap (i64.wrap ((97:Int) + t681.1)))])), (i64.wrap (z671 + (1:Int))), v692, _, hx678, (fu 0 p0 z (fu 3 v692 z (fu 4 (.int .i64 t609.1) z (fu 5 (.int .i64 (i64.wrap (z671 + (1:Int)))) z z)))), hst⟩
}
 {
 replace hm := bif_f hc680 hm
 refine wp_iff (cvb hc680) ?_
 refine wp_exit (then_x (then_x ?_))
 replace hm := inr_up hm hx678
 refine blk_x (tn (wp_seq (wrl ?_)))
 refine wv (v669) z z z (wv (v669) z z z (wl_nil (tn (wp_ret ?_))))
 obtain rfl := some_inj hm
 refine post_ret (vs := [v669]) results45 (rvs_cons (rv_tmp z) rvs_nil) ?_
 replace hst := hst.pull1.pull1
 exact ⟨v669, z, hst.keep2⟩
}
}

end Go.Proofs.Ytbdhhmnncknhhaa
