/- The Go functions refine their models, part 5. -/
import Derived.Test.YtgnkkopjkgdieaaGreatLaneReadsR4
set_option linter.unusedVariables false
set_option linter.unusedSimpArgs false
set_option maxRecDepth 100000
set_option maxHeartbeats 4000000
namespace Go.Proofs.YtgnkkopjkgdieaaGreat
open Go Go.V
open _root_.Go.Proofs.Tryz IntKind
attribute [local irreducible] wpList Code.wp wpQuiet Calls bodyPost Oper.wp wpS Nx PendOK YieldsIn
theorem ref16_State_Apply_ref {w0 w : World} {I : HL} {R : SP} {a0 : ref16_State} {p0 : Value} {a1 : Int} {a2 : api_Command} {r2_0 : Value} {r2_1 : Value} {r2_2 : Value} {r2_3 : Value} {r2_4 : Value} {r2_5 : Value} {r2_6 : Value} {r2_7 : Value} (f2_0 : Ro tyF64 I r2_0 a2.Hold.Gets) (f2_1 : Ro tyF2 I r2_1 a2.Hold.Scans) (f2_2 : Ro tyF64 I r2_2 a2.Hold.Puts) (f2_3 : Ro (tyInt .u8) I r2_3 a2.Hold.Data) (f2_4 : Ro ty_api_Write I r2_4 a2.Writes) (f2_5 : Ro ty_api_Got I r2_5 a2.R.Gots) (f2_6 : Ro (tySl ty_api_Pair) I r2_6 a2.R.Scans) (f2_7 : Ro ty_api_Part I r2_7 a2.Parts) (hst : St w0 w I [at_ref16_State p0 a0] R) {r : (api_Effect × ref16_State)} (hm : ref16_State_Apply a0 a1 a2 = some r) :
  Calls prog 30 #[p0, U6 a1, .agg #[U1 a2.Kind, U6 a2.ID.Session, U6 a2.ID.Seq, U6 a2.Epoch, U6 a2.Index, I6 a2.E, U6 a2.Hold.ID.Session, U6 a2.Hold.ID.Seq, U6 a2.Hold.Epoch, r2_0, r2_1, r2_2, r2_3, r2_4, I6 a2.R.E, U6 a2.R.Epoch, U6 a2.R.Index, r2_5, r2_6, U6 a2.Shards, r2_7, U6 a2.Rule.ID, I6 a2.Rule.From, I6 a2.Rule.To, F6 a2.Rule.Lo, F6 a2.Rule.Hi, U6 a2.Rule.Authority, I6 a2.Rule.Quota, .bool a2.On]] w fun e w' => ∃ (I' : HL) (q0_0 : Value) (q0_1 : Value), e = .returned (.agg #[U1 r.1.Kind, U6 r.1.ID.Session, U6 r.1.ID.Seq, I6 r.1.R.E, U6 r.1.R.Epoch, U6 r.1.R.Index, q0_0, q0_1]) ∧ I.le I' ∧ St w0 w' I' [ownS ty_api_Got q0_0 r.1.R.Gots, ownS (tySl ty_api_Pair) q0_1 r.1.R.Scans, at_ref16_State p0 r.2] R := by {
 unfold ref16_State_Apply at hm
 refine calls_start (args := [p0, U6 a1, .agg #[U1 a2.Kind, U6 a2.ID.Session, U6 a2.ID.Seq, U6 a2.Epoch, U6 a2.Index, I6 a2.E, U6 a2.Hold.ID.Session, U6 a2.Hold.ID.Seq, U6 a2.Hold.Epoch, r2_0, r2_1, r2_2, r2_3, r2_4, I6 a2.R.E, U6 a2.R.Epoch, U6 a2.R.Index, r2_5, r2_6, U6 a2.Shards, r2_7, U6 a2.Rule.ID, I6 a2.Rule.From, I6 a2.Rule.To, F6 a2.Rule.Lo, F6 a2.Rule.Hi, U6 a2.Rule.Authority, I6 a2.Rule.Quota, .bool a2.On]]) func30 z ntmps30 (Nat.le_of_ble_eq_true z) ?_
 have hI0 := HL.le.refl I
 refine wp_seq (wrl ?_)
 obtain ⟨b693, w694, ew695, eb696, hst⟩ := hst.box [U1 a2.Kind, U6 a2.ID.Session, U6 a2.ID.Seq, U6 a2.Epoch, U6 a2.Index, I6 a2.E, U6 a2.Hold.ID.Session, U6 a2.Hold.ID.Seq, U6 a2.Hold.Epoch, r2_0, r2_1, r2_2, r2_3, r2_4, I6 a2.R.E, U6 a2.R.Epoch, U6 a2.R.Index, r2_5, r2_6, U6 a2.Shards, r2_7, U6 a2.Rule.ID, I6 a2.Rule.From, I6 a2.Rule.To, F6 a2.Rule.Lo, F6 a2.Rule.Hi, U6 a2.Rule.Authority, I6 a2.Rule.Quota, .bool a2.On] 49
 refine wl_run (v := Pt b693 0) (w' := w694) z z (x_al (by kernel_rfl) ew695 eb696) ?_
 obtain ⟨b700, w701, ew702, eb703, hst⟩ := hst.box [Zb, Zu, Zu, Zi, Zu, Zu, Zs, Zs] 35
 refine wl_run (v := Pt b700 0) (w' := w701) z z (x_al (by kernel_rfl) ew702 eb703) ?_
 refine wl_nil (tn (wp_seq (wp_seq (wrl (wv (Pt b693 0) z z (x_field z underlying49 z sizeOf5 z) (wv (.int .u8 a2.Kind) z z (x_load z isAgg5 (hst.bc1 z)) (wl_nil (tn (wp_block (wp_seq (wrl (wv (.bool (a2.Kind == (1:Int))) z z z (wv (.bool (a2.Kind == (1:Int))) z z z (wl_nil (tn ?_)))))))))))))))
 refine bsplit (a2.Kind == (1:Int)) (fun hc705 => ?_) (fun hc705 => ?_)
 {
 replace hm := bif_t hc705 hm
 refine wp_ift (cvb hc705) ?_
 refine wp_seq (wp_seq ?_)
 replace hst := hst.pull2
 obtain ⟨b706, v707, v710, v713, v716, v719, v721, v723, ⟨rfl, f709, f712, f715, f718⟩, hst'⟩ := at_ref16_State_open hst
 clear hst
 have hst := hst'
 clear hst'
 refine wp_region_St hst 12 [0, 1, 2, 3, 4, 5, 6, 7, 8, 9, 10, 11] [0, 1, 0, 4, 12, 28, 63, 127, 255, 511, 1023, 2047] [] z (by kernel_rfl) (by kernel_rfl) Tryz.mixed (by kernel_rfl) ?_
 refine wsr (Pt b693 3) 0 z z z (by kernel_rfl) (fun w hst => x_field z underlying49 z sizeOf26 z) (wsr (.int .u64 a2.Epoch) 1 z z z (by kernel_rfl) (fun w hst => x_load z isAgg26 (hst.bc5 z)) (wsr (Pt b706 0) 2 z z z (by kernel_rfl) (fun w hst => z) (wsr (Pt b706 0) 3 z z z (by kernel_rfl) (fun w hst => z) (wsr (Pt b706 1) 4 z z z (by kernel_rfl) (fun w hst => x_field z underlying130 z sizeOf26 z) (wsr (.int .u64 a0.Epoch) 5 z z z (by kernel_rfl) (fun w hst => x_load z isAgg26 (hst.bc0 z)) (wsr (.bool (a2.Epoch != a0.Epoch)) 6 z z z (by kernel_rfl) (fun w hst => z) (wsr (.bool (a2.Epoch != a0.Epoch)) 7 z z z (by kernel_rfl) (fun w hst => z) ?_)))))))
 refine bsplit (a2.Epoch != a0.Epoch) (fun hc725 => ?_) (fun hc725 => ?_)
 {
 replace hm := bif_t hc725 hm
 refine ws_q (v := undef) 8 [9, 10, 11] (by kernel_rfl) z z (yi_off ((wanted_eq z z z (cvb hc725)).trans z)) (ws_q (v := undef) 9 [10, 11] (by kernel_rfl) z z (yi_off ((wanted_eq z z z (cvb hc725)).trans z)) (ws_q (v := undef) 10 [11] (by kernel_rfl) z z (yi_off ((wanted_eq z z z (cvb hc725)).trans z)) (wsr (.bool true) 11 z z z (by kernel_rfl) (fun w hst => x_pick_t hc725 z z) ?_)))
 refine ws_nil ?_
 intro w hst
 refine tn ?_
 refine wp_ift z ?_
 refine wp_seq (wrl (wv (.agg #[Zb, Zu, Zu, Zi, Zu, Zu, Zs, Zs]) z z (by kernel_rfl) ?_))
 replace hst := hst.pull4
 obtain ⟨w728, hr729, hst⟩ := hst.bx [Zb, Zu, Zu, Zi, Zu, Zu, Zs, Zs] sizeOf35 z (oC z (oC z (oC z (oC z (oC z (oC z (oC z (oC z oN)))))))) (by kernel_rfl)
 refine wl_unit z z (x_unit hr729) ?_
 refine wl_nil (tn (wp_ret (then_r (blk_r (then_r ?_)))))
 replace hst := hst.own_nil ty_api_Got
 replace hst := hst.own_nil (tySl ty_api_Pair)
 replace hst := hst.pull6.pull6.pull6.pull6
 replace hst := at_ref16_State_close (pv := Pt b706 0) (x := a0) hst ⟨z, f709, f712, f715, f718⟩
 obtain rfl := some_inj hm
 refine post_ret (vs := [.agg #[Zb, Zu, Zu, Zi, Zu, Zu, Zs, Zs]]) results30 (rvs_cons (rv_cell (cs := [Zb, Zu, Zu, Zi, Zu, Zu, Zs, Zs]) z isAgg35 sizeOf35 (hst.bcs3 0 z)) rvs_nil) ?_
 replace hst := hst.pull1.pull2
 exact ⟨_, Zs, Zs, z, hI0, hst.keep3⟩
}
 {
 replace hm := bif_f hc725 hm
 refine ws_q (v := Pt b706 0) 8 [9, 10, 11] (by kernel_rfl) z z (yi_run ((wanted_eq z z z (cvb hc725)).trans z) (fun w hst => z)) ?_
 refine ws_e1 9 (by kernel_rfl) ?_
 cases hm
}
}
 {
 replace hm := bif_f hc705 hm
 refine wp_iff (cvb hc705) ?_
 refine wp_seq (wrl (wv (.bool (a2.Kind == (2:Int))) z z z (wv (.bool (a2.Kind == (2:Int))) z z z (wl_nil (tn ?_)))))
 refine bsplit (a2.Kind == (2:Int)) (fun hc730 => ?_) (fun hc730 => ?_)
 {
 replace hm := bif_t hc730 hm
 refine wp_ift (cvb hc730) ?_
 refine wp_seq (wrl (wv (Pt b693 6) z z (x_field z underlying49 z sizeOf46 z) (wv (Pt b693 6) z z (x_field z underlying46 z sizeOf28 z) (wv (.agg #[U6 a2.Hold.ID.Session, U6 a2.Hold.ID.Seq]) z z (x_loadN (cs := [U6 a2.Hold.ID.Session, U6 a2.Hold.ID.Seq]) z isAgg28 sizeOf28 (hst.bcs1 6 z)) (wv (.agg #[U1 (2:Int), U6 a2.Hold.ID.Session, U6 a2.Hold.ID.Seq, Zi, Zu, Zu, Zs, Zs]) z z (by kernel_rfl) ?_)))))
 obtain ⟨b735, w736, ew737, eb738, hst⟩ := hst.box [Zb, Zu, Zu, Zi, Zu, Zu, Zs, Zs] 35
 refine wl_run (v := Pt b735 0) (w' := w736) z z (x_al (by kernel_rfl) ew737 eb738) ?_
 obtain ⟨w740, hr741, hst⟩ := hst.bx [U1 (2:Int), U6 a2.Hold.ID.Session, U6 a2.Hold.ID.Seq, Zi, Zu, Zu, Zs, Zs] sizeOf35 z (oC z (oC z (oC z (oC z (oC z (oC z (oC z (oC z oN)))))))) (by kernel_rfl)
 refine wl_unit z z (x_unit hr741) ?_
 refine wl_nil (tn (wp_seq (wrl (wv (p0) z z z (wv (Pt b693 6) z z (x_field z underlying49 z sizeOf46 z) (wv (.agg #[U6 a2.Hold.ID.Session, U6 a2.Hold.ID.Seq, U6 a2.Hold.Epoch, r2_0, r2_1, r2_2, r2_3]) z z (x_loadN (cs := [U6 a2.Hold.ID.Session, U6 a2.Hold.ID.Seq, U6 a2.Hold.Epoch, r2_0, r2_1, r2_2, r2_3]) z isAgg46 sizeOf46 (hst.bcs2 6 z)) ?_))))))
 replace hst := hst.pull3
 obtain ⟨t742, ht743, hm⟩ := bind_some hm
 refine wc call69 [p0, .agg #[U6 a2.Hold.ID.Session, U6 a2.Hold.ID.Seq, U6 a2.Hold.Epoch, r2_0, r2_1, r2_2, r2_3]] z z z ?_
 refine (ref16_State_Hold_ref f2_0 f2_1 f2_2 f2_3 hst.to1 ht743).mono ?_
 rintro _ w744 ⟨I745, rfl, hI746, hst⟩
 refine ⟨_, z, ?_⟩
 replace hst := hst.of1
 replace f2_0 := f2_0.mono (ro_le hI746)
 replace f2_1 := f2_1.mono (ro_le hI746)
 replace f2_2 := f2_2.mono (ro_le hI746)
 replace f2_3 := f2_3.mono (ro_le hI746)
 replace f2_4 := f2_4.mono (ro_le hI746)
 replace f2_5 := f2_5.mono (ro_le hI746)
 replace f2_6 := f2_6.mono (ro_le hI746)
 replace f2_7 := f2_7.mono (ro_le hI746)
 replace hI0 := hI0.trans hI746
 refine wv (.int .i64 t742.1) z z z (wl_nil (tn ?_))
 obtain ⟨y767, hm, hx768⟩ := bind_some hm
 refine wp_cut (fun a w => ∃ (I764 : HL) (z759 : api_Effect) (v761 : Value) (v763 : Value) (σ765 : Nat → Value), (ref16_State_Apply_j0 t742) z759 = some r ∧ a = Fr 198 (upd (upd (upd σ765 6 (Pt b700 0)) 7 (Pt b735 0)) 8 (.int .i64 t742.1)) ∧ I745.le I764 ∧ St w0 w I764 [cells b700 [Zb, Zu, Zu, Zi, Zu, Zu, Zs, Zs], cells b735 [U1 z759.Kind, U6 z759.ID.Session, U6 z759.ID.Seq, I6 z759.R.E, U6 z759.R.Epoch, U6 z759.R.Index, v761, v763], ownS ty_api_Got v761 z759.R.Gots, ownS (tySl ty_api_Pair) v763 z759.R.Scans, at_ref16_State p0 t742.2] R) ?_ ?_
 {
 have hL769 := HL.le.refl I745
 refine wp_seq (wrl (wv (.int .i64 t742.1) z z z (wv (.bool (t742.1 == (0:Int))) z z z (wl_nil (tn ?_)))))
 refine bsplit (t742.1 == (0:Int)) (fun hc747 => ?_) (fun hc747 => ?_)
 {
 replace hm := bif_t hc747 hm
 refine wp_ift (cvb hc747) ?_
 refine wrl (wv (p0) z z z (wv (Pt b693 6) z z (x_field z underlying49 z sizeOf46 z) (wv (.agg #[U6 a2.Hold.ID.Session, U6 a2.Hold.ID.Seq, U6 a2.Hold.Epoch, r2_0, r2_1, r2_2, r2_3]) z z (x_loadN (cs := [U6 a2.Hold.ID.Session, U6 a2.Hold.ID.Seq, U6 a2.Hold.Epoch, r2_0, r2_1, r2_2, r2_3]) z isAgg46 sizeOf46 (hst.bcs3 6 z)) ?_)))
 obtain ⟨t748, ht749, hm⟩ := bind_some hm
 refine wc call34 [p0, .agg #[U6 a2.Hold.ID.Session, U6 a2.Hold.ID.Seq, U6 a2.Hold.Epoch, r2_0, r2_1, r2_2, r2_3]] z z z ?_
 refine (ref16_State_Told_ref (f2_0.mono ro_rd) (f2_1.mono ro_rd) (f2_2.mono ro_rd) (f2_3.mono ro_rd) hst.to1 ht749).mono ?_
 rintro _ w750 ⟨I751, v753, v755, rfl, hI752, hst⟩
 refine ⟨_, z, ?_⟩
 replace hst := hst.of3
 replace f2_0 := f2_0.mono (ro_le hI752)
 replace f2_1 := f2_1.mono (ro_le hI752)
 replace f2_2 := f2_2.mono (ro_le hI752)
 replace f2_3 := f2_3.mono (ro_le hI752)
 replace f2_4 := f2_4.mono (ro_le hI752)
 replace f2_5 := f2_5.mono (ro_le hI752)
 replace f2_6 := f2_6.mono (ro_le hI752)
 replace f2_7 := f2_7.mono (ro_le hI752)
 replace hI0 := hI0.trans hI752
 replace hL769 := hL769.trans hI752
 refine wv (Pt b735 3) z z (x_field z underlying35 z sizeOf33 z) ?_
 replace hst := hst.pull3
 obtain ⟨w757, hr758, hst⟩ := hst.by_ [U1 (2:Int), U6 a2.Hold.ID.Session, U6 a2.Hold.ID.Seq, I6 t748.E, U6 t748.Epoch, U6 t748.Index, v753, v755] 3 (.agg #[I6 t748.E, U6 t748.Epoch, U6 t748.Index, v753, v755]) sizeOf33 z (oC z (oC z (oC z (oC (one_of_sliceV hst.sv1) (oC (one_of_sliceV hst.sv2) oN))))) (by kernel_rfl)
 refine wl_unit z z (x_unit hr758) ?_
 refine wl_nil (tn ?_)
 replace hst := hst.pull3.pull3.pull3.pull3.pull4.keep5
 obtain rfl := some_inj hm
 exact ⟨_, ({ Kind := (2:Int), ID := a2.Hold.ID, R := t748 } : api_Effect), v753, v755, _, hx768, (fu 6 (Pt b700 0) z (fu 7 (Pt b735 0) z (fu 8 (.int .i64 t742.1) z z))), hL769, hst⟩
}
 {
 replace hm := bif_f hc747 hm
 refine wp_iff (cvb hc747) ?_
 refine wp_skip (tn ?_)
 replace hst := hst.own_nil ty_api_Got
 replace hst := hst.own_nil (tySl ty_api_Pair)
 replace hst := hst.pull2.pull1.pull2.pull3.pull4.keep5
 obtain rfl := some_inj hm
 exact ⟨_, ({ Kind := (2:Int), ID := a2.Hold.ID, R := zero_api_Reply } : api_Effect), Zs, Zs, _, hx768, (fu 6 (Pt b700 0) z (fu 7 (Pt b735 0) z (fu 8 (.int .i64 t742.1) z z))), hL769, hst⟩
}
}
 {
 clear hst
 rintro _ w770 ⟨I764, z759, v761, v763, σ765, hm, rfl, hL766, hst⟩
 dsimp only [ref16_State_Apply_j0] at hm
 replace f2_0 := f2_0.mono (ro_le hL766)
 replace f2_1 := f2_1.mono (ro_le hL766)
 replace f2_2 := f2_2.mono (ro_le hL766)
 replace f2_3 := f2_3.mono (ro_le hL766)
 replace f2_4 := f2_4.mono (ro_le hL766)
 replace f2_5 := f2_5.mono (ro_le hL766)
 replace f2_6 := f2_6.mono (ro_le hL766)
 replace f2_7 := f2_7.mono (ro_le hL766)
 replace hI0 := hI0.trans hL766
 refine wp_seq (wrl (wv (.int .i64 t742.1) z z z (wv (Pt b735 3) z z (x_field z underlying35 z sizeOf33 z) (wv (Pt b735 3) z z (x_field z underlying33 z sizeOf29 z) ?_))))
 replace hst := hst.pull1
 obtain ⟨w771, hr772, hst⟩ := hst.by_ [U1 z759.Kind, U6 z759.ID.Session, U6 z759.ID.Seq, I6 t742.1, U6 z759.R.Epoch, U6 z759.R.Index, v761, v763] 3 (.int .i64 t742.1) sizeOf29 z (oC z oN) (by kernel_rfl)
 refine wl_unit z z (x_unit hr772) ?_
 refine wl_nil (tn (wp_seq (wrl (wv (.agg #[U1 z759.Kind, U6 z759.ID.Session, U6 z759.ID.Seq, I6 t742.1, U6 z759.R.Epoch, U6 z759.R.Index, v761, v763]) z z (x_loadN (cs := [U1 z759.Kind, U6 z759.ID.Session, U6 z759.ID.Seq, I6 t742.1, U6 z759.R.Epoch, U6 z759.R.Index, v761, v763]) z isAgg35 sizeOf35 (hst.bcs0 0 z)) ?_))))
 replace hst := hst.pull1
 obtain ⟨w773, hr774, hst⟩ := hst.bx [U1 z759.Kind, U6 z759.ID.Session, U6 z759.ID.Seq, I6 t742.1, U6 z759.R.Epoch, U6 z759.R.Index, v761, v763] sizeOf35 z (oC z (oC z (oC z (oC z (oC z (oC z (oC (one_of_sliceV hst.sv2) (oC (one_of_sliceV hst.sv3) oN)))))))) (by kernel_rfl)
 refine wl_unit z z (x_unit hr774) ?_
 refine wl_nil (tn (wp_ret (blk_r (then_r ?_))))
 obtain rfl := some_inj hm
 refine post_ret (vs := [.agg #[U1 z759.Kind, U6 z759.ID.Session, U6 z759.ID.Seq, I6 t742.1, U6 z759.R.Epoch, U6 z759.R.Index, v761, v763]]) results30 (rvs_cons (rv_cell (cs := [U1 z759.Kind, U6 z759.ID.Session, U6 z759.ID.Seq, I6 t742.1, U6 z759.R.Epoch, U6 z759.R.Index, v761, v763]) z isAgg35 sizeOf35 (hst.bcs0 0 z)) rvs_nil) ?_
 replace hst := hst.pull4.pull4.pull4
 exact ⟨_, v761, v763, z, hI0, hst.keep3⟩
}
}
 {
 replace hm := bif_f hc730 hm
 refine wp_iff (cvb hc730) ?_
 refine wp_seq (wrl (wv (.bool (a2.Kind == (3:Int))) z z z (wv (.bool (a2.Kind == (3:Int))) z z z (wl_nil (tn ?_)))))
 refine bsplit (a2.Kind == (3:Int)) (fun hc775 => ?_) (fun hc775 => ?_)
 {
 replace hm := bif_t hc775 hm
 refine wp_ift (cvb hc775) ?_
 refine wp_seq ?_
 replace hst := hst.pull2
 obtain ⟨b776, v777, v780, v783, v786, v789, v791, v793, ⟨rfl, f779, f782, f785, f788⟩, hst'⟩ := at_ref16_State_open hst
 clear hst
 have hst := hst'
 clear hst'
 obtain ⟨y853, hm, hx854⟩ := bind_some hm
 refine wp_mid (fun a w => ∃ (I850 : HL) (z849 : Bool) (σ851 : Nat → Value), (ref16_State_Apply_j1 a0 a2) z849 = some r ∧ a = Fr 198 (upd (upd (upd (upd σ851 0 (Pt b776 0)) 5 (Pt b693 0)) 6 (Pt b700 0)) 10 (.bool z849)) ∧ I.le I850 ∧ St w0 w I850 [at_ref16_State (Pt b776 0) a0, cells b693 [U1 a2.Kind, U6 a2.ID.Session, U6 a2.ID.Seq, U6 a2.Epoch, U6 a2.Index, I6 a2.E, U6 a2.Hold.ID.Session, U6 a2.Hold.ID.Seq, U6 a2.Hold.Epoch, r2_0, r2_1, r2_2, r2_3, r2_4, I6 a2.R.E, U6 a2.R.Epoch, U6 a2.R.Index, r2_5, r2_6, U6 a2.Shards, r2_7, U6 a2.Rule.ID, I6 a2.Rule.From, I6 a2.Rule.To, F6 a2.Rule.Lo, F6 a2.Rule.Hi, U6 a2.Rule.Authority, I6 a2.Rule.Quota, .bool a2.On], cells b700 [Zb, Zu, Zu, Zi, Zu, Zu, Zs, Zs]] R) ?_ ?_
 {
 have hL855 := HL.le.refl I
 refine wp_region_St hst 13 [0, 1, 2, 3, 4, 5, 6, 7, 8, 9, 10, 11, 12] [0, 1, 3, 7, 0, 16, 63, 127, 255, 255, 0, 1535, 4095] [] z (by kernel_rfl) (by kernel_rfl) Tryz.mixed (by kernel_rfl) ?_
 refine wsr (Pt b776 0) 0 z z z (by kernel_rfl) (fun w hst => z) (wsr (Pt b776 0) 1 z z z (by kernel_rfl) (fun w hst => z) (wsr (Pt b776 3) 2 z z z (by kernel_rfl) (fun w hst => x_field z underlying130 z sizeOf125 z) (wsr (v780) 3 z z z (by kernel_rfl) (fun w hst => x_load z isAgg125 (hst.bc0 z)) (wsr (Pt b693 1) 4 z z z (by kernel_rfl) (fun w hst => x_field z underlying49 z sizeOf28 z) (wsr (.agg #[U6 a2.ID.Session, U6 a2.ID.Seq]) 5 z z z (by kernel_rfl) (fun w hst => x_loadN (cs := [U6 a2.ID.Session, U6 a2.ID.Seq]) z isAgg28 sizeOf28 (hst.bcs5 1 z)) ?_)))))
 obtain ⟨t795, ht796, hm⟩ := bind_some hm
 refine ws_e2 6 10 (by kernel_rfl) ?_ ?_
 {
 refine nxe [7, 8, 9, 10, 11, 12] (by kernel_rfl) z z ?_
 clear hst
 intro w hst
 refine wec call70 [v780, .agg #[U6 a2.ID.Session, U6 a2.ID.Seq]] z z ?_
 refine (ref11_Held_ref f782 hst.to0 ht796).mono ?_
 rintro _ w797 ⟨I798, v800, v803, v806, v809, rfl, hI799, f802, f805, f808, f811, hst⟩
 refine ⟨_, z, ?_⟩
 replace hst := hst.of0
 replace f2_0 := f2_0.mono (ro_le hI799)
 replace f2_1 := f2_1.mono (ro_le hI799)
 replace f2_2 := f2_2.mono (ro_le hI799)
 replace f2_3 := f2_3.mono (ro_le hI799)
 replace f2_4 := f2_4.mono (ro_le hI799)
 replace f2_5 := f2_5.mono (ro_le hI799)
 replace f2_6 := f2_6.mono (ro_le hI799)
 replace f2_7 := f2_7.mono (ro_le hI799)
 replace f779 := f779.mono (ro_le hI799)
 replace f782 := f782.mono (ro_le hI799)
 replace f785 := f785.mono (ro_le hI799)
 replace f788 := f788.mono (ro_le hI799)
 replace hI0 := hI0.trans hI799
 replace hL855 := hL855.trans hI799
 refine ws_next (pend' := []) hst (by kernel_rfl) pk_nil ?_
 refine wsr (.tuple #[.agg #[U6 t795.1.ID.Session, U6 t795.1.ID.Seq, U6 t795.1.Epoch, v800, v803, v806, v809], .bool t795.2]) 7 z z z (by kernel_rfl) (fun w hst => z) (wsr (.agg #[U6 t795.1.ID.Session, U6 t795.1.ID.Seq, U6 t795.1.Epoch, v800, v803, v806, v809]) 8 z z z (by kernel_rfl) (fun w hst => z) (wsr (.bool t795.2) 9 z z z (by kernel_rfl) (fun w hst => z) ?_))
 refine ws_e1 10 (by kernel_rfl) ?_
 refine nxe [11, 12] (by kernel_rfl) z z ?_
 clear hst
 intro w hst
 obtain ⟨b816, w817, ew818, eb819, hst⟩ := hst.box [Zu, Zu, Zu, Zs, Zs, Zs, Zs] 46
 refine we_run (v := Pt b816 0) (w' := w817) z (x_al (by kernel_rfl) ew818 eb819) ?_
 refine ws_next (pend' := [(9, .bool t795.2), (8, .agg #[U6 t795.1.ID.Session, U6 t795.1.ID.Seq, U6 t795.1.Epoch, v800, v803, v806, v809]), (7, .tuple #[.agg #[U6 t795.1.ID.Session, U6 t795.1.ID.Seq, U6 t795.1.Epoch, v800, v803, v806, v809], .bool t795.2])]) hst (by kernel_rfl) (pkr z z (fun w hst => z) (pkr z z (fun w hst => z) (pkr z z (fun w hst => z) pk_nil))) ?_
 refine ws_e1 11 (by kernel_rfl) ?_
 refine nxe [12] (by kernel_rfl) z z ?_
 clear hst
 intro w hst
 obtain ⟨w821, hr822, hst⟩ := hst.bx [U6 t795.1.ID.Session, U6 t795.1.ID.Seq, U6 t795.1.Epoch, v800, v803, v806, v809] sizeOf46 z (oC z (oC z (oC z (oC (one_of_sliceV (ro_sliceV f802)) (oC (one_of_sliceV (ro_sliceV f805)) (oC (one_of_sliceV (ro_sliceV f808)) (oC (one_of_sliceV (ro_sliceV f811)) oN))))))) (by kernel_rfl)
 refine we_unit z (x_unit hr822) ?_
 refine ws_next (pend' := [(9, .bool t795.2)]) hst (by kernel_rfl) (pkr z z (fun w hst => z) pk_nil) ?_
 refine wsr (.bool t795.2) 12 z z z (by kernel_rfl) (fun w hst => z) ?_
 refine ws_nil ?_
 intro w hst
 refine ⟨z, ?_⟩
 replace hst := hst.pull4.pull4.pull4.pull4
 replace hst := at_ref16_State_close (pv := Pt b776 0) (x := a0) hst ⟨z, f779, f782, f785, f788⟩
 replace hst := hst.pull2.pull3.pull2.keep3
 obtain rfl := some_inj hm
 exact ⟨_, t795.2, _, hx854, (fu 0 (Pt b776 0) z (fu 5 (Pt b693 0) z (fu 6 (Pt b700 0) z (fu 10 (.bool t795.2) z z)))), hL855, hst⟩
}
 {
 refine nxe [6, 7, 8, 9, 11, 12] (by kernel_rfl) z z ?_
 clear hst
 intro w hst
 obtain ⟨b827, w828, ew829, eb830, hst⟩ := hst.box [Zu, Zu, Zu, Zs, Zs, Zs, Zs] 46
 refine we_run (v := Pt b827 0) (w' := w828) z (x_al (by kernel_rfl) ew829 eb830) ?_
 refine ws_next (pend' := [(5, .agg #[U6 a2.ID.Session, U6 a2.ID.Seq]), (4, Pt b693 1), (3, v780), (2, Pt b776 3), (1, Pt b776 0), (0, Pt b776 0)]) hst (by kernel_rfl) (pkr z z (fun w hst => x_loadN (cs := [U6 a2.ID.Session, U6 a2.ID.Seq]) z isAgg28 sizeOf28 (hst.bcs6 1 z)) (pkr z z (fun w hst => x_field z underlying49 z sizeOf28 z) (pkr z z (fun w hst => x_load z isAgg125 (hst.bc1 z)) (pkr z z (fun w hst => x_field z underlying130 z sizeOf125 z) (pkr z z (fun w hst => z) (pkr z z (fun w hst => z) pk_nil)))))) ?_
 refine ws_e1 6 (by kernel_rfl) ?_
 refine nxe [7, 8, 9, 11, 12] (by kernel_rfl) z z ?_
 clear hst
 intro w hst
 refine wec call70 [v780, .agg #[U6 a2.ID.Session, U6 a2.ID.Seq]] z z ?_
 refine (ref11_Held_ref f782 hst.to0 ht796).mono ?_
 rintro _ w832 ⟨I833, v835, v838, v841, v844, rfl, hI834, f837, f840, f843, f846, hst⟩
 refine ⟨_, z, ?_⟩
 replace hst := hst.of0
 replace f2_0 := f2_0.mono (ro_le hI834)
 replace f2_1 := f2_1.mono (ro_le hI834)
 replace f2_2 := f2_2.mono (ro_le hI834)
 replace f2_3 := f2_3.mono (ro_le hI834)
 replace f2_4 := f2_4.mono (ro_le hI834)
 replace f2_5 := f2_5.mono (ro_le hI834)
 replace f2_6 := f2_6.mono (ro_le hI834)
 replace f2_7 := f2_7.mono (ro_le hI834)
 replace f779 := f779.mono (ro_le hI834)
 replace f782 := f782.mono (ro_le hI834)
 replace f785 := f785.mono (ro_le hI834)
 replace f788 := f788.mono (ro_le hI834)
 replace hI0 := hI0.trans hI834
 replace hL855 := hL855.trans hI834
 refine ws_next (pend' := []) hst (by kernel_rfl) pk_nil ?_
 refine wsr (.tuple #[.agg #[U6 t795.1.ID.Session, U6 t795.1.ID.Seq, U6 t795.1.Epoch, v835, v838, v841, v844], .bool t795.2]) 7 z z z (by kernel_rfl) (fun w hst => z) (wsr (.agg #[U6 t795.1.ID.Session, U6 t795.1.ID.Seq, U6 t795.1.Epoch, v835, v838, v841, v844]) 8 z z z (by kernel_rfl) (fun w hst => z) (wsr (.bool t795.2) 9 z z z (by kernel_rfl) (fun w hst => z) ?_))
 refine ws_e1 11 (by kernel_rfl) ?_
 refine nxe [12] (by kernel_rfl) z z ?_
 clear hst
 intro w hst
 obtain ⟨w847, hr848, hst⟩ := hst.bx [U6 t795.1.ID.Session, U6 t795.1.ID.Seq, U6 t795.1.Epoch, v835, v838, v841, v844] sizeOf46 z (oC z (oC z (oC z (oC (one_of_sliceV (ro_sliceV f837)) (oC (one_of_sliceV (ro_sliceV f840)) (oC (one_of_sliceV (ro_sliceV f843)) (oC (one_of_sliceV (ro_sliceV f846)) oN))))))) (by kernel_rfl)
 refine we_unit z (x_unit hr848) ?_
 refine ws_next (pend' := [(9, .bool t795.2)]) hst (by kernel_rfl) (pkr z z (fun w hst => z) pk_nil) ?_
 refine wsr (.bool t795.2) 12 z z z (by kernel_rfl) (fun w hst => z) ?_
 refine ws_nil ?_
 intro w hst
 refine ⟨z, ?_⟩
 replace hst := hst.pull4.pull4.pull4.pull4
 replace hst := at_ref16_State_close (pv := Pt b776 0) (x := a0) hst ⟨z, f779, f782, f785, f788⟩
 replace hst := hst.pull2.pull3.pull2.keep3
 obtain rfl := some_inj hm
 exact ⟨_, t795.2, _, hx854, (fu 0 (Pt b776 0) z (fu 5 (Pt b693 0) z (fu 6 (Pt b700 0) z (fu 10 (.bool t795.2) z z)))), hL855, hst⟩
}
}
 {
 clear hst
 rintro _ w856 ⟨I850, z849, σ851, hm, rfl, hL852, hst⟩
 dsimp only [ref16_State_Apply_j1] at hm
 replace f2_0 := f2_0.mono (ro_le hL852)
 replace f2_1 := f2_1.mono (ro_le hL852)
 replace f2_2 := f2_2.mono (ro_le hL852)
 replace f2_3 := f2_3.mono (ro_le hL852)
 replace f2_4 := f2_4.mono (ro_le hL852)
 replace f2_5 := f2_5.mono (ro_le hL852)
 replace f2_6 := f2_6.mono (ro_le hL852)
 replace f2_7 := f2_7.mono (ro_le hL852)
 replace f779 := f779.mono (ro_le hL852)
 replace f782 := f782.mono (ro_le hL852)
 replace f785 := f785.mono (ro_le hL852)
 replace f788 := f788.mono (ro_le hL852)
 replace hI0 := hI0.trans hL852
 refine tn (wp_seq ?_)
 obtain ⟨b857, v858, v861, v864, v867, v870, v872, v874, ⟨e876, f860, f863, f866, f869⟩, hst'⟩ := at_ref16_State_open hst
 clear hst
 have e876 := ptr_inj e876
 subst e876
 have hst := hst'
 clear hst'
 refine wp_region_St hst 11 [0, 1, 2, 3, 4, 5, 6, 7, 8, 9, 10] [0, 0, 2, 6, 14, 0, 32, 126, 255, 511, 1023] [] z (by kernel_rfl) (by kernel_rfl) Tryz.mixed (by kernel_rfl) ?_
 refine wsr (Pt b776 0) 0 z z z (by kernel_rfl) (fun w hst => z) (wsr (Pt b776 0) 1 z z z (by kernel_rfl) (fun w hst => z) (wsr (Pt b776 0) 2 z z z (by kernel_rfl) (fun w hst => z) (wsr (Pt b776 3) 3 z z z (by kernel_rfl) (fun w hst => x_field z underlying130 z sizeOf125 z) (wsr (v861) 4 z z z (by kernel_rfl) (fun w hst => x_load z isAgg125 (hst.bc0 z)) (wsr (Pt b693 1) 5 z z z (by kernel_rfl) (fun w hst => x_field z underlying49 z sizeOf28 z) (wsr (.agg #[U6 a2.ID.Session, U6 a2.ID.Seq]) 6 z z z (by kernel_rfl) (fun w hst => x_loadN (cs := [U6 a2.ID.Session, U6 a2.ID.Seq]) z isAgg28 sizeOf28 (hst.bcs4 1 z)) ?_))))))
 refine ws_e1 7 (by kernel_rfl) ?_
 refine nxe [8, 9, 10] (by kernel_rfl) z z ?_
 clear hst
 intro w hst
 obtain ⟨t877, ht878, hm⟩ := bind_some hm
 refine wec call71 [v861, .agg #[U6 a2.ID.Session, U6 a2.ID.Seq]] z z ?_
 refine (ref11_Drop_ref f863 hst.to0 ht878).mono ?_
 rintro _ w879 ⟨v882, rfl, hst⟩
 refine ⟨_, z, ?_⟩
 replace hst := hst.of1
 refine ws_next (pend' := [(0, Pt b776 0)]) hst (by kernel_rfl) (pkr z z (fun w hst => z) pk_nil) ?_
 refine wsr (Pt b776 0) 8 z z z (by kernel_rfl) (fun w hst => z) (wsr (Pt b776 3) 9 z z z (by kernel_rfl) (fun w hst => x_field z underlying130 z sizeOf125 z) ?_)
 refine ws_e1 10 (by kernel_rfl) ?_
 refine nxe [] (by kernel_rfl) z z ?_
 clear hst
 intro w hst
 replace hst := hst.pull1
 obtain ⟨w884, hr885, hst⟩ := hst.boxStore1 (P := prog) (t := 125) (cs' := [I6 a0.Wide, U6 a0.Epoch, v858, v882, v864, v867, v870, v872, v874]) 3 v882 (one_of_sliceV hst.sv1) sizeOf125 z z
 refine we_unit z (x_unit hr885) ?_
 refine ws_next (pend' := []) hst (by kernel_rfl) pk_nil ?_
 refine ws_nil ?_
 intro w hst
 refine tn ?_
 obtain ⟨y1071, hm, hx1072⟩ := bind_some hm
 refine wp_cut (fun a w => ∃ (I1068 : HL) (z1067 : ref16_State) (σ1069 : Nat → Value), (ref16_State_Apply_j2 a2) z1067 = some r ∧ a = Fr 198 (upd (upd σ1069 5 (Pt b693 0)) 6 (Pt b700 0)) ∧ I850.le I1068 ∧ St w0 w I1068 [cells b693 [U1 a2.Kind, U6 a2.ID.Session, U6 a2.ID.Seq, U6 a2.Epoch, U6 a2.Index, I6 a2.E, U6 a2.Hold.ID.Session, U6 a2.Hold.ID.Seq, U6 a2.Hold.Epoch, r2_0, r2_1, r2_2, r2_3, r2_4, I6 a2.R.E, U6 a2.R.Epoch, U6 a2.R.Index, r2_5, r2_6, U6 a2.Shards, r2_7, U6 a2.Rule.ID, I6 a2.Rule.From, I6 a2.Rule.To, F6 a2.Rule.Lo, F6 a2.Rule.Hi, U6 a2.Rule.Authority, I6 a2.Rule.Quota, .bool a2.On], cells b700 [Zb, Zu, Zu, Zi, Zu, Zu, Zs, Zs], at_ref16_State (Pt b776 0) z1067] R) ?_ ?_
 {
 have hL1073 := HL.le.refl I850
 refine wp_seq (wrl (wv (.int .i64 (0:Int)) z z z (wl_nil (tn (wp_block ?_)))))
 replace hst := hst.pull1
 obtain ⟨I886, hI887, f888, hst⟩ := hst.own_fix
 replace f2_0 := f2_0.mono (ro_le hI887)
 replace f2_1 := f2_1.mono (ro_le hI887)
 replace f2_2 := f2_2.mono (ro_le hI887)
 replace f2_3 := f2_3.mono (ro_le hI887)
 replace f2_4 := f2_4.mono (ro_le hI887)
 replace f2_5 := f2_5.mono (ro_le hI887)
 replace f2_6 := f2_6.mono (ro_le hI887)
 replace f2_7 := f2_7.mono (ro_le hI887)
 replace f779 := f779.mono (ro_le hI887)
 replace f782 := f782.mono (ro_le hI887)
 replace f785 := f785.mono (ro_le hI887)
 replace f788 := f788.mono (ro_le hI887)
 replace f860 := f860.mono (ro_le hI887)
 replace f863 := f863.mono (ro_le hI887)
 replace f866 := f866.mono (ro_le hI887)
 replace f869 := f869.mono (ro_le hI887)
 replace hI0 := hI0.trans hI887
 replace hL1073 := hL1073.trans hI887
 replace hst := hst.pull3.pull3.pull3.pull3
 replace hst := at_ref16_State_close (pv := Pt b776 0) (x := ({ Wide := a0.Wide, Epoch := a0.Epoch, V := a0.V, H := t877, A := a0.A, B := a0.B, Open := a0.Open, Out := a0.Out, Used := a0.Used } : ref16_State)) hst ⟨z, f860, f888, f866, f869⟩
 obtain ⟨n1005, hm⟩ := loopO_some hm
 refine wp_loop_n (fun n a w => ∃ (I1003 : HL) (z1001 : ref16_State) (z1002 : Int) (σ1004 : Nat → Value), loopN (ref16_State_Apply_l3 z849 a2) n (z1001, z1002) = some y1071 ∧ a = Fr 198 (upd (upd (upd (upd (upd σ1004 0 (Pt b776 0)) 5 (Pt b693 0)) 6 (Pt b700 0)) 10 (.bool z849)) 11 (.int .i64 z1002)) ∧ I886.le I1003 ∧ St w0 w I1003 [at_ref16_State (Pt b776 0) z1001, cells b693 [U1 a2.Kind, U6 a2.ID.Session, U6 a2.ID.Seq, U6 a2.Epoch, U6 a2.Index, I6 a2.E, U6 a2.Hold.ID.Session, U6 a2.Hold.ID.Seq, U6 a2.Hold.Epoch, r2_0, r2_1, r2_2, r2_3, r2_4, I6 a2.R.E, U6 a2.R.Epoch, U6 a2.R.Index, r2_5, r2_6, U6 a2.Shards, r2_7, U6 a2.Rule.ID, I6 a2.Rule.From, I6 a2.Rule.To, F6 a2.Rule.Lo, F6 a2.Rule.Hi, U6 a2.Rule.Authority, I6 a2.Rule.Quota, .bool a2.On], cells b700 [Zb, Zu, Zu, Zi, Zu, Zu, Zs, Zs]] R) n1005 ⟨_, ({ Wide := a0.Wide, Epoch := a0.Epoch, V := a0.V, H := t877, A := a0.A, B := a0.B, Open := a0.Open, Out := a0.Out, Used := a0.Used } : ref16_State), (0:Int), _, hm, (fu 0 (Pt b776 0) z (fu 5 (Pt b693 0) z (fu 6 (Pt b700 0) z (fu 10 (.bool z849) z (fu 11 (.int .i64 (0:Int)) z z))))), (HL.le.refl _), hst⟩ ?_
 rintro n1011 _ w1006 ⟨I1003, z1001, z1002, σ1004, hm, rfl, hL1007, hst⟩
 obtain ⟨n1008, y1009, rfl, hm, hx1010⟩ := loopN_some hm
 dsimp only [ref16_State_Apply_l3] at hm
 replace f2_0 := f2_0.mono (ro_le hL1007)
 replace f2_1 := f2_1.mono (ro_le hL1007)
 replace f2_2 := f2_2.mono (ro_le hL1007)
 replace f2_3 := f2_3.mono (ro_le hL1007)
 replace f2_4 := f2_4.mono (ro_le hL1007)
 replace f2_5 := f2_5.mono (ro_le hL1007)
 replace f2_6 := f2_6.mono (ro_le hL1007)
 replace f2_7 := f2_7.mono (ro_le hL1007)
 replace f779 := f779.mono (ro_le hL1007)
 replace f782 := f782.mono (ro_le hL1007)
 replace f785 := f785.mono (ro_le hL1007)
 replace f788 := f788.mono (ro_le hL1007)
 replace f860 := f860.mono (ro_le hL1007)
 replace f863 := f863.mono (ro_le hL1007)
 replace f866 := f866.mono (ro_le hL1007)
 replace f869 := f869.mono (ro_le hL1007)
 replace f888 := f888.mono (ro_le hL1007)
 replace hI0 := hI0.trans hL1007
 replace hL1073 := hL1073.trans hL1007
 refine wp_seq (wp_seq (wrl (wv (.bool z849) z z z (wv (.bool z849) z z z ?_))))
 refine bsplit z849 (fun hc1012 => ?_) (fun hc1012 => ?_)
 {
 replace hm := bif_t hc1012 hm
 refine wv (Pt b693 5) ((wanted_eq z z z (cvb hc1012)).trans z) z (x_field z underlying49 z sizeOf29 z) (wv (.int .i64 a2.E) ((wanted_eq z z z (cvb hc1012)).trans z) z (x_load z isAgg29 (hst.bc1 z)) (wv (.bool (a2.E == (0:Int))) ((wanted_eq z z z (cvb hc1012)).trans z) z z (wv (.bool (a2.E == (0:Int))) z z (x_pick_t hc1012 z z) (wv (.bool (a2.E == (0:Int))) z z z ?_))))
 refine bsplit (a2.E == (0:Int)) (fun hc1013 => ?_) (fun hc1013 => ?_)
 {
 replace hm := bif_t hc1013 hm
 refine wv (.int .i64 z1002) ((wanted_eq z z z (cvb hc1013)).trans z) z z (wv (Pt b693 13) ((wanted_eq z z z (cvb hc1013)).trans z) z (x_field z underlying49 z sizeOf42 z) (wv (r2_4) ((wanted_eq z z z (cvb hc1013)).trans z) z (x_load z isAgg42 (hst.bc1 z)) (wv (.int .i64 ((a2.Writes).length : Int)) ((wanted_eq z z z (cvb hc1013)).trans z) z (x_len z underlying42 (ro_sliceV f2_4)) (wv (.bool (decide (z1002 < ((a2.Writes).length : Int)))) ((wanted_eq z z z (cvb hc1013)).trans z) z z (wv (.bool (decide (z1002 < ((a2.Writes).length : Int)))) z z (x_pick_t hc1013 z z) (wl_nil (tn ?_)))))))
 refine bsplit (decide (z1002 < ((a2.Writes).length : Int))) (fun hc1014 => ?_) (fun hc1014 => ?_)
 {
 replace hm := bif_t hc1014 hm
 refine wp_ift (cvb hc1014) ?_
 refine wp_skip (tn (wp_seq (wp_block (wp_seq (wrl ?_)))))
 refine wv (Pt b693 13) z z (x_field z underlying49 z sizeOf42 z) (wv (r2_4) z z (x_load z isAgg42 (hst.bc1 z)) (wv (.int .i64 z1002) z z z ?_))
 obtain ⟨x1015, hx1016, hm⟩ := bind_some hm
 obtain ⟨h1017, h1018, hi1019⟩ := geto_some hx1016
 refine wv (.pointer (some (eAddr r2_4 (z1002.toNat * 3 + 0)))) z z (x_index z z underlying42 sizeOf41 (ro_sliceV f2_4) h1017 h1018) ?_
 obtain ⟨cs1020, hr1021, hc1022⟩ := Ro.getF f2_4 hi1019
 obtain ⟨v1023, rfl, f1024, -⟩ := hr1021
 refine wv (.agg #[F6 x1015.At, .bool x1015.Del, v1023]) z z (x_loadN (cs := [F6 x1015.At, .bool x1015.Del, v1023]) z isAgg41 sizeOf41 (eCells (o := 0) (hc1022 (HL.le.refl _) hst) z)) ?_
 obtain ⟨b1027, w1028, ew1029, eb1030, hst⟩ := hst.box [Zf, .bool false, Zs] 41
 refine wl_run (v := Pt b1027 0) (w' := w1028) z z (x_al (by kernel_rfl) ew1029 eb1030) ?_
 obtain ⟨w1032, hr1033, hst⟩ := hst.bx [F6 x1015.At, .bool x1015.Del, v1023] sizeOf41 z (oC z (oC z (oC (one_of_sliceV (ro_sliceV f1024)) oN))) (by kernel_rfl)
 refine wl_unit z z (x_unit hr1033) ?_
 refine wl_nil (tn ?_)
 replace hst := hst.pull1
 obtain ⟨b1034, v1035, v1038, v1041, v1044, v1047, v1049, v1051, ⟨e1053, f1037, f1040, f1043, f1046⟩, hst'⟩ := at_ref16_State_open hst
 clear hst
 have e1053 := ptr_inj e1053
 subst e1053
 have hst := hst'
 clear hst'
 refine wp_region_St hst 20 [0, 1, 2, 3, 4, 5, 6, 7, 8, 9, 10, 11, 12, 13, 14, 15, 16, 17, 18, 19] [0, 0, 2, 6, 14, 0, 32, 0, 128, 0, 512, 0, 2048, 0, 8192, 32736, 65534, 131071, 262143, 524287] [] z (by kernel_rfl) (by kernel_rfl) Tryz.mixed (by kernel_rfl) ?_
 refine wsr (Pt b776 0) 0 z z z (by kernel_rfl) (fun w hst => z) (wsr (Pt b776 0) 1 z z z (by kernel_rfl) (fun w hst => z) (wsr (Pt b776 0) 2 z z z (by kernel_rfl) (fun w hst => z) (wsr (Pt b776 2) 3 z z z (by kernel_rfl) (fun w hst => x_field z underlying130 z sizeOf124 z) (wsr (v1035) 4 z z z (by kernel_rfl) (fun w hst => x_load z isAgg124 (hst.bc0 z)) (wsr (Pt b1027 0) 5 z z z (by kernel_rfl) (fun w hst => x_field z underlying41 z sizeOf37 z) (wsr (.float .f64 x1015.At) 6 z z z (by kernel_rfl) (fun w hst => x_load z isAgg37 (hst.bc4 z)) (wsr (Pt b693 3) 7 z z z (by kernel_rfl) (fun w hst => x_field z underlying49 z sizeOf26 z) (wsr (.int .u64 a2.Epoch) 8 z z z (by kernel_rfl) (fun w hst => x_load z isAgg26 (hst.bc5 z)) (wsr (Pt b693 4) 9 z z z (by kernel_rfl) (fun w hst => x_field z underlying49 z sizeOf26 z) (wsr (.int .u64 a2.Index) 10 z z z (by kernel_rfl) (fun w hst => x_load z isAgg26 (hst.bc5 z)) (wsr (Pt b1027 1) 11 z z z (by kernel_rfl) (fun w hst => x_field z underlying41 z sizeOf4 z) (wsr (.bool x1015.Del) 12 z z z (by kernel_rfl) (fun w hst => x_load z isAgg4 (hst.bc4 z)) ?_))))))))))))
 refine wsr (Pt b1027 2) 13 rfl rfl rfl (by kernel_rfl) (fun w hst => x_field rfl underlying41 rfl sizeOf22 rfl) (wsr (v1023) 14 rfl rfl rfl (by kernel_rfl) (fun w hst => x_load rfl isAgg22 (hst.bc4 rfl)) (wsr (.agg #[F6 x1015.At, U6 a2.Epoch, U6 a2.Index, .bool x1015.Del, v1023]) 15 rfl rfl rfl (by kernel_rfl) (fun w hst => by obtain ⟨_, _, hv_, _⟩ := (ro_sliceV f1024); rw [hv_]; kernel_rfl) ?_))
 refine ws_e1 16 (by kernel_rfl) ?_
 refine nxe [17, 18, 19] (by kernel_rfl) z z ?_
 clear hst
 intro w hst
 obtain ⟨t1055, ht1056, hm⟩ := bind_some hm
 refine wec call72 [v1035, .agg #[F6 x1015.At, U6 a2.Epoch, U6 a2.Index, .bool x1015.Del, v1023]] z z ?_
 refine (ref11_Put_ref (a1 := ({ At := x1015.At, Epoch := a2.Epoch, Index := a2.Index, Del := x1015.Del, Val := x1015.Val } : ref11_Version)) f1037 f1024 hst.to0 ht1056).mono ?_
 rintro _ w1057 ⟨v1060, rfl, hst⟩
 refine ⟨_, z, ?_⟩
 replace hst := hst.of1
 refine ws_next (pend' := [(0, Pt b776 0)]) hst (by kernel_rfl) (pkr z z (fun w hst => z) pk_nil) ?_
 refine wsr (Pt b776 0) 17 z z z (by kernel_rfl) (fun w hst => z) (wsr (Pt b776 2) 18 z z z (by kernel_rfl) (fun w hst => x_field z underlying130 z sizeOf124 z) ?_)
 refine ws_e1 19 (by kernel_rfl) ?_
 refine nxe [] (by kernel_rfl) z z ?_
 clear hst
 intro w hst
 replace hst := hst.pull1
 obtain ⟨w1062, hr1063, hst⟩ := hst.boxStore1 (P := prog) (t := 124) (cs' := [I6 z1001.Wide, U6 z1001.Epoch, v1060, v1038, v1041, v1044, v1047, v1049, v1051]) 2 v1060 (one_of_sliceV hst.sv1) sizeOf124 z z
 refine we_unit z (x_unit hr1063) ?_
 refine ws_next (pend' := []) hst (by kernel_rfl) pk_nil ?_
 refine ws_nil ?_
 intro w hst
 refine blk_n (tn (wrl ?_))
 refine wv (.int .i64 z1002) z z z (wv (.int .i64 (i64.wrap (z1002 + (1:Int)))) z z z (wv (.int .i64 (i64.wrap (z1002 + (1:Int)))) z z z (wl_nil (tn ?_))))
 replace hst := hst.pull1
 obtain ⟨I1064, hI1065, f1066, hst⟩ := hst.own_fix
 replace f2_0 := f2_0.mono (ro_le hI1065)
 replace f2_1 := f2_1.mono (ro_le hI1065)
 replace f2_2 := f2_2.mono (ro_le hI1065)
 replace f2_3 := f2_3.mono (ro_le hI1065)
 replace f2_4 := f2_4.mono (ro_le hI1065)
 replace f2_5 := f2_5.mono (ro_le hI1065)
 replace f2_6 := f2_6.mono (ro_le hI1065)
 replace f2_7 := f2_7.mono (ro_le hI1065)
 replace f779 := f779.mono (ro_le hI1065)
 replace f782 := f782.mono (ro_le hI1065)
 replace f785 := f785.mono (ro_le hI1065)
 replace f788 := f788.mono (ro_le hI1065)
 replace f860 := f860.mono (ro_le hI1065)
 replace f863 := f863.mono (ro_le hI1065)
 replace f866 := f866.mono (ro_le hI1065)
 replace f869 := f869.mono (ro_le hI1065)
 replace f888 := f888.mono (ro_le hI1065)
 replace f1024 := f1024.mono (ro_le hI1065)
 replace f1037 := f1037.mono (ro_le hI1065)
 replace f1040 := f1040.mono (ro_le hI1065)
 replace f1043 := f1043.mono (ro_le hI1065)
 replace f1046 := f1046.mono (ro_le hI1065)
 replace hI0 := hI0.trans hI1065
 replace hL1073 := hL1073.trans hI1065
 replace hL1007 := hL1007.trans hI1065
 replace hst := hst.pull3.pull3.pull3.pull3
 replace hst := at_ref16_State_close (pv := Pt b776 0) (x := ({ Wide := z1001.Wide, Epoch := z1001.Epoch, V := t1055, H := z1001.H, A := z1001.A, B := z1001.B, Open := z1001.Open, Out := z1001.Out, Used := z1001.Used } : ref16_State)) hst ⟨z, f1066, f1040, f1043, f1046⟩
 replace hst := hst.pull3.pull3.pull2.keep3
 obtain rfl := some_inj hm
 exact ⟨_, Nat.lt_succ_self _, _, ({ Wide := z1001.Wide, Epoch := z1001.Epoch, V := t1055, H := z1001.H, A := z1001.A, B := z1001.B, Open := z1001.Open, Out := z1001.Out, Used := z1001.Used } : ref16_State), (i64.wrap (z1002 + (1:Int))), _, hx1010, (fu 0 (Pt b776 0) z (fu 5 (Pt b693 0) z (fu 6 (Pt b700 0) z (fu 10 (.bool z849) z (fu 11 (.int .i64 (i64.wrap (z1002 + (1:Int)))) z z))))), hL1007, hst⟩
}
 {
 replace hm := bif_f hc1014 hm
 refine wp_iff (cvb hc1014) ?_
 refine wp_exit (then_x (then_x ?_))
 replace hm := inr_up hm hx1010
 refine blk_x (tn ?_)
 replace hst := hst.pull2.pull2.keep3
 obtain rfl := some_inj hm
 exact ⟨_, z1001, _, hx1072, (fu 5 (Pt b693 0) z (fu 6 (Pt b700 0) z z)), hL1073, hst⟩
}
}
 {
 replace hm := bif_f hc1013 hm
 refine wo hc1013 z z z z z z (wo hc1013 z z z z z z (wo hc1013 z z z z z z (wo hc1013 z z z z z z (wo hc1013 z z z z z z (wv (.bool false) z z (x_pick_f hc1013 z z) (wl_nil (tn ?_)))))))
 refine wp_iff z ?_
 refine wp_exit (then_x (then_x ?_))
 replace hm := inr_up hm hx1010
 refine blk_x (tn ?_)
 replace hst := hst.pull2.pull2.keep3
 obtain rfl := some_inj hm
 exact ⟨_, z1001, _, hx1072, (fu 5 (Pt b693 0) z (fu 6 (Pt b700 0) z z)), hL1073, hst⟩
}
}
 {
 replace hm := bif_f hc1012 hm
 refine wo hc1012 z z z z z z (wo hc1012 z z z z z z (wo hc1012 z z z z z z (wv (.bool false) z z (x_pick_f hc1012 z z) (wv (.bool false) z z z (wz z z z z z z (wz z z z z z z (wz z z z z z z (wz z z z z z z (wz z z z z z z (wv (.bool false) z z (x_pick_f z z z) (wl_nil (tn ?_))))))))))))
 refine wp_iff z ?_
 refine wp_exit (then_x (then_x ?_))
 replace hm := inr_up hm hx1010
 refine blk_x (tn ?_)
 replace hst := hst.pull2.pull2.keep3
 obtain rfl := some_inj hm
 exact ⟨_, z1001, _, hx1072, (fu 5 (Pt b693 0) z (fu 6 (Pt b700 0) z z)), hL1073, hst⟩
}
}
 {
 clear hst
 rintro _ w1074 ⟨I1068, z1067, σ1069, hm, rfl, hL1070, hst⟩
 dsimp only [ref16_State_Apply_j2] at hm
 replace f2_0 := f2_0.mono (ro_le hL1070)
 replace f2_1 := f2_1.mono (ro_le hL1070)
 replace f2_2 := f2_2.mono (ro_le hL1070)
 replace f2_3 := f2_3.mono (ro_le hL1070)
 replace f2_4 := f2_4.mono (ro_le hL1070)
 replace f2_5 := f2_5.mono (ro_le hL1070)
 replace f2_6 := f2_6.mono (ro_le hL1070)
 replace f2_7 := f2_7.mono (ro_le hL1070)
 replace f779 := f779.mono (ro_le hL1070)
 replace f782 := f782.mono (ro_le hL1070)
 replace f785 := f785.mono (ro_le hL1070)
 replace f788 := f788.mono (ro_le hL1070)
 replace f860 := f860.mono (ro_le hL1070)
 replace f863 := f863.mono (ro_le hL1070)
 replace f866 := f866.mono (ro_le hL1070)
 replace f869 := f869.mono (ro_le hL1070)
 replace hI0 := hI0.trans hL1070
 refine wp_seq (wrl (wv (Pt b693 1) z z (x_field z underlying49 z sizeOf28 z) (wv (.agg #[U6 a2.ID.Session, U6 a2.ID.Seq]) z z (x_loadN (cs := [U6 a2.ID.Session, U6 a2.ID.Seq]) z isAgg28 sizeOf28 (hst.bcs0 1 z)) (wv (.agg #[U1 (3:Int), U6 a2.ID.Session, U6 a2.ID.Seq, Zi, Zu, Zu, Zs, Zs]) z z (by kernel_rfl) ?_))))
 replace hst := hst.pull1
 obtain ⟨w1077, hr1078, hst⟩ := hst.bx [U1 (3:Int), U6 a2.ID.Session, U6 a2.ID.Seq, Zi, Zu, Zu, Zs, Zs] sizeOf35 z (oC z (oC z (oC z (oC z (oC z (oC z (oC z (oC z oN)))))))) (by kernel_rfl)
 refine wl_unit z z (x_unit hr1078) ?_
 refine wl_nil (tn (wp_ret (blk_r (then_r ?_))))
 replace hst := hst.own_nil ty_api_Got
 replace hst := hst.own_nil (tySl ty_api_Pair)
 obtain rfl := some_inj hm
 refine post_ret (vs := [.agg #[U1 (3:Int), U6 a2.ID.Session, U6 a2.ID.Seq, Zi, Zu, Zu, Zs, Zs]]) results30 (rvs_cons (rv_cell (cs := [U1 (3:Int), U6 a2.ID.Session, U6 a2.ID.Seq, Zi, Zu, Zu, Zs, Zs]) z isAgg35 sizeOf35 (hst.bcs2 0 z)) rvs_nil) ?_
 replace hst := hst.pull4.pull1.pull2
 exact ⟨_, Zs, Zs, z, hI0, hst.keep3⟩
}
}
}
 {
 replace hm := bif_f hc775 hm
 refine wp_iff (cvb hc775) ?_
 refine wp_seq (wrl (wv (.bool (a2.Kind == (4:Int))) z z z (wv (.bool (a2.Kind == (4:Int))) z z z (wl_nil (tn ?_)))))
 refine bsplit (a2.Kind == (4:Int)) (fun hc1079 => ?_) (fun hc1079 => ?_)
 {
 replace hm := bif_t hc1079 hm
 refine wp_ift (cvb hc1079) ?_
 refine wp_seq (wrl (wv (p0) z z z (wv (.int .u64 a1) z z z (wv (.agg #[U1 a2.Kind, U6 a2.ID.Session, U6 a2.ID.Seq, U6 a2.Epoch, U6 a2.Index, I6 a2.E, U6 a2.Hold.ID.Session, U6 a2.Hold.ID.Seq, U6 a2.Hold.Epoch, r2_0, r2_1, r2_2, r2_3, r2_4, I6 a2.R.E, U6 a2.R.Epoch, U6 a2.R.Index, r2_5, r2_6, U6 a2.Shards, r2_7, U6 a2.Rule.ID, I6 a2.Rule.From, I6 a2.Rule.To, F6 a2.Rule.Lo, F6 a2.Rule.Hi, U6 a2.Rule.Authority, I6 a2.Rule.Quota, .bool a2.On]) z z (x_loadN (cs := [U1 a2.Kind, U6 a2.ID.Session, U6 a2.ID.Seq, U6 a2.Epoch, U6 a2.Index, I6 a2.E, U6 a2.Hold.ID.Session, U6 a2.Hold.ID.Seq, U6 a2.Hold.Epoch, r2_0, r2_1, r2_2, r2_3, r2_4, I6 a2.R.E, U6 a2.R.Epoch, U6 a2.R.Index, r2_5, r2_6, U6 a2.Shards, r2_7, U6 a2.Rule.ID, I6 a2.Rule.From, I6 a2.Rule.To, F6 a2.Rule.Lo, F6 a2.Rule.Hi, U6 a2.Rule.Authority, I6 a2.Rule.Quota, .bool a2.On]) z isAgg49 sizeOf49 (hst.bcs1 0 z)) ?_))))
 cases hm
}
 {
 replace hm := bif_f hc1079 hm
 refine wp_iff (cvb hc1079) ?_
 refine wp_seq (wrl (wv (.bool (a2.Kind == (5:Int))) z z z (wv (.bool (a2.Kind == (5:Int))) z z z (wl_nil (tn ?_)))))
 refine bsplit (a2.Kind == (5:Int)) (fun hc1080 => ?_) (fun hc1080 => ?_)
 {
 replace hm := bif_t hc1080 hm
 refine wp_ift (cvb hc1080) ?_
 refine wrl (wv (p0) z z z (wv (Pt b693 1) z z (x_field z underlying49 z sizeOf28 z) (wv (.agg #[U6 a2.ID.Session, U6 a2.ID.Seq]) z z (x_loadN (cs := [U6 a2.ID.Session, U6 a2.ID.Seq]) z isAgg28 sizeOf28 (hst.bcs1 1 z)) ?_)))
 cases hm
}
 {
 replace hm := bif_f hc1080 hm
 refine wp_iff (cvb hc1080) ?_
 refine wp_seq (wrl (wv (.bool (a2.Kind == (6:Int))) z z z (wv (.bool (a2.Kind == (6:Int))) z z z (wl_nil (tn ?_)))))
 refine bsplit (a2.Kind == (6:Int)) (fun hc1081 => ?_) (fun hc1081 => ?_)
 {
 replace hm := bif_t hc1081 hm
 refine wp_ift (cvb hc1081) ?_
 refine wp_seq ?_
 replace hst := hst.pull2
 obtain ⟨b1082, v1083, v1086, v1089, v1092, v1095, v1097, v1099, ⟨rfl, f1085, f1088, f1091, f1094⟩, hst'⟩ := at_ref16_State_open hst
 clear hst
 have hst := hst'
 clear hst'
 refine wp_region_St hst 19 [0, 1, 2, 3, 4, 5, 6, 7, 8, 9, 10, 11, 12, 13, 14, 15, 16, 17, 18] [0, 0, 2, 6, 14, 0, 32, 96, 0, 256, 768, 1792, 4094, 8190, 16382, 16382, 32767, 98303, 229375] [] z (by kernel_rfl) (by kernel_rfl) Tryz.mixed (by kernel_rfl) ?_
 refine wsr (Pt b1082 0) 0 z z z (by kernel_rfl) (fun w hst => z) (wsr (Pt b1082 0) 1 z z z (by kernel_rfl) (fun w hst => z) (wsr (Pt b1082 0) 2 z z z (by kernel_rfl) (fun w hst => z) (wsr (Pt b1082 5) 3 z z z (by kernel_rfl) (fun w hst => x_field z underlying130 z sizeOf127 z) (wsr (v1092) 4 z z z (by kernel_rfl) (fun w hst => x_load z isAgg127 (hst.bc0 z)) (wsr (Pt b693 21) 5 z z z (by kernel_rfl) (fun w hst => x_field z underlying49 z sizeOf39 z) (wsr (Pt b693 21) 6 z z z (by kernel_rfl) (fun w hst => x_field z underlying39 z sizeOf26 z) (wsr (.int .u64 a2.Rule.ID) 7 z z z (by kernel_rfl) (fun w hst => x_load z isAgg26 (hst.bc5 z)) (wsr (Pt b1082 0) 8 z z z (by kernel_rfl) (fun w hst => z) (wsr (Pt b1082 0) 9 z z z (by kernel_rfl) (fun w hst => z) (wsr (Pt b1082 1) 10 z z z (by kernel_rfl) (fun w hst => x_field z underlying130 z sizeOf26 z) (wsr (.int .u64 a0.Epoch) 11 z z z (by kernel_rfl) (fun w hst => x_load z isAgg26 (hst.bc0 z)) ?_)))))))))))
 refine ws_e1 12 (by kernel_rfl) ?_
 cases hm
}
 {
 replace hm := bif_f hc1081 hm
 refine wp_iff (cvb hc1081) ?_
 refine wp_seq (wrl (wv (.bool (a2.Kind == (7:Int))) z z z (wv (.bool (a2.Kind == (7:Int))) z z z (wl_nil (tn ?_)))))
 refine bsplit (a2.Kind == (7:Int)) (fun hc1101 => ?_) (fun hc1101 => ?_)
 {
 replace hm := bif_t hc1101 hm
 refine wp_ift (cvb hc1101) ?_
 refine wp_seq (wrl (wv (p0) z z z (wv (.int .u64 a1) z z z (wv (.agg #[U1 a2.Kind, U6 a2.ID.Session, U6 a2.ID.Seq, U6 a2.Epoch, U6 a2.Index, I6 a2.E, U6 a2.Hold.ID.Session, U6 a2.Hold.ID.Seq, U6 a2.Hold.Epoch, r2_0, r2_1, r2_2, r2_3, r2_4, I6 a2.R.E, U6 a2.R.Epoch, U6 a2.R.Index, r2_5, r2_6, U6 a2.Shards, r2_7, U6 a2.Rule.ID, I6 a2.Rule.From, I6 a2.Rule.To, F6 a2.Rule.Lo, F6 a2.Rule.Hi, U6 a2.Rule.Authority, I6 a2.Rule.Quota, .bool a2.On]) z z (x_loadN (cs := [U1 a2.Kind, U6 a2.ID.Session, U6 a2.ID.Seq, U6 a2.Epoch, U6 a2.Index, I6 a2.E, U6 a2.Hold.ID.Session, U6 a2.Hold.ID.Seq, U6 a2.Hold.Epoch, r2_0, r2_1, r2_2, r2_3, r2_4, I6 a2.R.E, U6 a2.R.Epoch, U6 a2.R.Index, r2_5, r2_6, U6 a2.Shards, r2_7, U6 a2.Rule.ID, I6 a2.Rule.From, I6 a2.Rule.To, F6 a2.Rule.Lo, F6 a2.Rule.Hi, U6 a2.Rule.Authority, I6 a2.Rule.Quota, .bool a2.On]) z isAgg49 sizeOf49 (hst.bcs1 0 z)) ?_))))
 cases hm
}
 {
 replace hm := bif_f hc1101 hm
 refine wp_iff (cvb hc1101) ?_
 refine wp_skip (blk_n (tn (wp_seq (wrl ?_))))
 refine wv (.agg #[Zb, Zu, Zu, Zi, Zu, Zu, Zs, Zs]) z z (by kernel_rfl) ?_
 obtain ⟨w1104, hr1105, hst⟩ := hst.bx [Zb, Zu, Zu, Zi, Zu, Zu, Zs, Zs] sizeOf35 z (oC z (oC z (oC z (oC z (oC z (oC z (oC z (oC z oN)))))))) (by kernel_rfl)
 refine wl_unit z z (x_unit hr1105) ?_
 refine wl_nil (tn (wp_ret ?_))
 replace hst := hst.own_nil ty_api_Got
 replace hst := hst.own_nil (tySl ty_api_Pair)
 obtain rfl := some_inj hm
 refine post_ret (vs := [.agg #[Zb, Zu, Zu, Zi, Zu, Zu, Zs, Zs]]) results30 (rvs_cons (rv_cell (cs := [Zb, Zu, Zu, Zi, Zu, Zu, Zs, Zs]) z isAgg35 sizeOf35 (hst.bcs2 0 z)) rvs_nil) ?_
 replace hst := hst.pull4.pull1.pull2
 exact ⟨_, Zs, Zs, z, hI0, hst.keep3⟩
}
}
}
}
}
}
}
}

theorem lane_State_then_ref {w0 w : World} {I : HL} {R : SP} {a0 : (Option lane_State)} {p0 : Value} {a1 : Int}  (hst : St w0 w I [objO at_lane_State p0 a0] R) {r : (Int)} (hm : lane_State_then a0 a1 = some r) :
  Calls prog 63 #[p0, U6 a1] w fun e w' => e = .returned (.int .i64 r) ∧ St w0 w' I [objO at_lane_State p0 a0] R := by {
 rcases a0 with _ | o0
 {
 obtain ⟨rfl, hst'⟩ := objO_none hst
 clear hst
 have hst := hst'
 clear hst'
 dsimp only [lane_State_then] at hm
 refine calls_start (args := [.pointer none, U6 a1]) func63 z ntmps63 (Nat.le_of_ble_eq_true z) ?_
 refine wp_seq (wrl (wv (.int .i64 (0:Int)) z z z (wl_nil (tn (wp_seq (wp_block (wp_seq (wrl (wv (.pointer none) z z z (wv (.bool true) z z (by kernel_rfl) (wv (.bool true) z z z (wz z z z z z z (wz z z z z z z (wz z z z z z z (wz z z z z z z (wz z z z z z z (wz z z z z z z (wv (.bool true) z z (x_pick_t z z z) ?_))))))))))))))))))
 refine wv (.bool true) z z z (wl_nil (tn ?_))
 refine wp_ift z ?_
 refine wp_seq (wrl (wv (.int .i64 (2:Int)) z z z (wl_nil (tn (wp_ret (blk_r (then_r ?_)))))))
 replace hst := hst.objO_nil at_lane_State
 obtain rfl := some_inj hm
 refine post_ret (vs := [I6 (2:Int)]) results63 (rvs_cons (rv_tmp z) rvs_nil) ?_
 exact ⟨z, hst.keep1⟩
}
 {
 replace hst := objO_get hst
 dsimp only [lane_State_then] at hm
 refine calls_start (args := [p0, U6 a1]) func63 z ntmps63 (Nat.le_of_ble_eq_true z) ?_
 refine wp_seq (wrl (wv (.int .i64 (0:Int)) z z z (wl_nil (tn (wp_seq (wp_block (wp_seq (wrl (wv (p0) z z z ?_)))))))))
 obtain ⟨b912, v913, v915, v917, v919, v921, v923, v925, rfl, hst'⟩ := at_lane_State_open hst
 clear hst
 have hst := hst'
 clear hst'
 refine wv (.bool false) z z (by kernel_rfl) (wv (.bool false) z z z (wv (.int .u64 a1) ((wanted_eq z z z z).trans z) z z (wv (Pt b912 0) ((wanted_eq z z z z).trans z) z z (wv (Pt b912 0) ((wanted_eq z z z z).trans z) z z (wv (Pt b912 1) ((wanted_eq z z z z).trans z) z (x_field z underlying111 z sizeOf26 z) (wv (.int .u64 o0.epoch) ((wanted_eq z z z z).trans z) z (x_load z isAgg26 (hst.bc0 z)) (wv (.bool (decide (a1 ≥ o0.epoch))) ((wanted_eq z z z z).trans z) z z (wv (.bool (decide (a1 ≥ o0.epoch))) z z (x_pick_f z z z) (wv (.bool (decide (a1 ≥ o0.epoch))) z z z (wl_nil (tn ?_)))))))))))
 refine bsplit (decide (a1 ≥ o0.epoch)) (fun hc927 => ?_) (fun hc927 => ?_)
 {
 replace hm := bif_t hc927 hm
 refine wp_ift (cvb hc927) ?_
 refine wp_seq (wrl (wv (.int .i64 (2:Int)) z z z (wl_nil (tn (wp_ret (blk_r (then_r ?_)))))))
 replace hst := hst.pull7.pull7.pull7.pull7.pull7.pull7.pull7.pull7
 replace hst := at_lane_State_close (pv := Pt b912 0) (x := o0) hst z
 replace hst := objO_some hst
 obtain rfl := some_inj hm
 refine post_ret (vs := [I6 (2:Int)]) results63 (rvs_cons (rv_tmp z) rvs_nil) ?_
 exact ⟨z, hst.keep1⟩
}
 {
 replace hm := bif_f hc927 hm
 refine wp_iff (cvb hc927) ?_
 refine wp_seq (wrl (wv (.int .u64 a1) z z z (wv (.int .u64 (u64.wrap (a1 + (1:Int)))) z z z (wv (.int .u64 (u64.wrap ((u64.wrap (a1 + (1:Int))) + (8:Int)))) z z z (wv (Pt b912 0) z z z (wv (Pt b912 0) z z z (wv (Pt b912 1) z z (x_field z underlying111 z sizeOf26 z) (wv (.int .u64 o0.epoch) z z (x_load z isAgg26 (hst.bc0 z)) (wv (.bool (decide ((u64.wrap ((u64.wrap (a1 + (1:Int))) + (8:Int))) < o0.epoch))) z z z (wv (.bool (decide ((u64.wrap ((u64.wrap (a1 + (1:Int))) + (8:Int))) < o0.epoch))) z z z (wl_nil (tn ?_))))))))))))
 refine bsplit (decide ((u64.wrap ((u64.wrap (a1 + (1:Int))) + (8:Int))) < o0.epoch)) (fun hc928 => ?_) (fun hc928 => ?_)
 {
 replace hm := bif_t hc928 hm
 refine wp_ift (cvb hc928) ?_
 refine wp_seq (wrl (wv (.int .i64 (9:Int)) z z z (wl_nil (tn (wp_ret (blk_r (then_r ?_)))))))
 replace hst := hst.pull7.pull7.pull7.pull7.pull7.pull7.pull7.pull7
 replace hst := at_lane_State_close (pv := Pt b912 0) (x := o0) hst z
 replace hst := objO_some hst
 obtain rfl := some_inj hm
 refine post_ret (vs := [I6 (9:Int)]) results63 (rvs_cons (rv_tmp z) rvs_nil) ?_
 exact ⟨z, hst.keep1⟩
}
 {
 replace hm := bif_f hc928 hm
 refine wp_iff (cvb hc928) ?_
 refine wp_skip (blk_n (tn (wp_seq (wrl ?_))))
 refine wv (.int .i64 (0:Int)) z z z (wl_nil (tn (wp_ret ?_)))
 replace hst := hst.pull7.pull7.pull7.pull7.pull7.pull7.pull7.pull7
 replace hst := at_lane_State_close (pv := Pt b912 0) (x := o0) hst z
 replace hst := objO_some hst
 obtain rfl := some_inj hm
 refine post_ret (vs := [Zi]) results63 (rvs_cons (rv_tmp z) rvs_nil) ?_
 exact ⟨z, hst.keep1⟩
}
}
}
}

theorem lane_State_Scan_ref {w0 w : World} {I : HL} {R : SP} {a0 : (Option lane_State)} {p0 : Value} {a1 : Nat} {a2 : Nat} {a3 : Int}  (hst : St w0 w I [objO at_lane_State p0 a0] R) {r : ((List api_Pair) × Int)} (hm : lane_State_Scan a0 a1 a2 a3 = some r) :
  Calls prog 31 #[p0, F6 a1, F6 a2, U6 a3] w fun e w' => ∃ (I' : HL) (q0_0 : Value), e = .returned (.tuple #[q0_0, I6 r.2]) ∧ I.le I' ∧ St w0 w' I' [ownS ty_api_Pair q0_0 r.1, objO at_lane_State p0 a0] R := by {
 rcases a0 with _ | o0
 {
 obtain ⟨rfl, hst'⟩ := objO_none hst
 clear hst
 have hst := hst'
 clear hst'
 dsimp only [lane_State_Scan] at hm
 refine calls_start (args := [.pointer none, F6 a1, F6 a2, U6 a3]) func31 z ntmps31 (Nat.le_of_ble_eq_true z) ?_
 have hI0 := HL.le.refl I
 refine wp_seq (wrl (wv ((.slice none 0 0)) z z z (wv (.int .i64 (0:Int)) z z z (wl_nil (tn (wp_seq (wp_seq (wrl (wv (.pointer none) z z z (wv (.int .u64 a3) z z z ?_))))))))))
 replace hst := hst.objO_nil at_lane_State
 obtain ⟨t934, ht935, hm⟩ := bind_some hm
 refine wc call63 [.pointer none, U6 a3] z z z ?_
 refine (lane_State_then_ref hst.to1 ht935).mono ?_
 rintro _ w936 ⟨rfl, hst⟩
 refine ⟨_, z, ?_⟩
 replace hst := hst.of1
 refine wv (.int .i64 t934) z z z (wl_nil (tn (wp_seq (wrl (wv (.int .i64 t934) z z z (wv (.bool (t934 != (0:Int))) z z z (wl_nil (tn ?_))))))))
 refine bsplit (t934 != (0:Int)) (fun hc939 => ?_) (fun hc939 => ?_)
 {
 replace hm := bif_t hc939 hm
 refine wp_ift (cvb hc939) ?_
 refine wp_seq (wrl (wv (.int .i64 t934) z z z (wv ((.slice none 0 0)) z z z (wv (.int .i64 t934) z z z (wl_nil (tn (wp_ret (then_r ?_))))))))
 replace hst := hst.own_nil ty_api_Pair
 replace hst := hst.objO_nil at_lane_State
 obtain rfl := some_inj hm
 refine post_ret (vs := [Zs, I6 t934]) results31 (rvs_cons (rv_tmp z) (rvs_cons (rv_tmp z) rvs_nil)) ?_
 replace hst := hst.pull1
 exact ⟨_, Zs, z, hI0, hst.keep2⟩
}
 {
 replace hm := bif_f hc939 hm
 refine wp_iff (cvb hc939) ?_
 refine wp_skip (tn (wp_seq (wrl ?_)))
 refine wv (.pointer none) z z z ?_
 cases hm
}
}
 {
 replace hst := objO_get hst
 dsimp only [lane_State_Scan] at hm
 refine calls_start (args := [p0, F6 a1, F6 a2, U6 a3]) func31 z ntmps31 (Nat.le_of_ble_eq_true z) ?_
 have hI0 := HL.le.refl I
 refine wp_seq (wrl (wv ((.slice none 0 0)) z z z (wv (.int .i64 (0:Int)) z z z (wl_nil (tn (wp_seq (wp_seq (wrl (wv (p0) z z z (wv (.int .u64 a3) z z z ?_))))))))))
 replace hst := objO_some hst
 obtain ⟨t942, ht943, hm⟩ := bind_some hm
 refine wc call63 [p0, U6 a3] z z z ?_
 refine (lane_State_then_ref hst.to1 ht943).mono ?_
 rintro _ w944 ⟨rfl, hst⟩
 refine ⟨_, z, ?_⟩
 replace hst := hst.of1
 replace hst := objO_get hst
 refine wv (.int .i64 t942) z z z (wl_nil (tn (wp_seq (wrl (wv (.int .i64 t942) z z z (wv (.bool (t942 != (0:Int))) z z z (wl_nil (tn ?_))))))))
 refine bsplit (t942 != (0:Int)) (fun hc947 => ?_) (fun hc947 => ?_)
 {
 replace hm := bif_t hc947 hm
 refine wp_ift (cvb hc947) ?_
 refine wp_seq (wrl (wv (.int .i64 t942) z z z (wv ((.slice none 0 0)) z z z (wv (.int .i64 t942) z z z (wl_nil (tn (wp_ret (then_r ?_))))))))
 replace hst := hst.own_nil ty_api_Pair
 replace hst := hst.pull1
 replace hst := objO_some hst
 obtain rfl := some_inj hm
 refine post_ret (vs := [Zs, I6 t942]) results31 (rvs_cons (rv_tmp z) (rvs_cons (rv_tmp z) rvs_nil)) ?_
 replace hst := hst.pull1
 exact ⟨_, Zs, z, hI0, hst.keep2⟩
}
 {
 replace hm := bif_f hc947 hm
 refine wp_iff (cvb hc947) ?_
 refine wp_skip (tn (wp_seq (wrl ?_)))
 refine wv (p0) z z z ?_
 obtain ⟨b949, v950, v952, v954, v956, v958, v960, v962, rfl, hst'⟩ := at_lane_State_open hst
 clear hst
 have hst := hst'
 clear hst'
 refine wv (Pt b949 0) z z z (wv (Pt b949 2) z z (x_field z underlying111 z sizeOf101 z) (wv (v950) z z (x_load z isAgg101 (hst.bc0 z)) (wv (.float .f64 a1) z z z (wv (.float .f64 a2) z z z (wv (.int .u64 a3) z z z ?_)))))
 replace hst := hst.pull1
 obtain ⟨t964, ht965, hm⟩ := bind_some hm
 refine wc call77 [v950, F6 a1, F6 a2, U6 a3, I6 (64:Int)] z z z ?_
 refine (mvcc_Store_Scan_ref hst.to1 ht965).mono ?_
 rintro _ w966 ⟨I967, v969, rfl, hI968, hst⟩
 refine ⟨_, z, ?_⟩
 replace hst := hst.of2
 replace hI0 := hI0.trans hI968
 refine wv (v969) z z z (wv (.int .i64 (0:Int)) z z z (wl_nil (tn (wp_ret ?_))))
 replace hst := hst.pull8.pull8.pull8.pull8.pull8.pull8.pull7.pull8
 replace hst := at_lane_State_close (pv := Pt b949 0) (x := o0) hst z
 replace hst := objO_some hst
 obtain rfl := some_inj hm
 refine post_ret (vs := [v969, Zi]) results31 (rvs_cons (rv_tmp z) (rvs_cons (rv_tmp z) rvs_nil)) ?_
 replace hst := hst.pull1
 exact ⟨_, v969, z, hI0, hst.keep2⟩
}
}
}

theorem ref11_SameGots_ref {w0 w : World} {I : HL} {R : SP} {a0 : (List api_Got)} {r0_0 : Value} {a1 : (List api_Got)} {r1_0 : Value} (f0_0 : Rd ty_api_Got R I r0_0 a0) (f1_0 : Rd ty_api_Got R I r1_0 a1) (hst : St w0 w I [] R) {r : (Bool)} (hm : ref11_SameGots a0 a1 = some r) :
  Calls prog 78 #[r0_0, r1_0] w fun e w' => e = .returned (.bool r) ∧ St w0 w' I [] R := by {
 unfold ref11_SameGots at hm
 refine calls_start (args := [r0_0, r1_0]) func78 z ntmps78 (Nat.le_of_ble_eq_true z) ?_
 refine wp_seq (wrl (wv (.bool false) z z z (wl_nil (tn (wp_seq (wp_seq (wrl (wv (r0_0) z z z (wv (.int .i64 ((a0).length : Int)) z z (x_len z underlying30 (rd_sliceV f0_0)) (wv (r1_0) z z z (wv (.int .i64 ((a1).length : Int)) z z (x_len z underlying30 (rd_sliceV f1_0)) (wv (.bool (((a0).length : Int) != ((a1).length : Int))) z z z (wl_nil (tn ?_))))))))))))))
 refine bsplit (((a0).length : Int) != ((a1).length : Int)) (fun hc1012 => ?_) (fun hc1012 => ?_)
 {
 replace hm := bif_t hc1012 hm
 refine wp_ift (cvb hc1012) ?_
 refine wp_seq (wrl (wv (.bool false) z z z (wl_nil (tn (wp_ret (then_r ?_))))))
 obtain rfl := some_inj hm
 refine post_ret (vs := [.bool false]) results78 (rvs_cons (rv_tmp z) rvs_nil) ?_
 exact ⟨z, hst.keep0⟩
}
 {
 replace hm := bif_f hc1012 hm
 refine wp_iff (cvb hc1012) ?_
 refine wp_skip (tn (wp_seq (wp_seq (wrl ?_))))
 refine wv (.int .i64 (0:Int)) z z z (wl_nil (tn (wp_block ?_)))
 obtain ⟨n1066, hm⟩ := loopO_some hm
 refine wp_loop_n (fun n a w => ∃ (z1064 : Int) (σ1065 : Nat → Value), loopN (ref11_SameGots_l0 a0 a1) n z1064 = some r ∧ a = Fr 43 (upd (upd (upd σ1065 0 (r0_0)) 1 (r1_0)) 5 (.int .i64 z1064)) ∧ St w0 w I [] R) n1066 ⟨(0:Int), _, hm, (fu 0 r0_0 z (fu 1 r1_0 z (fu 5 (.int .i64 (0:Int)) z z))), hst⟩ ?_
 rintro n1072 _ w1067 ⟨z1064, σ1065, hm, rfl, hst⟩
 obtain ⟨n1069, y1070, rfl, hm, hx1071⟩ := loopN_some hm
 dsimp only [ref11_SameGots_l0] at hm
 refine wp_seq (wp_seq (wrl (wv (.int .i64 z1064) z z z (wv (r0_0) z z z (wv (.int .i64 ((a0).length : Int)) z z (x_len z underlying30 (rd_sliceV f0_0)) (wv (.bool (decide (z1064 < ((a0).length : Int)))) z z z (wl_nil (tn ?_))))))))
 refine bsplit (decide (z1064 < ((a0).length : Int))) (fun hc1073 => ?_) (fun hc1073 => ?_)
 {
 replace hm := bif_t hc1073 hm
 refine wp_ift (cvb hc1073) ?_
 refine wp_skip (tn (wp_seq (wp_block (wp_seq ?_))))
 refine wq_regionS hst Tryz.mixed (by kernel_rfl) ?_
 refine wq_run (v := r0_0) z z (fun w hst => z) ?_
 refine wq_run (v := .int .i64 z1064) z z (fun w hst => z) ?_
 obtain ⟨x1074, hx1075, hm⟩ := bind_some hm
 obtain ⟨h1076, h1077, hi1078⟩ := geto_some hx1075
 refine wq_run (v := .pointer (some (eAddr r0_0 (z1064.toNat * 2 + 0)))) z z (fun w hst => x_index z z underlying30 sizeOf61 (rd_sliceV f0_0) h1076 h1077) ?_
 refine wq_run (v := .pointer (some (eAddr r0_0 (z1064.toNat * 2 + 0)))) z z (fun w hst => x_field_e z underlying61 z sizeOf4 z) ?_
 obtain ⟨cs1079, hr1080, hc1081⟩ := Rd.getF f0_0 hi1078
 obtain ⟨v1082, rfl, f1083, -⟩ := hr1080
 refine wq_run (v := .bool x1074.Has) z z (fun w hst => x_load z isAgg4 ((hc1081 (HL.le.refl _) hst) 0 _ z)) ?_
 refine wq_run (v := r1_0) z z (fun w hst => z) ?_
 refine wq_run (v := .int .i64 z1064) z z (fun w hst => z) ?_
 obtain ⟨x1085, hx1086, hm⟩ := bind_some hm
 obtain ⟨h1087, h1088, hi1089⟩ := geto_some hx1086
 refine wq_run (v := .pointer (some (eAddr r1_0 (z1064.toNat * 2 + 0)))) z z (fun w hst => x_index z z underlying30 sizeOf61 (rd_sliceV f1_0) h1087 h1088) ?_
 refine wq_run (v := .pointer (some (eAddr r1_0 (z1064.toNat * 2 + 0)))) z z (fun w hst => x_field_e z underlying61 z sizeOf4 z) ?_
 obtain ⟨cs1090, hr1091, hc1092⟩ := Rd.getF f1_0 hi1089
 obtain ⟨v1093, rfl, f1094, -⟩ := hr1091
 refine wq_run (v := .bool x1085.Has) z z (fun w hst => x_load z isAgg4 ((hc1092 (HL.le.refl _) hst) 0 _ z)) ?_
 refine wq_run (v := .bool (!(x1074.Has == x1085.Has))) z z (fun w hst => by kernel_rfl) ?_
 refine wq_run (v := .bool (!(x1074.Has == x1085.Has))) z z (fun w hst => z) ?_
 refine bsplit (!(x1074.Has == x1085.Has)) (fun hc1096 => ?_) (fun hc1096 => ?_)
 {
 replace hm := bif_t hc1096 hm
 refine wq_off ((wanted_eq z z z (cvb hc1096)).trans z) z ?_
 refine wq_off ((wanted_eq z z z (cvb hc1096)).trans z) z ?_
 refine wq_off ((wanted_eq z z z (cvb hc1096)).trans z) z ?_
 refine wq_off ((wanted_eq z z z (cvb hc1096)).trans z) z ?_
 refine wq_off ((wanted_eq z z z (cvb hc1096)).trans z) z ?_
 refine wq_off ((wanted_eq z z z (cvb hc1096)).trans z) z ?_
 refine wq_off ((wanted_eq z z z (cvb hc1096)).trans z) z ?_
 refine wq_off ((wanted_eq z z z (cvb hc1096)).trans z) z ?_
 refine wq_off ((wanted_eq z z z (cvb hc1096)).trans z) z ?_
 refine wq_off ((wanted_eq z z z (cvb hc1096)).trans z) z ?_
 refine wq_off ((wanted_eq z z z (cvb hc1096)).trans z) z ?_
 refine wq_off ((wanted_eq z z z (cvb hc1096)).trans z) z ?_
 refine wq_off ((wanted_eq z z z (cvb hc1096)).trans z) z ?_
 refine wq_run (v := .bool true) z z (fun w hst => x_pick_t hc1096 z z) ?_
 refine wq_nil ?_
 intro w hst
 refine tn ?_
 refine wp_ift z ?_
 refine wp_seq (wrl (wv (.bool false) z z z (wl_nil (tn (wp_ret (blk_r (then_r (then_r ?_))))))))
 replace hm := inr_up hm hx1071
 refine blk_r (then_r ?_)
 obtain rfl := some_inj hm
 refine post_ret (vs := [.bool false]) results78 (rvs_cons (rv_tmp z) rvs_nil) ?_
 exact ⟨z, hst.keep0⟩
}
 {
 replace hm := bif_f hc1096 hm
 refine wq_run (v := r0_0) ((wanted_eq z z z (cvb hc1096)).trans z) z (fun w hst => z) ?_
 refine wq_run (v := .int .i64 z1064) ((wanted_eq z z z (cvb hc1096)).trans z) z (fun w hst => z) ?_
 refine wq_run (v := .pointer (some (eAddr r0_0 (z1064.toNat * 2 + 0)))) ((wanted_eq z z z (cvb hc1096)).trans z) z (fun w hst => x_index z z underlying30 sizeOf61 (rd_sliceV f0_0) h1076 h1077) ?_
 refine wq_run (v := .pointer (some (eAddr r0_0 (z1064.toNat * 2 + 1)))) ((wanted_eq z z z (cvb hc1096)).trans z) z (fun w hst => x_field_e z underlying61 z sizeOf22 z) ?_
 refine wq_run (v := v1082) ((wanted_eq z z z (cvb hc1096)).trans z) z (fun w hst => x_load z isAgg22 ((hc1081 (HL.le.refl _) hst) 1 _ z)) ?_
 refine wq_run (v := .string (toStr x1074.Val)) ((wanted_eq z z z (cvb hc1096)).trans z) z (fun w hst => x_tostr underlying22 underlying9 underlying5 z (Src.of_rd hst f1083 flat_int)) ?_
 refine wq_run (v := r1_0) ((wanted_eq z z z (cvb hc1096)).trans z) z (fun w hst => z) ?_
 refine wq_run (v := .int .i64 z1064) ((wanted_eq z z z (cvb hc1096)).trans z) z (fun w hst => z) ?_
 refine wq_run (v := .pointer (some (eAddr r1_0 (z1064.toNat * 2 + 0)))) ((wanted_eq z z z (cvb hc1096)).trans z) z (fun w hst => x_index z z underlying30 sizeOf61 (rd_sliceV f1_0) h1087 h1088) ?_
 refine wq_run (v := .pointer (some (eAddr r1_0 (z1064.toNat * 2 + 1)))) ((wanted_eq z z z (cvb hc1096)).trans z) z (fun w hst => x_field_e z underlying61 z sizeOf22 z) ?_
 refine wq_run (v := v1093) ((wanted_eq z z z (cvb hc1096)).trans z) z (fun w hst => x_load z isAgg22 ((hc1092 (HL.le.refl _) hst) 1 _ z)) ?_
 refine wq_run (v := .string (toStr x1085.Val)) ((wanted_eq z z z (cvb hc1096)).trans z) z (fun w hst => x_tostr underlying22 underlying9 underlying5 z (Src.of_rd hst f1094 flat_int)) ?_
 refine wq_run (v := .bool (!(sEq (toStr x1074.Val) (toStr x1085.Val)))) ((wanted_eq z z z (cvb hc1096)).trans z) z (fun w hst => by kernel_rfl) ?_
 refine wq_run (v := .bool (!(sEq (toStr x1074.Val) (toStr x1085.Val)))) z z (fun w hst => x_pick_f hc1096 z z) ?_
 refine wq_nil ?_
 intro w hst
 refine tn ?_
 refine bsplit (!(sEq (toStr x1074.Val) (toStr x1085.Val))) (fun hc1097 => ?_) (fun hc1097 => ?_)
 {
 replace hm := bif_t hc1097 hm
 refine wp_ift (cvb hc1097) ?_
 refine wp_seq (wrl (wv (.bool false) z z z (wl_nil (tn (wp_ret (blk_r (then_r (then_r ?_))))))))
 replace hm := inr_up hm hx1071
 refine blk_r (then_r ?_)
 obtain rfl := some_inj hm
 refine post_ret (vs := [.bool false]) results78 (rvs_cons (rv_tmp z) rvs_nil) ?_
 exact ⟨z, hst.keep0⟩
}
 {
 replace hm := bif_f hc1097 hm
 refine wp_iff (cvb hc1097) ?_
 refine wp_skip (blk_n (tn (wrl ?_)))
 refine wv (.int .i64 z1064) z z z (wv (.int .i64 (i64.wrap (z1064 + (1:Int)))) z z z (wv (.int .i64 (i64.wrap (z1064 + (1:Int)))) z z z (wl_nil (tn ?_))))
 replace hst := hst.keep0
 obtain rfl := some_inj hm
 exact ⟨_, Nat.lt_succ_self _, (i64.wrap (z1064 + (1:Int))), _, hx1071, (fu 0 r0_0 z (fu 1 r1_0 z (fu 5 (.int .i64 (i64.wrap (z1064 + (1:Int)))) z z))), hst⟩
}
}
}
 {
 replace hm := bif_f hc1073 hm
 refine wp_iff (cvb hc1073) ?_
 refine wp_exit (then_x (then_x ?_))
 replace hm := inr_up hm hx1071
 refine blk_x (tn (wp_seq (wrl ?_)))
 refine wv (.bool true) z z z (wl_nil (tn (wp_ret ?_)))
 obtain rfl := some_inj hm
 refine post_ret (vs := [.bool true]) results78 (rvs_cons (rv_tmp z) rvs_nil) ?_
 exact ⟨z, hst.keep0⟩
}
}
}

theorem ref11_SamePairs_ref {w0 w : World} {I : HL} {R : SP} {a0 : (List api_Pair)} {r0_0 : Value} {a1 : (List api_Pair)} {r1_0 : Value} (f0_0 : Rd ty_api_Pair R I r0_0 a0) (f1_0 : Rd ty_api_Pair R I r1_0 a1) (hst : St w0 w I [] R) {r : (Bool)} (hm : ref11_SamePairs a0 a1 = some r) :
  Calls prog 79 #[r0_0, r1_0] w fun e w' => e = .returned (.bool r) ∧ St w0 w' I [] R := by {
 unfold ref11_SamePairs at hm
 refine calls_start (args := [r0_0, r1_0]) func79 z ntmps79 (Nat.le_of_ble_eq_true z) ?_
 refine wp_seq (wrl (wv (.bool false) z z z (wl_nil (tn (wp_seq (wp_seq (wrl (wv (r0_0) z z z (wv (.int .i64 ((a0).length : Int)) z z (x_len z underlying81 (rd_sliceV f0_0)) (wv (r1_0) z z z (wv (.int .i64 ((a1).length : Int)) z z (x_len z underlying81 (rd_sliceV f1_0)) (wv (.bool (((a0).length : Int) != ((a1).length : Int))) z z z (wl_nil (tn ?_))))))))))))))
 refine bsplit (((a0).length : Int) != ((a1).length : Int)) (fun hc1071 => ?_) (fun hc1071 => ?_)
 {
 replace hm := bif_t hc1071 hm
 refine wp_ift (cvb hc1071) ?_
 refine wp_seq (wrl (wv (.bool false) z z z (wl_nil (tn (wp_ret (then_r ?_))))))
 obtain rfl := some_inj hm
 refine post_ret (vs := [.bool false]) results79 (rvs_cons (rv_tmp z) rvs_nil) ?_
 exact ⟨z, hst.keep0⟩
}
 {
 replace hm := bif_f hc1071 hm
 refine wp_iff (cvb hc1071) ?_
 refine wp_skip (tn (wp_seq (wp_seq (wrl ?_))))
 refine wv (.int .i64 (0:Int)) z z z (wl_nil (tn (wp_block ?_)))
 obtain ⟨n1159, hm⟩ := loopO_some hm
 refine wp_loop_n (fun n a w => ∃ (z1157 : Int) (σ1158 : Nat → Value), loopN (ref11_SamePairs_l0 a0 a1) n z1157 = some r ∧ a = Fr 44 (upd (upd (upd σ1158 0 (r0_0)) 1 (r1_0)) 5 (.int .i64 z1157)) ∧ St w0 w I [] R) n1159 ⟨(0:Int), _, hm, (fu 0 r0_0 z (fu 1 r1_0 z (fu 5 (.int .i64 (0:Int)) z z))), hst⟩ ?_
 rintro n1165 _ w1160 ⟨z1157, σ1158, hm, rfl, hst⟩
 obtain ⟨n1162, y1163, rfl, hm, hx1164⟩ := loopN_some hm
 dsimp only [ref11_SamePairs_l0] at hm
 refine wp_seq (wp_seq (wrl (wv (.int .i64 z1157) z z z (wv (r0_0) z z z (wv (.int .i64 ((a0).length : Int)) z z (x_len z underlying81 (rd_sliceV f0_0)) (wv (.bool (decide (z1157 < ((a0).length : Int)))) z z z (wl_nil (tn ?_))))))))
 refine bsplit (decide (z1157 < ((a0).length : Int))) (fun hc1166 => ?_) (fun hc1166 => ?_)
 {
 replace hm := bif_t hc1166 hm
 refine wp_ift (cvb hc1166) ?_
 refine wp_skip (tn (wp_seq (wp_block (wp_seq ?_))))
 refine wp_region_St hst 27 [0, 1, 2, 3, 4, 5, 6, 7, 8, 9, 10, 11, 12, 13, 14, 15, 16, 17, 18, 19, 20, 21, 22, 23, 24, 25, 26] [0, 0, 3, 7, 15, 0, 0, 96, 224, 480, 1023, 2047, 4095, 8191, 8191, 32767, 65535, 131071, 262143, 8191, 8191, 1581055, 3678207, 7872511, 16261119, 33554431, 67108863] [] z (by kernel_rfl) (by kernel_rfl) Tryz.mixed (by kernel_rfl) ?_
 refine wsr (r0_0) 0 z z z (by kernel_rfl) (fun w hst => z) (wsr (.int .i64 z1157) 1 z z z (by kernel_rfl) (fun w hst => z) ?_)
 obtain ⟨x1167, hx1168, hm⟩ := bind_some hm
 obtain ⟨h1169, h1170, hi1171⟩ := geto_some hx1168
 refine wsr (.pointer (some (eAddr r0_0 (z1157.toNat * 2 + 0)))) 2 z z z (by kernel_rfl) (fun w hst => x_index z z underlying81 sizeOf152 (rd_sliceV f0_0) h1169 h1170) (wsr (.pointer (some (eAddr r0_0 (z1157.toNat * 2 + 0)))) 3 z z z (by kernel_rfl) (fun w hst => x_field_e z underlying152 z sizeOf37 z) ?_)
 obtain ⟨cs1172, hr1173, hc1174⟩ := Rd.getF f0_0 hi1171
 obtain ⟨v1175, rfl, f1176, -⟩ := hr1173
 refine wsr (.float .f64 x1167.At) 4 z z z (by kernel_rfl) (fun w hst => x_load z isAgg37 ((hc1174 (HL.le.refl _) hst) 0 _ z)) (wsr (r1_0) 5 z z z (by kernel_rfl) (fun w hst => z) (wsr (.int .i64 z1157) 6 z z z (by kernel_rfl) (fun w hst => z) ?_))
 obtain ⟨x1178, hx1179, hm⟩ := bind_some hm
 obtain ⟨h1180, h1181, hi1182⟩ := geto_some hx1179
 refine wsr (.pointer (some (eAddr r1_0 (z1157.toNat * 2 + 0)))) 7 z z z (by kernel_rfl) (fun w hst => x_index z z underlying81 sizeOf152 (rd_sliceV f1_0) h1180 h1181) (wsr (.pointer (some (eAddr r1_0 (z1157.toNat * 2 + 0)))) 8 z z z (by kernel_rfl) (fun w hst => x_field_e z underlying152 z sizeOf37 z) ?_)
 obtain ⟨cs1183, hr1184, hc1185⟩ := Rd.getF f1_0 hi1182
 obtain ⟨v1186, rfl, f1187, -⟩ := hr1184
 refine wsr (.float .f64 x1178.At) 9 z z z (by kernel_rfl) (fun w hst => x_load z isAgg37 ((hc1185 (HL.le.refl _) hst) 0 _ z)) ?_
 refine ws_e1 10 (by kernel_rfl) ?_
 refine nxe [11, 12, 13, 14, 15, 16, 17, 18, 19, 20, 21, 22, 23, 24, 25, 26] (by kernel_rfl) z z ?_
 clear hst
 intro w hst
 obtain ⟨t1189, ht1190, hm⟩ := bind_some hm
 refine wec call20 [F6 x1167.At, F6 x1178.At] z z ?_
 refine (ref01_Same_ref hst.to0 ht1190).mono ?_
 rintro _ w1191 ⟨rfl, hst⟩
 refine ⟨_, z, ?_⟩
 replace hst := hst.of0
 refine ws_next (pend' := []) hst (by kernel_rfl) pk_nil ?_
 refine wsr (.bool (!t1189)) 11 z z z (by kernel_rfl) (fun w hst => z) (wsr (.bool (!t1189)) 12 z z z (by kernel_rfl) (fun w hst => z) ?_)
 refine bsplit (!t1189) (fun hc1194 => ?_) (fun hc1194 => ?_)
 {
 replace hm := bif_t hc1194 hm
 refine ws_q (v := undef) 13 [14, 15, 16, 17, 18, 19, 20, 21, 22, 23, 24, 25, 26] (by kernel_rfl) z z (yi_off ((wanted_eq z z z (cvb hc1194)).trans z)) (ws_q (v := undef) 14 [15, 16, 17, 18, 19, 20, 21, 22, 23, 24, 25, 26] (by kernel_rfl) z z (yi_off ((wanted_eq z z z (cvb hc1194)).trans z)) (ws_q (v := undef) 15 [16, 17, 18, 19, 20, 21, 22, 23, 24, 25, 26] (by kernel_rfl) z z (yi_off ((wanted_eq z z z (cvb hc1194)).trans z)) (ws_q (v := undef) 16 [17, 18, 19, 20, 21, 22, 23, 24, 25, 26] (by kernel_rfl) z z (yi_off ((wanted_eq z z z (cvb hc1194)).trans z)) (ws_q (v := undef) 17 [18, 19, 20, 21, 22, 23, 24, 25, 26] (by kernel_rfl) z z (yi_off ((wanted_eq z z z (cvb hc1194)).trans z)) (ws_q (v := undef) 18 [19, 20, 21, 22, 23, 24, 25, 26] (by kernel_rfl) z z (yi_off ((wanted_eq z z z (cvb hc1194)).trans z)) (ws_q (v := undef) 19 [20, 21, 22, 23, 24, 25, 26] (by kernel_rfl) z z (yi_off ((wanted_eq z z z (cvb hc1194)).trans z)) (ws_q (v := undef) 20 [21, 22, 23, 24, 25, 26] (by kernel_rfl) z z (yi_off ((wanted_eq z z z (cvb hc1194)).trans z)) (ws_q (v := undef) 21 [22, 23, 24, 25, 26] (by kernel_rfl) z z (yi_off ((wanted_eq z z z (cvb hc1194)).trans z)) (ws_q (v := undef) 22 [23, 24, 25, 26] (by kernel_rfl) z z (yi_off ((wanted_eq z z z (cvb hc1194)).trans z)) (ws_q (v := undef) 23 [24, 25, 26] (by kernel_rfl) z z (yi_off ((wanted_eq z z z (cvb hc1194)).trans z)) (ws_q (v := undef) 24 [25, 26] (by kernel_rfl) z z (yi_off ((wanted_eq z z z (cvb hc1194)).trans z)) (ws_q (v := undef) 25 [26] (by kernel_rfl) z z (yi_off ((wanted_eq z z z (cvb hc1194)).trans z)) ?_))))))))))))
 refine wsr (.bool true) 26 z z z (by kernel_rfl) (fun w hst => x_pick_t hc1194 z z) ?_
 refine ws_nil ?_
 intro w hst
 refine tn ?_
 refine wp_ift z ?_
 refine wp_seq (wrl (wv (.bool false) z z z (wl_nil (tn (wp_ret (blk_r (then_r (then_r ?_))))))))
 replace hm := inr_up hm hx1164
 refine blk_r (then_r ?_)
 obtain rfl := some_inj hm
 refine post_ret (vs := [.bool false]) results79 (rvs_cons (rv_tmp z) rvs_nil) ?_
 exact ⟨z, hst.keep0⟩
}
 {
 replace hm := bif_f hc1194 hm
 refine ws_q (v := r0_0) 13 [14, 15, 16, 17, 18, 19, 20, 21, 22, 23, 24, 25, 26] (by kernel_rfl) z z (yi_run ((wanted_eq z z z (cvb hc1194)).trans z) (fun w hst => z)) (ws_q (v := .int .i64 z1157) 14 [15, 16, 17, 18, 19, 20, 21, 22, 23, 24, 25, 26] (by kernel_rfl) z z (yi_run ((wanted_eq z z z (cvb hc1194)).trans z) (fun w hst => z)) (ws_q (v := .pointer (some (eAddr r0_0 (z1157.toNat * 2 + 0)))) 15 [16, 17, 18, 19, 20, 21, 22, 23, 24, 25, 26] (by kernel_rfl) z z (yi_run ((wanted_eq z z z (cvb hc1194)).trans z) (fun w hst => x_index z z underlying81 sizeOf152 (rd_sliceV f0_0) h1169 h1170)) (ws_q (v := .pointer (some (eAddr r0_0 (z1157.toNat * 2 + 1)))) 16 [17, 18, 19, 20, 21, 22, 23, 24, 25, 26] (by kernel_rfl) z z (yi_run ((wanted_eq z z z (cvb hc1194)).trans z) (fun w hst => x_field_e z underlying152 z sizeOf22 z)) ?_)))
 obtain ⟨cs1195, hr1196, hc1197⟩ := Rd.getF f0_0 hi1171
 obtain ⟨v1198, rfl, f1199, -⟩ := hr1196
 refine ws_q (v := v1198) 17 [18, 19, 20, 21, 22, 23, 24, 25, 26] (by kernel_rfl) z z (yi_run ((wanted_eq z z z (cvb hc1194)).trans z) (fun w hst => x_load z isAgg22 ((hc1197 (HL.le.refl _) hst) 1 _ z))) (ws_q (v := .string (toStr x1167.Val)) 18 [19, 20, 21, 22, 23, 24, 25, 26] (by kernel_rfl) z z (yi_run ((wanted_eq z z z (cvb hc1194)).trans z) (fun w hst => x_tostr underlying22 underlying9 underlying5 z (Src.of_rd hst f1199 flat_int))) (ws_q (v := r1_0) 19 [20, 21, 22, 23, 24, 25, 26] (by kernel_rfl) z z (yi_run ((wanted_eq z z z (cvb hc1194)).trans z) (fun w hst => z)) (ws_q (v := .int .i64 z1157) 20 [21, 22, 23, 24, 25, 26] (by kernel_rfl) z z (yi_run ((wanted_eq z z z (cvb hc1194)).trans z) (fun w hst => z)) (ws_q (v := .pointer (some (eAddr r1_0 (z1157.toNat * 2 + 0)))) 21 [22, 23, 24, 25, 26] (by kernel_rfl) z z (yi_run ((wanted_eq z z z (cvb hc1194)).trans z) (fun w hst => x_index z z underlying81 sizeOf152 (rd_sliceV f1_0) h1180 h1181)) (ws_q (v := .pointer (some (eAddr r1_0 (z1157.toNat * 2 + 1)))) 22 [23, 24, 25, 26] (by kernel_rfl) z z (yi_run ((wanted_eq z z z (cvb hc1194)).trans z) (fun w hst => x_field_e z underlying152 z sizeOf22 z)) ?_)))))
 obtain ⟨cs1201, hr1202, hc1203⟩ := Rd.getF f1_0 hi1182
 obtain ⟨v1204, rfl, f1205, -⟩ := hr1202
 refine ws_q (v := v1204) 23 [24, 25, 26] (by kernel_rfl) z z (yi_run ((wanted_eq z z z (cvb hc1194)).trans z) (fun w hst => x_load z isAgg22 ((hc1203 (HL.le.refl _) hst) 1 _ z))) (ws_q (v := .string (toStr x1178.Val)) 24 [25, 26] (by kernel_rfl) z z (yi_run ((wanted_eq z z z (cvb hc1194)).trans z) (fun w hst => x_tostr underlying22 underlying9 underlying5 z (Src.of_rd hst f1205 flat_int))) (ws_q (v := .bool (!(sEq (toStr x1167.Val) (toStr x1178.Val)))) 25 [26] (by kernel_rfl) z z (yi_run ((wanted_eq z z z (cvb hc1194)).trans z) (fun w hst => by kernel_rfl)) (wsr (.bool (!(sEq (toStr x1167.Val) (toStr x1178.Val)))) 26 z z z (by kernel_rfl) (fun w hst => x_pick_f hc1194 z z) ?_)))
 refine ws_nil ?_
 intro w hst
 refine tn ?_
 refine bsplit (!(sEq (toStr x1167.Val) (toStr x1178.Val))) (fun hc1207 => ?_) (fun hc1207 => ?_)
 {
 replace hm := bif_t hc1207 hm
 refine wp_ift (cvb hc1207) ?_
 refine wp_seq (wrl (wv (.bool false) z z z (wl_nil (tn (wp_ret (blk_r (then_r (then_r ?_))))))))
 replace hm := inr_up hm hx1164
 refine blk_r (then_r ?_)
 obtain rfl := some_inj hm
 refine post_ret (vs := [.bool false]) results79 (rvs_cons (rv_tmp z) rvs_nil) ?_
 exact ⟨z, hst.keep0⟩
}
 {
 replace hm := bif_f hc1207 hm
 refine wp_iff (cvb hc1207) ?_
 refine wp_skip (blk_n (tn (wrl ?_)))
 refine wv (.int .i64 z1157) z z z (wv (.int .i64 (i64.wrap (z1157 + (1:Int)))) z z z (wv (.int .i64 (i64.wrap (z1157 + (1:Int)))) z z z (wl_nil (tn ?_))))
 replace hst := hst.keep0
 obtain rfl := some_inj hm
 exact ⟨_, Nat.lt_succ_self _, (i64.wrap (z1157 + (1:Int))), _, hx1164, (fu 0 r0_0 z (fu 1 r1_0 z (fu 5 (.int .i64 (i64.wrap (z1157 + (1:Int)))) z z))), hst⟩
}
}
}
 {
 replace hm := bif_f hc1166 hm
 refine wp_iff (cvb hc1166) ?_
 refine wp_exit (then_x (then_x ?_))
 replace hm := inr_up hm hx1164
 refine blk_x (tn (wp_seq (wrl ?_)))
 refine wv (.bool true) z z z (wl_nil (tn (wp_ret ?_)))
 obtain rfl := some_inj hm
 refine post_ret (vs := [.bool true]) results79 (rvs_cons (rv_tmp z) rvs_nil) ?_
 exact ⟨z, hst.keep0⟩
}
}
}

theorem ref11_SameReply_ref {w0 w : World} {I : HL} {R : SP} {a0 : api_Reply} {r0_0 : Value} {r0_1 : Value} {a1 : api_Reply} {r1_0 : Value} {r1_1 : Value} (f0_0 : Rd ty_api_Got R I r0_0 a0.Gots) (f0_1 : Rd (tySl ty_api_Pair) R I r0_1 a0.Scans) (f1_0 : Rd ty_api_Got R I r1_0 a1.Gots) (f1_1 : Rd (tySl ty_api_Pair) R I r1_1 a1.Scans) (hst : St w0 w I [] R) {r : (Bool)} (hm : ref11_SameReply a0 a1 = some r) :
  Calls prog 32 #[.agg #[I6 a0.E, U6 a0.Epoch, U6 a0.Index, r0_0, r0_1], .agg #[I6 a1.E, U6 a1.Epoch, U6 a1.Index, r1_0, r1_1]] w fun e w' => e = .returned (.bool r) ∧ St w0 w' I [] R := by {
 unfold ref11_SameReply at hm
 refine calls_start (args := [.agg #[I6 a0.E, U6 a0.Epoch, U6 a0.Index, r0_0, r0_1], .agg #[I6 a1.E, U6 a1.Epoch, U6 a1.Index, r1_0, r1_1]]) func32 z ntmps32 (Nat.le_of_ble_eq_true z) ?_
 refine wp_seq (wrl ?_)
 obtain ⟨b1030, w1031, ew1032, eb1033, hst⟩ := hst.box [I6 a0.E, U6 a0.Epoch, U6 a0.Index, r0_0, r0_1] 33
 refine wl_run (v := Pt b1030 0) (w' := w1031) z z (x_al (by kernel_rfl) ew1032 eb1033) ?_
 obtain ⟨b1035, w1036, ew1037, eb1038, hst⟩ := hst.box [I6 a1.E, U6 a1.Epoch, U6 a1.Index, r1_0, r1_1] 33
 refine wl_run (v := Pt b1035 0) (w' := w1036) z z (x_al (by kernel_rfl) ew1037 eb1038) ?_
 refine wv (.bool false) z z z (wl_nil (tn (wp_seq (wp_seq (wrl (wv (Pt b1030 0) z z (x_field z underlying33 z sizeOf29 z) (wv (.int .i64 a0.E) z z (x_load z isAgg29 (hst.bc1 z)) (wv (Pt b1035 0) z z (x_field z underlying33 z sizeOf29 z) (wv (.int .i64 a1.E) z z (x_load z isAgg29 (hst.bc0 z)) (wv (.bool (a0.E != a1.E)) z z z (wv (.bool (a0.E != a1.E)) z z z ?_)))))))))))
 refine bsplit (a0.E != a1.E) (fun hc1040 => ?_) (fun hc1040 => ?_)
 {
 replace hm := bif_t hc1040 hm
 refine wo hc1040 z z z z z z (wo hc1040 z z z z z z (wo hc1040 z z z z z z (wo hc1040 z z z z z z (wo hc1040 z z z z z z (wv (.bool true) z z (x_pick_t hc1040 z z) (wv (.bool true) z z z (wz z z z z z z (wz z z z z z z (wz z z z z z z (wz z z z z z z (wz z z z z z z (wv (.bool true) z z (x_pick_t z z z) ?_))))))))))))
 refine wv (.bool true) z z z (wz z z z z z z (wz z z z z z z (wz z z z z z z (wz z z z z z z (wz z z z z z z (wz z z z z z z (wv (.bool true) z z (x_pick_t z z z) (wv (.bool true) z z z (wz z z z z z z (wz z z z z z z (wz z z z z z z (wz z z z z z z ?_))))))))))))
 refine wz z z z z z z (wz z z z z z z (wz z z z z z z (wv (.bool true) z z (x_pick_t z z z) (wl_nil (tn ?_)))))
 refine wp_ift z ?_
 refine wp_seq (wrl (wv (.bool false) z z z (wl_nil (tn (wp_ret (then_r ?_))))))
 obtain rfl := some_inj hm
 refine post_ret (vs := [.bool false]) results32 (rvs_cons (rv_tmp z) rvs_nil) ?_
 exact ⟨z, hst.keep0⟩
}
 {
 replace hm := bif_f hc1040 hm
 refine wv (Pt b1030 1) ((wanted_eq z z z (cvb hc1040)).trans z) z (x_field z underlying33 z sizeOf26 z) (wv (.int .u64 a0.Epoch) ((wanted_eq z z z (cvb hc1040)).trans z) z (x_load z isAgg26 (hst.bc1 z)) (wv (Pt b1035 1) ((wanted_eq z z z (cvb hc1040)).trans z) z (x_field z underlying33 z sizeOf26 z) (wv (.int .u64 a1.Epoch) ((wanted_eq z z z (cvb hc1040)).trans z) z (x_load z isAgg26 (hst.bc0 z)) (wv (.bool (a0.Epoch != a1.Epoch)) ((wanted_eq z z z (cvb hc1040)).trans z) z z (wv (.bool (a0.Epoch != a1.Epoch)) z z (x_pick_f hc1040 z z) (wv (.bool (a0.Epoch != a1.Epoch)) z z z ?_))))))
 refine bsplit (a0.Epoch != a1.Epoch) (fun hc1041 => ?_) (fun hc1041 => ?_)
 {
 replace hm := bif_t hc1041 hm
 refine wo hc1041 z z z z z z (wo hc1041 z z z z z z (wo hc1041 z z z z z z (wo hc1041 z z z z z z (wo hc1041 z z z z z z (wv (.bool true) z z (x_pick_t hc1041 z z) (wv (.bool true) z z z (wz z z z z z z (wz z z z z z z (wz z z z z z z (wz z z z z z z (wz z z z z z z (wz z z z z z z ?_))))))))))))
 refine wv (.bool true) z z (x_pick_t z z z) (wv (.bool true) z z z (wz z z z z z z (wz z z z z z z (wz z z z z z z (wz z z z z z z (wz z z z z z z (wz z z z z z z (wz z z z z z z (wv (.bool true) z z (x_pick_t z z z) (wl_nil (tn ?_)))))))))))
 refine wp_ift z ?_
 refine wp_seq (wrl (wv (.bool false) z z z (wl_nil (tn (wp_ret (then_r ?_))))))
 obtain rfl := some_inj hm
 refine post_ret (vs := [.bool false]) results32 (rvs_cons (rv_tmp z) rvs_nil) ?_
 exact ⟨z, hst.keep0⟩
}
 {
 replace hm := bif_f hc1041 hm
 refine wv (Pt b1030 2) ((wanted_eq z z z (cvb hc1041)).trans z) z (x_field z underlying33 z sizeOf26 z) (wv (.int .u64 a0.Index) ((wanted_eq z z z (cvb hc1041)).trans z) z (x_load z isAgg26 (hst.bc1 z)) (wv (Pt b1035 2) ((wanted_eq z z z (cvb hc1041)).trans z) z (x_field z underlying33 z sizeOf26 z) (wv (.int .u64 a1.Index) ((wanted_eq z z z (cvb hc1041)).trans z) z (x_load z isAgg26 (hst.bc0 z)) (wv (.bool (a0.Index != a1.Index)) ((wanted_eq z z z (cvb hc1041)).trans z) z z (wv (.bool (a0.Index != a1.Index)) z z (x_pick_f hc1041 z z) (wv (.bool (a0.Index != a1.Index)) z z z ?_))))))
 refine bsplit (a0.Index != a1.Index) (fun hc1042 => ?_) (fun hc1042 => ?_)
 {
 replace hm := bif_t hc1042 hm
 refine wo hc1042 z z z z z z (wo hc1042 z z z z z z (wo hc1042 z z z z z z (wo hc1042 z z z z z z (wo hc1042 z z z z z z (wo hc1042 z z z z z z (wv (.bool true) z z (x_pick_t hc1042 z z) (wv (.bool true) z z z (wz z z z z z z (wz z z z z z z (wz z z z z z z (wz z z z z z z (wz z z z z z z ?_))))))))))))
 refine wz z z z z z z (wz z z z z z z (wv (.bool true) z z (x_pick_t z z z) (wl_nil (tn ?_))))
 refine wp_ift z ?_
 refine wp_seq (wrl (wv (.bool false) z z z (wl_nil (tn (wp_ret (then_r ?_))))))
 obtain rfl := some_inj hm
 refine post_ret (vs := [.bool false]) results32 (rvs_cons (rv_tmp z) rvs_nil) ?_
 exact ⟨z, hst.keep0⟩
}
 {
 replace hm := bif_f hc1042 hm
 refine wv (Pt b1030 3) ((wanted_eq z z z (cvb hc1042)).trans z) z (x_field z underlying33 z sizeOf30 z) (wv (r0_0) ((wanted_eq z z z (cvb hc1042)).trans z) z (x_load z isAgg30 (hst.bc1 z)) (wv (Pt b1035 3) ((wanted_eq z z z (cvb hc1042)).trans z) z (x_field z underlying33 z sizeOf30 z) (wv (r1_0) ((wanted_eq z z z (cvb hc1042)).trans z) z (x_load z isAgg30 (hst.bc0 z)) ?_)))
 obtain ⟨t1043, ht1044, hm⟩ := bind_some hm
 refine wl_call ((wanted_eq z z z (cvb hc1042)).trans z) z (x_call call78 z (vs := [r0_0, r1_0]) z) ?_
 refine (ref11_SameGots_ref (f0_0.mono (rd_weak _)) (f1_0.mono (rd_weak _)) hst.to0 ht1044).mono ?_
 rintro _ w1045 ⟨rfl, hst⟩
 refine ⟨_, z, ?_⟩
 replace hst := hst.of0
 refine wv (.bool (!t1043)) ((wanted_eq z z z (cvb hc1042)).trans z) z z (wv (.bool (!t1043)) z z (x_pick_f hc1042 z z) (wv (.bool (!t1043)) z z z ?_))
 refine bsplit (!t1043) (fun hc1048 => ?_) (fun hc1048 => ?_)
 {
 replace hm := bif_t hc1048 hm
 refine wo hc1048 z z z z z z (wo hc1048 z z z z z z (wo hc1048 z z z z z z (wo hc1048 z z z z z z (wo hc1048 z z z z z z (wo hc1048 z z z z z z (wo hc1048 z z z z z z (wv (.bool true) z z (x_pick_t hc1048 z z) (wl_nil (tn ?_)))))))))
 refine wp_ift z ?_
 refine wp_seq (wrl (wv (.bool false) z z z (wl_nil (tn (wp_ret (then_r ?_))))))
 obtain rfl := some_inj hm
 refine post_ret (vs := [.bool false]) results32 (rvs_cons (rv_tmp z) rvs_nil) ?_
 exact ⟨z, hst.keep0⟩
}
 {
 replace hm := bif_f hc1048 hm
 refine wv (Pt b1030 4) ((wanted_eq z z z (cvb hc1048)).trans z) z (x_field z underlying33 z sizeOf31 z) (wv (r0_1) ((wanted_eq z z z (cvb hc1048)).trans z) z (x_load z isAgg31 (hst.bc1 z)) (wv (.int .i64 ((a0.Scans).length : Int)) ((wanted_eq z z z (cvb hc1048)).trans z) z (x_len z underlying31 (rd_sliceV f0_1)) (wv (Pt b1035 4) ((wanted_eq z z z (cvb hc1048)).trans z) z (x_field z underlying33 z sizeOf31 z) (wv (r1_1) ((wanted_eq z z z (cvb hc1048)).trans z) z (x_load z isAgg31 (hst.bc0 z)) (wv (.int .i64 ((a1.Scans).length : Int)) ((wanted_eq z z z (cvb hc1048)).trans z) z (x_len z underlying31 (rd_sliceV f1_1)) (wv (.bool (((a0.Scans).length : Int) != ((a1.Scans).length : Int))) ((wanted_eq z z z (cvb hc1048)).trans z) z z (wv (.bool (((a0.Scans).length : Int) != ((a1.Scans).length : Int))) z z (x_pick_f hc1048 z z) (wl_nil (tn ?_)))))))))
 refine bsplit (((a0.Scans).length : Int) != ((a1.Scans).length : Int)) (fun hc1049 => ?_) (fun hc1049 => ?_)
 {
 replace hm := bif_t hc1049 hm
 refine wp_ift (cvb hc1049) ?_
 refine wp_seq (wrl (wv (.bool false) z z z (wl_nil (tn (wp_ret (then_r ?_))))))
 obtain rfl := some_inj hm
 refine post_ret (vs := [.bool false]) results32 (rvs_cons (rv_tmp z) rvs_nil) ?_
 exact ⟨z, hst.keep0⟩
}
 {
 replace hm := bif_f hc1049 hm
 refine wp_iff (cvb hc1049) ?_
 refine wp_skip (tn (wp_seq (wp_seq (wrl ?_))))
 refine wv (.int .i64 (0:Int)) z z z (wl_nil (tn (wp_block ?_)))
 obtain ⟨n1111, hm⟩ := loopO_some hm
 refine wp_loop_n (fun n a w => ∃ (z1109 : Int) (σ1110 : Nat → Value), loopN (ref11_SameReply_l0 a0 a1) n z1109 = some r ∧ a = Fr 61 (upd (upd (upd σ1110 2 (Pt b1030 0)) 3 (Pt b1035 0)) 5 (.int .i64 z1109)) ∧ St w0 w I [cells b1035 [I6 a1.E, U6 a1.Epoch, U6 a1.Index, r1_0, r1_1], cells b1030 [I6 a0.E, U6 a0.Epoch, U6 a0.Index, r0_0, r0_1]] R) n1111 ⟨(0:Int), _, hm, (fu 2 (Pt b1030 0) z (fu 3 (Pt b1035 0) z (fu 5 (.int .i64 (0:Int)) z z))), hst⟩ ?_
 rintro n1117 _ w1112 ⟨z1109, σ1110, hm, rfl, hst⟩
 obtain ⟨n1114, y1115, rfl, hm, hx1116⟩ := loopN_some hm
 dsimp only [ref11_SameReply_l0] at hm
 refine wp_seq (wp_seq (wrl (wv (.int .i64 z1109) z z z (wv (Pt b1030 4) z z (x_field z underlying33 z sizeOf31 z) (wv (r0_1) z z (x_load z isAgg31 (hst.bc1 z)) (wv (.int .i64 ((a0.Scans).length : Int)) z z (x_len z underlying31 (rd_sliceV f0_1)) (wv (.bool (decide (z1109 < ((a0.Scans).length : Int)))) z z z (wl_nil (tn ?_)))))))))
 refine bsplit (decide (z1109 < ((a0.Scans).length : Int))) (fun hc1118 => ?_) (fun hc1118 => ?_)
 {
 replace hm := bif_t hc1118 hm
 refine wp_ift (cvb hc1118) ?_
 refine wp_skip (tn (wp_seq (wp_block (wp_seq ?_))))
 refine wp_region_St hst 12 [0, 1, 2, 3, 4, 5, 6, 7, 8, 9, 10, 11] [0, 1, 0, 7, 15, 0, 32, 0, 224, 480, 1023, 2047] [] z (by kernel_rfl) (by kernel_rfl) Tryz.mixed (by kernel_rfl) ?_
 refine wsr (Pt b1030 4) 0 z z z (by kernel_rfl) (fun w hst => x_field z underlying33 z sizeOf31 z) (wsr (r0_1) 1 z z z (by kernel_rfl) (fun w hst => x_load z isAgg31 (hst.bc1 z)) (wsr (.int .i64 z1109) 2 z z z (by kernel_rfl) (fun w hst => z) ?_))
 obtain ⟨x1119, hx1120, hm⟩ := bind_some hm
 obtain ⟨h1121, h1122, hi1123⟩ := geto_some hx1120
 refine wsr (.pointer (some (eAddr r0_1 (z1109.toNat * 1 + 0)))) 3 z z z (by kernel_rfl) (fun w hst => x_index z z underlying31 sizeOf81 (rd_sliceV f0_1) h1121 h1122) ?_
 obtain ⟨cs1124, hr1125, hc1126⟩ := Rd.getF f0_1 hi1123
 obtain ⟨v1127, rfl, f1128, -⟩ := hr1125
 refine wsr (v1127) 4 z z z (by kernel_rfl) (fun w hst => x_load z isAgg81 ((hc1126 (HL.le.refl _) hst) 0 _ z)) (wsr (Pt b1035 4) 5 z z z (by kernel_rfl) (fun w hst => x_field z underlying33 z sizeOf31 z) (wsr (r1_1) 6 z z z (by kernel_rfl) (fun w hst => x_load z isAgg31 (hst.bc0 z)) (wsr (.int .i64 z1109) 7 z z z (by kernel_rfl) (fun w hst => z) ?_)))
 obtain ⟨x1130, hx1131, hm⟩ := bind_some hm
 obtain ⟨h1132, h1133, hi1134⟩ := geto_some hx1131
 refine wsr (.pointer (some (eAddr r1_1 (z1109.toNat * 1 + 0)))) 8 z z z (by kernel_rfl) (fun w hst => x_index z z underlying31 sizeOf81 (rd_sliceV f1_1) h1132 h1133) ?_
 obtain ⟨cs1135, hr1136, hc1137⟩ := Rd.getF f1_1 hi1134
 obtain ⟨v1138, rfl, f1139, -⟩ := hr1136
 refine wsr (v1138) 9 z z z (by kernel_rfl) (fun w hst => x_load z isAgg81 ((hc1137 (HL.le.refl _) hst) 0 _ z)) ?_
 refine ws_e1 10 (by kernel_rfl) ?_
 refine nxe [11] (by kernel_rfl) z z ?_
 clear hst
 intro w hst
 obtain ⟨t1141, ht1142, hm⟩ := bind_some hm
 refine wec call79 [v1127, v1138] z z ?_
 refine (ref11_SamePairs_ref (f1128.mono (rd_weak _)) (f1139.mono (rd_weak _)) hst.to0 ht1142).mono ?_
 rintro _ w1143 ⟨rfl, hst⟩
 refine ⟨_, z, ?_⟩
 replace hst := hst.of0
 refine ws_next (pend' := []) hst (by kernel_rfl) pk_nil ?_
 refine wsr (.bool (!t1141)) 11 z z z (by kernel_rfl) (fun w hst => z) ?_
 refine ws_nil ?_
 intro w hst
 refine tn ?_
 refine bsplit (!t1141) (fun hc1146 => ?_) (fun hc1146 => ?_)
 {
 replace hm := bif_t hc1146 hm
 refine wp_ift (cvb hc1146) ?_
 refine wp_seq (wrl (wv (.bool false) z z z (wl_nil (tn (wp_ret (blk_r (then_r (then_r ?_))))))))
 replace hm := inr_up hm hx1116
 refine blk_r (then_r ?_)
 obtain rfl := some_inj hm
 refine post_ret (vs := [.bool false]) results32 (rvs_cons (rv_tmp z) rvs_nil) ?_
 exact ⟨z, hst.keep0⟩
}
 {
 replace hm := bif_f hc1146 hm
 refine wp_iff (cvb hc1146) ?_
 refine wp_skip (blk_n (tn (wrl ?_)))
 refine wv (.int .i64 z1109) z z z (wv (.int .i64 (i64.wrap (z1109 + (1:Int)))) z z z (wv (.int .i64 (i64.wrap (z1109 + (1:Int)))) z z z (wl_nil (tn ?_))))
 replace hst := hst.pull1.pull1.keep2
 obtain rfl := some_inj hm
 exact ⟨_, Nat.lt_succ_self _, (i64.wrap (z1109 + (1:Int))), _, hx1116, (fu 2 (Pt b1030 0) z (fu 3 (Pt b1035 0) z (fu 5 (.int .i64 (i64.wrap (z1109 + (1:Int)))) z z))), hst⟩
}
}
 {
 replace hm := bif_f hc1118 hm
 refine wp_iff (cvb hc1118) ?_
 refine wp_exit (then_x (then_x ?_))
 replace hm := inr_up hm hx1116
 refine blk_x (tn (wp_seq (wrl ?_)))
 refine wv (.bool true) z z z (wl_nil (tn (wp_ret ?_)))
 obtain rfl := some_inj hm
 refine post_ret (vs := [.bool true]) results32 (rvs_cons (rv_tmp z) rvs_nil) ?_
 exact ⟨z, hst.keep0⟩
}
}
}
}
}
}
}

theorem law16_LaneReads_ref {w0 w : World} {I : HL} {R : SP} {a0 : (List Int)} {r0_0 : Value} {a1 : Nat} {a2 : Nat} (f0_0 : Ro (tyInt .u8) I r0_0 a0) (hst : St w0 w I [] R) {r : (Bool)} (hm : law16_LaneReads a0 a1 a2 = some r) :
  Calls prog 8 #[r0_0, F6 a1, F6 a2] w fun e w' => ∃ (I' : HL), e = .returned (.bool r) ∧ I.le I' ∧ St w0 w' I' [] R := by {
 unfold law16_LaneReads at hm
 refine calls_start (args := [r0_0, F6 a1, F6 a2]) func8 z ntmps8 (Nat.le_of_ble_eq_true z) ?_
 have hI0 := HL.le.refl I
 refine wp_seq (wrl (wv (.bool false) z z z (wl_nil (tn (wp_seq (wp_seq (wrl ?_)))))))
 obtain ⟨t950, ht951, hm⟩ := bind_some hm
 refine wc call12 [] z z z ?_
 refine (law16_awake_ref hst.to0 ht951).mono ?_
 rintro _ w952 ⟨I953, rfl, hI954, hst⟩
 refine ⟨_, z, ?_⟩
 replace hst := hst.of0
 replace f0_0 := f0_0.mono (ro_le hI954)
 replace hI0 := hI0.trans hI954
 refine wv (.bool (!t950)) z z z (wv (.bool (!t950)) z z z ?_)
 refine bsplit (!t950) (fun hc955 => ?_) (fun hc955 => ?_)
 {
 replace hm := bif_t hc955 hm
 refine wo hc955 z z z z z z (wo hc955 z z z z z z (wo hc955 z z z z z z (wv (.bool true) z z (x_pick_t hc955 z z) (wl_nil (tn ?_)))))
 refine wp_ift z ?_
 refine wp_seq (wrl ?_)
 obtain ⟨t956, ht957, hm⟩ := bind_some hm
 refine wc call12 [] z z z ?_
 refine (law16_awake_ref hst.to0 ht957).mono ?_
 rintro _ w958 ⟨I959, rfl, hI960, hst⟩
 refine ⟨_, z, ?_⟩
 replace hst := hst.of0
 replace f0_0 := f0_0.mono (ro_le hI960)
 replace hI0 := hI0.trans hI960
 refine wv (.bool t956) z z z (wl_nil (tn (wp_ret (then_r ?_))))
 obtain rfl := some_inj hm
 refine post_ret (vs := [.bool t956]) results8 (rvs_cons (rv_tmp z) rvs_nil) ?_
 exact ⟨_, z, hI0, hst.keep0⟩
}
 {
 replace hm := bif_f hc955 hm
 refine wv (r0_0) ((wanted_eq z z z (cvb hc955)).trans z) z z (wv (.int .i64 ((a0).length : Int)) ((wanted_eq z z z (cvb hc955)).trans z) z (x_len z underlying22 (ro_sliceV f0_0)) (wv (.bool (decide (((a0).length : Int) > (300:Int)))) ((wanted_eq z z z (cvb hc955)).trans z) z z (wv (.bool (decide (((a0).length : Int) > (300:Int)))) z z (x_pick_f hc955 z z) (wl_nil (tn ?_)))))
 refine bsplit (decide (((a0).length : Int) > (300:Int))) (fun hc961 => ?_) (fun hc961 => ?_)
 {
 replace hm := bif_t hc961 hm
 refine wp_ift (cvb hc961) ?_
 refine wp_seq (wrl ?_)
 obtain ⟨t962, ht963, hm⟩ := bind_some hm
 refine wc call12 [] z z z ?_
 refine (law16_awake_ref hst.to0 ht963).mono ?_
 rintro _ w964 ⟨I965, rfl, hI966, hst⟩
 refine ⟨_, z, ?_⟩
 replace hst := hst.of0
 replace f0_0 := f0_0.mono (ro_le hI966)
 replace hI0 := hI0.trans hI966
 refine wv (.bool t962) z z z (wl_nil (tn (wp_ret (then_r ?_))))
 obtain rfl := some_inj hm
 refine post_ret (vs := [.bool t962]) results8 (rvs_cons (rv_tmp z) rvs_nil) ?_
 exact ⟨_, z, hI0, hst.keep0⟩
}
 {
 replace hm := bif_f hc961 hm
 refine wp_iff (cvb hc961) ?_
 refine wp_skip (tn (wp_seq (wrl ?_)))
 refine wv (r0_0) z z z (wv (.agg #[r0_0, Zi]) z z (by obtain ⟨_, _, hv_, _⟩ := (ro_sliceV f0_0); rw [hv_]; kernel_rfl) ?_)
 obtain ⟨b968, w969, ew970, eb971, hst⟩ := hst.box [r0_0, Zi] 74
 refine wl_run (v := Pt b968 0) (w' := w969) z z (x_al (by kernel_rfl) ew970 eb971) ?_
 refine wv (Pt b968 0) z z z (wl_nil (tn (wp_seq (wrl ?_))))
 obtain ⟨t973, ht974, hm⟩ := bind_some hm
 refine wc call13 [Zi] z z z ?_
 refine (lane_New_ref hst.to0 ht974).mono ?_
 rintro _ w975 ⟨v978, rfl, hst⟩
 refine ⟨_, z, ?_⟩
 replace hst := hst.of1
 refine wv (v978) z z z (wl_nil (tn (wp_seq (wrl ?_))))
 obtain ⟨t980, ht981, hm⟩ := bind_some hm
 refine wc call26 [Zi] z z z ?_
 refine (ref16_New_ref hst.to0 ht981).mono ?_
 rintro _ w982 ⟨v985, rfl, hst⟩
 refine ⟨_, z, ?_⟩
 replace hst := hst.of1
 refine wv (v985) z z z (wl_nil (tn ?_))
 obtain ⟨y1810, hm, hx1811⟩ := bind_some hm
 refine wp_cut (fun a w => ∃ (I1807 : HL) (z1805 : lane_State) (z1806 : ref16_State) (σ1808 : Nat → Value), (law16_LaneReads_j0 a1 a2) (z1805, z1806) = some r ∧ a = Fr 105 (upd (upd (upd (upd σ1808 1 (.float .f64 a1)) 2 (.float .f64 a2)) 8 (v978)) 9 (v985)) ∧ I953.le I1807 ∧ St w0 w I1807 [at_lane_State v978 z1805, at_ref16_State v985 z1806] R) ?_ ?_
 {
 have hL1812 := HL.le.refl I953
 refine wp_seq (wrl (wv (.int .i64 (0:Int)) z z z (wl_nil (tn (wp_block ?_)))))
 replace hst := hst.pull2
 replace hst := at_ref12_Tape_close (pv := Pt b968 0) (x := ({ L := a0, I := (0:Int) } : ref12_Tape)) hst ⟨z, f0_0⟩
 obtain ⟨n1531, hm⟩ := loopO_some hm
 refine wp_loop_n (fun n a w => ∃ (I1529 : HL) (z1525 : ref12_Tape) (z1526 : lane_State) (z1527 : ref16_State) (z1528 : Int) (σ1530 : Nat → Value), loopN (law16_LaneReads_l1) n (z1525, z1526, z1527, z1528) = some y1810 ∧ a = Fr 105 (upd (upd (upd (upd (upd (upd σ1530 1 (.float .f64 a1)) 2 (.float .f64 a2)) 7 (Pt b968 0)) 8 (v978)) 9 (v985)) 10 (.int .i64 z1528)) ∧ I953.le I1529 ∧ St w0 w I1529 [at_ref12_Tape (Pt b968 0) z1525, at_ref16_State v985 z1527, at_lane_State v978 z1526] R) n1531 ⟨_, ({ L := a0, I := (0:Int) } : ref12_Tape), t973, t980, (0:Int), _, hm, (fu 1 (.float .f64 a1) z (fu 2 (.float .f64 a2) z (fu 7 (Pt b968 0) z (fu 8 v978 z (fu 9 v985 z (fu 10 (.int .i64 (0:Int)) z z)))))), (HL.le.refl _), hst⟩ ?_
 rintro n1537 _ w1532 ⟨I1529, z1525, z1526, z1527, z1528, σ1530, hm, rfl, hL1533, hst⟩
 obtain ⟨n1534, y1535, rfl, hm, hx1536⟩ := loopN_some hm
 dsimp only [law16_LaneReads_l1] at hm
 replace f0_0 := f0_0.mono (ro_le hL1533)
 replace hI0 := hI0.trans hL1533
 replace hL1812 := hL1812.trans hL1533
 refine wp_seq (wp_seq (wrl (wv (.int .i64 z1528) z z z (wv (.bool (decide (z1528 < (10:Int)))) z z z (wl_nil (tn ?_))))))
 refine bsplit (decide (z1528 < (10:Int))) (fun hc1538 => ?_) (fun hc1538 => ?_)
 {
 replace hm := bif_t hc1538 hm
 refine wp_ift (cvb hc1538) ?_
 refine wp_skip (tn (wp_seq (wp_block (wp_seq (wrl ?_)))))
 refine wv (Pt b968 0) z z z ?_
 obtain ⟨t1539, ht1540, hm⟩ := bind_some hm
 refine wc call27 [Pt b968 0] z z z ?_
 refine (ref12_Tape_Of_ref hst.to1 ht1540).mono ?_
 rintro _ w1541 ⟨rfl, hst⟩
 refine ⟨_, z, ?_⟩
 replace hst := hst.of1
 obtain ⟨b1544, w1545, ew1546, eb1547, hst⟩ := hst.box [Zu, Zu] 28
 refine wl_run (v := Pt b1544 0) (w' := w1545) z z (x_al (by kernel_rfl) ew1546 eb1547) ?_
 obtain ⟨w1549, hr1550, hst⟩ := hst.bx [U6 t1539.1.Session, U6 t1539.1.Seq] sizeOf28 z (oC z (oC z oN)) (by kernel_rfl)
 refine wl_unit z z (x_unit hr1550) ?_
 refine wl_nil (tn (wp_seq ?_))
 obtain ⟨y1665, hm, hx1666⟩ := bind_some hm
 refine wp_mid (fun a w => ∃ (z1657 : ref12_Tape) (z1662 : (List Nat)) (b1659 : Nat) (v1661 : Value) (σ1663 : Nat → Value), (law16_LaneReads_j2 z1526 t1539 z1527 z1528) (z1657, z1662) = some y1535 ∧ a = Fr 105 (upd (upd (upd (upd (upd (upd (upd (upd σ1663 1 (.float .f64 a1)) 2 (.float .f64 a2)) 7 (Pt b968 0)) 8 (v978)) 9 (v985)) 10 (.int .i64 z1528)) 11 (Pt b1544 0)) 12 (Pt b1659 0)) ∧ St w0 w I1529 [at_ref12_Tape (Pt b968 0) z1657, at_lane_State v978 z1526, at_ref16_State v985 z1527, cells b1544 [U6 t1539.1.Session, U6 t1539.1.Seq], cells b1659 [U1 (2:Int), Zu, Zu, Zu, Zu, Zi, U6 t1539.1.Session, U6 t1539.1.Seq, U6 (1:Int), Zs, Zs, v1661, Zs, Zs, Zi, Zu, Zu, Zs, Zs, Zu, Zs, Zu, Zi, Zi, Zf, Zf, Zu, Zi, .bool false], ownS tyF64 v1661 z1662] R) ?_ ?_
 {
 refine wp_region_St hst 8 [0, 1, 2, 3, 4, 5, 6, 7] [0, 0, 2, 6, 15, 31, 0, 127] [] z (by kernel_rfl) (by kernel_rfl) Tryz.mixed (by kernel_rfl) ?_
 refine wsr (.agg #[U6 t1539.1.Session, U6 t1539.1.Seq]) 0 z z z (by kernel_rfl) (fun w hst => x_loadN (cs := [U6 t1539.1.Session, U6 t1539.1.Seq]) z isAgg28 sizeOf28 (hst.bcs0 0 z)) (wsr (Pt b968 0) 1 z z z (by kernel_rfl) (fun w hst => z) ?_)
 refine ws_e2 2 6 (by kernel_rfl) ?_ ?_
 {
 refine nxe [3, 4, 5, 6, 7] (by kernel_rfl) z z ?_
 clear hst
 intro w hst
 replace hst := hst.pull1
 obtain ⟨t1551, ht1552, hm⟩ := bind_some hm
 refine wec call28 [Pt b968 0] z z ?_
 refine (ref12_Tape_Float_ref hst.to1 ht1552).mono ?_
 rintro _ w1553 ⟨rfl, hst⟩
 refine ⟨_, z, ?_⟩
 replace hst := hst.of1
 refine ws_next (pend' := [(0, .agg #[U6 t1539.1.Session, U6 t1539.1.Seq])]) hst (by kernel_rfl) (pkr z z (fun w hst => x_loadN (cs := [U6 t1539.1.Session, U6 t1539.1.Seq]) z isAgg28 sizeOf28 (hst.bcs1 0 z)) pk_nil) ?_
 refine ws_e2 3 6 (by kernel_rfl) ?_ ?_
 {
 refine nxe [4, 5, 6, 7] (by kernel_rfl) z z ?_
 clear hst
 intro w hst
 obtain ⟨b1556, w1557, ew1558, eb1559, hst⟩ := hst.lits (E := tyF64) (xs := [t1551.1]) [[F6 t1551.1]] 37 1 z (Reps.cons z Reps.nil)
 refine we_run (v := (.slice (some ⟨b1556, 0, none⟩) 1 1)) (w' := w1557) z (x_als (by kernel_rfl) ew1558 eb1559) ?_
 refine ws_next (pend' := [(0, .agg #[U6 t1539.1.Session, U6 t1539.1.Seq])]) hst (by kernel_rfl) (pkr z z (fun w hst => x_loadN (cs := [U6 t1539.1.Session, U6 t1539.1.Seq]) z isAgg28 sizeOf28 (hst.bcs2 0 z)) pk_nil) ?_
 refine wsr (.agg #[U6 t1539.1.Session, U6 t1539.1.Seq, U6 (1:Int), Zs, Zs, (.slice (some ⟨b1556, 0, none⟩) 1 1), Zs]) 4 z z z (by kernel_rfl) (fun w hst => by kernel_rfl) (wsr (.agg #[U1 (2:Int), Zu, Zu, Zu, Zu, Zi, U6 t1539.1.Session, U6 t1539.1.Seq, U6 (1:Int), Zs, Zs, (.slice (some ⟨b1556, 0, none⟩) 1 1), Zs, Zs, Zi, Zu, Zu, Zs, Zs, Zu, Zs, Zu, Zi, Zi, Zf, Zf, Zu, Zi, .bool false]) 5 z z z (by kernel_rfl) (fun w hst => by kernel_rfl) ?_)
 refine ws_e1 6 (by kernel_rfl) ?_
 refine nxe [7] (by kernel_rfl) z z ?_
 clear hst
 intro w hst
 obtain ⟨b1581, w1582, ew1583, eb1584, hst⟩ := hst.box [Zb, Zu, Zu, Zu, Zu, Zi, Zu, Zu, Zu, Zs, Zs, Zs, Zs, Zs, Zi, Zu, Zu, Zs, Zs, Zu, Zs, Zu, Zi, Zi, Zf, Zf, Zu, Zi, .bool false] 49
 refine we_run (v := Pt b1581 0) (w' := w1582) z (x_al (by kernel_rfl) ew1583 eb1584) ?_
 refine ws_next (pend' := [(5, .agg #[U1 (2:Int), Zu, Zu, Zu, Zu, Zi, U6 t1539.1.Session, U6 t1539.1.Seq, U6 (1:Int), Zs, Zs, (.slice (some ⟨b1556, 0, none⟩) 1 1), Zs, Zs, Zi, Zu, Zu, Zs, Zs, Zu, Zs, Zu, Zi, Zi, Zf, Zf, Zu, Zi, .bool false]), (4, .agg #[U6 t1539.1.Session, U6 t1539.1.Seq, U6 (1:Int), Zs, Zs, (.slice (some ⟨b1556, 0, none⟩) 1 1), Zs]), (0, .agg #[U6 t1539.1.Session, U6 t1539.1.Seq])]) hst (by kernel_rfl) (pkr z z (fun w hst => by kernel_rfl) (pkr z z (fun w hst => by kernel_rfl) (pkr z z (fun w hst => x_loadN (cs := [U6 t1539.1.Session, U6 t1539.1.Seq]) z isAgg28 sizeOf28 (hst.bcs3 0 z)) pk_nil))) ?_
 refine ws_e1 7 (by kernel_rfl) ?_
 refine nxe [] (by kernel_rfl) z z ?_
 clear hst
 intro w hst
 obtain ⟨w1586, hr1587, hst⟩ := hst.bx [U1 (2:Int), Zu, Zu, Zu, Zu, Zi, U6 t1539.1.Session, U6 t1539.1.Seq, U6 (1:Int), Zs, Zs, (.slice (some ⟨b1556, 0, none⟩) 1 1), Zs, Zs, Zi, Zu, Zu, Zs, Zs, Zu, Zs, Zu, Zi, Zi, Zf, Zf, Zu, Zi, .bool false] sizeOf49 z (oC z (oC z (oC z (oC z (oC z (oC z (oC z (oC z (oC z (oC z (oC z (oC (one_of_sliceV hst.sv1) (oC z (oC z (oC z (oC z (oC z (oC z (oC z (oC z (oC z (oC z (oC z (oC z (oC z (oC z (oC z (oC z (oC z oN))))))))))))))))))))))))))))) (by kernel_rfl)
 refine we_unit z (x_unit hr1587) ?_
 refine ws_next (pend' := []) hst (by kernel_rfl) pk_nil ?_
 refine ws_nil ?_
 intro w hst
 refine ⟨z, ?_⟩
 replace hst := hst.pull1.pull1.pull3.pull4.pull5.pull5.keep6
 obtain rfl := some_inj hm
 exact ⟨t1551.2, ([t1551.1]), b1581, (.slice (some ⟨b1556, 0, none⟩) 1 1), _, hx1666, (fu 1 (.float .f64 a1) z (fu 2 (.float .f64 a2) z (fu 7 (Pt b968 0) z (fu 8 v978 z (fu 9 v985 z (fu 10 (.int .i64 z1528) z (fu 11 (Pt b1544 0) z (fu 12 (Pt b1581 0) z z)))))))), hst⟩
}
 {
 refine nxe [3, 4, 5, 7] (by kernel_rfl) z z ?_
 clear hst
 intro w hst
 obtain ⟨b1596, w1597, ew1598, eb1599, hst⟩ := hst.box [Zb, Zu, Zu, Zu, Zu, Zi, Zu, Zu, Zu, Zs, Zs, Zs, Zs, Zs, Zi, Zu, Zu, Zs, Zs, Zu, Zs, Zu, Zi, Zi, Zf, Zf, Zu, Zi, .bool false] 49
 refine we_run (v := Pt b1596 0) (w' := w1597) z (x_al (by kernel_rfl) ew1598 eb1599) ?_
 refine ws_next (pend' := [(0, .agg #[U6 t1539.1.Session, U6 t1539.1.Seq])]) hst (by kernel_rfl) (pkr z z (fun w hst => x_loadN (cs := [U6 t1539.1.Session, U6 t1539.1.Seq]) z isAgg28 sizeOf28 (hst.bcs2 0 z)) pk_nil) ?_
 refine ws_e1 3 (by kernel_rfl) ?_
 refine nxe [4, 5, 7] (by kernel_rfl) z z ?_
 clear hst
 intro w hst
 obtain ⟨b1601, w1602, ew1603, eb1604, hst⟩ := hst.lits (E := tyF64) (xs := [t1551.1]) [[F6 t1551.1]] 37 1 z (Reps.cons z Reps.nil)
 refine we_run (v := (.slice (some ⟨b1601, 0, none⟩) 1 1)) (w' := w1602) z (x_als (by kernel_rfl) ew1603 eb1604) ?_
 refine ws_next (pend' := [(0, .agg #[U6 t1539.1.Session, U6 t1539.1.Seq])]) hst (by kernel_rfl) (pkr z z (fun w hst => x_loadN (cs := [U6 t1539.1.Session, U6 t1539.1.Seq]) z isAgg28 sizeOf28 (hst.bcs3 0 z)) pk_nil) ?_
 refine wsr (.agg #[U6 t1539.1.Session, U6 t1539.1.Seq, U6 (1:Int), Zs, Zs, (.slice (some ⟨b1601, 0, none⟩) 1 1), Zs]) 4 z z z (by kernel_rfl) (fun w hst => by kernel_rfl) (wsr (.agg #[U1 (2:Int), Zu, Zu, Zu, Zu, Zi, U6 t1539.1.Session, U6 t1539.1.Seq, U6 (1:Int), Zs, Zs, (.slice (some ⟨b1601, 0, none⟩) 1 1), Zs, Zs, Zi, Zu, Zu, Zs, Zs, Zu, Zs, Zu, Zi, Zi, Zf, Zf, Zu, Zi, .bool false]) 5 z z z (by kernel_rfl) (fun w hst => by kernel_rfl) ?_)
 refine ws_e1 7 (by kernel_rfl) ?_
 refine nxe [] (by kernel_rfl) z z ?_
 clear hst
 intro w hst
 replace hst := hst.pull1
 obtain ⟨w1618, hr1619, hst⟩ := hst.bx [U1 (2:Int), Zu, Zu, Zu, Zu, Zi, U6 t1539.1.Session, U6 t1539.1.Seq, U6 (1:Int), Zs, Zs, (.slice (some ⟨b1601, 0, none⟩) 1 1), Zs, Zs, Zi, Zu, Zu, Zs, Zs, Zu, Zs, Zu, Zi, Zi, Zf, Zf, Zu, Zi, .bool false] sizeOf49 z (oC z (oC z (oC z (oC z (oC z (oC z (oC z (oC z (oC z (oC z (oC z (oC (one_of_sliceV hst.sv1) (oC z (oC z (oC z (oC z (oC z (oC z (oC z (oC z (oC z (oC z (oC z (oC z (oC z (oC z (oC z (oC z (oC z oN))))))))))))))))))))))))))))) (by kernel_rfl)
 refine we_unit z (x_unit hr1619) ?_
 refine ws_next (pend' := []) hst (by kernel_rfl) pk_nil ?_
 refine ws_nil ?_
 intro w hst
 refine ⟨z, ?_⟩
 replace hst := hst.pull1.pull1.pull3.pull4.pull5.pull5.keep6
 obtain rfl := some_inj hm
 exact ⟨t1551.2, ([t1551.1]), b1596, (.slice (some ⟨b1601, 0, none⟩) 1 1), _, hx1666, (fu 1 (.float .f64 a1) z (fu 2 (.float .f64 a2) z (fu 7 (Pt b968 0) z (fu 8 v978 z (fu 9 v985 z (fu 10 (.int .i64 z1528) z (fu 11 (Pt b1544 0) z (fu 12 (Pt b1596 0) z z)))))))), hst⟩
}
}
 {
 refine nxe [2, 3, 4, 5, 7] (by kernel_rfl) z z ?_
 clear hst
 intro w hst
 obtain ⟨b1628, w1629, ew1630, eb1631, hst⟩ := hst.box [Zb, Zu, Zu, Zu, Zu, Zi, Zu, Zu, Zu, Zs, Zs, Zs, Zs, Zs, Zi, Zu, Zu, Zs, Zs, Zu, Zs, Zu, Zi, Zi, Zf, Zf, Zu, Zi, .bool false] 49
 refine we_run (v := Pt b1628 0) (w' := w1629) z (x_al (by kernel_rfl) ew1630 eb1631) ?_
 refine ws_next (pend' := [(1, Pt b968 0), (0, .agg #[U6 t1539.1.Session, U6 t1539.1.Seq])]) hst (by kernel_rfl) (pkr z z (fun w hst => z) (pkr z z (fun w hst => x_loadN (cs := [U6 t1539.1.Session, U6 t1539.1.Seq]) z isAgg28 sizeOf28 (hst.bcs1 0 z)) pk_nil)) ?_
 refine ws_e1 2 (by kernel_rfl) ?_
 refine nxe [3, 4, 5, 7] (by kernel_rfl) z z ?_
 clear hst
 intro w hst
 replace hst := hst.pull2
 obtain ⟨t1633, ht1634, hm⟩ := bind_some hm
 refine wec call28 [Pt b968 0] z z ?_
 refine (ref12_Tape_Float_ref hst.to1 ht1634).mono ?_
 rintro _ w1635 ⟨rfl, hst⟩
 refine ⟨_, z, ?_⟩
 replace hst := hst.of1
 refine ws_next (pend' := [(0, .agg #[U6 t1539.1.Session, U6 t1539.1.Seq])]) hst (by kernel_rfl) (pkr z z (fun w hst => x_loadN (cs := [U6 t1539.1.Session, U6 t1539.1.Seq]) z isAgg28 sizeOf28 (hst.bcs2 0 z)) pk_nil) ?_
 refine ws_e1 3 (by kernel_rfl) ?_
 refine nxe [4, 5, 7] (by kernel_rfl) z z ?_
 clear hst
 intro w hst
 obtain ⟨b1638, w1639, ew1640, eb1641, hst⟩ := hst.lits (E := tyF64) (xs := [t1633.1]) [[F6 t1633.1]] 37 1 z (Reps.cons z Reps.nil)
 refine we_run (v := (.slice (some ⟨b1638, 0, none⟩) 1 1)) (w' := w1639) z (x_als (by kernel_rfl) ew1640 eb1641) ?_
 refine ws_next (pend' := [(0, .agg #[U6 t1539.1.Session, U6 t1539.1.Seq])]) hst (by kernel_rfl) (pkr z z (fun w hst => x_loadN (cs := [U6 t1539.1.Session, U6 t1539.1.Seq]) z isAgg28 sizeOf28 (hst.bcs3 0 z)) pk_nil) ?_
 refine wsr (.agg #[U6 t1539.1.Session, U6 t1539.1.Seq, U6 (1:Int), Zs, Zs, (.slice (some ⟨b1638, 0, none⟩) 1 1), Zs]) 4 z z z (by kernel_rfl) (fun w hst => by kernel_rfl) (wsr (.agg #[U1 (2:Int), Zu, Zu, Zu, Zu, Zi, U6 t1539.1.Session, U6 t1539.1.Seq, U6 (1:Int), Zs, Zs, (.slice (some ⟨b1638, 0, none⟩) 1 1), Zs, Zs, Zi, Zu, Zu, Zs, Zs, Zu, Zs, Zu, Zi, Zi, Zf, Zf, Zu, Zi, .bool false]) 5 z z z (by kernel_rfl) (fun w hst => by kernel_rfl) ?_)
 refine ws_e1 7 (by kernel_rfl) ?_
 refine nxe [] (by kernel_rfl) z z ?_
 clear hst
 intro w hst
 replace hst := hst.pull2
 obtain ⟨w1655, hr1656, hst⟩ := hst.bx [U1 (2:Int), Zu, Zu, Zu, Zu, Zi, U6 t1539.1.Session, U6 t1539.1.Seq, U6 (1:Int), Zs, Zs, (.slice (some ⟨b1638, 0, none⟩) 1 1), Zs, Zs, Zi, Zu, Zu, Zs, Zs, Zu, Zs, Zu, Zi, Zi, Zf, Zf, Zu, Zi, .bool false] sizeOf49 z (oC z (oC z (oC z (oC z (oC z (oC z (oC z (oC z (oC z (oC z (oC z (oC (one_of_sliceV hst.sv1) (oC z (oC z (oC z (oC z (oC z (oC z (oC z (oC z (oC z (oC z (oC z (oC z (oC z (oC z (oC z (oC z (oC z oN))))))))))))))))))))))))))))) (by kernel_rfl)
 refine we_unit z (x_unit hr1656) ?_
 refine ws_next (pend' := []) hst (by kernel_rfl) pk_nil ?_
 refine ws_nil ?_
 intro w hst
 refine ⟨z, ?_⟩
 replace hst := hst.pull1.pull1.pull3.pull4.pull5.pull5.keep6
 obtain rfl := some_inj hm
 exact ⟨t1633.2, ([t1633.1]), b1628, (.slice (some ⟨b1638, 0, none⟩) 1 1), _, hx1666, (fu 1 (.float .f64 a1) z (fu 2 (.float .f64 a2) z (fu 7 (Pt b968 0) z (fu 8 v978 z (fu 9 v985 z (fu 10 (.int .i64 z1528) z (fu 11 (Pt b1544 0) z (fu 12 (Pt b1628 0) z z)))))))), hst⟩
}
}
 {
 clear hst
 rintro _ w1667 ⟨z1657, z1662, b1659, v1661, σ1663, hm, rfl, hst⟩
 dsimp only [law16_LaneReads_j2] at hm
 refine tn (wp_seq ?_)
 obtain ⟨y1737, hm, hx1738⟩ := bind_some hm
 refine wp_mid (fun a w => ∃ (I1734 : HL) (z1728 : ref12_Tape) (z1733 : (List api_Write)) (b1730 : Nat) (v1732 : Value) (σ1735 : Nat → Value), (law16_LaneReads_j3 z1526 t1539 z1662 z1527 z1528) (z1728, z1733) = some y1535 ∧ a = Fr 105 (upd (upd (upd (upd (upd (upd (upd (upd σ1735 1 (.float .f64 a1)) 2 (.float .f64 a2)) 7 (Pt b968 0)) 8 (v978)) 9 (v985)) 10 (.int .i64 z1528)) 12 (Pt b1659 0)) 13 (Pt b1730 0)) ∧ I1529.le I1734 ∧ St w0 w I1734 [at_ref12_Tape (Pt b968 0) z1728, at_lane_State v978 z1526, at_ref16_State v985 z1527, cells b1659 [U1 (2:Int), Zu, Zu, Zu, Zu, Zi, U6 t1539.1.Session, U6 t1539.1.Seq, U6 (1:Int), Zs, Zs, v1661, Zs, Zs, Zi, Zu, Zu, Zs, Zs, Zu, Zs, Zu, Zi, Zi, Zf, Zf, Zu, Zi, .bool false], ownS tyF64 v1661 z1662, cells b1730 [U1 (3:Int), U6 t1539.1.Session, U6 t1539.1.Seq, U6 (1:Int), U6 (u64.wrap (i64.wrap (z1528 + (1:Int)))), Zi, Zu, Zu, Zu, Zs, Zs, Zs, Zs, v1732, Zi, Zu, Zu, Zs, Zs, Zu, Zs, Zu, Zi, Zi, Zf, Zf, Zu, Zi, .bool false], ownS ty_api_Write v1732 z1733] R) ?_ ?_
 {
 have hL1739 := HL.le.refl I1529
 refine wp_region_St hst 9 [0, 1, 2, 3, 4, 5, 6, 7, 8] [0, 0, 2, 6, 0, 16, 63, 0, 255] [] z (by kernel_rfl) (by kernel_rfl) Tryz.mixed (by kernel_rfl) ?_
 refine wsr (.agg #[U6 t1539.1.Session, U6 t1539.1.Seq]) 0 z z z (by kernel_rfl) (fun w hst => x_loadN (cs := [U6 t1539.1.Session, U6 t1539.1.Seq]) z isAgg28 sizeOf28 (hst.bcs3 0 z)) (wsr (.int .i64 z1528) 1 z z z (by kernel_rfl) (fun w hst => z) (wsr (.int .i64 (i64.wrap (z1528 + (1:Int)))) 2 z z z (by kernel_rfl) (fun w hst => z) (wsr (.int .u64 (u64.wrap (i64.wrap (z1528 + (1:Int))))) 3 z z z (by kernel_rfl) (fun w hst => by kernel_rfl) (wsr (Pt b968 0) 4 z z z (by kernel_rfl) (fun w hst => z) ?_))))
 refine ws_e2 5 7 (by kernel_rfl) ?_ ?_
 {
 refine nxe [6, 7, 8] (by kernel_rfl) z z ?_
 clear hst
 intro w hst
 obtain ⟨t1668, ht1669, hm⟩ := bind_some hm
 refine wec call29 [Pt b968 0] z z ?_
 refine (ref13_OfWrites_ref hst.to1 ht1669).mono ?_
 rintro _ w1670 ⟨I1671, v1673, rfl, hI1672, hst⟩
 refine ⟨_, z, ?_⟩
 replace hst := hst.of2
 replace f0_0 := f0_0.mono (ro_le hI1672)
 replace hI0 := hI0.trans hI1672
 replace hL1812 := hL1812.trans hI1672
 replace hL1533 := hL1533.trans hI1672
 replace hL1739 := hL1739.trans hI1672
 refine ws_next (pend' := [(3, U6 (u64.wrap (i64.wrap (z1528 + (1:Int))))), (2, I6 (i64.wrap (z1528 + (1:Int)))), (1, I6 z1528), (0, .agg #[U6 t1539.1.Session, U6 t1539.1.Seq])]) hst (by kernel_rfl) (pkr z z (fun w hst => by kernel_rfl) (pkr z z (fun w hst => z) (pkr z z (fun w hst => z) (pkr z z (fun w hst => x_loadN (cs := [U6 t1539.1.Session, U6 t1539.1.Seq]) z isAgg28 sizeOf28 (hst.bcs4 0 z)) pk_nil)))) ?_
 refine wsr (.agg #[U1 (3:Int), U6 t1539.1.Session, U6 t1539.1.Seq, U6 (1:Int), U6 (u64.wrap (i64.wrap (z1528 + (1:Int)))), Zi, Zu, Zu, Zu, Zs, Zs, Zs, Zs, v1673, Zi, Zu, Zu, Zs, Zs, Zu, Zs, Zu, Zi, Zi, Zf, Zf, Zu, Zi, .bool false]) 6 rfl rfl rfl (by kernel_rfl) (fun w hst => by obtain ⟨_, _, hv_, _⟩ := hst.sv0; rw [hv_]; kernel_rfl) ?_
 refine ws_e1 7 (by kernel_rfl) ?_
 refine nxe [8] (by kernel_rfl) z z ?_
 clear hst
 intro w hst
 obtain ⟨b1691, w1692, ew1693, eb1694, hst⟩ := hst.box [Zb, Zu, Zu, Zu, Zu, Zi, Zu, Zu, Zu, Zs, Zs, Zs, Zs, Zs, Zi, Zu, Zu, Zs, Zs, Zu, Zs, Zu, Zi, Zi, Zf, Zf, Zu, Zi, .bool false] 49
 refine we_run (v := Pt b1691 0) (w' := w1692) z (x_al (by kernel_rfl) ew1693 eb1694) ?_
 refine ws_next (pend' := [(6, .agg #[U1 (3:Int), U6 t1539.1.Session, U6 t1539.1.Seq, U6 (1:Int), U6 (u64.wrap (i64.wrap (z1528 + (1:Int)))), Zi, Zu, Zu, Zu, Zs, Zs, Zs, Zs, v1673, Zi, Zu, Zu, Zs, Zs, Zu, Zs, Zu, Zi, Zi, Zf, Zf, Zu, Zi, .bool false]), (3, U6 (u64.wrap (i64.wrap (z1528 + (1:Int))))), (2, I6 (i64.wrap (z1528 + (1:Int)))), (1, I6 z1528), (0, .agg #[U6 t1539.1.Session, U6 t1539.1.Seq])]) hst (by kernel_rfl) (pkr rfl rfl (fun w hst => by obtain ⟨_, _, hv_, _⟩ := hst.sv1; rw [hv_]; kernel_rfl) (pkr rfl rfl (fun w hst => by kernel_rfl) (pkr rfl rfl (fun w hst => rfl) (pkr rfl rfl (fun w hst => rfl) (pkr rfl rfl (fun w hst => x_loadN (cs := [U6 t1539.1.Session, U6 t1539.1.Seq]) rfl isAgg28 sizeOf28 (hst.bcs5 0 rfl)) pk_nil))))) ?_
 refine ws_e1 8 (by kernel_rfl) ?_
 refine nxe [] (by kernel_rfl) z z ?_
 clear hst
 intro w hst
 obtain ⟨w1696, hr1697, hst⟩ := hst.bx [U1 (3:Int), U6 t1539.1.Session, U6 t1539.1.Seq, U6 (1:Int), U6 (u64.wrap (i64.wrap (z1528 + (1:Int)))), Zi, Zu, Zu, Zu, Zs, Zs, Zs, Zs, v1673, Zi, Zu, Zu, Zs, Zs, Zu, Zs, Zu, Zi, Zi, Zf, Zf, Zu, Zi, .bool false] sizeOf49 z (oC z (oC z (oC z (oC z (oC z (oC z (oC z (oC z (oC z (oC z (oC z (oC z (oC z (oC (one_of_sliceV hst.sv1) (oC z (oC z (oC z (oC z (oC z (oC z (oC z (oC z (oC z (oC z (oC z (oC z (oC z (oC z (oC z oN))))))))))))))))))))))))))))) (by kernel_rfl)
 refine we_unit z (x_unit hr1697) ?_
 refine ws_next (pend' := []) hst (by kernel_rfl) pk_nil ?_
 refine ws_nil ?_
 intro w hst
 refine ⟨z, ?_⟩
 replace hst := hst.pull1.pull1.pull7.pull7.pull6.pull6.pull6.keep7
 obtain rfl := some_inj hm
 exact ⟨_, t1668.2, t1668.1, b1691, v1673, _, hx1738, (fu 1 (.float .f64 a1) z (fu 2 (.float .f64 a2) z (fu 7 (Pt b968 0) z (fu 8 v978 z (fu 9 v985 z (fu 10 (.int .i64 z1528) z (fu 12 (Pt b1659 0) z (fu 13 (Pt b1691 0) z z)))))))), hL1739, hst⟩
}
 {
 refine nxe [5, 6, 8] (by kernel_rfl) z z ?_
 clear hst
 intro w hst
 obtain ⟨b1706, w1707, ew1708, eb1709, hst⟩ := hst.box [Zb, Zu, Zu, Zu, Zu, Zi, Zu, Zu, Zu, Zs, Zs, Zs, Zs, Zs, Zi, Zu, Zu, Zs, Zs, Zu, Zs, Zu, Zi, Zi, Zf, Zf, Zu, Zi, .bool false] 49
 refine we_run (v := Pt b1706 0) (w' := w1707) z (x_al (by kernel_rfl) ew1708 eb1709) ?_
 refine ws_next (pend' := [(4, Pt b968 0), (3, U6 (u64.wrap (i64.wrap (z1528 + (1:Int))))), (2, I6 (i64.wrap (z1528 + (1:Int)))), (1, I6 z1528), (0, .agg #[U6 t1539.1.Session, U6 t1539.1.Seq])]) hst (by kernel_rfl) (pkr z z (fun w hst => z) (pkr z z (fun w hst => by kernel_rfl) (pkr z z (fun w hst => z) (pkr z z (fun w hst => z) (pkr z z (fun w hst => x_loadN (cs := [U6 t1539.1.Session, U6 t1539.1.Seq]) z isAgg28 sizeOf28 (hst.bcs4 0 z)) pk_nil))))) ?_
 refine ws_e1 5 (by kernel_rfl) ?_
 refine nxe [6, 8] (by kernel_rfl) z z ?_
 clear hst
 intro w hst
 replace hst := hst.pull1
 obtain ⟨t1711, ht1712, hm⟩ := bind_some hm
 refine wec call29 [Pt b968 0] z z ?_
 refine (ref13_OfWrites_ref hst.to1 ht1712).mono ?_
 rintro _ w1713 ⟨I1714, v1716, rfl, hI1715, hst⟩
 refine ⟨_, z, ?_⟩
 replace hst := hst.of2
 replace f0_0 := f0_0.mono (ro_le hI1715)
 replace hI0 := hI0.trans hI1715
 replace hL1812 := hL1812.trans hI1715
 replace hL1533 := hL1533.trans hI1715
 replace hL1739 := hL1739.trans hI1715
 refine ws_next (pend' := [(3, U6 (u64.wrap (i64.wrap (z1528 + (1:Int))))), (2, I6 (i64.wrap (z1528 + (1:Int)))), (1, I6 z1528), (0, .agg #[U6 t1539.1.Session, U6 t1539.1.Seq])]) hst (by kernel_rfl) (pkr z z (fun w hst => by kernel_rfl) (pkr z z (fun w hst => z) (pkr z z (fun w hst => z) (pkr z z (fun w hst => x_loadN (cs := [U6 t1539.1.Session, U6 t1539.1.Seq]) z isAgg28 sizeOf28 (hst.bcs5 0 z)) pk_nil)))) ?_
 refine wsr (.agg #[U1 (3:Int), U6 t1539.1.Session, U6 t1539.1.Seq, U6 (1:Int), U6 (u64.wrap (i64.wrap (z1528 + (1:Int)))), Zi, Zu, Zu, Zu, Zs, Zs, Zs, Zs, v1716, Zi, Zu, Zu, Zs, Zs, Zu, Zs, Zu, Zi, Zi, Zf, Zf, Zu, Zi, .bool false]) 6 rfl rfl rfl (by kernel_rfl) (fun w hst => by obtain ⟨_, _, hv_, _⟩ := hst.sv0; rw [hv_]; kernel_rfl) ?_
 refine ws_e1 8 (by kernel_rfl) ?_
 refine nxe [] (by kernel_rfl) z z ?_
 clear hst
 intro w hst
 replace hst := hst.pull2
 obtain ⟨w1726, hr1727, hst⟩ := hst.bx [U1 (3:Int), U6 t1539.1.Session, U6 t1539.1.Seq, U6 (1:Int), U6 (u64.wrap (i64.wrap (z1528 + (1:Int)))), Zi, Zu, Zu, Zu, Zs, Zs, Zs, Zs, v1716, Zi, Zu, Zu, Zs, Zs, Zu, Zs, Zu, Zi, Zi, Zf, Zf, Zu, Zi, .bool false] sizeOf49 z (oC z (oC z (oC z (oC z (oC z (oC z (oC z (oC z (oC z (oC z (oC z (oC z (oC z (oC (one_of_sliceV hst.sv1) (oC z (oC z (oC z (oC z (oC z (oC z (oC z (oC z (oC z (oC z (oC z (oC z (oC z (oC z (oC z oN))))))))))))))))))))))))))))) (by kernel_rfl)
 refine we_unit z (x_unit hr1727) ?_
 refine ws_next (pend' := []) hst (by kernel_rfl) pk_nil ?_
 refine ws_nil ?_
 intro w hst
 refine ⟨z, ?_⟩
 replace hst := hst.pull1.pull1.pull7.pull7.pull6.pull6.pull6.keep7
 obtain rfl := some_inj hm
 exact ⟨_, t1711.2, t1711.1, b1706, v1716, _, hx1738, (fu 1 (.float .f64 a1) z (fu 2 (.float .f64 a2) z (fu 7 (Pt b968 0) z (fu 8 v978 z (fu 9 v985 z (fu 10 (.int .i64 z1528) z (fu 12 (Pt b1659 0) z (fu 13 (Pt b1706 0) z z)))))))), hL1739, hst⟩
}
}
 {
 clear hst
 rintro _ w1740 ⟨I1734, z1728, z1733, b1730, v1732, σ1735, hm, rfl, hL1736, hst⟩
 dsimp only [law16_LaneReads_j3] at hm
 replace f0_0 := f0_0.mono (ro_le hL1736)
 replace hI0 := hI0.trans hL1736
 replace hL1812 := hL1812.trans hL1736
 replace hL1533 := hL1533.trans hL1736
 refine tn (wp_seq (wrl (wv (v978) z z z (wv (.agg #[U1 (2:Int), Zu, Zu, Zu, Zu, Zi, U6 t1539.1.Session, U6 t1539.1.Seq, U6 (1:Int), Zs, Zs, v1661, Zs, Zs, Zi, Zu, Zu, Zs, Zs, Zu, Zs, Zu, Zi, Zi, Zf, Zf, Zu, Zi, .bool false]) z z (x_loadN (cs := [U1 (2:Int), Zu, Zu, Zu, Zu, Zi, U6 t1539.1.Session, U6 t1539.1.Seq, U6 (1:Int), Zs, Zs, v1661, Zs, Zs, Zi, Zu, Zu, Zs, Zs, Zu, Zs, Zu, Zi, Zi, Zf, Zf, Zu, Zi, .bool false]) z isAgg49 sizeOf49 (hst.bcs3 0 z)) ?_))))
 replace hst := hst.pull1
 replace hst := objO_some hst
 have f1741 : Ro tyF64 I1734 (.slice none 0 0) [] := ro_nil
 have f1742 : Ro tyF2 I1734 (.slice none 0 0) [] := ro_nil
 have f1743 : Ro (tyInt .u8) I1734 (.slice none 0 0) [] := ro_nil
 have f1744 : Ro ty_api_Write I1734 (.slice none 0 0) [] := ro_nil
 have f1745 : Ro ty_api_Got I1734 (.slice none 0 0) [] := ro_nil
 have f1746 : Ro (tySl ty_api_Pair) I1734 (.slice none 0 0) [] := ro_nil
 have f1747 : Ro ty_api_Part I1734 (.slice none 0 0) [] := ro_nil
 replace hst := hst.pull4
 obtain ⟨css1748, hq1749, hst⟩ := hst.own_open
 replace hst := hst.pull1
 obtain ⟨t1750, ht1751, hm⟩ := bind_some hm
 refine wc call14 [v978, U6 (1:Int), .agg #[U1 (2:Int), Zu, Zu, Zu, Zu, Zi, U6 t1539.1.Session, U6 t1539.1.Seq, U6 (1:Int), Zs, Zs, v1661, Zs, Zs, Zi, Zu, Zu, Zs, Zs, Zu, Zs, Zu, Zi, Zi, Zf, Zf, Zu, Zi, .bool false]] z z z ?_
 refine (lane_State_Apply_ref (a2 := ({ Kind := (2:Int), ID := ({ Session := (0:Int), Seq := (0:Int) } : api_ID), Epoch := (0:Int), Index := (0:Int), E := (0:Int), Hold := ({ ID := t1539.1, Epoch := (1:Int), Gets := [], Scans := [], Puts := z1662, Data := [] } : api_Hold), Writes := [], R := zero_api_Reply, Shards := (0:Int), Parts := [], Rule := zero_api_Rule, On := false } : api_Command)) (f1741.mono ro_rd) (f1742.mono ro_rd) (hst.sub.rdrow0 hq1749) (f1743.mono ro_rd) (f1744.mono ro_rd) (f1745.mono ro_rd) (f1746.mono ro_rd) (f1747.mono ro_rd) hst.to1 ht1751).mono ?_
 rintro _ w1752 ⟨I1753, v1755, v1757, rfl, hI1754, hst⟩
 refine ⟨_, z, ?_⟩
 replace hst := hst.of3
 replace f0_0 := f0_0.mono (ro_le hI1754)
 replace f1741 := f1741.mono (ro_le hI1754)
 replace f1742 := f1742.mono (ro_le hI1754)
 replace f1743 := f1743.mono (ro_le hI1754)
 replace f1744 := f1744.mono (ro_le hI1754)
 replace f1745 := f1745.mono (ro_le hI1754)
 replace f1746 := f1746.mono (ro_le hI1754)
 replace f1747 := f1747.mono (ro_le hI1754)
 replace hI0 := hI0.trans hI1754
 replace hL1812 := hL1812.trans hI1754
 replace hL1533 := hL1533.trans hI1754
 replace hst := hst.pull3.own_close (hq1749.imp fun _ _ => Ty.mono _ (ro_le hI1754))
 replace hst := hst.pull3
 rcases he1760 : t1750.2 with _ | y1759
 · rw [he1760] at hm; cases hm
 rw [he1760] at hm hst; dsimp only at hm; replace hst := objO_get hst
 refine wl_nil (tn (wp_seq (wrl (wv (v985) z z z (wv (.agg #[U1 (2:Int), Zu, Zu, Zu, Zu, Zi, U6 t1539.1.Session, U6 t1539.1.Seq, U6 (1:Int), Zs, Zs, v1661, Zs, Zs, Zi, Zu, Zu, Zs, Zs, Zu, Zs, Zu, Zi, Zi, Zf, Zf, Zu, Zi, .bool false]) z z (x_loadN (cs := [U1 (2:Int), Zu, Zu, Zu, Zu, Zi, U6 t1539.1.Session, U6 t1539.1.Seq, U6 (1:Int), Zs, Zs, v1661, Zs, Zs, Zi, Zu, Zu, Zs, Zs, Zu, Zs, Zu, Zi, Zi, Zf, Zf, Zu, Zi, .bool false]) z isAgg49 sizeOf49 (hst.bcs6 0 z)) ?_)))))
 replace hst := hst.pull1
 obtain ⟨I1761, hI1762, f1763, hst⟩ := hst.own_fix
 replace f0_0 := f0_0.mono (ro_le hI1762)
 replace f1741 := f1741.mono (ro_le hI1762)
 replace f1742 := f1742.mono (ro_le hI1762)
 replace f1743 := f1743.mono (ro_le hI1762)
 replace f1744 := f1744.mono (ro_le hI1762)
 replace f1745 := f1745.mono (ro_le hI1762)
 replace f1746 := f1746.mono (ro_le hI1762)
 replace f1747 := f1747.mono (ro_le hI1762)
 replace hI0 := hI0.trans hI1762
 replace hL1812 := hL1812.trans hI1762
 replace hL1533 := hL1533.trans hI1762
 replace hst := hst.pull4
 obtain ⟨t1764, ht1765, hm⟩ := bind_some hm
 refine wc call30 [v985, U6 (1:Int), .agg #[U1 (2:Int), Zu, Zu, Zu, Zu, Zi, U6 t1539.1.Session, U6 t1539.1.Seq, U6 (1:Int), Zs, Zs, v1661, Zs, Zs, Zi, Zu, Zu, Zs, Zs, Zu, Zs, Zu, Zi, Zi, Zf, Zf, Zu, Zi, .bool false]] z z z ?_
 refine (ref16_State_Apply_ref (a2 := ({ Kind := (2:Int), ID := ({ Session := (0:Int), Seq := (0:Int) } : api_ID), Epoch := (0:Int), Index := (0:Int), E := (0:Int), Hold := ({ ID := t1539.1, Epoch := (1:Int), Gets := [], Scans := [], Puts := z1662, Data := [] } : api_Hold), Writes := [], R := zero_api_Reply, Shards := (0:Int), Parts := [], Rule := zero_api_Rule, On := false } : api_Command)) f1741 f1742 f1763 f1743 f1744 f1745 f1746 f1747 hst.to1 ht1765).mono ?_
 rintro _ w1766 ⟨I1767, v1769, v1771, rfl, hI1768, hst⟩
 refine ⟨_, z, ?_⟩
 replace hst := hst.of3
 replace f0_0 := f0_0.mono (ro_le hI1768)
 replace f1741 := f1741.mono (ro_le hI1768)
 replace f1742 := f1742.mono (ro_le hI1768)
 replace f1743 := f1743.mono (ro_le hI1768)
 replace f1744 := f1744.mono (ro_le hI1768)
 replace f1745 := f1745.mono (ro_le hI1768)
 replace f1746 := f1746.mono (ro_le hI1768)
 replace f1747 := f1747.mono (ro_le hI1768)
 replace f1763 := f1763.mono (ro_le hI1768)
 replace hI0 := hI0.trans hI1768
 replace hL1812 := hL1812.trans hI1768
 replace hL1533 := hL1533.trans hI1768
 refine wl_nil (tn (wp_seq (wrl (wv (v978) z z z (wv (.agg #[U1 (3:Int), U6 t1539.1.Session, U6 t1539.1.Seq, U6 (1:Int), U6 (u64.wrap (i64.wrap (z1528 + (1:Int)))), Zi, Zu, Zu, Zu, Zs, Zs, Zs, Zs, v1732, Zi, Zu, Zu, Zs, Zs, Zu, Zs, Zu, Zi, Zi, Zf, Zf, Zu, Zi, .bool false]) z z (x_loadN (cs := [U1 (3:Int), U6 t1539.1.Session, U6 t1539.1.Seq, U6 (1:Int), U6 (u64.wrap (i64.wrap (z1528 + (1:Int)))), Zi, Zu, Zu, Zu, Zs, Zs, Zs, Zs, v1732, Zi, Zu, Zu, Zs, Zs, Zu, Zs, Zu, Zi, Zi, Zf, Zf, Zu, Zi, .bool false]) z isAgg49 sizeOf49 (hst.bcs8 0 z)) ?_)))))
 replace hst := hst.pull3
 replace hst := objO_some hst
 have f1773 : Ro tyF64 I1767 (.slice none 0 0) [] := ro_nil
 have f1774 : Ro tyF2 I1767 (.slice none 0 0) [] := ro_nil
 have f1775 : Ro tyF64 I1767 (.slice none 0 0) [] := ro_nil
 have f1776 : Ro (tyInt .u8) I1767 (.slice none 0 0) [] := ro_nil
 have f1777 : Ro ty_api_Got I1767 (.slice none 0 0) [] := ro_nil
 have f1778 : Ro (tySl ty_api_Pair) I1767 (.slice none 0 0) [] := ro_nil
 have f1779 : Ro ty_api_Part I1767 (.slice none 0 0) [] := ro_nil
 replace hst := hst.pull9
 obtain ⟨css1780, hq1781, hst⟩ := hst.own_open
 replace hst := hst.pull1
 obtain ⟨t1782, ht1783, hm⟩ := bind_some hm
 refine wc call14 [v978, U6 (2:Int), .agg #[U1 (3:Int), U6 t1539.1.Session, U6 t1539.1.Seq, U6 (1:Int), U6 (u64.wrap (i64.wrap (z1528 + (1:Int)))), Zi, Zu, Zu, Zu, Zs, Zs, Zs, Zs, v1732, Zi, Zu, Zu, Zs, Zs, Zu, Zs, Zu, Zi, Zi, Zf, Zf, Zu, Zi, .bool false]] z z z ?_
 refine (lane_State_Apply_ref (a2 := ({ Kind := (3:Int), ID := t1539.1, Epoch := (1:Int), Index := (u64.wrap (i64.wrap (z1528 + (1:Int)))), E := (0:Int), Hold := zero_api_Hold, Writes := z1733, R := zero_api_Reply, Shards := (0:Int), Parts := [], Rule := zero_api_Rule, On := false } : api_Command)) (f1773.mono ro_rd) (f1774.mono ro_rd) (f1775.mono ro_rd) (f1776.mono ro_rd) (hst.sub.rdrow0 hq1781) (f1777.mono ro_rd) (f1778.mono ro_rd) (f1779.mono ro_rd) hst.to1 ht1783).mono ?_
 rintro _ w1784 ⟨I1785, v1787, v1789, rfl, hI1786, hst⟩
 refine ⟨_, z, ?_⟩
 replace hst := hst.of3
 replace f0_0 := f0_0.mono (ro_le hI1786)
 replace f1741 := f1741.mono (ro_le hI1786)
 replace f1742 := f1742.mono (ro_le hI1786)
 replace f1743 := f1743.mono (ro_le hI1786)
 replace f1744 := f1744.mono (ro_le hI1786)
 replace f1745 := f1745.mono (ro_le hI1786)
 replace f1746 := f1746.mono (ro_le hI1786)
 replace f1747 := f1747.mono (ro_le hI1786)
 replace f1763 := f1763.mono (ro_le hI1786)
 replace f1773 := f1773.mono (ro_le hI1786)
 replace f1774 := f1774.mono (ro_le hI1786)
 replace f1775 := f1775.mono (ro_le hI1786)
 replace f1776 := f1776.mono (ro_le hI1786)
 replace f1777 := f1777.mono (ro_le hI1786)
 replace f1778 := f1778.mono (ro_le hI1786)
 replace f1779 := f1779.mono (ro_le hI1786)
 replace hI0 := hI0.trans hI1786
 replace hL1812 := hL1812.trans hI1786
 replace hL1533 := hL1533.trans hI1786
 replace hst := hst.pull3.own_close (hq1781.imp fun _ _ => Ty.mono _ (ro_le hI1786))
 replace hst := hst.pull3
 rcases he1792 : t1782.2 with _ | y1791
 · rw [he1792] at hm; cases hm
 rw [he1792] at hm hst; dsimp only at hm; replace hst := objO_get hst
 refine wl_nil (tn (wrl (wv (v985) z z z (wv (.agg #[U1 (3:Int), U6 t1539.1.Session, U6 t1539.1.Seq, U6 (1:Int), U6 (u64.wrap (i64.wrap (z1528 + (1:Int)))), Zi, Zu, Zu, Zu, Zs, Zs, Zs, Zs, v1732, Zi, Zu, Zu, Zs, Zs, Zu, Zs, Zu, Zi, Zi, Zf, Zf, Zu, Zi, .bool false]) z z (x_loadN (cs := [U1 (3:Int), U6 t1539.1.Session, U6 t1539.1.Seq, U6 (1:Int), U6 (u64.wrap (i64.wrap (z1528 + (1:Int)))), Zi, Zu, Zu, Zu, Zs, Zs, Zs, Zs, v1732, Zi, Zu, Zu, Zs, Zs, Zu, Zs, Zu, Zi, Zi, Zf, Zf, Zu, Zi, .bool false]) z isAgg49 sizeOf49 (hst.bcs11 0 z)) ?_))))
 replace hst := hst.pull1
 obtain ⟨I1793, hI1794, f1795, hst⟩ := hst.own_fix
 replace f0_0 := f0_0.mono (ro_le hI1794)
 replace f1741 := f1741.mono (ro_le hI1794)
 replace f1742 := f1742.mono (ro_le hI1794)
 replace f1743 := f1743.mono (ro_le hI1794)
 replace f1744 := f1744.mono (ro_le hI1794)
 replace f1745 := f1745.mono (ro_le hI1794)
 replace f1746 := f1746.mono (ro_le hI1794)
 replace f1747 := f1747.mono (ro_le hI1794)
 replace f1763 := f1763.mono (ro_le hI1794)
 replace f1773 := f1773.mono (ro_le hI1794)
 replace f1774 := f1774.mono (ro_le hI1794)
 replace f1775 := f1775.mono (ro_le hI1794)
 replace f1776 := f1776.mono (ro_le hI1794)
 replace f1777 := f1777.mono (ro_le hI1794)
 replace f1778 := f1778.mono (ro_le hI1794)
 replace f1779 := f1779.mono (ro_le hI1794)
 replace hI0 := hI0.trans hI1794
 replace hL1812 := hL1812.trans hI1794
 replace hL1533 := hL1533.trans hI1794
 replace hst := hst.pull5
 obtain ⟨t1796, ht1797, hm⟩ := bind_some hm
 refine wc call30 [v985, U6 (2:Int), .agg #[U1 (3:Int), U6 t1539.1.Session, U6 t1539.1.Seq, U6 (1:Int), U6 (u64.wrap (i64.wrap (z1528 + (1:Int)))), Zi, Zu, Zu, Zu, Zs, Zs, Zs, Zs, v1732, Zi, Zu, Zu, Zs, Zs, Zu, Zs, Zu, Zi, Zi, Zf, Zf, Zu, Zi, .bool false]] z z z ?_
 refine (ref16_State_Apply_ref (a2 := ({ Kind := (3:Int), ID := t1539.1, Epoch := (1:Int), Index := (u64.wrap (i64.wrap (z1528 + (1:Int)))), E := (0:Int), Hold := zero_api_Hold, Writes := z1733, R := zero_api_Reply, Shards := (0:Int), Parts := [], Rule := zero_api_Rule, On := false } : api_Command)) f1773 f1774 f1775 f1776 f1795 f1777 f1778 f1779 hst.to1 ht1797).mono ?_
 rintro _ w1798 ⟨I1799, v1801, v1803, rfl, hI1800, hst⟩
 refine ⟨_, z, ?_⟩
 replace hst := hst.of3
 replace f0_0 := f0_0.mono (ro_le hI1800)
 replace f1741 := f1741.mono (ro_le hI1800)
 replace f1742 := f1742.mono (ro_le hI1800)
 replace f1743 := f1743.mono (ro_le hI1800)
 replace f1744 := f1744.mono (ro_le hI1800)
 replace f1745 := f1745.mono (ro_le hI1800)
 replace f1746 := f1746.mono (ro_le hI1800)
 replace f1747 := f1747.mono (ro_le hI1800)
 replace f1763 := f1763.mono (ro_le hI1800)
 replace f1773 := f1773.mono (ro_le hI1800)
 replace f1774 := f1774.mono (ro_le hI1800)
 replace f1775 := f1775.mono (ro_le hI1800)
 replace f1776 := f1776.mono (ro_le hI1800)
 replace f1777 := f1777.mono (ro_le hI1800)
 replace f1778 := f1778.mono (ro_le hI1800)
 replace f1779 := f1779.mono (ro_le hI1800)
 replace f1795 := f1795.mono (ro_le hI1800)
 replace hI0 := hI0.trans hI1800
 replace hL1812 := hL1812.trans hI1800
 replace hL1533 := hL1533.trans hI1800
 refine wl_nil (blk_n (tn (wrl (wv (.int .i64 z1528) z z z (wv (.int .i64 (i64.wrap (z1528 + (1:Int)))) z z z (wv (.int .i64 (i64.wrap (z1528 + (1:Int)))) z z z (wl_nil (tn ?_))))))))
 replace hst := hst.pull3.pull3.pull10.keep3
 obtain rfl := some_inj hm
 exact ⟨_, Nat.lt_succ_self _, _, z1728, y1791, t1796.2, (i64.wrap (z1528 + (1:Int))), _, hx1536, (fu 1 (.float .f64 a1) z (fu 2 (.float .f64 a2) z (fu 7 (Pt b968 0) z (fu 8 v978 z (fu 9 v985 z (fu 10 (.int .i64 (i64.wrap (z1528 + (1:Int)))) z z)))))), hL1533, hst⟩
}
}
}
 {
 replace hm := bif_f hc1538 hm
 refine wp_iff (cvb hc1538) ?_
 refine wp_exit (then_x (then_x ?_))
 replace hm := inr_up hm hx1536
 refine blk_x (tn ?_)
 replace hst := hst.pull1.pull2.keep2
 obtain rfl := some_inj hm
 exact ⟨_, z1526, z1527, _, hx1811, (fu 1 (.float .f64 a1) z (fu 2 (.float .f64 a2) z (fu 8 v978 z (fu 9 v985 z z)))), hL1812, hst⟩
}
}
 {
 clear hst
 rintro _ w1813 ⟨I1807, z1805, z1806, σ1808, hm, rfl, hL1809, hst⟩
 dsimp only [law16_LaneReads_j0] at hm
 replace f0_0 := f0_0.mono (ro_le hL1809)
 replace hI0 := hI0.trans hL1809
 refine wp_seq (wrl (wv (.float .f64 a1) z z z ?_))
 obtain ⟨b1814, w1815, ew1816, eb1817, hst⟩ := hst.lits (E := tyF64) (xs := [(0:Nat), (4607182418800017408:Nat), (4612811918334230528:Nat), a1]) [[Zf], [F6 (4607182418800017408:Nat)], [F6 (4612811918334230528:Nat)], [F6 a1]] 37 4 z (Reps.cons z (Reps.cons z (Reps.cons z (Reps.cons z Reps.nil))))
 refine wl_run (v := (.slice (some ⟨b1814, 0, none⟩) 4 4)) (w' := w1815) z z (x_als (by kernel_rfl) ew1816 eb1817) ?_
 refine wv (.float .f64 a1) z z z (wv (.float .f64 a2) z z z (wv (.agg #[F6 a1, F6 a2]) z z (by kernel_rfl) (wv (.agg #[F6 (13830554455654793216:Nat), F6 (4607182418800017408:Nat)]) z z (by kernel_rfl) ?_)))
 obtain ⟨b1819, w1820, ew1821, eb1822, hst⟩ := hst.lits (E := tyF2) (xs := [(a1, a2), ((13830554455654793216:Nat), (4607182418800017408:Nat))]) [[F6 a1, F6 a2], [F6 (13830554455654793216:Nat), F6 (4607182418800017408:Nat)]] 80 2 z (Reps.cons z (Reps.cons z Reps.nil))
 refine wl_run (v := (.slice (some ⟨b1819, 0, none⟩) 2 2)) (w' := w1820) z z (x_als (by kernel_rfl) ew1821 eb1822) ?_
 refine wv (.agg #[Zu, Zu, Zu, (.slice (some ⟨b1814, 0, none⟩) 4 4), (.slice (some ⟨b1819, 0, none⟩) 2 2), Zs, Zs]) z z (by kernel_rfl) ?_
 obtain ⟨b1832, w1833, ew1834, eb1835, hst⟩ := hst.box [Zu, Zu, Zu, Zs, Zs, Zs, Zs] 46
 refine wl_run (v := Pt b1832 0) (w' := w1833) z z (x_al (by kernel_rfl) ew1834 eb1835) ?_
 obtain ⟨w1837, hr1838, hst⟩ := hst.bx [Zu, Zu, Zu, (.slice (some ⟨b1814, 0, none⟩) 4 4), (.slice (some ⟨b1819, 0, none⟩) 2 2), Zs, Zs] sizeOf46 z (oC z (oC z (oC z (oC (one_of_sliceV hst.sv2) (oC (one_of_sliceV hst.sv1) (oC z (oC z oN))))))) (by kernel_rfl)
 refine wl_unit z z (x_unit hr1838) ?_
 refine wl_nil (tn (wp_seq (wrl (wv (v978) z z z (wv (.float .f64 a1) z z z (wv (.float .f64 a2) z z z ?_))))))
 replace hst := hst.pull3
 replace hst := objO_some hst
 obtain ⟨t1839, ht1840, hm⟩ := bind_some hm
 refine wc call31 [v978, F6 a1, F6 a2, Zu] z z z ?_
 refine (lane_State_Scan_ref hst.to1 ht1840).mono ?_
 rintro _ w1841 ⟨I1842, v1844, rfl, hI1843, hst⟩
 refine ⟨_, z, ?_⟩
 replace hst := hst.of2
 replace f0_0 := f0_0.mono (ro_le hI1843)
 replace hI0 := hI0.trans hI1843
 replace hst := hst.pull1
 replace hst := objO_get hst
 refine wv (.tuple #[v1844, I6 t1839.2]) z z z (wv (v1844) z z z (wv (.int .i64 t1839.2) z z z (wv (v1844) z z z (wv (.int .i64 t1839.2) z z z (wl_nil (tn (wp_seq (wrl (wv (v978) z z z (wv (.float .f64 a1) z z z (wv (.float .f64 a2) z z z ?_)))))))))))
 replace hst := objO_some hst
 obtain ⟨t1846, ht1847, hm⟩ := bind_some hm
 refine wc call31 [v978, F6 a1, F6 a2, U6 (1:Int)] z z z ?_
 refine (lane_State_Scan_ref hst.to1 ht1847).mono ?_
 rintro _ w1848 ⟨I1849, v1851, rfl, hI1850, hst⟩
 refine ⟨_, z, ?_⟩
 replace hst := hst.of2
 replace f0_0 := f0_0.mono (ro_le hI1850)
 replace hI0 := hI0.trans hI1850
 replace hst := hst.pull1
 replace hst := objO_get hst
 refine wv (.tuple #[v1851, I6 t1846.2]) z z z (wv (v1851) z z z (wv (.int .i64 t1846.2) z z z (wv (v1851) z z z (wv (.int .i64 t1846.2) z z z (wl_nil (tn (wp_seq ?_)))))))
 refine wp_region_St hst 21 [0, 1, 2, 3, 4, 5, 6, 7, 8, 9, 10, 11, 12, 13, 14, 15, 16, 17, 18, 19, 20] [0, 0, 3, 0, 0, 31, 63, 127, 255, 511, 1023, 2047, 4095, 8191, 16383, 32767, 65535, 131071, 262143, 524287, 1048575] [] z (by kernel_rfl) (by kernel_rfl) Tryz.mixed (by kernel_rfl) ?_
 refine wsr (v978) 0 z z z (by kernel_rfl) (fun w hst => z) (wsr (.agg #[Zu, Zu, Zu, (.slice (some ⟨b1814, 0, none⟩) 4 4), (.slice (some ⟨b1819, 0, none⟩) 2 2), Zs, Zs]) 1 z z z (by kernel_rfl) (fun w hst => x_loadN (cs := [Zu, Zu, Zu, (.slice (some ⟨b1814, 0, none⟩) 4 4), (.slice (some ⟨b1819, 0, none⟩) 2 2), Zs, Zs]) z isAgg46 sizeOf46 (hst.bcs3 0 z)) (wsr (v985) 3 z z z (by kernel_rfl) (fun w hst => z) (wsr (.agg #[Zu, Zu, Zu, (.slice (some ⟨b1814, 0, none⟩) 4 4), (.slice (some ⟨b1819, 0, none⟩) 2 2), Zs, Zs]) 4 z z z (by kernel_rfl) (fun w hst => x_loadN (cs := [Zu, Zu, Zu, (.slice (some ⟨b1814, 0, none⟩) 4 4), (.slice (some ⟨b1819, 0, none⟩) 2 2), Zs, Zs]) z isAgg46 sizeOf46 (hst.bcs3 0 z)) ?_)))
 refine ws_e1 2 (by kernel_rfl) ?_
 refine nxe [5, 6, 7, 8, 9, 10, 11, 12, 13, 14, 15, 16, 17, 18, 19, 20] (by kernel_rfl) z z ?_
 clear hst
 intro w hst
 replace hst := objO_some hst
 have f1853 : Ro tyF64 I1849 (.slice none 0 0) [] := ro_nil
 have f1854 : Ro (tyInt .u8) I1849 (.slice none 0 0) [] := ro_nil
 replace hst := hst.pull5
 obtain ⟨css1855, hq1856, hst⟩ := hst.own_open
 replace hst := hst.pull5
 obtain ⟨css1857, hq1858, hst⟩ := hst.own_open
 replace hst := hst.pull2
 obtain ⟨t1859, ht1860, hm⟩ := bind_some hm
 refine wec call33 [v978, .agg #[Zu, Zu, Zu, (.slice (some ⟨b1814, 0, none⟩) 4 4), (.slice (some ⟨b1819, 0, none⟩) 2 2), Zs, Zs]] z z ?_
 refine (lane_State_Told_ref (a1 := ({ ID := ({ Session := (0:Int), Seq := (0:Int) } : api_ID), Epoch := (0:Int), Gets := [(0:Nat), (4607182418800017408:Nat), (4612811918334230528:Nat), a1], Scans := [(a1, a2), ((13830554455654793216:Nat), (4607182418800017408:Nat))], Puts := [], Data := [] } : api_Hold)) (hst.sub.rdrow1 hq1856) (hst.sub.rdrow0 hq1858) (f1853.mono ro_rd) (f1854.mono ro_rd) hst.to1 ht1860).mono ?_
 rintro _ w1861 ⟨I1862, v1864, v1866, rfl, hI1863, hst⟩
 refine ⟨_, z, ?_⟩
 replace hst := hst.of3
 replace f0_0 := f0_0.mono (ro_le hI1863)
 replace f1853 := f1853.mono (ro_le hI1863)
 replace f1854 := f1854.mono (ro_le hI1863)
 replace hI0 := hI0.trans hI1863
 replace hst := hst.pull4.own_close (hq1856.imp fun _ _ => Ty.mono _ (ro_le hI1863))
 replace hst := hst.pull4.own_close (hq1858.imp fun _ _ => Ty.mono _ (ro_le hI1863))
 replace hst := hst.pull4
 replace hst := objO_get hst
 refine ws_next (pend' := [(4, .agg #[Zu, Zu, Zu, (.slice (some ⟨b1814, 0, none⟩) 4 4), (.slice (some ⟨b1819, 0, none⟩) 2 2), Zs, Zs]), (3, v985)]) hst (by kernel_rfl) (pkr z z (fun w hst => x_loadN (cs := [Zu, Zu, Zu, (.slice (some ⟨b1814, 0, none⟩) 4 4), (.slice (some ⟨b1819, 0, none⟩) 2 2), Zs, Zs]) z isAgg46 sizeOf46 (hst.bcs7 0 z)) (pkr z z (fun w hst => z) pk_nil)) ?_
 refine ws_e1 5 (by kernel_rfl) ?_
 refine nxe [6, 7, 8, 9, 10, 11, 12, 13, 14, 15, 16, 17, 18, 19, 20] (by kernel_rfl) z z ?_
 clear hst
 intro w hst
 replace hst := hst.pull2
 obtain ⟨css1868, hq1869, hst⟩ := hst.own_open
 replace hst := hst.pull2
 obtain ⟨css1870, hq1871, hst⟩ := hst.own_open
 replace hst := hst.pull8
 obtain ⟨t1872, ht1873, hm⟩ := bind_some hm
 refine wec call34 [v985, .agg #[Zu, Zu, Zu, (.slice (some ⟨b1814, 0, none⟩) 4 4), (.slice (some ⟨b1819, 0, none⟩) 2 2), Zs, Zs]] z z ?_
 refine (ref16_State_Told_ref (a1 := ({ ID := ({ Session := (0:Int), Seq := (0:Int) } : api_ID), Epoch := (0:Int), Gets := [(0:Nat), (4607182418800017408:Nat), (4612811918334230528:Nat), a1], Scans := [(a1, a2), ((13830554455654793216:Nat), (4607182418800017408:Nat))], Puts := [], Data := [] } : api_Hold)) (hst.sub.rdrow1 hq1869) (hst.sub.rdrow0 hq1871) (f1853.mono ro_rd) (f1854.mono ro_rd) hst.to1 ht1873).mono ?_
 rintro _ w1874 ⟨I1875, v1877, v1879, rfl, hI1876, hst⟩
 refine ⟨_, z, ?_⟩
 replace hst := hst.of3
 replace f0_0 := f0_0.mono (ro_le hI1876)
 replace f1853 := f1853.mono (ro_le hI1876)
 replace f1854 := f1854.mono (ro_le hI1876)
 replace hI0 := hI0.trans hI1876
 replace hst := hst.pull4.own_close (hq1869.imp fun _ _ => Ty.mono _ (ro_le hI1876))
 replace hst := hst.pull4.own_close (hq1871.imp fun _ _ => Ty.mono _ (ro_le hI1876))
 refine ws_next (pend' := []) hst (by kernel_rfl) pk_nil ?_
 refine ws_e1 6 (by kernel_rfl) ?_
 refine nxe [7, 8, 9, 10, 11, 12, 13, 14, 15, 16, 17, 18, 19, 20] (by kernel_rfl) z z ?_
 clear hst
 intro w hst
 replace hst := hst.pull6
 obtain ⟨css1881, hq1882, hst⟩ := hst.own_open
 replace hst := hst.pull7
 obtain ⟨css1883, hq1884, hst⟩ := hst.own_open
 replace hst := hst.pull4
 obtain ⟨css1885, hq1886, hst⟩ := hst.own_open
 replace hst := hst.pull5
 obtain ⟨css1887, hq1888, hst⟩ := hst.own_open
 obtain ⟨t1889, ht1890, hm⟩ := bind_some hm
 refine wec call32 [.agg #[I6 t1859.E, U6 t1859.Epoch, U6 t1859.Index, v1864, v1866], .agg #[I6 t1872.E, U6 t1872.Epoch, U6 t1872.Index, v1877, v1879]] z z ?_
 refine (ref11_SameReply_ref (hst.rdrow3 hq1882) (hst.rdrow2 hq1884) (hst.rdrow1 hq1886) (hst.rdrow0 hq1888) hst.to0 ht1890).mono ?_
 rintro _ w1891 ⟨rfl, hst⟩
 refine ⟨_, z, ?_⟩
 replace hst := hst.of0.pull3.own_close hq1882
 replace hst := hst.pull3.own_close hq1884
 replace hst := hst.pull3.own_close hq1886
 replace hst := hst.pull3.own_close hq1888
 refine ws_next (pend' := []) hst (by kernel_rfl) pk_nil ?_
 refine wsr (.bool t1889) 7 z z z (by kernel_rfl) (fun w hst => z) ?_
 refine bsplit t1889 (fun hc1894 => ?_) (fun hc1894 => ?_)
 {
 replace hm := bif_t hc1894 hm
 refine ws_q (v := .int .i64 t1839.2) 8 [9, 10, 11, 12, 13, 14, 15, 16, 17, 18, 19, 20] (by kernel_rfl) z z (yi_run ((wanted_eq z z z (cvb hc1894)).trans z) (fun w hst => z)) (ws_q (v := .bool (t1839.2 == (0:Int))) 9 [10, 11, 12, 13, 14, 15, 16, 17, 18, 19, 20] (by kernel_rfl) z z (yi_run ((wanted_eq z z z (cvb hc1894)).trans z) (fun w hst => z)) (wsr (.bool (t1839.2 == (0:Int))) 10 z z z (by kernel_rfl) (fun w hst => x_pick_t hc1894 z z) (wsr (.bool (t1839.2 == (0:Int))) 11 z z z (by kernel_rfl) (fun w hst => z) ?_)))
 refine bsplit (t1839.2 == (0:Int)) (fun hc1895 => ?_) (fun hc1895 => ?_)
 {
 replace hm := bif_t hc1895 hm
 refine ws_q (v := v1844) 12 [13, 14, 15, 16, 17, 18, 19, 20] (by kernel_rfl) z z (yi_run ((wanted_eq z z z (cvb hc1895)).trans z) (fun w hst => z)) (ws_q (v := .int .i64 ((t1839.1).length : Int)) 13 [14, 15, 16, 17, 18, 19, 20] (by kernel_rfl) z z (yi_run ((wanted_eq z z z (cvb hc1895)).trans z) (fun w hst => x_len z underlying81 hst.sv9)) (ws_q (v := .bool (((t1839.1).length : Int) == (0:Int))) 14 [15, 16, 17, 18, 19, 20] (by kernel_rfl) z z (yi_run ((wanted_eq z z z (cvb hc1895)).trans z) (fun w hst => z)) (wsr (.bool (((t1839.1).length : Int) == (0:Int))) 15 z z z (by kernel_rfl) (fun w hst => x_pick_t hc1895 z z) (wsr (.bool (((t1839.1).length : Int) == (0:Int))) 16 z z z (by kernel_rfl) (fun w hst => z) ?_))))
 refine bsplit (((t1839.1).length : Int) == (0:Int)) (fun hc1896 => ?_) (fun hc1896 => ?_)
 {
 replace hm := bif_t hc1896 hm
 refine ws_q (v := .int .i64 t1846.2) 17 [18, 19, 20] (by kernel_rfl) z z (yi_run ((wanted_eq z z z (cvb hc1896)).trans z) (fun w hst => z)) (ws_q (v := .bool (t1846.2 == (2:Int))) 18 [19, 20] (by kernel_rfl) z z (yi_run ((wanted_eq z z z (cvb hc1896)).trans z) (fun w hst => z)) (wsr (.bool (t1846.2 == (2:Int))) 19 z z z (by kernel_rfl) (fun w hst => x_pick_t hc1896 z z) (wsr (.bool (t1846.2 == (2:Int))) 20 z z z (by kernel_rfl) (fun w hst => z) ?_)))
 refine ws_nil ?_
 intro w hst
 refine tn (wp_ret ?_)
 obtain rfl := some_inj hm
 refine post_ret (vs := [.bool (t1846.2 == (2:Int))]) results8 (rvs_cons (rv_tmp z) rvs_nil) ?_
 exact ⟨_, z, hI0, hst.keep0⟩
}
 {
 replace hm := bif_f hc1896 hm
 refine ws_q (v := undef) 17 [18, 19, 20] (by kernel_rfl) z z (yi_off ((wanted_eq z z z (cvb hc1896)).trans z)) (ws_q (v := undef) 18 [19, 20] (by kernel_rfl) z z (yi_off ((wanted_eq z z z (cvb hc1896)).trans z)) (wsr (.bool false) 19 z z z (by kernel_rfl) (fun w hst => x_pick_f hc1896 z z) (wsr (.bool false) 20 z z z (by kernel_rfl) (fun w hst => z) ?_)))
 refine ws_nil ?_
 intro w hst
 refine tn (wp_ret ?_)
 obtain rfl := some_inj hm
 refine post_ret (vs := [.bool false]) results8 (rvs_cons (rv_tmp z) rvs_nil) ?_
 exact ⟨_, z, hI0, hst.keep0⟩
}
}
 {
 replace hm := bif_f hc1895 hm
 refine ws_q (v := undef) 12 [13, 14, 15, 16, 17, 18, 19, 20] (by kernel_rfl) z z (yi_off ((wanted_eq z z z (cvb hc1895)).trans z)) (ws_q (v := undef) 13 [14, 15, 16, 17, 18, 19, 20] (by kernel_rfl) z z (yi_off ((wanted_eq z z z (cvb hc1895)).trans z)) (ws_q (v := undef) 14 [15, 16, 17, 18, 19, 20] (by kernel_rfl) z z (yi_off ((wanted_eq z z z (cvb hc1895)).trans z)) (wsr (.bool false) 15 z z z (by kernel_rfl) (fun w hst => x_pick_f hc1895 z z) (wsr (.bool false) 16 z z z (by kernel_rfl) (fun w hst => z) (ws_q (v := undef) 17 [18, 19, 20] (by kernel_rfl) z z (yi_off ((wanted_eq z z z z).trans z)) (ws_q (v := undef) 18 [19, 20] (by kernel_rfl) z z (yi_off ((wanted_eq z z z z).trans z)) (wsr (.bool false) 19 z z z (by kernel_rfl) (fun w hst => x_pick_f z z z) (wsr (.bool false) 20 z z z (by kernel_rfl) (fun w hst => z) ?_))))))))
 refine ws_nil ?_
 intro w hst
 refine tn (wp_ret ?_)
 obtain rfl := some_inj hm
 refine post_ret (vs := [.bool false]) results8 (rvs_cons (rv_tmp z) rvs_nil) ?_
 exact ⟨_, z, hI0, hst.keep0⟩
}
}
 {
 replace hm := bif_f hc1894 hm
 refine ws_q (v := undef) 8 [9, 10, 11, 12, 13, 14, 15, 16, 17, 18, 19, 20] (by kernel_rfl) z z (yi_off ((wanted_eq z z z (cvb hc1894)).trans z)) (ws_q (v := undef) 9 [10, 11, 12, 13, 14, 15, 16, 17, 18, 19, 20] (by kernel_rfl) z z (yi_off ((wanted_eq z z z (cvb hc1894)).trans z)) (wsr (.bool false) 10 z z z (by kernel_rfl) (fun w hst => x_pick_f hc1894 z z) (wsr (.bool false) 11 z z z (by kernel_rfl) (fun w hst => z) (ws_q (v := undef) 12 [13, 14, 15, 16, 17, 18, 19, 20] (by kernel_rfl) z z (yi_off ((wanted_eq z z z z).trans z)) (ws_q (v := undef) 13 [14, 15, 16, 17, 18, 19, 20] (by kernel_rfl) z z (yi_off ((wanted_eq z z z z).trans z)) (ws_q (v := undef) 14 [15, 16, 17, 18, 19, 20] (by kernel_rfl) z z (yi_off ((wanted_eq z z z z).trans z)) (wsr (.bool false) 15 z z z (by kernel_rfl) (fun w hst => x_pick_f z z z) (wsr (.bool false) 16 z z z (by kernel_rfl) (fun w hst => z) (ws_q (v := undef) 17 [18, 19, 20] (by kernel_rfl) z z (yi_off ((wanted_eq z z z z).trans z)) (ws_q (v := undef) 18 [19, 20] (by kernel_rfl) z z (yi_off ((wanted_eq z z z z).trans z)) (wsr (.bool false) 19 z z z (by kernel_rfl) (fun w hst => x_pick_f z z z) (wsr (.bool false) 20 z z z (by kernel_rfl) (fun w hst => z) ?_))))))))))))
 refine ws_nil ?_
 intro w hst
 refine tn (wp_ret ?_)
 obtain rfl := some_inj hm
 refine post_ret (vs := [.bool false]) results8 (rvs_cons (rv_tmp z) rvs_nil) ?_
 exact ⟨_, z, hI0, hst.keep0⟩
}
}
}
}
}

end Go.Proofs.YtgnkkopjkgdieaaGreat
