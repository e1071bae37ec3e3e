/- The Go functions refine their models, part 3. -/
import Derived.Test.YtldfdainhdiffaaMailApartR2
set_option linter.unusedVariables false
set_option linter.unusedSimpArgs false
set_option maxRecDepth 100000
set_option maxHeartbeats 4000000
namespace Go.Proofs.Ytldfdainhdiffaa
open Go Go.V
open _root_.Go.Proofs.Try IntKind
attribute [local irreducible] wpList Code.wp wpQuiet Calls bodyPost Oper.wp wpS Nx PendOK YieldsIn
theorem octet_Reader_Bytes_ref {w0 w : World} {I : HL} {R : SP} {a0 : octet_Reader} {p0 : Value} {a1 : Int}  (hst : St w0 w I [at_octet_Reader p0 a0] R) {r : ((List Int) × octet_Reader)} (hm : octet_Reader_Bytes a0 a1 = some r) :
  Calls prog 18 #[p0, I6 a1] w fun e w' => ∃ (q0_0 : Value), e = .returned (q0_0) ∧ St w0 w' I [ownS (tyInt .u8) q0_0 r.1, at_octet_Reader p0 r.2] R := by {
 unfold octet_Reader_Bytes at hm
 refine calls_start (args := [p0, I6 a1]) func18 z ntmps18 (Nat.le_of_ble_eq_true z) ?_
 refine wp_seq (wrl (wv ((.slice none 0 0)) z z z (wl_nil (tn (wp_seq (wrl (wv (p0) z z z ?_)))))))
 obtain ⟨t424, ht425, hm⟩ := bind_some hm
 refine wc call13 [p0, I6 (4:Int)] z z z ?_
 refine (octet_Reader_Num_ref hst.to1 ht425).mono ?_
 rintro _ w426 ⟨rfl, hst⟩
 refine ⟨_, z, ?_⟩
 replace hst := hst.of1
 refine wv (.int .u64 t424.1) z z z (wl_nil (tn (wp_seq (wp_seq (wrl (wv (p0) z z z ?_))))))
 obtain ⟨b429, v430, ⟨rfl, f432⟩, hst'⟩ := at_octet_Reader_open hst
 clear hst
 have hst := hst'
 clear hst'
 refine wv (.bool false) z z (by kernel_rfl) (wv (.bool false) z z z (wv (Pt b429 0) ((wanted_eq z z z z).trans z) z z (wv (Pt b429 0) ((wanted_eq z z z z).trans z) z z (wv (Pt b429 1) ((wanted_eq z z z z).trans z) z (x_field z underlying99 z sizeOf4 z) (wv (.bool t424.2.bad) ((wanted_eq z z z z).trans z) z (x_load z isAgg4 (hst.bc0 z)) (wv (.bool t424.2.bad) z z (x_pick_f z z z) (wv (.bool t424.2.bad) z z z ?_)))))))
 refine bsplit t424.2.bad (fun hc433 => ?_) (fun hc433 => ?_)
 {
 replace hm := bif_t hc433 hm
 refine wo hc433 z z z z z z (wo hc433 z z z z z z (wv (.bool true) z z (x_pick_t hc433 z z) (wv (.bool true) z z z (wz z z z z z z (wz z z z z z z (wz z z z z z z (wz z z z z z z (wv (.bool true) z z (x_pick_t z z z) (wv (.bool true) z z z (wz z z z z z z (wz z z z z z z (wz z z z z z z ?_))))))))))))
 refine wz z z z z z z (wz z z z z z z (wz z z z z z z (wz z z z z z z (wz z z z z z z (wv (.bool true) z z (x_pick_t z z z) (wl_nil (tn ?_)))))))
 refine wp_ift z ?_
 refine wp_seq (wrl (wv (Pt b429 0) z z z ?_))
 replace hst := at_octet_Reader_close (pv := Pt b429 0) (x := t424.2) hst ⟨z, f432⟩
 obtain ⟨t434, ht435, hm⟩ := bind_some hm
 refine wc call44 [Pt b429 0] z z z ?_
 refine (octet_Reader_spoil_ref hst.to1 ht435).mono ?_
 rintro _ w436 ⟨rfl, hst⟩
 refine ⟨_, z, ?_⟩
 replace hst := hst.of1
 refine wl_nil (tn (wp_seq (wrl (wv ((.slice none 0 0)) z z z (wl_nil (tn (wp_ret (then_r ?_))))))))
 replace hst := hst.own_nil (tyInt .u8)
 obtain rfl := some_inj hm
 refine post_ret (vs := [Zs]) results18 (rvs_cons (rv_tmp z) rvs_nil) ?_
 replace hst := hst.pull1.pull1
 exact ⟨(.slice none 0 0), z, hst.keep2⟩
}
 {
 replace hm := bif_f hc433 hm
 refine wv (.int .i64 a1) ((wanted_eq z z z (cvb hc433)).trans z) z z (wv (.bool (decide (a1 < (0:Int)))) ((wanted_eq z z z (cvb hc433)).trans z) z z (wv (.bool (decide (a1 < (0:Int)))) z z (x_pick_f hc433 z z) (wv (.bool (decide (a1 < (0:Int)))) z z z ?_)))
 refine bsplit (decide (a1 < (0:Int))) (fun hc440 => ?_) (fun hc440 => ?_)
 {
 replace hm := bif_t hc440 hm
 refine wo hc440 z z z z z z (wo hc440 z z z z z z (wo hc440 z z z z z z (wo hc440 z z z z z z (wv (.bool true) z z (x_pick_t hc440 z z) (wv (.bool true) z z z (wz z z z z z z (wz z z z z z z (wz z z z z z z (wz z z z z z z (wz z z z z z z (wz z z z z z z (wz z z z z z z ?_))))))))))))
 refine wz z z z z z z (wv (.bool true) z z (x_pick_t z z z) (wl_nil (tn ?_)))
 refine wp_ift z ?_
 refine wp_seq (wrl (wv (Pt b429 0) z z z ?_))
 replace hst := at_octet_Reader_close (pv := Pt b429 0) (x := t424.2) hst ⟨z, f432⟩
 obtain ⟨t441, ht442, hm⟩ := bind_some hm
 refine wc call44 [Pt b429 0] z z z ?_
 refine (octet_Reader_spoil_ref hst.to1 ht442).mono ?_
 rintro _ w443 ⟨rfl, hst⟩
 refine ⟨_, z, ?_⟩
 replace hst := hst.of1
 refine wl_nil (tn (wp_seq (wrl (wv ((.slice none 0 0)) z z z (wl_nil (tn (wp_ret (then_r ?_))))))))
 replace hst := hst.own_nil (tyInt .u8)
 obtain rfl := some_inj hm
 refine post_ret (vs := [Zs]) results18 (rvs_cons (rv_tmp z) rvs_nil) ?_
 replace hst := hst.pull1.pull1
 exact ⟨(.slice none 0 0), z, hst.keep2⟩
}
 {
 replace hm := bif_f hc440 hm
 refine wv (.int .u64 t424.1) ((wanted_eq z z z (cvb hc440)).trans z) z z (wv (.int .i64 a1) ((wanted_eq z z z (cvb hc440)).trans z) z z (wv (.int .u64 (u64.wrap a1)) ((wanted_eq z z z (cvb hc440)).trans z) z (by kernel_rfl) (wv (.bool (decide (t424.1 > (u64.wrap a1)))) ((wanted_eq z z z (cvb hc440)).trans z) z z (wv (.bool (decide (t424.1 > (u64.wrap a1)))) z z (x_pick_f hc440 z z) (wv (.bool (decide (t424.1 > (u64.wrap a1)))) z z z ?_)))))
 refine bsplit (decide (t424.1 > (u64.wrap a1))) (fun hc447 => ?_) (fun hc447 => ?_)
 {
 replace hm := bif_t hc447 hm
 refine wo hc447 z z z z z z (wo hc447 z z z z z z (wo hc447 z z z z z z (wo hc447 z z z z z z (wo hc447 z z z z z z (wo hc447 z z z z z z (wo hc447 z z z z z z (wo hc447 z z z z z z (wv (.bool true) z z (x_pick_t hc447 z z) (wl_nil (tn ?_))))))))))
 refine wp_ift z ?_
 refine wp_seq (wrl (wv (Pt b429 0) z z z ?_))
 replace hst := at_octet_Reader_close (pv := Pt b429 0) (x := t424.2) hst ⟨z, f432⟩
 obtain ⟨t448, ht449, hm⟩ := bind_some hm
 refine wc call44 [Pt b429 0] z z z ?_
 refine (octet_Reader_spoil_ref hst.to1 ht449).mono ?_
 rintro _ w450 ⟨rfl, hst⟩
 refine ⟨_, z, ?_⟩
 replace hst := hst.of1
 refine wl_nil (tn (wp_seq (wrl (wv ((.slice none 0 0)) z z z (wl_nil (tn (wp_ret (then_r ?_))))))))
 replace hst := hst.own_nil (tyInt .u8)
 obtain rfl := some_inj hm
 refine post_ret (vs := [Zs]) results18 (rvs_cons (rv_tmp z) rvs_nil) ?_
 replace hst := hst.pull1.pull1
 exact ⟨(.slice none 0 0), z, hst.keep2⟩
}
 {
 replace hm := bif_f hc447 hm
 refine wv (.int .u64 t424.1) ((wanted_eq z z z (cvb hc447)).trans z) z z (wv (Pt b429 0) ((wanted_eq z z z (cvb hc447)).trans z) z z (wv (Pt b429 0) ((wanted_eq z z z (cvb hc447)).trans z) z z (wv (Pt b429 0) ((wanted_eq z z z (cvb hc447)).trans z) z (x_field z underlying99 z sizeOf22 z) (wv (v430) ((wanted_eq z z z (cvb hc447)).trans z) z (x_load z isAgg22 (hst.bc0 z)) (wv (.int .i64 ((t424.2.p).length : Int)) ((wanted_eq z z z (cvb hc447)).trans z) z (x_len z underlying22 (ro_sliceV f432)) (wv (.int .u64 (u64.wrap ((t424.2.p).length : Int))) ((wanted_eq z z z (cvb hc447)).trans z) z (by kernel_rfl) (wv (.bool (decide (t424.1 > (u64.wrap ((t424.2.p).length : Int))))) ((wanted_eq z z z (cvb hc447)).trans z) z z (wv (.bool (decide (t424.1 > (u64.wrap ((t424.2.p).length : Int))))) z z (x_pick_f hc447 z z) (wl_nil (tn ?_))))))))))
 refine bsplit (decide (t424.1 > (u64.wrap ((t424.2.p).length : Int)))) (fun hc454 => ?_) (fun hc454 => ?_)
 {
 replace hm := bif_t hc454 hm
 refine wp_ift (cvb hc454) ?_
 refine wp_seq (wrl (wv (Pt b429 0) z z z ?_))
 replace hst := at_octet_Reader_close (pv := Pt b429 0) (x := t424.2) hst ⟨z, f432⟩
 obtain ⟨t455, ht456, hm⟩ := bind_some hm
 refine wc call44 [Pt b429 0] z z z ?_
 refine (octet_Reader_spoil_ref hst.to1 ht456).mono ?_
 rintro _ w457 ⟨rfl, hst⟩
 refine ⟨_, z, ?_⟩
 replace hst := hst.of1
 refine wl_nil (tn (wp_seq (wrl (wv ((.slice none 0 0)) z z z (wl_nil (tn (wp_ret (then_r ?_))))))))
 replace hst := hst.own_nil (tyInt .u8)
 obtain rfl := some_inj hm
 refine post_ret (vs := [Zs]) results18 (rvs_cons (rv_tmp z) rvs_nil) ?_
 replace hst := hst.pull1.pull1
 exact ⟨(.slice none 0 0), z, hst.keep2⟩
}
 {
 replace hm := bif_f hc454 hm
 refine wp_iff (cvb hc454) ?_
 refine wp_skip (tn (wp_seq (wrl ?_)))
 refine wv (Pt b429 0) z z z (wv (Pt b429 0) z z z (wv (Pt b429 0) z z (x_field z underlying99 z sizeOf22 z) (wv (v430) z z (x_load z isAgg22 (hst.bc0 z)) (wv (.int .u64 t424.1) z z z ?_))))
 obtain ⟨hg461, hm⟩ := gd_some hm
 obtain ⟨h462, h463, h464⟩ := fits_of hg461
 have f466 : Ro (tyInt .u8) I (slcV 1 v430 (0:Int).toNat t424.1.toNat) (subs t424.2.p (0:Int) t424.1) := Ro.part f432 h463 h464 h462
 refine wv ((slcV 1 v430 (0:Int).toNat t424.1.toNat)) z z (x_slice underlying22 sizeOf5 z (ro_sliceV f432) h462 h463 h464 .i64 .u64 (.inr ⟨z, z⟩) (.inl z)) ?_
 replace hst := hst.own_nil (tyInt .u8)
 obtain ⟨hg468, hm⟩ := gd_some hm
 obtain ⟨v469, w470, hr471, hst⟩ := run_append elem_22 underlying22 hst (Src.of_ro hst f466) (room_of hg468 z) 22
 replace hst := St.nil_app hst
 refine wl_run (v := v469) (w' := w470) z z (x_append z z hr471) ?_
 refine wv (v469) z z z (wl_nil (tn (wp_seq (wrl (wv (Pt b429 0) z z z (wv (Pt b429 0) z z z (wv (Pt b429 0) z z z (wv (Pt b429 0) z z (x_field z underlying99 z sizeOf22 z) (wv (v430) z z (x_load z isAgg22 (hst.bc1 z)) (wv (.int .u64 t424.1) z z z ?_))))))))))
 obtain ⟨hg472, hm⟩ := gd_some hm
 obtain ⟨h473, h474, h475⟩ := fits_of hg472
 have f477 : Ro (tyInt .u8) I (slcV 1 v430 t424.1.toNat (((t424.2.p).length : Nat) : Int).toNat) (subs t424.2.p t424.1 (((t424.2.p).length : Nat) : Int)) := Ro.part f432 h474 h475 h473
 refine wv ((slcV 1 v430 t424.1.toNat (((t424.2.p).length : Nat) : Int).toNat)) z z (x_slice underlying22 sizeOf5 z (ro_sliceV f432) h473 h474 h475 .u64 .i64 (.inl z) (.inr ⟨z, z⟩)) (wv (Pt b429 0) z z z (wv (Pt b429 0) z z (x_field z underlying99 z sizeOf22 z) ?_))
 replace hst := hst.pull1
 obtain ⟨w478, hr479, hst⟩ := hst.boxStore1 (P := prog) (t := 22) (cs' := [(slcV 1 v430 t424.1.toNat (((t424.2.p).length : Nat) : Int).toNat), .bool t424.2.bad]) 0 (slcV 1 v430 t424.1.toNat (((t424.2.p).length : Nat) : Int).toNat) (one_of_sliceV (ro_sliceV f477)) sizeOf22 z z
 refine wl_unit z z (x_unit hr479) ?_
 refine wl_nil (tn (wp_seq (wrl (wv (v469) z z z (wv (v469) z z z (wl_nil (tn (wp_ret ?_))))))))
 replace hst := at_octet_Reader_close (pv := Pt b429 0) (x := ({ p := (subs t424.2.p t424.1 (((t424.2.p).length : Nat) : Int)), bad := t424.2.bad } : octet_Reader)) hst ⟨z, f477⟩
 obtain rfl := some_inj hm
 refine post_ret (vs := [v469]) results18 (rvs_cons (rv_tmp z) rvs_nil) ?_
 replace hst := hst.pull1
 exact ⟨v469, z, hst.keep2⟩
}
}
}
}
}

theorem mail_readMessage_ref {w0 w : World} {I : HL} {R : SP} {a0 : octet_Reader} {p0 : Value}  (hst : St w0 w I [at_octet_Reader p0 a0] R) {r : (api_Message × octet_Reader)} (hm : mail_readMessage a0 = some r) :
  Calls prog 14 #[p0] w fun e w' => ∃ (I' : HL) (q0_0 : Value) (q0_1 : Value), e = .returned (.agg #[U1 r.1.Kind, I6 r.1.From, I6 r.1.To, U6 r.1.Term, U6 r.1.Index, U6 r.1.LogTerm, U6 r.1.Commit, .bool r.1.OK, q0_0, U6 r.1.S.Index, U6 r.1.S.Term, U6 r.1.S.Voters, q0_1]) ∧ I.le I' ∧ St w0 w' I' [ownS ty_api_Entry q0_0 r.1.Entries, ownS (tyInt .u8) q0_1 r.1.S.Data, at_octet_Reader p0 r.2] R := by {
 unfold mail_readMessage at hm
 refine calls_start (args := [p0]) func14 z ntmps14 (Nat.le_of_ble_eq_true z) ?_
 have hI0 := HL.le.refl I
 refine wp_seq (wrl ?_)
 obtain ⟨b579, w580, ew581, eb582, hst⟩ := hst.box [Zb, Zi, Zi, Zu, Zu, Zu, Zu, .bool false, Zs, Zu, Zu, Zu, Zs] 30
 refine wl_run (v := Pt b579 0) (w' := w580) z z (x_al (by kernel_rfl) ew581 eb582) ?_
 refine wl_nil (tn (wp_seq (wrl (wv (p0) z z z ?_))))
 replace hst := hst.pull1
 obtain ⟨t584, ht585, hm⟩ := bind_some hm
 refine wc call13 [p0, I6 (1:Int)] z z z ?_
 refine (octet_Reader_Num_ref hst.to1 ht585).mono ?_
 rintro _ w586 ⟨rfl, hst⟩
 refine ⟨_, z, ?_⟩
 replace hst := hst.of1
 refine wv (.int .u8 (u8.wrap t584.1)) z z (by kernel_rfl) (wv (p0) z z z ?_)
 obtain ⟨t589, ht590, hm⟩ := bind_some hm
 refine wc call13 [p0, I6 (1:Int)] z z z ?_
 refine (octet_Reader_Num_ref hst.to1 ht590).mono ?_
 rintro _ w591 ⟨rfl, hst⟩
 refine ⟨_, z, ?_⟩
 replace hst := hst.of1
 refine wv (.int .i64 (i64.wrap t589.1)) z z (by kernel_rfl) (wv (p0) z z z ?_)
 obtain ⟨t594, ht595, hm⟩ := bind_some hm
 refine wc call13 [p0, I6 (1:Int)] z z z ?_
 refine (octet_Reader_Num_ref hst.to1 ht595).mono ?_
 rintro _ w596 ⟨rfl, hst⟩
 refine ⟨_, z, ?_⟩
 replace hst := hst.of1
 refine wv (.int .i64 (i64.wrap t594.1)) z z (by kernel_rfl) (wv (p0) z z z ?_)
 obtain ⟨t599, ht600, hm⟩ := bind_some hm
 refine wc call13 [p0, I6 (8:Int)] z z z ?_
 refine (octet_Reader_Num_ref hst.to1 ht600).mono ?_
 rintro _ w601 ⟨rfl, hst⟩
 refine ⟨_, z, ?_⟩
 replace hst := hst.of1
 refine wv (p0) z z z ?_
 obtain ⟨t604, ht605, hm⟩ := bind_some hm
 refine wc call13 [p0, I6 (8:Int)] z z z ?_
 refine (octet_Reader_Num_ref hst.to1 ht605).mono ?_
 rintro _ w606 ⟨rfl, hst⟩
 refine ⟨_, z, ?_⟩
 replace hst := hst.of1
 refine wv (p0) z z z ?_
 obtain ⟨t609, ht610, hm⟩ := bind_some hm
 refine wc call13 [p0, I6 (8:Int)] z z z ?_
 refine (octet_Reader_Num_ref hst.to1 ht610).mono ?_
 rintro _ w611 ⟨rfl, hst⟩
 refine ⟨_, z, ?_⟩
 replace hst := hst.of1
 refine wv (p0) z z z ?_
 obtain ⟨t614, ht615, hm⟩ := bind_some hm
 refine wc call13 [p0, I6 (8:Int)] z z z ?_
 refine (octet_Reader_Num_ref hst.to1 ht615).mono ?_
 rintro _ w616 ⟨rfl, hst⟩
 refine ⟨_, z, ?_⟩
 replace hst := hst.of1
 refine wv (p0) z z z ?_
 obtain ⟨t619, ht620, hm⟩ := bind_some hm
 refine wc call45 [p0] z z z ?_
 refine (octet_Reader_Flag_ref hst.to1 ht620).mono ?_
 rintro _ w621 ⟨rfl, hst⟩
 refine ⟨_, z, ?_⟩
 replace hst := hst.of1
 refine wv (.agg #[U1 (u8.wrap t584.1), I6 (i64.wrap t589.1), I6 (i64.wrap t594.1), U6 t599.1, U6 t604.1, U6 t609.1, U6 t614.1, .bool t619.1, Zs, Zu, Zu, Zu, Zs]) z z (by kernel_rfl) ?_
 obtain ⟨b628, w629, ew630, eb631, hst⟩ := hst.box [Zb, Zi, Zi, Zu, Zu, Zu, Zu, .bool false, Zs, Zu, Zu, Zu, Zs] 30
 refine wl_run (v := Pt b628 0) (w' := w629) z z (x_al (by kernel_rfl) ew630 eb631) ?_
 obtain ⟨w633, hr634, hst⟩ := hst.bx [U1 (u8.wrap t584.1), I6 (i64.wrap t589.1), I6 (i64.wrap t594.1), U6 t599.1, U6 t604.1, U6 t609.1, U6 t614.1, .bool t619.1, Zs, Zu, Zu, Zu, Zs] sizeOf30 z (oC z (oC z (oC z (oC z (oC z (oC z (oC z (oC z (oC z (oC z (oC z (oC z (oC z oN))))))))))))) (by kernel_rfl)
 refine wl_unit z z (x_unit hr634) ?_
 refine wl_nil (tn ?_)
 obtain ⟨y827, hm, hx828⟩ := bind_some hm
 refine wp_cut (fun a w => ∃ (I824 : HL) (z820 : octet_Reader) (z823 : (List api_Entry)) (v822 : Value) (σ825 : Nat → Value), (mail_readMessage_j0 t584 t589 t594 t599 t604 t609 t614 t619) (z820, z823) = some r ∧ a = Fr 57 (upd (upd (upd σ825 0 (p0)) 2 (Pt b579 0)) 3 (Pt b628 0)) ∧ I.le I824 ∧ St w0 w I824 [at_octet_Reader p0 z820, cells b579 [Zb, Zi, Zi, Zu, Zu, Zu, Zu, .bool false, Zs, Zu, Zu, Zu, Zs], cells b628 [U1 (u8.wrap t584.1), I6 (i64.wrap t589.1), I6 (i64.wrap t594.1), U6 t599.1, U6 t604.1, U6 t609.1, U6 t614.1, .bool t619.1, v822, Zu, Zu, Zu, Zs], ownS ty_api_Entry v822 z823] R) ?_ ?_
 {
 have hL829 := HL.le.refl I
 refine wp_seq (wrl (wv (p0) z z z (wv (p0) z z z ?_)))
 replace hst := hst.pull1
 obtain ⟨t635, ht636, hm⟩ := bind_some hm
 refine wc call47 [p0] z z z ?_
 refine (octet_Reader_Left_ref hst.to1 ht636).mono ?_
 rintro _ w637 ⟨rfl, hst⟩
 refine ⟨_, z, ?_⟩
 replace hst := hst.of1
 obtain ⟨t640, ht641, hm⟩ := bind_some hm
 refine wc call46 [p0, I6 t635] z z z ?_
 refine (octet_Reader_Count_ref hst.to1 ht641).mono ?_
 rintro _ w642 ⟨rfl, hst⟩
 refine ⟨_, z, ?_⟩
 replace hst := hst.of1
 refine wv (.int .i64 (0:Int)) z z z (wl_nil (tn (wp_block ?_)))
 replace hst := hst.own_nil ty_api_Entry
 obtain ⟨n774, hm⟩ := loopO_some hm
 refine wp_loop_n (fun n a w => ∃ (I772 : HL) (z767 : (List api_Entry)) (z770 : octet_Reader) (z771 : Int) (v768 : Value) (σ773 : Nat → Value), loopN (mail_readMessage_l1 t640) n (z767, z770, z771) = some y827 ∧ a = Fr 57 (upd (upd (upd (upd (upd σ773 0 (p0)) 2 (Pt b579 0)) 3 (Pt b628 0)) 27 (.int .i64 t640.1)) 28 (.int .i64 z771)) ∧ I.le I772 ∧ St w0 w I772 [ownS ty_api_Entry v768 z767, at_octet_Reader p0 z770, cells b628 [U1 (u8.wrap t584.1), I6 (i64.wrap t589.1), I6 (i64.wrap t594.1), U6 t599.1, U6 t604.1, U6 t609.1, U6 t614.1, .bool t619.1, v768, Zu, Zu, Zu, Zs], cells b579 [Zb, Zi, Zi, Zu, Zu, Zu, Zu, .bool false, Zs, Zu, Zu, Zu, Zs]] R) n774 ⟨_, [], t640.2, (0:Int), Zs, _, hm, (fu 0 p0 z (fu 2 (Pt b579 0) z (fu 3 (Pt b628 0) z (fu 27 (.int .i64 t640.1) z (fu 28 (.int .i64 (0:Int)) z z))))), (HL.le.refl _), hst⟩ ?_
 rintro n780 _ w775 ⟨I772, z767, z770, z771, v768, σ773, hm, rfl, hL776, hst⟩
 obtain ⟨n777, y778, rfl, hm, hx779⟩ := loopN_some hm
 dsimp only [mail_readMessage_l1] at hm
 replace hI0 := hI0.trans hL776
 replace hL829 := hL829.trans hL776
 refine wp_seq (wrl (wv (.bool (decide (z771 < t640.1))) z z z (wl_nil (tn (wp_seq ?_)))))
 refine bsplit (decide (z771 < t640.1)) (fun hc781 => ?_) (fun hc781 => ?_)
 {
 replace hm := bif_t hc781 hm
 refine wp_ift (cvb hc781) ?_
 refine wp_skip (tn (wp_seq (wp_block ?_)))
 refine wp_region_St hst 16 [0, 1, 2, 3, 4, 5, 6, 7, 8, 9, 10, 11, 12, 13, 14, 15] [0, 1, 0, 4, 0, 28, 0, 124, 252, 0, 764, 2044, 4092, 8191, 16383, 32767] [] z (by kernel_rfl) (by kernel_rfl) Try.mixed (by kernel_rfl) ?_
 refine wsr (Pt b628 8) 0 z z z (by kernel_rfl) (fun w hst => x_field z underlying30 z sizeOf26 z) (wsr (v768) 1 z z z (by kernel_rfl) (fun w hst => x_load z isAgg26 (hst.bc2 z)) (wsr (p0) 2 z z z (by kernel_rfl) (fun w hst => z) (wsr (p0) 4 z z z (by kernel_rfl) (fun w hst => z) (wsr (p0) 6 z z z (by kernel_rfl) (fun w hst => z) (wsr (p0) 9 z z z (by kernel_rfl) (fun w hst => z) ?_)))))
 refine ws_e1 3 (by kernel_rfl) ?_
 refine nxe [5, 7, 8, 10, 11, 12, 13, 14, 15] (by kernel_rfl) z z ?_
 clear hst
 intro w hst
 replace hst := hst.pull1
 obtain ⟨t782, ht783, hm⟩ := bind_some hm
 refine wec call13 [p0, I6 (8:Int)] z z ?_
 refine (octet_Reader_Num_ref hst.to1 ht783).mono ?_
 rintro _ w784 ⟨rfl, hst⟩
 refine ⟨_, z, ?_⟩
 replace hst := hst.of1
 refine ws_next (pend' := [(9, p0), (6, p0), (4, p0), (1, v768), (0, Pt b628 8)]) hst (by kernel_rfl) (pkr z z (fun w hst => z) (pkr z z (fun w hst => z) (pkr z z (fun w hst => z) (pkr z z (fun w hst => x_load z isAgg26 (hst.bc2 z)) (pkr z z (fun w hst => x_field z underlying30 z sizeOf26 z) pk_nil))))) ?_
 refine ws_e1 5 (by kernel_rfl) ?_
 refine nxe [7, 8, 10, 11, 12, 13, 14, 15] (by kernel_rfl) z z ?_
 clear hst
 intro w hst
 obtain ⟨t787, ht788, hm⟩ := bind_some hm
 refine wec call13 [p0, I6 (8:Int)] z z ?_
 refine (octet_Reader_Num_ref hst.to1 ht788).mono ?_
 rintro _ w789 ⟨rfl, hst⟩
 refine ⟨_, z, ?_⟩
 replace hst := hst.of1
 refine ws_next (pend' := [(9, p0), (6, p0), (1, v768), (0, Pt b628 8)]) hst (by kernel_rfl) (pkr z z (fun w hst => z) (pkr z z (fun w hst => z) (pkr z z (fun w hst => x_load z isAgg26 (hst.bc2 z)) (pkr z z (fun w hst => x_field z underlying30 z sizeOf26 z) pk_nil)))) ?_
 refine ws_e1 7 (by kernel_rfl) ?_
 refine nxe [8, 10, 11, 12, 13, 14, 15] (by kernel_rfl) z z ?_
 clear hst
 intro w hst
 obtain ⟨t792, ht793, hm⟩ := bind_some hm
 refine wec call13 [p0, I6 (1:Int)] z z ?_
 refine (octet_Reader_Num_ref hst.to1 ht793).mono ?_
 rintro _ w794 ⟨rfl, hst⟩
 refine ⟨_, z, ?_⟩
 replace hst := hst.of1
 refine ws_next (pend' := [(9, p0), (1, v768), (0, Pt b628 8)]) hst (by kernel_rfl) (pkr z z (fun w hst => z) (pkr z z (fun w hst => x_load z isAgg26 (hst.bc2 z)) (pkr z z (fun w hst => x_field z underlying30 z sizeOf26 z) pk_nil))) ?_
 refine wsr (.int .u8 (u8.wrap t792.1)) 8 z z z (by kernel_rfl) (fun w hst => by kernel_rfl) ?_
 refine ws_e1 10 (by kernel_rfl) ?_
 refine nxe [11, 12, 13, 14, 15] (by kernel_rfl) z z ?_
 clear hst
 intro w hst
 obtain ⟨t797, ht798, hm⟩ := bind_some hm
 refine wec call18 [p0, I6 (1048576:Int)] z z ?_
 refine (octet_Reader_Bytes_ref hst.to1 ht798).mono ?_
 rintro _ w799 ⟨v802, rfl, hst⟩
 refine ⟨_, z, ?_⟩
 replace hst := hst.of2
 refine ws_next (pend' := [(8, U1 (u8.wrap t792.1)), (1, v768), (0, Pt b628 8)]) hst (by kernel_rfl) (pkr z z (fun w hst => by kernel_rfl) (pkr z z (fun w hst => x_load z isAgg26 (hst.bc3 z)) (pkr z z (fun w hst => x_field z underlying30 z sizeOf26 z) pk_nil))) ?_
 refine wsr (.agg #[U6 t782.1, U6 t787.1, U1 (u8.wrap t792.1), v802]) 11 rfl rfl rfl (by kernel_rfl) (fun w hst => by obtain ⟨_, _, hv_, _⟩ := hst.sv0; rw [hv_]; kernel_rfl) ?_
 refine ws_e1 12 (by kernel_rfl) ?_
 refine nxe [13, 14, 15] (by kernel_rfl) z z ?_
 clear hst
 intro w hst
 obtain ⟨I806, hI807, f808, hst⟩ := hst.own_fix
 replace hI0 := hI0.trans hI807
 replace hL829 := hL829.trans hI807
 replace hL776 := hL776.trans hI807
 obtain ⟨b809, w810, ew811, eb812, hst⟩ := hst.lits (E := ty_api_Entry) (xs := [({ Index := t782.1, Term := t787.1, Kind := (u8.wrap t792.1), Data := t797.1 } : api_Entry)]) [[U6 t782.1, U6 t787.1, U1 (u8.wrap t792.1), v802]] 84 1 z (Reps.cons ⟨_, z, f808, one_of_sliceV (ro_sliceV f808)⟩ Reps.nil)
 refine we_run (v := (.slice (some ⟨b809, 0, none⟩) 1 1)) (w' := w810) z (x_als (by kernel_rfl) ew811 eb812) ?_
 refine ws_next (pend' := [(1, v768), (0, Pt b628 8)]) hst (by kernel_rfl) (pkr z z (fun w hst => x_load z isAgg26 (hst.bc3 z)) (pkr z z (fun w hst => x_field z underlying30 z sizeOf26 z) pk_nil)) ?_
 refine ws_e1 13 (by kernel_rfl) ?_
 refine nxe [14, 15] (by kernel_rfl) z z ?_
 clear hst
 intro w hst
 obtain ⟨hg814, hm⟩ := gd_some hm
 replace hst := hst.pull2
 obtain ⟨v815, w816, hr817, hst⟩ := run_append elem_26 underlying26 hst hst.src1 (room_of hg814 z) 26
 refine we_run (v := v815) (w' := w816) z (x_append z z hr817) ?_
 refine ws_next (pend' := []) hst (by kernel_rfl) pk_nil ?_
 refine wsr (Pt b628 8) 14 z z z (by kernel_rfl) (fun w hst => x_field z underlying30 z sizeOf26 z) ?_
 refine ws_e1 15 (by kernel_rfl) ?_
 refine nxe [] (by kernel_rfl) z z ?_
 clear hst
 intro w hst
 replace hst := hst.pull3
 obtain ⟨w818, hr819, hst⟩ := hst.boxStore1 (P := prog) (t := 26) (cs' := [U1 (u8.wrap t584.1), I6 (i64.wrap t589.1), I6 (i64.wrap t594.1), U6 t599.1, U6 t604.1, U6 t609.1, U6 t614.1, .bool t619.1, v815, Zu, Zu, Zu, Zs]) 8 v815 (one_of_sliceV hst.sv1) sizeOf26 z z
 refine we_unit z (x_unit hr819) ?_
 refine ws_next (pend' := []) hst (by kernel_rfl) pk_nil ?_
 refine ws_nil ?_
 intro w hst
 refine blk_n (tn (wrl ?_))
 refine wv (.int .i64 (i64.wrap (z771 + (1:Int)))) z z z (wv (.int .i64 (i64.wrap (z771 + (1:Int)))) z z z (wl_nil (tn ?_)))
 replace hst := hst.pull4.pull1.pull4.pull3.keep4
 obtain rfl := some_inj hm
 exact ⟨_, Nat.lt_succ_self _, _, (z767 ++ ([({ Index := t782.1, Term := t787.1, Kind := (u8.wrap t792.1), Data := t797.1 } : api_Entry)])), t797.2, (i64.wrap (z771 + (1:Int))), v815, _, hx779, (fu 0 p0 z (fu 2 (Pt b579 0) z (fu 3 (Pt b628 0) z (fu 27 (.int .i64 t640.1) z (fu 28 (.int .i64 (i64.wrap (z771 + (1:Int)))) z z))))), hL776, hst⟩
}
 {
 replace hm := bif_f hc781 hm
 refine wp_iff (cvb hc781) ?_
 refine wp_exit (then_x (then_x ?_))
 replace hm := inr_up hm hx779
 refine blk_x (tn ?_)
 replace hst := hst.pull2.pull3.pull3.keep4
 obtain rfl := some_inj hm
 exact ⟨_, z770, z767, v768, _, hx828, (fu 0 p0 z (fu 2 (Pt b579 0) z (fu 3 (Pt b628 0) z z))), hL829, hst⟩
}
}
 {
 clear hst
 rintro _ w830 ⟨I824, z820, z823, v822, σ825, hm, rfl, hL826, hst⟩
 dsimp only [mail_readMessage_j0] at hm
 replace hI0 := hI0.trans hL826
 refine wp_seq (wrl (wv (p0) z z z ?_))
 obtain ⟨t831, ht832, hm⟩ := bind_some hm
 refine wc call13 [p0, I6 (8:Int)] z z z ?_
 refine (octet_Reader_Num_ref hst.to1 ht832).mono ?_
 rintro _ w833 ⟨rfl, hst⟩
 refine ⟨_, z, ?_⟩
 replace hst := hst.of1
 refine wv (p0) z z z ?_
 obtain ⟨t836, ht837, hm⟩ := bind_some hm
 refine wc call13 [p0, I6 (8:Int)] z z z ?_
 refine (octet_Reader_Num_ref hst.to1 ht837).mono ?_
 rintro _ w838 ⟨rfl, hst⟩
 refine ⟨_, z, ?_⟩
 replace hst := hst.of1
 refine wv (p0) z z z ?_
 obtain ⟨t841, ht842, hm⟩ := bind_some hm
 refine wc call13 [p0, I6 (8:Int)] z z z ?_
 refine (octet_Reader_Num_ref hst.to1 ht842).mono ?_
 rintro _ w843 ⟨rfl, hst⟩
 refine ⟨_, z, ?_⟩
 replace hst := hst.of1
 refine wv (p0) z z z ?_
 obtain ⟨t846, ht847, hm⟩ := bind_some hm
 refine wc call18 [p0, I6 (1048576:Int)] z z z ?_
 refine (octet_Reader_Bytes_ref hst.to1 ht847).mono ?_
 rintro _ w848 ⟨v851, rfl, hst⟩
 refine ⟨_, z, ?_⟩
 replace hst := hst.of2
 refine wv (.agg #[U6 t831.1, U6 t836.1, U6 t841.1, v851]) z z (by obtain ⟨_, _, hv_, _⟩ := hst.sv0; rw [hv_]; kernel_rfl) (wv (Pt b628 9) z z (x_field z underlying30 z sizeOf28 z) ?_)
 replace hst := hst.pull3
 obtain ⟨w854, hr855, hst⟩ := hst.by_ [U1 (u8.wrap t584.1), I6 (i64.wrap t589.1), I6 (i64.wrap t594.1), U6 t599.1, U6 t604.1, U6 t609.1, U6 t614.1, .bool t619.1, v822, U6 t831.1, U6 t836.1, U6 t841.1, v851] 9 (.agg #[U6 t831.1, U6 t836.1, U6 t841.1, v851]) sizeOf28 z (oC z (oC z (oC z (oC (one_of_sliceV hst.sv1) oN)))) (by kernel_rfl)
 refine wl_unit z z (x_unit hr855) ?_
 refine wl_nil (tn (wp_seq (wrl (wv (.agg #[U1 (u8.wrap t584.1), I6 (i64.wrap t589.1), I6 (i64.wrap t594.1), U6 t599.1, U6 t604.1, U6 t609.1, U6 t614.1, .bool t619.1, v822, U6 t831.1, U6 t836.1, U6 t841.1, v851]) z z (x_loadN (cs := [U1 (u8.wrap t584.1), I6 (i64.wrap t589.1), I6 (i64.wrap t594.1), U6 t599.1, U6 t604.1, U6 t609.1, U6 t614.1, .bool t619.1, v822, U6 t831.1, U6 t836.1, U6 t841.1, v851]) z isAgg30 sizeOf30 (hst.bcs0 0 z)) ?_))))
 replace hst := hst.pull3
 obtain ⟨w856, hr857, hst⟩ := hst.bx [U1 (u8.wrap t584.1), I6 (i64.wrap t589.1), I6 (i64.wrap t594.1), U6 t599.1, U6 t604.1, U6 t609.1, U6 t614.1, .bool t619.1, v822, U6 t831.1, U6 t836.1, U6 t841.1, v851] sizeOf30 z (oC z (oC z (oC z (oC z (oC z (oC z (oC z (oC z (oC (one_of_sliceV hst.sv4) (oC z (oC z (oC z (oC (one_of_sliceV hst.sv2) oN))))))))))))) (by kernel_rfl)
 refine wl_unit z z (x_unit hr857) ?_
 refine wl_nil (tn (wp_ret ?_))
 obtain rfl := some_inj hm
 refine post_ret (vs := [.agg #[U1 (u8.wrap t584.1), I6 (i64.wrap t589.1), I6 (i64.wrap t594.1), U6 t599.1, U6 t604.1, U6 t609.1, U6 t614.1, .bool t619.1, v822, U6 t831.1, U6 t836.1, U6 t841.1, v851]]) results14 (rvs_cons (rv_cell (cs := [U1 (u8.wrap t584.1), I6 (i64.wrap t589.1), I6 (i64.wrap t594.1), U6 t599.1, U6 t604.1, U6 t609.1, U6 t614.1, .bool t619.1, v822, U6 t831.1, U6 t836.1, U6 t841.1, v851]) z isAgg30 sizeOf30 (hst.bcs0 0 z)) rvs_nil) ?_
 replace hst := hst.pull3.pull3.pull4
 exact ⟨_, v822, v851, z, hI0, hst.keep3⟩
}
}

theorem number_Back_ref {w0 w : World} {I : HL} {R : SP} {a0 : Int}  (hst : St w0 w I [] R) {r : (Nat)} (hm : number_Back a0 = some r) :
  Calls prog 48 #[U6 a0] w fun e w' => e = .returned (.float .f64 r) ∧ St w0 w' I [] R := by {
 unfold number_Back at hm
 refine calls_start (args := [U6 a0]) func48 z ntmps48 (Nat.le_of_ble_eq_true z) ?_
 refine wp_seq (wrl (wv (.float .f64 (0:Nat)) z z z (wl_nil (tn (wp_seq (wp_seq (wrl (wv (.int .u64 a0) z z z (wv (.int .u64 (iShr .u64 a0 (63:Int))) z z (x_shr (by decide) z z) (wv (.bool ((iShr .u64 a0 (63:Int)) == (1:Int))) z z z (wl_nil (tn ?_))))))))))))
 refine bsplit ((iShr .u64 a0 (63:Int)) == (1:Int)) (fun hc360 => ?_) (fun hc360 => ?_)
 {
 replace hm := bif_t hc360 hm
 refine wp_ift (cvb hc360) ?_
 refine wp_seq (wrl (wv (.int .u64 a0) z z z (wv (.int .u64 (bAndNot .u64 a0 (9223372036854775808:Int))) z z z (wv (.float .f64 (Int.toNat (bAndNot .u64 a0 (9223372036854775808:Int)))) z z (by kernel_rfl) (wv (.float .f64 (Int.toNat (bAndNot .u64 a0 (9223372036854775808:Int)))) z z z (wl_nil (tn (wp_ret (then_r ?_)))))))))
 obtain rfl := some_inj hm
 refine post_ret (vs := [F6 (Int.toNat (bAndNot .u64 a0 (9223372036854775808:Int)))]) results48 (rvs_cons (rv_tmp z) rvs_nil) ?_
 exact ⟨z, hst.keep0⟩
}
 {
 replace hm := bif_f hc360 hm
 refine wp_iff (cvb hc360) ?_
 refine wp_skip (tn (wp_seq (wrl ?_)))
 refine wv (.int .u64 a0) z z z (wv (.int .u64 (bXor .u64 ((18446744073709551615):Int) a0)) z z (by kernel_rfl) (wv (.float .f64 (Int.toNat (bXor .u64 ((18446744073709551615):Int) a0))) z z (by kernel_rfl) (wv (.float .f64 (Int.toNat (bXor .u64 ((18446744073709551615):Int) a0))) z z z (wl_nil (tn (wp_ret ?_))))))
 obtain rfl := some_inj hm
 refine post_ret (vs := [F6 (Int.toNat (bXor .u64 ((18446744073709551615):Int) a0))]) results48 (rvs_cons (rv_tmp z) rvs_nil) ?_
 exact ⟨z, hst.keep0⟩
}
}

theorem locks_Read_ref {w0 w : World} {I : HL} {R : SP} {a0 : octet_Reader} {p0 : Value}  (hst : St w0 w I [at_octet_Reader p0 a0] R) {r : (api_Hold × octet_Reader)} (hm : locks_Read a0 = some r) :
  Calls prog 15 #[p0] w fun e w' => ∃ (q0_0 : Value) (q0_1 : Value) (q0_2 : Value) (q0_3 : Value), e = .returned (.agg #[U6 r.1.ID.Session, U6 r.1.ID.Seq, U6 r.1.Epoch, q0_0, q0_1, q0_2, q0_3]) ∧ St w0 w' I [ownS tyF64 q0_0 r.1.Gets, ownS tyF2 q0_1 r.1.Scans, ownS tyF64 q0_2 r.1.Puts, ownS (tyInt .u8) q0_3 r.1.Data, at_octet_Reader p0 r.2] R := by {
 unfold locks_Read at hm
 refine calls_start (args := [p0]) func15 z ntmps15 (Nat.le_of_ble_eq_true z) ?_
 refine wp_seq (wrl ?_)
 obtain ⟨b769, w770, ew771, eb772, hst⟩ := hst.box [Zu, Zu, Zu, Zs, Zs, Zs, Zs] 36
 refine wl_run (v := Pt b769 0) (w' := w770) z z (x_al (by kernel_rfl) ew771 eb772) ?_
 refine wl_nil (tn (wp_seq (wrl (wv (p0) z z z ?_))))
 replace hst := hst.pull1
 obtain ⟨t774, ht775, hm⟩ := bind_some hm
 refine wc call13 [p0, I6 (8:Int)] z z z ?_
 refine (octet_Reader_Num_ref hst.to1 ht775).mono ?_
 rintro _ w776 ⟨rfl, hst⟩
 refine ⟨_, z, ?_⟩
 replace hst := hst.of1
 refine wv (p0) z z z ?_
 obtain ⟨t779, ht780, hm⟩ := bind_some hm
 refine wc call13 [p0, I6 (8:Int)] z z z ?_
 refine (octet_Reader_Num_ref hst.to1 ht780).mono ?_
 rintro _ w781 ⟨rfl, hst⟩
 refine ⟨_, z, ?_⟩
 replace hst := hst.of1
 refine wv (.agg #[U6 t774.1, U6 t779.1]) z z (by kernel_rfl) (wv (p0) z z z ?_)
 obtain ⟨t784, ht785, hm⟩ := bind_some hm
 refine wc call13 [p0, I6 (8:Int)] z z z ?_
 refine (octet_Reader_Num_ref hst.to1 ht785).mono ?_
 rintro _ w786 ⟨rfl, hst⟩
 refine ⟨_, z, ?_⟩
 replace hst := hst.of1
 refine wv (.agg #[U6 t774.1, U6 t779.1, U6 t784.1, Zs, Zs, Zs, Zs]) z z (by kernel_rfl) ?_
 obtain ⟨b797, w798, ew799, eb800, hst⟩ := hst.box [Zu, Zu, Zu, Zs, Zs, Zs, Zs] 36
 refine wl_run (v := Pt b797 0) (w' := w798) z z (x_al (by kernel_rfl) ew799 eb800) ?_
 obtain ⟨w802, hr803, hst⟩ := hst.bx [U6 t774.1, U6 t779.1, U6 t784.1, Zs, Zs, Zs, Zs] sizeOf36 z (oC z (oC z (oC z (oC z (oC z (oC z (oC z oN))))))) (by kernel_rfl)
 refine wl_unit z z (x_unit hr803) ?_
 refine wl_nil (tn ?_)
 obtain ⟨y921, hm, hx922⟩ := bind_some hm
 refine wp_cut (fun a w => ∃ (z915 : octet_Reader) (z918 : (List Nat)) (v917 : Value) (σ919 : Nat → Value), (locks_Read_j0 t774 t779 t784) (z915, z918) = some r ∧ a = Fr 59 (upd (upd (upd σ919 0 (p0)) 2 (Pt b769 0)) 3 (Pt b797 0)) ∧ St w0 w I [at_octet_Reader p0 z915, cells b769 [Zu, Zu, Zu, Zs, Zs, Zs, Zs], cells b797 [U6 t774.1, U6 t779.1, U6 t784.1, v917, Zs, Zs, Zs], ownS tyF64 v917 z918] R) ?_ ?_
 {
 refine wp_seq (wrl (wv (p0) z z z ?_))
 replace hst := hst.pull1
 obtain ⟨t804, ht805, hm⟩ := bind_some hm
 refine wc call46 [p0, I6 (32:Int)] z z z ?_
 refine (octet_Reader_Count_ref hst.to1 ht805).mono ?_
 rintro _ w806 ⟨rfl, hst⟩
 refine ⟨_, z, ?_⟩
 replace hst := hst.of1
 refine wv (.int .i64 (0:Int)) z z z (wl_nil (tn (wp_block ?_)))
 replace hst := hst.own_nil tyF64
 obtain ⟨n886, hm⟩ := loopO_some hm
 refine wp_loop_n (fun n a w => ∃ (z880 : (List Nat)) (z883 : octet_Reader) (z884 : Int) (v881 : Value) (σ885 : Nat → Value), loopN (locks_Read_l1 t804) n (z880, z883, z884) = some y921 ∧ a = Fr 59 (upd (upd (upd (upd (upd σ885 0 (p0)) 2 (Pt b769 0)) 3 (Pt b797 0)) 13 (.int .i64 t804.1)) 14 (.int .i64 z884)) ∧ St w0 w I [ownS tyF64 v881 z880, at_octet_Reader p0 z883, cells b797 [U6 t774.1, U6 t779.1, U6 t784.1, v881, Zs, Zs, Zs], cells b769 [Zu, Zu, Zu, Zs, Zs, Zs, Zs]] R) n886 ⟨[], t804.2, (0:Int), Zs, _, hm, (fu 0 p0 z (fu 2 (Pt b769 0) z (fu 3 (Pt b797 0) z (fu 13 (.int .i64 t804.1) z (fu 14 (.int .i64 (0:Int)) z z))))), hst⟩ ?_
 rintro n892 _ w887 ⟨z880, z883, z884, v881, σ885, hm, rfl, hst⟩
 obtain ⟨n889, y890, rfl, hm, hx891⟩ := loopN_some hm
 dsimp only [locks_Read_l1] at hm
 refine wp_seq (wrl (wv (.bool (decide (z884 < t804.1))) z z z (wl_nil (tn (wp_seq ?_)))))
 refine bsplit (decide (z884 < t804.1)) (fun hc893 => ?_) (fun hc893 => ?_)
 {
 replace hm := bif_t hc893 hm
 refine wp_ift (cvb hc893) ?_
 refine wp_skip (tn (wp_seq (wp_block ?_)))
 refine wp_region_St hst 9 [0, 1, 2, 3, 4, 5, 6, 7, 8] [0, 1, 0, 4, 12, 28, 63, 127, 255] [] z (by kernel_rfl) (by kernel_rfl) Try.mixed (by kernel_rfl) ?_
 refine wsr (Pt b797 3) 0 z z z (by kernel_rfl) (fun w hst => x_field z underlying36 z sizeOf33 z) (wsr (v881) 1 z z z (by kernel_rfl) (fun w hst => x_load z isAgg33 (hst.bc2 z)) (wsr (p0) 2 z z z (by kernel_rfl) (fun w hst => z) ?_))
 refine ws_e1 3 (by kernel_rfl) ?_
 refine nxe [4, 5, 6, 7, 8] (by kernel_rfl) z z ?_
 clear hst
 intro w hst
 replace hst := hst.pull1
 obtain ⟨t894, ht895, hm⟩ := bind_some hm
 refine wec call13 [p0, I6 (8:Int)] z z ?_
 refine (octet_Reader_Num_ref hst.to1 ht895).mono ?_
 rintro _ w896 ⟨rfl, hst⟩
 refine ⟨_, z, ?_⟩
 replace hst := hst.of1
 refine ws_next (pend' := [(1, v881), (0, Pt b797 3)]) hst (by kernel_rfl) (pkr z z (fun w hst => x_load z isAgg33 (hst.bc2 z)) (pkr z z (fun w hst => x_field z underlying36 z sizeOf33 z) pk_nil)) ?_
 refine ws_e1 4 (by kernel_rfl) ?_
 refine nxe [5, 6, 7, 8] (by kernel_rfl) z z ?_
 clear hst
 intro w hst
 obtain ⟨t899, ht900, hm⟩ := bind_some hm
 refine wec call48 [U6 t894.1] z z ?_
 refine (number_Back_ref hst.to0 ht900).mono ?_
 rintro _ w901 ⟨rfl, hst⟩
 refine ⟨_, z, ?_⟩
 replace hst := hst.of0
 refine ws_next (pend' := [(1, v881), (0, Pt b797 3)]) hst (by kernel_rfl) (pkr z z (fun w hst => x_load z isAgg33 (hst.bc2 z)) (pkr z z (fun w hst => x_field z underlying36 z sizeOf33 z) pk_nil)) ?_
 refine ws_e1 5 (by kernel_rfl) ?_
 refine nxe [6, 7, 8] (by kernel_rfl) z z ?_
 clear hst
 intro w hst
 obtain ⟨b904, w905, ew906, eb907, hst⟩ := hst.lits (E := tyF64) (xs := [t899]) [[F6 t899]] 44 1 z (Reps.cons z Reps.nil)
 refine we_run (v := (.slice (some ⟨b904, 0, none⟩) 1 1)) (w' := w905) z (x_als (by kernel_rfl) ew906 eb907) ?_
 refine ws_next (pend' := [(1, v881), (0, Pt b797 3)]) hst (by kernel_rfl) (pkr z z (fun w hst => x_load z isAgg33 (hst.bc3 z)) (pkr z z (fun w hst => x_field z underlying36 z sizeOf33 z) pk_nil)) ?_
 refine ws_e1 6 (by kernel_rfl) ?_
 refine nxe [7, 8] (by kernel_rfl) z z ?_
 clear hst
 intro w hst
 obtain ⟨hg909, hm⟩ := gd_some hm
 replace hst := hst.pull2
 obtain ⟨v910, w911, hr912, hst⟩ := run_append elem_33 underlying33 hst hst.src1 (room_of hg909 z) 33
 refine we_run (v := v910) (w' := w911) z (x_append z z hr912) ?_
 refine ws_next (pend' := []) hst (by kernel_rfl) pk_nil ?_
 refine wsr (Pt b797 3) 7 z z z (by kernel_rfl) (fun w hst => x_field z underlying36 z sizeOf33 z) ?_
 refine ws_e1 8 (by kernel_rfl) ?_
 refine nxe [] (by kernel_rfl) z z ?_
 clear hst
 intro w hst
 replace hst := hst.pull3
 obtain ⟨w913, hr914, hst⟩ := hst.boxStore1 (P := prog) (t := 33) (cs' := [U6 t774.1, U6 t779.1, U6 t784.1, v910, Zs, Zs, Zs]) 3 v910 (one_of_sliceV hst.sv1) sizeOf33 z z
 refine we_unit z (x_unit hr914) ?_
 refine ws_next (pend' := []) hst (by kernel_rfl) pk_nil ?_
 refine ws_nil ?_
 intro w hst
 refine blk_n (tn (wrl ?_))
 refine wv (.int .i64 (i64.wrap (z884 + (1:Int)))) z z z (wv (.int .i64 (i64.wrap (z884 + (1:Int)))) z z z (wl_nil (tn ?_)))
 replace hst := hst.pull4.pull1.pull4.pull3.keep4
 obtain rfl := some_inj hm
 exact ⟨_, Nat.lt_succ_self _, (z880 ++ ([t899])), t894.2, (i64.wrap (z884 + (1:Int))), v910, _, hx891, (fu 0 p0 z (fu 2 (Pt b769 0) z (fu 3 (Pt b797 0) z (fu 13 (.int .i64 t804.1) z (fu 14 (.int .i64 (i64.wrap (z884 + (1:Int)))) z z))))), hst⟩
}
 {
 replace hm := bif_f hc893 hm
 refine wp_iff (cvb hc893) ?_
 refine wp_exit (then_x (then_x ?_))
 replace hm := inr_up hm hx891
 refine blk_x (tn ?_)
 replace hst := hst.pull2.pull3.pull3.keep4
 obtain rfl := some_inj hm
 exact ⟨z883, z880, v881, _, hx922, (fu 0 p0 z (fu 2 (Pt b769 0) z (fu 3 (Pt b797 0) z z))), hst⟩
}
}
 {
 clear hst
 rintro _ w923 ⟨z915, z918, v917, σ919, hm, rfl, hst⟩
 dsimp only [locks_Read_j0] at hm
 obtain ⟨y1081, hm, hx1082⟩ := bind_some hm
 refine wp_cut (fun a w => ∃ (z1075 : octet_Reader) (z1078 : (List (Nat × Nat))) (v1077 : Value) (σ1079 : Nat → Value), (locks_Read_j2 t774 t779 t784 z918) (z1075, z1078) = some r ∧ a = Fr 59 (upd (upd (upd σ1079 0 (p0)) 2 (Pt b769 0)) 3 (Pt b797 0)) ∧ St w0 w I [at_octet_Reader p0 z1075, cells b769 [Zu, Zu, Zu, Zs, Zs, Zs, Zs], cells b797 [U6 t774.1, U6 t779.1, U6 t784.1, v917, v1077, Zs, Zs], ownS tyF64 v917 z918, ownS tyF2 v1077 z1078] R) ?_ ?_
 {
 refine wp_seq (wrl (wv (p0) z z z ?_))
 obtain ⟨t924, ht925, hm⟩ := bind_some hm
 refine wc call46 [p0, I6 (32:Int)] z z z ?_
 refine (octet_Reader_Count_ref hst.to1 ht925).mono ?_
 rintro _ w926 ⟨rfl, hst⟩
 refine ⟨_, z, ?_⟩
 replace hst := hst.of1
 refine wv (.int .i64 (0:Int)) z z z (wl_nil (tn (wp_block ?_)))
 replace hst := hst.own_nil tyF2
 obtain ⟨n1036, hm⟩ := loopO_some hm
 refine wp_loop_n (fun n a w => ∃ (z1030 : (List (Nat × Nat))) (z1033 : octet_Reader) (z1034 : Int) (v1031 : Value) (σ1035 : Nat → Value), loopN (locks_Read_l3 t924) n (z1030, z1033, z1034) = some y1081 ∧ a = Fr 59 (upd (upd (upd (upd (upd σ1035 0 (p0)) 2 (Pt b769 0)) 3 (Pt b797 0)) 26 (.int .i64 t924.1)) 27 (.int .i64 z1034)) ∧ St w0 w I [ownS tyF2 v1031 z1030, at_octet_Reader p0 z1033, cells b769 [Zu, Zu, Zu, Zs, Zs, Zs, Zs], cells b797 [U6 t774.1, U6 t779.1, U6 t784.1, v917, v1031, Zs, Zs], ownS tyF64 v917 z918] R) n1036 ⟨[], t924.2, (0:Int), Zs, _, hm, (fu 0 p0 z (fu 2 (Pt b769 0) z (fu 3 (Pt b797 0) z (fu 26 (.int .i64 t924.1) z (fu 27 (.int .i64 (0:Int)) z z))))), hst⟩ ?_
 rintro n1042 _ w1037 ⟨z1030, z1033, z1034, v1031, σ1035, hm, rfl, hst⟩
 obtain ⟨n1039, y1040, rfl, hm, hx1041⟩ := loopN_some hm
 dsimp only [locks_Read_l3] at hm
 refine wp_seq (wrl (wv (.bool (decide (z1034 < t924.1))) z z z (wl_nil (tn (wp_seq ?_)))))
 refine bsplit (decide (z1034 < t924.1)) (fun hc1043 => ?_) (fun hc1043 => ?_)
 {
 replace hm := bif_t hc1043 hm
 refine wp_ift (cvb hc1043) ?_
 refine wp_skip (tn (wp_seq (wp_block ?_)))
 refine wp_region_St hst 13 [0, 1, 2, 3, 4, 5, 6, 7, 8, 9, 10, 11, 12] [0, 1, 0, 4, 12, 0, 60, 124, 252, 508, 1023, 2047, 4095] [] z (by kernel_rfl) (by kernel_rfl) Try.mixed (by kernel_rfl) ?_
 refine wsr (Pt b797 4) 0 z z z (by kernel_rfl) (fun w hst => x_field z underlying36 z sizeOf34 z) (wsr (v1031) 1 z z z (by kernel_rfl) (fun w hst => x_load z isAgg34 (hst.bc3 z)) (wsr (p0) 2 z z z (by kernel_rfl) (fun w hst => z) (wsr (p0) 5 z z z (by kernel_rfl) (fun w hst => z) ?_)))
 refine ws_e1 3 (by kernel_rfl) ?_
 refine nxe [4, 6, 7, 8, 9, 10, 11, 12] (by kernel_rfl) z z ?_
 clear hst
 intro w hst
 replace hst := hst.pull1
 obtain ⟨t1044, ht1045, hm⟩ := bind_some hm
 refine wec call13 [p0, I6 (8:Int)] z z ?_
 refine (octet_Reader_Num_ref hst.to1 ht1045).mono ?_
 rintro _ w1046 ⟨rfl, hst⟩
 refine ⟨_, z, ?_⟩
 replace hst := hst.of1
 refine ws_next (pend' := [(5, p0), (1, v1031), (0, Pt b797 4)]) hst (by kernel_rfl) (pkr z z (fun w hst => z) (pkr z z (fun w hst => x_load z isAgg34 (hst.bc3 z)) (pkr z z (fun w hst => x_field z underlying36 z sizeOf34 z) pk_nil))) ?_
 refine ws_e1 4 (by kernel_rfl) ?_
 refine nxe [6, 7, 8, 9, 10, 11, 12] (by kernel_rfl) z z ?_
 clear hst
 intro w hst
 obtain ⟨t1049, ht1050, hm⟩ := bind_some hm
 refine wec call48 [U6 t1044.1] z z ?_
 refine (number_Back_ref hst.to0 ht1050).mono ?_
 rintro _ w1051 ⟨rfl, hst⟩
 refine ⟨_, z, ?_⟩
 replace hst := hst.of0
 refine ws_next (pend' := [(5, p0), (1, v1031), (0, Pt b797 4)]) hst (by kernel_rfl) (pkr z z (fun w hst => z) (pkr z z (fun w hst => x_load z isAgg34 (hst.bc3 z)) (pkr z z (fun w hst => x_field z underlying36 z sizeOf34 z) pk_nil))) ?_
 refine ws_e1 6 (by kernel_rfl) ?_
 refine nxe [7, 8, 9, 10, 11, 12] (by kernel_rfl) z z ?_
 clear hst
 intro w hst
 obtain ⟨t1054, ht1055, hm⟩ := bind_some hm
 refine wec call13 [p0, I6 (8:Int)] z z ?_
 refine (octet_Reader_Num_ref hst.to1 ht1055).mono ?_
 rintro _ w1056 ⟨rfl, hst⟩
 refine ⟨_, z, ?_⟩
 replace hst := hst.of1
 refine ws_next (pend' := [(1, v1031), (0, Pt b797 4)]) hst (by kernel_rfl) (pkr z z (fun w hst => x_load z isAgg34 (hst.bc3 z)) (pkr z z (fun w hst => x_field z underlying36 z sizeOf34 z) pk_nil)) ?_
 refine ws_e1 7 (by kernel_rfl) ?_
 refine nxe [8, 9, 10, 11, 12] (by kernel_rfl) z z ?_
 clear hst
 intro w hst
 obtain ⟨t1059, ht1060, hm⟩ := bind_some hm
 refine wec call48 [U6 t1054.1] z z ?_
 refine (number_Back_ref hst.to0 ht1060).mono ?_
 rintro _ w1061 ⟨rfl, hst⟩
 refine ⟨_, z, ?_⟩
 replace hst := hst.of0
 refine ws_next (pend' := [(1, v1031), (0, Pt b797 4)]) hst (by kernel_rfl) (pkr z z (fun w hst => x_load z isAgg34 (hst.bc3 z)) (pkr z z (fun w hst => x_field z underlying36 z sizeOf34 z) pk_nil)) ?_
 refine wsr (.agg #[F6 t1049, F6 t1059]) 8 z z z (by kernel_rfl) (fun w hst => by kernel_rfl) ?_
 refine ws_e1 9 (by kernel_rfl) ?_
 refine nxe [10, 11, 12] (by kernel_rfl) z z ?_
 clear hst
 intro w hst
 obtain ⟨b1064, w1065, ew1066, eb1067, hst⟩ := hst.lits (E := tyF2) (xs := [(t1049, t1059)]) [[F6 t1049, F6 t1059]] 102 1 z (Reps.cons z Reps.nil)
 refine we_run (v := (.slice (some ⟨b1064, 0, none⟩) 1 1)) (w' := w1065) z (x_als (by kernel_rfl) ew1066 eb1067) ?_
 refine ws_next (pend' := [(1, v1031), (0, Pt b797 4)]) hst (by kernel_rfl) (pkr z z (fun w hst => x_load z isAgg34 (hst.bc4 z)) (pkr z z (fun w hst => x_field z underlying36 z sizeOf34 z) pk_nil)) ?_
 refine ws_e1 10 (by kernel_rfl) ?_
 refine nxe [11, 12] (by kernel_rfl) z z ?_
 clear hst
 intro w hst
 obtain ⟨hg1069, hm⟩ := gd_some hm
 replace hst := hst.pull2
 obtain ⟨v1070, w1071, hr1072, hst⟩ := run_append elem_34 underlying34 hst hst.src1 (room_of hg1069 z) 34
 refine we_run (v := v1070) (w' := w1071) z (x_append z z hr1072) ?_
 refine ws_next (pend' := []) hst (by kernel_rfl) pk_nil ?_
 refine wsr (Pt b797 4) 11 z z z (by kernel_rfl) (fun w hst => x_field z underlying36 z sizeOf34 z) ?_
 refine ws_e1 12 (by kernel_rfl) ?_
 refine nxe [] (by kernel_rfl) z z ?_
 clear hst
 intro w hst
 replace hst := hst.pull4
 obtain ⟨w1073, hr1074, hst⟩ := hst.boxStore1 (P := prog) (t := 34) (cs' := [U6 t774.1, U6 t779.1, U6 t784.1, v917, v1070, Zs, Zs]) 4 v1070 (one_of_sliceV hst.sv1) sizeOf34 z z
 refine we_unit z (x_unit hr1074) ?_
 refine ws_next (pend' := []) hst (by kernel_rfl) pk_nil ?_
 refine ws_nil ?_
 intro w hst
 refine blk_n (tn (wrl ?_))
 refine wv (.int .i64 (i64.wrap (z1034 + (1:Int)))) z z z (wv (.int .i64 (i64.wrap (z1034 + (1:Int)))) z z z (wl_nil (tn ?_)))
 replace hst := hst.pull5.pull1.pull5.pull5.pull4.keep5
 obtain rfl := some_inj hm
 exact ⟨_, Nat.lt_succ_self _, (z1030 ++ ([(t1049, t1059)])), t1054.2, (i64.wrap (z1034 + (1:Int))), v1070, _, hx1041, (fu 0 p0 z (fu 2 (Pt b769 0) z (fu 3 (Pt b797 0) z (fu 26 (.int .i64 t924.1) z (fu 27 (.int .i64 (i64.wrap (z1034 + (1:Int)))) z z))))), hst⟩
}
 {
 replace hm := bif_f hc1043 hm
 refine wp_iff (cvb hc1043) ?_
 refine wp_exit (then_x (then_x ?_))
 replace hm := inr_up hm hx1041
 refine blk_x (tn ?_)
 replace hst := hst.pull4.pull4.pull4.pull4.keep5
 obtain rfl := some_inj hm
 exact ⟨z1033, z1030, v1031, _, hx1082, (fu 0 p0 z (fu 2 (Pt b769 0) z (fu 3 (Pt b797 0) z z))), hst⟩
}
}
 {
 clear hst
 rintro _ w1083 ⟨z1075, z1078, v1077, σ1079, hm, rfl, hst⟩
 dsimp only [locks_Read_j2] at hm
 obtain ⟨y1201, hm, hx1202⟩ := bind_some hm
 refine wp_cut (fun a w => ∃ (z1195 : octet_Reader) (z1198 : (List Nat)) (v1197 : Value) (σ1199 : Nat → Value), (locks_Read_j4 t774 t779 t784 z918 z1078) (z1195, z1198) = some r ∧ a = Fr 59 (upd (upd (upd σ1199 0 (p0)) 2 (Pt b769 0)) 3 (Pt b797 0)) ∧ St w0 w I [at_octet_Reader p0 z1195, cells b769 [Zu, Zu, Zu, Zs, Zs, Zs, Zs], cells b797 [U6 t774.1, U6 t779.1, U6 t784.1, v917, v1077, v1197, Zs], ownS tyF64 v917 z918, ownS tyF2 v1077 z1078, ownS tyF64 v1197 z1198] R) ?_ ?_
 {
 refine wp_seq (wrl (wv (p0) z z z ?_))
 obtain ⟨t1084, ht1085, hm⟩ := bind_some hm
 refine wc call46 [p0, I6 (32:Int)] z z z ?_
 refine (octet_Reader_Count_ref hst.to1 ht1085).mono ?_
 rintro _ w1086 ⟨rfl, hst⟩
 refine ⟨_, z, ?_⟩
 replace hst := hst.of1
 refine wv (.int .i64 (0:Int)) z z z (wl_nil (tn (wp_block ?_)))
 replace hst := hst.own_nil tyF64
 obtain ⟨n1166, hm⟩ := loopO_some hm
 refine wp_loop_n (fun n a w => ∃ (z1160 : (List Nat)) (z1163 : octet_Reader) (z1164 : Int) (v1161 : Value) (σ1165 : Nat → Value), loopN (locks_Read_l5 t1084) n (z1160, z1163, z1164) = some y1201 ∧ a = Fr 59 (upd (upd (upd (upd (upd σ1165 0 (p0)) 2 (Pt b769 0)) 3 (Pt b797 0)) 43 (.int .i64 t1084.1)) 44 (.int .i64 z1164)) ∧ St w0 w I [ownS tyF64 v1161 z1160, at_octet_Reader p0 z1163, cells b769 [Zu, Zu, Zu, Zs, Zs, Zs, Zs], cells b797 [U6 t774.1, U6 t779.1, U6 t784.1, v917, v1077, v1161, Zs], ownS tyF64 v917 z918, ownS tyF2 v1077 z1078] R) n1166 ⟨[], t1084.2, (0:Int), Zs, _, hm, (fu 0 p0 z (fu 2 (Pt b769 0) z (fu 3 (Pt b797 0) z (fu 43 (.int .i64 t1084.1) z (fu 44 (.int .i64 (0:Int)) z z))))), hst⟩ ?_
 rintro n1172 _ w1167 ⟨z1160, z1163, z1164, v1161, σ1165, hm, rfl, hst⟩
 obtain ⟨n1169, y1170, rfl, hm, hx1171⟩ := loopN_some hm
 dsimp only [locks_Read_l5] at hm
 refine wp_seq (wrl (wv (.bool (decide (z1164 < t1084.1))) z z z (wl_nil (tn (wp_seq ?_)))))
 refine bsplit (decide (z1164 < t1084.1)) (fun hc1173 => ?_) (fun hc1173 => ?_)
 {
 replace hm := bif_t hc1173 hm
 refine wp_ift (cvb hc1173) ?_
 refine wp_skip (tn (wp_seq (wp_block ?_)))
 refine wp_region_St hst 9 [0, 1, 2, 3, 4, 5, 6, 7, 8] [0, 1, 0, 4, 12, 28, 63, 127, 255] [] z (by kernel_rfl) (by kernel_rfl) Try.mixed (by kernel_rfl) ?_
 refine wsr (Pt b797 5) 0 z z z (by kernel_rfl) (fun w hst => x_field z underlying36 z sizeOf33 z) (wsr (v1161) 1 z z z (by kernel_rfl) (fun w hst => x_load z isAgg33 (hst.bc3 z)) (wsr (p0) 2 z z z (by kernel_rfl) (fun w hst => z) ?_))
 refine ws_e1 3 (by kernel_rfl) ?_
 refine nxe [4, 5, 6, 7, 8] (by kernel_rfl) z z ?_
 clear hst
 intro w hst
 replace hst := hst.pull1
 obtain ⟨t1174, ht1175, hm⟩ := bind_some hm
 refine wec call13 [p0, I6 (8:Int)] z z ?_
 refine (octet_Reader_Num_ref hst.to1 ht1175).mono ?_
 rintro _ w1176 ⟨rfl, hst⟩
 refine ⟨_, z, ?_⟩
 replace hst := hst.of1
 refine ws_next (pend' := [(1, v1161), (0, Pt b797 5)]) hst (by kernel_rfl) (pkr z z (fun w hst => x_load z isAgg33 (hst.bc3 z)) (pkr z z (fun w hst => x_field z underlying36 z sizeOf33 z) pk_nil)) ?_
 refine ws_e1 4 (by kernel_rfl) ?_
 refine nxe [5, 6, 7, 8] (by kernel_rfl) z z ?_
 clear hst
 intro w hst
 obtain ⟨t1179, ht1180, hm⟩ := bind_some hm
 refine wec call48 [U6 t1174.1] z z ?_
 refine (number_Back_ref hst.to0 ht1180).mono ?_
 rintro _ w1181 ⟨rfl, hst⟩
 refine ⟨_, z, ?_⟩
 replace hst := hst.of0
 refine ws_next (pend' := [(1, v1161), (0, Pt b797 5)]) hst (by kernel_rfl) (pkr z z (fun w hst => x_load z isAgg33 (hst.bc3 z)) (pkr z z (fun w hst => x_field z underlying36 z sizeOf33 z) pk_nil)) ?_
 refine ws_e1 5 (by kernel_rfl) ?_
 refine nxe [6, 7, 8] (by kernel_rfl) z z ?_
 clear hst
 intro w hst
 obtain ⟨b1184, w1185, ew1186, eb1187, hst⟩ := hst.lits (E := tyF64) (xs := [t1179]) [[F6 t1179]] 44 1 z (Reps.cons z Reps.nil)
 refine we_run (v := (.slice (some ⟨b1184, 0, none⟩) 1 1)) (w' := w1185) z (x_als (by kernel_rfl) ew1186 eb1187) ?_
 refine ws_next (pend' := [(1, v1161), (0, Pt b797 5)]) hst (by kernel_rfl) (pkr z z (fun w hst => x_load z isAgg33 (hst.bc4 z)) (pkr z z (fun w hst => x_field z underlying36 z sizeOf33 z) pk_nil)) ?_
 refine ws_e1 6 (by kernel_rfl) ?_
 refine nxe [7, 8] (by kernel_rfl) z z ?_
 clear hst
 intro w hst
 obtain ⟨hg1189, hm⟩ := gd_some hm
 replace hst := hst.pull2
 obtain ⟨v1190, w1191, hr1192, hst⟩ := run_append elem_33 underlying33 hst hst.src1 (room_of hg1189 z) 33
 refine we_run (v := v1190) (w' := w1191) z (x_append z z hr1192) ?_
 refine ws_next (pend' := []) hst (by kernel_rfl) pk_nil ?_
 refine wsr (Pt b797 5) 7 z z z (by kernel_rfl) (fun w hst => x_field z underlying36 z sizeOf33 z) ?_
 refine ws_e1 8 (by kernel_rfl) ?_
 refine nxe [] (by kernel_rfl) z z ?_
 clear hst
 intro w hst
 replace hst := hst.pull4
 obtain ⟨w1193, hr1194, hst⟩ := hst.boxStore1 (P := prog) (t := 33) (cs' := [U6 t774.1, U6 t779.1, U6 t784.1, v917, v1077, v1190, Zs]) 5 v1190 (one_of_sliceV hst.sv1) sizeOf33 z z
 refine we_unit z (x_unit hr1194) ?_
 refine ws_next (pend' := []) hst (by kernel_rfl) pk_nil ?_
 refine ws_nil ?_
 intro w hst
 refine blk_n (tn (wrl ?_))
 refine wv (.int .i64 (i64.wrap (z1164 + (1:Int)))) z z z (wv (.int .i64 (i64.wrap (z1164 + (1:Int)))) z z z (wl_nil (tn ?_)))
 replace hst := hst.pull6.pull6.pull2.pull6.pull6.pull5.keep6
 obtain rfl := some_inj hm
 exact ⟨_, Nat.lt_succ_self _, (z1160 ++ ([t1179])), t1174.2, (i64.wrap (z1164 + (1:Int))), v1190, _, hx1171, (fu 0 p0 z (fu 2 (Pt b769 0) z (fu 3 (Pt b797 0) z (fu 43 (.int .i64 t1084.1) z (fu 44 (.int .i64 (i64.wrap (z1164 + (1:Int)))) z z))))), hst⟩
}
 {
 replace hm := bif_f hc1173 hm
 refine wp_iff (cvb hc1173) ?_
 refine wp_exit (then_x (then_x ?_))
 replace hm := inr_up hm hx1171
 refine blk_x (tn ?_)
 replace hst := hst.pull5.pull5.pull5.pull5.pull5.keep6
 obtain rfl := some_inj hm
 exact ⟨z1163, z1160, v1161, _, hx1202, (fu 0 p0 z (fu 2 (Pt b769 0) z (fu 3 (Pt b797 0) z z))), hst⟩
}
}
 {
 clear hst
 rintro _ w1203 ⟨z1195, z1198, v1197, σ1199, hm, rfl, hst⟩
 dsimp only [locks_Read_j4] at hm
 refine wp_seq (wrl (wv (p0) z z z ?_))
 obtain ⟨t1204, ht1205, hm⟩ := bind_some hm
 refine wc call18 [p0, I6 (257:Int)] z z z ?_
 refine (octet_Reader_Bytes_ref hst.to1 ht1205).mono ?_
 rintro _ w1206 ⟨v1209, rfl, hst⟩
 refine ⟨_, z, ?_⟩
 replace hst := hst.of2
 refine wv (Pt b797 6) z z (x_field z underlying36 z sizeOf22 z) ?_
 replace hst := hst.pull3
 obtain ⟨w1211, hr1212, hst⟩ := hst.boxStore1 (P := prog) (t := 22) (cs' := [U6 t774.1, U6 t779.1, U6 t784.1, v917, v1077, v1197, v1209]) 6 v1209 (one_of_sliceV hst.sv1) sizeOf22 z z
 refine wl_unit z z (x_unit hr1212) ?_
 refine wl_nil (tn (wp_seq (wrl (wv (.agg #[U6 t774.1, U6 t779.1, U6 t784.1, v917, v1077, v1197, v1209]) z z (x_loadN (cs := [U6 t774.1, U6 t779.1, U6 t784.1, v917, v1077, v1197, v1209]) z isAgg36 sizeOf36 (hst.bcs0 0 z)) ?_))))
 replace hst := hst.pull3
 obtain ⟨w1213, hr1214, hst⟩ := hst.bx [U6 t774.1, U6 t779.1, U6 t784.1, v917, v1077, v1197, v1209] sizeOf36 z (oC z (oC z (oC z (oC (one_of_sliceV hst.sv4) (oC (one_of_sliceV hst.sv5) (oC (one_of_sliceV hst.sv6) (oC (one_of_sliceV hst.sv2) oN))))))) (by kernel_rfl)
 refine wl_unit z z (x_unit hr1214) ?_
 refine wl_nil (tn (wp_ret ?_))
 obtain rfl := some_inj hm
 refine post_ret (vs := [.agg #[U6 t774.1, U6 t779.1, U6 t784.1, v917, v1077, v1197, v1209]]) results15 (rvs_cons (rv_cell (cs := [U6 t774.1, U6 t779.1, U6 t784.1, v917, v1077, v1197, v1209]) z isAgg36 sizeOf36 (hst.bcs0 0 z)) rvs_nil) ?_
 replace hst := hst.pull3.pull3.pull6.pull6.pull6
 exact ⟨v917, v1077, v1197, v1209, z, hst.keep5⟩
}
}
}
}

theorem command_ReadReply_ref {w0 w : World} {I : HL} {R : SP} {a0 : octet_Reader} {p0 : Value}  (hst : St w0 w I [at_octet_Reader p0 a0] R) {r : (api_Reply × octet_Reader)} (hm : command_ReadReply a0 = some r) :
  Calls prog 16 #[p0] w fun e w' => ∃ (I' : HL) (q0_0 : Value) (q0_1 : Value), e = .returned (.agg #[I6 r.1.E, U6 r.1.Epoch, U6 r.1.Index, q0_0, q0_1]) ∧ I.le I' ∧ St w0 w' I' [ownS ty_api_Got q0_0 r.1.Gots, ownS (tySl ty_api_Pair) q0_1 r.1.Scans, at_octet_Reader p0 r.2] R := by {
 unfold command_ReadReply at hm
 refine calls_start (args := [p0]) func16 z ntmps16 (Nat.le_of_ble_eq_true z) ?_
 have hI0 := HL.le.refl I
 refine wp_seq (wrl ?_)
 obtain ⟨b1278, w1279, ew1280, eb1281, hst⟩ := hst.box [Zi, Zu, Zu, Zs, Zs] 41
 refine wl_run (v := Pt b1278 0) (w' := w1279) z z (x_al (by kernel_rfl) ew1280 eb1281) ?_
 refine wl_nil (tn (wp_seq (wrl (wv (p0) z z z ?_))))
 replace hst := hst.pull1
 obtain ⟨t1283, ht1284, hm⟩ := bind_some hm
 refine wc call13 [p0, I6 (1:Int)] z z z ?_
 refine (octet_Reader_Num_ref hst.to1 ht1284).mono ?_
 rintro _ w1285 ⟨rfl, hst⟩
 refine ⟨_, z, ?_⟩
 replace hst := hst.of1
 refine wv (.int .i64 (i64.wrap t1283.1)) z z (by kernel_rfl) (wv (p0) z z z ?_)
 obtain ⟨t1288, ht1289, hm⟩ := bind_some hm
 refine wc call13 [p0, I6 (8:Int)] z z z ?_
 refine (octet_Reader_Num_ref hst.to1 ht1289).mono ?_
 rintro _ w1290 ⟨rfl, hst⟩
 refine ⟨_, z, ?_⟩
 replace hst := hst.of1
 refine wv (p0) z z z ?_
 obtain ⟨t1293, ht1294, hm⟩ := bind_some hm
 refine wc call13 [p0, I6 (8:Int)] z z z ?_
 refine (octet_Reader_Num_ref hst.to1 ht1294).mono ?_
 rintro _ w1295 ⟨rfl, hst⟩
 refine ⟨_, z, ?_⟩
 replace hst := hst.of1
 refine wv (.agg #[I6 (i64.wrap t1283.1), U6 t1288.1, U6 t1293.1, Zs, Zs]) z z (by kernel_rfl) ?_
 obtain ⟨b1302, w1303, ew1304, eb1305, hst⟩ := hst.box [Zi, Zu, Zu, Zs, Zs] 41
 refine wl_run (v := Pt b1302 0) (w' := w1303) z z (x_al (by kernel_rfl) ew1304 eb1305) ?_
 obtain ⟨w1307, hr1308, hst⟩ := hst.bx [I6 (i64.wrap t1283.1), U6 t1288.1, U6 t1293.1, Zs, Zs] sizeOf41 z (oC z (oC z (oC z (oC z (oC z oN))))) (by kernel_rfl)
 refine wl_unit z z (x_unit hr1308) ?_
 refine wl_nil (tn ?_)
 obtain ⟨y1456, hm, hx1457⟩ := bind_some hm
 refine wp_cut (fun a w => ∃ (I1453 : HL) (z1449 : octet_Reader) (z1452 : (List api_Got)) (v1451 : Value) (σ1454 : Nat → Value), (command_ReadReply_j0 t1283 t1288 t1293) (z1449, z1452) = some r ∧ a = Fr 54 (upd (upd (upd σ1454 0 (p0)) 2 (Pt b1278 0)) 3 (Pt b1302 0)) ∧ I.le I1453 ∧ St w0 w I1453 [at_octet_Reader p0 z1449, cells b1278 [Zi, Zu, Zu, Zs, Zs], cells b1302 [I6 (i64.wrap t1283.1), U6 t1288.1, U6 t1293.1, v1451, Zs], ownS ty_api_Got v1451 z1452] R) ?_ ?_
 {
 have hL1458 := HL.le.refl I
 refine wp_seq (wrl (wv (p0) z z z ?_))
 replace hst := hst.pull1
 obtain ⟨t1309, ht1310, hm⟩ := bind_some hm
 refine wc call46 [p0, I6 (32:Int)] z z z ?_
 refine (octet_Reader_Count_ref hst.to1 ht1310).mono ?_
 rintro _ w1311 ⟨rfl, hst⟩
 refine ⟨_, z, ?_⟩
 replace hst := hst.of1
 refine wv (.int .i64 (0:Int)) z z z (wl_nil (tn (wp_block ?_)))
 replace hst := hst.own_nil ty_api_Got
 obtain ⟨n1413, hm⟩ := loopO_some hm
 refine wp_loop_n (fun n a w => ∃ (I1411 : HL) (z1406 : (List api_Got)) (z1409 : octet_Reader) (z1410 : Int) (v1407 : Value) (σ1412 : Nat → Value), loopN (command_ReadReply_l1 t1309) n (z1406, z1409, z1410) = some y1456 ∧ a = Fr 54 (upd (upd (upd (upd (upd σ1412 0 (p0)) 2 (Pt b1278 0)) 3 (Pt b1302 0)) 14 (.int .i64 t1309.1)) 15 (.int .i64 z1410)) ∧ I.le I1411 ∧ St w0 w I1411 [ownS ty_api_Got v1407 z1406, at_octet_Reader p0 z1409, cells b1302 [I6 (i64.wrap t1283.1), U6 t1288.1, U6 t1293.1, v1407, Zs], cells b1278 [Zi, Zu, Zu, Zs, Zs]] R) n1413 ⟨_, [], t1309.2, (0:Int), Zs, _, hm, (fu 0 p0 z (fu 2 (Pt b1278 0) z (fu 3 (Pt b1302 0) z (fu 14 (.int .i64 t1309.1) z (fu 15 (.int .i64 (0:Int)) z z))))), (HL.le.refl _), hst⟩ ?_
 rintro n1419 _ w1414 ⟨I1411, z1406, z1409, z1410, v1407, σ1412, hm, rfl, hL1415, hst⟩
 obtain ⟨n1416, y1417, rfl, hm, hx1418⟩ := loopN_some hm
 dsimp only [command_ReadReply_l1] at hm
 replace hI0 := hI0.trans hL1415
 replace hL1458 := hL1458.trans hL1415
 refine wp_seq (wrl (wv (.bool (decide (z1410 < t1309.1))) z z z (wl_nil (tn (wp_seq ?_)))))
 refine bsplit (decide (z1410 < t1309.1)) (fun hc1420 => ?_) (fun hc1420 => ?_)
 {
 replace hm := bif_t hc1420 hm
 refine wp_ift (cvb hc1420) ?_
 refine wp_skip (tn (wp_seq (wp_block ?_)))
 refine wp_region_St hst 11 [0, 1, 2, 3, 4, 5, 6, 7, 8, 9, 10] [0, 1, 0, 4, 0, 28, 60, 124, 255, 511, 1023] [] z (by kernel_rfl) (by kernel_rfl) Try.mixed (by kernel_rfl) ?_
 refine wsr (Pt b1302 3) 0 z z z (by kernel_rfl) (fun w hst => x_field z underlying41 z sizeOf38 z) (wsr (v1407) 1 z z z (by kernel_rfl) (fun w hst => x_load z isAgg38 (hst.bc2 z)) (wsr (p0) 2 z z z (by kernel_rfl) (fun w hst => z) (wsr (p0) 4 z z z (by kernel_rfl) (fun w hst => z) ?_)))
 refine ws_e1 3 (by kernel_rfl) ?_
 refine nxe [5, 6, 7, 8, 9, 10] (by kernel_rfl) z z ?_
 clear hst
 intro w hst
 replace hst := hst.pull1
 obtain ⟨t1421, ht1422, hm⟩ := bind_some hm
 refine wec call45 [p0] z z ?_
 refine (octet_Reader_Flag_ref hst.to1 ht1422).mono ?_
 rintro _ w1423 ⟨rfl, hst⟩
 refine ⟨_, z, ?_⟩
 replace hst := hst.of1
 refine ws_next (pend' := [(4, p0), (1, v1407), (0, Pt b1302 3)]) hst (by kernel_rfl) (pkr z z (fun w hst => z) (pkr z z (fun w hst => x_load z isAgg38 (hst.bc2 z)) (pkr z z (fun w hst => x_field z underlying41 z sizeOf38 z) pk_nil))) ?_
 refine ws_e1 5 (by kernel_rfl) ?_
 refine nxe [6, 7, 8, 9, 10] (by kernel_rfl) z z ?_
 clear hst
 intro w hst
 obtain ⟨t1426, ht1427, hm⟩ := bind_some hm
 refine wec call18 [p0, I6 (256:Int)] z z ?_
 refine (octet_Reader_Bytes_ref hst.to1 ht1427).mono ?_
 rintro _ w1428 ⟨v1431, rfl, hst⟩
 refine ⟨_, z, ?_⟩
 replace hst := hst.of2
 refine ws_next (pend' := [(1, v1407), (0, Pt b1302 3)]) hst (by kernel_rfl) (pkr z z (fun w hst => x_load z isAgg38 (hst.bc3 z)) (pkr z z (fun w hst => x_field z underlying41 z sizeOf38 z) pk_nil)) ?_
 refine wsr (.agg #[.bool t1421.1, v1431]) 6 rfl rfl rfl (by kernel_rfl) (fun w hst => by obtain ⟨_, _, hv_, _⟩ := hst.sv0; rw [hv_]; kernel_rfl) ?_
 refine ws_e1 7 (by kernel_rfl) ?_
 refine nxe [8, 9, 10] (by kernel_rfl) z z ?_
 clear hst
 intro w hst
 obtain ⟨I1435, hI1436, f1437, hst⟩ := hst.own_fix
 replace hI0 := hI0.trans hI1436
 replace hL1458 := hL1458.trans hI1436
 replace hL1415 := hL1415.trans hI1436
 obtain ⟨b1438, w1439, ew1440, eb1441, hst⟩ := hst.lits (E := ty_api_Got) (xs := [({ Has := t1421.1, Val := t1426.1 } : api_Got)]) [[.bool t1421.1, v1431]] 104 1 z (Reps.cons ⟨_, z, f1437, one_of_sliceV (ro_sliceV f1437)⟩ Reps.nil)
 refine we_run (v := (.slice (some ⟨b1438, 0, none⟩) 1 1)) (w' := w1439) z (x_als (by kernel_rfl) ew1440 eb1441) ?_
 refine ws_next (pend' := [(1, v1407), (0, Pt b1302 3)]) hst (by kernel_rfl) (pkr z z (fun w hst => x_load z isAgg38 (hst.bc3 z)) (pkr z z (fun w hst => x_field z underlying41 z sizeOf38 z) pk_nil)) ?_
 refine ws_e1 8 (by kernel_rfl) ?_
 refine nxe [9, 10] (by kernel_rfl) z z ?_
 clear hst
 intro w hst
 obtain ⟨hg1443, hm⟩ := gd_some hm
 replace hst := hst.pull2
 obtain ⟨v1444, w1445, hr1446, hst⟩ := run_append elem_38 underlying38 hst hst.src1 (room_of hg1443 z) 38
 refine we_run (v := v1444) (w' := w1445) z (x_append z z hr1446) ?_
 refine ws_next (pend' := []) hst (by kernel_rfl) pk_nil ?_
 refine wsr (Pt b1302 3) 9 z z z (by kernel_rfl) (fun w hst => x_field z underlying41 z sizeOf38 z) ?_
 refine ws_e1 10 (by kernel_rfl) ?_
 refine nxe [] (by kernel_rfl) z z ?_
 clear hst
 intro w hst
 replace hst := hst.pull3
 obtain ⟨w1447, hr1448, hst⟩ := hst.boxStore1 (P := prog) (t := 38) (cs' := [I6 (i64.wrap t1283.1), U6 t1288.1, U6 t1293.1, v1444, Zs]) 3 v1444 (one_of_sliceV hst.sv1) sizeOf38 z z
 refine we_unit z (x_unit hr1448) ?_
 refine ws_next (pend' := []) hst (by kernel_rfl) pk_nil ?_
 refine ws_nil ?_
 intro w hst
 refine blk_n (tn (wrl ?_))
 refine wv (.int .i64 (i64.wrap (z1410 + (1:Int)))) z z z (wv (.int .i64 (i64.wrap (z1410 + (1:Int)))) z z z (wl_nil (tn ?_)))
 replace hst := hst.pull4.pull1.pull4.pull3.keep4
 obtain rfl := some_inj hm
 exact ⟨_, Nat.lt_succ_self _, _, (z1406 ++ ([({ Has := t1421.1, Val := t1426.1 } : api_Got)])), t1426.2, (i64.wrap (z1410 + (1:Int))), v1444, _, hx1418, (fu 0 p0 z (fu 2 (Pt b1278 0) z (fu 3 (Pt b1302 0) z (fu 14 (.int .i64 t1309.1) z (fu 15 (.int .i64 (i64.wrap (z1410 + (1:Int)))) z z))))), hL1415, hst⟩
}
 {
 replace hm := bif_f hc1420 hm
 refine wp_iff (cvb hc1420) ?_
 refine wp_exit (then_x (then_x ?_))
 replace hm := inr_up hm hx1418
 refine blk_x (tn ?_)
 replace hst := hst.pull2.pull3.pull3.keep4
 obtain rfl := some_inj hm
 exact ⟨_, z1409, z1406, v1407, _, hx1457, (fu 0 p0 z (fu 2 (Pt b1278 0) z (fu 3 (Pt b1302 0) z z))), hL1458, hst⟩
}
}
 {
 clear hst
 rintro _ w1459 ⟨I1453, z1449, z1452, v1451, σ1454, hm, rfl, hL1455, hst⟩
 dsimp only [command_ReadReply_j0] at hm
 replace hI0 := hI0.trans hL1455
 refine wp_seq (wp_seq (wrl (wv (p0) z z z ?_)))
 obtain ⟨t1460, ht1461, hm⟩ := bind_some hm
 refine wc call46 [p0, I6 (32:Int)] z z z ?_
 refine (octet_Reader_Count_ref hst.to1 ht1461).mono ?_
 rintro _ w1462 ⟨rfl, hst⟩
 refine ⟨_, z, ?_⟩
 replace hst := hst.of1
 refine wv (.int .i64 (0:Int)) z z z (wl_nil (tn (wp_block ?_)))
 replace hst := hst.own_nil (tySl ty_api_Pair)
 obtain ⟨n2017, hm⟩ := loopO_some hm
 refine wp_loop_n (fun n a w => ∃ (I2015 : HL) (z2010 : (List (List api_Pair))) (z2013 : octet_Reader) (z2014 : Int) (v2011 : Value) (σ2016 : Nat → Value), loopN (command_ReadReply_l2 t1460 t1283 t1288 t1293 z1452) n (z2010, z2013, z2014) = some r ∧ a = Fr 54 (upd (upd (upd (upd (upd σ2016 0 (p0)) 2 (Pt b1278 0)) 3 (Pt b1302 0)) 29 (.int .i64 t1460.1)) 30 (.int .i64 z2014)) ∧ I1453.le I2015 ∧ St w0 w I2015 [ownS (tySl ty_api_Pair) v2011 z2010, at_octet_Reader p0 z2013, cells b1278 [Zi, Zu, Zu, Zs, Zs], cells b1302 [I6 (i64.wrap t1283.1), U6 t1288.1, U6 t1293.1, v1451, v2011], ownS ty_api_Got v1451 z1452] R) n2017 ⟨_, [], t1460.2, (0:Int), Zs, _, hm, (fu 0 p0 z (fu 2 (Pt b1278 0) z (fu 3 (Pt b1302 0) z (fu 29 (.int .i64 t1460.1) z (fu 30 (.int .i64 (0:Int)) z z))))), (HL.le.refl _), hst⟩ ?_
 rintro n2023 _ w2018 ⟨I2015, z2010, z2013, z2014, v2011, σ2016, hm, rfl, hL2019, hst⟩
 obtain ⟨n2020, y2021, rfl, hm, hx2022⟩ := loopN_some hm
 dsimp only [command_ReadReply_l2] at hm
 replace hI0 := hI0.trans hL2019
 refine wp_seq (wrl (wv (.bool (decide (z2014 < t1460.1))) z z z (wl_nil (tn (wp_seq ?_)))))
 refine bsplit (decide (z2014 < t1460.1)) (fun hc2024 => ?_) (fun hc2024 => ?_)
 {
 replace hm := bif_t hc2024 hm
 refine wp_ift (cvb hc2024) ?_
 refine wp_skip (tn (wp_seq (wp_block (wp_seq (wrl ?_)))))
 refine wv ((.slice none 0 0)) z z z (wl_nil (tn ?_))
 obtain ⟨y2185, hm, hx2186⟩ := bind_some hm
 refine wp_cut (fun a w => ∃ (I2182 : HL) (z2178 : octet_Reader) (z2181 : (List api_Pair)) (v2180 : Value) (σ2183 : Nat → Value), (command_ReadReply_j3 z2010 z2014) (z2178, z2181) = some y2021 ∧ a = Fr 54 (upd (upd (upd (upd (upd (upd σ2183 0 (p0)) 2 (Pt b1278 0)) 3 (Pt b1302 0)) 4 (v2180)) 29 (.int .i64 t1460.1)) 30 (.int .i64 z2014)) ∧ I2015.le I2182 ∧ St w0 w I2182 [at_octet_Reader p0 z2178, cells b1278 [Zi, Zu, Zu, Zs, Zs], cells b1302 [I6 (i64.wrap t1283.1), U6 t1288.1, U6 t1293.1, v1451, v2011], ownS ty_api_Got v1451 z1452, ownS (tySl ty_api_Pair) v2011 z2010, ownS ty_api_Pair v2180 z2181] R) ?_ ?_
 {
 have hL2187 := HL.le.refl I2015
 refine wp_seq (wrl (wv (p0) z z z ?_))
 replace hst := hst.pull1
 obtain ⟨t2026, ht2027, hm⟩ := bind_some hm
 refine wc call46 [p0, I6 (64:Int)] z z z ?_
 refine (octet_Reader_Count_ref hst.to1 ht2027).mono ?_
 rintro _ w2028 ⟨rfl, hst⟩
 refine ⟨_, z, ?_⟩
 replace hst := hst.of1
 refine wv (.int .i64 (0:Int)) z z z (wl_nil (tn (wp_block ?_)))
 replace hst := hst.own_nil ty_api_Pair
 obtain ⟨n2139, hm⟩ := loopO_some hm
 refine wp_loop_n (fun n a w => ∃ (I2137 : HL) (z2132 : octet_Reader) (z2133 : Int) (z2134 : (List api_Pair)) (v2135 : Value) (σ2138 : Nat → Value), loopN (command_ReadReply_l4 t2026) n (z2132, z2133, z2134) = some y2185 ∧ a = Fr 54 (upd (upd (upd (upd (upd (upd (upd (upd σ2138 0 (p0)) 2 (Pt b1278 0)) 3 (Pt b1302 0)) 4 (v2135)) 29 (.int .i64 t1460.1)) 30 (.int .i64 z2014)) 33 (.int .i64 t2026.1)) 34 (.int .i64 z2133)) ∧ I2015.le I2137 ∧ St w0 w I2137 [ownS ty_api_Pair v2135 z2134, at_octet_Reader p0 z2132, ownS (tySl ty_api_Pair) v2011 z2010, cells b1278 [Zi, Zu, Zu, Zs, Zs], cells b1302 [I6 (i64.wrap t1283.1), U6 t1288.1, U6 t1293.1, v1451, v2011], ownS ty_api_Got v1451 z1452] R) n2139 ⟨_, t2026.2, (0:Int), [], Zs, _, hm, (fu 0 p0 z (fu 2 (Pt b1278 0) z (fu 3 (Pt b1302 0) z (fu 4 (.slice none 0 0) z (fu 29 (.int .i64 t1460.1) z (fu 30 (.int .i64 z2014) z (fu 33 (.int .i64 t2026.1) z (fu 34 (.int .i64 (0:Int)) z z)))))))), (HL.le.refl _), hst⟩ ?_
 rintro n2145 _ w2140 ⟨I2137, z2132, z2133, z2134, v2135, σ2138, hm, rfl, hL2141, hst⟩
 obtain ⟨n2142, y2143, rfl, hm, hx2144⟩ := loopN_some hm
 dsimp only [command_ReadReply_l4] at hm
 replace hI0 := hI0.trans hL2141
 replace hL2019 := hL2019.trans hL2141
 replace hL2187 := hL2187.trans hL2141
 refine wp_seq (wrl (wv (.bool (decide (z2133 < t2026.1))) z z z (wl_nil (tn (wp_seq ?_)))))
 refine bsplit (decide (z2133 < t2026.1)) (fun hc2146 => ?_) (fun hc2146 => ?_)
 {
 replace hm := bif_t hc2146 hm
 refine wp_ift (cvb hc2146) ?_
 refine wp_skip (tn (wp_seq (wp_block (wrl ?_))))
 refine wv (v2135) z z z (wv (p0) z z z ?_)
 replace hst := hst.pull1
 obtain ⟨t2147, ht2148, hm⟩ := bind_some hm
 refine wc call13 [p0, I6 (8:Int)] z z z ?_
 refine (octet_Reader_Num_ref hst.to1 ht2148).mono ?_
 rintro _ w2149 ⟨rfl, hst⟩
 refine ⟨_, z, ?_⟩
 replace hst := hst.of1
 obtain ⟨t2152, ht2153, hm⟩ := bind_some hm
 refine wc call48 [U6 t2147.1] z z z ?_
 refine (number_Back_ref hst.to0 ht2153).mono ?_
 rintro _ w2154 ⟨rfl, hst⟩
 refine ⟨_, z, ?_⟩
 replace hst := hst.of0
 refine wv (p0) z z z ?_
 obtain ⟨t2157, ht2158, hm⟩ := bind_some hm
 refine wc call18 [p0, I6 (256:Int)] z z z ?_
 refine (octet_Reader_Bytes_ref hst.to1 ht2158).mono ?_
 rintro _ w2159 ⟨v2162, rfl, hst⟩
 refine ⟨_, z, ?_⟩
 replace hst := hst.of2
 refine wv (.agg #[F6 t2152, v2162]) z z (by obtain ⟨_, _, hv_, _⟩ := hst.sv0; rw [hv_]; kernel_rfl) ?_
 obtain ⟨I2166, hI2167, f2168, hst⟩ := hst.own_fix
 replace hI0 := hI0.trans hI2167
 replace hL2019 := hL2019.trans hI2167
 replace hL2187 := hL2187.trans hI2167
 replace hL2141 := hL2141.trans hI2167
 obtain ⟨b2169, w2170, ew2171, eb2172, hst⟩ := hst.lits (E := ty_api_Pair) (xs := [({ At := t2152, Val := t2157.1 } : api_Pair)]) [[F6 t2152, v2162]] 107 1 z (Reps.cons ⟨_, z, f2168, one_of_sliceV (ro_sliceV f2168)⟩ Reps.nil)
 refine wl_run (v := (.slice (some ⟨b2169, 0, none⟩) 1 1)) (w' := w2170) z z (x_als (by kernel_rfl) ew2171 eb2172) ?_
 obtain ⟨hg2174, hm⟩ := gd_some hm
 replace hst := hst.pull2
 obtain ⟨v2175, w2176, hr2177, hst⟩ := run_append elem_105 underlying105 hst hst.src1 (room_of hg2174 z) 105
 refine wl_run (v := v2175) (w' := w2176) z z (x_append z z hr2177) ?_
 refine wv (v2175) z z z (wl_nil (blk_n (tn (wrl (wv (.int .i64 (i64.wrap (z2133 + (1:Int)))) z z z (wv (.int .i64 (i64.wrap (z2133 + (1:Int)))) z z z (wl_nil (tn ?_))))))))
 replace hst := hst.pull6.pull6.pull6.pull6.pull6.pull5.keep6
 obtain rfl := some_inj hm
 exact ⟨_, Nat.lt_succ_self _, _, t2157.2, (i64.wrap (z2133 + (1:Int))), (z2134 ++ ([({ At := t2152, Val := t2157.1 } : api_Pair)])), v2175, _, hx2144, (fu 0 p0 z (fu 2 (Pt b1278 0) z (fu 3 (Pt b1302 0) z (fu 4 v2175 z (fu 29 (.int .i64 t1460.1) z (fu 30 (.int .i64 z2014) z (fu 33 (.int .i64 t2026.1) z (fu 34 (.int .i64 (i64.wrap (z2133 + (1:Int)))) z z)))))))), hL2141, hst⟩
}
 {
 replace hm := bif_f hc2146 hm
 refine wp_iff (cvb hc2146) ?_
 refine wp_exit (then_x (then_x ?_))
 replace hm := inr_up hm hx2144
 refine blk_x (tn ?_)
 replace hst := hst.pull2.pull5.pull5.pull5.pull5.keep6
 obtain rfl := some_inj hm
 exact ⟨_, z2132, z2134, v2135, _, hx2186, (fu 0 p0 z (fu 2 (Pt b1278 0) z (fu 3 (Pt b1302 0) z (fu 4 v2135 z (fu 29 (.int .i64 t1460.1) z (fu 30 (.int .i64 z2014) z z)))))), hL2187, hst⟩
}
}
 {
 clear hst
 rintro _ w2188 ⟨I2182, z2178, z2181, v2180, σ2183, hm, rfl, hL2184, hst⟩
 dsimp only [command_ReadReply_j3] at hm
 replace hI0 := hI0.trans hL2184
 replace hL2019 := hL2019.trans hL2184
 refine wrl (wv (Pt b1302 4) z z (x_field z underlying41 z sizeOf39 z) (wv (v2011) z z (x_load z isAgg39 (hst.bc2 z)) (wv (v2180) z z z ?_)))
 replace hst := hst.pull5
 obtain ⟨I2190, hI2191, f2192, hst⟩ := hst.own_fix
 replace hI0 := hI0.trans hI2191
 replace hL2019 := hL2019.trans hI2191
 obtain ⟨b2193, w2194, ew2195, eb2196, hst⟩ := hst.lits (E := (tySl ty_api_Pair)) (xs := [z2181]) [[v2180]] 105 1 z (Reps.cons ⟨_, z, f2192, one_of_sliceV (ro_sliceV f2192)⟩ Reps.nil)
 refine wl_run (v := (.slice (some ⟨b2193, 0, none⟩) 1 1)) (w' := w2194) z z (x_als (by obtain ⟨_, _, hv_, _⟩ := (ro_sliceV f2192); rw [hv_]; kernel_rfl) ew2195 eb2196) ?_
 obtain ⟨hg2198, hm⟩ := gd_some hm
 replace hst := hst.pull5
 obtain ⟨v2199, w2200, hr2201, hst⟩ := run_append elem_39 underlying39 hst hst.src1 (room_of hg2198 z) 39
 refine wl_run (v := v2199) (w' := w2200) z z (x_append z z hr2201) ?_
 refine wv (Pt b1302 4) z z (x_field z underlying41 z sizeOf39 z) ?_
 replace hst := hst.pull4
 obtain ⟨w2202, hr2203, hst⟩ := hst.boxStore1 (P := prog) (t := 39) (cs' := [I6 (i64.wrap t1283.1), U6 t1288.1, U6 t1293.1, v1451, v2199]) 4 v2199 (one_of_sliceV hst.sv1) sizeOf39 z z
 refine wl_unit z z (x_unit hr2203) ?_
 refine wl_nil (blk_n (tn (wrl (wv (.int .i64 (i64.wrap (z2014 + (1:Int)))) z z z (wv (.int .i64 (i64.wrap (z2014 + (1:Int)))) z z z (wl_nil (tn ?_)))))))
 replace hst := hst.pull5.pull1.pull5.pull5.pull4.keep5
 obtain rfl := some_inj hm
 exact ⟨_, Nat.lt_succ_self _, _, (z2010 ++ ([z2181])), z2178, (i64.wrap (z2014 + (1:Int))), v2199, _, hx2022, (fu 0 p0 z (fu 2 (Pt b1278 0) z (fu 3 (Pt b1302 0) z (fu 29 (.int .i64 t1460.1) z (fu 30 (.int .i64 (i64.wrap (z2014 + (1:Int)))) z z))))), hL2019, hst⟩
}
}
 {
 replace hm := bif_f hc2024 hm
 refine wp_iff (cvb hc2024) ?_
 refine wp_exit (then_x (then_x ?_))
 replace hm := inr_up hm hx2022
 refine blk_x (tn (wp_seq (wrl ?_)))
 refine wv (.agg #[I6 (i64.wrap t1283.1), U6 t1288.1, U6 t1293.1, v1451, v2011]) z z (x_loadN (cs := [I6 (i64.wrap t1283.1), U6 t1288.1, U6 t1293.1, v1451, v2011]) z isAgg41 sizeOf41 (hst.bcs3 0 z)) ?_
 replace hst := hst.pull2
 obtain ⟨w2204, hr2205, hst⟩ := hst.bx [I6 (i64.wrap t1283.1), U6 t1288.1, U6 t1293.1, v1451, v2011] sizeOf41 z (oC z (oC z (oC z (oC (one_of_sliceV hst.sv4) (oC (one_of_sliceV hst.sv1) oN))))) (by kernel_rfl)
 refine wl_unit z z (x_unit hr2205) ?_
 refine wl_nil (tn (wp_ret ?_))
 obtain rfl := some_inj hm
 refine post_ret (vs := [.agg #[I6 (i64.wrap t1283.1), U6 t1288.1, U6 t1293.1, v1451, v2011]]) results16 (rvs_cons (rv_cell (cs := [I6 (i64.wrap t1283.1), U6 t1288.1, U6 t1293.1, v1451, v2011]) z isAgg41 sizeOf41 (hst.bcs0 0 z)) rvs_nil) ?_
 replace hst := hst.pull2.pull2.pull4
 exact ⟨_, v1451, v2011, z, hI0, hst.keep3⟩
}
}
}

theorem command_readWrites_ref {w0 w : World} {I : HL} {R : SP} {a0 : octet_Reader} {p0 : Value}  (hst : St w0 w I [at_octet_Reader p0 a0] R) {r : ((List api_Write) × octet_Reader)} (hm : command_readWrites a0 = some r) :
  Calls prog 50 #[p0] w fun e w' => ∃ (I' : HL) (q0_0 : Value), e = .returned (q0_0) ∧ I.le I' ∧ St w0 w' I' [ownS ty_api_Write q0_0 r.1, at_octet_Reader p0 r.2] R := by {
 unfold command_readWrites at hm
 refine calls_start (args := [p0]) func50 z ntmps50 (Nat.le_of_ble_eq_true z) ?_
 have hI0 := HL.le.refl I
 refine wp_seq (wrl (wv ((.slice none 0 0)) z z z (wl_nil (tn (wp_seq (wrl (wv ((.slice none 0 0)) z z z (wl_nil (tn (wp_seq (wp_seq (wrl (wv (p0) z z z ?_)))))))))))))
 obtain ⟨t666, ht667, hm⟩ := bind_some hm
 refine wc call46 [p0, I6 (32:Int)] z z z ?_
 refine (octet_Reader_Count_ref hst.to1 ht667).mono ?_
 rintro _ w668 ⟨rfl, hst⟩
 refine ⟨_, z, ?_⟩
 replace hst := hst.of1
 refine wv (.int .i64 (0:Int)) z z z (wl_nil (tn (wp_block ?_)))
 replace hst := hst.own_nil ty_api_Write
 obtain ⟨n794, hm⟩ := loopO_some hm
 refine wp_loop_n (fun n a w => ∃ (I792 : HL) (z787 : octet_Reader) (z788 : (List api_Write)) (z791 : Int) (v789 : Value) (σ793 : Nat → Value), loopN (command_readWrites_l0 t666) n (z787, z788, z791) = some r ∧ a = Fr 21 (upd (upd (upd (upd σ793 0 (p0)) 3 (v789)) 5 (.int .i64 t666.1)) 6 (.int .i64 z791)) ∧ I.le I792 ∧ St w0 w I792 [ownS ty_api_Write v789 z788, at_octet_Reader p0 z787] R) n794 ⟨_, t666.2, [], (0:Int), Zs, _, hm, (fu 0 p0 z (fu 3 (.slice none 0 0) z (fu 5 (.int .i64 t666.1) z (fu 6 (.int .i64 (0:Int)) z z)))), (HL.le.refl _), hst⟩ ?_
 rintro n800 _ w795 ⟨I792, z787, z788, z791, v789, σ793, hm, rfl, hL796, hst⟩
 obtain ⟨n797, y798, rfl, hm, hx799⟩ := loopN_some hm
 dsimp only [command_readWrites_l0] at hm
 replace hI0 := hI0.trans hL796
 refine wp_seq (wrl (wv (.bool (decide (z791 < t666.1))) z z z (wl_nil (tn (wp_seq ?_)))))
 refine bsplit (decide (z791 < t666.1)) (fun hc801 => ?_) (fun hc801 => ?_)
 {
 replace hm := bif_t hc801 hm
 refine wp_ift (cvb hc801) ?_
 refine wp_skip (tn (wp_seq (wp_block (wrl ?_))))
 refine wv (v789) z z z (wv (p0) z z z ?_)
 replace hst := hst.pull1
 obtain ⟨t802, ht803, hm⟩ := bind_some hm
 refine wc call13 [p0, I6 (8:Int)] z z z ?_
 refine (octet_Reader_Num_ref hst.to1 ht803).mono ?_
 rintro _ w804 ⟨rfl, hst⟩
 refine ⟨_, z, ?_⟩
 replace hst := hst.of1
 obtain ⟨t807, ht808, hm⟩ := bind_some hm
 refine wc call48 [U6 t802.1] z z z ?_
 refine (number_Back_ref hst.to0 ht808).mono ?_
 rintro _ w809 ⟨rfl, hst⟩
 refine ⟨_, z, ?_⟩
 replace hst := hst.of0
 refine wv (p0) z z z ?_
 obtain ⟨t812, ht813, hm⟩ := bind_some hm
 refine wc call45 [p0] z z z ?_
 refine (octet_Reader_Flag_ref hst.to1 ht813).mono ?_
 rintro _ w814 ⟨rfl, hst⟩
 refine ⟨_, z, ?_⟩
 replace hst := hst.of1
 refine wv (p0) z z z ?_
 obtain ⟨t817, ht818, hm⟩ := bind_some hm
 refine wc call18 [p0, I6 (256:Int)] z z z ?_
 refine (octet_Reader_Bytes_ref hst.to1 ht818).mono ?_
 rintro _ w819 ⟨v822, rfl, hst⟩
 refine ⟨_, z, ?_⟩
 replace hst := hst.of2
 refine wv (.agg #[F6 t807, .bool t812.1, v822]) z z (by obtain ⟨_, _, hv_, _⟩ := hst.sv0; rw [hv_]; kernel_rfl) ?_
 obtain ⟨I826, hI827, f828, hst⟩ := hst.own_fix
 replace hI0 := hI0.trans hI827
 replace hL796 := hL796.trans hI827
 obtain ⟨b829, w830, ew831, eb832, hst⟩ := hst.lits (E := ty_api_Write) (xs := [({ At := t807, Del := t812.1, Val := t817.1 } : api_Write)]) [[F6 t807, .bool t812.1, v822]] 120 1 z (Reps.cons ⟨_, z, f828, one_of_sliceV (ro_sliceV f828)⟩ Reps.nil)
 refine wl_run (v := (.slice (some ⟨b829, 0, none⟩) 1 1)) (w' := w830) z z (x_als (by kernel_rfl) ew831 eb832) ?_
 obtain ⟨hg834, hm⟩ := gd_some hm
 replace hst := hst.pull2
 obtain ⟨v835, w836, hr837, hst⟩ := run_append elem_42 underlying42 hst hst.src1 (room_of hg834 z) 42
 refine wl_run (v := v835) (w' := w836) z z (x_append z z hr837) ?_
 refine wv (v835) z z z (wl_nil (blk_n (tn (wrl (wv (.int .i64 (i64.wrap (z791 + (1:Int)))) z z z (wv (.int .i64 (i64.wrap (z791 + (1:Int)))) z z z (wl_nil (tn ?_))))))))
 replace hst := hst.pull2.pull1.keep2
 obtain rfl := some_inj hm
 exact ⟨_, Nat.lt_succ_self _, _, t817.2, (z788 ++ ([({ At := t807, Del := t812.1, Val := t817.1 } : api_Write)])), (i64.wrap (z791 + (1:Int))), v835, _, hx799, (fu 0 p0 z (fu 3 v835 z (fu 5 (.int .i64 t666.1) z (fu 6 (.int .i64 (i64.wrap (z791 + (1:Int)))) z z)))), hL796, hst⟩
}
 {
 replace hm := bif_f hc801 hm
 refine wp_iff (cvb hc801) ?_
 refine wp_exit (then_x (then_x ?_))
 replace hm := inr_up hm hx799
 refine blk_x (tn (wp_seq (wrl ?_)))
 refine wv (v789) z z z (wv (v789) z z z (wl_nil (tn (wp_ret ?_))))
 obtain rfl := some_inj hm
 refine post_ret (vs := [v789]) results50 (rvs_cons (rv_tmp z) rvs_nil) ?_
 replace hst := hst.pull1.pull1
 exact ⟨_, v789, z, hI0, hst.keep2⟩
}
}

theorem command_readRule_ref {w0 w : World} {I : HL} {R : SP} {a0 : octet_Reader} {p0 : Value}  (hst : St w0 w I [at_octet_Reader p0 a0] R) {r : (api_Rule × octet_Reader)} (hm : command_readRule a0 = some r) :
  Calls prog 51 #[p0] w fun e w' => e = .returned (.agg #[U6 r.1.ID, I6 r.1.From, I6 r.1.To, F6 r.1.Lo, F6 r.1.Hi, U6 r.1.Authority, I6 r.1.Quota]) ∧ St w0 w' I [at_octet_Reader p0 r.2] R := by {
 unfold command_readRule at hm
 refine calls_start (args := [p0]) func51 z ntmps51 (Nat.le_of_ble_eq_true z) ?_
 refine wp_seq (wrl ?_)
 obtain ⟨b768, w769, ew770, eb771, hst⟩ := hst.box [Zu, Zi, Zi, Zf, Zf, Zu, Zi] 46
 refine wl_run (v := Pt b768 0) (w' := w769) z z (x_al (by kernel_rfl) ew770 eb771) ?_
 refine wl_nil (tn (wp_seq (wrl (wv (p0) z z z ?_))))
 replace hst := hst.pull1
 obtain ⟨t773, ht774, hm⟩ := bind_some hm
 refine wc call13 [p0, I6 (8:Int)] z z z ?_
 refine (octet_Reader_Num_ref hst.to1 ht774).mono ?_
 rintro _ w775 ⟨rfl, hst⟩
 refine ⟨_, z, ?_⟩
 replace hst := hst.of1
 refine wv (p0) z z z ?_
 obtain ⟨t778, ht779, hm⟩ := bind_some hm
 refine wc call13 [p0, I6 (1:Int)] z z z ?_
 refine (octet_Reader_Num_ref hst.to1 ht779).mono ?_
 rintro _ w780 ⟨rfl, hst⟩
 refine ⟨_, z, ?_⟩
 replace hst := hst.of1
 refine wv (.int .i64 (i64.wrap t778.1)) z z (by kernel_rfl) (wv (p0) z z z ?_)
 obtain ⟨t783, ht784, hm⟩ := bind_some hm
 refine wc call13 [p0, I6 (1:Int)] z z z ?_
 refine (octet_Reader_Num_ref hst.to1 ht784).mono ?_
 rintro _ w785 ⟨rfl, hst⟩
 refine ⟨_, z, ?_⟩
 replace hst := hst.of1
 refine wv (.int .i64 (i64.wrap t783.1)) z z (by kernel_rfl) (wv (p0) z z z ?_)
 obtain ⟨t788, ht789, hm⟩ := bind_some hm
 refine wc call13 [p0, I6 (8:Int)] z z z ?_
 refine (octet_Reader_Num_ref hst.to1 ht789).mono ?_
 rintro _ w790 ⟨rfl, hst⟩
 refine ⟨_, z, ?_⟩
 replace hst := hst.of1
 obtain ⟨t793, ht794, hm⟩ := bind_some hm
 refine wc call48 [U6 t788.1] z z z ?_
 refine (number_Back_ref hst.to0 ht794).mono ?_
 rintro _ w795 ⟨rfl, hst⟩
 refine ⟨_, z, ?_⟩
 replace hst := hst.of0
 refine wv (p0) z z z ?_
 obtain ⟨t798, ht799, hm⟩ := bind_some hm
 refine wc call13 [p0, I6 (8:Int)] z z z ?_
 refine (octet_Reader_Num_ref hst.to1 ht799).mono ?_
 rintro _ w800 ⟨rfl, hst⟩
 refine ⟨_, z, ?_⟩
 replace hst := hst.of1
 obtain ⟨t803, ht804, hm⟩ := bind_some hm
 refine wc call48 [U6 t798.1] z z z ?_
 refine (number_Back_ref hst.to0 ht804).mono ?_
 rintro _ w805 ⟨rfl, hst⟩
 refine ⟨_, z, ?_⟩
 replace hst := hst.of0
 refine wv (p0) z z z ?_
 obtain ⟨t808, ht809, hm⟩ := bind_some hm
 refine wc call13 [p0, I6 (8:Int)] z z z ?_
 refine (octet_Reader_Num_ref hst.to1 ht809).mono ?_
 rintro _ w810 ⟨rfl, hst⟩
 refine ⟨_, z, ?_⟩
 replace hst := hst.of1
 refine wv (p0) z z z ?_
 obtain ⟨t813, ht814, hm⟩ := bind_some hm
 refine wc call13 [p0, I6 (4:Int)] z z z ?_
 refine (octet_Reader_Num_ref hst.to1 ht814).mono ?_
 rintro _ w815 ⟨rfl, hst⟩
 refine ⟨_, z, ?_⟩
 replace hst := hst.of1
 refine wv (.int .i64 (i64.wrap t813.1)) z z (by kernel_rfl) (wv (.agg #[U6 t773.1, I6 (i64.wrap t778.1), I6 (i64.wrap t783.1), F6 t793, F6 t803, U6 t808.1, I6 (i64.wrap t813.1)]) z z (by kernel_rfl) ?_)
 replace hst := hst.pull1
 obtain ⟨w818, hr819, hst⟩ := hst.bx [U6 t773.1, I6 (i64.wrap t778.1), I6 (i64.wrap t783.1), F6 t793, F6 t803, U6 t808.1, I6 (i64.wrap t813.1)] sizeOf46 z (oC z (oC z (oC z (oC z (oC z (oC z (oC z oN))))))) (by kernel_rfl)
 refine wl_unit z z (x_unit hr819) ?_
 refine wl_nil (tn (wp_ret ?_))
 obtain rfl := some_inj hm
 refine post_ret (vs := [.agg #[U6 t773.1, I6 (i64.wrap t778.1), I6 (i64.wrap t783.1), F6 t793, F6 t803, U6 t808.1, I6 (i64.wrap t813.1)]]) results51 (rvs_cons (rv_cell (cs := [U6 t773.1, I6 (i64.wrap t778.1), I6 (i64.wrap t783.1), F6 t793, F6 t803, U6 t808.1, I6 (i64.wrap t813.1)]) z isAgg46 sizeOf46 (hst.bcs0 0 z)) rvs_nil) ?_
 replace hst := hst.pull1
 exact ⟨z, hst.keep1⟩
}

theorem octet_Reader_End_ref {w0 w : World} {I : HL} {R : SP} {a0 : octet_Reader} {p0 : Value}  (hst : St w0 w I [at_octet_Reader p0 a0] R) {r : (Bool)} (hm : octet_Reader_End a0 = some r) :
  Calls prog 19 #[p0] w fun e w' => e = .returned (.bool r) ∧ St w0 w' I [at_octet_Reader p0 a0] R := by {
 unfold octet_Reader_End at hm
 refine calls_start (args := [p0]) func19 z ntmps19 (Nat.le_of_ble_eq_true z) ?_
 refine wp_seq (wrl (wv (.bool false) z z z (wl_nil (tn (wp_seq (wrl (wv (p0) z z z ?_)))))))
 obtain ⟨t829, ht830, hm⟩ := bind_some hm
 refine wc call52 [p0] z z z ?_
 refine (octet_Reader_Bad_ref hst.to1 ht830).mono ?_
 rintro _ w831 ⟨rfl, hst⟩
 refine ⟨_, z, ?_⟩
 replace hst := hst.of1
 refine wv (.bool (!t829)) z z z (wv (.bool (!t829)) z z z ?_)
 refine bsplit (!t829) (fun hc834 => ?_) (fun hc834 => ?_)
 {
 replace hm := bif_t hc834 hm
 refine wv (p0) ((wanted_eq z z z (cvb hc834)).trans z) z z ?_
 obtain ⟨b835, v836, ⟨rfl, f838⟩, hst'⟩ := at_octet_Reader_open hst
 clear hst
 have hst := hst'
 clear hst'
 refine wv (Pt b835 0) ((wanted_eq z z z (cvb hc834)).trans z) z z (wv (Pt b835 0) ((wanted_eq z z z (cvb hc834)).trans z) z (x_field z underlying99 z sizeOf22 z) (wv (v836) ((wanted_eq z z z (cvb hc834)).trans z) z (x_load z isAgg22 (hst.bc0 z)) (wv (.int .i64 ((a0.p).length : Int)) ((wanted_eq z z z (cvb hc834)).trans z) z (x_len z underlying22 (ro_sliceV f838)) (wv (.bool (((a0.p).length : Int) == (0:Int))) ((wanted_eq z z z (cvb hc834)).trans z) z z (wv (.bool (((a0.p).length : Int) == (0:Int))) z z (x_pick_t hc834 z z) (wv (.bool (((a0.p).length : Int) == (0:Int))) z z z (wl_nil (tn (wp_ret ?_)))))))))
 replace hst := at_octet_Reader_close (pv := Pt b835 0) (x := a0) hst ⟨z, f838⟩
 obtain rfl := some_inj hm
 refine post_ret (vs := [.bool (((a0.p).length : Int) == (0:Int))]) results19 (rvs_cons (rv_tmp z) rvs_nil) ?_
 exact ⟨z, hst.keep1⟩
}
 {
 replace hm := bif_f hc834 hm
 refine wo hc834 z z z z z z (wo hc834 z z z z z z (wo hc834 z z z z z z (wo hc834 z z z z z z (wo hc834 z z z z z z (wo hc834 z z z z z z (wv (.bool false) z z (x_pick_f hc834 z z) (wv (.bool false) z z z (wl_nil (tn (wp_ret ?_))))))))))
 obtain rfl := some_inj hm
 refine post_ret (vs := [.bool false]) results19 (rvs_cons (rv_tmp z) rvs_nil) ?_
 exact ⟨z, hst.keep1⟩
}
}

theorem slices_Equal_byte_byte_ref {w0 w : World} {I : HL} {R : SP} {a0 : (List Int)} {r0_0 : Value} {a1 : (List Int)} {r1_0 : Value} (f0_0 : Rd (tyInt .u8) R I r0_0 a0) (f1_0 : Rd (tyInt .u8) R I r1_0 a1) (hst : St w0 w I [] R) {r : (Bool)} (hm : slices_Equal_byte_byte a0 a1 = some r) :
  Calls prog 20 #[r0_0, r1_0] w fun e w' => e = .returned (.bool r) ∧ St w0 w' I [] R := by {
 unfold slices_Equal_byte_byte at hm
 refine calls_start (args := [r0_0, r1_0]) func20 z ntmps20 (Nat.le_of_ble_eq_true z) ?_
 refine wp_seq (wrl (wv (.bool false) z z z (wl_nil (tn (wp_seq (wp_seq (wrl (wv (r0_0) z z z (wv (.int .i64 ((a0).length : Int)) z z (x_len z underlying22 (rd_sliceV f0_0)) (wv (r1_0) z z z (wv (.int .i64 ((a1).length : Int)) z z (x_len z underlying22 (rd_sliceV f1_0)) (wv (.bool (((a0).length : Int) != ((a1).length : Int))) z z z (wl_nil (tn ?_))))))))))))))
 refine bsplit (((a0).length : Int) != ((a1).length : Int)) (fun hc907 => ?_) (fun hc907 => ?_)
 {
 replace hm := bif_t hc907 hm
 refine wp_ift (cvb hc907) ?_
 refine wp_seq (wrl (wv (.bool false) z z z (wl_nil (tn (wp_ret (then_r ?_))))))
 obtain rfl := some_inj hm
 refine post_ret (vs := [.bool false]) results20 (rvs_cons (rv_tmp z) rvs_nil) ?_
 exact ⟨z, hst.keep0⟩
}
 {
 replace hm := bif_f hc907 hm
 refine wp_iff (cvb hc907) ?_
 refine wp_skip (tn (wp_seq (wp_seq (wrl ?_))))
 refine wv (r0_0) z z z (wv (.int .i64 ((a0).length : Int)) z z (x_len z underlying22 (rd_sliceV f0_0)) (wv (.int .i64 (0:Int)) z z z (wl_nil (tn (wp_block ?_)))))
 obtain ⟨n935, hm⟩ := loopO_some hm
 refine wp_loop_n (fun n a w => ∃ (z933 : Int) (σ934 : Nat → Value), loopN (slices_Equal_byte_byte_l0 a0 a1) n z933 = some r ∧ a = Fr 26 (upd (upd (upd (upd σ934 0 (r0_0)) 1 (r1_0)) 12 (.int .i64 ((a0).length : Int))) 13 (.int .i64 z933)) ∧ St w0 w I [] R) n935 ⟨(0:Int), _, hm, (fu 0 r0_0 z (fu 1 r1_0 z (fu 12 (.int .i64 ((a0).length : Int)) z (fu 13 (.int .i64 (0:Int)) z z)))), hst⟩ ?_
 rintro n941 _ w936 ⟨z933, σ934, hm, rfl, hst⟩
 obtain ⟨n938, y939, rfl, hm, hx940⟩ := loopN_some hm
 dsimp only [slices_Equal_byte_byte_l0] at hm
 refine wp_seq (wrl (wv (.bool (decide (z933 < ((a0).length : Int)))) z z z (wl_nil (tn (wp_seq ?_)))))
 refine bsplit (decide (z933 < ((a0).length : Int))) (fun hc942 => ?_) (fun hc942 => ?_)
 {
 replace hm := bif_t hc942 hm
 refine wp_ift (cvb hc942) ?_
 refine wp_skip (tn (wp_seq (wp_block (wp_seq (wrl ?_)))))
 refine wv (.int .i64 z933) z z z (wv (.int .i64 z933) z z z (wl_nil (tn (wp_seq ?_))))
 refine wq_regionS hst Try.mixed (by kernel_rfl) ?_
 refine wq_run (v := r0_0) z z (fun w hst => z) ?_
 refine wq_run (v := .int .i64 z933) z z (fun w hst => z) ?_
 obtain ⟨x943, hx944, hm⟩ := bind_some hm
 obtain ⟨h945, h946, hi947⟩ := geto_some hx944
 refine wq_run (v := .pointer (some (eAddr r0_0 (z933.toNat * 1 + 0)))) z z (fun w hst => x_index z z underlying22 sizeOf5 (rd_sliceV f0_0) h945 h946) ?_
 refine wq_run (v := .int .u8 x943) z z (fun w hst => x_load z isAgg5 (rd_load f0_0 (HL.le.refl _) hst hi947 (by rintro _ rfl; rfl))) ?_
 refine wq_run (v := r1_0) z z (fun w hst => z) ?_
 refine wq_run (v := .int .i64 z933) z z (fun w hst => z) ?_
 obtain ⟨x948, hx949, hm⟩ := bind_some hm
 obtain ⟨h950, h951, hi952⟩ := geto_some hx949
 refine wq_run (v := .pointer (some (eAddr r1_0 (z933.toNat * 1 + 0)))) z z (fun w hst => x_index z z underlying22 sizeOf5 (rd_sliceV f1_0) h950 h951) ?_
 refine wq_run (v := .int .u8 x948) z z (fun w hst => x_load z isAgg5 (rd_load f1_0 (HL.le.refl _) hst hi952 (by rintro _ rfl; rfl))) ?_
 refine wq_run (v := .bool (x943 != x948)) z z (fun w hst => z) ?_
 refine wq_nil ?_
 intro w hst
 refine tn ?_
 refine bsplit (x943 != x948) (fun hc953 => ?_) (fun hc953 => ?_)
 {
 replace hm := bif_t hc953 hm
 refine wp_ift (cvb hc953) ?_
 refine wp_seq (wrl (wv (.bool false) z z z (wl_nil (tn (wp_ret (blk_r (then_r (then_r ?_))))))))
 replace hm := inr_up hm hx940
 refine blk_r (then_r ?_)
 obtain rfl := some_inj hm
 refine post_ret (vs := [.bool false]) results20 (rvs_cons (rv_tmp z) rvs_nil) ?_
 exact ⟨z, hst.keep0⟩
}
 {
 replace hm := bif_f hc953 hm
 refine wp_iff (cvb hc953) ?_
 refine wp_skip (blk_n (tn (wrl ?_)))
 refine wv (.int .i64 (i64.wrap (z933 + (1:Int)))) z z z (wv (.int .i64 (i64.wrap (z933 + (1:Int)))) z z z (wl_nil (tn ?_)))
 replace hst := hst.keep0
 obtain rfl := some_inj hm
 exact ⟨_, Nat.lt_succ_self _, (i64.wrap (z933 + (1:Int))), _, hx940, (fu 0 r0_0 z (fu 1 r1_0 z (fu 12 (.int .i64 ((a0).length : Int)) z (fu 13 (.int .i64 (i64.wrap (z933 + (1:Int)))) z z)))), hst⟩
}
}
 {
 replace hm := bif_f hc942 hm
 refine wp_iff (cvb hc942) ?_
 refine wp_exit (then_x (then_x ?_))
 replace hm := inr_up hm hx940
 refine blk_x (tn (wp_seq (wrl ?_)))
 refine wv (.bool true) z z z (wl_nil (tn (wp_ret ?_)))
 obtain rfl := some_inj hm
 refine post_ret (vs := [.bool true]) results20 (rvs_cons (rv_tmp z) rvs_nil) ?_
 exact ⟨z, hst.keep0⟩
}
}
}

theorem command_Decode_ref {w0 w : World} {I : HL} {R : SP} {a0 : (List Int)} {r0_0 : Value} (f0_0 : Ro (tyInt .u8) I r0_0 a0) (hst : St w0 w I [] R) {r : (api_Command × Int)} (hm : command_Decode a0 = some r) :
  Calls prog 17 #[r0_0] w fun e w' => ∃ (I' : HL) (q0_0 : Value) (q0_1 : Value) (q0_2 : Value) (q0_3 : Value) (q0_4 : Value) (q0_5 : Value) (q0_6 : Value) (q0_7 : Value), e = .returned (.tuple #[.agg #[U1 r.1.Kind, U6 r.1.ID.Session, U6 r.1.ID.Seq, U6 r.1.Epoch, U6 r.1.Index, I6 r.1.E, U6 r.1.Hold.ID.Session, U6 r.1.Hold.ID.Seq, U6 r.1.Hold.Epoch, q0_0, q0_1, q0_2, q0_3, q0_4, I6 r.1.R.E, U6 r.1.R.Epoch, U6 r.1.R.Index, q0_5, q0_6, U6 r.1.Shards, q0_7, U6 r.1.Rule.ID, I6 r.1.Rule.From, I6 r.1.Rule.To, F6 r.1.Rule.Lo, F6 r.1.Rule.Hi, U6 r.1.Rule.Authority, I6 r.1.Rule.Quota, .bool r.1.On], I6 r.2]) ∧ I.le I' ∧ St w0 w' I' [ownS tyF64 q0_0 r.1.Hold.Gets, ownS tyF2 q0_1 r.1.Hold.Scans, ownS tyF64 q0_2 r.1.Hold.Puts, ownS (tyInt .u8) q0_3 r.1.Hold.Data, ownS ty_api_Write q0_4 r.1.Writes, ownS ty_api_Got q0_5 r.1.R.Gots, ownS (tySl ty_api_Pair) q0_6 r.1.R.Scans, ownS ty_api_Part q0_7 r.1.Parts] R := by {
 unfold command_Decode at hm
 refine calls_start (args := [r0_0]) func17 z ntmps17 (Nat.le_of_ble_eq_true z) ?_
 have hI0 := HL.le.refl I
 refine wp_seq (wrl ?_)
 obtain ⟨b885, w886, ew887, eb888, hst⟩ := hst.box [Zb, Zu, Zu, Zu, Zu, Zi, Zu, Zu, Zu, Zs, Zs, Zs, Zs, Zs, Zi, Zu, Zu, Zs, Zs, Zu, Zs, Zu, Zi, Zi, Zf, Zf, Zu, Zi, .bool false] 48
 refine wl_run (v := Pt b885 0) (w' := w886) z z (x_al (by kernel_rfl) ew887 eb888) ?_
 refine wv (.int .i64 (0:Int)) z z z (wl_nil (tn (wp_seq (wrl (wv (r0_0) z z z ?_)))))
 obtain ⟨t890, ht891, hm⟩ := bind_some hm
 refine wc call12 [r0_0] z z z ?_
 refine (octet_Read_ref f0_0 hst.to0 ht891).mono ?_
 rintro _ w892 ⟨v895, rfl, hst⟩
 refine ⟨_, z, ?_⟩
 replace hst := hst.of1
 obtain ⟨b897, w898, ew899, eb900, hst⟩ := hst.box [.pointer none] 62
 refine wl_run (v := Pt b897 0) (w' := w898) z z (x_al (by kernel_rfl) ew899 eb900) ?_
 replace hst := hst.pull1
 obtain ⟨b902, v903, ⟨rfl, f905⟩, hst'⟩ := at_octet_Reader_open hst
 clear hst
 have hst := hst'
 clear hst'
 replace hst := hst.pull1
 obtain ⟨w906, hr907, hst⟩ := hst.by_ [Pt b902 0] 0 (Pt b902 0) sizeOf62 z (oC z oN) (by kernel_rfl)
 refine wl_unit z z (x_unit hr907) ?_
 refine wl_nil (tn (wp_seq (wrl (wv (Pt b902 0) z z (x_load z isAgg62 (hst.bc0 z)) ?_))))
 replace hst := hst.pull1
 replace hst := at_octet_Reader_close (pv := Pt b902 0) (x := t890) hst ⟨z, f905⟩
 obtain ⟨t908, ht909, hm⟩ := bind_some hm
 refine wc call13 [Pt b902 0, I6 (1:Int)] z z z ?_
 refine (octet_Reader_Num_ref hst.to1 ht909).mono ?_
 rintro _ w910 ⟨rfl, hst⟩
 refine ⟨_, z, ?_⟩
 replace hst := hst.of1
 refine wv (.int .u8 (u8.wrap t908.1)) z z (by kernel_rfl) (wv (.agg #[U1 (u8.wrap t908.1), Zu, Zu, Zu, Zu, Zi, Zu, Zu, Zu, Zs, Zs, Zs, Zs, Zs, Zi, Zu, Zu, Zs, Zs, Zu, Zs, Zu, Zi, Zi, Zf, Zf, Zu, Zi, .bool false]) z z (by kernel_rfl) ?_)
 obtain ⟨b929, w930, ew931, eb932, hst⟩ := hst.box [Zb, Zu, Zu, Zu, Zu, Zi, Zu, Zu, Zu, Zs, Zs, Zs, Zs, Zs, Zi, Zu, Zu, Zs, Zs, Zu, Zs, Zu, Zi, Zi, Zf, Zf, Zu, Zi, .bool false] 48
 refine wl_run (v := Pt b929 0) (w' := w930) z z (x_al (by kernel_rfl) ew931 eb932) ?_
 obtain ⟨w934, hr935, hst⟩ := hst.bx [U1 (u8.wrap t908.1), Zu, Zu, Zu, Zu, Zi, Zu, Zu, Zu, Zs, Zs, Zs, Zs, Zs, Zi, Zu, Zu, Zs, Zs, Zu, Zs, Zu, Zi, Zi, Zf, Zf, Zu, Zi, .bool false] sizeOf48 z (oC z (oC z (oC z (oC z (oC z (oC z (oC z (oC z (oC z (oC z (oC z (oC z (oC z (oC z (oC z (oC z (oC z (oC z (oC z (oC z (oC z (oC z (oC z (oC z (oC z (oC z (oC z (oC z (oC z oN))))))))))))))))))))))))))))) (by kernel_rfl)
 refine wl_unit z z (x_unit hr935) ?_
 refine wl_nil (tn (wp_seq (wrl (wv (.func (.func 49) #[] #[Pt b897 0, Pt b929 0]) z z (by kernel_rfl) (wv (.func (.func 49) #[] #[Pt b897 0, Pt b929 0]) z z z (wl_nil (tn ?_)))))))
 obtain ⟨y1326, hm, hx1327⟩ := joinO_some hm
 refine wp_cut (fun a w => ∃ (I1323 : HL) (z1305 : octet_Reader) (z1306 : api_Command) (v1308 : Value) (v1310 : Value) (v1312 : Value) (v1314 : Value) (v1316 : Value) (v1318 : Value) (v1320 : Value) (v1322 : Value) (σ1324 : Nat → Value), (command_Decode_j0 a0) (z1305, z1306) = some r ∧ a = Fr 113 (upd (upd (upd (upd σ1324 0 (r0_0)) 2 (Pt b885 0)) 4 (Pt b897 0)) 5 (Pt b929 0)) ∧ I.le I1323 ∧ St w0 w I1323 [cells b885 [Zb, Zu, Zu, Zu, Zu, Zi, Zu, Zu, Zu, Zs, Zs, Zs, Zs, Zs, Zi, Zu, Zu, Zs, Zs, Zu, Zs, Zu, Zi, Zi, Zf, Zf, Zu, Zi, .bool false], cells b897 [Pt b902 0], at_octet_Reader (Pt b902 0) z1305, cells b929 [U1 z1306.Kind, U6 z1306.ID.Session, U6 z1306.ID.Seq, U6 z1306.Epoch, U6 z1306.Index, I6 z1306.E, U6 z1306.Hold.ID.Session, U6 z1306.Hold.ID.Seq, U6 z1306.Hold.Epoch, v1308, v1310, v1312, v1314, v1316, I6 z1306.R.E, U6 z1306.R.Epoch, U6 z1306.R.Index, v1318, v1320, U6 z1306.Shards, v1322, U6 z1306.Rule.ID, I6 z1306.Rule.From, I6 z1306.Rule.To, F6 z1306.Rule.Lo, F6 z1306.Rule.Hi, U6 z1306.Rule.Authority, I6 z1306.Rule.Quota, .bool z1306.On], ownS tyF64 v1308 z1306.Hold.Gets, ownS tyF2 v1310 z1306.Hold.Scans, ownS tyF64 v1312 z1306.Hold.Puts, ownS (tyInt .u8) v1314 z1306.Hold.Data, ownS ty_api_Write v1316 z1306.Writes, ownS ty_api_Got v1318 z1306.R.Gots, ownS (tySl ty_api_Pair) v1320 z1306.R.Scans, ownS ty_api_Part v1322 z1306.Parts] R) ?_ ?_
 {
 have hL1328 := HL.le.refl I
 refine wp_seq (wrl (wv (Pt b929 0) z z (x_field z underlying48 z sizeOf5 z) (wv (.int .u8 (u8.wrap t908.1)) z z (x_load z isAgg5 (hst.bc0 z)) (wl_nil (tn (wp_block (wp_seq (wrl (wv (.bool ((u8.wrap t908.1) == (1:Int))) z z z (wv (.bool ((u8.wrap t908.1) == (1:Int))) z z z (wl_nil (tn ?_))))))))))))
 refine bsplit ((u8.wrap t908.1) == (1:Int)) (fun hc936 => ?_) (fun hc936 => ?_)
 {
 replace hm := bif_t hc936 hm
 refine wp_ift (cvb hc936) ?_
 refine wrl (wv (Pt b902 0) z z (x_load z isAgg62 (hst.bc2 z)) ?_)
 replace hst := hst.pull1
 obtain ⟨t937, ht938, hm⟩ := bind_some hm
 refine wc call13 [Pt b902 0, I6 (8:Int)] z z z ?_
 refine (octet_Reader_Num_ref hst.to1 ht938).mono ?_
 rintro _ w939 ⟨rfl, hst⟩
 refine ⟨_, z, ?_⟩
 replace hst := hst.of1
 refine wv (Pt b929 3) z z (x_field z underlying48 z sizeOf25 z) ?_
 replace hst := hst.pull1
 obtain ⟨w942, hr943, hst⟩ := hst.by_ [U1 (u8.wrap t908.1), Zu, Zu, U6 t937.1, Zu, Zi, Zu, Zu, Zu, Zs, Zs, Zs, Zs, Zs, Zi, Zu, Zu, Zs, Zs, Zu, Zs, Zu, Zi, Zi, Zf, Zf, Zu, Zi, .bool false] 3 (.int .u64 t937.1) sizeOf25 z (oC z oN) (by kernel_rfl)
 refine wl_unit z z (x_unit hr943) ?_
 refine wl_nil (blk_n (tn ?_))
 replace hst := hst.own_nil tyF64
 replace hst := hst.own_nil tyF2
 replace hst := hst.own_nil tyF64
 replace hst := hst.own_nil (tyInt .u8)
 replace hst := hst.own_nil ty_api_Write
 replace hst := hst.own_nil ty_api_Got
 replace hst := hst.own_nil (tySl ty_api_Pair)
 replace hst := hst.own_nil ty_api_Part
 replace hst := hst.pull1.pull2.pull3.pull4.pull5.pull6.pull7.pull8.pull9.pull10.pull11.keep12
 obtain rfl := some_inj hm
 exact ⟨_, t937.2, ({ Kind := (u8.wrap t908.1), ID := ({ Session := (0:Int), Seq := (0:Int) } : api_ID), Epoch := t937.1, Index := (0:Int), E := (0:Int), Hold := zero_api_Hold, Writes := [], R := zero_api_Reply, Shards := (0:Int), Parts := [], Rule := zero_api_Rule, On := false } : api_Command), Zs, Zs, Zs, Zs, Zs, Zs, Zs, Zs, _, hx1327, (fu 0 r0_0 z (fu 2 (Pt b885 0) z (fu 4 (Pt b897 0) z (fu 5 (Pt b929 0) z z)))), hL1328, hst⟩
}
 {
 replace hm := bif_f hc936 hm
 refine wp_iff (cvb hc936) ?_
 refine wp_seq (wrl (wv (.bool ((u8.wrap t908.1) == (2:Int))) z z z (wv (.bool ((u8.wrap t908.1) == (2:Int))) z z z (wl_nil (tn ?_)))))
 refine bsplit ((u8.wrap t908.1) == (2:Int)) (fun hc944 => ?_) (fun hc944 => ?_)
 {
 replace hm := bif_t hc944 hm
 refine wp_ift (cvb hc944) ?_
 refine wrl (wv (Pt b902 0) z z (x_load z isAgg62 (hst.bc2 z)) ?_)
 replace hst := hst.pull1
 obtain ⟨t945, ht946, hm⟩ := bind_some hm
 refine wc call15 [Pt b902 0] z z z ?_
 refine (locks_Read_ref hst.to1 ht946).mono ?_
 rintro _ w947 ⟨v950, v952, v954, v956, rfl, hst⟩
 refine ⟨_, z, ?_⟩
 replace hst := hst.of5
 refine wv (Pt b929 6) z z (x_field z underlying48 z sizeOf36 z) ?_
 replace hst := hst.pull5
 obtain ⟨w958, hr959, hst⟩ := hst.by_ [U1 (u8.wrap t908.1), Zu, Zu, Zu, Zu, Zi, U6 t945.1.ID.Session, U6 t945.1.ID.Seq, U6 t945.1.Epoch, v950, v952, v954, v956, Zs, Zi, Zu, Zu, Zs, Zs, Zu, Zs, Zu, Zi, Zi, Zf, Zf, Zu, Zi, .bool false] 6 (.agg #[U6 t945.1.ID.Session, U6 t945.1.ID.Seq, U6 t945.1.Epoch, v950, v952, v954, v956]) sizeOf36 z (oC z (oC z (oC z (oC (one_of_sliceV hst.sv1) (oC (one_of_sliceV hst.sv2) (oC (one_of_sliceV hst.sv3) (oC (one_of_sliceV hst.sv4) oN))))))) (by kernel_rfl)
 refine wl_unit z z (x_unit hr959) ?_
 refine wl_nil (blk_n (tn ?_))
 replace hst := hst.own_nil ty_api_Write
 replace hst := hst.own_nil ty_api_Got
 replace hst := hst.own_nil (tySl ty_api_Pair)
 replace hst := hst.own_nil ty_api_Part
 replace hst := hst.pull1.pull2.pull3.pull8.pull8.pull8.pull8.pull8.pull9.pull10.pull11.keep12
 obtain rfl := some_inj hm
 exact ⟨_, t945.2, ({ Kind := (u8.wrap t908.1), ID := ({ Session := (0:Int), Seq := (0:Int) } : api_ID), Epoch := (0:Int), Index := (0:Int), E := (0:Int), Hold := t945.1, Writes := [], R := zero_api_Reply, Shards := (0:Int), Parts := [], Rule := zero_api_Rule, On := false } : api_Command), v950, v952, v954, v956, Zs, Zs, Zs, Zs, _, hx1327, (fu 0 r0_0 z (fu 2 (Pt b885 0) z (fu 4 (Pt b897 0) z (fu 5 (Pt b929 0) z z)))), hL1328, hst⟩
}
 {
 replace hm := bif_f hc944 hm
 refine wp_iff (cvb hc944) ?_
 refine wp_seq (wrl (wv (.bool ((u8.wrap t908.1) == (3:Int))) z z z (wv (.bool ((u8.wrap t908.1) == (3:Int))) z z z (wl_nil (tn ?_)))))
 refine bsplit ((u8.wrap t908.1) == (3:Int)) (fun hc960 => ?_) (fun hc960 => ?_)
 {
 replace hm := bif_t hc960 hm
 refine wp_ift (cvb hc960) ?_
 refine wp_seq (wrl (wv (.func (.func 49) #[] #[Pt b897 0, Pt b929 0]) z z z ?_))
 obtain ⟨y977, hq978, hm⟩ := bind_some hm
 refine wl_call z z (x_callv call49 (caps := [Pt b897 0, Pt b929 0]) z (vs := []) z) ?_
 refine Calls.mono (show Calls prog 49 #[Pt b897 0, Pt b929 0] _ (fun e w' => ∃ (z973 : octet_Reader) (z974 : Int) (z975 : Int), y977 = (z973, z974, z975) ∧ e = .returned (.tuple #[]) ∧ St w0 w' I [cells b885 [Zb, Zu, Zu, Zu, Zu, Zi, Zu, Zu, Zu, Zs, Zs, Zs, Zs, Zs, Zi, Zu, Zu, Zs, Zs, Zu, Zs, Zu, Zi, Zi, Zf, Zf, Zu, Zi, .bool false], at_octet_Reader (Pt b902 0) z973, cells b897 [Pt b902 0], cells b929 [U1 (u8.wrap t908.1), U6 z974, U6 z975, Zu, Zu, Zi, Zu, Zu, Zu, Zs, Zs, Zs, Zs, Zs, Zi, Zu, Zu, Zs, Zs, Zu, Zs, Zu, Zi, Zi, Zf, Zf, Zu, Zi, .bool false]] R) from ?_) ?_
 {
 clear hm; have hm := hq978
 refine calls_start (args := [Pt b897 0, Pt b929 0]) func49 z ntmps49 (Nat.le_of_ble_eq_true z) ?_
 refine wp_region_St hst 7 [0, 1, 2, 3, 4, 5, 6] [0, 1, 0, 7, 15, 31, 63] [] z (by kernel_rfl) (by kernel_rfl) Try.mixed (by kernel_rfl) ?_
 refine wsr (Pt b902 0) 0 z z z (by kernel_rfl) (fun w hst => x_load z isAgg62 (hst.bc2 z)) (wsr (Pt b902 0) 2 z z z (by kernel_rfl) (fun w hst => x_load z isAgg62 (hst.bc2 z)) ?_)
 refine ws_e1 1 (by kernel_rfl) ?_
 refine nxe [3, 4, 5, 6] (by kernel_rfl) z z ?_
 clear hst
 intro w hst
 replace hst := hst.pull1
 obtain ⟨t961, ht962, hm⟩ := bind_some hm
 refine wec call13 [Pt b902 0, I6 (8:Int)] z z ?_
 refine (octet_Reader_Num_ref hst.to1 ht962).mono ?_
 rintro _ w963 ⟨rfl, hst⟩
 refine ⟨_, z, ?_⟩
 replace hst := hst.of1
 refine ws_next (pend' := [(2, Pt b902 0)]) hst (by kernel_rfl) (pkr z z (fun w hst => x_load z isAgg62 (hst.bc2 z)) pk_nil) ?_
 refine ws_e1 3 (by kernel_rfl) ?_
 refine nxe [4, 5, 6] (by kernel_rfl) z z ?_
 clear hst
 intro w hst
 obtain ⟨t966, ht967, hm⟩ := bind_some hm
 refine wec call13 [Pt b902 0, I6 (8:Int)] z z ?_
 refine (octet_Reader_Num_ref hst.to1 ht967).mono ?_
 rintro _ w968 ⟨rfl, hst⟩
 refine ⟨_, z, ?_⟩
 replace hst := hst.of1
 refine ws_next (pend' := []) hst (by kernel_rfl) pk_nil ?_
 refine wsr (.agg #[U6 t961.1, U6 t966.1]) 4 z z z (by kernel_rfl) (fun w hst => by kernel_rfl) (wsr (Pt b929 1) 5 z z z (by kernel_rfl) (fun w hst => x_field z underlying48 z sizeOf32 z) ?_)
 refine ws_e1 6 (by kernel_rfl) ?_
 refine nxe [] (by kernel_rfl) z z ?_
 clear hst
 intro w hst
 replace hst := hst.pull1
 obtain ⟨w971, hr972, hst⟩ := hst.by_ [U1 (u8.wrap t908.1), U6 t961.1, U6 t966.1, Zu, Zu, Zi, Zu, Zu, Zu, Zs, Zs, Zs, Zs, Zs, Zi, Zu, Zu, Zs, Zs, Zu, Zs, Zu, Zi, Zi, Zf, Zf, Zu, Zi, .bool false] 1 (.agg #[U6 t961.1, U6 t966.1]) sizeOf32 z (oC z (oC z oN)) (by kernel_rfl)
 refine we_unit z (x_unit hr972) ?_
 refine ws_next (pend' := []) hst (by kernel_rfl) pk_nil ?_
 refine ws_nil ?_
 intro w hst
 refine post_end (vs := []) results49 rvs_nil ?_
 replace hst := hst.pull2.pull2.pull3.keep4
 obtain rfl := some_inj hm
 exact ⟨t966.2, t961.1, t966.1, z, z, hst⟩
}
 clear hst
 rintro _ w979 ⟨z973, z974, z975, rfl, rfl, hst⟩
 refine ⟨_, z, ?_⟩
 try dsimp only at hm
 refine wl_nil (tn (wp_seq ?_))
 refine wp_region_St hst 13 [0, 1, 2, 3, 4, 5, 6, 7, 8, 9, 10, 11, 12] [0, 1, 3, 0, 11, 0, 59, 7, 255, 511, 1023, 2047, 4095] [] z (by kernel_rfl) (by kernel_rfl) Try.mixed (by kernel_rfl) ?_
 refine wsr (Pt b902 0) 0 z z z (by kernel_rfl) (fun w hst => x_load z isAgg62 (hst.bc2 z)) (wsr (Pt b902 0) 3 z z z (by kernel_rfl) (fun w hst => x_load z isAgg62 (hst.bc2 z)) (wsr (Pt b902 0) 5 z z z (by kernel_rfl) (fun w hst => x_load z isAgg62 (hst.bc2 z)) ?_))
 refine ws_e1 1 (by kernel_rfl) ?_
 refine nxe [2, 4, 6, 7, 8, 9, 10, 11, 12] (by kernel_rfl) z z ?_
 clear hst
 intro w hst
 replace hst := hst.pull1
 obtain ⟨t980, ht981, hm⟩ := bind_some hm
 refine wec call13 [Pt b902 0, I6 (1:Int)] z z ?_
 refine (octet_Reader_Num_ref hst.to1 ht981).mono ?_
 rintro _ w982 ⟨rfl, hst⟩
 refine ⟨_, z, ?_⟩
 replace hst := hst.of1
 refine ws_next (pend' := [(5, Pt b902 0), (3, Pt b902 0)]) hst (by kernel_rfl) (pkr z z (fun w hst => x_load z isAgg62 (hst.bc2 z)) (pkr z z (fun w hst => x_load z isAgg62 (hst.bc2 z)) pk_nil)) ?_
 refine wsr (.int .i64 (i64.wrap t980.1)) 2 z z z (by kernel_rfl) (fun w hst => by kernel_rfl) (wsr (Pt b929 5) 7 z z z (by kernel_rfl) (fun w hst => x_field z underlying48 z sizeOf37 z) ?_)
 refine ws_e1 4 (by kernel_rfl) ?_
 refine nxe [6, 8, 9, 10, 11, 12] (by kernel_rfl) z z ?_
 clear hst
 intro w hst
 obtain ⟨t985, ht986, hm⟩ := bind_some hm
 refine wec call13 [Pt b902 0, I6 (8:Int)] z z ?_
 refine (octet_Reader_Num_ref hst.to1 ht986).mono ?_
 rintro _ w987 ⟨rfl, hst⟩
 refine ⟨_, z, ?_⟩
 replace hst := hst.of1
 refine ws_next (pend' := [(7, Pt b929 5), (2, I6 (i64.wrap t980.1)), (5, Pt b902 0)]) hst (by kernel_rfl) (pkr z z (fun w hst => x_field z underlying48 z sizeOf37 z) (pkr z z (fun w hst => by kernel_rfl) (pkr z z (fun w hst => x_load z isAgg62 (hst.bc2 z)) pk_nil))) ?_
 refine ws_e1 6 (by kernel_rfl) ?_
 refine nxe [8, 9, 10, 11, 12] (by kernel_rfl) z z ?_
 clear hst
 intro w hst
 obtain ⟨t990, ht991, hm⟩ := bind_some hm
 refine wec call13 [Pt b902 0, I6 (8:Int)] z z ?_
 refine (octet_Reader_Num_ref hst.to1 ht991).mono ?_
 rintro _ w992 ⟨rfl, hst⟩
 refine ⟨_, z, ?_⟩
 replace hst := hst.of1
 refine ws_next (pend' := [(7, Pt b929 5), (2, I6 (i64.wrap t980.1))]) hst (by kernel_rfl) (pkr z z (fun w hst => x_field z underlying48 z sizeOf37 z) (pkr z z (fun w hst => by kernel_rfl) pk_nil)) ?_
 refine ws_e1 8 (by kernel_rfl) ?_
 refine nxe [9, 10, 11, 12] (by kernel_rfl) z z ?_
 clear hst
 intro w hst
 replace hst := hst.pull3
 obtain ⟨w995, hr996, hst⟩ := hst.by_ [U1 (u8.wrap t908.1), U6 z974, U6 z975, Zu, Zu, I6 (i64.wrap t980.1), Zu, Zu, Zu, Zs, Zs, Zs, Zs, Zs, Zi, Zu, Zu, Zs, Zs, Zu, Zs, Zu, Zi, Zi, Zf, Zf, Zu, Zi, .bool false] 5 (.int .i64 (i64.wrap t980.1)) sizeOf37 z (oC z oN) (by kernel_rfl)
 refine we_unit z (x_unit hr996) ?_
 refine ws_next (pend' := []) hst (by kernel_rfl) pk_nil ?_
 refine wsr (Pt b929 3) 9 z z z (by kernel_rfl) (fun w hst => x_field z underlying48 z sizeOf25 z) ?_
 refine ws_e1 10 (by kernel_rfl) ?_
 refine nxe [11, 12] (by kernel_rfl) z z ?_
 clear hst
 intro w hst
 obtain ⟨w997, hr998, hst⟩ := hst.by_ [U1 (u8.wrap t908.1), U6 z974, U6 z975, U6 t985.1, Zu, I6 (i64.wrap t980.1), Zu, Zu, Zu, Zs, Zs, Zs, Zs, Zs, Zi, Zu, Zu, Zs, Zs, Zu, Zs, Zu, Zi, Zi, Zf, Zf, Zu, Zi, .bool false] 3 (.int .u64 t985.1) sizeOf25 z (oC z oN) (by kernel_rfl)
 refine we_unit z (x_unit hr998) ?_
 refine ws_next (pend' := []) hst (by kernel_rfl) pk_nil ?_
 refine wsr (Pt b929 4) 11 z z z (by kernel_rfl) (fun w hst => x_field z underlying48 z sizeOf25 z) ?_
 refine ws_e1 12 (by kernel_rfl) ?_
 refine nxe [] (by kernel_rfl) z z ?_
 clear hst
 intro w hst
 obtain ⟨w999, hr1000, hst⟩ := hst.by_ [U1 (u8.wrap t908.1), U6 z974, U6 z975, U6 t985.1, U6 t990.1, I6 (i64.wrap t980.1), Zu, Zu, Zu, Zs, Zs, Zs, Zs, Zs, Zi, Zu, Zu, Zs, Zs, Zu, Zs, Zu, Zi, Zi, Zf, Zf, Zu, Zi, .bool false] 4 (.int .u64 t990.1) sizeOf25 z (oC z oN) (by kernel_rfl)
 refine we_unit z (x_unit hr1000) ?_
 refine ws_next (pend' := []) hst (by kernel_rfl) pk_nil ?_
 refine ws_nil ?_
 intro w hst
 refine tn (wrl (wv (Pt b902 0) z z (x_load z isAgg62 (hst.bc3 z)) ?_))
 replace hst := hst.pull1
 obtain ⟨t1001, ht1002, hm⟩ := bind_some hm
 refine wc call50 [Pt b902 0] z z z ?_
 refine (command_readWrites_ref hst.to1 ht1002).mono ?_
 rintro _ w1003 ⟨I1004, v1006, rfl, hI1005, hst⟩
 refine ⟨_, z, ?_⟩
 replace hst := hst.of2
 replace f0_0 := f0_0.mono (ro_le hI1005)
 replace f905 := f905.mono (ro_le hI1005)
 replace hI0 := hI0.trans hI1005
 replace hL1328 := hL1328.trans hI1005
 refine wv (Pt b929 13) z z (x_field z underlying48 z sizeOf42 z) ?_
 replace hst := hst.pull2
 obtain ⟨w1008, hr1009, hst⟩ := hst.boxStore1 (P := prog) (t := 42) (cs' := [U1 (u8.wrap t908.1), U6 z974, U6 z975, U6 t985.1, U6 t990.1, I6 (i64.wrap t980.1), Zu, Zu, Zu, Zs, Zs, Zs, Zs, v1006, Zi, Zu, Zu, Zs, Zs, Zu, Zs, Zu, Zi, Zi, Zf, Zf, Zu, Zi, .bool false]) 13 v1006 (one_of_sliceV hst.sv1) sizeOf42 z z
 refine wl_unit z z (x_unit hr1009) ?_
 refine wl_nil (blk_n (tn ?_))
 replace hst := hst.own_nil tyF64
 replace hst := hst.own_nil tyF2
 replace hst := hst.own_nil tyF64
 replace hst := hst.own_nil (tyInt .u8)
 replace hst := hst.own_nil ty_api_Got
 replace hst := hst.own_nil (tySl ty_api_Pair)
 replace hst := hst.own_nil ty_api_Part
 replace hst := hst.pull1.pull2.pull8.pull4.pull5.pull6.pull7.pull8.pull9.pull11.pull11.keep12
 obtain rfl := some_inj hm
 exact ⟨_, t1001.2, ({ Kind := (u8.wrap t908.1), ID := ({ Session := z974, Seq := z975 } : api_ID), Epoch := t985.1, Index := t990.1, E := (i64.wrap t980.1), Hold := zero_api_Hold, Writes := t1001.1, R := zero_api_Reply, Shards := (0:Int), Parts := [], Rule := zero_api_Rule, On := false } : api_Command), Zs, Zs, Zs, Zs, v1006, Zs, Zs, Zs, _, hx1327, (fu 0 r0_0 z (fu 2 (Pt b885 0) z (fu 4 (Pt b897 0) z (fu 5 (Pt b929 0) z z)))), hL1328, hst⟩
}
 {
 replace hm := bif_f hc960 hm
 refine wp_iff (cvb hc960) ?_
 refine wp_seq (wrl (wv (.bool ((u8.wrap t908.1) == (4:Int))) z z z (wv (.bool ((u8.wrap t908.1) == (4:Int))) z z z (wl_nil (tn ?_)))))
 refine bsplit ((u8.wrap t908.1) == (4:Int)) (fun hc1010 => ?_) (fun hc1010 => ?_)
 {
 replace hm := bif_t hc1010 hm
 refine wp_ift (cvb hc1010) ?_
 refine wp_seq (wrl (wv (.func (.func 49) #[] #[Pt b897 0, Pt b929 0]) z z z ?_))
 obtain ⟨y1027, hq1028, hm⟩ := bind_some hm
 refine wl_call z z (x_callv call49 (caps := [Pt b897 0, Pt b929 0]) z (vs := []) z) ?_
 refine Calls.mono (show Calls prog 49 #[Pt b897 0, Pt b929 0] _ (fun e w' => ∃ (z1023 : octet_Reader) (z1024 : Int) (z1025 : Int), y1027 = (z1023, z1024, z1025) ∧ e = .returned (.tuple #[]) ∧ St w0 w' I [cells b885 [Zb, Zu, Zu, Zu, Zu, Zi, Zu, Zu, Zu, Zs, Zs, Zs, Zs, Zs, Zi, Zu, Zu, Zs, Zs, Zu, Zs, Zu, Zi, Zi, Zf, Zf, Zu, Zi, .bool false], at_octet_Reader (Pt b902 0) z1023, cells b897 [Pt b902 0], cells b929 [U1 (u8.wrap t908.1), U6 z1024, U6 z1025, Zu, Zu, Zi, Zu, Zu, Zu, Zs, Zs, Zs, Zs, Zs, Zi, Zu, Zu, Zs, Zs, Zu, Zs, Zu, Zi, Zi, Zf, Zf, Zu, Zi, .bool false]] R) from ?_) ?_
 {
 clear hm; have hm := hq1028
 refine calls_start (args := [Pt b897 0, Pt b929 0]) func49 z ntmps49 (Nat.le_of_ble_eq_true z) ?_
 refine wp_region_St hst 7 [0, 1, 2, 3, 4, 5, 6] [0, 1, 0, 7, 15, 31, 63] [] z (by kernel_rfl) (by kernel_rfl) Try.mixed (by kernel_rfl) ?_
 refine wsr (Pt b902 0) 0 z z z (by kernel_rfl) (fun w hst => x_load z isAgg62 (hst.bc2 z)) (wsr (Pt b902 0) 2 z z z (by kernel_rfl) (fun w hst => x_load z isAgg62 (hst.bc2 z)) ?_)
 refine ws_e1 1 (by kernel_rfl) ?_
 refine nxe [3, 4, 5, 6] (by kernel_rfl) z z ?_
 clear hst
 intro w hst
 replace hst := hst.pull1
 obtain ⟨t1011, ht1012, hm⟩ := bind_some hm
 refine wec call13 [Pt b902 0, I6 (8:Int)] z z ?_
 refine (octet_Reader_Num_ref hst.to1 ht1012).mono ?_
 rintro _ w1013 ⟨rfl, hst⟩
 refine ⟨_, z, ?_⟩
 replace hst := hst.of1
 refine ws_next (pend' := [(2, Pt b902 0)]) hst (by kernel_rfl) (pkr z z (fun w hst => x_load z isAgg62 (hst.bc2 z)) pk_nil) ?_
 refine ws_e1 3 (by kernel_rfl) ?_
 refine nxe [4, 5, 6] (by kernel_rfl) z z ?_
 clear hst
 intro w hst
 obtain ⟨t1016, ht1017, hm⟩ := bind_some hm
 refine wec call13 [Pt b902 0, I6 (8:Int)] z z ?_
 refine (octet_Reader_Num_ref hst.to1 ht1017).mono ?_
 rintro _ w1018 ⟨rfl, hst⟩
 refine ⟨_, z, ?_⟩
 replace hst := hst.of1
 refine ws_next (pend' := []) hst (by kernel_rfl) pk_nil ?_
 refine wsr (.agg #[U6 t1011.1, U6 t1016.1]) 4 z z z (by kernel_rfl) (fun w hst => by kernel_rfl) (wsr (Pt b929 1) 5 z z z (by kernel_rfl) (fun w hst => x_field z underlying48 z sizeOf32 z) ?_)
 refine ws_e1 6 (by kernel_rfl) ?_
 refine nxe [] (by kernel_rfl) z z ?_
 clear hst
 intro w hst
 replace hst := hst.pull1
 obtain ⟨w1021, hr1022, hst⟩ := hst.by_ [U1 (u8.wrap t908.1), U6 t1011.1, U6 t1016.1, Zu, Zu, Zi, Zu, Zu, Zu, Zs, Zs, Zs, Zs, Zs, Zi, Zu, Zu, Zs, Zs, Zu, Zs, Zu, Zi, Zi, Zf, Zf, Zu, Zi, .bool false] 1 (.agg #[U6 t1011.1, U6 t1016.1]) sizeOf32 z (oC z (oC z oN)) (by kernel_rfl)
 refine we_unit z (x_unit hr1022) ?_
 refine ws_next (pend' := []) hst (by kernel_rfl) pk_nil ?_
 refine ws_nil ?_
 intro w hst
 refine post_end (vs := []) results49 rvs_nil ?_
 replace hst := hst.pull2.pull2.pull3.keep4
 obtain rfl := some_inj hm
 exact ⟨t1016.2, t1011.1, t1016.1, z, z, hst⟩
}
 clear hst
 rintro _ w1029 ⟨z1023, z1024, z1025, rfl, rfl, hst⟩
 refine ⟨_, z, ?_⟩
 try dsimp only at hm
 refine wl_nil (tn (wp_seq ?_))
 refine wp_region_St hst 8 [0, 1, 2, 3, 4, 5, 6, 7] [0, 1, 0, 7, 3, 31, 63, 127] [] z (by kernel_rfl) (by kernel_rfl) Try.mixed (by kernel_rfl) ?_
 refine wsr (Pt b902 0) 0 z z z (by kernel_rfl) (fun w hst => x_load z isAgg62 (hst.bc2 z)) (wsr (Pt b902 0) 2 z z z (by kernel_rfl) (fun w hst => x_load z isAgg62 (hst.bc2 z)) ?_)
 refine ws_e1 1 (by kernel_rfl) ?_
 refine nxe [3, 4, 5, 6, 7] (by kernel_rfl) z z ?_
 clear hst
 intro w hst
 replace hst := hst.pull1
 obtain ⟨t1030, ht1031, hm⟩ := bind_some hm
 refine wec call13 [Pt b902 0, I6 (8:Int)] z z ?_
 refine (octet_Reader_Num_ref hst.to1 ht1031).mono ?_
 rintro _ w1032 ⟨rfl, hst⟩
 refine ⟨_, z, ?_⟩
 replace hst := hst.of1
 refine ws_next (pend' := [(2, Pt b902 0)]) hst (by kernel_rfl) (pkr z z (fun w hst => x_load z isAgg62 (hst.bc2 z)) pk_nil) ?_
 refine wsr (Pt b929 3) 4 z z z (by kernel_rfl) (fun w hst => x_field z underlying48 z sizeOf25 z) ?_
 refine ws_e1 3 (by kernel_rfl) ?_
 refine nxe [5, 6, 7] (by kernel_rfl) z z ?_
 clear hst
 intro w hst
 obtain ⟨t1035, ht1036, hm⟩ := bind_some hm
 refine wec call13 [Pt b902 0, I6 (2:Int)] z z ?_
 refine (octet_Reader_Num_ref hst.to1 ht1036).mono ?_
 rintro _ w1037 ⟨rfl, hst⟩
 refine ⟨_, z, ?_⟩
 replace hst := hst.of1
 refine ws_next (pend' := [(4, Pt b929 3)]) hst (by kernel_rfl) (pkr z z (fun w hst => x_field z underlying48 z sizeOf25 z) pk_nil) ?_
 refine ws_e1 5 (by kernel_rfl) ?_
 refine nxe [6, 7] (by kernel_rfl) z z ?_
 clear hst
 intro w hst
 replace hst := hst.pull3
 obtain ⟨w1040, hr1041, hst⟩ := hst.by_ [U1 (u8.wrap t908.1), U6 z1024, U6 z1025, U6 t1030.1, Zu, Zi, Zu, Zu, Zu, Zs, Zs, Zs, Zs, Zs, Zi, Zu, Zu, Zs, Zs, Zu, Zs, Zu, Zi, Zi, Zf, Zf, Zu, Zi, .bool false] 3 (.int .u64 t1030.1) sizeOf25 z (oC z oN) (by kernel_rfl)
 refine we_unit z (x_unit hr1041) ?_
 refine ws_next (pend' := []) hst (by kernel_rfl) pk_nil ?_
 refine wsr (Pt b929 19) 6 z z z (by kernel_rfl) (fun w hst => x_field z underlying48 z sizeOf25 z) ?_
 refine ws_e1 7 (by kernel_rfl) ?_
 refine nxe [] (by kernel_rfl) z z ?_
 clear hst
 intro w hst
 obtain ⟨w1042, hr1043, hst⟩ := hst.by_ [U1 (u8.wrap t908.1), U6 z1024, U6 z1025, U6 t1030.1, Zu, Zi, Zu, Zu, Zu, Zs, Zs, Zs, Zs, Zs, Zi, Zu, Zu, Zs, Zs, U6 t1035.1, Zs, Zu, Zi, Zi, Zf, Zf, Zu, Zi, .bool false] 19 (.int .u64 t1035.1) sizeOf25 z (oC z oN) (by kernel_rfl)
 refine we_unit z (x_unit hr1043) ?_
 refine ws_next (pend' := []) hst (by kernel_rfl) pk_nil ?_
 refine ws_nil ?_
 intro w hst
 refine tn ?_
 obtain ⟨y1191, hm, hx1192⟩ := bind_some hm
 refine wp_cut (fun a w => ∃ (I1188 : HL) (z1184 : octet_Reader) (z1187 : (List api_Part)) (v1186 : Value) (σ1189 : Nat → Value), (command_Decode_j1 t908 z1024 z1025 t1030 t1035) (z1184, z1187) = some y1326 ∧ a = Fr 113 (upd (upd (upd (upd σ1189 0 (r0_0)) 2 (Pt b885 0)) 4 (Pt b897 0)) 5 (Pt b929 0)) ∧ I.le I1188 ∧ St w0 w I1188 [cells b885 [Zb, Zu, Zu, Zu, Zu, Zi, Zu, Zu, Zu, Zs, Zs, Zs, Zs, Zs, Zi, Zu, Zu, Zs, Zs, Zu, Zs, Zu, Zi, Zi, Zf, Zf, Zu, Zi, .bool false], cells b897 [Pt b902 0], at_octet_Reader (Pt b902 0) z1184, cells b929 [U1 (u8.wrap t908.1), U6 z1024, U6 z1025, U6 t1030.1, Zu, Zi, Zu, Zu, Zu, Zs, Zs, Zs, Zs, Zs, Zi, Zu, Zu, Zs, Zs, U6 t1035.1, v1186, Zu, Zi, Zi, Zf, Zf, Zu, Zi, .bool false], ownS ty_api_Part v1186 z1187] R) ?_ ?_
 {
 have hL1193 := HL.le.refl I
 refine wp_seq (wrl (wv (Pt b902 0) z z (x_load z isAgg62 (hst.bc3 z)) ?_))
 replace hst := hst.pull1
 obtain ⟨t1044, ht1045, hm⟩ := bind_some hm
 refine wc call46 [Pt b902 0, I6 (8:Int)] z z z ?_
 refine (octet_Reader_Count_ref hst.to1 ht1045).mono ?_
 rintro _ w1046 ⟨rfl, hst⟩
 refine ⟨_, z, ?_⟩
 replace hst := hst.of1
 refine wv (.int .i64 (0:Int)) z z z (wl_nil (tn (wp_block ?_)))
 replace hst := hst.own_nil ty_api_Part
 obtain ⟨n1148, hm⟩ := loopO_some hm
 refine wp_loop_n (fun n a w => ∃ (I1146 : HL) (z1141 : (List api_Part)) (z1144 : octet_Reader) (z1145 : Int) (v1142 : Value) (σ1147 : Nat → Value), loopN (command_Decode_l2 t1044) n (z1141, z1144, z1145) = some y1191 ∧ a = Fr 113 (upd (upd (upd (upd (upd (upd σ1147 0 (r0_0)) 2 (Pt b885 0)) 4 (Pt b897 0)) 5 (Pt b929 0)) 55 (.int .i64 t1044.1)) 56 (.int .i64 z1145)) ∧ I.le I1146 ∧ St w0 w I1146 [ownS ty_api_Part v1142 z1141, at_octet_Reader (Pt b902 0) z1144, cells b929 [U1 (u8.wrap t908.1), U6 z1024, U6 z1025, U6 t1030.1, Zu, Zi, Zu, Zu, Zu, Zs, Zs, Zs, Zs, Zs, Zi, Zu, Zu, Zs, Zs, U6 t1035.1, v1142, Zu, Zi, Zi, Zf, Zf, Zu, Zi, .bool false], cells b885 [Zb, Zu, Zu, Zu, Zu, Zi, Zu, Zu, Zu, Zs, Zs, Zs, Zs, Zs, Zi, Zu, Zu, Zs, Zs, Zu, Zs, Zu, Zi, Zi, Zf, Zf, Zu, Zi, .bool false], cells b897 [Pt b902 0]] R) n1148 ⟨_, [], t1044.2, (0:Int), Zs, _, hm, (fu 0 r0_0 z (fu 2 (Pt b885 0) z (fu 4 (Pt b897 0) z (fu 5 (Pt b929 0) z (fu 55 (.int .i64 t1044.1) z (fu 56 (.int .i64 (0:Int)) z z)))))), (HL.le.refl _), hst⟩ ?_
 rintro n1154 _ w1149 ⟨I1146, z1141, z1144, z1145, v1142, σ1147, hm, rfl, hL1150, hst⟩
 obtain ⟨n1151, y1152, rfl, hm, hx1153⟩ := loopN_some hm
 dsimp only [command_Decode_l2] at hm
 replace f0_0 := f0_0.mono (ro_le hL1150)
 replace f905 := f905.mono (ro_le hL1150)
 replace hI0 := hI0.trans hL1150
 replace hL1328 := hL1328.trans hL1150
 replace hL1193 := hL1193.trans hL1150
 refine wp_seq (wrl (wv (.bool (decide (z1145 < t1044.1))) z z z (wl_nil (tn (wp_seq ?_)))))
 refine bsplit (decide (z1145 < t1044.1)) (fun hc1155 => ?_) (fun hc1155 => ?_)
 {
 replace hm := bif_t hc1155 hm
 refine wp_ift (cvb hc1155) ?_
 refine wp_skip (tn (wp_seq (wp_block ?_)))
 refine wp_region_St hst 12 [0, 1, 2, 3, 4, 5, 6, 7, 8, 9, 10, 11] [0, 1, 0, 4, 12, 0, 44, 124, 252, 511, 1023, 2047] [] z (by kernel_rfl) (by kernel_rfl) Try.mixed (by kernel_rfl) ?_
 refine wsr (Pt b929 20) 0 z z z (by kernel_rfl) (fun w hst => x_field z underlying48 z sizeOf43 z) (wsr (v1142) 1 z z z (by kernel_rfl) (fun w hst => x_load z isAgg43 (hst.bc2 z)) (wsr (Pt b902 0) 2 z z z (by kernel_rfl) (fun w hst => x_load z isAgg62 (hst.bc4 z)) (wsr (Pt b902 0) 5 z z z (by kernel_rfl) (fun w hst => x_load z isAgg62 (hst.bc4 z)) ?_)))
 refine ws_e1 3 (by kernel_rfl) ?_
 refine nxe [4, 6, 7, 8, 9, 10, 11] (by kernel_rfl) z z ?_
 clear hst
 intro w hst
 replace hst := hst.pull1
 obtain ⟨t1156, ht1157, hm⟩ := bind_some hm
 refine wec call13 [Pt b902 0, I6 (1:Int)] z z ?_
 refine (octet_Reader_Num_ref hst.to1 ht1157).mono ?_
 rintro _ w1158 ⟨rfl, hst⟩
 refine ⟨_, z, ?_⟩
 replace hst := hst.of1
 refine ws_next (pend' := [(5, Pt b902 0), (1, v1142), (0, Pt b929 20)]) hst (by kernel_rfl) (pkr z z (fun w hst => x_load z isAgg62 (hst.bc4 z)) (pkr z z (fun w hst => x_load z isAgg43 (hst.bc2 z)) (pkr z z (fun w hst => x_field z underlying48 z sizeOf43 z) pk_nil))) ?_
 refine wsr (.int .i64 (i64.wrap t1156.1)) 4 z z z (by kernel_rfl) (fun w hst => by kernel_rfl) ?_
 refine ws_e1 6 (by kernel_rfl) ?_
 refine nxe [7, 8, 9, 10, 11] (by kernel_rfl) z z ?_
 clear hst
 intro w hst
 obtain ⟨t1161, ht1162, hm⟩ := bind_some hm
 refine wec call50 [Pt b902 0] z z ?_
 refine (command_readWrites_ref hst.to1 ht1162).mono ?_
 rintro _ w1163 ⟨I1164, v1166, rfl, hI1165, hst⟩
 refine ⟨_, z, ?_⟩
 replace hst := hst.of2
 replace f0_0 := f0_0.mono (ro_le hI1165)
 replace f905 := f905.mono (ro_le hI1165)
 replace hI0 := hI0.trans hI1165
 replace hL1328 := hL1328.trans hI1165
 replace hL1193 := hL1193.trans hI1165
 replace hL1150 := hL1150.trans hI1165
 refine ws_next (pend' := [(4, I6 (i64.wrap t1156.1)), (1, v1142), (0, Pt b929 20)]) hst (by kernel_rfl) (pkr z z (fun w hst => by kernel_rfl) (pkr z z (fun w hst => x_load z isAgg43 (hst.bc3 z)) (pkr z z (fun w hst => x_field z underlying48 z sizeOf43 z) pk_nil))) ?_
 refine wsr (.agg #[I6 (i64.wrap t1156.1), v1166]) 7 rfl rfl rfl (by kernel_rfl) (fun w hst => by obtain ⟨_, _, hv_, _⟩ := hst.sv0; rw [hv_]; kernel_rfl) ?_
 refine ws_e1 8 (by kernel_rfl) ?_
 refine nxe [9, 10, 11] (by kernel_rfl) z z ?_
 clear hst
 intro w hst
 obtain ⟨I1170, hI1171, f1172, hst⟩ := hst.own_fix
 replace f0_0 := f0_0.mono (ro_le hI1171)
 replace f905 := f905.mono (ro_le hI1171)
 replace hI0 := hI0.trans hI1171
 replace hL1328 := hL1328.trans hI1171
 replace hL1193 := hL1193.trans hI1171
 replace hL1150 := hL1150.trans hI1171
 obtain ⟨b1173, w1174, ew1175, eb1176, hst⟩ := hst.lits (E := ty_api_Part) (xs := [({ Shard := (i64.wrap t1156.1), Writes := t1161.1 } : api_Part)]) [[I6 (i64.wrap t1156.1), v1166]] 110 1 z (Reps.cons ⟨_, z, f1172, one_of_sliceV (ro_sliceV f1172)⟩ Reps.nil)
 refine we_run (v := (.slice (some ⟨b1173, 0, none⟩) 1 1)) (w' := w1174) z (x_als (by kernel_rfl) ew1175 eb1176) ?_
 refine ws_next (pend' := [(1, v1142), (0, Pt b929 20)]) hst (by kernel_rfl) (pkr z z (fun w hst => x_load z isAgg43 (hst.bc3 z)) (pkr z z (fun w hst => x_field z underlying48 z sizeOf43 z) pk_nil)) ?_
 refine ws_e1 9 (by kernel_rfl) ?_
 refine nxe [10, 11] (by kernel_rfl) z z ?_
 clear hst
 intro w hst
 obtain ⟨hg1178, hm⟩ := gd_some hm
 replace hst := hst.pull2
 obtain ⟨v1179, w1180, hr1181, hst⟩ := run_append elem_43 underlying43 hst hst.src1 (room_of hg1178 z) 43
 refine we_run (v := v1179) (w' := w1180) z (x_append z z hr1181) ?_
 refine ws_next (pend' := []) hst (by kernel_rfl) pk_nil ?_
 refine wsr (Pt b929 20) 10 z z z (by kernel_rfl) (fun w hst => x_field z underlying48 z sizeOf43 z) ?_
 refine ws_e1 11 (by kernel_rfl) ?_
 refine nxe [] (by kernel_rfl) z z ?_
 clear hst
 intro w hst
 replace hst := hst.pull3
 obtain ⟨w1182, hr1183, hst⟩ := hst.boxStore1 (P := prog) (t := 43) (cs' := [U1 (u8.wrap t908.1), U6 z1024, U6 z1025, U6 t1030.1, Zu, Zi, Zu, Zu, Zu, Zs, Zs, Zs, Zs, Zs, Zi, Zu, Zu, Zs, Zs, U6 t1035.1, v1179, Zu, Zi, Zi, Zf, Zf, Zu, Zi, .bool false]) 20 v1179 (one_of_sliceV hst.sv1) sizeOf43 z z
 refine we_unit z (x_unit hr1183) ?_
 refine ws_next (pend' := []) hst (by kernel_rfl) pk_nil ?_
 refine ws_nil ?_
 intro w hst
 refine blk_n (tn (wrl ?_))
 refine wv (.int .i64 (i64.wrap (z1145 + (1:Int)))) z z z (wv (.int .i64 (i64.wrap (z1145 + (1:Int)))) z z z (wl_nil (tn ?_)))
 replace hst := hst.pull5.pull5.pull2.pull5.pull4.keep5
 obtain rfl := some_inj hm
 exact ⟨_, Nat.lt_succ_self _, _, (z1141 ++ ([({ Shard := (i64.wrap t1156.1), Writes := t1161.1 } : api_Part)])), t1161.2, (i64.wrap (z1145 + (1:Int))), v1179, _, hx1153, (fu 0 r0_0 z (fu 2 (Pt b885 0) z (fu 4 (Pt b897 0) z (fu 5 (Pt b929 0) z (fu 55 (.int .i64 t1044.1) z (fu 56 (.int .i64 (i64.wrap (z1145 + (1:Int)))) z z)))))), hL1150, hst⟩
}
 {
 replace hm := bif_f hc1155 hm
 refine wp_iff (cvb hc1155) ?_
 refine wp_exit (then_x (then_x ?_))
 replace hm := inr_up hm hx1153
 refine blk_x (tn ?_)
 replace hst := hst.pull2.pull2.pull4.pull4.keep5
 obtain rfl := some_inj hm
 exact ⟨_, z1144, z1141, v1142, _, hx1192, (fu 0 r0_0 z (fu 2 (Pt b885 0) z (fu 4 (Pt b897 0) z (fu 5 (Pt b929 0) z z)))), hL1193, hst⟩
}
}
 {
 clear hst
 rintro _ w1194 ⟨I1188, z1184, z1187, v1186, σ1189, hm, rfl, hL1190, hst⟩
 dsimp only [command_Decode_j1] at hm
 replace f0_0 := f0_0.mono (ro_le hL1190)
 replace f905 := f905.mono (ro_le hL1190)
 replace hI0 := hI0.trans hL1190
 replace hL1328 := hL1328.trans hL1190
 refine wrl (wv (Pt b902 0) z z (x_load z isAgg62 (hst.bc1 z)) ?_)
 replace hst := hst.pull2
 obtain ⟨t1195, ht1196, hm⟩ := bind_some hm
 refine wc call16 [Pt b902 0] z z z ?_
 refine (command_ReadReply_ref hst.to1 ht1196).mono ?_
 rintro _ w1197 ⟨I1198, v1200, v1202, rfl, hI1199, hst⟩
 refine ⟨_, z, ?_⟩
 replace hst := hst.of3
 replace f0_0 := f0_0.mono (ro_le hI1199)
 replace f905 := f905.mono (ro_le hI1199)
 replace hI0 := hI0.trans hI1199
 replace hL1328 := hL1328.trans hI1199
 refine wv (Pt b929 14) z z (x_field z underlying48 z sizeOf41 z) ?_
 replace hst := hst.pull5
 obtain ⟨w1204, hr1205, hst⟩ := hst.by_ [U1 (u8.wrap t908.1), U6 z1024, U6 z1025, U6 t1030.1, Zu, Zi, Zu, Zu, Zu, Zs, Zs, Zs, Zs, Zs, I6 t1195.1.E, U6 t1195.1.Epoch, U6 t1195.1.Index, v1200, v1202, U6 t1035.1, v1186, Zu, Zi, Zi, Zf, Zf, Zu, Zi, .bool false] 14 (.agg #[I6 t1195.1.E, U6 t1195.1.Epoch, U6 t1195.1.Index, v1200, v1202]) sizeOf41 z (oC z (oC z (oC z (oC (one_of_sliceV hst.sv1) (oC (one_of_sliceV hst.sv2) oN))))) (by kernel_rfl)
 refine wl_unit z z (x_unit hr1205) ?_
 refine wl_nil (blk_n (tn ?_))
 replace hst := hst.own_nil tyF64
 replace hst := hst.own_nil tyF2
 replace hst := hst.own_nil tyF64
 replace hst := hst.own_nil (tyInt .u8)
 replace hst := hst.own_nil ty_api_Write
 replace hst := hst.pull11.pull8.pull8.pull3.pull4.pull5.pull6.pull7.pull8.pull9.pull11.pull11.keep12
 obtain rfl := some_inj hm
 exact ⟨_, t1195.2, ({ Kind := (u8.wrap t908.1), ID := ({ Session := z1024, Seq := z1025 } : api_ID), Epoch := t1030.1, Index := (0:Int), E := (0:Int), Hold := zero_api_Hold, Writes := [], R := t1195.1, Shards := t1035.1, Parts := z1187, Rule := zero_api_Rule, On := false } : api_Command), Zs, Zs, Zs, Zs, Zs, v1200, v1202, v1186, _, hx1327, (fu 0 r0_0 z (fu 2 (Pt b885 0) z (fu 4 (Pt b897 0) z (fu 5 (Pt b929 0) z z)))), hL1328, hst⟩
}
}
 {
 replace hm := bif_f hc1010 hm
 refine wp_iff (cvb hc1010) ?_
 refine wp_seq (wrl (wv (.bool ((u8.wrap t908.1) == (5:Int))) z z z (wv (.bool ((u8.wrap t908.1) == (5:Int))) z z z (wl_nil (tn ?_)))))
 refine bsplit ((u8.wrap t908.1) == (5:Int)) (fun hc1206 => ?_) (fun hc1206 => ?_)
 {
 replace hm := bif_t hc1206 hm
 refine wp_ift (cvb hc1206) ?_
 refine wrl (wv (.func (.func 49) #[] #[Pt b897 0, Pt b929 0]) z z z ?_)
 obtain ⟨y1223, hq1224, hm⟩ := bind_some hm
 refine wl_call z z (x_callv call49 (caps := [Pt b897 0, Pt b929 0]) z (vs := []) z) ?_
 refine Calls.mono (show Calls prog 49 #[Pt b897 0, Pt b929 0] _ (fun e w' => ∃ (z1219 : octet_Reader) (z1220 : Int) (z1221 : Int), y1223 = (z1219, z1220, z1221) ∧ e = .returned (.tuple #[]) ∧ St w0 w' I [cells b885 [Zb, Zu, Zu, Zu, Zu, Zi, Zu, Zu, Zu, Zs, Zs, Zs, Zs, Zs, Zi, Zu, Zu, Zs, Zs, Zu, Zs, Zu, Zi, Zi, Zf, Zf, Zu, Zi, .bool false], at_octet_Reader (Pt b902 0) z1219, cells b897 [Pt b902 0], cells b929 [U1 (u8.wrap t908.1), U6 z1220, U6 z1221, Zu, Zu, Zi, Zu, Zu, Zu, Zs, Zs, Zs, Zs, Zs, Zi, Zu, Zu, Zs, Zs, Zu, Zs, Zu, Zi, Zi, Zf, Zf, Zu, Zi, .bool false]] R) from ?_) ?_
 {
 clear hm; have hm := hq1224
 refine calls_start (args := [Pt b897 0, Pt b929 0]) func49 z ntmps49 (Nat.le_of_ble_eq_true z) ?_
 refine wp_region_St hst 7 [0, 1, 2, 3, 4, 5, 6] [0, 1, 0, 7, 15, 31, 63] [] z (by kernel_rfl) (by kernel_rfl) Try.mixed (by kernel_rfl) ?_
 refine wsr (Pt b902 0) 0 z z z (by kernel_rfl) (fun w hst => x_load z isAgg62 (hst.bc2 z)) (wsr (Pt b902 0) 2 z z z (by kernel_rfl) (fun w hst => x_load z isAgg62 (hst.bc2 z)) ?_)
 refine ws_e1 1 (by kernel_rfl) ?_
 refine nxe [3, 4, 5, 6] (by kernel_rfl) z z ?_
 clear hst
 intro w hst
 replace hst := hst.pull1
 obtain ⟨t1207, ht1208, hm⟩ := bind_some hm
 refine wec call13 [Pt b902 0, I6 (8:Int)] z z ?_
 refine (octet_Reader_Num_ref hst.to1 ht1208).mono ?_
 rintro _ w1209 ⟨rfl, hst⟩
 refine ⟨_, z, ?_⟩
 replace hst := hst.of1
 refine ws_next (pend' := [(2, Pt b902 0)]) hst (by kernel_rfl) (pkr z z (fun w hst => x_load z isAgg62 (hst.bc2 z)) pk_nil) ?_
 refine ws_e1 3 (by kernel_rfl) ?_
 refine nxe [4, 5, 6] (by kernel_rfl) z z ?_
 clear hst
 intro w hst
 obtain ⟨t1212, ht1213, hm⟩ := bind_some hm
 refine wec call13 [Pt b902 0, I6 (8:Int)] z z ?_
 refine (octet_Reader_Num_ref hst.to1 ht1213).mono ?_
 rintro _ w1214 ⟨rfl, hst⟩
 refine ⟨_, z, ?_⟩
 replace hst := hst.of1
 refine ws_next (pend' := []) hst (by kernel_rfl) pk_nil ?_
 refine wsr (.agg #[U6 t1207.1, U6 t1212.1]) 4 z z z (by kernel_rfl) (fun w hst => by kernel_rfl) (wsr (Pt b929 1) 5 z z z (by kernel_rfl) (fun w hst => x_field z underlying48 z sizeOf32 z) ?_)
 refine ws_e1 6 (by kernel_rfl) ?_
 refine nxe [] (by kernel_rfl) z z ?_
 clear hst
 intro w hst
 replace hst := hst.pull1
 obtain ⟨w1217, hr1218, hst⟩ := hst.by_ [U1 (u8.wrap t908.1), U6 t1207.1, U6 t1212.1, Zu, Zu, Zi, Zu, Zu, Zu, Zs, Zs, Zs, Zs, Zs, Zi, Zu, Zu, Zs, Zs, Zu, Zs, Zu, Zi, Zi, Zf, Zf, Zu, Zi, .bool false] 1 (.agg #[U6 t1207.1, U6 t1212.1]) sizeOf32 z (oC z (oC z oN)) (by kernel_rfl)
 refine we_unit z (x_unit hr1218) ?_
 refine ws_next (pend' := []) hst (by kernel_rfl) pk_nil ?_
 refine ws_nil ?_
 intro w hst
 refine post_end (vs := []) results49 rvs_nil ?_
 replace hst := hst.pull2.pull2.pull3.keep4
 obtain rfl := some_inj hm
 exact ⟨t1212.2, t1207.1, t1212.1, z, z, hst⟩
}
 clear hst
 rintro _ w1225 ⟨z1219, z1220, z1221, rfl, rfl, hst⟩
 refine ⟨_, z, ?_⟩
 try dsimp only at hm
 refine wl_nil (blk_n (tn ?_))
 replace hst := hst.own_nil tyF64
 replace hst := hst.own_nil tyF2
 replace hst := hst.own_nil tyF64
 replace hst := hst.own_nil (tyInt .u8)
 replace hst := hst.own_nil ty_api_Write
 replace hst := hst.own_nil ty_api_Got
 replace hst := hst.own_nil (tySl ty_api_Pair)
 replace hst := hst.own_nil ty_api_Part
 replace hst := hst.pull1.pull2.pull3.pull4.pull5.pull6.pull7.pull11.pull10.pull11.pull11.keep12
 obtain rfl := some_inj hm
 exact ⟨_, z1219, ({ Kind := (u8.wrap t908.1), ID := ({ Session := z1220, Seq := z1221 } : api_ID), Epoch := (0:Int), Index := (0:Int), E := (0:Int), Hold := zero_api_Hold, Writes := [], R := zero_api_Reply, Shards := (0:Int), Parts := [], Rule := zero_api_Rule, On := false } : api_Command), Zs, Zs, Zs, Zs, Zs, Zs, Zs, Zs, _, hx1327, (fu 0 r0_0 z (fu 2 (Pt b885 0) z (fu 4 (Pt b897 0) z (fu 5 (Pt b929 0) z z)))), hL1328, hst⟩
}
 {
 replace hm := bif_f hc1206 hm
 refine wp_iff (cvb hc1206) ?_
 refine wp_seq (wrl (wv (.bool ((u8.wrap t908.1) == (6:Int))) z z z (wv (.bool ((u8.wrap t908.1) == (6:Int))) z z z (wl_nil (tn ?_)))))
 refine bsplit ((u8.wrap t908.1) == (6:Int)) (fun hc1226 => ?_) (fun hc1226 => ?_)
 {
 replace hm := bif_t hc1226 hm
 refine wp_ift (cvb hc1226) ?_
 refine wp_seq (wrl (wv (Pt b902 0) z z (x_load z isAgg62 (hst.bc2 z)) ?_))
 replace hst := hst.pull1
 obtain ⟨t1227, ht1228, hm⟩ := bind_some hm
 refine wc call51 [Pt b902 0] z z z ?_
 refine (command_readRule_ref hst.to1 ht1228).mono ?_
 rintro _ w1229 ⟨rfl, hst⟩
 refine ⟨_, z, ?_⟩
 replace hst := hst.of1
 refine wv (Pt b929 21) z z (x_field z underlying48 z sizeOf46 z) ?_
 replace hst := hst.pull1
 obtain ⟨w1232, hr1233, hst⟩ := hst.by_ [U1 (u8.wrap t908.1), Zu, Zu, Zu, Zu, Zi, Zu, Zu, Zu, Zs, Zs, Zs, Zs, Zs, Zi, Zu, Zu, Zs, Zs, Zu, Zs, U6 t1227.1.ID, I6 t1227.1.From, I6 t1227.1.To, F6 t1227.1.Lo, F6 t1227.1.Hi, U6 t1227.1.Authority, I6 t1227.1.Quota, .bool false] 21 (.agg #[U6 t1227.1.ID, I6 t1227.1.From, I6 t1227.1.To, F6 t1227.1.Lo, F6 t1227.1.Hi, U6 t1227.1.Authority, I6 t1227.1.Quota]) sizeOf46 z (oC z (oC z (oC z (oC z (oC z (oC z (oC z oN))))))) (by kernel_rfl)
 refine wl_unit z z (x_unit hr1233) ?_
 refine wl_nil (tn (wrl (wv (Pt b902 0) z z (x_load z isAgg62 (hst.bc2 z)) ?_)))
 replace hst := hst.pull1
 obtain ⟨t1234, ht1235, hm⟩ := bind_some hm
 refine wc call45 [Pt b902 0] z z z ?_
 refine (octet_Reader_Flag_ref hst.to1 ht1235).mono ?_
 rintro _ w1236 ⟨rfl, hst⟩
 refine ⟨_, z, ?_⟩
 replace hst := hst.of1
 refine wv (Pt b929 28) z z (x_field z underlying48 z sizeOf4 z) ?_
 replace hst := hst.pull1
 obtain ⟨w1239, hr1240, hst⟩ := hst.by_ [U1 (u8.wrap t908.1), Zu, Zu, Zu, Zu, Zi, Zu, Zu, Zu, Zs, Zs, Zs, Zs, Zs, Zi, Zu, Zu, Zs, Zs, Zu, Zs, U6 t1227.1.ID, I6 t1227.1.From, I6 t1227.1.To, F6 t1227.1.Lo, F6 t1227.1.Hi, U6 t1227.1.Authority, I6 t1227.1.Quota, .bool t1234.1] 28 (.bool t1234.1) sizeOf4 z (oC z oN) (by kernel_rfl)
 refine wl_unit z z (x_unit hr1240) ?_
 refine wl_nil (blk_n (tn ?_))
 replace hst := hst.own_nil tyF64
 replace hst := hst.own_nil tyF2
 replace hst := hst.own_nil tyF64
 replace hst := hst.own_nil (tyInt .u8)
 replace hst := hst.own_nil ty_api_Write
 replace hst := hst.own_nil ty_api_Got
 replace hst := hst.own_nil (tySl ty_api_Pair)
 replace hst := hst.own_nil ty_api_Part
 replace hst := hst.pull1.pull2.pull3.pull4.pull5.pull6.pull7.pull8.pull9.pull10.pull11.keep12
 obtain rfl := some_inj hm
 exact ⟨_, t1234.2, ({ Kind := (u8.wrap t908.1), ID := ({ Session := (0:Int), Seq := (0:Int) } : api_ID), Epoch := (0:Int), Index := (0:Int), E := (0:Int), Hold := zero_api_Hold, Writes := [], R := zero_api_Reply, Shards := (0:Int), Parts := [], Rule := t1227.1, On := t1234.1 } : api_Command), Zs, Zs, Zs, Zs, Zs, Zs, Zs, Zs, _, hx1327, (fu 0 r0_0 z (fu 2 (Pt b885 0) z (fu 4 (Pt b897 0) z (fu 5 (Pt b929 0) z z)))), hL1328, hst⟩
}
 {
 replace hm := bif_f hc1226 hm
 refine wp_iff (cvb hc1226) ?_
 refine wp_seq (wrl (wv (.bool ((u8.wrap t908.1) == (7:Int))) z z z (wv (.bool ((u8.wrap t908.1) == (7:Int))) z z z (wl_nil (tn ?_)))))
 refine bsplit ((u8.wrap t908.1) == (7:Int)) (fun hc1241 => ?_) (fun hc1241 => ?_)
 {
 replace hm := bif_t hc1241 hm
 refine wp_ift (cvb hc1241) ?_
 refine wp_seq (wrl (wv (.func (.func 49) #[] #[Pt b897 0, Pt b929 0]) z z z ?_))
 obtain ⟨y1258, hq1259, hm⟩ := bind_some hm
 refine wl_call z z (x_callv call49 (caps := [Pt b897 0, Pt b929 0]) z (vs := []) z) ?_
 refine Calls.mono (show Calls prog 49 #[Pt b897 0, Pt b929 0] _ (fun e w' => ∃ (z1254 : octet_Reader) (z1255 : Int) (z1256 : Int), y1258 = (z1254, z1255, z1256) ∧ e = .returned (.tuple #[]) ∧ St w0 w' I [cells b885 [Zb, Zu, Zu, Zu, Zu, Zi, Zu, Zu, Zu, Zs, Zs, Zs, Zs, Zs, Zi, Zu, Zu, Zs, Zs, Zu, Zs, Zu, Zi, Zi, Zf, Zf, Zu, Zi, .bool false], at_octet_Reader (Pt b902 0) z1254, cells b897 [Pt b902 0], cells b929 [U1 (u8.wrap t908.1), U6 z1255, U6 z1256, Zu, Zu, Zi, Zu, Zu, Zu, Zs, Zs, Zs, Zs, Zs, Zi, Zu, Zu, Zs, Zs, Zu, Zs, Zu, Zi, Zi, Zf, Zf, Zu, Zi, .bool false]] R) from ?_) ?_
 {
 clear hm; have hm := hq1259
 refine calls_start (args := [Pt b897 0, Pt b929 0]) func49 z ntmps49 (Nat.le_of_ble_eq_true z) ?_
 refine wp_region_St hst 7 [0, 1, 2, 3, 4, 5, 6] [0, 1, 0, 7, 15, 31, 63] [] z (by kernel_rfl) (by kernel_rfl) Try.mixed (by kernel_rfl) ?_
 refine wsr (Pt b902 0) 0 z z z (by kernel_rfl) (fun w hst => x_load z isAgg62 (hst.bc2 z)) (wsr (Pt b902 0) 2 z z z (by kernel_rfl) (fun w hst => x_load z isAgg62 (hst.bc2 z)) ?_)
 refine ws_e1 1 (by kernel_rfl) ?_
 refine nxe [3, 4, 5, 6] (by kernel_rfl) z z ?_
 clear hst
 intro w hst
 replace hst := hst.pull1
 obtain ⟨t1242, ht1243, hm⟩ := bind_some hm
 refine wec call13 [Pt b902 0, I6 (8:Int)] z z ?_
 refine (octet_Reader_Num_ref hst.to1 ht1243).mono ?_
 rintro _ w1244 ⟨rfl, hst⟩
 refine ⟨_, z, ?_⟩
 replace hst := hst.of1
 refine ws_next (pend' := [(2, Pt b902 0)]) hst (by kernel_rfl) (pkr z z (fun w hst => x_load z isAgg62 (hst.bc2 z)) pk_nil) ?_
 refine ws_e1 3 (by kernel_rfl) ?_
 refine nxe [4, 5, 6] (by kernel_rfl) z z ?_
 clear hst
 intro w hst
 obtain ⟨t1247, ht1248, hm⟩ := bind_some hm
 refine wec call13 [Pt b902 0, I6 (8:Int)] z z ?_
 refine (octet_Reader_Num_ref hst.to1 ht1248).mono ?_
 rintro _ w1249 ⟨rfl, hst⟩
 refine ⟨_, z, ?_⟩
 replace hst := hst.of1
 refine ws_next (pend' := []) hst (by kernel_rfl) pk_nil ?_
 refine wsr (.agg #[U6 t1242.1, U6 t1247.1]) 4 z z z (by kernel_rfl) (fun w hst => by kernel_rfl) (wsr (Pt b929 1) 5 z z z (by kernel_rfl) (fun w hst => x_field z underlying48 z sizeOf32 z) ?_)
 refine ws_e1 6 (by kernel_rfl) ?_
 refine nxe [] (by kernel_rfl) z z ?_
 clear hst
 intro w hst
 replace hst := hst.pull1
 obtain ⟨w1252, hr1253, hst⟩ := hst.by_ [U1 (u8.wrap t908.1), U6 t1242.1, U6 t1247.1, Zu, Zu, Zi, Zu, Zu, Zu, Zs, Zs, Zs, Zs, Zs, Zi, Zu, Zu, Zs, Zs, Zu, Zs, Zu, Zi, Zi, Zf, Zf, Zu, Zi, .bool false] 1 (.agg #[U6 t1242.1, U6 t1247.1]) sizeOf32 z (oC z (oC z oN)) (by kernel_rfl)
 refine we_unit z (x_unit hr1253) ?_
 refine ws_next (pend' := []) hst (by kernel_rfl) pk_nil ?_
 refine ws_nil ?_
 intro w hst
 refine post_end (vs := []) results49 rvs_nil ?_
 replace hst := hst.pull2.pull2.pull3.keep4
 obtain rfl := some_inj hm
 exact ⟨t1247.2, t1242.1, t1247.1, z, z, hst⟩
}
 clear hst
 rintro _ w1260 ⟨z1254, z1255, z1256, rfl, rfl, hst⟩
 refine ⟨_, z, ?_⟩
 try dsimp only at hm
 refine wl_nil (tn (wp_seq (wrl (wv (Pt b902 0) z z (x_load z isAgg62 (hst.bc2 z)) ?_))))
 replace hst := hst.pull1
 obtain ⟨t1261, ht1262, hm⟩ := bind_some hm
 refine wc call13 [Pt b902 0, I6 (8:Int)] z z z ?_
 refine (octet_Reader_Num_ref hst.to1 ht1262).mono ?_
 rintro _ w1263 ⟨rfl, hst⟩
 refine ⟨_, z, ?_⟩
 replace hst := hst.of1
 refine wv (Pt b929 3) z z (x_field z underlying48 z sizeOf25 z) ?_
 replace hst := hst.pull3
 obtain ⟨w1266, hr1267, hst⟩ := hst.by_ [U1 (u8.wrap t908.1), U6 z1255, U6 z1256, U6 t1261.1, Zu, Zi, Zu, Zu, Zu, Zs, Zs, Zs, Zs, Zs, Zi, Zu, Zu, Zs, Zs, Zu, Zs, Zu, Zi, Zi, Zf, Zf, Zu, Zi, .bool false] 3 (.int .u64 t1261.1) sizeOf25 z (oC z oN) (by kernel_rfl)
 refine wl_unit z z (x_unit hr1267) ?_
 refine wl_nil (tn (wp_seq (wrl (wv (Pt b902 0) z z (x_load z isAgg62 (hst.bc3 z)) ?_))))
 replace hst := hst.pull1
 obtain ⟨t1268, ht1269, hm⟩ := bind_some hm
 refine wc call51 [Pt b902 0] z z z ?_
 refine (command_readRule_ref hst.to1 ht1269).mono ?_
 rintro _ w1270 ⟨rfl, hst⟩
 refine ⟨_, z, ?_⟩
 replace hst := hst.of1
 refine wv (Pt b929 21) z z (x_field z underlying48 z sizeOf46 z) ?_
 replace hst := hst.pull1
 obtain ⟨w1273, hr1274, hst⟩ := hst.by_ [U1 (u8.wrap t908.1), U6 z1255, U6 z1256, U6 t1261.1, Zu, Zi, Zu, Zu, Zu, Zs, Zs, Zs, Zs, Zs, Zi, Zu, Zu, Zs, Zs, Zu, Zs, U6 t1268.1.ID, I6 t1268.1.From, I6 t1268.1.To, F6 t1268.1.Lo, F6 t1268.1.Hi, U6 t1268.1.Authority, I6 t1268.1.Quota, .bool false] 21 (.agg #[U6 t1268.1.ID, I6 t1268.1.From, I6 t1268.1.To, F6 t1268.1.Lo, F6 t1268.1.Hi, U6 t1268.1.Authority, I6 t1268.1.Quota]) sizeOf46 z (oC z (oC z (oC z (oC z (oC z (oC z (oC z oN))))))) (by kernel_rfl)
 refine wl_unit z z (x_unit hr1274) ?_
 refine wl_nil (tn (wp_seq (wrl (wv (Pt b902 0) z z (x_load z isAgg62 (hst.bc3 z)) ?_))))
 replace hst := hst.pull1
 obtain ⟨t1275, ht1276, hm⟩ := bind_some hm
 refine wc call50 [Pt b902 0] z z z ?_
 refine (command_readWrites_ref hst.to1 ht1276).mono ?_
 rintro _ w1277 ⟨I1278, v1280, rfl, hI1279, hst⟩
 refine ⟨_, z, ?_⟩
 replace hst := hst.of2
 replace f0_0 := f0_0.mono (ro_le hI1279)
 replace f905 := f905.mono (ro_le hI1279)
 replace hI0 := hI0.trans hI1279
 replace hL1328 := hL1328.trans hI1279
 refine wv (Pt b929 13) z z (x_field z underlying48 z sizeOf42 z) ?_
 replace hst := hst.pull2
 obtain ⟨w1282, hr1283, hst⟩ := hst.boxStore1 (P := prog) (t := 42) (cs' := [U1 (u8.wrap t908.1), U6 z1255, U6 z1256, U6 t1261.1, Zu, Zi, Zu, Zu, Zu, Zs, Zs, Zs, Zs, v1280, Zi, Zu, Zu, Zs, Zs, Zu, Zs, U6 t1268.1.ID, I6 t1268.1.From, I6 t1268.1.To, F6 t1268.1.Lo, F6 t1268.1.Hi, U6 t1268.1.Authority, I6 t1268.1.Quota, .bool false]) 13 v1280 (one_of_sliceV hst.sv1) sizeOf42 z z
 refine wl_unit z z (x_unit hr1283) ?_
 refine wl_nil (tn (wrl (wv (Pt b902 0) z z (x_load z isAgg62 (hst.bc4 z)) ?_)))
 replace hst := hst.pull2
 obtain ⟨t1284, ht1285, hm⟩ := bind_some hm
 refine wc call16 [Pt b902 0] z z z ?_
 refine (command_ReadReply_ref hst.to1 ht1285).mono ?_
 rintro _ w1286 ⟨I1287, v1289, v1291, rfl, hI1288, hst⟩
 refine ⟨_, z, ?_⟩
 replace hst := hst.of3
 replace f0_0 := f0_0.mono (ro_le hI1288)
 replace f905 := f905.mono (ro_le hI1288)
 replace hI0 := hI0.trans hI1288
 replace hL1328 := hL1328.trans hI1288
 refine wv (Pt b929 14) z z (x_field z underlying48 z sizeOf41 z) ?_
 replace hst := hst.pull3
 obtain ⟨w1293, hr1294, hst⟩ := hst.by_ [U1 (u8.wrap t908.1), U6 z1255, U6 z1256, U6 t1261.1, Zu, Zi, Zu, Zu, Zu, Zs, Zs, Zs, Zs, v1280, I6 t1284.1.E, U6 t1284.1.Epoch, U6 t1284.1.Index, v1289, v1291, Zu, Zs, U6 t1268.1.ID, I6 t1268.1.From, I6 t1268.1.To, F6 t1268.1.Lo, F6 t1268.1.Hi, U6 t1268.1.Authority, I6 t1268.1.Quota, .bool false] 14 (.agg #[I6 t1284.1.E, U6 t1284.1.Epoch, U6 t1284.1.Index, v1289, v1291]) sizeOf41 z (oC z (oC z (oC z (oC (one_of_sliceV hst.sv1) (oC (one_of_sliceV hst.sv2) oN))))) (by kernel_rfl)
 refine wl_unit z z (x_unit hr1294) ?_
 refine wl_nil (blk_n (tn ?_))
 replace hst := hst.own_nil tyF64
 replace hst := hst.own_nil tyF2
 replace hst := hst.own_nil tyF64
 replace hst := hst.own_nil (tyInt .u8)
 replace hst := hst.own_nil ty_api_Part
 replace hst := hst.pull7.pull7.pull9.pull4.pull5.pull6.pull7.pull8.pull9.pull11.pull11.keep12
 obtain rfl := some_inj hm
 exact ⟨_, t1284.2, ({ Kind := (u8.wrap t908.1), ID := ({ Session := z1255, Seq := z1256 } : api_ID), Epoch := t1261.1, Index := (0:Int), E := (0:Int), Hold := zero_api_Hold, Writes := t1275.1, R := t1284.1, Shards := (0:Int), Parts := [], Rule := t1268.1, On := false } : api_Command), Zs, Zs, Zs, Zs, v1280, v1289, v1291, Zs, _, hx1327, (fu 0 r0_0 z (fu 2 (Pt b885 0) z (fu 4 (Pt b897 0) z (fu 5 (Pt b929 0) z z)))), hL1328, hst⟩
}
 {
 replace hm := bif_f hc1241 hm
 refine wp_iff (cvb hc1241) ?_
 refine wp_seq (wrl (wv (.agg #[Zb, Zu, Zu, Zu, Zu, Zi, Zu, Zu, Zu, Zs, Zs, Zs, Zs, Zs, Zi, Zu, Zu, Zs, Zs, Zu, Zs, Zu, Zi, Zi, Zf, Zf, Zu, Zi, .bool false]) z z (by kernel_rfl) ?_))
 replace hst := hst.pull3
 obtain ⟨w1303, hr1304, hst⟩ := hst.bx [Zb, Zu, Zu, Zu, Zu, Zi, Zu, Zu, Zu, Zs, Zs, Zs, Zs, Zs, Zi, Zu, Zu, Zs, Zs, Zu, Zs, Zu, Zi, Zi, Zf, Zf, Zu, Zi, .bool false] sizeOf48 z (oC z (oC z (oC z (oC z (oC z (oC z (oC z (oC z (oC z (oC z (oC z (oC z (oC z (oC z (oC z (oC z (oC z (oC z (oC z (oC z (oC z (oC z (oC z (oC z (oC z (oC z (oC z (oC z (oC z oN))))))))))))))))))))))))))))) (by kernel_rfl)
 refine wl_unit z z (x_unit hr1304) ?_
 refine wv (.int .i64 (5:Int)) z z z (wl_nil (tn (wp_ret (blk_r (then_r ?_)))))
 replace hm := inr_up hm hx1327
 replace hst := hst.own_nil tyF64
 replace hst := hst.own_nil tyF2
 replace hst := hst.own_nil tyF64
 replace hst := hst.own_nil (tyInt .u8)
 replace hst := hst.own_nil ty_api_Write
 replace hst := hst.own_nil ty_api_Got
 replace hst := hst.own_nil (tySl ty_api_Pair)
 replace hst := hst.own_nil ty_api_Part
 obtain rfl := some_inj hm
 refine post_ret (vs := [.agg #[Zb, Zu, Zu, Zu, Zu, Zi, Zu, Zu, Zu, Zs, Zs, Zs, Zs, Zs, Zi, Zu, Zu, Zs, Zs, Zu, Zs, Zu, Zi, Zi, Zf, Zf, Zu, Zi, .bool false], I6 (5:Int)]) results17 (rvs_cons (rv_cell (cs := [Zb, Zu, Zu, Zu, Zu, Zi, Zu, Zu, Zu, Zs, Zs, Zs, Zs, Zs, Zi, Zu, Zu, Zs, Zs, Zu, Zs, Zu, Zi, Zi, Zf, Zf, Zu, Zi, .bool false]) z isAgg48 sizeOf48 (hst.bcs8 0 z)) (rvs_cons (rv_tmp z) rvs_nil)) ?_
 replace hst := hst.pull1.pull2.pull3.pull4.pull5.pull6.pull7
 exact ⟨_, Zs, Zs, Zs, Zs, Zs, Zs, Zs, Zs, z, hI0, hst.keep8⟩
}
}
}
}
}
}
}
}
 {
 clear hst
 rintro _ w1329 ⟨I1323, z1305, z1306, v1308, v1310, v1312, v1314, v1316, v1318, v1320, v1322, σ1324, hm, rfl, hL1325, hst⟩
 dsimp only [command_Decode_j0] at hm
 replace f0_0 := f0_0.mono (ro_le hL1325)
 replace f905 := f905.mono (ro_le hL1325)
 replace hI0 := hI0.trans hL1325
 refine wp_seq (wp_seq (wrl (wv (Pt b902 0) z z (x_load z isAgg62 (hst.bc1 z)) ?_)))
 replace hst := hst.pull2
 obtain ⟨t1330, ht1331, hm⟩ := bind_some hm
 refine wc call19 [Pt b902 0] z z z ?_
 refine (octet_Reader_End_ref hst.to1 ht1331).mono ?_
 rintro _ w1332 ⟨rfl, hst⟩
 refine ⟨_, z, ?_⟩
 replace hst := hst.of1
 refine wv (.bool (!t1330)) z z z (wv (.bool (!t1330)) z z z ?_)
 refine bsplit (!t1330) (fun hc1335 => ?_) (fun hc1335 => ?_)
 {
 replace hm := bif_t hc1335 hm
 refine wo hc1335 z z z z z z (wo hc1335 z z z z z z (wo hc1335 z z z z z z (wo hc1335 z z z z z z (wo hc1335 z z z z z z (wv (.bool true) z z (x_pick_t hc1335 z z) (wl_nil (tn ?_)))))))
 refine wp_ift z ?_
 refine wp_seq (wrl (wv (.agg #[Zb, Zu, Zu, Zu, Zu, Zi, Zu, Zu, Zu, Zs, Zs, Zs, Zs, Zs, Zi, Zu, Zu, Zs, Zs, Zu, Zs, Zu, Zi, Zi, Zf, Zf, Zu, Zi, .bool false]) z z (by kernel_rfl) ?_))
 replace hst := hst.pull1
 obtain ⟨w1344, hr1345, hst⟩ := hst.bx [Zb, Zu, Zu, Zu, Zu, Zi, Zu, Zu, Zu, Zs, Zs, Zs, Zs, Zs, Zi, Zu, Zu, Zs, Zs, Zu, Zs, Zu, Zi, Zi, Zf, Zf, Zu, Zi, .bool false] sizeOf48 z (oC z (oC z (oC z (oC z (oC z (oC z (oC z (oC z (oC z (oC z (oC z (oC z (oC z (oC z (oC z (oC z (oC z (oC z (oC z (oC z (oC z (oC z (oC z (oC z (oC z (oC z (oC z (oC z (oC z oN))))))))))))))))))))))))))))) (by kernel_rfl)
 refine wl_unit z z (x_unit hr1345) ?_
 refine wv (.int .i64 (5:Int)) z z z (wl_nil (tn (wp_ret (then_r ?_))))
 replace hst := hst.own_nil tyF64
 replace hst := hst.own_nil tyF2
 replace hst := hst.own_nil tyF64
 replace hst := hst.own_nil (tyInt .u8)
 replace hst := hst.own_nil ty_api_Write
 replace hst := hst.own_nil ty_api_Got
 replace hst := hst.own_nil (tySl ty_api_Pair)
 replace hst := hst.own_nil ty_api_Part
 obtain rfl := some_inj hm
 refine post_ret (vs := [.agg #[Zb, Zu, Zu, Zu, Zu, Zi, Zu, Zu, Zu, Zs, Zs, Zs, Zs, Zs, Zi, Zu, Zu, Zs, Zs, Zu, Zs, Zu, Zi, Zi, Zf, Zf, Zu, Zi, .bool false], I6 (5:Int)]) results17 (rvs_cons (rv_cell (cs := [Zb, Zu, Zu, Zu, Zu, Zi, Zu, Zu, Zu, Zs, Zs, Zs, Zs, Zs, Zi, Zu, Zu, Zs, Zs, Zu, Zs, Zu, Zi, Zi, Zf, Zf, Zu, Zi, .bool false]) z isAgg48 sizeOf48 (hst.bcs8 0 z)) (rvs_cons (rv_tmp z) rvs_nil)) ?_
 replace hst := hst.pull1.pull2.pull3.pull4.pull5.pull6.pull7
 exact ⟨_, Zs, Zs, Zs, Zs, Zs, Zs, Zs, Zs, z, hI0, hst.keep8⟩
}
 {
 replace hm := bif_f hc1335 hm
 refine wv (.agg #[U1 z1306.Kind, U6 z1306.ID.Session, U6 z1306.ID.Seq, U6 z1306.Epoch, U6 z1306.Index, I6 z1306.E, U6 z1306.Hold.ID.Session, U6 z1306.Hold.ID.Seq, U6 z1306.Hold.Epoch, v1308, v1310, v1312, v1314, v1316, I6 z1306.R.E, U6 z1306.R.Epoch, U6 z1306.R.Index, v1318, v1320, U6 z1306.Shards, v1322, U6 z1306.Rule.ID, I6 z1306.Rule.From, I6 z1306.Rule.To, F6 z1306.Rule.Lo, F6 z1306.Rule.Hi, U6 z1306.Rule.Authority, I6 z1306.Rule.Quota, .bool z1306.On]) ((wanted_eq z z z (cvb hc1335)).trans z) z (x_loadN (cs := [U1 z1306.Kind, U6 z1306.ID.Session, U6 z1306.ID.Seq, U6 z1306.Epoch, U6 z1306.Index, I6 z1306.E, U6 z1306.Hold.ID.Session, U6 z1306.Hold.ID.Seq, U6 z1306.Hold.Epoch, v1308, v1310, v1312, v1314, v1316, I6 z1306.R.E, U6 z1306.R.Epoch, U6 z1306.R.Index, v1318, v1320, U6 z1306.Shards, v1322, U6 z1306.Rule.ID, I6 z1306.Rule.From, I6 z1306.Rule.To, F6 z1306.Rule.Lo, F6 z1306.Rule.Hi, U6 z1306.Rule.Authority, I6 z1306.Rule.Quota, .bool z1306.On]) z isAgg48 sizeOf48 (hst.bcs3 0 z)) ?_
 replace hst := hst.pull4
 obtain ⟨css1346, hq1347, hst⟩ := hst.own_open
 replace hst := hst.pull5
 obtain ⟨css1348, hq1349, hst⟩ := hst.own_open
 replace hst := hst.pull6
 obtain ⟨css1350, hq1351, hst⟩ := hst.own_open
 replace hst := hst.pull7
 obtain ⟨css1352, hq1353, hst⟩ := hst.own_open
 replace hst := hst.pull8
 obtain ⟨css1354, hq1355, hst⟩ := hst.own_open
 replace hst := hst.pull9
 obtain ⟨css1356, hq1357, hst⟩ := hst.own_open
 replace hst := hst.pull10
 obtain ⟨css1358, hq1359, hst⟩ := hst.own_open
 replace hst := hst.pull11
 obtain ⟨css1360, hq1361, hst⟩ := hst.own_open
 obtain ⟨t1362, ht1363, hm⟩ := bind_some hm
 refine wl_call ((wanted_eq z z z (cvb hc1335)).trans z) z (x_call call26 z (vs := [.agg #[U1 z1306.Kind, U6 z1306.ID.Session, U6 z1306.ID.Seq, U6 z1306.Epoch, U6 z1306.Index, I6 z1306.E, U6 z1306.Hold.ID.Session, U6 z1306.Hold.ID.Seq, U6 z1306.Hold.Epoch, v1308, v1310, v1312, v1314, v1316, I6 z1306.R.E, U6 z1306.R.Epoch, U6 z1306.R.Index, v1318, v1320, U6 z1306.Shards, v1322, U6 z1306.Rule.ID, I6 z1306.Rule.From, I6 z1306.Rule.To, F6 z1306.Rule.Lo, F6 z1306.Rule.Hi, U6 z1306.Rule.Authority, I6 z1306.Rule.Quota, .bool z1306.On]]) z) ?_
 refine (command_Encode_ref (hst.rdrow7 hq1347) (hst.rdrow6 hq1349) (hst.rdrow5 hq1351) (hst.rdrow4 hq1353) (hst.rdrow3 hq1355) (hst.rdrow2 hq1357) (hst.rdrow1 hq1359) (hst.rdrow0 hq1361) hst.to0 ht1363).mono ?_
 rintro _ w1364 ⟨v1367, rfl, hst⟩
 refine ⟨_, z, ?_⟩
 replace hst := hst.of1.pull8.own_close hq1347
 replace hst := hst.pull8.own_close hq1349
 replace hst := hst.pull8.own_close hq1351
 replace hst := hst.pull8.own_close hq1353
 replace hst := hst.pull8.own_close hq1355
 replace hst := hst.pull8.own_close hq1357
 replace hst := hst.pull8.own_close hq1359
 replace hst := hst.pull8.own_close hq1361
 refine wv (r0_0) ((wanted_eq z z z (cvb hc1335)).trans z) z z ?_
 replace hst := hst.pull8
 obtain ⟨css1369, hq1370, hst⟩ := hst.own_open
 obtain ⟨t1371, ht1372, hm⟩ := bind_some hm
 refine wl_call ((wanted_eq z z z (cvb hc1335)).trans z) z (x_call call20 z (vs := [v1367, r0_0]) z) ?_
 refine (slices_Equal_byte_byte_ref (hst.rdrow0 hq1370) (f0_0.mono ro_rd) hst.to0 ht1372).mono ?_
 rintro _ w1373 ⟨rfl, hst⟩
 refine ⟨_, z, ?_⟩
 replace hst := hst.of0.own_close hq1370
 refine wv (.bool (!t1371)) ((wanted_eq z z z (cvb hc1335)).trans z) z z (wv (.bool (!t1371)) z z (x_pick_f hc1335 z z) (wl_nil (tn ?_)))
 refine bsplit (!t1371) (fun hc1376 => ?_) (fun hc1376 => ?_)
 {
 replace hm := bif_t hc1376 hm
 refine wp_ift (cvb hc1376) ?_
 refine wp_seq (wrl (wv (.agg #[Zb, Zu, Zu, Zu, Zu, Zi, Zu, Zu, Zu, Zs, Zs, Zs, Zs, Zs, Zi, Zu, Zu, Zs, Zs, Zu, Zs, Zu, Zi, Zi, Zf, Zf, Zu, Zi, .bool false]) z z (by kernel_rfl) ?_))
 replace hst := hst.pull10
 obtain ⟨w1385, hr1386, hst⟩ := hst.bx [Zb, Zu, Zu, Zu, Zu, Zi, Zu, Zu, Zu, Zs, Zs, Zs, Zs, Zs, Zi, Zu, Zu, Zs, Zs, Zu, Zs, Zu, Zi, Zi, Zf, Zf, Zu, Zi, .bool false] sizeOf48 z (oC z (oC z (oC z (oC z (oC z (oC z (oC z (oC z (oC z (oC z (oC z (oC z (oC z (oC z (oC z (oC z (oC z (oC z (oC z (oC z (oC z (oC z (oC z (oC z (oC z (oC z (oC z (oC z (oC z oN))))))))))))))))))))))))))))) (by kernel_rfl)
 refine wl_unit z z (x_unit hr1386) ?_
 refine wv (.int .i64 (5:Int)) z z z (wl_nil (tn (wp_ret (then_r ?_))))
 replace hst := hst.own_nil tyF64
 replace hst := hst.own_nil tyF2
 replace hst := hst.own_nil tyF64
 replace hst := hst.own_nil (tyInt .u8)
 replace hst := hst.own_nil ty_api_Write
 replace hst := hst.own_nil ty_api_Got
 replace hst := hst.own_nil (tySl ty_api_Pair)
 replace hst := hst.own_nil ty_api_Part
 obtain rfl := some_inj hm
 refine post_ret (vs := [.agg #[Zb, Zu, Zu, Zu, Zu, Zi, Zu, Zu, Zu, Zs, Zs, Zs, Zs, Zs, Zi, Zu, Zu, Zs, Zs, Zu, Zs, Zu, Zi, Zi, Zf, Zf, Zu, Zi, .bool false], I6 (5:Int)]) results17 (rvs_cons (rv_cell (cs := [Zb, Zu, Zu, Zu, Zu, Zi, Zu, Zu, Zu, Zs, Zs, Zs, Zs, Zs, Zi, Zu, Zu, Zs, Zs, Zu, Zs, Zu, Zi, Zi, Zf, Zf, Zu, Zi, .bool false]) z isAgg48 sizeOf48 (hst.bcs8 0 z)) (rvs_cons (rv_tmp z) rvs_nil)) ?_
 replace hst := hst.pull1.pull2.pull3.pull4.pull5.pull6.pull7
 exact ⟨_, Zs, Zs, Zs, Zs, Zs, Zs, Zs, Zs, z, hI0, hst.keep8⟩
}
 {
 replace hm := bif_f hc1376 hm
 refine wp_iff (cvb hc1376) ?_
 refine wp_skip (tn (wp_seq (wrl ?_)))
 refine wv (.agg #[U1 z1306.Kind, U6 z1306.ID.Session, U6 z1306.ID.Seq, U6 z1306.Epoch, U6 z1306.Index, I6 z1306.E, U6 z1306.Hold.ID.Session, U6 z1306.Hold.ID.Seq, U6 z1306.Hold.Epoch, v1308, v1310, v1312, v1314, v1316, I6 z1306.R.E, U6 z1306.R.Epoch, U6 z1306.R.Index, v1318, v1320, U6 z1306.Shards, v1322, U6 z1306.Rule.ID, I6 z1306.Rule.From, I6 z1306.Rule.To, F6 z1306.Rule.Lo, F6 z1306.Rule.Hi, U6 z1306.Rule.Authority, I6 z1306.Rule.Quota, .bool z1306.On]) z z (x_loadN (cs := [U1 z1306.Kind, U6 z1306.ID.Session, U6 z1306.ID.Seq, U6 z1306.Epoch, U6 z1306.Index, I6 z1306.E, U6 z1306.Hold.ID.Session, U6 z1306.Hold.ID.Seq, U6 z1306.Hold.Epoch, v1308, v1310, v1312, v1314, v1316, I6 z1306.R.E, U6 z1306.R.Epoch, U6 z1306.R.Index, v1318, v1320, U6 z1306.Shards, v1322, U6 z1306.Rule.ID, I6 z1306.Rule.From, I6 z1306.Rule.To, F6 z1306.Rule.Lo, F6 z1306.Rule.Hi, U6 z1306.Rule.Authority, I6 z1306.Rule.Quota, .bool z1306.On]) z isAgg48 sizeOf48 (hst.bcs12 0 z)) ?_
 replace hst := hst.pull10
 obtain ⟨w1387, hr1388, hst⟩ := hst.bx [U1 z1306.Kind, U6 z1306.ID.Session, U6 z1306.ID.Seq, U6 z1306.Epoch, U6 z1306.Index, I6 z1306.E, U6 z1306.Hold.ID.Session, U6 z1306.Hold.ID.Seq, U6 z1306.Hold.Epoch, v1308, v1310, v1312, v1314, v1316, I6 z1306.R.E, U6 z1306.R.Epoch, U6 z1306.R.Index, v1318, v1320, U6 z1306.Shards, v1322, U6 z1306.Rule.ID, I6 z1306.Rule.From, I6 z1306.Rule.To, F6 z1306.Rule.Lo, F6 z1306.Rule.Hi, U6 z1306.Rule.Authority, I6 z1306.Rule.Quota, .bool z1306.On] sizeOf48 z (oC z (oC z (oC z (oC z (oC z (oC z (oC z (oC z (oC z (oC (one_of_sliceV hst.sv9) (oC (one_of_sliceV hst.sv8) (oC (one_of_sliceV hst.sv7) (oC (one_of_sliceV hst.sv6) (oC (one_of_sliceV hst.sv5) (oC z (oC z (oC z (oC (one_of_sliceV hst.sv4) (oC (one_of_sliceV hst.sv3) (oC z (oC (one_of_sliceV hst.sv2) (oC z (oC z (oC z (oC z (oC z (oC z (oC z (oC z oN))))))))))))))))))))))))))))) (by kernel_rfl)
 refine wl_unit z z (x_unit hr1388) ?_
 refine wv (.int .i64 (0:Int)) z z z (wl_nil (tn (wp_ret ?_)))
 obtain rfl := some_inj hm
 refine post_ret (vs := [.agg #[U1 z1306.Kind, U6 z1306.ID.Session, U6 z1306.ID.Seq, U6 z1306.Epoch, U6 z1306.Index, I6 z1306.E, U6 z1306.Hold.ID.Session, U6 z1306.Hold.ID.Seq, U6 z1306.Hold.Epoch, v1308, v1310, v1312, v1314, v1316, I6 z1306.R.E, U6 z1306.R.Epoch, U6 z1306.R.Index, v1318, v1320, U6 z1306.Shards, v1322, U6 z1306.Rule.ID, I6 z1306.Rule.From, I6 z1306.Rule.To, F6 z1306.Rule.Lo, F6 z1306.Rule.Hi, U6 z1306.Rule.Authority, I6 z1306.Rule.Quota, .bool z1306.On], Zi]) results17 (rvs_cons (rv_cell (cs := [U1 z1306.Kind, U6 z1306.ID.Session, U6 z1306.ID.Seq, U6 z1306.Epoch, U6 z1306.Index, I6 z1306.E, U6 z1306.Hold.ID.Session, U6 z1306.Hold.ID.Seq, U6 z1306.Hold.Epoch, v1308, v1310, v1312, v1314, v1316, I6 z1306.R.E, U6 z1306.R.Epoch, U6 z1306.R.Index, v1318, v1320, U6 z1306.Shards, v1322, U6 z1306.Rule.ID, I6 z1306.Rule.From, I6 z1306.Rule.To, F6 z1306.Rule.Lo, F6 z1306.Rule.Hi, U6 z1306.Rule.Authority, I6 z1306.Rule.Quota, .bool z1306.On]) z isAgg48 sizeOf48 (hst.bcs0 0 z)) (rvs_cons (rv_tmp z) rvs_nil)) ?_
 replace hst := hst.pull2.pull3.pull4.pull5.pull6.pull7.pull8.pull9
 exact ⟨_, v1308, v1310, v1312, v1314, v1316, v1318, v1320, v1322, z, hI0, hst.keep8⟩
}
}
}
}

end Go.Proofs.Ytldfdainhdiffaa
