/- The Go functions refine their models, part 4. -/
import Derived.Test.YtldfdainhdiffaaMailApartR3
set_option linter.unusedVariables false
set_option linter.unusedSimpArgs false
set_option maxRecDepth 100000
set_option maxHeartbeats 4000000
namespace Go.Proofs.Ytldfdainhdiffaa
open Go Go.V
open _root_.Go.Proofs.Try IntKind
attribute [local irreducible] wpList Code.wp wpQuiet Calls bodyPost Oper.wp wpS Nx PendOK YieldsIn
theorem mail_Decode_ref {w0 w : World} {I : HL} {R : SP} {a0 : (List Int)} {r0_0 : Value} (f0_0 : Ro (tyInt .u8) I r0_0 a0) (hst : St w0 w I [] R) {r : (api_Mail × Int)} (hm : mail_Decode a0 = some r) :
  Calls prog 7 #[r0_0] w fun e w' => ∃ (I' : HL) (q0_0 : Value) (q0_1 : Value) (q0_2 : Value) (q0_3 : Value) (q0_4 : Value) (q0_5 : Value) (q0_6 : Value) (q0_7 : Value) (q0_8 : Value) (q0_9 : Value) (q0_10 : Value) (q0_11 : Value) (q0_12 : Value) (q0_13 : Value) (q0_14 : Value) (q0_15 : Value), e = .returned (.tuple #[.agg #[U1 r.1.Kind, U1 r.1.M.Kind, I6 r.1.M.From, I6 r.1.M.To, U6 r.1.M.Term, U6 r.1.M.Index, U6 r.1.M.LogTerm, U6 r.1.M.Commit, .bool r.1.M.OK, q0_0, U6 r.1.M.S.Index, U6 r.1.M.S.Term, U6 r.1.M.S.Voters, q0_1, U6 r.1.H.ID.Session, U6 r.1.H.ID.Seq, U6 r.1.H.Epoch, q0_2, q0_3, q0_4, q0_5, U6 r.1.ID.Session, U6 r.1.ID.Seq, I6 r.1.R.E, U6 r.1.R.Epoch, U6 r.1.R.Index, q0_6, q0_7, U1 r.1.C.Kind, U6 r.1.C.ID.Session, U6 r.1.C.ID.Seq, U6 r.1.C.Epoch, U6 r.1.C.Index, I6 r.1.C.E, U6 r.1.C.Hold.ID.Session, U6 r.1.C.Hold.ID.Seq, U6 r.1.C.Hold.Epoch, q0_8, q0_9, q0_10, q0_11, q0_12, I6 r.1.C.R.E, U6 r.1.C.R.Epoch, U6 r.1.C.R.Index, q0_13, q0_14, U6 r.1.C.Shards, q0_15, U6 r.1.C.Rule.ID, I6 r.1.C.Rule.From, I6 r.1.C.Rule.To, F6 r.1.C.Rule.Lo, F6 r.1.C.Rule.Hi, U6 r.1.C.Rule.Authority, I6 r.1.C.Rule.Quota, .bool r.1.C.On], I6 r.2]) ∧ I.le I' ∧ St w0 w' I' [ownS ty_api_Entry q0_0 r.1.M.Entries, ownS (tyInt .u8) q0_1 r.1.M.S.Data, ownS tyF64 q0_2 r.1.H.Gets, ownS tyF2 q0_3 r.1.H.Scans, ownS tyF64 q0_4 r.1.H.Puts, ownS (tyInt .u8) q0_5 r.1.H.Data, ownS ty_api_Got q0_6 r.1.R.Gots, ownS (tySl ty_api_Pair) q0_7 r.1.R.Scans, ownS tyF64 q0_8 r.1.C.Hold.Gets, ownS tyF2 q0_9 r.1.C.Hold.Scans, ownS tyF64 q0_10 r.1.C.Hold.Puts, ownS (tyInt .u8) q0_11 r.1.C.Hold.Data, ownS ty_api_Write q0_12 r.1.C.Writes, ownS ty_api_Got q0_13 r.1.C.R.Gots, ownS (tySl ty_api_Pair) q0_14 r.1.C.R.Scans, ownS ty_api_Part q0_15 r.1.C.Parts] R := by {
 unfold mail_Decode at hm
 refine calls_start (args := [r0_0]) func7 z ntmps7 (Nat.le_of_ble_eq_true z) ?_
 have hI0 := HL.le.refl I
 refine wp_seq (wrl ?_)
 obtain ⟨b622, w623, ew624, eb625, hst⟩ := hst.box [Zb, Zb, Zi, Zi, Zu, Zu, Zu, Zu, .bool false, Zs, Zu, Zu, Zu, Zs, Zu, Zu, Zu, Zs, Zs, Zs, Zs, Zu, Zu, Zi, Zu, Zu, Zs, Zs, Zb, Zu, Zu, Zu, Zu, Zi, Zu, Zu, Zu, Zs, Zs, Zs, Zs, Zs, Zi, Zu, Zu, Zs, Zs, Zu, Zs, Zu, Zi, Zi, Zf, Zf, Zu, Zi, .bool false] 50
 refine wl_run (v := Pt b622 0) (w' := w623) z z (x_al (by kernel_rfl) ew624 eb625) ?_
 refine wv (.int .i64 (0:Int)) z z z (wl_nil (tn (wp_seq (wrl (wv (r0_0) z z z ?_)))))
 obtain ⟨t627, ht628, hm⟩ := bind_some hm
 refine wc call12 [r0_0] z z z ?_
 refine (octet_Read_ref f0_0 hst.to0 ht628).mono ?_
 rintro _ w629 ⟨v632, rfl, hst⟩
 refine ⟨_, z, ?_⟩
 replace hst := hst.of1
 refine wv (v632) z z z (wl_nil (tn (wp_seq (wrl (wv (v632) z z z ?_)))))
 obtain ⟨t634, ht635, hm⟩ := bind_some hm
 refine wc call13 [v632, I6 (1:Int)] z z z ?_
 refine (octet_Reader_Num_ref hst.to1 ht635).mono ?_
 rintro _ w636 ⟨rfl, hst⟩
 refine ⟨_, z, ?_⟩
 replace hst := hst.of1
 refine wv (.int .u8 (u8.wrap t634.1)) z z (by kernel_rfl) (wv (.agg #[U1 (u8.wrap t634.1), Zb, Zi, Zi, Zu, Zu, Zu, Zu, .bool false, Zs, Zu, Zu, Zu, Zs, Zu, Zu, Zu, Zs, Zs, Zs, Zs, Zu, Zu, Zi, Zu, Zu, Zs, Zs, Zb, Zu, Zu, Zu, Zu, Zi, Zu, Zu, Zu, Zs, Zs, Zs, Zs, Zs, Zi, Zu, Zu, Zs, Zs, Zu, Zs, Zu, Zi, Zi, Zf, Zf, Zu, Zi, .bool false]) z z (by kernel_rfl) ?_)
 obtain ⟨b671, w672, ew673, eb674, hst⟩ := hst.box [Zb, Zb, Zi, Zi, Zu, Zu, Zu, Zu, .bool false, Zs, Zu, Zu, Zu, Zs, Zu, Zu, Zu, Zs, Zs, Zs, Zs, Zu, Zu, Zi, Zu, Zu, Zs, Zs, Zb, Zu, Zu, Zu, Zu, Zi, Zu, Zu, Zu, Zs, Zs, Zs, Zs, Zs, Zi, Zu, Zu, Zs, Zs, Zu, Zs, Zu, Zi, Zi, Zf, Zf, Zu, Zi, .bool false] 50
 refine wl_run (v := Pt b671 0) (w' := w672) z z (x_al (by kernel_rfl) ew673 eb674) ?_
 obtain ⟨w676, hr677, hst⟩ := hst.bx [U1 (u8.wrap t634.1), Zb, Zi, Zi, Zu, Zu, Zu, Zu, .bool false, Zs, Zu, Zu, Zu, Zs, Zu, Zu, Zu, Zs, Zs, Zs, Zs, Zu, Zu, Zi, Zu, Zu, Zs, Zs, Zb, Zu, Zu, Zu, Zu, Zi, Zu, Zu, Zu, Zs, Zs, Zs, Zs, Zs, Zi, Zu, Zu, Zs, Zs, Zu, Zs, Zu, Zi, Zi, Zf, Zf, Zu, Zi, .bool false] sizeOf50 z (oC z (oC z (oC z (oC z (oC z (oC z (oC z (oC z (oC z (oC z (oC z (oC z (oC z (oC z (oC z (oC z (oC z (oC z (oC z (oC z (oC z (oC z (oC z (oC z (oC z (oC z (oC z (oC z (oC z (oC z (oC z (oC z (oC z (oC z (oC z (oC z (oC z (oC z (oC z (oC z (oC z (oC z (oC z (oC z (oC z (oC z (oC z (oC z (oC z (oC z (oC z (oC z (oC z (oC z (oC z (oC z (oC z oN))))))))))))))))))))))))))))))))))))))))))))))))))))))))) (by kernel_rfl)
 refine wl_unit z z (x_unit hr677) ?_
 refine wl_nil (tn ?_)
 obtain ⟨y895, hm, hx896⟩ := joinO_some hm
 refine wp_cut (fun a w => ∃ (I892 : HL) (z858 : octet_Reader) (z859 : api_Mail) (v861 : Value) (v863 : Value) (v865 : Value) (v867 : Value) (v869 : Value) (v871 : Value) (v873 : Value) (v875 : Value) (v877 : Value) (v879 : Value) (v881 : Value) (v883 : Value) (v885 : Value) (v887 : Value) (v889 : Value) (v891 : Value) (σ893 : Nat → Value), (mail_Decode_j0 a0) (z858, z859) = some r ∧ a = Fr 74 (upd (upd (upd (upd σ893 0 (r0_0)) 2 (Pt b622 0)) 4 (v632)) 5 (Pt b671 0)) ∧ I.le I892 ∧ St w0 w I892 [cells b622 [Zb, Zb, Zi, Zi, Zu, Zu, Zu, Zu, .bool false, Zs, Zu, Zu, Zu, Zs, Zu, Zu, Zu, Zs, Zs, Zs, Zs, Zu, Zu, Zi, Zu, Zu, Zs, Zs, Zb, Zu, Zu, Zu, Zu, Zi, Zu, Zu, Zu, Zs, Zs, Zs, Zs, Zs, Zi, Zu, Zu, Zs, Zs, Zu, Zs, Zu, Zi, Zi, Zf, Zf, Zu, Zi, .bool false], at_octet_Reader v632 z858, cells b671 [U1 z859.Kind, U1 z859.M.Kind, I6 z859.M.From, I6 z859.M.To, U6 z859.M.Term, U6 z859.M.Index, U6 z859.M.LogTerm, U6 z859.M.Commit, .bool z859.M.OK, v861, U6 z859.M.S.Index, U6 z859.M.S.Term, U6 z859.M.S.Voters, v863, U6 z859.H.ID.Session, U6 z859.H.ID.Seq, U6 z859.H.Epoch, v865, v867, v869, v871, U6 z859.ID.Session, U6 z859.ID.Seq, I6 z859.R.E, U6 z859.R.Epoch, U6 z859.R.Index, v873, v875, U1 z859.C.Kind, U6 z859.C.ID.Session, U6 z859.C.ID.Seq, U6 z859.C.Epoch, U6 z859.C.Index, I6 z859.C.E, U6 z859.C.Hold.ID.Session, U6 z859.C.Hold.ID.Seq, U6 z859.C.Hold.Epoch, v877, v879, v881, v883, v885, I6 z859.C.R.E, U6 z859.C.R.Epoch, U6 z859.C.R.Index, v887, v889, U6 z859.C.Shards, v891, U6 z859.C.Rule.ID, I6 z859.C.Rule.From, I6 z859.C.Rule.To, F6 z859.C.Rule.Lo, F6 z859.C.Rule.Hi, U6 z859.C.Rule.Authority, I6 z859.C.Rule.Quota, .bool z859.C.On], ownS ty_api_Entry v861 z859.M.Entries, ownS (tyInt .u8) v863 z859.M.S.Data, ownS tyF64 v865 z859.H.Gets, ownS tyF2 v867 z859.H.Scans, ownS tyF64 v869 z859.H.Puts, ownS (tyInt .u8) v871 z859.H.Data, ownS ty_api_Got v873 z859.R.Gots, ownS (tySl ty_api_Pair) v875 z859.R.Scans, ownS tyF64 v877 z859.C.Hold.Gets, ownS tyF2 v879 z859.C.Hold.Scans, ownS tyF64 v881 z859.C.Hold.Puts, ownS (tyInt .u8) v883 z859.C.Hold.Data, ownS ty_api_Write v885 z859.C.Writes, ownS ty_api_Got v887 z859.C.R.Gots, ownS (tySl ty_api_Pair) v889 z859.C.R.Scans, ownS ty_api_Part v891 z859.C.Parts] R) ?_ ?_
 {
 have hL897 := HL.le.refl I
 refine wp_seq (wrl (wv (Pt b671 0) z z (x_field z underlying50 z sizeOf5 z) (wv (.int .u8 (u8.wrap t634.1)) z z (x_load z isAgg5 (hst.bc0 z)) (wl_nil (tn (wp_block (wp_seq (wrl (wv (.bool ((u8.wrap t634.1) == (1:Int))) z z z (wv (.bool ((u8.wrap t634.1) == (1:Int))) z z z (wl_nil (tn ?_))))))))))))
 refine bsplit ((u8.wrap t634.1) == (1:Int)) (fun hc678 => ?_) (fun hc678 => ?_)
 {
 replace hm := bif_t hc678 hm
 refine wp_ift (cvb hc678) ?_
 refine wrl (wv (v632) z z z ?_)
 replace hst := hst.pull1
 obtain ⟨t679, ht680, hm⟩ := bind_some hm
 refine wc call14 [v632] z z z ?_
 refine (mail_readMessage_ref hst.to1 ht680).mono ?_
 rintro _ w681 ⟨I682, v684, v686, rfl, hI683, hst⟩
 refine ⟨_, z, ?_⟩
 replace hst := hst.of3
 replace f0_0 := f0_0.mono (ro_le hI683)
 replace hI0 := hI0.trans hI683
 replace hL897 := hL897.trans hI683
 refine wv (Pt b671 1) z z (x_field z underlying50 z sizeOf30 z) ?_
 replace hst := hst.pull3
 obtain ⟨w688, hr689, hst⟩ := hst.by_ [U1 (u8.wrap t634.1), U1 t679.1.Kind, I6 t679.1.From, I6 t679.1.To, U6 t679.1.Term, U6 t679.1.Index, U6 t679.1.LogTerm, U6 t679.1.Commit, .bool t679.1.OK, v684, U6 t679.1.S.Index, U6 t679.1.S.Term, U6 t679.1.S.Voters, v686, Zu, Zu, Zu, Zs, Zs, Zs, Zs, Zu, Zu, Zi, Zu, Zu, Zs, Zs, Zb, Zu, Zu, Zu, Zu, Zi, Zu, Zu, Zu, Zs, Zs, Zs, Zs, Zs, Zi, Zu, Zu, Zs, Zs, Zu, Zs, Zu, Zi, Zi, Zf, Zf, Zu, Zi, .bool false] 1 (.agg #[U1 t679.1.Kind, I6 t679.1.From, I6 t679.1.To, U6 t679.1.Term, U6 t679.1.Index, U6 t679.1.LogTerm, U6 t679.1.Commit, .bool t679.1.OK, v684, U6 t679.1.S.Index, U6 t679.1.S.Term, U6 t679.1.S.Voters, v686]) sizeOf30 z (oC z (oC z (oC z (oC z (oC z (oC z (oC z (oC z (oC (one_of_sliceV hst.sv1) (oC z (oC z (oC z (oC (one_of_sliceV hst.sv2) oN))))))))))))) (by kernel_rfl)
 refine wl_unit z z (x_unit hr689) ?_
 refine wl_nil (blk_n (tn ?_))
 replace hst := hst.own_nil tyF64
 replace hst := hst.own_nil tyF2
 replace hst := hst.own_nil tyF64
 replace hst := hst.own_nil (tyInt .u8)
 replace hst := hst.own_nil ty_api_Got
 replace hst := hst.own_nil (tySl ty_api_Pair)
 replace hst := hst.own_nil tyF64
 replace hst := hst.own_nil tyF2
 replace hst := hst.own_nil tyF64
 replace hst := hst.own_nil (tyInt .u8)
 replace hst := hst.own_nil ty_api_Write
 replace hst := hst.own_nil ty_api_Got
 replace hst := hst.own_nil (tySl ty_api_Pair)
 replace hst := hst.own_nil ty_api_Part
 replace hst := hst.pull1.pull2.pull3.pull4.pull5.pull6.pull7.pull8.pull9.pull10.pull11.pull12.pull13.pull16.pull16.pull16.pull17.pull18.keep19
 obtain rfl := some_inj hm
 exact ⟨_, t679.2, ({ Kind := (u8.wrap t634.1), M := t679.1, H := zero_api_Hold, ID := ({ Session := (0:Int), Seq := (0:Int) } : api_ID), R := zero_api_Reply, C := zero_api_Command } : api_Mail), v684, v686, Zs, Zs, Zs, Zs, Zs, Zs, Zs, Zs, Zs, Zs, Zs, Zs, Zs, Zs, _, hx896, (fu 0 r0_0 z (fu 2 (Pt b622 0) z (fu 4 v632 z (fu 5 (Pt b671 0) z z)))), hL897, hst⟩
}
 {
 replace hm := bif_f hc678 hm
 refine wp_iff (cvb hc678) ?_
 obtain ⟨y694, hm, hx695⟩ := bind_some hm
 refine wp_cut (fun a w => ∃ (z691 : Bool) (σ692 : Nat → Value), (mail_Decode_j1 t634) z691 = some y895 ∧ a = Fr 74 (upd (upd (upd (upd (upd (upd σ692 0 (r0_0)) 2 (Pt b622 0)) 4 (v632)) 5 (Pt b671 0)) 15 (.int .u8 (u8.wrap t634.1))) 22 (.bool z691)) ∧ St w0 w I [cells b622 [Zb, Zb, Zi, Zi, Zu, Zu, Zu, Zu, .bool false, Zs, Zu, Zu, Zu, Zs, Zu, Zu, Zu, Zs, Zs, Zs, Zs, Zu, Zu, Zi, Zu, Zu, Zs, Zs, Zb, Zu, Zu, Zu, Zu, Zi, Zu, Zu, Zu, Zs, Zs, Zs, Zs, Zs, Zi, Zu, Zu, Zs, Zs, Zu, Zs, Zu, Zi, Zi, Zf, Zf, Zu, Zi, .bool false], at_octet_Reader v632 t634.2, cells b671 [U1 (u8.wrap t634.1), Zb, Zi, Zi, Zu, Zu, Zu, Zu, .bool false, Zs, Zu, Zu, Zu, Zs, Zu, Zu, Zu, Zs, Zs, Zs, Zs, Zu, Zu, Zi, Zu, Zu, Zs, Zs, Zb, Zu, Zu, Zu, Zu, Zi, Zu, Zu, Zu, Zs, Zs, Zs, Zs, Zs, Zi, Zu, Zu, Zs, Zs, Zu, Zs, Zu, Zi, Zi, Zf, Zf, Zu, Zi, .bool false]] R) ?_ ?_
 {
 refine wp_seq (wrl (wv (.bool ((u8.wrap t634.1) == (2:Int))) z z z (wv (.bool ((u8.wrap t634.1) == (2:Int))) z z z (wl_nil (tn ?_)))))
 refine bsplit ((u8.wrap t634.1) == (2:Int)) (fun hc690 => ?_) (fun hc690 => ?_)
 {
 replace hm := bif_t hc690 hm
 refine wp_ift (cvb hc690) ?_
 refine wp_skip (tn ?_)
 replace hst := hst.pull1.pull2.keep3
 obtain rfl := some_inj hm
 exact ⟨((u8.wrap t634.1) == (2:Int)), _, hx695, (fu 0 r0_0 z (fu 2 (Pt b622 0) z (fu 4 v632 z (fu 5 (Pt b671 0) z (fu 15 (.int .u8 (u8.wrap t634.1)) z (fu 22 (.bool ((u8.wrap t634.1) == (2:Int))) z z)))))), hst⟩
}
 {
 replace hm := bif_f hc690 hm
 refine wp_iff (cvb hc690) ?_
 refine wrl (wv (.bool ((u8.wrap t634.1) == (6:Int))) z z z (wv (.bool ((u8.wrap t634.1) == (6:Int))) z z z (wl_nil (tn ?_))))
 replace hst := hst.pull1.pull2.keep3
 obtain rfl := some_inj hm
 exact ⟨((u8.wrap t634.1) == (6:Int)), _, hx695, (fu 0 r0_0 z (fu 2 (Pt b622 0) z (fu 4 v632 z (fu 5 (Pt b671 0) z (fu 15 (.int .u8 (u8.wrap t634.1)) z (fu 22 (.bool ((u8.wrap t634.1) == (6:Int))) z z)))))), hst⟩
}
}
 {
 clear hst
 rintro _ w696 ⟨z691, σ692, hm, rfl, hst⟩
 dsimp only [mail_Decode_j1] at hm
 refine bsplit z691 (fun hc697 => ?_) (fun hc697 => ?_)
 {
 replace hm := bif_t hc697 hm
 refine wp_ift (cvb hc697) ?_
 refine wrl (wv (v632) z z z ?_)
 replace hst := hst.pull1
 obtain ⟨t698, ht699, hm⟩ := bind_some hm
 refine wc call15 [v632] z z z ?_
 refine (locks_Read_ref hst.to1 ht699).mono ?_
 rintro _ w700 ⟨v703, v705, v707, v709, rfl, hst⟩
 refine ⟨_, z, ?_⟩
 replace hst := hst.of5
 refine wv (Pt b671 14) z z (x_field z underlying50 z sizeOf36 z) ?_
 replace hst := hst.pull6
 obtain ⟨w711, hr712, hst⟩ := hst.by_ [U1 (u8.wrap t634.1), Zb, Zi, Zi, Zu, Zu, Zu, Zu, .bool false, Zs, Zu, Zu, Zu, Zs, U6 t698.1.ID.Session, U6 t698.1.ID.Seq, U6 t698.1.Epoch, v703, v705, v707, v709, Zu, Zu, Zi, Zu, Zu, Zs, Zs, Zb, Zu, Zu, Zu, Zu, Zi, Zu, Zu, Zu, Zs, Zs, Zs, Zs, Zs, Zi, Zu, Zu, Zs, Zs, Zu, Zs, Zu, Zi, Zi, Zf, Zf, Zu, Zi, .bool false] 14 (.agg #[U6 t698.1.ID.Session, U6 t698.1.ID.Seq, U6 t698.1.Epoch, v703, v705, v707, v709]) sizeOf36 z (oC z (oC z (oC z (oC (one_of_sliceV hst.sv1) (oC (one_of_sliceV hst.sv2) (oC (one_of_sliceV hst.sv3) (oC (one_of_sliceV hst.sv4) oN))))))) (by kernel_rfl)
 refine wl_unit z z (x_unit hr712) ?_
 refine wl_nil (blk_n (tn ?_))
 replace hst := hst.own_nil ty_api_Entry
 replace hst := hst.own_nil (tyInt .u8)
 replace hst := hst.own_nil ty_api_Got
 replace hst := hst.own_nil (tySl ty_api_Pair)
 replace hst := hst.own_nil tyF64
 replace hst := hst.own_nil tyF2
 replace hst := hst.own_nil tyF64
 replace hst := hst.own_nil (tyInt .u8)
 replace hst := hst.own_nil ty_api_Write
 replace hst := hst.own_nil ty_api_Got
 replace hst := hst.own_nil (tySl ty_api_Pair)
 replace hst := hst.own_nil ty_api_Part
 replace hst := hst.pull1.pull2.pull3.pull4.pull5.pull6.pull7.pull8.pull9.pull16.pull16.pull16.pull16.pull14.pull15.pull16.pull17.pull18.keep19
 obtain rfl := some_inj hm
 exact ⟨_, t698.2, ({ Kind := (u8.wrap t634.1), M := zero_api_Message, H := t698.1, ID := ({ Session := (0:Int), Seq := (0:Int) } : api_ID), R := zero_api_Reply, C := zero_api_Command } : api_Mail), Zs, Zs, v703, v705, v707, v709, Zs, Zs, Zs, Zs, Zs, Zs, Zs, Zs, Zs, Zs, _, hx896, (fu 0 r0_0 z (fu 2 (Pt b622 0) z (fu 4 v632 z (fu 5 (Pt b671 0) z z)))), hL897, hst⟩
}
 {
 replace hm := bif_f hc697 hm
 refine wp_iff (cvb hc697) ?_
 refine wp_seq (wrl (wv (.bool ((u8.wrap t634.1) == (3:Int))) z z z (wv (.bool ((u8.wrap t634.1) == (3:Int))) z z z (wl_nil (tn ?_)))))
 refine bsplit ((u8.wrap t634.1) == (3:Int)) (fun hc713 => ?_) (fun hc713 => ?_)
 {
 replace hm := bif_t hc713 hm
 refine wp_ift (cvb hc713) ?_
 refine wp_seq (wrl (wv (v632) z z z ?_))
 replace hst := hst.pull1
 obtain ⟨t714, ht715, hm⟩ := bind_some hm
 refine wc call15 [v632] z z z ?_
 refine (locks_Read_ref hst.to1 ht715).mono ?_
 rintro _ w716 ⟨v719, v721, v723, v725, rfl, hst⟩
 refine ⟨_, z, ?_⟩
 replace hst := hst.of5
 refine wv (Pt b671 14) z z (x_field z underlying50 z sizeOf36 z) ?_
 replace hst := hst.pull6
 obtain ⟨w727, hr728, hst⟩ := hst.by_ [U1 (u8.wrap t634.1), Zb, Zi, Zi, Zu, Zu, Zu, Zu, .bool false, Zs, Zu, Zu, Zu, Zs, U6 t714.1.ID.Session, U6 t714.1.ID.Seq, U6 t714.1.Epoch, v719, v721, v723, v725, Zu, Zu, Zi, Zu, Zu, Zs, Zs, Zb, Zu, Zu, Zu, Zu, Zi, Zu, Zu, Zu, Zs, Zs, Zs, Zs, Zs, Zi, Zu, Zu, Zs, Zs, Zu, Zs, Zu, Zi, Zi, Zf, Zf, Zu, Zi, .bool false] 14 (.agg #[U6 t714.1.ID.Session, U6 t714.1.ID.Seq, U6 t714.1.Epoch, v719, v721, v723, v725]) sizeOf36 z (oC z (oC z (oC z (oC (one_of_sliceV hst.sv1) (oC (one_of_sliceV hst.sv2) (oC (one_of_sliceV hst.sv3) (oC (one_of_sliceV hst.sv4) oN))))))) (by kernel_rfl)
 refine wl_unit z z (x_unit hr728) ?_
 refine wl_nil (tn (wrl (wv (v632) z z z ?_)))
 replace hst := hst.pull5
 obtain ⟨t729, ht730, hm⟩ := bind_some hm
 refine wc call16 [v632] z z z ?_
 refine (command_ReadReply_ref hst.to1 ht730).mono ?_
 rintro _ w731 ⟨I732, v734, v736, rfl, hI733, hst⟩
 refine ⟨_, z, ?_⟩
 replace hst := hst.of3
 replace f0_0 := f0_0.mono (ro_le hI733)
 replace hI0 := hI0.trans hI733
 replace hL897 := hL897.trans hI733
 refine wv (Pt b671 23) z z (x_field z underlying50 z sizeOf41 z) ?_
 replace hst := hst.pull3
 obtain ⟨w738, hr739, hst⟩ := hst.by_ [U1 (u8.wrap t634.1), Zb, Zi, Zi, Zu, Zu, Zu, Zu, .bool false, Zs, Zu, Zu, Zu, Zs, U6 t714.1.ID.Session, U6 t714.1.ID.Seq, U6 t714.1.Epoch, v719, v721, v723, v725, Zu, Zu, I6 t729.1.E, U6 t729.1.Epoch, U6 t729.1.Index, v734, v736, Zb, Zu, Zu, Zu, Zu, Zi, Zu, Zu, Zu, Zs, Zs, Zs, Zs, Zs, Zi, Zu, Zu, Zs, Zs, Zu, Zs, Zu, Zi, Zi, Zf, Zf, Zu, Zi, .bool false] 23 (.agg #[I6 t729.1.E, U6 t729.1.Epoch, U6 t729.1.Index, v734, v736]) sizeOf41 z (oC z (oC z (oC z (oC (one_of_sliceV hst.sv1) (oC (one_of_sliceV hst.sv2) oN))))) (by kernel_rfl)
 refine wl_unit z z (x_unit hr739) ?_
 refine wl_nil (blk_n (tn ?_))
 replace hst := hst.own_nil ty_api_Entry
 replace hst := hst.own_nil (tyInt .u8)
 replace hst := hst.own_nil tyF64
 replace hst := hst.own_nil tyF2
 replace hst := hst.own_nil tyF64
 replace hst := hst.own_nil (tyInt .u8)
 replace hst := hst.own_nil ty_api_Write
 replace hst := hst.own_nil ty_api_Got
 replace hst := hst.own_nil (tySl ty_api_Pair)
 replace hst := hst.own_nil ty_api_Part
 replace hst := hst.pull1.pull2.pull3.pull4.pull5.pull6.pull7.pull12.pull12.pull17.pull17.pull17.pull17.pull14.pull15.pull16.pull17.pull18.keep19
 obtain rfl := some_inj hm
 exact ⟨_, t729.2, ({ Kind := (u8.wrap t634.1), M := zero_api_Message, H := t714.1, ID := ({ Session := (0:Int), Seq := (0:Int) } : api_ID), R := t729.1, C := zero_api_Command } : api_Mail), Zs, Zs, v719, v721, v723, v725, v734, v736, Zs, Zs, Zs, Zs, Zs, Zs, Zs, Zs, _, hx896, (fu 0 r0_0 z (fu 2 (Pt b622 0) z (fu 4 v632 z (fu 5 (Pt b671 0) z z)))), hL897, hst⟩
}
 {
 replace hm := bif_f hc713 hm
 refine wp_iff (cvb hc713) ?_
 refine wp_seq (wrl (wv (.bool ((u8.wrap t634.1) == (4:Int))) z z z (wv (.bool ((u8.wrap t634.1) == (4:Int))) z z z (wl_nil (tn ?_)))))
 refine bsplit ((u8.wrap t634.1) == (4:Int)) (fun hc740 => ?_) (fun hc740 => ?_)
 {
 replace hm := bif_t hc740 hm
 refine wp_ift (cvb hc740) ?_
 refine wp_seq (wrl (wv (v632) z z z ?_))
 replace hst := hst.pull1
 obtain ⟨t741, ht742, hm⟩ := bind_some hm
 refine wc call18 [v632, I6 (1048576:Int)] z z z ?_
 refine (octet_Reader_Bytes_ref hst.to1 ht742).mono ?_
 rintro _ w743 ⟨v746, rfl, hst⟩
 refine ⟨_, z, ?_⟩
 replace hst := hst.of2
 obtain ⟨I748, hI749, f750, hst⟩ := hst.own_fix
 replace f0_0 := f0_0.mono (ro_le hI749)
 replace hI0 := hI0.trans hI749
 replace hL897 := hL897.trans hI749
 obtain ⟨t751, ht752, hm⟩ := bind_some hm
 refine wc call17 [v746] z z z ?_
 refine (command_Decode_ref f750 hst.to0 ht752).mono ?_
 rintro _ w753 ⟨I754, v756, v758, v760, v762, v764, v766, v768, v770, rfl, hI755, hst⟩
 refine ⟨_, z, ?_⟩
 replace hst := hst.of8
 replace f0_0 := f0_0.mono (ro_le hI755)
 replace f750 := f750.mono (ro_le hI755)
 replace hI0 := hI0.trans hI755
 replace hL897 := hL897.trans hI755
 refine wv (.tuple #[.agg #[U1 t751.1.Kind, U6 t751.1.ID.Session, U6 t751.1.ID.Seq, U6 t751.1.Epoch, U6 t751.1.Index, I6 t751.1.E, U6 t751.1.Hold.ID.Session, U6 t751.1.Hold.ID.Seq, U6 t751.1.Hold.Epoch, v756, v758, v760, v762, v764, I6 t751.1.R.E, U6 t751.1.R.Epoch, U6 t751.1.R.Index, v766, v768, U6 t751.1.Shards, v770, U6 t751.1.Rule.ID, I6 t751.1.Rule.From, I6 t751.1.Rule.To, F6 t751.1.Rule.Lo, F6 t751.1.Rule.Hi, U6 t751.1.Rule.Authority, I6 t751.1.Rule.Quota, .bool t751.1.On], I6 t751.2]) z z z (wv (.agg #[U1 t751.1.Kind, U6 t751.1.ID.Session, U6 t751.1.ID.Seq, U6 t751.1.Epoch, U6 t751.1.Index, I6 t751.1.E, U6 t751.1.Hold.ID.Session, U6 t751.1.Hold.ID.Seq, U6 t751.1.Hold.Epoch, v756, v758, v760, v762, v764, I6 t751.1.R.E, U6 t751.1.R.Epoch, U6 t751.1.R.Index, v766, v768, U6 t751.1.Shards, v770, U6 t751.1.Rule.ID, I6 t751.1.Rule.From, I6 t751.1.Rule.To, F6 t751.1.Rule.Lo, F6 t751.1.Rule.Hi, U6 t751.1.Rule.Authority, I6 t751.1.Rule.Quota, .bool t751.1.On]) z z z (wv (.int .i64 t751.2) z z z ?_))
 obtain ⟨b780, w781, ew782, eb783, hst⟩ := hst.box [Zb, Zu, Zu, Zu, Zu, Zi, Zu, Zu, Zu, Zs, Zs, Zs, Zs, Zs, Zi, Zu, Zu, Zs, Zs, Zu, Zs, Zu, Zi, Zi, Zf, Zf, Zu, Zi, .bool false] 48
 refine wl_run (v := Pt b780 0) (w' := w781) z z (x_al (by kernel_rfl) ew782 eb783) ?_
 obtain ⟨w785, hr786, hst⟩ := hst.bx [U1 t751.1.Kind, U6 t751.1.ID.Session, U6 t751.1.ID.Seq, U6 t751.1.Epoch, U6 t751.1.Index, I6 t751.1.E, U6 t751.1.Hold.ID.Session, U6 t751.1.Hold.ID.Seq, U6 t751.1.Hold.Epoch, v756, v758, v760, v762, v764, I6 t751.1.R.E, U6 t751.1.R.Epoch, U6 t751.1.R.Index, v766, v768, U6 t751.1.Shards, v770, U6 t751.1.Rule.ID, I6 t751.1.Rule.From, I6 t751.1.Rule.To, F6 t751.1.Rule.Lo, F6 t751.1.Rule.Hi, U6 t751.1.Rule.Authority, I6 t751.1.Rule.Quota, .bool t751.1.On] sizeOf48 z (oC z (oC z (oC z (oC z (oC z (oC z (oC z (oC z (oC z (oC (one_of_sliceV hst.sv1) (oC (one_of_sliceV hst.sv2) (oC (one_of_sliceV hst.sv3) (oC (one_of_sliceV hst.sv4) (oC (one_of_sliceV hst.sv5) (oC z (oC z (oC z (oC (one_of_sliceV hst.sv6) (oC (one_of_sliceV hst.sv7) (oC z (oC (one_of_sliceV hst.sv8) (oC z (oC z (oC z (oC z (oC z (oC z (oC z (oC z oN))))))))))))))))))))))))))))) (by kernel_rfl)
 refine wl_unit z z (x_unit hr786) ?_
 refine wv (.int .i64 t751.2) z z z (wl_nil (tn (wp_seq (wp_seq (wrl (wv (.int .i64 t751.2) z z z (wv (.bool (t751.2 != (0:Int))) z z z (wv (.bool (t751.2 != (0:Int))) z z z ?_))))))))
 refine bsplit (t751.2 != (0:Int)) (fun hc787 => ?_) (fun hc787 => ?_)
 {
 replace hm := bif_t hc787 hm
 refine wo hc787 z z z z z z (wo hc787 z z z z z z (wo hc787 z z z z z z (wv (.bool true) z z (x_pick_t hc787 z z) (wl_nil (tn ?_)))))
 refine wp_ift z ?_
 refine wp_seq (wrl (wv (.agg #[Zb, Zb, Zi, Zi, Zu, Zu, Zu, Zu, .bool false, Zs, Zu, Zu, Zu, Zs, Zu, Zu, Zu, Zs, Zs, Zs, Zs, Zu, Zu, Zi, Zu, Zu, Zs, Zs, Zb, Zu, Zu, Zu, Zu, Zi, Zu, Zu, Zu, Zs, Zs, Zs, Zs, Zs, Zi, Zu, Zu, Zs, Zs, Zu, Zs, Zu, Zi, Zi, Zf, Zf, Zu, Zi, .bool false]) z z (by kernel_rfl) ?_))
 replace hst := hst.pull10
 obtain ⟨w804, hr805, hst⟩ := hst.bx [Zb, Zb, Zi, Zi, Zu, Zu, Zu, Zu, .bool false, Zs, Zu, Zu, Zu, Zs, Zu, Zu, Zu, Zs, Zs, Zs, Zs, Zu, Zu, Zi, Zu, Zu, Zs, Zs, Zb, Zu, Zu, Zu, Zu, Zi, Zu, Zu, Zu, Zs, Zs, Zs, Zs, Zs, Zi, Zu, Zu, Zs, Zs, Zu, Zs, Zu, Zi, Zi, Zf, Zf, Zu, Zi, .bool false] sizeOf50 z (oC z (oC z (oC z (oC z (oC z (oC z (oC z (oC z (oC z (oC z (oC z (oC z (oC z (oC z (oC z (oC z (oC z (oC z (oC z (oC z (oC z (oC z (oC z (oC z (oC z (oC z (oC z (oC z (oC z (oC z (oC z (oC z (oC z (oC z (oC z (oC z (oC z (oC z (oC z (oC z (oC z (oC z (oC z (oC z (oC z (oC z (oC z (oC z (oC z (oC z (oC z (oC z (oC z (oC z (oC z (oC z (oC z oN))))))))))))))))))))))))))))))))))))))))))))))))))))))))) (by kernel_rfl)
 refine wl_unit z z (x_unit hr805) ?_
 refine wv (.int .i64 (5:Int)) z z z (wl_nil (tn (wp_ret (then_r (blk_r (then_r ?_))))))
 replace hm := inr_up hm hx896
 replace hst := hst.own_nil ty_api_Entry
 replace hst := hst.own_nil (tyInt .u8)
 replace hst := hst.own_nil tyF64
 replace hst := hst.own_nil tyF2
 replace hst := hst.own_nil tyF64
 replace hst := hst.own_nil (tyInt .u8)
 replace hst := hst.own_nil ty_api_Got
 replace hst := hst.own_nil (tySl ty_api_Pair)
 replace hst := hst.own_nil tyF64
 replace hst := hst.own_nil tyF2
 replace hst := hst.own_nil tyF64
 replace hst := hst.own_nil (tyInt .u8)
 replace hst := hst.own_nil ty_api_Write
 replace hst := hst.own_nil ty_api_Got
 replace hst := hst.own_nil (tySl ty_api_Pair)
 replace hst := hst.own_nil ty_api_Part
 obtain rfl := some_inj hm
 refine post_ret (vs := [.agg #[Zb, Zb, Zi, Zi, Zu, Zu, Zu, Zu, .bool false, Zs, Zu, Zu, Zu, Zs, Zu, Zu, Zu, Zs, Zs, Zs, Zs, Zu, Zu, Zi, Zu, Zu, Zs, Zs, Zb, Zu, Zu, Zu, Zu, Zi, Zu, Zu, Zu, Zs, Zs, Zs, Zs, Zs, Zi, Zu, Zu, Zs, Zs, Zu, Zs, Zu, Zi, Zi, Zf, Zf, Zu, Zi, .bool false], I6 (5:Int)]) results7 (rvs_cons (rv_cell (cs := [Zb, Zb, Zi, Zi, Zu, Zu, Zu, Zu, .bool false, Zs, Zu, Zu, Zu, Zs, Zu, Zu, Zu, Zs, Zs, Zs, Zs, Zu, Zu, Zi, Zu, Zu, Zs, Zs, Zb, Zu, Zu, Zu, Zu, Zi, Zu, Zu, Zu, Zs, Zs, Zs, Zs, Zs, Zi, Zu, Zu, Zs, Zs, Zu, Zs, Zu, Zi, Zi, Zf, Zf, Zu, Zi, .bool false]) z isAgg50 sizeOf50 (hst.bcs16 0 z)) (rvs_cons (rv_tmp z) rvs_nil)) ?_
 replace hst := hst.pull1.pull2.pull3.pull4.pull5.pull6.pull7.pull8.pull9.pull10.pull11.pull12.pull13.pull14.pull15
 exact ⟨_, Zs, Zs, Zs, Zs, Zs, Zs, Zs, Zs, Zs, Zs, Zs, Zs, Zs, Zs, Zs, Zs, z, hI0, hst.keep16⟩
}
 {
 replace hm := bif_f hc787 hm
 refine wv (Pt b780 0) ((wanted_eq z z z (cvb hc787)).trans z) z (x_field z underlying48 z sizeOf5 z) (wv (.int .u8 t751.1.Kind) ((wanted_eq z z z (cvb hc787)).trans z) z (x_load z isAgg5 (hst.bc0 z)) (wv (.bool (t751.1.Kind != (3:Int))) ((wanted_eq z z z (cvb hc787)).trans z) z z (wv (.bool (t751.1.Kind != (3:Int))) z z (x_pick_f hc787 z z) (wl_nil (tn ?_)))))
 refine bsplit (t751.1.Kind != (3:Int)) (fun hc806 => ?_) (fun hc806 => ?_)
 {
 replace hm := bif_t hc806 hm
 refine wp_ift (cvb hc806) ?_
 refine wp_seq (wrl (wv (.agg #[Zb, Zb, Zi, Zi, Zu, Zu, Zu, Zu, .bool false, Zs, Zu, Zu, Zu, Zs, Zu, Zu, Zu, Zs, Zs, Zs, Zs, Zu, Zu, Zi, Zu, Zu, Zs, Zs, Zb, Zu, Zu, Zu, Zu, Zi, Zu, Zu, Zu, Zs, Zs, Zs, Zs, Zs, Zi, Zu, Zu, Zs, Zs, Zu, Zs, Zu, Zi, Zi, Zf, Zf, Zu, Zi, .bool false]) z z (by kernel_rfl) ?_))
 replace hst := hst.pull10
 obtain ⟨w823, hr824, hst⟩ := hst.bx [Zb, Zb, Zi, Zi, Zu, Zu, Zu, Zu, .bool false, Zs, Zu, Zu, Zu, Zs, Zu, Zu, Zu, Zs, Zs, Zs, Zs, Zu, Zu, Zi, Zu, Zu, Zs, Zs, Zb, Zu, Zu, Zu, Zu, Zi, Zu, Zu, Zu, Zs, Zs, Zs, Zs, Zs, Zi, Zu, Zu, Zs, Zs, Zu, Zs, Zu, Zi, Zi, Zf, Zf, Zu, Zi, .bool false] sizeOf50 z (oC z (oC z (oC z (oC z (oC z (oC z (oC z (oC z (oC z (oC z (oC z (oC z (oC z (oC z (oC z (oC z (oC z (oC z (oC z (oC z (oC z (oC z (oC z (oC z (oC z (oC z (oC z (oC z (oC z (oC z (oC z (oC z (oC z (oC z (oC z (oC z (oC z (oC z (oC z (oC z (oC z (oC z (oC z (oC z (oC z (oC z (oC z (oC z (oC z (oC z (oC z (oC z (oC z (oC z (oC z (oC z (oC z oN))))))))))))))))))))))))))))))))))))))))))))))))))))))))) (by kernel_rfl)
 refine wl_unit z z (x_unit hr824) ?_
 refine wv (.int .i64 (5:Int)) z z z (wl_nil (tn (wp_ret (then_r (blk_r (then_r ?_))))))
 replace hm := inr_up hm hx896
 replace hst := hst.own_nil ty_api_Entry
 replace hst := hst.own_nil (tyInt .u8)
 replace hst := hst.own_nil tyF64
 replace hst := hst.own_nil tyF2
 replace hst := hst.own_nil tyF64
 replace hst := hst.own_nil (tyInt .u8)
 replace hst := hst.own_nil ty_api_Got
 replace hst := hst.own_nil (tySl ty_api_Pair)
 replace hst := hst.own_nil tyF64
 replace hst := hst.own_nil tyF2
 replace hst := hst.own_nil tyF64
 replace hst := hst.own_nil (tyInt .u8)
 replace hst := hst.own_nil ty_api_Write
 replace hst := hst.own_nil ty_api_Got
 replace hst := hst.own_nil (tySl ty_api_Pair)
 replace hst := hst.own_nil ty_api_Part
 obtain rfl := some_inj hm
 refine post_ret (vs := [.agg #[Zb, Zb, Zi, Zi, Zu, Zu, Zu, Zu, .bool false, Zs, Zu, Zu, Zu, Zs, Zu, Zu, Zu, Zs, Zs, Zs, Zs, Zu, Zu, Zi, Zu, Zu, Zs, Zs, Zb, Zu, Zu, Zu, Zu, Zi, Zu, Zu, Zu, Zs, Zs, Zs, Zs, Zs, Zi, Zu, Zu, Zs, Zs, Zu, Zs, Zu, Zi, Zi, Zf, Zf, Zu, Zi, .bool false], I6 (5:Int)]) results7 (rvs_cons (rv_cell (cs := [Zb, Zb, Zi, Zi, Zu, Zu, Zu, Zu, .bool false, Zs, Zu, Zu, Zu, Zs, Zu, Zu, Zu, Zs, Zs, Zs, Zs, Zu, Zu, Zi, Zu, Zu, Zs, Zs, Zb, Zu, Zu, Zu, Zu, Zi, Zu, Zu, Zu, Zs, Zs, Zs, Zs, Zs, Zi, Zu, Zu, Zs, Zs, Zu, Zs, Zu, Zi, Zi, Zf, Zf, Zu, Zi, .bool false]) z isAgg50 sizeOf50 (hst.bcs16 0 z)) (rvs_cons (rv_tmp z) rvs_nil)) ?_
 replace hst := hst.pull1.pull2.pull3.pull4.pull5.pull6.pull7.pull8.pull9.pull10.pull11.pull12.pull13.pull14.pull15
 exact ⟨_, Zs, Zs, Zs, Zs, Zs, Zs, Zs, Zs, Zs, Zs, Zs, Zs, Zs, Zs, Zs, Zs, z, hI0, hst.keep16⟩
}
 {
 replace hm := bif_f hc806 hm
 refine wp_iff (cvb hc806) ?_
 refine wp_skip (tn (wrl ?_))
 refine wv (.agg #[U1 t751.1.Kind, U6 t751.1.ID.Session, U6 t751.1.ID.Seq, U6 t751.1.Epoch, U6 t751.1.Index, I6 t751.1.E, U6 t751.1.Hold.ID.Session, U6 t751.1.Hold.ID.Seq, U6 t751.1.Hold.Epoch, v756, v758, v760, v762, v764, I6 t751.1.R.E, U6 t751.1.R.Epoch, U6 t751.1.R.Index, v766, v768, U6 t751.1.Shards, v770, U6 t751.1.Rule.ID, I6 t751.1.Rule.From, I6 t751.1.Rule.To, F6 t751.1.Rule.Lo, F6 t751.1.Rule.Hi, U6 t751.1.Rule.Authority, I6 t751.1.Rule.Quota, .bool t751.1.On]) z z (x_loadN (cs := [U1 t751.1.Kind, U6 t751.1.ID.Session, U6 t751.1.ID.Seq, U6 t751.1.Epoch, U6 t751.1.Index, I6 t751.1.E, U6 t751.1.Hold.ID.Session, U6 t751.1.Hold.ID.Seq, U6 t751.1.Hold.Epoch, v756, v758, v760, v762, v764, I6 t751.1.R.E, U6 t751.1.R.Epoch, U6 t751.1.R.Index, v766, v768, U6 t751.1.Shards, v770, U6 t751.1.Rule.ID, I6 t751.1.Rule.From, I6 t751.1.Rule.To, F6 t751.1.Rule.Lo, F6 t751.1.Rule.Hi, U6 t751.1.Rule.Authority, I6 t751.1.Rule.Quota, .bool t751.1.On]) z isAgg48 sizeOf48 (hst.bcs0 0 z)) (wv (Pt b671 28) z z (x_field z underlying50 z sizeOf48 z) ?_)
 replace hst := hst.pull11
 obtain ⟨w825, hr826, hst⟩ := hst.by_ [U1 (u8.wrap t634.1), Zb, Zi, Zi, Zu, Zu, Zu, Zu, .bool false, Zs, Zu, Zu, Zu, Zs, Zu, Zu, Zu, Zs, Zs, Zs, Zs, Zu, Zu, Zi, Zu, Zu, Zs, Zs, U1 t751.1.Kind, U6 t751.1.ID.Session, U6 t751.1.ID.Seq, U6 t751.1.Epoch, U6 t751.1.Index, I6 t751.1.E, U6 t751.1.Hold.ID.Session, U6 t751.1.Hold.ID.Seq, U6 t751.1.Hold.Epoch, v756, v758, v760, v762, v764, I6 t751.1.R.E, U6 t751.1.R.Epoch, U6 t751.1.R.Index, v766, v768, U6 t751.1.Shards, v770, U6 t751.1.Rule.ID, I6 t751.1.Rule.From, I6 t751.1.Rule.To, F6 t751.1.Rule.Lo, F6 t751.1.Rule.Hi, U6 t751.1.Rule.Authority, I6 t751.1.Rule.Quota, .bool t751.1.On] 28 (.agg #[U1 t751.1.Kind, U6 t751.1.ID.Session, U6 t751.1.ID.Seq, U6 t751.1.Epoch, U6 t751.1.Index, I6 t751.1.E, U6 t751.1.Hold.ID.Session, U6 t751.1.Hold.ID.Seq, U6 t751.1.Hold.Epoch, v756, v758, v760, v762, v764, I6 t751.1.R.E, U6 t751.1.R.Epoch, U6 t751.1.R.Index, v766, v768, U6 t751.1.Shards, v770, U6 t751.1.Rule.ID, I6 t751.1.Rule.From, I6 t751.1.Rule.To, F6 t751.1.Rule.Lo, F6 t751.1.Rule.Hi, U6 t751.1.Rule.Authority, I6 t751.1.Rule.Quota, .bool t751.1.On]) sizeOf48 z (oC z (oC z (oC z (oC z (oC z (oC z (oC z (oC z (oC z (oC (one_of_sliceV hst.sv2) (oC (one_of_sliceV hst.sv3) (oC (one_of_sliceV hst.sv4) (oC (one_of_sliceV hst.sv5) (oC (one_of_sliceV hst.sv6) (oC z (oC z (oC z (oC (one_of_sliceV hst.sv7) (oC (one_of_sliceV hst.sv8) (oC z (oC (one_of_sliceV hst.sv9) (oC z (oC z (oC z (oC z (oC z (oC z (oC z (oC z oN))))))))))))))))))))))))))))) (by kernel_rfl)
 refine wl_unit z z (x_unit hr826) ?_
 refine wl_nil (blk_n (tn ?_))
 replace hst := hst.own_nil ty_api_Entry
 replace hst := hst.own_nil (tyInt .u8)
 replace hst := hst.own_nil tyF64
 replace hst := hst.own_nil tyF2
 replace hst := hst.own_nil tyF64
 replace hst := hst.own_nil (tyInt .u8)
 replace hst := hst.own_nil ty_api_Got
 replace hst := hst.own_nil (tySl ty_api_Pair)
 replace hst := hst.pull17.pull17.pull17.pull17.pull17.pull17.pull17.pull17.pull8.pull9.pull10.pull11.pull12.pull13.pull14.pull15.pull16.pull18.pull19.keep19
 obtain rfl := some_inj hm
 exact ⟨_, t741.2, ({ Kind := (u8.wrap t634.1), M := zero_api_Message, H := zero_api_Hold, ID := ({ Session := (0:Int), Seq := (0:Int) } : api_ID), R := zero_api_Reply, C := t751.1 } : api_Mail), Zs, Zs, Zs, Zs, Zs, Zs, Zs, Zs, v756, v758, v760, v762, v764, v766, v768, v770, _, hx896, (fu 0 r0_0 z (fu 2 (Pt b622 0) z (fu 4 v632 z (fu 5 (Pt b671 0) z z)))), hL897, hst⟩
}
}
}
 {
 replace hm := bif_f hc740 hm
 refine wp_iff (cvb hc740) ?_
 refine wp_seq (wrl (wv (.bool ((u8.wrap t634.1) == (5:Int))) z z z (wv (.bool ((u8.wrap t634.1) == (5:Int))) z z z (wl_nil (tn ?_)))))
 refine bsplit ((u8.wrap t634.1) == (5:Int)) (fun hc827 => ?_) (fun hc827 => ?_)
 {
 replace hm := bif_t hc827 hm
 refine wp_ift (cvb hc827) ?_
 refine wrl (wv (v632) z z z ?_)
 replace hst := hst.pull1
 obtain ⟨t828, ht829, hm⟩ := bind_some hm
 refine wc call13 [v632, I6 (8:Int)] z z z ?_
 refine (octet_Reader_Num_ref hst.to1 ht829).mono ?_
 rintro _ w830 ⟨rfl, hst⟩
 refine ⟨_, z, ?_⟩
 replace hst := hst.of1
 refine wv (v632) z z z ?_
 obtain ⟨t833, ht834, hm⟩ := bind_some hm
 refine wc call13 [v632, I6 (8:Int)] z z z ?_
 refine (octet_Reader_Num_ref hst.to1 ht834).mono ?_
 rintro _ w835 ⟨rfl, hst⟩
 refine ⟨_, z, ?_⟩
 replace hst := hst.of1
 refine wv (.agg #[U6 t828.1, U6 t833.1]) z z (by kernel_rfl) (wv (Pt b671 21) z z (x_field z underlying50 z sizeOf32 z) ?_)
 replace hst := hst.pull2
 obtain ⟨w838, hr839, hst⟩ := hst.by_ [U1 (u8.wrap t634.1), Zb, Zi, Zi, Zu, Zu, Zu, Zu, .bool false, Zs, Zu, Zu, Zu, Zs, Zu, Zu, Zu, Zs, Zs, Zs, Zs, U6 t828.1, U6 t833.1, Zi, Zu, Zu, Zs, Zs, Zb, Zu, Zu, Zu, Zu, Zi, Zu, Zu, Zu, Zs, Zs, Zs, Zs, Zs, Zi, Zu, Zu, Zs, Zs, Zu, Zs, Zu, Zi, Zi, Zf, Zf, Zu, Zi, .bool false] 21 (.agg #[U6 t828.1, U6 t833.1]) sizeOf32 z (oC z (oC z oN)) (by kernel_rfl)
 refine wl_unit z z (x_unit hr839) ?_
 refine wl_nil (blk_n (tn ?_))
 replace hst := hst.own_nil ty_api_Entry
 replace hst := hst.own_nil (tyInt .u8)
 replace hst := hst.own_nil tyF64
 replace hst := hst.own_nil tyF2
 replace hst := hst.own_nil tyF64
 replace hst := hst.own_nil (tyInt .u8)
 replace hst := hst.own_nil ty_api_Got
 replace hst := hst.own_nil (tySl ty_api_Pair)
 replace hst := hst.own_nil tyF64
 replace hst := hst.own_nil tyF2
 replace hst := hst.own_nil tyF64
 replace hst := hst.own_nil (tyInt .u8)
 replace hst := hst.own_nil ty_api_Write
 replace hst := hst.own_nil ty_api_Got
 replace hst := hst.own_nil (tySl ty_api_Pair)
 replace hst := hst.own_nil ty_api_Part
 replace hst := hst.pull1.pull2.pull3.pull4.pull5.pull6.pull7.pull8.pull9.pull10.pull11.pull12.pull13.pull14.pull15.pull16.pull17.pull18.keep19
 obtain rfl := some_inj hm
 exact ⟨_, t833.2, ({ Kind := (u8.wrap t634.1), M := zero_api_Message, H := zero_api_Hold, ID := ({ Session := t828.1, Seq := t833.1 } : api_ID), R := zero_api_Reply, C := zero_api_Command } : api_Mail), Zs, Zs, Zs, Zs, Zs, Zs, Zs, Zs, Zs, Zs, Zs, Zs, Zs, Zs, Zs, Zs, _, hx896, (fu 0 r0_0 z (fu 2 (Pt b622 0) z (fu 4 v632 z (fu 5 (Pt b671 0) z z)))), hL897, hst⟩
}
 {
 replace hm := bif_f hc827 hm
 refine wp_iff (cvb hc827) ?_
 refine wp_seq (wrl (wv (.agg #[Zb, Zb, Zi, Zi, Zu, Zu, Zu, Zu, .bool false, Zs, Zu, Zu, Zu, Zs, Zu, Zu, Zu, Zs, Zs, Zs, Zs, Zu, Zu, Zi, Zu, Zu, Zs, Zs, Zb, Zu, Zu, Zu, Zu, Zi, Zu, Zu, Zu, Zs, Zs, Zs, Zs, Zs, Zi, Zu, Zu, Zs, Zs, Zu, Zs, Zu, Zi, Zi, Zf, Zf, Zu, Zi, .bool false]) z z (by kernel_rfl) ?_))
 obtain ⟨w856, hr857, hst⟩ := hst.bx [Zb, Zb, Zi, Zi, Zu, Zu, Zu, Zu, .bool false, Zs, Zu, Zu, Zu, Zs, Zu, Zu, Zu, Zs, Zs, Zs, Zs, Zu, Zu, Zi, Zu, Zu, Zs, Zs, Zb, Zu, Zu, Zu, Zu, Zi, Zu, Zu, Zu, Zs, Zs, Zs, Zs, Zs, Zi, Zu, Zu, Zs, Zs, Zu, Zs, Zu, Zi, Zi, Zf, Zf, Zu, Zi, .bool false] sizeOf50 z (oC z (oC z (oC z (oC z (oC z (oC z (oC z (oC z (oC z (oC z (oC z (oC z (oC z (oC z (oC z (oC z (oC z (oC z (oC z (oC z (oC z (oC z (oC z (oC z (oC z (oC z (oC z (oC z (oC z (oC z (oC z (oC z (oC z (oC z (oC z (oC z (oC z (oC z (oC z (oC z (oC z (oC z (oC z (oC z (oC z (oC z (oC z (oC z (oC z (oC z (oC z (oC z (oC z (oC z (oC z (oC z (oC z oN))))))))))))))))))))))))))))))))))))))))))))))))))))))))) (by kernel_rfl)
 refine wl_unit z z (x_unit hr857) ?_
 refine wv (.int .i64 (5:Int)) z z z (wl_nil (tn (wp_ret (blk_r (then_r ?_)))))
 replace hm := inr_up hm hx896
 replace hst := hst.own_nil ty_api_Entry
 replace hst := hst.own_nil (tyInt .u8)
 replace hst := hst.own_nil tyF64
 replace hst := hst.own_nil tyF2
 replace hst := hst.own_nil tyF64
 replace hst := hst.own_nil (tyInt .u8)
 replace hst := hst.own_nil ty_api_Got
 replace hst := hst.own_nil (tySl ty_api_Pair)
 replace hst := hst.own_nil tyF64
 replace hst := hst.own_nil tyF2
 replace hst := hst.own_nil tyF64
 replace hst := hst.own_nil (tyInt .u8)
 replace hst := hst.own_nil ty_api_Write
 replace hst := hst.own_nil ty_api_Got
 replace hst := hst.own_nil (tySl ty_api_Pair)
 replace hst := hst.own_nil ty_api_Part
 obtain rfl := some_inj hm
 refine post_ret (vs := [.agg #[Zb, Zb, Zi, Zi, Zu, Zu, Zu, Zu, .bool false, Zs, Zu, Zu, Zu, Zs, Zu, Zu, Zu, Zs, Zs, Zs, Zs, Zu, Zu, Zi, Zu, Zu, Zs, Zs, Zb, Zu, Zu, Zu, Zu, Zi, Zu, Zu, Zu, Zs, Zs, Zs, Zs, Zs, Zi, Zu, Zu, Zs, Zs, Zu, Zs, Zu, Zi, Zi, Zf, Zf, Zu, Zi, .bool false], I6 (5:Int)]) results7 (rvs_cons (rv_cell (cs := [Zb, Zb, Zi, Zi, Zu, Zu, Zu, Zu, .bool false, Zs, Zu, Zu, Zu, Zs, Zu, Zu, Zu, Zs, Zs, Zs, Zs, Zu, Zu, Zi, Zu, Zu, Zs, Zs, Zb, Zu, Zu, Zu, Zu, Zi, Zu, Zu, Zu, Zs, Zs, Zs, Zs, Zs, Zi, Zu, Zu, Zs, Zs, Zu, Zs, Zu, Zi, Zi, Zf, Zf, Zu, Zi, .bool false]) z isAgg50 sizeOf50 (hst.bcs16 0 z)) (rvs_cons (rv_tmp z) rvs_nil)) ?_
 replace hst := hst.pull1.pull2.pull3.pull4.pull5.pull6.pull7.pull8.pull9.pull10.pull11.pull12.pull13.pull14.pull15
 exact ⟨_, Zs, Zs, Zs, Zs, Zs, Zs, Zs, Zs, Zs, Zs, Zs, Zs, Zs, Zs, Zs, Zs, z, hI0, hst.keep16⟩
}
}
}
}
}
}
}
 {
 clear hst
 rintro _ w898 ⟨I892, z858, z859, v861, v863, v865, v867, v869, v871, v873, v875, v877, v879, v881, v883, v885, v887, v889, v891, σ893, hm, rfl, hL894, hst⟩
 dsimp only [mail_Decode_j0] at hm
 replace f0_0 := f0_0.mono (ro_le hL894)
 replace hI0 := hI0.trans hL894
 refine wp_seq (wp_seq (wrl (wv (v632) z z z ?_)))
 replace hst := hst.pull1
 obtain ⟨t899, ht900, hm⟩ := bind_some hm
 refine wc call19 [v632] z z z ?_
 refine (octet_Reader_End_ref hst.to1 ht900).mono ?_
 rintro _ w901 ⟨rfl, hst⟩
 refine ⟨_, z, ?_⟩
 replace hst := hst.of1
 refine wv (.bool (!t899)) z z z (wv (.bool (!t899)) z z z ?_)
 refine bsplit (!t899) (fun hc904 => ?_) (fun hc904 => ?_)
 {
 replace hm := bif_t hc904 hm
 refine wo hc904 z z z z z z (wo hc904 z z z z z z (wo hc904 z z z z z z (wo hc904 z z z z z z (wo hc904 z z z z z z (wv (.bool true) z z (x_pick_t hc904 z z) (wl_nil (tn ?_)))))))
 refine wp_ift z ?_
 refine wp_seq (wrl (wv (.agg #[Zb, Zb, Zi, Zi, Zu, Zu, Zu, Zu, .bool false, Zs, Zu, Zu, Zu, Zs, Zu, Zu, Zu, Zs, Zs, Zs, Zs, Zu, Zu, Zi, Zu, Zu, Zs, Zs, Zb, Zu, Zu, Zu, Zu, Zi, Zu, Zu, Zu, Zs, Zs, Zs, Zs, Zs, Zi, Zu, Zu, Zs, Zs, Zu, Zs, Zu, Zi, Zi, Zf, Zf, Zu, Zi, .bool false]) z z (by kernel_rfl) ?_))
 replace hst := hst.pull1
 obtain ⟨w921, hr922, hst⟩ := hst.bx [Zb, Zb, Zi, Zi, Zu, Zu, Zu, Zu, .bool false, Zs, Zu, Zu, Zu, Zs, Zu, Zu, Zu, Zs, Zs, Zs, Zs, Zu, Zu, Zi, Zu, Zu, Zs, Zs, Zb, Zu, Zu, Zu, Zu, Zi, Zu, Zu, Zu, Zs, Zs, Zs, Zs, Zs, Zi, Zu, Zu, Zs, Zs, Zu, Zs, Zu, Zi, Zi, Zf, Zf, Zu, Zi, .bool false] sizeOf50 z (oC z (oC z (oC z (oC z (oC z (oC z (oC z (oC z (oC z (oC z (oC z (oC z (oC z (oC z (oC z (oC z (oC z (oC z (oC z (oC z (oC z (oC z (oC z (oC z (oC z (oC z (oC z (oC z (oC z (oC z (oC z (oC z (oC z (oC z (oC z (oC z (oC z (oC z (oC z (oC z (oC z (oC z (oC z (oC z (oC z (oC z (oC z (oC z (oC z (oC z (oC z (oC z (oC z (oC z (oC z (oC z (oC z oN))))))))))))))))))))))))))))))))))))))))))))))))))))))))) (by kernel_rfl)
 refine wl_unit z z (x_unit hr922) ?_
 refine wv (.int .i64 (5:Int)) z z z (wl_nil (tn (wp_ret (then_r ?_))))
 replace hst := hst.own_nil ty_api_Entry
 replace hst := hst.own_nil (tyInt .u8)
 replace hst := hst.own_nil tyF64
 replace hst := hst.own_nil tyF2
 replace hst := hst.own_nil tyF64
 replace hst := hst.own_nil (tyInt .u8)
 replace hst := hst.own_nil ty_api_Got
 replace hst := hst.own_nil (tySl ty_api_Pair)
 replace hst := hst.own_nil tyF64
 replace hst := hst.own_nil tyF2
 replace hst := hst.own_nil tyF64
 replace hst := hst.own_nil (tyInt .u8)
 replace hst := hst.own_nil ty_api_Write
 replace hst := hst.own_nil ty_api_Got
 replace hst := hst.own_nil (tySl ty_api_Pair)
 replace hst := hst.own_nil ty_api_Part
 obtain rfl := some_inj hm
 refine post_ret (vs := [.agg #[Zb, Zb, Zi, Zi, Zu, Zu, Zu, Zu, .bool false, Zs, Zu, Zu, Zu, Zs, Zu, Zu, Zu, Zs, Zs, Zs, Zs, Zu, Zu, Zi, Zu, Zu, Zs, Zs, Zb, Zu, Zu, Zu, Zu, Zi, Zu, Zu, Zu, Zs, Zs, Zs, Zs, Zs, Zi, Zu, Zu, Zs, Zs, Zu, Zs, Zu, Zi, Zi, Zf, Zf, Zu, Zi, .bool false], I6 (5:Int)]) results7 (rvs_cons (rv_cell (cs := [Zb, Zb, Zi, Zi, Zu, Zu, Zu, Zu, .bool false, Zs, Zu, Zu, Zu, Zs, Zu, Zu, Zu, Zs, Zs, Zs, Zs, Zu, Zu, Zi, Zu, Zu, Zs, Zs, Zb, Zu, Zu, Zu, Zu, Zi, Zu, Zu, Zu, Zs, Zs, Zs, Zs, Zs, Zi, Zu, Zu, Zs, Zs, Zu, Zs, Zu, Zi, Zi, Zf, Zf, Zu, Zi, .bool false]) z isAgg50 sizeOf50 (hst.bcs16 0 z)) (rvs_cons (rv_tmp z) rvs_nil)) ?_
 replace hst := hst.pull1.pull2.pull3.pull4.pull5.pull6.pull7.pull8.pull9.pull10.pull11.pull12.pull13.pull14.pull15
 exact ⟨_, Zs, Zs, Zs, Zs, Zs, Zs, Zs, Zs, Zs, Zs, Zs, Zs, Zs, Zs, Zs, Zs, z, hI0, hst.keep16⟩
}
 {
 replace hm := bif_f hc904 hm
 refine wv (.agg #[U1 z859.Kind, U1 z859.M.Kind, I6 z859.M.From, I6 z859.M.To, U6 z859.M.Term, U6 z859.M.Index, U6 z859.M.LogTerm, U6 z859.M.Commit, .bool z859.M.OK, v861, U6 z859.M.S.Index, U6 z859.M.S.Term, U6 z859.M.S.Voters, v863, U6 z859.H.ID.Session, U6 z859.H.ID.Seq, U6 z859.H.Epoch, v865, v867, v869, v871, U6 z859.ID.Session, U6 z859.ID.Seq, I6 z859.R.E, U6 z859.R.Epoch, U6 z859.R.Index, v873, v875, U1 z859.C.Kind, U6 z859.C.ID.Session, U6 z859.C.ID.Seq, U6 z859.C.Epoch, U6 z859.C.Index, I6 z859.C.E, U6 z859.C.Hold.ID.Session, U6 z859.C.Hold.ID.Seq, U6 z859.C.Hold.Epoch, v877, v879, v881, v883, v885, I6 z859.C.R.E, U6 z859.C.R.Epoch, U6 z859.C.R.Index, v887, v889, U6 z859.C.Shards, v891, U6 z859.C.Rule.ID, I6 z859.C.Rule.From, I6 z859.C.Rule.To, F6 z859.C.Rule.Lo, F6 z859.C.Rule.Hi, U6 z859.C.Rule.Authority, I6 z859.C.Rule.Quota, .bool z859.C.On]) ((wanted_eq z z z (cvb hc904)).trans z) z (x_loadN (cs := [U1 z859.Kind, U1 z859.M.Kind, I6 z859.M.From, I6 z859.M.To, U6 z859.M.Term, U6 z859.M.Index, U6 z859.M.LogTerm, U6 z859.M.Commit, .bool z859.M.OK, v861, U6 z859.M.S.Index, U6 z859.M.S.Term, U6 z859.M.S.Voters, v863, U6 z859.H.ID.Session, U6 z859.H.ID.Seq, U6 z859.H.Epoch, v865, v867, v869, v871, U6 z859.ID.Session, U6 z859.ID.Seq, I6 z859.R.E, U6 z859.R.Epoch, U6 z859.R.Index, v873, v875, U1 z859.C.Kind, U6 z859.C.ID.Session, U6 z859.C.ID.Seq, U6 z859.C.Epoch, U6 z859.C.Index, I6 z859.C.E, U6 z859.C.Hold.ID.Session, U6 z859.C.Hold.ID.Seq, U6 z859.C.Hold.Epoch, v877, v879, v881, v883, v885, I6 z859.C.R.E, U6 z859.C.R.Epoch, U6 z859.C.R.Index, v887, v889, U6 z859.C.Shards, v891, U6 z859.C.Rule.ID, I6 z859.C.Rule.From, I6 z859.C.Rule.To, F6 z859.C.Rule.Lo, F6 z859.C.Rule.Hi, U6 z859.C.Rule.Authority, I6 z859.C.Rule.Quota, .bool z859.C.On]) z isAgg50 sizeOf50 (hst.bcs2 0 z)) ?_
 replace hst := hst.pull3
 obtain ⟨css923, hq924, hst⟩ := hst.own_open
 replace hst := hst.pull4
 obtain ⟨css925, hq926, hst⟩ := hst.own_open
 replace hst := hst.pull5
 obtain ⟨css927, hq928, hst⟩ := hst.own_open
 replace hst := hst.pull6
 obtain ⟨css929, hq930, hst⟩ := hst.own_open
 replace hst := hst.pull7
 obtain ⟨css931, hq932, hst⟩ := hst.own_open
 replace hst := hst.pull8
 obtain ⟨css933, hq934, hst⟩ := hst.own_open
 replace hst := hst.pull9
 obtain ⟨css935, hq936, hst⟩ := hst.own_open
 replace hst := hst.pull10
 obtain ⟨css937, hq938, hst⟩ := hst.own_open
 replace hst := hst.pull11
 obtain ⟨css939, hq940, hst⟩ := hst.own_open
 replace hst := hst.pull12
 obtain ⟨css941, hq942, hst⟩ := hst.own_open
 replace hst := hst.pull13
 obtain ⟨css943, hq944, hst⟩ := hst.own_open
 replace hst := hst.pull14
 obtain ⟨css945, hq946, hst⟩ := hst.own_open
 replace hst := hst.pull15
 obtain ⟨css947, hq948, hst⟩ := hst.own_open
 replace hst := hst.pull16
 obtain ⟨css949, hq950, hst⟩ := hst.own_open
 replace hst := hst.pull17
 obtain ⟨css951, hq952, hst⟩ := hst.own_open
 replace hst := hst.pull18
 obtain ⟨css953, hq954, hst⟩ := hst.own_open
 obtain ⟨t955, ht956, hm⟩ := bind_some hm
 refine wl_call ((wanted_eq z z z (cvb hc904)).trans z) z (x_call call8 z (vs := [.agg #[U1 z859.Kind, U1 z859.M.Kind, I6 z859.M.From, I6 z859.M.To, U6 z859.M.Term, U6 z859.M.Index, U6 z859.M.LogTerm, U6 z859.M.Commit, .bool z859.M.OK, v861, U6 z859.M.S.Index, U6 z859.M.S.Term, U6 z859.M.S.Voters, v863, U6 z859.H.ID.Session, U6 z859.H.ID.Seq, U6 z859.H.Epoch, v865, v867, v869, v871, U6 z859.ID.Session, U6 z859.ID.Seq, I6 z859.R.E, U6 z859.R.Epoch, U6 z859.R.Index, v873, v875, U1 z859.C.Kind, U6 z859.C.ID.Session, U6 z859.C.ID.Seq, U6 z859.C.Epoch, U6 z859.C.Index, I6 z859.C.E, U6 z859.C.Hold.ID.Session, U6 z859.C.Hold.ID.Seq, U6 z859.C.Hold.Epoch, v877, v879, v881, v883, v885, I6 z859.C.R.E, U6 z859.C.R.Epoch, U6 z859.C.R.Index, v887, v889, U6 z859.C.Shards, v891, U6 z859.C.Rule.ID, I6 z859.C.Rule.From, I6 z859.C.Rule.To, F6 z859.C.Rule.Lo, F6 z859.C.Rule.Hi, U6 z859.C.Rule.Authority, I6 z859.C.Rule.Quota, .bool z859.C.On]]) z) ?_
 refine (mail_Encode_ref (hst.rdrow15 hq924) (hst.rdrow14 hq926) (hst.rdrow13 hq928) (hst.rdrow12 hq930) (hst.rdrow11 hq932) (hst.rdrow10 hq934) (hst.rdrow9 hq936) (hst.rdrow8 hq938) (hst.rdrow7 hq940) (hst.rdrow6 hq942) (hst.rdrow5 hq944) (hst.rdrow4 hq946) (hst.rdrow3 hq948) (hst.rdrow2 hq950) (hst.rdrow1 hq952) (hst.rdrow0 hq954) hst.to0 ht956).mono ?_
 rintro _ w957 ⟨v960, rfl, hst⟩
 refine ⟨_, z, ?_⟩
 replace hst := hst.of1.pull16.own_close hq924
 replace hst := hst.pull16.own_close hq926
 replace hst := hst.pull16.own_close hq928
 replace hst := hst.pull16.own_close hq930
 replace hst := hst.pull16.own_close hq932
 replace hst := hst.pull16.own_close hq934
 replace hst := hst.pull16.own_close hq936
 replace hst := hst.pull16.own_close hq938
 replace hst := hst.pull16.own_close hq940
 replace hst := hst.pull16.own_close hq942
 replace hst := hst.pull16.own_close hq944
 replace hst := hst.pull16.own_close hq946
 replace hst := hst.pull16.own_close hq948
 replace hst := hst.pull16.own_close hq950
 replace hst := hst.pull16.own_close hq952
 replace hst := hst.pull16.own_close hq954
 refine wv (r0_0) ((wanted_eq z z z (cvb hc904)).trans z) z z ?_
 replace hst := hst.pull16
 obtain ⟨css962, hq963, hst⟩ := hst.own_open
 obtain ⟨t964, ht965, hm⟩ := bind_some hm
 refine wl_call ((wanted_eq z z z (cvb hc904)).trans z) z (x_call call20 z (vs := [v960, r0_0]) z) ?_
 refine (slices_Equal_byte_byte_ref (hst.rdrow0 hq963) (f0_0.mono ro_rd) hst.to0 ht965).mono ?_
 rintro _ w966 ⟨rfl, hst⟩
 refine ⟨_, z, ?_⟩
 replace hst := hst.of0.own_close hq963
 refine wv (.bool (!t964)) ((wanted_eq z z z (cvb hc904)).trans z) z z (wv (.bool (!t964)) z z (x_pick_f hc904 z z) (wl_nil (tn ?_)))
 refine bsplit (!t964) (fun hc969 => ?_) (fun hc969 => ?_)
 {
 replace hm := bif_t hc969 hm
 refine wp_ift (cvb hc969) ?_
 refine wp_seq (wrl (wv (.agg #[Zb, Zb, Zi, Zi, Zu, Zu, Zu, Zu, .bool false, Zs, Zu, Zu, Zu, Zs, Zu, Zu, Zu, Zs, Zs, Zs, Zs, Zu, Zu, Zi, Zu, Zu, Zs, Zs, Zb, Zu, Zu, Zu, Zu, Zi, Zu, Zu, Zu, Zs, Zs, Zs, Zs, Zs, Zi, Zu, Zu, Zs, Zs, Zu, Zs, Zu, Zi, Zi, Zf, Zf, Zu, Zi, .bool false]) z z (by kernel_rfl) ?_))
 replace hst := hst.pull18
 obtain ⟨w986, hr987, hst⟩ := hst.bx [Zb, Zb, Zi, Zi, Zu, Zu, Zu, Zu, .bool false, Zs, Zu, Zu, Zu, Zs, Zu, Zu, Zu, Zs, Zs, Zs, Zs, Zu, Zu, Zi, Zu, Zu, Zs, Zs, Zb, Zu, Zu, Zu, Zu, Zi, Zu, Zu, Zu, Zs, Zs, Zs, Zs, Zs, Zi, Zu, Zu, Zs, Zs, Zu, Zs, Zu, Zi, Zi, Zf, Zf, Zu, Zi, .bool false] sizeOf50 z (oC z (oC z (oC z (oC z (oC z (oC z (oC z (oC z (oC z (oC z (oC z (oC z (oC z (oC z (oC z (oC z (oC z (oC z (oC z (oC z (oC z (oC z (oC z (oC z (oC z (oC z (oC z (oC z (oC z (oC z (oC z (oC z (oC z (oC z (oC z (oC z (oC z (oC z (oC z (oC z (oC z (oC z (oC z (oC z (oC z (oC z (oC z (oC z (oC z (oC z (oC z (oC z (oC z (oC z (oC z (oC z (oC z oN))))))))))))))))))))))))))))))))))))))))))))))))))))))))) (by kernel_rfl)
 refine wl_unit z z (x_unit hr987) ?_
 refine wv (.int .i64 (5:Int)) z z z (wl_nil (tn (wp_ret (then_r ?_))))
 replace hst := hst.own_nil ty_api_Entry
 replace hst := hst.own_nil (tyInt .u8)
 replace hst := hst.own_nil tyF64
 replace hst := hst.own_nil tyF2
 replace hst := hst.own_nil tyF64
 replace hst := hst.own_nil (tyInt .u8)
 replace hst := hst.own_nil ty_api_Got
 replace hst := hst.own_nil (tySl ty_api_Pair)
 replace hst := hst.own_nil tyF64
 replace hst := hst.own_nil tyF2
 replace hst := hst.own_nil tyF64
 replace hst := hst.own_nil (tyInt .u8)
 replace hst := hst.own_nil ty_api_Write
 replace hst := hst.own_nil ty_api_Got
 replace hst := hst.own_nil (tySl ty_api_Pair)
 replace hst := hst.own_nil ty_api_Part
 obtain rfl := some_inj hm
 refine post_ret (vs := [.agg #[Zb, Zb, Zi, Zi, Zu, Zu, Zu, Zu, .bool false, Zs, Zu, Zu, Zu, Zs, Zu, Zu, Zu, Zs, Zs, Zs, Zs, Zu, Zu, Zi, Zu, Zu, Zs, Zs, Zb, Zu, Zu, Zu, Zu, Zi, Zu, Zu, Zu, Zs, Zs, Zs, Zs, Zs, Zi, Zu, Zu, Zs, Zs, Zu, Zs, Zu, Zi, Zi, Zf, Zf, Zu, Zi, .bool false], I6 (5:Int)]) results7 (rvs_cons (rv_cell (cs := [Zb, Zb, Zi, Zi, Zu, Zu, Zu, Zu, .bool false, Zs, Zu, Zu, Zu, Zs, Zu, Zu, Zu, Zs, Zs, Zs, Zs, Zu, Zu, Zi, Zu, Zu, Zs, Zs, Zb, Zu, Zu, Zu, Zu, Zi, Zu, Zu, Zu, Zs, Zs, Zs, Zs, Zs, Zi, Zu, Zu, Zs, Zs, Zu, Zs, Zu, Zi, Zi, Zf, Zf, Zu, Zi, .bool false]) z isAgg50 sizeOf50 (hst.bcs16 0 z)) (rvs_cons (rv_tmp z) rvs_nil)) ?_
 replace hst := hst.pull1.pull2.pull3.pull4.pull5.pull6.pull7.pull8.pull9.pull10.pull11.pull12.pull13.pull14.pull15
 exact ⟨_, Zs, Zs, Zs, Zs, Zs, Zs, Zs, Zs, Zs, Zs, Zs, Zs, Zs, Zs, Zs, Zs, z, hI0, hst.keep16⟩
}
 {
 replace hm := bif_f hc969 hm
 refine wp_iff (cvb hc969) ?_
 refine wp_skip (tn (wp_seq (wrl ?_)))
 refine wv (.agg #[U1 z859.Kind, U1 z859.M.Kind, I6 z859.M.From, I6 z859.M.To, U6 z859.M.Term, U6 z859.M.Index, U6 z859.M.LogTerm, U6 z859.M.Commit, .bool z859.M.OK, v861, U6 z859.M.S.Index, U6 z859.M.S.Term, U6 z859.M.S.Voters, v863, U6 z859.H.ID.Session, U6 z859.H.ID.Seq, U6 z859.H.Epoch, v865, v867, v869, v871, U6 z859.ID.Session, U6 z859.ID.Seq, I6 z859.R.E, U6 z859.R.Epoch, U6 z859.R.Index, v873, v875, U1 z859.C.Kind, U6 z859.C.ID.Session, U6 z859.C.ID.Seq, U6 z859.C.Epoch, U6 z859.C.Index, I6 z859.C.E, U6 z859.C.Hold.ID.Session, U6 z859.C.Hold.ID.Seq, U6 z859.C.Hold.Epoch, v877, v879, v881, v883, v885, I6 z859.C.R.E, U6 z859.C.R.Epoch, U6 z859.C.R.Index, v887, v889, U6 z859.C.Shards, v891, U6 z859.C.Rule.ID, I6 z859.C.Rule.From, I6 z859.C.Rule.To, F6 z859.C.Rule.Lo, F6 z859.C.Rule.Hi, U6 z859.C.Rule.Authority, I6 z859.C.Rule.Quota, .bool z859.C.On]) z z (x_loadN (cs := [U1 z859.Kind, U1 z859.M.Kind, I6 z859.M.From, I6 z859.M.To, U6 z859.M.Term, U6 z859.M.Index, U6 z859.M.LogTerm, U6 z859.M.Commit, .bool z859.M.OK, v861, U6 z859.M.S.Index, U6 z859.M.S.Term, U6 z859.M.S.Voters, v863, U6 z859.H.ID.Session, U6 z859.H.ID.Seq, U6 z859.H.Epoch, v865, v867, v869, v871, U6 z859.ID.Session, U6 z859.ID.Seq, I6 z859.R.E, U6 z859.R.Epoch, U6 z859.R.Index, v873, v875, U1 z859.C.Kind, U6 z859.C.ID.Session, U6 z859.C.ID.Seq, U6 z859.C.Epoch, U6 z859.C.Index, I6 z859.C.E, U6 z859.C.Hold.ID.Session, U6 z859.C.Hold.ID.Seq, U6 z859.C.Hold.Epoch, v877, v879, v881, v883, v885, I6 z859.C.R.E, U6 z859.C.R.Epoch, U6 z859.C.R.Index, v887, v889, U6 z859.C.Shards, v891, U6 z859.C.Rule.ID, I6 z859.C.Rule.From, I6 z859.C.Rule.To, F6 z859.C.Rule.Lo, F6 z859.C.Rule.Hi, U6 z859.C.Rule.Authority, I6 z859.C.Rule.Quota, .bool z859.C.On]) z isAgg50 sizeOf50 (hst.bcs19 0 z)) ?_
 replace hst := hst.pull18
 obtain ⟨w988, hr989, hst⟩ := hst.bx [U1 z859.Kind, U1 z859.M.Kind, I6 z859.M.From, I6 z859.M.To, U6 z859.M.Term, U6 z859.M.Index, U6 z859.M.LogTerm, U6 z859.M.Commit, .bool z859.M.OK, v861, U6 z859.M.S.Index, U6 z859.M.S.Term, U6 z859.M.S.Voters, v863, U6 z859.H.ID.Session, U6 z859.H.ID.Seq, U6 z859.H.Epoch, v865, v867, v869, v871, U6 z859.ID.Session, U6 z859.ID.Seq, I6 z859.R.E, U6 z859.R.Epoch, U6 z859.R.Index, v873, v875, U1 z859.C.Kind, U6 z859.C.ID.Session, U6 z859.C.ID.Seq, U6 z859.C.Epoch, U6 z859.C.Index, I6 z859.C.E, U6 z859.C.Hold.ID.Session, U6 z859.C.Hold.ID.Seq, U6 z859.C.Hold.Epoch, v877, v879, v881, v883, v885, I6 z859.C.R.E, U6 z859.C.R.Epoch, U6 z859.C.R.Index, v887, v889, U6 z859.C.Shards, v891, U6 z859.C.Rule.ID, I6 z859.C.Rule.From, I6 z859.C.Rule.To, F6 z859.C.Rule.Lo, F6 z859.C.Rule.Hi, U6 z859.C.Rule.Authority, I6 z859.C.Rule.Quota, .bool z859.C.On] sizeOf50 z (oC z (oC z (oC z (oC z (oC z (oC z (oC z (oC z (oC z (oC (one_of_sliceV hst.sv17) (oC z (oC z (oC z (oC (one_of_sliceV hst.sv16) (oC z (oC z (oC z (oC (one_of_sliceV hst.sv15) (oC (one_of_sliceV hst.sv14) (oC (one_of_sliceV hst.sv13) (oC (one_of_sliceV hst.sv12) (oC z (oC z (oC z (oC z (oC z (oC (one_of_sliceV hst.sv11) (oC (one_of_sliceV hst.sv10) (oC z (oC z (oC z (oC z (oC z (oC z (oC z (oC z (oC z (oC (one_of_sliceV hst.sv9) (oC (one_of_sliceV hst.sv8) (oC (one_of_sliceV hst.sv7) (oC (one_of_sliceV hst.sv6) (oC (one_of_sliceV hst.sv5) (oC z (oC z (oC z (oC (one_of_sliceV hst.sv4) (oC (one_of_sliceV hst.sv3) (oC z (oC (one_of_sliceV hst.sv2) (oC z (oC z (oC z (oC z (oC z (oC z (oC z (oC z oN))))))))))))))))))))))))))))))))))))))))))))))))))))))))) (by kernel_rfl)
 refine wl_unit z z (x_unit hr989) ?_
 refine wv (.int .i64 (0:Int)) z z z (wl_nil (tn (wp_ret ?_)))
 obtain rfl := some_inj hm
 refine post_ret (vs := [.agg #[U1 z859.Kind, U1 z859.M.Kind, I6 z859.M.From, I6 z859.M.To, U6 z859.M.Term, U6 z859.M.Index, U6 z859.M.LogTerm, U6 z859.M.Commit, .bool z859.M.OK, v861, U6 z859.M.S.Index, U6 z859.M.S.Term, U6 z859.M.S.Voters, v863, U6 z859.H.ID.Session, U6 z859.H.ID.Seq, U6 z859.H.Epoch, v865, v867, v869, v871, U6 z859.ID.Session, U6 z859.ID.Seq, I6 z859.R.E, U6 z859.R.Epoch, U6 z859.R.Index, v873, v875, U1 z859.C.Kind, U6 z859.C.ID.Session, U6 z859.C.ID.Seq, U6 z859.C.Epoch, U6 z859.C.Index, I6 z859.C.E, U6 z859.C.Hold.ID.Session, U6 z859.C.Hold.ID.Seq, U6 z859.C.Hold.Epoch, v877, v879, v881, v883, v885, I6 z859.C.R.E, U6 z859.C.R.Epoch, U6 z859.C.R.Index, v887, v889, U6 z859.C.Shards, v891, U6 z859.C.Rule.ID, I6 z859.C.Rule.From, I6 z859.C.Rule.To, F6 z859.C.Rule.Lo, F6 z859.C.Rule.Hi, U6 z859.C.Rule.Authority, I6 z859.C.Rule.Quota, .bool z859.C.On], Zi]) results7 (rvs_cons (rv_cell (cs := [U1 z859.Kind, U1 z859.M.Kind, I6 z859.M.From, I6 z859.M.To, U6 z859.M.Term, U6 z859.M.Index, U6 z859.M.LogTerm, U6 z859.M.Commit, .bool z859.M.OK, v861, U6 z859.M.S.Index, U6 z859.M.S.Term, U6 z859.M.S.Voters, v863, U6 z859.H.ID.Session, U6 z859.H.ID.Seq, U6 z859.H.Epoch, v865, v867, v869, v871, U6 z859.ID.Session, U6 z859.ID.Seq, I6 z859.R.E, U6 z859.R.Epoch, U6 z859.R.Index, v873, v875, U1 z859.C.Kind, U6 z859.C.ID.Session, U6 z859.C.ID.Seq, U6 z859.C.Epoch, U6 z859.C.Index, I6 z859.C.E, U6 z859.C.Hold.ID.Session, U6 z859.C.Hold.ID.Seq, U6 z859.C.Hold.Epoch, v877, v879, v881, v883, v885, I6 z859.C.R.E, U6 z859.C.R.Epoch, U6 z859.C.R.Index, v887, v889, U6 z859.C.Shards, v891, U6 z859.C.Rule.ID, I6 z859.C.Rule.From, I6 z859.C.Rule.To, F6 z859.C.Rule.Lo, F6 z859.C.Rule.Hi, U6 z859.C.Rule.Authority, I6 z859.C.Rule.Quota, .bool z859.C.On]) z isAgg50 sizeOf50 (hst.bcs0 0 z)) (rvs_cons (rv_tmp z) rvs_nil)) ?_
 replace hst := hst.pull2.pull3.pull4.pull5.pull6.pull7.pull8.pull9.pull10.pull11.pull12.pull13.pull14.pull15.pull16.pull17
 exact ⟨_, v861, v863, v865, v867, v869, v871, v873, v875, v877, v879, v881, v883, v885, v887, v889, v891, z, hI0, hst.keep16⟩
}
}
}
}

theorem ref08_SameEntries_ref {w0 w : World} {I : HL} {R : SP} {a0 : (List api_Entry)} {r0_0 : Value} {a1 : (List api_Entry)} {r1_0 : Value} (f0_0 : Rd ty_api_Entry R I r0_0 a0) (f1_0 : Rd ty_api_Entry R I r1_0 a1) (hst : St w0 w I [] R) {r : (Bool)} (hm : ref08_SameEntries a0 a1 = some r) :
  Calls prog 41 #[r0_0, r1_0] w fun e w' => e = .returned (.bool r) ∧ St w0 w' I [] R := by {
 unfold ref08_SameEntries at hm
 refine calls_start (args := [r0_0, r1_0]) func41 z ntmps41 (Nat.le_of_ble_eq_true z) ?_
 refine wp_seq (wrl (wv (.bool false) z z z (wl_nil (tn (wp_seq (wp_seq (wrl (wv (r0_0) z z z (wv (.int .i64 ((a0).length : Int)) z z (x_len z underlying26 (rd_sliceV f0_0)) (wv (r1_0) z z z (wv (.int .i64 ((a1).length : Int)) z z (x_len z underlying26 (rd_sliceV f1_0)) (wv (.bool (((a0).length : Int) != ((a1).length : Int))) z z z (wl_nil (tn ?_))))))))))))))
 refine bsplit (((a0).length : Int) != ((a1).length : Int)) (fun hc447 => ?_) (fun hc447 => ?_)
 {
 replace hm := bif_t hc447 hm
 refine wp_ift (cvb hc447) ?_
 refine wp_seq (wrl (wv (.bool false) z z z (wl_nil (tn (wp_ret (then_r ?_))))))
 obtain rfl := some_inj hm
 refine post_ret (vs := [.bool false]) results41 (rvs_cons (rv_tmp z) rvs_nil) ?_
 exact ⟨z, hst.keep0⟩
}
 {
 replace hm := bif_f hc447 hm
 refine wp_iff (cvb hc447) ?_
 refine wp_skip (tn (wp_seq (wp_seq (wrl ?_))))
 refine wv (.int .i64 (0:Int)) z z z (wl_nil (tn (wp_block ?_)))
 obtain ⟨n505, hm⟩ := loopO_some hm
 refine wp_loop_n (fun n a w => ∃ (z503 : Int) (σ504 : Nat → Value), loopN (ref08_SameEntries_l0 a0 a1) n z503 = some r ∧ a = Fr 69 (upd (upd (upd σ504 0 (r0_0)) 1 (r1_0)) 5 (.int .i64 z503)) ∧ St w0 w I [] R) n505 ⟨(0:Int), _, hm, (fu 0 r0_0 z (fu 1 r1_0 z (fu 5 (.int .i64 (0:Int)) z z))), hst⟩ ?_
 rintro n511 _ w506 ⟨z503, σ504, hm, rfl, hst⟩
 obtain ⟨n508, y509, rfl, hm, hx510⟩ := loopN_some hm
 dsimp only [ref08_SameEntries_l0] at hm
 refine wp_seq (wp_seq (wrl (wv (.int .i64 z503) z z z (wv (r0_0) z z z (wv (.int .i64 ((a0).length : Int)) z z (x_len z underlying26 (rd_sliceV f0_0)) (wv (.bool (decide (z503 < ((a0).length : Int)))) z z z (wl_nil (tn ?_))))))))
 refine bsplit (decide (z503 < ((a0).length : Int))) (fun hc512 => ?_) (fun hc512 => ?_)
 {
 replace hm := bif_t hc512 hm
 refine wp_ift (cvb hc512) ?_
 refine wp_skip (tn (wp_seq (wp_block (wp_seq ?_))))
 refine wq_regionS hst Try.mixed (by kernel_rfl) ?_
 refine wq_run (v := r0_0) z z (fun w hst => z) ?_
 refine wq_run (v := .int .i64 z503) z z (fun w hst => z) ?_
 obtain ⟨x513, hx514, hm⟩ := bind_some hm
 obtain ⟨h515, h516, hi517⟩ := geto_some hx514
 refine wq_run (v := .pointer (some (eAddr r0_0 (z503.toNat * 4 + 0)))) z z (fun w hst => x_index z z underlying26 sizeOf84 (rd_sliceV f0_0) h515 h516) ?_
 refine wq_run (v := .pointer (some (eAddr r0_0 (z503.toNat * 4 + 0)))) z z (fun w hst => x_field_e z underlying84 z sizeOf25 z) ?_
 obtain ⟨cs518, hr519, hc520⟩ := Rd.getF f0_0 hi517
 obtain ⟨v521, rfl, f522, -⟩ := hr519
 refine wq_run (v := .int .u64 x513.Index) z z (fun w hst => x_load z isAgg25 ((hc520 (HL.le.refl _) hst) 0 _ z)) ?_
 refine wq_run (v := r1_0) z z (fun w hst => z) ?_
 refine wq_run (v := .int .i64 z503) z z (fun w hst => z) ?_
 obtain ⟨x524, hx525, hm⟩ := bind_some hm
 obtain ⟨h526, h527, hi528⟩ := geto_some hx525
 refine wq_run (v := .pointer (some (eAddr r1_0 (z503.toNat * 4 + 0)))) z z (fun w hst => x_index z z underlying26 sizeOf84 (rd_sliceV f1_0) h526 h527) ?_
 refine wq_run (v := .pointer (some (eAddr r1_0 (z503.toNat * 4 + 0)))) z z (fun w hst => x_field_e z underlying84 z sizeOf25 z) ?_
 obtain ⟨cs529, hr530, hc531⟩ := Rd.getF f1_0 hi528
 obtain ⟨v532, rfl, f533, -⟩ := hr530
 refine wq_run (v := .int .u64 x524.Index) z z (fun w hst => x_load z isAgg25 ((hc531 (HL.le.refl _) hst) 0 _ z)) ?_
 refine wq_run (v := .bool (x513.Index != x524.Index)) z z (fun w hst => z) ?_
 refine wq_run (v := .bool (x513.Index != x524.Index)) z z (fun w hst => z) ?_
 refine bsplit (x513.Index != x524.Index) (fun hc535 => ?_) (fun hc535 => ?_)
 {
 replace hm := bif_t hc535 hm
 refine wq_off ((wanted_eq z z z (cvb hc535)).trans z) z ?_
 refine wq_off ((wanted_eq z z z (cvb hc535)).trans z) z ?_
 refine wq_off ((wanted_eq z z z (cvb hc535)).trans z) z ?_
 refine wq_off ((wanted_eq z z z (cvb hc535)).trans z) z ?_
 refine wq_off ((wanted_eq z z z (cvb hc535)).trans z) z ?_
 refine wq_off ((wanted_eq z z z (cvb hc535)).trans z) z ?_
 refine wq_off ((wanted_eq z z z (cvb hc535)).trans z) z ?_
 refine wq_off ((wanted_eq z z z (cvb hc535)).trans z) z ?_
 refine wq_off ((wanted_eq z z z (cvb hc535)).trans z) z ?_
 refine wq_off ((wanted_eq z z z (cvb hc535)).trans z) z ?_
 refine wq_off ((wanted_eq z z z (cvb hc535)).trans z) z ?_
 refine wq_run (v := .bool true) z z (fun w hst => x_pick_t hc535 z z) ?_
 refine wq_run (v := .bool true) z z (fun w hst => z) ?_
 refine wq_off ((wanted_eq z z z z).trans z) z ?_
 refine wq_off ((wanted_eq z z z z).trans z) z ?_
 refine wq_off ((wanted_eq z z z z).trans z) z ?_
 refine wq_off ((wanted_eq z z z z).trans z) z ?_
 refine wq_off ((wanted_eq z z z z).trans z) z ?_
 refine wq_off ((wanted_eq z z z z).trans z) z ?_
 refine wq_off ((wanted_eq z z z z).trans z) z ?_
 refine wq_off ((wanted_eq z z z z).trans z) z ?_
 refine wq_off ((wanted_eq z z z z).trans z) z ?_
 refine wq_off ((wanted_eq z z z z).trans z) z ?_
 refine wq_off ((wanted_eq z z z z).trans z) z ?_
 refine wq_run (v := .bool true) z z (fun w hst => x_pick_t z z z) ?_
 refine wq_run (v := .bool true) z z (fun w hst => z) ?_
 refine wq_off ((wanted_eq z z z z).trans z) z ?_
 refine wq_off ((wanted_eq z z z z).trans z) z ?_
 refine wq_off ((wanted_eq z z z z).trans z) z ?_
 refine wq_off ((wanted_eq z z z z).trans z) z ?_
 refine wq_off ((wanted_eq z z z z).trans z) z ?_
 refine wq_off ((wanted_eq z z z z).trans z) z ?_
 refine wq_off ((wanted_eq z z z z).trans z) z ?_
 refine wq_off ((wanted_eq z z z z).trans z) z ?_
 refine wq_off ((wanted_eq z z z z).trans z) z ?_
 refine wq_off ((wanted_eq z z z z).trans z) z ?_
 refine wq_off ((wanted_eq z z z z).trans z) z ?_
 refine wq_off ((wanted_eq z z z z).trans z) z ?_
 refine wq_off ((wanted_eq z z z z).trans z) z ?_
 refine wq_run (v := .bool true) z z (fun w hst => x_pick_t z z z) ?_
 refine wq_nil ?_
 intro w hst
 refine tn ?_
 refine wp_ift z ?_
 refine wp_seq (wrl (wv (.bool false) z z z (wl_nil (tn (wp_ret (blk_r (then_r (then_r ?_))))))))
 replace hm := inr_up hm hx510
 refine blk_r (then_r ?_)
 obtain rfl := some_inj hm
 refine post_ret (vs := [.bool false]) results41 (rvs_cons (rv_tmp z) rvs_nil) ?_
 exact ⟨z, hst.keep0⟩
}
 {
 replace hm := bif_f hc535 hm
 refine wq_run (v := r0_0) ((wanted_eq z z z (cvb hc535)).trans z) z (fun w hst => z) ?_
 refine wq_run (v := .int .i64 z503) ((wanted_eq z z z (cvb hc535)).trans z) z (fun w hst => z) ?_
 refine wq_run (v := .pointer (some (eAddr r0_0 (z503.toNat * 4 + 0)))) ((wanted_eq z z z (cvb hc535)).trans z) z (fun w hst => x_index z z underlying26 sizeOf84 (rd_sliceV f0_0) h515 h516) ?_
 refine wq_run (v := .pointer (some (eAddr r0_0 (z503.toNat * 4 + 1)))) ((wanted_eq z z z (cvb hc535)).trans z) z (fun w hst => x_field_e z underlying84 z sizeOf25 z) ?_
 refine wq_run (v := .int .u64 x513.Term) ((wanted_eq z z z (cvb hc535)).trans z) z (fun w hst => x_load z isAgg25 ((hc520 (HL.le.refl _) hst) 1 _ z)) ?_
 refine wq_run (v := r1_0) ((wanted_eq z z z (cvb hc535)).trans z) z (fun w hst => z) ?_
 refine wq_run (v := .int .i64 z503) ((wanted_eq z z z (cvb hc535)).trans z) z (fun w hst => z) ?_
 refine wq_run (v := .pointer (some (eAddr r1_0 (z503.toNat * 4 + 0)))) ((wanted_eq z z z (cvb hc535)).trans z) z (fun w hst => x_index z z underlying26 sizeOf84 (rd_sliceV f1_0) h526 h527) ?_
 refine wq_run (v := .pointer (some (eAddr r1_0 (z503.toNat * 4 + 1)))) ((wanted_eq z z z (cvb hc535)).trans z) z (fun w hst => x_field_e z underlying84 z sizeOf25 z) ?_
 refine wq_run (v := .int .u64 x524.Term) ((wanted_eq z z z (cvb hc535)).trans z) z (fun w hst => x_load z isAgg25 ((hc531 (HL.le.refl _) hst) 1 _ z)) ?_
 refine wq_run (v := .bool (x513.Term != x524.Term)) ((wanted_eq z z z (cvb hc535)).trans z) z (fun w hst => z) ?_
 refine wq_run (v := .bool (x513.Term != x524.Term)) z z (fun w hst => x_pick_f hc535 z z) ?_
 refine wq_run (v := .bool (x513.Term != x524.Term)) z z (fun w hst => z) ?_
 refine bsplit (x513.Term != x524.Term) (fun hc536 => ?_) (fun hc536 => ?_)
 {
 replace hm := bif_t hc536 hm
 refine wq_off ((wanted_eq z z z (cvb hc536)).trans z) z ?_
 refine wq_off ((wanted_eq z z z (cvb hc536)).trans z) z ?_
 refine wq_off ((wanted_eq z z z (cvb hc536)).trans z) z ?_
 refine wq_off ((wanted_eq z z z (cvb hc536)).trans z) z ?_
 refine wq_off ((wanted_eq z z z (cvb hc536)).trans z) z ?_
 refine wq_off ((wanted_eq z z z (cvb hc536)).trans z) z ?_
 refine wq_off ((wanted_eq z z z (cvb hc536)).trans z) z ?_
 refine wq_off ((wanted_eq z z z (cvb hc536)).trans z) z ?_
 refine wq_off ((wanted_eq z z z (cvb hc536)).trans z) z ?_
 refine wq_off ((wanted_eq z z z (cvb hc536)).trans z) z ?_
 refine wq_off ((wanted_eq z z z (cvb hc536)).trans z) z ?_
 refine wq_run (v := .bool true) z z (fun w hst => x_pick_t hc536 z z) ?_
 refine wq_run (v := .bool true) z z (fun w hst => z) ?_
 refine wq_off ((wanted_eq z z z z).trans z) z ?_
 refine wq_off ((wanted_eq z z z z).trans z) z ?_
 refine wq_off ((wanted_eq z z z z).trans z) z ?_
 refine wq_off ((wanted_eq z z z z).trans z) z ?_
 refine wq_off ((wanted_eq z z z z).trans z) z ?_
 refine wq_off ((wanted_eq z z z z).trans z) z ?_
 refine wq_off ((wanted_eq z z z z).trans z) z ?_
 refine wq_off ((wanted_eq z z z z).trans z) z ?_
 refine wq_off ((wanted_eq z z z z).trans z) z ?_
 refine wq_off ((wanted_eq z z z z).trans z) z ?_
 refine wq_off ((wanted_eq z z z z).trans z) z ?_
 refine wq_off ((wanted_eq z z z z).trans z) z ?_
 refine wq_off ((wanted_eq z z z z).trans z) z ?_
 refine wq_run (v := .bool true) z z (fun w hst => x_pick_t z z z) ?_
 refine wq_nil ?_
 intro w hst
 refine tn ?_
 refine wp_ift z ?_
 refine wp_seq (wrl (wv (.bool false) z z z (wl_nil (tn (wp_ret (blk_r (then_r (then_r ?_))))))))
 replace hm := inr_up hm hx510
 refine blk_r (then_r ?_)
 obtain rfl := some_inj hm
 refine post_ret (vs := [.bool false]) results41 (rvs_cons (rv_tmp z) rvs_nil) ?_
 exact ⟨z, hst.keep0⟩
}
 {
 replace hm := bif_f hc536 hm
 refine wq_run (v := r0_0) ((wanted_eq z z z (cvb hc536)).trans z) z (fun w hst => z) ?_
 refine wq_run (v := .int .i64 z503) ((wanted_eq z z z (cvb hc536)).trans z) z (fun w hst => z) ?_
 refine wq_run (v := .pointer (some (eAddr r0_0 (z503.toNat * 4 + 0)))) ((wanted_eq z z z (cvb hc536)).trans z) z (fun w hst => x_index z z underlying26 sizeOf84 (rd_sliceV f0_0) h515 h516) ?_
 refine wq_run (v := .pointer (some (eAddr r0_0 (z503.toNat * 4 + 2)))) ((wanted_eq z z z (cvb hc536)).trans z) z (fun w hst => x_field_e z underlying84 z sizeOf5 z) ?_
 refine wq_run (v := .int .u8 x513.Kind) ((wanted_eq z z z (cvb hc536)).trans z) z (fun w hst => x_load z isAgg5 ((hc520 (HL.le.refl _) hst) 2 _ z)) ?_
 refine wq_run (v := r1_0) ((wanted_eq z z z (cvb hc536)).trans z) z (fun w hst => z) ?_
 refine wq_run (v := .int .i64 z503) ((wanted_eq z z z (cvb hc536)).trans z) z (fun w hst => z) ?_
 refine wq_run (v := .pointer (some (eAddr r1_0 (z503.toNat * 4 + 0)))) ((wanted_eq z z z (cvb hc536)).trans z) z (fun w hst => x_index z z underlying26 sizeOf84 (rd_sliceV f1_0) h526 h527) ?_
 refine wq_run (v := .pointer (some (eAddr r1_0 (z503.toNat * 4 + 2)))) ((wanted_eq z z z (cvb hc536)).trans z) z (fun w hst => x_field_e z underlying84 z sizeOf5 z) ?_
 refine wq_run (v := .int .u8 x524.Kind) ((wanted_eq z z z (cvb hc536)).trans z) z (fun w hst => x_load z isAgg5 ((hc531 (HL.le.refl _) hst) 2 _ z)) ?_
 refine wq_run (v := .bool (x513.Kind != x524.Kind)) ((wanted_eq z z z (cvb hc536)).trans z) z (fun w hst => z) ?_
 refine wq_run (v := .bool (x513.Kind != x524.Kind)) z z (fun w hst => x_pick_f hc536 z z) ?_
 refine wq_run (v := .bool (x513.Kind != x524.Kind)) z z (fun w hst => z) ?_
 refine bsplit (x513.Kind != x524.Kind) (fun hc537 => ?_) (fun hc537 => ?_)
 {
 replace hm := bif_t hc537 hm
 refine wq_off ((wanted_eq z z z (cvb hc537)).trans z) z ?_
 refine wq_off ((wanted_eq z z z (cvb hc537)).trans z) z ?_
 refine wq_off ((wanted_eq z z z (cvb hc537)).trans z) z ?_
 refine wq_off ((wanted_eq z z z (cvb hc537)).trans z) z ?_
 refine wq_off ((wanted_eq z z z (cvb hc537)).trans z) z ?_
 refine wq_off ((wanted_eq z z z (cvb hc537)).trans z) z ?_
 refine wq_off ((wanted_eq z z z (cvb hc537)).trans z) z ?_
 refine wq_off ((wanted_eq z z z (cvb hc537)).trans z) z ?_
 refine wq_off ((wanted_eq z z z (cvb hc537)).trans z) z ?_
 refine wq_off ((wanted_eq z z z (cvb hc537)).trans z) z ?_
 refine wq_off ((wanted_eq z z z (cvb hc537)).trans z) z ?_
 refine wq_off ((wanted_eq z z z (cvb hc537)).trans z) z ?_
 refine wq_off ((wanted_eq z z z (cvb hc537)).trans z) z ?_
 refine wq_run (v := .bool true) z z (fun w hst => x_pick_t hc537 z z) ?_
 refine wq_nil ?_
 intro w hst
 refine tn ?_
 refine wp_ift z ?_
 refine wp_seq (wrl (wv (.bool false) z z z (wl_nil (tn (wp_ret (blk_r (then_r (then_r ?_))))))))
 replace hm := inr_up hm hx510
 refine blk_r (then_r ?_)
 obtain rfl := some_inj hm
 refine post_ret (vs := [.bool false]) results41 (rvs_cons (rv_tmp z) rvs_nil) ?_
 exact ⟨z, hst.keep0⟩
}
 {
 replace hm := bif_f hc537 hm
 refine wq_run (v := r0_0) ((wanted_eq z z z (cvb hc537)).trans z) z (fun w hst => z) ?_
 refine wq_run (v := .int .i64 z503) ((wanted_eq z z z (cvb hc537)).trans z) z (fun w hst => z) ?_
 refine wq_run (v := .pointer (some (eAddr r0_0 (z503.toNat * 4 + 0)))) ((wanted_eq z z z (cvb hc537)).trans z) z (fun w hst => x_index z z underlying26 sizeOf84 (rd_sliceV f0_0) h515 h516) ?_
 refine wq_run (v := .pointer (some (eAddr r0_0 (z503.toNat * 4 + 3)))) ((wanted_eq z z z (cvb hc537)).trans z) z (fun w hst => x_field_e z underlying84 z sizeOf22 z) ?_
 refine wq_run (v := v521) ((wanted_eq z z z (cvb hc537)).trans z) z (fun w hst => x_load z isAgg22 ((hc520 (HL.le.refl _) hst) 3 _ z)) ?_
 refine wq_run (v := .string (toStr x513.Data)) ((wanted_eq z z z (cvb hc537)).trans z) z (fun w hst => x_tostr underlying22 underlying9 underlying5 z (Src.of_rd hst f522 flat_int)) ?_
 refine wq_run (v := r1_0) ((wanted_eq z z z (cvb hc537)).trans z) z (fun w hst => z) ?_
 refine wq_run (v := .int .i64 z503) ((wanted_eq z z z (cvb hc537)).trans z) z (fun w hst => z) ?_
 refine wq_run (v := .pointer (some (eAddr r1_0 (z503.toNat * 4 + 0)))) ((wanted_eq z z z (cvb hc537)).trans z) z (fun w hst => x_index z z underlying26 sizeOf84 (rd_sliceV f1_0) h526 h527) ?_
 refine wq_run (v := .pointer (some (eAddr r1_0 (z503.toNat * 4 + 3)))) ((wanted_eq z z z (cvb hc537)).trans z) z (fun w hst => x_field_e z underlying84 z sizeOf22 z) ?_
 refine wq_run (v := v532) ((wanted_eq z z z (cvb hc537)).trans z) z (fun w hst => x_load z isAgg22 ((hc531 (HL.le.refl _) hst) 3 _ z)) ?_
 refine wq_run (v := .string (toStr x524.Data)) ((wanted_eq z z z (cvb hc537)).trans z) z (fun w hst => x_tostr underlying22 underlying9 underlying5 z (Src.of_rd hst f533 flat_int)) ?_
 refine wq_run (v := .bool (!(sEq (toStr x513.Data) (toStr x524.Data)))) ((wanted_eq z z z (cvb hc537)).trans z) z (fun w hst => by kernel_rfl) ?_
 refine wq_run (v := .bool (!(sEq (toStr x513.Data) (toStr x524.Data)))) z z (fun w hst => x_pick_f hc537 z z) ?_
 refine wq_nil ?_
 intro w hst
 refine tn ?_
 refine bsplit (!(sEq (toStr x513.Data) (toStr x524.Data))) (fun hc538 => ?_) (fun hc538 => ?_)
 {
 replace hm := bif_t hc538 hm
 refine wp_ift (cvb hc538) ?_
 refine wp_seq (wrl (wv (.bool false) z z z (wl_nil (tn (wp_ret (blk_r (then_r (then_r ?_))))))))
 replace hm := inr_up hm hx510
 refine blk_r (then_r ?_)
 obtain rfl := some_inj hm
 refine post_ret (vs := [.bool false]) results41 (rvs_cons (rv_tmp z) rvs_nil) ?_
 exact ⟨z, hst.keep0⟩
}
 {
 replace hm := bif_f hc538 hm
 refine wp_iff (cvb hc538) ?_
 refine wp_skip (blk_n (tn (wrl ?_)))
 refine wv (.int .i64 z503) z z z (wv (.int .i64 (i64.wrap (z503 + (1:Int)))) z z z (wv (.int .i64 (i64.wrap (z503 + (1:Int)))) z z z (wl_nil (tn ?_))))
 replace hst := hst.keep0
 obtain rfl := some_inj hm
 exact ⟨_, Nat.lt_succ_self _, (i64.wrap (z503 + (1:Int))), _, hx510, (fu 0 r0_0 z (fu 1 r1_0 z (fu 5 (.int .i64 (i64.wrap (z503 + (1:Int)))) z z))), hst⟩
}
}
}
}
}
 {
 replace hm := bif_f hc512 hm
 refine wp_iff (cvb hc512) ?_
 refine wp_exit (then_x (then_x ?_))
 replace hm := inr_up hm hx510
 refine blk_x (tn (wp_seq (wrl ?_)))
 refine wv (.bool true) z z z (wl_nil (tn (wp_ret ?_)))
 obtain rfl := some_inj hm
 refine post_ret (vs := [.bool true]) results41 (rvs_cons (rv_tmp z) rvs_nil) ?_
 exact ⟨z, hst.keep0⟩
}
}
}

theorem math_Signbit_ref {w0 w : World} {I : HL} {R : SP} {a0 : Nat}  (hst : St w0 w I [] R) {r : (Bool)} (hm : math_Signbit a0 = some r) :
  Calls prog 72 #[F6 a0] w fun e w' => e = .returned (.bool r) ∧ St w0 w' I [] R := by {
 unfold math_Signbit at hm
 refine calls_start (args := [F6 a0]) func72 z ntmps72 (Nat.le_of_ble_eq_true z) ?_
 refine wp_seq (wrl (wv (.bool false) z z z (wl_nil (tn (wp_seq (wrl (wv (.float .f64 a0) z z z (wv (.int .u64 (Int.ofNat a0)) z z (by kernel_rfl) (wv (.int .i64 (i64.wrap (Int.ofNat a0))) z z (by kernel_rfl) (wv (.bool (decide ((i64.wrap (Int.ofNat a0)) < (0:Int)))) z z z (wv (.bool (decide ((i64.wrap (Int.ofNat a0)) < (0:Int)))) z z z (wl_nil (tn (wp_ret ?_))))))))))))))
 obtain rfl := some_inj hm
 refine post_ret (vs := [.bool (decide ((i64.wrap (Int.ofNat a0)) < (0:Int)))]) results72 (rvs_cons (rv_tmp z) rvs_nil) ?_
 exact ⟨z, hst.keep0⟩
}

theorem ref01_Ahead_ref {w0 w : World} {I : HL} {R : SP} {a0 : Nat} {a1 : Nat}  (hst : St w0 w I [] R) {r : (Bool)} (hm : ref01_Ahead a0 a1 = some r) :
  Calls prog 71 #[F6 a0, F6 a1] w fun e w' => e = .returned (.bool r) ∧ St w0 w' I [] R := by {
 unfold ref01_Ahead at hm
 refine calls_start (args := [F6 a0, F6 a1]) func71 z ntmps71 (Nat.le_of_ble_eq_true z) ?_
 refine wp_seq (wrl (wv (.bool false) z z z (wl_nil (tn (wp_seq (wp_seq (wrl (wv (.float .f64 a0) z z z (wv (.float .f64 a0) z z z (wv (.bool (fNe a0 a0)) z z z (wl_nil (tn ?_))))))))))))
 refine bsplit (fNe a0 a0) (fun hc406 => ?_) (fun hc406 => ?_)
 {
 replace hm := bif_t hc406 hm
 refine wp_ift (cvb hc406) ?_
 refine wp_seq (wrl (wv (.bool false) z z z (wl_nil (tn (wp_ret (then_r ?_))))))
 obtain rfl := some_inj hm
 refine post_ret (vs := [.bool false]) results71 (rvs_cons (rv_tmp z) rvs_nil) ?_
 exact ⟨z, hst.keep0⟩
}
 {
 replace hm := bif_f hc406 hm
 refine wp_iff (cvb hc406) ?_
 refine wp_skip (tn (wp_seq (wp_seq (wrl ?_))))
 refine wv (.float .f64 a1) z z z (wv (.float .f64 a1) z z z (wv (.bool (fNe a1 a1)) z z z (wl_nil (tn ?_))))
 refine bsplit (fNe a1 a1) (fun hc407 => ?_) (fun hc407 => ?_)
 {
 replace hm := bif_t hc407 hm
 refine wp_ift (cvb hc407) ?_
 refine wp_seq (wrl (wv (.bool true) z z z (wl_nil (tn (wp_ret (then_r ?_))))))
 obtain rfl := some_inj hm
 refine post_ret (vs := [.bool true]) results71 (rvs_cons (rv_tmp z) rvs_nil) ?_
 exact ⟨z, hst.keep0⟩
}
 {
 replace hm := bif_f hc407 hm
 refine wp_iff (cvb hc407) ?_
 refine wp_skip (tn ?_)
 obtain ⟨y423, hm, hx424⟩ := joinO_some hm
 refine wp_cut (fun a w => ∃ (σ421 : Nat → Value), (ref01_Ahead_j0 a0 a1) () = some r ∧ a = Fr 27 (upd (upd σ421 0 (.float .f64 a0)) 1 (.float .f64 a1)) ∧ St w0 w I [] R) ?_ ?_
 {
 refine wp_seq (wrl (wv (.float .f64 a0) z z z (wv (.bool (fEq a0 (0:Nat))) z z z (wv (.bool (fEq a0 (0:Nat))) z z z ?_))))
 refine bsplit (fEq a0 (0:Nat)) (fun hc408 => ?_) (fun hc408 => ?_)
 {
 replace hm := bif_t hc408 hm
 refine wv (.float .f64 a1) ((wanted_eq z z z (cvb hc408)).trans z) z z (wv (.bool (fEq a1 (0:Nat))) ((wanted_eq z z z (cvb hc408)).trans z) z z (wv (.bool (fEq a1 (0:Nat))) z z (x_pick_t hc408 z z) (wl_nil (tn ?_))))
 refine bsplit (fEq a1 (0:Nat)) (fun hc409 => ?_) (fun hc409 => ?_)
 {
 replace hm := bif_t hc409 hm
 refine wp_ift (cvb hc409) ?_
 refine wp_seq (wrl (wv (.float .f64 a0) z z z ?_))
 obtain ⟨t410, ht411, hm⟩ := bind_some hm
 refine wc call72 [F6 a0] z z z ?_
 refine (math_Signbit_ref hst.to0 ht411).mono ?_
 rintro _ w412 ⟨rfl, hst⟩
 refine ⟨_, z, ?_⟩
 replace hst := hst.of0
 refine wv (.bool t410) z z z ?_
 refine bsplit t410 (fun hc415 => ?_) (fun hc415 => ?_)
 {
 replace hm := bif_t hc415 hm
 refine wv (.float .f64 a1) ((wanted_eq z z z (cvb hc415)).trans z) z z ?_
 obtain ⟨t416, ht417, hm⟩ := bind_some hm
 refine wl_call ((wanted_eq z z z (cvb hc415)).trans z) z (x_call call72 z (vs := [F6 a1]) z) ?_
 refine (math_Signbit_ref hst.to0 ht417).mono ?_
 rintro _ w418 ⟨rfl, hst⟩
 refine ⟨_, z, ?_⟩
 replace hst := hst.of0
 refine wv (.bool (!t416)) ((wanted_eq z z z (cvb hc415)).trans z) z z (wv (.bool (!t416)) z z (x_pick_t hc415 z z) (wv (.bool (!t416)) z z z (wl_nil (tn (wp_ret (then_r ?_))))))
 replace hm := inr_up hm hx424
 obtain rfl := some_inj hm
 refine post_ret (vs := [.bool (!t416)]) results71 (rvs_cons (rv_tmp z) rvs_nil) ?_
 exact ⟨z, hst.keep0⟩
}
 {
 replace hm := bif_f hc415 hm
 refine wo hc415 z z z z z z (wo hc415 z z z z z z (wo hc415 z z z z z z (wv (.bool false) z z (x_pick_f hc415 z z) (wv (.bool false) z z z (wl_nil (tn (wp_ret (then_r ?_))))))))
 replace hm := inr_up hm hx424
 obtain rfl := some_inj hm
 refine post_ret (vs := [.bool false]) results71 (rvs_cons (rv_tmp z) rvs_nil) ?_
 exact ⟨z, hst.keep0⟩
}
}
 {
 replace hm := bif_f hc409 hm
 refine wp_iff (cvb hc409) ?_
 refine wp_skip (tn ?_)
 replace hst := hst.keep0
 obtain rfl := some_inj hm
 exact ⟨_, hx424, (fu 0 (.float .f64 a0) z (fu 1 (.float .f64 a1) z z)), hst⟩
}
}
 {
 replace hm := bif_f hc408 hm
 refine wo hc408 z z z z z z (wo hc408 z z z z z z (wv (.bool false) z z (x_pick_f hc408 z z) (wl_nil (tn ?_))))
 refine wp_iff z ?_
 refine wp_skip (tn ?_)
 replace hst := hst.keep0
 obtain rfl := some_inj hm
 exact ⟨_, hx424, (fu 0 (.float .f64 a0) z (fu 1 (.float .f64 a1) z z)), hst⟩
}
}
 {
 clear hst
 rintro _ w425 ⟨σ421, hm, rfl, hst⟩
 dsimp only [ref01_Ahead_j0] at hm
 refine wp_seq (wrl (wv (.float .f64 a0) z z z (wv (.float .f64 a1) z z z (wv (.bool (fLt a0 a1)) z z z (wv (.bool (fLt a0 a1)) z z z (wl_nil (tn (wp_ret ?_))))))))
 obtain rfl := some_inj hm
 refine post_ret (vs := [.bool (fLt a0 a1)]) results71 (rvs_cons (rv_tmp z) rvs_nil) ?_
 exact ⟨z, hst.keep0⟩
}
}
}
}

theorem ref01_Same_ref {w0 w : World} {I : HL} {R : SP} {a0 : Nat} {a1 : Nat}  (hst : St w0 w I [] R) {r : (Bool)} (hm : ref01_Same a0 a1 = some r) :
  Calls prog 64 #[F6 a0, F6 a1] w fun e w' => e = .returned (.bool r) ∧ St w0 w' I [] R := by {
 unfold ref01_Same at hm
 refine calls_start (args := [F6 a0, F6 a1]) func64 z ntmps64 (Nat.le_of_ble_eq_true z) ?_
 refine wp_seq (wrl (wv (.bool false) z z z (wl_nil (tn (wp_seq (wrl (wv (.float .f64 a0) z z z (wv (.float .f64 a1) z z z ?_))))))))
 obtain ⟨t397, ht398, hm⟩ := bind_some hm
 refine wc call71 [F6 a0, F6 a1] z z z ?_
 refine (ref01_Ahead_ref hst.to0 ht398).mono ?_
 rintro _ w399 ⟨rfl, hst⟩
 refine ⟨_, z, ?_⟩
 replace hst := hst.of0
 refine wv (.bool (!t397)) z z z (wv (.bool (!t397)) z z z ?_)
 refine bsplit (!t397) (fun hc402 => ?_) (fun hc402 => ?_)
 {
 replace hm := bif_t hc402 hm
 refine wv (.float .f64 a1) ((wanted_eq z z z (cvb hc402)).trans z) z z (wv (.float .f64 a0) ((wanted_eq z z z (cvb hc402)).trans z) z z ?_)
 obtain ⟨t403, ht404, hm⟩ := bind_some hm
 refine wl_call ((wanted_eq z z z (cvb hc402)).trans z) z (x_call call71 z (vs := [F6 a1, F6 a0]) z) ?_
 refine (ref01_Ahead_ref hst.to0 ht404).mono ?_
 rintro _ w405 ⟨rfl, hst⟩
 refine ⟨_, z, ?_⟩
 replace hst := hst.of0
 refine wv (.bool (!t403)) ((wanted_eq z z z (cvb hc402)).trans z) z z (wv (.bool (!t403)) z z (x_pick_t hc402 z z) (wv (.bool (!t403)) z z z (wl_nil (tn (wp_ret ?_)))))
 obtain rfl := some_inj hm
 refine post_ret (vs := [.bool (!t403)]) results64 (rvs_cons (rv_tmp z) rvs_nil) ?_
 exact ⟨z, hst.keep0⟩
}
 {
 replace hm := bif_f hc402 hm
 refine wo hc402 z z z z z z (wo hc402 z z z z z z (wo hc402 z z z z z z (wo hc402 z z z z z z (wv (.bool false) z z (x_pick_f hc402 z z) (wv (.bool false) z z z (wl_nil (tn (wp_ret ?_))))))))
 obtain rfl := some_inj hm
 refine post_ret (vs := [.bool false]) results64 (rvs_cons (rv_tmp z) rvs_nil) ?_
 exact ⟨z, hst.keep0⟩
}
}

theorem ref11_SameHold_ref {w0 w : World} {I : HL} {R : SP} {a0 : api_Hold} {r0_0 : Value} {r0_1 : Value} {r0_2 : Value} {r0_3 : Value} {a1 : api_Hold} {r1_0 : Value} {r1_1 : Value} {r1_2 : Value} {r1_3 : Value} (f0_0 : Rd tyF64 R I r0_0 a0.Gets) (f0_1 : Rd tyF2 R I r0_1 a0.Scans) (f0_2 : Rd tyF64 R I r0_2 a0.Puts) (f0_3 : Rd (tyInt .u8) R I r0_3 a0.Data) (f1_0 : Rd tyF64 R I r1_0 a1.Gets) (f1_1 : Rd tyF2 R I r1_1 a1.Scans) (f1_2 : Rd tyF64 R I r1_2 a1.Puts) (f1_3 : Rd (tyInt .u8) R I r1_3 a1.Data) (hst : St w0 w I [] R) {r : (Bool)} (hm : ref11_SameHold a0 a1 = some r) :
  Calls prog 42 #[.agg #[U6 a0.ID.Session, U6 a0.ID.Seq, U6 a0.Epoch, r0_0, r0_1, r0_2, r0_3], .agg #[U6 a1.ID.Session, U6 a1.ID.Seq, U6 a1.Epoch, r1_0, r1_1, r1_2, r1_3]] w fun e w' => e = .returned (.bool r) ∧ St w0 w' I [] R := by {
 unfold ref11_SameHold at hm
 refine calls_start (args := [.agg #[U6 a0.ID.Session, U6 a0.ID.Seq, U6 a0.Epoch, r0_0, r0_1, r0_2, r0_3], .agg #[U6 a1.ID.Session, U6 a1.ID.Seq, U6 a1.Epoch, r1_0, r1_1, r1_2, r1_3]]) func42 z ntmps42 (Nat.le_of_ble_eq_true z) ?_
 refine wp_seq (wrl ?_)
 obtain ⟨b604, w605, ew606, eb607, hst⟩ := hst.box [U6 a0.ID.Session, U6 a0.ID.Seq, U6 a0.Epoch, r0_0, r0_1, r0_2, r0_3] 36
 refine wl_run (v := Pt b604 0) (w' := w605) z z (x_al (by kernel_rfl) ew606 eb607) ?_
 obtain ⟨b609, w610, ew611, eb612, hst⟩ := hst.box [U6 a1.ID.Session, U6 a1.ID.Seq, U6 a1.Epoch, r1_0, r1_1, r1_2, r1_3] 36
 refine wl_run (v := Pt b609 0) (w' := w610) z z (x_al (by kernel_rfl) ew611 eb612) ?_
 refine wv (.bool false) z z z (wl_nil (tn (wp_seq (wp_seq (wrl (wv (Pt b604 0) z z (x_field z underlying36 z sizeOf32 z) (wv (.agg #[U6 a0.ID.Session, U6 a0.ID.Seq]) z z (x_loadN (cs := [U6 a0.ID.Session, U6 a0.ID.Seq]) z isAgg32 sizeOf32 (hst.bcs1 0 z)) (wv (Pt b609 0) z z (x_field z underlying36 z sizeOf32 z) (wv (.agg #[U6 a1.ID.Session, U6 a1.ID.Seq]) z z (x_loadN (cs := [U6 a1.ID.Session, U6 a1.ID.Seq]) z isAgg32 sizeOf32 (hst.bcs0 0 z)) (wv (.bool (!((a0.ID.Session == a1.ID.Session) && (a0.ID.Seq == a1.ID.Seq)))) z z (x_aggne2 z z (by kernel_rfl) underlying32 (by kernel_rfl) (by kernel_rfl) (by kernel_rfl) underlying25 underlying25 (fun _ _ _ => by kernel_rfl) (fun _ _ _ => by kernel_rfl)) (wv (.bool (!((a0.ID.Session == a1.ID.Session) && (a0.ID.Seq == a1.ID.Seq)))) z z z ?_)))))))))))
 refine bsplit (!((a0.ID.Session == a1.ID.Session) && (a0.ID.Seq == a1.ID.Seq))) (fun hc614 => ?_) (fun hc614 => ?_)
 {
 replace hm := bif_t hc614 hm
 refine wo hc614 z z z z z z (wo hc614 z z z z z z (wo hc614 z z z z z z (wo hc614 z z z z z z (wo hc614 z z z z z z (wv (.bool true) z z (x_pick_t hc614 z z) (wv (.bool true) z z z (wz z z z z z z (wz z z z z z z (wz z z z z z z (wz z z z z z z (wz z z z z z z (wz z z z z z z ?_))))))))))))
 refine wz z z z z z z (wv (.bool true) z z (x_pick_t z z z) (wv (.bool true) z z z (wz z z z z z z (wz z z z z z z (wz z z z z z z (wz z z z z z z (wz z z z z z z (wz z z z z z z (wz z z z z z z (wv (.bool true) z z (x_pick_t z z z) (wv (.bool true) z z z (wz z z z z z z ?_))))))))))))
 refine wz z z z z z z (wz z z z z z z (wz z z z z z z (wz z z z z z z (wz z z z z z z (wz z z z z z z (wv (.bool true) z z (x_pick_t z z z) (wv (.bool true) z z z (wz z z z z z z (wz z z z z z z (wz z z z z z z (wz z z z z z z (wz z z z z z z ?_))))))))))))
 refine wz z z z z z z (wz z z z z z z (wv (.bool true) z z (x_pick_t z z z) (wl_nil (tn ?_))))
 refine wp_ift z ?_
 refine wp_seq (wrl (wv (.bool false) z z z (wl_nil (tn (wp_ret (then_r ?_))))))
 obtain rfl := some_inj hm
 refine post_ret (vs := [.bool false]) results42 (rvs_cons (rv_tmp z) rvs_nil) ?_
 exact ⟨z, hst.keep0⟩
}
 {
 replace hm := bif_f hc614 hm
 refine wv (Pt b604 2) ((wanted_eq z z z (cvb hc614)).trans z) z (x_field z underlying36 z sizeOf25 z) (wv (.int .u64 a0.Epoch) ((wanted_eq z z z (cvb hc614)).trans z) z (x_load z isAgg25 (hst.bc1 z)) (wv (Pt b609 2) ((wanted_eq z z z (cvb hc614)).trans z) z (x_field z underlying36 z sizeOf25 z) (wv (.int .u64 a1.Epoch) ((wanted_eq z z z (cvb hc614)).trans z) z (x_load z isAgg25 (hst.bc0 z)) (wv (.bool (a0.Epoch != a1.Epoch)) ((wanted_eq z z z (cvb hc614)).trans z) z z (wv (.bool (a0.Epoch != a1.Epoch)) z z (x_pick_f hc614 z z) (wv (.bool (a0.Epoch != a1.Epoch)) z z z ?_))))))
 refine bsplit (a0.Epoch != a1.Epoch) (fun hc615 => ?_) (fun hc615 => ?_)
 {
 replace hm := bif_t hc615 hm
 refine wo hc615 z z z z z z (wo hc615 z z z z z z (wo hc615 z z z z z z (wo hc615 z z z z z z (wo hc615 z z z z z z (wo hc615 z z z z z z (wo hc615 z z z z z z (wv (.bool true) z z (x_pick_t hc615 z z) (wv (.bool true) z z z (wz z z z z z z (wz z z z z z z (wz z z z z z z (wz z z z z z z ?_))))))))))))
 refine wz z z z z z z (wz z z z z z z (wz z z z z z z (wv (.bool true) z z (x_pick_t z z z) (wv (.bool true) z z z (wz z z z z z z (wz z z z z z z (wz z z z z z z (wz z z z z z z (wz z z z z z z (wz z z z z z z (wz z z z z z z (wv (.bool true) z z (x_pick_t z z z) ?_))))))))))))
 refine wv (.bool true) z z z (wz z z z z z z (wz z z z z z z (wz z z z z z z (wz z z z z z z (wz z z z z z z (wz z z z z z z (wz z z z z z z (wv (.bool true) z z (x_pick_t z z z) (wl_nil (tn ?_))))))))))
 refine wp_ift z ?_
 refine wp_seq (wrl (wv (.bool false) z z z (wl_nil (tn (wp_ret (then_r ?_))))))
 obtain rfl := some_inj hm
 refine post_ret (vs := [.bool false]) results42 (rvs_cons (rv_tmp z) rvs_nil) ?_
 exact ⟨z, hst.keep0⟩
}
 {
 replace hm := bif_f hc615 hm
 refine wv (Pt b604 3) ((wanted_eq z z z (cvb hc615)).trans z) z (x_field z underlying36 z sizeOf33 z) (wv (r0_0) ((wanted_eq z z z (cvb hc615)).trans z) z (x_load z isAgg33 (hst.bc1 z)) (wv (.int .i64 ((a0.Gets).length : Int)) ((wanted_eq z z z (cvb hc615)).trans z) z (x_len z underlying33 (rd_sliceV f0_0)) (wv (Pt b609 3) ((wanted_eq z z z (cvb hc615)).trans z) z (x_field z underlying36 z sizeOf33 z) (wv (r1_0) ((wanted_eq z z z (cvb hc615)).trans z) z (x_load z isAgg33 (hst.bc0 z)) (wv (.int .i64 ((a1.Gets).length : Int)) ((wanted_eq z z z (cvb hc615)).trans z) z (x_len z underlying33 (rd_sliceV f1_0)) (wv (.bool (((a0.Gets).length : Int) != ((a1.Gets).length : Int))) ((wanted_eq z z z (cvb hc615)).trans z) z z (wv (.bool (((a0.Gets).length : Int) != ((a1.Gets).length : Int))) z z (x_pick_f hc615 z z) (wv (.bool (((a0.Gets).length : Int) != ((a1.Gets).length : Int))) z z z ?_))))))))
 refine bsplit (((a0.Gets).length : Int) != ((a1.Gets).length : Int)) (fun hc616 => ?_) (fun hc616 => ?_)
 {
 replace hm := bif_t hc616 hm
 refine wo hc616 z z z z z z (wo hc616 z z z z z z (wo hc616 z z z z z z (wo hc616 z z z z z z (wo hc616 z z z z z z (wo hc616 z z z z z z (wo hc616 z z z z z z (wv (.bool true) z z (x_pick_t hc616 z z) (wv (.bool true) z z z (wz z z z z z z (wz z z z z z z (wz z z z z z z (wz z z z z z z ?_))))))))))))
 refine wz z z z z z z (wz z z z z z z (wz z z z z z z (wv (.bool true) z z (x_pick_t z z z) (wv (.bool true) z z z (wz z z z z z z (wz z z z z z z (wz z z z z z z (wz z z z z z z (wz z z z z z z (wz z z z z z z (wz z z z z z z (wv (.bool true) z z (x_pick_t z z z) ?_))))))))))))
 refine wl_nil (tn ?_)
 refine wp_ift z ?_
 refine wp_seq (wrl (wv (.bool false) z z z (wl_nil (tn (wp_ret (then_r ?_))))))
 obtain rfl := some_inj hm
 refine post_ret (vs := [.bool false]) results42 (rvs_cons (rv_tmp z) rvs_nil) ?_
 exact ⟨z, hst.keep0⟩
}
 {
 replace hm := bif_f hc616 hm
 refine wv (Pt b604 4) ((wanted_eq z z z (cvb hc616)).trans z) z (x_field z underlying36 z sizeOf34 z) (wv (r0_1) ((wanted_eq z z z (cvb hc616)).trans z) z (x_load z isAgg34 (hst.bc1 z)) (wv (.int .i64 ((a0.Scans).length : Int)) ((wanted_eq z z z (cvb hc616)).trans z) z (x_len z underlying34 (rd_sliceV f0_1)) (wv (Pt b609 4) ((wanted_eq z z z (cvb hc616)).trans z) z (x_field z underlying36 z sizeOf34 z) (wv (r1_1) ((wanted_eq z z z (cvb hc616)).trans z) z (x_load z isAgg34 (hst.bc0 z)) (wv (.int .i64 ((a1.Scans).length : Int)) ((wanted_eq z z z (cvb hc616)).trans z) z (x_len z underlying34 (rd_sliceV f1_1)) (wv (.bool (((a0.Scans).length : Int) != ((a1.Scans).length : Int))) ((wanted_eq z z z (cvb hc616)).trans z) z z (wv (.bool (((a0.Scans).length : Int) != ((a1.Scans).length : Int))) z z (x_pick_f hc616 z z) (wv (.bool (((a0.Scans).length : Int) != ((a1.Scans).length : Int))) z z z ?_))))))))
 refine bsplit (((a0.Scans).length : Int) != ((a1.Scans).length : Int)) (fun hc617 => ?_) (fun hc617 => ?_)
 {
 replace hm := bif_t hc617 hm
 refine wo hc617 z z z z z z (wo hc617 z z z z z z (wo hc617 z z z z z z (wo hc617 z z z z z z (wo hc617 z z z z z z (wo hc617 z z z z z z (wo hc617 z z z z z z (wv (.bool true) z z (x_pick_t hc617 z z) (wv (.bool true) z z z (wz z z z z z z (wz z z z z z z (wz z z z z z z (wz z z z z z z ?_))))))))))))
 refine wz z z z z z z (wz z z z z z z (wz z z z z z z (wv (.bool true) z z (x_pick_t z z z) (wl_nil (tn ?_)))))
 refine wp_ift z ?_
 refine wp_seq (wrl (wv (.bool false) z z z (wl_nil (tn (wp_ret (then_r ?_))))))
 obtain rfl := some_inj hm
 refine post_ret (vs := [.bool false]) results42 (rvs_cons (rv_tmp z) rvs_nil) ?_
 exact ⟨z, hst.keep0⟩
}
 {
 replace hm := bif_f hc617 hm
 refine wv (Pt b604 5) ((wanted_eq z z z (cvb hc617)).trans z) z (x_field z underlying36 z sizeOf33 z) (wv (r0_2) ((wanted_eq z z z (cvb hc617)).trans z) z (x_load z isAgg33 (hst.bc1 z)) (wv (.int .i64 ((a0.Puts).length : Int)) ((wanted_eq z z z (cvb hc617)).trans z) z (x_len z underlying33 (rd_sliceV f0_2)) (wv (Pt b609 5) ((wanted_eq z z z (cvb hc617)).trans z) z (x_field z underlying36 z sizeOf33 z) (wv (r1_2) ((wanted_eq z z z (cvb hc617)).trans z) z (x_load z isAgg33 (hst.bc0 z)) (wv (.int .i64 ((a1.Puts).length : Int)) ((wanted_eq z z z (cvb hc617)).trans z) z (x_len z underlying33 (rd_sliceV f1_2)) (wv (.bool (((a0.Puts).length : Int) != ((a1.Puts).length : Int))) ((wanted_eq z z z (cvb hc617)).trans z) z z (wv (.bool (((a0.Puts).length : Int) != ((a1.Puts).length : Int))) z z (x_pick_f hc617 z z) (wv (.bool (((a0.Puts).length : Int) != ((a1.Puts).length : Int))) z z z ?_))))))))
 refine bsplit (((a0.Puts).length : Int) != ((a1.Puts).length : Int)) (fun hc618 => ?_) (fun hc618 => ?_)
 {
 replace hm := bif_t hc618 hm
 refine wo hc618 z z z z z z (wo hc618 z z z z z z (wo hc618 z z z z z z (wo hc618 z z z z z z (wo hc618 z z z z z z (wo hc618 z z z z z z (wo hc618 z z z z z z (wv (.bool true) z z (x_pick_t hc618 z z) (wl_nil (tn ?_)))))))))
 refine wp_ift z ?_
 refine wp_seq (wrl (wv (.bool false) z z z (wl_nil (tn (wp_ret (then_r ?_))))))
 obtain rfl := some_inj hm
 refine post_ret (vs := [.bool false]) results42 (rvs_cons (rv_tmp z) rvs_nil) ?_
 exact ⟨z, hst.keep0⟩
}
 {
 replace hm := bif_f hc618 hm
 refine wv (Pt b604 6) ((wanted_eq z z z (cvb hc618)).trans z) z (x_field z underlying36 z sizeOf22 z) (wv (r0_3) ((wanted_eq z z z (cvb hc618)).trans z) z (x_load z isAgg22 (hst.bc1 z)) (wv (.string (toStr a0.Data)) ((wanted_eq z z z (cvb hc618)).trans z) z (x_tostr underlying22 underlying9 underlying5 z (Src.of_rd hst f0_3 flat_int)) (wv (Pt b609 6) ((wanted_eq z z z (cvb hc618)).trans z) z (x_field z underlying36 z sizeOf22 z) (wv (r1_3) ((wanted_eq z z z (cvb hc618)).trans z) z (x_load z isAgg22 (hst.bc0 z)) (wv (.string (toStr a1.Data)) ((wanted_eq z z z (cvb hc618)).trans z) z (x_tostr underlying22 underlying9 underlying5 z (Src.of_rd hst f1_3 flat_int)) (wv (.bool (!(sEq (toStr a0.Data) (toStr a1.Data)))) ((wanted_eq z z z (cvb hc618)).trans z) z (by kernel_rfl) (wv (.bool (!(sEq (toStr a0.Data) (toStr a1.Data)))) z z (x_pick_f hc618 z z) (wl_nil (tn ?_)))))))))
 refine bsplit (!(sEq (toStr a0.Data) (toStr a1.Data))) (fun hc619 => ?_) (fun hc619 => ?_)
 {
 replace hm := bif_t hc619 hm
 refine wp_ift (cvb hc619) ?_
 refine wp_seq (wrl (wv (.bool false) z z z (wl_nil (tn (wp_ret (then_r ?_))))))
 obtain rfl := some_inj hm
 refine post_ret (vs := [.bool false]) results42 (rvs_cons (rv_tmp z) rvs_nil) ?_
 exact ⟨z, hst.keep0⟩
}
 {
 replace hm := bif_f hc619 hm
 refine wp_iff (cvb hc619) ?_
 refine wp_skip (tn ?_)
 obtain ⟨y683, hm, hx684⟩ := joinO_some hm
 refine wp_cut (fun a w => ∃ (σ681 : Nat → Value), (ref11_SameHold_j0 a0 a1) () = some r ∧ a = Fr 131 (upd (upd σ681 2 (Pt b604 0)) 3 (Pt b609 0)) ∧ St w0 w I [cells b604 [U6 a0.ID.Session, U6 a0.ID.Seq, U6 a0.Epoch, r0_0, r0_1, r0_2, r0_3], cells b609 [U6 a1.ID.Session, U6 a1.ID.Seq, U6 a1.Epoch, r1_0, r1_1, r1_2, r1_3]] R) ?_ ?_
 {
 refine wp_seq (wrl (wv (.int .i64 (0:Int)) z z z (wl_nil (tn (wp_block ?_)))))
 obtain ⟨n657, hm⟩ := loopO_some hm
 refine wp_loop_n (fun n a w => ∃ (z655 : Int) (σ656 : Nat → Value), loopN (ref11_SameHold_l1 a0 a1) n z655 = some y683 ∧ a = Fr 131 (upd (upd (upd σ656 2 (Pt b604 0)) 3 (Pt b609 0)) 5 (.int .i64 z655)) ∧ St w0 w I [cells b609 [U6 a1.ID.Session, U6 a1.ID.Seq, U6 a1.Epoch, r1_0, r1_1, r1_2, r1_3], cells b604 [U6 a0.ID.Session, U6 a0.ID.Seq, U6 a0.Epoch, r0_0, r0_1, r0_2, r0_3]] R) n657 ⟨(0:Int), _, hm, (fu 2 (Pt b604 0) z (fu 3 (Pt b609 0) z (fu 5 (.int .i64 (0:Int)) z z))), hst⟩ ?_
 rintro n663 _ w658 ⟨z655, σ656, hm, rfl, hst⟩
 obtain ⟨n660, y661, rfl, hm, hx662⟩ := loopN_some hm
 dsimp only [ref11_SameHold_l1] at hm
 refine wp_seq (wp_seq (wrl (wv (.int .i64 z655) z z z (wv (Pt b604 3) z z (x_field z underlying36 z sizeOf33 z) (wv (r0_0) z z (x_load z isAgg33 (hst.bc1 z)) (wv (.int .i64 ((a0.Gets).length : Int)) z z (x_len z underlying33 (rd_sliceV f0_0)) (wv (.bool (decide (z655 < ((a0.Gets).length : Int)))) z z z (wl_nil (tn ?_)))))))))
 refine bsplit (decide (z655 < ((a0.Gets).length : Int))) (fun hc664 => ?_) (fun hc664 => ?_)
 {
 replace hm := bif_t hc664 hm
 refine wp_ift (cvb hc664) ?_
 refine wp_skip (tn (wp_seq (wp_block (wp_seq ?_))))
 refine wp_region_St hst 12 [0, 1, 2, 3, 4, 5, 6, 7, 8, 9, 10, 11] [0, 1, 0, 7, 15, 0, 32, 0, 224, 480, 1023, 2047] [] z (by kernel_rfl) (by kernel_rfl) Try.mixed (by kernel_rfl) ?_
 refine wsr (Pt b604 3) 0 z z z (by kernel_rfl) (fun w hst => x_field z underlying36 z sizeOf33 z) (wsr (r0_0) 1 z z z (by kernel_rfl) (fun w hst => x_load z isAgg33 (hst.bc1 z)) (wsr (.int .i64 z655) 2 z z z (by kernel_rfl) (fun w hst => z) ?_))
 obtain ⟨x665, hx666, hm⟩ := bind_some hm
 obtain ⟨h667, h668, hi669⟩ := geto_some hx666
 refine wsr (.pointer (some (eAddr r0_0 (z655.toNat * 1 + 0)))) 3 z z z (by kernel_rfl) (fun w hst => x_index z z underlying33 sizeOf44 (rd_sliceV f0_0) h667 h668) (wsr (.float .f64 x665) 4 z z z (by kernel_rfl) (fun w hst => x_load z isAgg44 (rd_load f0_0 (HL.le.refl _) hst hi669 (by rintro _ rfl; rfl))) (wsr (Pt b609 3) 5 z z z (by kernel_rfl) (fun w hst => x_field z underlying36 z sizeOf33 z) (wsr (r1_0) 6 z z z (by kernel_rfl) (fun w hst => x_load z isAgg33 (hst.bc0 z)) (wsr (.int .i64 z655) 7 z z z (by kernel_rfl) (fun w hst => z) ?_))))
 obtain ⟨x670, hx671, hm⟩ := bind_some hm
 obtain ⟨h672, h673, hi674⟩ := geto_some hx671
 refine wsr (.pointer (some (eAddr r1_0 (z655.toNat * 1 + 0)))) 8 z z z (by kernel_rfl) (fun w hst => x_index z z underlying33 sizeOf44 (rd_sliceV f1_0) h672 h673) (wsr (.float .f64 x670) 9 z z z (by kernel_rfl) (fun w hst => x_load z isAgg44 (rd_load f1_0 (HL.le.refl _) hst hi674 (by rintro _ rfl; rfl))) ?_)
 refine ws_e1 10 (by kernel_rfl) ?_
 refine nxe [11] (by kernel_rfl) z z ?_
 clear hst
 intro w hst
 obtain ⟨t675, ht676, hm⟩ := bind_some hm
 refine wec call64 [F6 x665, F6 x670] z z ?_
 refine (ref01_Same_ref hst.to0 ht676).mono ?_
 rintro _ w677 ⟨rfl, hst⟩
 refine ⟨_, z, ?_⟩
 replace hst := hst.of0
 refine ws_next (pend' := []) hst (by kernel_rfl) pk_nil ?_
 refine wsr (.bool (!t675)) 11 z z z (by kernel_rfl) (fun w hst => z) ?_
 refine ws_nil ?_
 intro w hst
 refine tn ?_
 refine bsplit (!t675) (fun hc680 => ?_) (fun hc680 => ?_)
 {
 replace hm := bif_t hc680 hm
 refine wp_ift (cvb hc680) ?_
 refine wp_seq (wrl (wv (.bool false) z z z (wl_nil (tn (wp_ret (blk_r (then_r (then_r ?_))))))))
 replace hm := inr_up hm hx662
 refine blk_r (then_r ?_)
 replace hm := inr_up hm hx684
 obtain rfl := some_inj hm
 refine post_ret (vs := [.bool false]) results42 (rvs_cons (rv_tmp z) rvs_nil) ?_
 exact ⟨z, hst.keep0⟩
}
 {
 replace hm := bif_f hc680 hm
 refine wp_iff (cvb hc680) ?_
 refine wp_skip (blk_n (tn (wrl ?_)))
 refine wv (.int .i64 z655) z z z (wv (.int .i64 (i64.wrap (z655 + (1:Int)))) z z z (wv (.int .i64 (i64.wrap (z655 + (1:Int)))) z z z (wl_nil (tn ?_))))
 replace hst := hst.pull1.pull1.keep2
 obtain rfl := some_inj hm
 exact ⟨_, Nat.lt_succ_self _, (i64.wrap (z655 + (1:Int))), _, hx662, (fu 2 (Pt b604 0) z (fu 3 (Pt b609 0) z (fu 5 (.int .i64 (i64.wrap (z655 + (1:Int)))) z z))), hst⟩
}
}
 {
 replace hm := bif_f hc664 hm
 refine wp_iff (cvb hc664) ?_
 refine wp_exit (then_x (then_x ?_))
 replace hm := inr_up hm hx662
 refine blk_x (tn ?_)
 replace hst := hst.pull1.keep2
 obtain rfl := some_inj hm
 exact ⟨_, hx684, (fu 2 (Pt b604 0) z (fu 3 (Pt b609 0) z z)), hst⟩
}
}
 {
 clear hst
 rintro _ w685 ⟨σ681, hm, rfl, hst⟩
 dsimp only [ref11_SameHold_j0] at hm
 obtain ⟨y767, hm, hx768⟩ := joinO_some hm
 refine wp_cut (fun a w => ∃ (σ765 : Nat → Value), (ref11_SameHold_j2 a0 a1) () = some r ∧ a = Fr 131 (upd (upd σ765 2 (Pt b604 0)) 3 (Pt b609 0)) ∧ St w0 w I [cells b604 [U6 a0.ID.Session, U6 a0.ID.Seq, U6 a0.Epoch, r0_0, r0_1, r0_2, r0_3], cells b609 [U6 a1.ID.Session, U6 a1.ID.Seq, U6 a1.Epoch, r1_0, r1_1, r1_2, r1_3]] R) ?_ ?_
 {
 refine wp_seq (wrl (wv (.int .i64 (0:Int)) z z z (wl_nil (tn (wp_block ?_)))))
 obtain ⟨n735, hm⟩ := loopO_some hm
 refine wp_loop_n (fun n a w => ∃ (z733 : Int) (σ734 : Nat → Value), loopN (ref11_SameHold_l3 a0 a1) n z733 = some y767 ∧ a = Fr 131 (upd (upd (upd σ734 2 (Pt b604 0)) 3 (Pt b609 0)) 6 (.int .i64 z733)) ∧ St w0 w I [cells b604 [U6 a0.ID.Session, U6 a0.ID.Seq, U6 a0.Epoch, r0_0, r0_1, r0_2, r0_3], cells b609 [U6 a1.ID.Session, U6 a1.ID.Seq, U6 a1.Epoch, r1_0, r1_1, r1_2, r1_3]] R) n735 ⟨(0:Int), _, hm, (fu 2 (Pt b604 0) z (fu 3 (Pt b609 0) z (fu 6 (.int .i64 (0:Int)) z z))), hst⟩ ?_
 rintro n741 _ w736 ⟨z733, σ734, hm, rfl, hst⟩
 obtain ⟨n738, y739, rfl, hm, hx740⟩ := loopN_some hm
 dsimp only [ref11_SameHold_l3] at hm
 refine wp_seq (wp_seq (wrl (wv (.int .i64 z733) z z z (wv (Pt b604 4) z z (x_field z underlying36 z sizeOf34 z) (wv (r0_1) z z (x_load z isAgg34 (hst.bc0 z)) (wv (.int .i64 ((a0.Scans).length : Int)) z z (x_len z underlying34 (rd_sliceV f0_1)) (wv (.bool (decide (z733 < ((a0.Scans).length : Int)))) z z z (wl_nil (tn ?_)))))))))
 refine bsplit (decide (z733 < ((a0.Scans).length : Int))) (fun hc742 => ?_) (fun hc742 => ?_)
 {
 replace hm := bif_t hc742 hm
 refine wp_ift (cvb hc742) ?_
 refine wp_skip (tn (wp_seq (wp_block (wp_seq ?_))))
 refine wp_region_St hst 30 [0, 1, 2, 3, 4, 5, 6, 7, 8, 9, 10, 11, 12, 13, 14, 15, 16, 17, 18, 19, 20, 21, 22, 23, 24, 25, 26, 27, 28, 29] [0, 1, 0, 7, 15, 31, 0, 64, 0, 448, 960, 1984, 4095, 8191, 16383, 32767, 65535, 32767, 262143, 524287, 1048575, 32767, 2129919, 32767, 14712831, 31490047, 65044479, 134217727, 268435455, 536870911] [] z (by kernel_rfl) (by kernel_rfl) Try.mixed (by kernel_rfl) ?_
 refine wsr (Pt b604 4) 0 z z z (by kernel_rfl) (fun w hst => x_field z underlying36 z sizeOf34 z) (wsr (r0_1) 1 z z z (by kernel_rfl) (fun w hst => x_load z isAgg34 (hst.bc0 z)) (wsr (.int .i64 z733) 2 z z z (by kernel_rfl) (fun w hst => z) ?_))
 obtain ⟨x743, hx744, hm⟩ := bind_some hm
 obtain ⟨h745, h746, hi747⟩ := geto_some hx744
 refine wsr (.pointer (some (eAddr r0_1 (z733.toNat * 2 + 0)))) 3 z z z (by kernel_rfl) (fun w hst => x_index z z underlying34 sizeOf102 (rd_sliceV f0_1) h745 h746) (wsr (.pointer (some (eAddr r0_1 (z733.toNat * 2 + 0)))) 4 z z z (by kernel_rfl) (fun w hst => x_index_arr_e (i := (0:Int)) z z underlying102 sizeOf44 (by decide) (by decide) z) (wsr (.float .f64 x743.1) 5 z z z (by kernel_rfl) (fun w hst => x_load z isAgg44 (rd_load f0_1 (HL.le.refl _) hst hi747 (by rintro _ rfl; rfl))) (wsr (Pt b609 4) 6 z z z (by kernel_rfl) (fun w hst => x_field z underlying36 z sizeOf34 z) (wsr (r1_1) 7 z z z (by kernel_rfl) (fun w hst => x_load z isAgg34 (hst.bc1 z)) (wsr (.int .i64 z733) 8 z z z (by kernel_rfl) (fun w hst => z) ?_)))))
 obtain ⟨x748, hx749, hm⟩ := bind_some hm
 obtain ⟨h750, h751, hi752⟩ := geto_some hx749
 refine wsr (.pointer (some (eAddr r1_1 (z733.toNat * 2 + 0)))) 9 z z z (by kernel_rfl) (fun w hst => x_index z z underlying34 sizeOf102 (rd_sliceV f1_1) h750 h751) (wsr (.pointer (some (eAddr r1_1 (z733.toNat * 2 + 0)))) 10 z z z (by kernel_rfl) (fun w hst => x_index_arr_e (i := (0:Int)) z z underlying102 sizeOf44 (by decide) (by decide) z) (wsr (.float .f64 x748.1) 11 z z z (by kernel_rfl) (fun w hst => x_load z isAgg44 (rd_load f1_1 (HL.le.refl _) hst hi752 (by rintro _ rfl; rfl))) ?_))
 refine ws_e1 12 (by kernel_rfl) ?_
 refine nxe [13, 14, 15, 16, 17, 18, 19, 20, 21, 22, 23, 24, 25, 26, 27, 28, 29] (by kernel_rfl) z z ?_
 clear hst
 intro w hst
 obtain ⟨t753, ht754, hm⟩ := bind_some hm
 refine wec call64 [F6 x743.1, F6 x748.1] z z ?_
 refine (ref01_Same_ref hst.to0 ht754).mono ?_
 rintro _ w755 ⟨rfl, hst⟩
 refine ⟨_, z, ?_⟩
 replace hst := hst.of0
 refine ws_next (pend' := []) hst (by kernel_rfl) pk_nil ?_
 refine wsr (.bool (!t753)) 13 z z z (by kernel_rfl) (fun w hst => z) (wsr (.bool (!t753)) 14 z z z (by kernel_rfl) (fun w hst => z) ?_)
 refine bsplit (!t753) (fun hc758 => ?_) (fun hc758 => ?_)
 {
 replace hm := bif_t hc758 hm
 refine ws_q (v := undef) 15 [16, 17, 18, 19, 20, 21, 22, 23, 24, 25, 26, 27, 28, 29] (by kernel_rfl) z z (yi_off ((wanted_eq z z z (cvb hc758)).trans z)) (ws_q (v := undef) 16 [17, 18, 19, 20, 21, 22, 23, 24, 25, 26, 27, 28, 29] (by kernel_rfl) z z (yi_off ((wanted_eq z z z (cvb hc758)).trans z)) (ws_q (v := undef) 17 [18, 19, 20, 21, 22, 23, 24, 25, 26, 27, 28, 29] (by kernel_rfl) z z (yi_off ((wanted_eq z z z (cvb hc758)).trans z)) (ws_q (v := undef) 18 [19, 20, 21, 22, 23, 24, 25, 26, 27, 28, 29] (by kernel_rfl) z z (yi_off ((wanted_eq z z z (cvb hc758)).trans z)) (ws_q (v := undef) 19 [20, 21, 22, 23, 24, 25, 26, 27, 28, 29] (by kernel_rfl) z z (yi_off ((wanted_eq z z z (cvb hc758)).trans z)) (ws_q (v := undef) 20 [21, 22, 23, 24, 25, 26, 27, 28, 29] (by kernel_rfl) z z (yi_off ((wanted_eq z z z (cvb hc758)).trans z)) (ws_q (v := undef) 21 [22, 23, 24, 25, 26, 27, 28, 29] (by kernel_rfl) z z (yi_off ((wanted_eq z z z (cvb hc758)).trans z)) (ws_q (v := undef) 22 [23, 24, 25, 26, 27, 28, 29] (by kernel_rfl) z z (yi_off ((wanted_eq z z z (cvb hc758)).trans z)) (ws_q (v := undef) 23 [24, 25, 26, 27, 28, 29] (by kernel_rfl) z z (yi_off ((wanted_eq z z z (cvb hc758)).trans z)) (ws_q (v := undef) 24 [25, 26, 27, 28, 29] (by kernel_rfl) z z (yi_off ((wanted_eq z z z (cvb hc758)).trans z)) (ws_q (v := undef) 25 [26, 27, 28, 29] (by kernel_rfl) z z (yi_off ((wanted_eq z z z (cvb hc758)).trans z)) (ws_q (v := undef) 26 [27, 28, 29] (by kernel_rfl) z z (yi_off ((wanted_eq z z z (cvb hc758)).trans z)) (ws_q (v := undef) 27 [28, 29] (by kernel_rfl) z z (yi_off ((wanted_eq z z z (cvb hc758)).trans z)) ?_))))))))))))
 refine ws_q (v := undef) 28 [29] (by kernel_rfl) z z (yi_off ((wanted_eq z z z (cvb hc758)).trans z)) (wsr (.bool true) 29 z z z (by kernel_rfl) (fun w hst => x_pick_t hc758 z z) ?_)
 refine ws_nil ?_
 intro w hst
 refine tn ?_
 refine wp_ift z ?_
 refine wp_seq (wrl (wv (.bool false) z z z (wl_nil (tn (wp_ret (blk_r (then_r (then_r ?_))))))))
 replace hm := inr_up hm hx740
 refine blk_r (then_r ?_)
 replace hm := inr_up hm hx768
 obtain rfl := some_inj hm
 refine post_ret (vs := [.bool false]) results42 (rvs_cons (rv_tmp z) rvs_nil) ?_
 exact ⟨z, hst.keep0⟩
}
 {
 replace hm := bif_f hc758 hm
 refine ws_q (v := Pt b604 4) 15 [16, 17, 18, 19, 20, 21, 22, 23, 24, 25, 26, 27, 28, 29] (by kernel_rfl) z z (yi_run ((wanted_eq z z z (cvb hc758)).trans z) (fun w hst => x_field z underlying36 z sizeOf34 z)) (ws_q (v := r0_1) 16 [17, 18, 19, 20, 21, 22, 23, 24, 25, 26, 27, 28, 29] (by kernel_rfl) z z (yi_run ((wanted_eq z z z (cvb hc758)).trans z) (fun w hst => x_load z isAgg34 (hst.bc0 z))) (ws_q (v := .int .i64 z733) 17 [18, 19, 20, 21, 22, 23, 24, 25, 26, 27, 28, 29] (by kernel_rfl) z z (yi_run ((wanted_eq z z z (cvb hc758)).trans z) (fun w hst => z)) (ws_q (v := .pointer (some (eAddr r0_1 (z733.toNat * 2 + 0)))) 18 [19, 20, 21, 22, 23, 24, 25, 26, 27, 28, 29] (by kernel_rfl) z z (yi_run ((wanted_eq z z z (cvb hc758)).trans z) (fun w hst => x_index z z underlying34 sizeOf102 (rd_sliceV f0_1) h745 h746)) (ws_q (v := .pointer (some (eAddr r0_1 (z733.toNat * 2 + 1)))) 19 [20, 21, 22, 23, 24, 25, 26, 27, 28, 29] (by kernel_rfl) z z (yi_run ((wanted_eq z z z (cvb hc758)).trans z) (fun w hst => x_index_arr_e (i := (1:Int)) z z underlying102 sizeOf44 (by decide) (by decide) z)) (ws_q (v := .float .f64 x743.2) 20 [21, 22, 23, 24, 25, 26, 27, 28, 29] (by kernel_rfl) z z (yi_run ((wanted_eq z z z (cvb hc758)).trans z) (fun w hst => x_load z isAgg44 (rd_load f0_1 (HL.le.refl _) hst hi747 (by rintro _ rfl; rfl)))) (ws_q (v := Pt b609 4) 21 [22, 23, 24, 25, 26, 27, 28, 29] (by kernel_rfl) z z (yi_run ((wanted_eq z z z (cvb hc758)).trans z) (fun w hst => x_field z underlying36 z sizeOf34 z)) (ws_q (v := r1_1) 22 [23, 24, 25, 26, 27, 28, 29] (by kernel_rfl) z z (yi_run ((wanted_eq z z z (cvb hc758)).trans z) (fun w hst => x_load z isAgg34 (hst.bc1 z))) (ws_q (v := .int .i64 z733) 23 [24, 25, 26, 27, 28, 29] (by kernel_rfl) z z (yi_run ((wanted_eq z z z (cvb hc758)).trans z) (fun w hst => z)) (ws_q (v := .pointer (some (eAddr r1_1 (z733.toNat * 2 + 0)))) 24 [25, 26, 27, 28, 29] (by kernel_rfl) z z (yi_run ((wanted_eq z z z (cvb hc758)).trans z) (fun w hst => x_index z z underlying34 sizeOf102 (rd_sliceV f1_1) h750 h751)) (ws_q (v := .pointer (some (eAddr r1_1 (z733.toNat * 2 + 1)))) 25 [26, 27, 28, 29] (by kernel_rfl) z z (yi_run ((wanted_eq z z z (cvb hc758)).trans z) (fun w hst => x_index_arr_e (i := (1:Int)) z z underlying102 sizeOf44 (by decide) (by decide) z)) (ws_q (v := .float .f64 x748.2) 26 [27, 28, 29] (by kernel_rfl) z z (yi_run ((wanted_eq z z z (cvb hc758)).trans z) (fun w hst => x_load z isAgg44 (rd_load f1_1 (HL.le.refl _) hst hi752 (by rintro _ rfl; rfl)))) ?_)))))))))))
 refine ws_e1 27 (by kernel_rfl) ?_
 refine nxe [28, 29] (by kernel_rfl) z ((wanted_eq z z z (cvb hc758)).trans z) ?_
 clear hst
 intro w hst
 obtain ⟨t759, ht760, hm⟩ := bind_some hm
 refine wec call64 [F6 x743.2, F6 x748.2] z z ?_
 refine (ref01_Same_ref hst.to0 ht760).mono ?_
 rintro _ w761 ⟨rfl, hst⟩
 refine ⟨_, z, ?_⟩
 replace hst := hst.of0
 refine ws_next (pend' := []) hst (by kernel_rfl) pk_nil ?_
 refine ws_q (v := .bool (!t759)) 28 [29] (by kernel_rfl) z z (yi_run ((wanted_eq z z z (cvb hc758)).trans z) (fun w hst => z)) (wsr (.bool (!t759)) 29 z z z (by kernel_rfl) (fun w hst => x_pick_f hc758 z z) ?_)
 refine ws_nil ?_
 intro w hst
 refine tn ?_
 refine bsplit (!t759) (fun hc764 => ?_) (fun hc764 => ?_)
 {
 replace hm := bif_t hc764 hm
 refine wp_ift (cvb hc764) ?_
 refine wp_seq (wrl (wv (.bool false) z z z (wl_nil (tn (wp_ret (blk_r (then_r (then_r ?_))))))))
 replace hm := inr_up hm hx740
 refine blk_r (then_r ?_)
 replace hm := inr_up hm hx768
 obtain rfl := some_inj hm
 refine post_ret (vs := [.bool false]) results42 (rvs_cons (rv_tmp z) rvs_nil) ?_
 exact ⟨z, hst.keep0⟩
}
 {
 replace hm := bif_f hc764 hm
 refine wp_iff (cvb hc764) ?_
 refine wp_skip (blk_n (tn (wrl ?_)))
 refine wv (.int .i64 z733) z z z (wv (.int .i64 (i64.wrap (z733 + (1:Int)))) z z z (wv (.int .i64 (i64.wrap (z733 + (1:Int)))) z z z (wl_nil (tn ?_))))
 replace hst := hst.pull1.pull1.keep2
 obtain rfl := some_inj hm
 exact ⟨_, Nat.lt_succ_self _, (i64.wrap (z733 + (1:Int))), _, hx740, (fu 2 (Pt b604 0) z (fu 3 (Pt b609 0) z (fu 6 (.int .i64 (i64.wrap (z733 + (1:Int)))) z z))), hst⟩
}
}
}
 {
 replace hm := bif_f hc742 hm
 refine wp_iff (cvb hc742) ?_
 refine wp_exit (then_x (then_x ?_))
 replace hm := inr_up hm hx740
 refine blk_x (tn ?_)
 replace hst := hst.pull1.pull1.keep2
 obtain rfl := some_inj hm
 exact ⟨_, hx768, (fu 2 (Pt b604 0) z (fu 3 (Pt b609 0) z z)), hst⟩
}
}
 {
 clear hst
 rintro _ w769 ⟨σ765, hm, rfl, hst⟩
 dsimp only [ref11_SameHold_j2] at hm
 refine wp_seq (wp_seq (wrl (wv (.int .i64 (0:Int)) z z z (wl_nil (tn (wp_block ?_))))))
 obtain ⟨n807, hm⟩ := loopO_some hm
 refine wp_loop_n (fun n a w => ∃ (z805 : Int) (σ806 : Nat → Value), loopN (ref11_SameHold_l4 a0 a1) n z805 = some r ∧ a = Fr 131 (upd (upd (upd σ806 2 (Pt b604 0)) 3 (Pt b609 0)) 7 (.int .i64 z805)) ∧ St w0 w I [cells b604 [U6 a0.ID.Session, U6 a0.ID.Seq, U6 a0.Epoch, r0_0, r0_1, r0_2, r0_3], cells b609 [U6 a1.ID.Session, U6 a1.ID.Seq, U6 a1.Epoch, r1_0, r1_1, r1_2, r1_3]] R) n807 ⟨(0:Int), _, hm, (fu 2 (Pt b604 0) z (fu 3 (Pt b609 0) z (fu 7 (.int .i64 (0:Int)) z z))), hst⟩ ?_
 rintro n813 _ w808 ⟨z805, σ806, hm, rfl, hst⟩
 obtain ⟨n810, y811, rfl, hm, hx812⟩ := loopN_some hm
 dsimp only [ref11_SameHold_l4] at hm
 refine wp_seq (wp_seq (wrl (wv (.int .i64 z805) z z z (wv (Pt b604 5) z z (x_field z underlying36 z sizeOf33 z) (wv (r0_2) z z (x_load z isAgg33 (hst.bc0 z)) (wv (.int .i64 ((a0.Puts).length : Int)) z z (x_len z underlying33 (rd_sliceV f0_2)) (wv (.bool (decide (z805 < ((a0.Puts).length : Int)))) z z z (wl_nil (tn ?_)))))))))
 refine bsplit (decide (z805 < ((a0.Puts).length : Int))) (fun hc814 => ?_) (fun hc814 => ?_)
 {
 replace hm := bif_t hc814 hm
 refine wp_ift (cvb hc814) ?_
 refine wp_skip (tn (wp_seq (wp_block (wp_seq ?_))))
 refine wp_region_St hst 12 [0, 1, 2, 3, 4, 5, 6, 7, 8, 9, 10, 11] [0, 1, 0, 7, 15, 0, 32, 0, 224, 480, 1023, 2047] [] z (by kernel_rfl) (by kernel_rfl) Try.mixed (by kernel_rfl) ?_
 refine wsr (Pt b604 5) 0 z z z (by kernel_rfl) (fun w hst => x_field z underlying36 z sizeOf33 z) (wsr (r0_2) 1 z z z (by kernel_rfl) (fun w hst => x_load z isAgg33 (hst.bc0 z)) (wsr (.int .i64 z805) 2 z z z (by kernel_rfl) (fun w hst => z) ?_))
 obtain ⟨x815, hx816, hm⟩ := bind_some hm
 obtain ⟨h817, h818, hi819⟩ := geto_some hx816
 refine wsr (.pointer (some (eAddr r0_2 (z805.toNat * 1 + 0)))) 3 z z z (by kernel_rfl) (fun w hst => x_index z z underlying33 sizeOf44 (rd_sliceV f0_2) h817 h818) (wsr (.float .f64 x815) 4 z z z (by kernel_rfl) (fun w hst => x_load z isAgg44 (rd_load f0_2 (HL.le.refl _) hst hi819 (by rintro _ rfl; rfl))) (wsr (Pt b609 5) 5 z z z (by kernel_rfl) (fun w hst => x_field z underlying36 z sizeOf33 z) (wsr (r1_2) 6 z z z (by kernel_rfl) (fun w hst => x_load z isAgg33 (hst.bc1 z)) (wsr (.int .i64 z805) 7 z z z (by kernel_rfl) (fun w hst => z) ?_))))
 obtain ⟨x820, hx821, hm⟩ := bind_some hm
 obtain ⟨h822, h823, hi824⟩ := geto_some hx821
 refine wsr (.pointer (some (eAddr r1_2 (z805.toNat * 1 + 0)))) 8 z z z (by kernel_rfl) (fun w hst => x_index z z underlying33 sizeOf44 (rd_sliceV f1_2) h822 h823) (wsr (.float .f64 x820) 9 z z z (by kernel_rfl) (fun w hst => x_load z isAgg44 (rd_load f1_2 (HL.le.refl _) hst hi824 (by rintro _ rfl; rfl))) ?_)
 refine ws_e1 10 (by kernel_rfl) ?_
 refine nxe [11] (by kernel_rfl) z z ?_
 clear hst
 intro w hst
 obtain ⟨t825, ht826, hm⟩ := bind_some hm
 refine wec call64 [F6 x815, F6 x820] z z ?_
 refine (ref01_Same_ref hst.to0 ht826).mono ?_
 rintro _ w827 ⟨rfl, hst⟩
 refine ⟨_, z, ?_⟩
 replace hst := hst.of0
 refine ws_next (pend' := []) hst (by kernel_rfl) pk_nil ?_
 refine wsr (.bool (!t825)) 11 z z z (by kernel_rfl) (fun w hst => z) ?_
 refine ws_nil ?_
 intro w hst
 refine tn ?_
 refine bsplit (!t825) (fun hc830 => ?_) (fun hc830 => ?_)
 {
 replace hm := bif_t hc830 hm
 refine wp_ift (cvb hc830) ?_
 refine wp_seq (wrl (wv (.bool false) z z z (wl_nil (tn (wp_ret (blk_r (then_r (then_r ?_))))))))
 replace hm := inr_up hm hx812
 refine blk_r (then_r ?_)
 obtain rfl := some_inj hm
 refine post_ret (vs := [.bool false]) results42 (rvs_cons (rv_tmp z) rvs_nil) ?_
 exact ⟨z, hst.keep0⟩
}
 {
 replace hm := bif_f hc830 hm
 refine wp_iff (cvb hc830) ?_
 refine wp_skip (blk_n (tn (wrl ?_)))
 refine wv (.int .i64 z805) z z z (wv (.int .i64 (i64.wrap (z805 + (1:Int)))) z z z (wv (.int .i64 (i64.wrap (z805 + (1:Int)))) z z z (wl_nil (tn ?_))))
 replace hst := hst.pull1.pull1.keep2
 obtain rfl := some_inj hm
 exact ⟨_, Nat.lt_succ_self _, (i64.wrap (z805 + (1:Int))), _, hx812, (fu 2 (Pt b604 0) z (fu 3 (Pt b609 0) z (fu 7 (.int .i64 (i64.wrap (z805 + (1:Int)))) z z))), hst⟩
}
}
 {
 replace hm := bif_f hc814 hm
 refine wp_iff (cvb hc814) ?_
 refine wp_exit (then_x (then_x ?_))
 replace hm := inr_up hm hx812
 refine blk_x (tn (wp_seq (wrl ?_)))
 refine wv (.bool true) z z z (wl_nil (tn (wp_ret ?_)))
 obtain rfl := some_inj hm
 refine post_ret (vs := [.bool true]) results42 (rvs_cons (rv_tmp z) rvs_nil) ?_
 exact ⟨z, hst.keep0⟩
}
}
}
}
}
}
}
}
}
}

theorem ref11_SameGots_ref {w0 w : World} {I : HL} {R : SP} {a0 : (List api_Got)} {r0_0 : Value} {a1 : (List api_Got)} {r1_0 : Value} (f0_0 : Rd ty_api_Got R I r0_0 a0) (f1_0 : Rd ty_api_Got R I r1_0 a1) (hst : St w0 w I [] R) {r : (Bool)} (hm : ref11_SameGots a0 a1 = some r) :
  Calls prog 65 #[r0_0, r1_0] w fun e w' => e = .returned (.bool r) ∧ St w0 w' I [] R := by {
 unfold ref11_SameGots at hm
 refine calls_start (args := [r0_0, r1_0]) func65 z ntmps65 (Nat.le_of_ble_eq_true z) ?_
 refine wp_seq (wrl (wv (.bool false) z z z (wl_nil (tn (wp_seq (wp_seq (wrl (wv (r0_0) z z z (wv (.int .i64 ((a0).length : Int)) z z (x_len z underlying38 (rd_sliceV f0_0)) (wv (r1_0) z z z (wv (.int .i64 ((a1).length : Int)) z z (x_len z underlying38 (rd_sliceV f1_0)) (wv (.bool (((a0).length : Int) != ((a1).length : Int))) z z z (wl_nil (tn ?_))))))))))))))
 refine bsplit (((a0).length : Int) != ((a1).length : Int)) (fun hc468 => ?_) (fun hc468 => ?_)
 {
 replace hm := bif_t hc468 hm
 refine wp_ift (cvb hc468) ?_
 refine wp_seq (wrl (wv (.bool false) z z z (wl_nil (tn (wp_ret (then_r ?_))))))
 obtain rfl := some_inj hm
 refine post_ret (vs := [.bool false]) results65 (rvs_cons (rv_tmp z) rvs_nil) ?_
 exact ⟨z, hst.keep0⟩
}
 {
 replace hm := bif_f hc468 hm
 refine wp_iff (cvb hc468) ?_
 refine wp_skip (tn (wp_seq (wp_seq (wrl ?_))))
 refine wv (.int .i64 (0:Int)) z z z (wl_nil (tn (wp_block ?_)))
 obtain ⟨n522, hm⟩ := loopO_some hm
 refine wp_loop_n (fun n a w => ∃ (z520 : Int) (σ521 : Nat → Value), loopN (ref11_SameGots_l0 a0 a1) n z520 = some r ∧ a = Fr 43 (upd (upd (upd σ521 0 (r0_0)) 1 (r1_0)) 5 (.int .i64 z520)) ∧ St w0 w I [] R) n522 ⟨(0:Int), _, hm, (fu 0 r0_0 z (fu 1 r1_0 z (fu 5 (.int .i64 (0:Int)) z z))), hst⟩ ?_
 rintro n528 _ w523 ⟨z520, σ521, hm, rfl, hst⟩
 obtain ⟨n525, y526, rfl, hm, hx527⟩ := loopN_some hm
 dsimp only [ref11_SameGots_l0] at hm
 refine wp_seq (wp_seq (wrl (wv (.int .i64 z520) z z z (wv (r0_0) z z z (wv (.int .i64 ((a0).length : Int)) z z (x_len z underlying38 (rd_sliceV f0_0)) (wv (.bool (decide (z520 < ((a0).length : Int)))) z z z (wl_nil (tn ?_))))))))
 refine bsplit (decide (z520 < ((a0).length : Int))) (fun hc529 => ?_) (fun hc529 => ?_)
 {
 replace hm := bif_t hc529 hm
 refine wp_ift (cvb hc529) ?_
 refine wp_skip (tn (wp_seq (wp_block (wp_seq ?_))))
 refine wq_regionS hst Try.mixed (by kernel_rfl) ?_
 refine wq_run (v := r0_0) z z (fun w hst => z) ?_
 refine wq_run (v := .int .i64 z520) z z (fun w hst => z) ?_
 obtain ⟨x530, hx531, hm⟩ := bind_some hm
 obtain ⟨h532, h533, hi534⟩ := geto_some hx531
 refine wq_run (v := .pointer (some (eAddr r0_0 (z520.toNat * 2 + 0)))) z z (fun w hst => x_index z z underlying38 sizeOf104 (rd_sliceV f0_0) h532 h533) ?_
 refine wq_run (v := .pointer (some (eAddr r0_0 (z520.toNat * 2 + 0)))) z z (fun w hst => x_field_e z underlying104 z sizeOf4 z) ?_
 obtain ⟨cs535, hr536, hc537⟩ := Rd.getF f0_0 hi534
 obtain ⟨v538, rfl, f539, -⟩ := hr536
 refine wq_run (v := .bool x530.Has) z z (fun w hst => x_load z isAgg4 ((hc537 (HL.le.refl _) hst) 0 _ z)) ?_
 refine wq_run (v := r1_0) z z (fun w hst => z) ?_
 refine wq_run (v := .int .i64 z520) z z (fun w hst => z) ?_
 obtain ⟨x541, hx542, hm⟩ := bind_some hm
 obtain ⟨h543, h544, hi545⟩ := geto_some hx542
 refine wq_run (v := .pointer (some (eAddr r1_0 (z520.toNat * 2 + 0)))) z z (fun w hst => x_index z z underlying38 sizeOf104 (rd_sliceV f1_0) h543 h544) ?_
 refine wq_run (v := .pointer (some (eAddr r1_0 (z520.toNat * 2 + 0)))) z z (fun w hst => x_field_e z underlying104 z sizeOf4 z) ?_
 obtain ⟨cs546, hr547, hc548⟩ := Rd.getF f1_0 hi545
 obtain ⟨v549, rfl, f550, -⟩ := hr547
 refine wq_run (v := .bool x541.Has) z z (fun w hst => x_load z isAgg4 ((hc548 (HL.le.refl _) hst) 0 _ z)) ?_
 refine wq_run (v := .bool (!(x530.Has == x541.Has))) z z (fun w hst => by kernel_rfl) ?_
 refine wq_run (v := .bool (!(x530.Has == x541.Has))) z z (fun w hst => z) ?_
 refine bsplit (!(x530.Has == x541.Has)) (fun hc552 => ?_) (fun hc552 => ?_)
 {
 replace hm := bif_t hc552 hm
 refine wq_off ((wanted_eq z z z (cvb hc552)).trans z) z ?_
 refine wq_off ((wanted_eq z z z (cvb hc552)).trans z) z ?_
 refine wq_off ((wanted_eq z z z (cvb hc552)).trans z) z ?_
 refine wq_off ((wanted_eq z z z (cvb hc552)).trans z) z ?_
 refine wq_off ((wanted_eq z z z (cvb hc552)).trans z) z ?_
 refine wq_off ((wanted_eq z z z (cvb hc552)).trans z) z ?_
 refine wq_off ((wanted_eq z z z (cvb hc552)).trans z) z ?_
 refine wq_off ((wanted_eq z z z (cvb hc552)).trans z) z ?_
 refine wq_off ((wanted_eq z z z (cvb hc552)).trans z) z ?_
 refine wq_off ((wanted_eq z z z (cvb hc552)).trans z) z ?_
 refine wq_off ((wanted_eq z z z (cvb hc552)).trans z) z ?_
 refine wq_off ((wanted_eq z z z (cvb hc552)).trans z) z ?_
 refine wq_off ((wanted_eq z z z (cvb hc552)).trans z) z ?_
 refine wq_run (v := .bool true) z z (fun w hst => x_pick_t hc552 z z) ?_
 refine wq_nil ?_
 intro w hst
 refine tn ?_
 refine wp_ift z ?_
 refine wp_seq (wrl (wv (.bool false) z z z (wl_nil (tn (wp_ret (blk_r (then_r (then_r ?_))))))))
 replace hm := inr_up hm hx527
 refine blk_r (then_r ?_)
 obtain rfl := some_inj hm
 refine post_ret (vs := [.bool false]) results65 (rvs_cons (rv_tmp z) rvs_nil) ?_
 exact ⟨z, hst.keep0⟩
}
 {
 replace hm := bif_f hc552 hm
 refine wq_run (v := r0_0) ((wanted_eq z z z (cvb hc552)).trans z) z (fun w hst => z) ?_
 refine wq_run (v := .int .i64 z520) ((wanted_eq z z z (cvb hc552)).trans z) z (fun w hst => z) ?_
 refine wq_run (v := .pointer (some (eAddr r0_0 (z520.toNat * 2 + 0)))) ((wanted_eq z z z (cvb hc552)).trans z) z (fun w hst => x_index z z underlying38 sizeOf104 (rd_sliceV f0_0) h532 h533) ?_
 refine wq_run (v := .pointer (some (eAddr r0_0 (z520.toNat * 2 + 1)))) ((wanted_eq z z z (cvb hc552)).trans z) z (fun w hst => x_field_e z underlying104 z sizeOf22 z) ?_
 refine wq_run (v := v538) ((wanted_eq z z z (cvb hc552)).trans z) z (fun w hst => x_load z isAgg22 ((hc537 (HL.le.refl _) hst) 1 _ z)) ?_
 refine wq_run (v := .string (toStr x530.Val)) ((wanted_eq z z z (cvb hc552)).trans z) z (fun w hst => x_tostr underlying22 underlying9 underlying5 z (Src.of_rd hst f539 flat_int)) ?_
 refine wq_run (v := r1_0) ((wanted_eq z z z (cvb hc552)).trans z) z (fun w hst => z) ?_
 refine wq_run (v := .int .i64 z520) ((wanted_eq z z z (cvb hc552)).trans z) z (fun w hst => z) ?_
 refine wq_run (v := .pointer (some (eAddr r1_0 (z520.toNat * 2 + 0)))) ((wanted_eq z z z (cvb hc552)).trans z) z (fun w hst => x_index z z underlying38 sizeOf104 (rd_sliceV f1_0) h543 h544) ?_
 refine wq_run (v := .pointer (some (eAddr r1_0 (z520.toNat * 2 + 1)))) ((wanted_eq z z z (cvb hc552)).trans z) z (fun w hst => x_field_e z underlying104 z sizeOf22 z) ?_
 refine wq_run (v := v549) ((wanted_eq z z z (cvb hc552)).trans z) z (fun w hst => x_load z isAgg22 ((hc548 (HL.le.refl _) hst) 1 _ z)) ?_
 refine wq_run (v := .string (toStr x541.Val)) ((wanted_eq z z z (cvb hc552)).trans z) z (fun w hst => x_tostr underlying22 underlying9 underlying5 z (Src.of_rd hst f550 flat_int)) ?_
 refine wq_run (v := .bool (!(sEq (toStr x530.Val) (toStr x541.Val)))) ((wanted_eq z z z (cvb hc552)).trans z) z (fun w hst => by kernel_rfl) ?_
 refine wq_run (v := .bool (!(sEq (toStr x530.Val) (toStr x541.Val)))) z z (fun w hst => x_pick_f hc552 z z) ?_
 refine wq_nil ?_
 intro w hst
 refine tn ?_
 refine bsplit (!(sEq (toStr x530.Val) (toStr x541.Val))) (fun hc553 => ?_) (fun hc553 => ?_)
 {
 replace hm := bif_t hc553 hm
 refine wp_ift (cvb hc553) ?_
 refine wp_seq (wrl (wv (.bool false) z z z (wl_nil (tn (wp_ret (blk_r (then_r (then_r ?_))))))))
 replace hm := inr_up hm hx527
 refine blk_r (then_r ?_)
 obtain rfl := some_inj hm
 refine post_ret (vs := [.bool false]) results65 (rvs_cons (rv_tmp z) rvs_nil) ?_
 exact ⟨z, hst.keep0⟩
}
 {
 replace hm := bif_f hc553 hm
 refine wp_iff (cvb hc553) ?_
 refine wp_skip (blk_n (tn (wrl ?_)))
 refine wv (.int .i64 z520) z z z (wv (.int .i64 (i64.wrap (z520 + (1:Int)))) z z z (wv (.int .i64 (i64.wrap (z520 + (1:Int)))) z z z (wl_nil (tn ?_))))
 replace hst := hst.keep0
 obtain rfl := some_inj hm
 exact ⟨_, Nat.lt_succ_self _, (i64.wrap (z520 + (1:Int))), _, hx527, (fu 0 r0_0 z (fu 1 r1_0 z (fu 5 (.int .i64 (i64.wrap (z520 + (1:Int)))) z z))), hst⟩
}
}
}
 {
 replace hm := bif_f hc529 hm
 refine wp_iff (cvb hc529) ?_
 refine wp_exit (then_x (then_x ?_))
 replace hm := inr_up hm hx527
 refine blk_x (tn (wp_seq (wrl ?_)))
 refine wv (.bool true) z z z (wl_nil (tn (wp_ret ?_)))
 obtain rfl := some_inj hm
 refine post_ret (vs := [.bool true]) results65 (rvs_cons (rv_tmp z) rvs_nil) ?_
 exact ⟨z, hst.keep0⟩
}
}
}

theorem ref11_SamePairs_ref {w0 w : World} {I : HL} {R : SP} {a0 : (List api_Pair)} {r0_0 : Value} {a1 : (List api_Pair)} {r1_0 : Value} (f0_0 : Rd ty_api_Pair R I r0_0 a0) (f1_0 : Rd ty_api_Pair R I r1_0 a1) (hst : St w0 w I [] R) {r : (Bool)} (hm : ref11_SamePairs a0 a1 = some r) :
  Calls prog 66 #[r0_0, r1_0] w fun e w' => e = .returned (.bool r) ∧ St w0 w' I [] R := by {
 unfold ref11_SamePairs at hm
 refine calls_start (args := [r0_0, r1_0]) func66 z ntmps66 (Nat.le_of_ble_eq_true z) ?_
 refine wp_seq (wrl (wv (.bool false) z z z (wl_nil (tn (wp_seq (wp_seq (wrl (wv (r0_0) z z z (wv (.int .i64 ((a0).length : Int)) z z (x_len z underlying105 (rd_sliceV f0_0)) (wv (r1_0) z z z (wv (.int .i64 ((a1).length : Int)) z z (x_len z underlying105 (rd_sliceV f1_0)) (wv (.bool (((a0).length : Int) != ((a1).length : Int))) z z z (wl_nil (tn ?_))))))))))))))
 refine bsplit (((a0).length : Int) != ((a1).length : Int)) (fun hc527 => ?_) (fun hc527 => ?_)
 {
 replace hm := bif_t hc527 hm
 refine wp_ift (cvb hc527) ?_
 refine wp_seq (wrl (wv (.bool false) z z z (wl_nil (tn (wp_ret (then_r ?_))))))
 obtain rfl := some_inj hm
 refine post_ret (vs := [.bool false]) results66 (rvs_cons (rv_tmp z) rvs_nil) ?_
 exact ⟨z, hst.keep0⟩
}
 {
 replace hm := bif_f hc527 hm
 refine wp_iff (cvb hc527) ?_
 refine wp_skip (tn (wp_seq (wp_seq (wrl ?_))))
 refine wv (.int .i64 (0:Int)) z z z (wl_nil (tn (wp_block ?_)))
 obtain ⟨n615, hm⟩ := loopO_some hm
 refine wp_loop_n (fun n a w => ∃ (z613 : Int) (σ614 : Nat → Value), loopN (ref11_SamePairs_l0 a0 a1) n z613 = some r ∧ a = Fr 44 (upd (upd (upd σ614 0 (r0_0)) 1 (r1_0)) 5 (.int .i64 z613)) ∧ St w0 w I [] R) n615 ⟨(0:Int), _, hm, (fu 0 r0_0 z (fu 1 r1_0 z (fu 5 (.int .i64 (0:Int)) z z))), hst⟩ ?_
 rintro n621 _ w616 ⟨z613, σ614, hm, rfl, hst⟩
 obtain ⟨n618, y619, rfl, hm, hx620⟩ := loopN_some hm
 dsimp only [ref11_SamePairs_l0] at hm
 refine wp_seq (wp_seq (wrl (wv (.int .i64 z613) z z z (wv (r0_0) z z z (wv (.int .i64 ((a0).length : Int)) z z (x_len z underlying105 (rd_sliceV f0_0)) (wv (.bool (decide (z613 < ((a0).length : Int)))) z z z (wl_nil (tn ?_))))))))
 refine bsplit (decide (z613 < ((a0).length : Int))) (fun hc622 => ?_) (fun hc622 => ?_)
 {
 replace hm := bif_t hc622 hm
 refine wp_ift (cvb hc622) ?_
 refine wp_skip (tn (wp_seq (wp_block (wp_seq ?_))))
 refine wp_region_St hst 27 [0, 1, 2, 3, 4, 5, 6, 7, 8, 9, 10, 11, 12, 13, 14, 15, 16, 17, 18, 19, 20, 21, 22, 23, 24, 25, 26] [0, 0, 3, 7, 15, 0, 0, 96, 224, 480, 1023, 2047, 4095, 8191, 8191, 32767, 65535, 131071, 262143, 8191, 8191, 1581055, 3678207, 7872511, 16261119, 33554431, 67108863] [] z (by kernel_rfl) (by kernel_rfl) Try.mixed (by kernel_rfl) ?_
 refine wsr (r0_0) 0 z z z (by kernel_rfl) (fun w hst => z) (wsr (.int .i64 z613) 1 z z z (by kernel_rfl) (fun w hst => z) ?_)
 obtain ⟨x623, hx624, hm⟩ := bind_some hm
 obtain ⟨h625, h626, hi627⟩ := geto_some hx624
 refine wsr (.pointer (some (eAddr r0_0 (z613.toNat * 2 + 0)))) 2 z z z (by kernel_rfl) (fun w hst => x_index z z underlying105 sizeOf107 (rd_sliceV f0_0) h625 h626) (wsr (.pointer (some (eAddr r0_0 (z613.toNat * 2 + 0)))) 3 z z z (by kernel_rfl) (fun w hst => x_field_e z underlying107 z sizeOf44 z) ?_)
 obtain ⟨cs628, hr629, hc630⟩ := Rd.getF f0_0 hi627
 obtain ⟨v631, rfl, f632, -⟩ := hr629
 refine wsr (.float .f64 x623.At) 4 z z z (by kernel_rfl) (fun w hst => x_load z isAgg44 ((hc630 (HL.le.refl _) hst) 0 _ z)) (wsr (r1_0) 5 z z z (by kernel_rfl) (fun w hst => z) (wsr (.int .i64 z613) 6 z z z (by kernel_rfl) (fun w hst => z) ?_))
 obtain ⟨x634, hx635, hm⟩ := bind_some hm
 obtain ⟨h636, h637, hi638⟩ := geto_some hx635
 refine wsr (.pointer (some (eAddr r1_0 (z613.toNat * 2 + 0)))) 7 z z z (by kernel_rfl) (fun w hst => x_index z z underlying105 sizeOf107 (rd_sliceV f1_0) h636 h637) (wsr (.pointer (some (eAddr r1_0 (z613.toNat * 2 + 0)))) 8 z z z (by kernel_rfl) (fun w hst => x_field_e z underlying107 z sizeOf44 z) ?_)
 obtain ⟨cs639, hr640, hc641⟩ := Rd.getF f1_0 hi638
 obtain ⟨v642, rfl, f643, -⟩ := hr640
 refine wsr (.float .f64 x634.At) 9 z z z (by kernel_rfl) (fun w hst => x_load z isAgg44 ((hc641 (HL.le.refl _) hst) 0 _ z)) ?_
 refine ws_e1 10 (by kernel_rfl) ?_
 refine nxe [11, 12, 13, 14, 15, 16, 17, 18, 19, 20, 21, 22, 23, 24, 25, 26] (by kernel_rfl) z z ?_
 clear hst
 intro w hst
 obtain ⟨t645, ht646, hm⟩ := bind_some hm
 refine wec call64 [F6 x623.At, F6 x634.At] z z ?_
 refine (ref01_Same_ref hst.to0 ht646).mono ?_
 rintro _ w647 ⟨rfl, hst⟩
 refine ⟨_, z, ?_⟩
 replace hst := hst.of0
 refine ws_next (pend' := []) hst (by kernel_rfl) pk_nil ?_
 refine wsr (.bool (!t645)) 11 z z z (by kernel_rfl) (fun w hst => z) (wsr (.bool (!t645)) 12 z z z (by kernel_rfl) (fun w hst => z) ?_)
 refine bsplit (!t645) (fun hc650 => ?_) (fun hc650 => ?_)
 {
 replace hm := bif_t hc650 hm
 refine ws_q (v := undef) 13 [14, 15, 16, 17, 18, 19, 20, 21, 22, 23, 24, 25, 26] (by kernel_rfl) z z (yi_off ((wanted_eq z z z (cvb hc650)).trans z)) (ws_q (v := undef) 14 [15, 16, 17, 18, 19, 20, 21, 22, 23, 24, 25, 26] (by kernel_rfl) z z (yi_off ((wanted_eq z z z (cvb hc650)).trans z)) (ws_q (v := undef) 15 [16, 17, 18, 19, 20, 21, 22, 23, 24, 25, 26] (by kernel_rfl) z z (yi_off ((wanted_eq z z z (cvb hc650)).trans z)) (ws_q (v := undef) 16 [17, 18, 19, 20, 21, 22, 23, 24, 25, 26] (by kernel_rfl) z z (yi_off ((wanted_eq z z z (cvb hc650)).trans z)) (ws_q (v := undef) 17 [18, 19, 20, 21, 22, 23, 24, 25, 26] (by kernel_rfl) z z (yi_off ((wanted_eq z z z (cvb hc650)).trans z)) (ws_q (v := undef) 18 [19, 20, 21, 22, 23, 24, 25, 26] (by kernel_rfl) z z (yi_off ((wanted_eq z z z (cvb hc650)).trans z)) (ws_q (v := undef) 19 [20, 21, 22, 23, 24, 25, 26] (by kernel_rfl) z z (yi_off ((wanted_eq z z z (cvb hc650)).trans z)) (ws_q (v := undef) 20 [21, 22, 23, 24, 25, 26] (by kernel_rfl) z z (yi_off ((wanted_eq z z z (cvb hc650)).trans z)) (ws_q (v := undef) 21 [22, 23, 24, 25, 26] (by kernel_rfl) z z (yi_off ((wanted_eq z z z (cvb hc650)).trans z)) (ws_q (v := undef) 22 [23, 24, 25, 26] (by kernel_rfl) z z (yi_off ((wanted_eq z z z (cvb hc650)).trans z)) (ws_q (v := undef) 23 [24, 25, 26] (by kernel_rfl) z z (yi_off ((wanted_eq z z z (cvb hc650)).trans z)) (ws_q (v := undef) 24 [25, 26] (by kernel_rfl) z z (yi_off ((wanted_eq z z z (cvb hc650)).trans z)) (ws_q (v := undef) 25 [26] (by kernel_rfl) z z (yi_off ((wanted_eq z z z (cvb hc650)).trans z)) ?_))))))))))))
 refine wsr (.bool true) 26 z z z (by kernel_rfl) (fun w hst => x_pick_t hc650 z z) ?_
 refine ws_nil ?_
 intro w hst
 refine tn ?_
 refine wp_ift z ?_
 refine wp_seq (wrl (wv (.bool false) z z z (wl_nil (tn (wp_ret (blk_r (then_r (then_r ?_))))))))
 replace hm := inr_up hm hx620
 refine blk_r (then_r ?_)
 obtain rfl := some_inj hm
 refine post_ret (vs := [.bool false]) results66 (rvs_cons (rv_tmp z) rvs_nil) ?_
 exact ⟨z, hst.keep0⟩
}
 {
 replace hm := bif_f hc650 hm
 refine ws_q (v := r0_0) 13 [14, 15, 16, 17, 18, 19, 20, 21, 22, 23, 24, 25, 26] (by kernel_rfl) z z (yi_run ((wanted_eq z z z (cvb hc650)).trans z) (fun w hst => z)) (ws_q (v := .int .i64 z613) 14 [15, 16, 17, 18, 19, 20, 21, 22, 23, 24, 25, 26] (by kernel_rfl) z z (yi_run ((wanted_eq z z z (cvb hc650)).trans z) (fun w hst => z)) (ws_q (v := .pointer (some (eAddr r0_0 (z613.toNat * 2 + 0)))) 15 [16, 17, 18, 19, 20, 21, 22, 23, 24, 25, 26] (by kernel_rfl) z z (yi_run ((wanted_eq z z z (cvb hc650)).trans z) (fun w hst => x_index z z underlying105 sizeOf107 (rd_sliceV f0_0) h625 h626)) (ws_q (v := .pointer (some (eAddr r0_0 (z613.toNat * 2 + 1)))) 16 [17, 18, 19, 20, 21, 22, 23, 24, 25, 26] (by kernel_rfl) z z (yi_run ((wanted_eq z z z (cvb hc650)).trans z) (fun w hst => x_field_e z underlying107 z sizeOf22 z)) ?_)))
 obtain ⟨cs651, hr652, hc653⟩ := Rd.getF f0_0 hi627
 obtain ⟨v654, rfl, f655, -⟩ := hr652
 refine ws_q (v := v654) 17 [18, 19, 20, 21, 22, 23, 24, 25, 26] (by kernel_rfl) z z (yi_run ((wanted_eq z z z (cvb hc650)).trans z) (fun w hst => x_load z isAgg22 ((hc653 (HL.le.refl _) hst) 1 _ z))) (ws_q (v := .string (toStr x623.Val)) 18 [19, 20, 21, 22, 23, 24, 25, 26] (by kernel_rfl) z z (yi_run ((wanted_eq z z z (cvb hc650)).trans z) (fun w hst => x_tostr underlying22 underlying9 underlying5 z (Src.of_rd hst f655 flat_int))) (ws_q (v := r1_0) 19 [20, 21, 22, 23, 24, 25, 26] (by kernel_rfl) z z (yi_run ((wanted_eq z z z (cvb hc650)).trans z) (fun w hst => z)) (ws_q (v := .int .i64 z613) 20 [21, 22, 23, 24, 25, 26] (by kernel_rfl) z z (yi_run ((wanted_eq z z z (cvb hc650)).trans z) (fun w hst => z)) (ws_q (v := .pointer (some (eAddr r1_0 (z613.toNat * 2 + 0)))) 21 [22, 23, 24, 25, 26] (by kernel_rfl) z z (yi_run ((wanted_eq z z z (cvb hc650)).trans z) (fun w hst => x_index z z underlying105 sizeOf107 (rd_sliceV f1_0) h636 h637)) (ws_q (v := .pointer (some (eAddr r1_0 (z613.toNat * 2 + 1)))) 22 [23, 24, 25, 26] (by kernel_rfl) z z (yi_run ((wanted_eq z z z (cvb hc650)).trans z) (fun w hst => x_field_e z underlying107 z sizeOf22 z)) ?_)))))
 obtain ⟨cs657, hr658, hc659⟩ := Rd.getF f1_0 hi638
 obtain ⟨v660, rfl, f661, -⟩ := hr658
 refine ws_q (v := v660) 23 [24, 25, 26] (by kernel_rfl) z z (yi_run ((wanted_eq z z z (cvb hc650)).trans z) (fun w hst => x_load z isAgg22 ((hc659 (HL.le.refl _) hst) 1 _ z))) (ws_q (v := .string (toStr x634.Val)) 24 [25, 26] (by kernel_rfl) z z (yi_run ((wanted_eq z z z (cvb hc650)).trans z) (fun w hst => x_tostr underlying22 underlying9 underlying5 z (Src.of_rd hst f661 flat_int))) (ws_q (v := .bool (!(sEq (toStr x623.Val) (toStr x634.Val)))) 25 [26] (by kernel_rfl) z z (yi_run ((wanted_eq z z z (cvb hc650)).trans z) (fun w hst => by kernel_rfl)) (wsr (.bool (!(sEq (toStr x623.Val) (toStr x634.Val)))) 26 z z z (by kernel_rfl) (fun w hst => x_pick_f hc650 z z) ?_)))
 refine ws_nil ?_
 intro w hst
 refine tn ?_
 refine bsplit (!(sEq (toStr x623.Val) (toStr x634.Val))) (fun hc663 => ?_) (fun hc663 => ?_)
 {
 replace hm := bif_t hc663 hm
 refine wp_ift (cvb hc663) ?_
 refine wp_seq (wrl (wv (.bool false) z z z (wl_nil (tn (wp_ret (blk_r (then_r (then_r ?_))))))))
 replace hm := inr_up hm hx620
 refine blk_r (then_r ?_)
 obtain rfl := some_inj hm
 refine post_ret (vs := [.bool false]) results66 (rvs_cons (rv_tmp z) rvs_nil) ?_
 exact ⟨z, hst.keep0⟩
}
 {
 replace hm := bif_f hc663 hm
 refine wp_iff (cvb hc663) ?_
 refine wp_skip (blk_n (tn (wrl ?_)))
 refine wv (.int .i64 z613) z z z (wv (.int .i64 (i64.wrap (z613 + (1:Int)))) z z z (wv (.int .i64 (i64.wrap (z613 + (1:Int)))) z z z (wl_nil (tn ?_))))
 replace hst := hst.keep0
 obtain rfl := some_inj hm
 exact ⟨_, Nat.lt_succ_self _, (i64.wrap (z613 + (1:Int))), _, hx620, (fu 0 r0_0 z (fu 1 r1_0 z (fu 5 (.int .i64 (i64.wrap (z613 + (1:Int)))) z z))), hst⟩
}
}
}
 {
 replace hm := bif_f hc622 hm
 refine wp_iff (cvb hc622) ?_
 refine wp_exit (then_x (then_x ?_))
 replace hm := inr_up hm hx620
 refine blk_x (tn (wp_seq (wrl ?_)))
 refine wv (.bool true) z z z (wl_nil (tn (wp_ret ?_)))
 obtain rfl := some_inj hm
 refine post_ret (vs := [.bool true]) results66 (rvs_cons (rv_tmp z) rvs_nil) ?_
 exact ⟨z, hst.keep0⟩
}
}
}

end Go.Proofs.Ytldfdainhdiffaa
