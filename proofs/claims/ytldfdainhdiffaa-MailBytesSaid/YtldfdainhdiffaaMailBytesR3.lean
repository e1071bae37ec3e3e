/- The Go functions refine their models, part 3. -/
import Derived.Test.YtldfdainhdiffaaMailBytesR2
set_option linter.unusedVariables false
set_option linter.unusedSimpArgs false
set_option maxRecDepth 100000
set_option maxHeartbeats 4000000
namespace Go.Proofs.Ytldfdainhdiffaa
open Go Go.V
open _root_.Go.Proofs.Try IntKind
attribute [local irreducible] wpList Code.wp wpQuiet Calls bodyPost Oper.wp wpS Nx PendOK YieldsIn
theorem command_Decode_ref {w0 w : World} {I : HL} {R : SP} {a0 : (List Int)} {r0_0 : Value} (f0_0 : Ro (tyInt .u8) I r0_0 a0) (hst : St w0 w I [] R) {r : (api_Command × Int)} (hm : command_Decode a0 = some r) :
  Calls prog 17 #[r0_0] w fun e w' => ∃ (I' : HL) (q0_0 : Value) (q0_1 : Value) (q0_2 : Value) (q0_3 : Value) (q0_4 : Value) (q0_5 : Value) (q0_6 : Value) (q0_7 : Value), e = .returned (.tuple #[.agg #[U1 r.1.Kind, U6 r.1.ID.Session, U6 r.1.ID.Seq, U6 r.1.Epoch, U6 r.1.Index, I6 r.1.E, U6 r.1.Hold.ID.Session, U6 r.1.Hold.ID.Seq, U6 r.1.Hold.Epoch, q0_0, q0_1, q0_2, q0_3, q0_4, I6 r.1.R.E, U6 r.1.R.Epoch, U6 r.1.R.Index, q0_5, q0_6, U6 r.1.Shards, q0_7, U6 r.1.Rule.ID, I6 r.1.Rule.From, I6 r.1.Rule.To, F6 r.1.Rule.Lo, F6 r.1.Rule.Hi, U6 r.1.Rule.Authority, I6 r.1.Rule.Quota, .bool r.1.On], I6 r.2]) ∧ I.le I' ∧ St w0 w' I' [ownS tyF64 q0_0 r.1.Hold.Gets, ownS tyF2 q0_1 r.1.Hold.Scans, ownS tyF64 q0_2 r.1.Hold.Puts, ownS (tyInt .u8) q0_3 r.1.Hold.Data, ownS ty_api_Write q0_4 r.1.Writes, ownS ty_api_Got q0_5 r.1.R.Gots, ownS (tySl ty_api_Pair) q0_6 r.1.R.Scans, ownS ty_api_Part q0_7 r.1.Parts] R := by {
 unfold command_Decode at hm
 refine calls_start (args := [r0_0]) func17 z ntmps17 (Nat.le_of_ble_eq_true z) ?_
 have hI0 := HL.le.refl I
 refine wp_seq (wrl ?_)
 obtain ⟨b790, w791, ew792, eb793, hst⟩ := hst.box [Zb, Zu, Zu, Zu, Zu, Zi, Zu, Zu, Zu, Zs, Zs, Zs, Zs, Zs, Zi, Zu, Zu, Zs, Zs, Zu, Zs, Zu, Zi, Zi, Zf, Zf, Zu, Zi, .bool false] 48
 refine wl_run (v := Pt b790 0) (w' := w791) z z (x_al (by kernel_rfl) ew792 eb793) ?_
 refine wv (.int .i64 (0:Int)) z z z (wl_nil (tn (wp_seq (wrl (wv (r0_0) z z z ?_)))))
 obtain ⟨t795, ht796, hm⟩ := bind_some hm
 refine wc call12 [r0_0] z z z ?_
 refine (octet_Read_ref f0_0 hst.to0 ht796).mono ?_
 rintro _ w797 ⟨v800, rfl, hst⟩
 refine ⟨_, z, ?_⟩
 replace hst := hst.of1
 obtain ⟨b802, w803, ew804, eb805, hst⟩ := hst.box [.pointer none] 62
 refine wl_run (v := Pt b802 0) (w' := w803) z z (x_al (by kernel_rfl) ew804 eb805) ?_
 replace hst := hst.pull1
 obtain ⟨b807, v808, ⟨rfl, f810⟩, hst'⟩ := at_octet_Reader_open hst
 clear hst
 have hst := hst'
 clear hst'
 replace hst := hst.pull1
 obtain ⟨w811, hr812, hst⟩ := hst.by_ [Pt b807 0] 0 (Pt b807 0) sizeOf62 z (oC z oN) (by kernel_rfl)
 refine wl_unit z z (x_unit hr812) ?_
 refine wl_nil (tn (wp_seq (wrl (wv (Pt b807 0) z z (x_load z isAgg62 (hst.bc0 z)) ?_))))
 replace hst := hst.pull1
 replace hst := at_octet_Reader_close (pv := Pt b807 0) (x := t795) hst ⟨z, f810⟩
 obtain ⟨t813, ht814, hm⟩ := bind_some hm
 refine wc call13 [Pt b807 0, I6 (1:Int)] z z z ?_
 refine (octet_Reader_Num_ref hst.to1 ht814).mono ?_
 rintro _ w815 ⟨rfl, hst⟩
 refine ⟨_, z, ?_⟩
 replace hst := hst.of1
 refine wv (.int .u8 (u8.wrap t813.1)) z z (by kernel_rfl) (wv (.agg #[U1 (u8.wrap t813.1), Zu, Zu, Zu, Zu, Zi, Zu, Zu, Zu, Zs, Zs, Zs, Zs, Zs, Zi, Zu, Zu, Zs, Zs, Zu, Zs, Zu, Zi, Zi, Zf, Zf, Zu, Zi, .bool false]) z z (by kernel_rfl) ?_)
 obtain ⟨b834, w835, ew836, eb837, hst⟩ := hst.box [Zb, Zu, Zu, Zu, Zu, Zi, Zu, Zu, Zu, Zs, Zs, Zs, Zs, Zs, Zi, Zu, Zu, Zs, Zs, Zu, Zs, Zu, Zi, Zi, Zf, Zf, Zu, Zi, .bool false] 48
 refine wl_run (v := Pt b834 0) (w' := w835) z z (x_al (by kernel_rfl) ew836 eb837) ?_
 obtain ⟨w839, hr840, hst⟩ := hst.bx [U1 (u8.wrap t813.1), Zu, Zu, Zu, Zu, Zi, Zu, Zu, Zu, Zs, Zs, Zs, Zs, Zs, Zi, Zu, Zu, Zs, Zs, Zu, Zs, Zu, Zi, Zi, Zf, Zf, Zu, Zi, .bool false] sizeOf48 z (oC z (oC z (oC z (oC z (oC z (oC z (oC z (oC z (oC z (oC z (oC z (oC z (oC z (oC z (oC z (oC z (oC z (oC z (oC z (oC z (oC z (oC z (oC z (oC z (oC z (oC z (oC z (oC z (oC z oN))))))))))))))))))))))))))))) (by kernel_rfl)
 refine wl_unit z z (x_unit hr840) ?_
 refine wl_nil (tn (wp_seq (wrl (wv (.func (.func 49) #[] #[Pt b802 0, Pt b834 0]) z z (by kernel_rfl) (wv (.func (.func 49) #[] #[Pt b802 0, Pt b834 0]) z z z (wl_nil (tn ?_)))))))
 obtain ⟨y1231, hm, hx1232⟩ := joinO_some hm
 refine wp_cut (fun a w => ∃ (I1228 : HL) (z1210 : octet_Reader) (z1211 : api_Command) (v1213 : Value) (v1215 : Value) (v1217 : Value) (v1219 : Value) (v1221 : Value) (v1223 : Value) (v1225 : Value) (v1227 : Value) (σ1229 : Nat → Value), (command_Decode_j0 a0) (z1210, z1211) = some r ∧ a = Fr 113 (upd (upd (upd (upd σ1229 0 (r0_0)) 2 (Pt b790 0)) 4 (Pt b802 0)) 5 (Pt b834 0)) ∧ I.le I1228 ∧ St w0 w I1228 [cells b790 [Zb, Zu, Zu, Zu, Zu, Zi, Zu, Zu, Zu, Zs, Zs, Zs, Zs, Zs, Zi, Zu, Zu, Zs, Zs, Zu, Zs, Zu, Zi, Zi, Zf, Zf, Zu, Zi, .bool false], cells b802 [Pt b807 0], at_octet_Reader (Pt b807 0) z1210, cells b834 [U1 z1211.Kind, U6 z1211.ID.Session, U6 z1211.ID.Seq, U6 z1211.Epoch, U6 z1211.Index, I6 z1211.E, U6 z1211.Hold.ID.Session, U6 z1211.Hold.ID.Seq, U6 z1211.Hold.Epoch, v1213, v1215, v1217, v1219, v1221, I6 z1211.R.E, U6 z1211.R.Epoch, U6 z1211.R.Index, v1223, v1225, U6 z1211.Shards, v1227, U6 z1211.Rule.ID, I6 z1211.Rule.From, I6 z1211.Rule.To, F6 z1211.Rule.Lo, F6 z1211.Rule.Hi, U6 z1211.Rule.Authority, I6 z1211.Rule.Quota, .bool z1211.On], ownS tyF64 v1213 z1211.Hold.Gets, ownS tyF2 v1215 z1211.Hold.Scans, ownS tyF64 v1217 z1211.Hold.Puts, ownS (tyInt .u8) v1219 z1211.Hold.Data, ownS ty_api_Write v1221 z1211.Writes, ownS ty_api_Got v1223 z1211.R.Gots, ownS (tySl ty_api_Pair) v1225 z1211.R.Scans, ownS ty_api_Part v1227 z1211.Parts] R) ?_ ?_
 {
 have hL1233 := HL.le.refl I
 refine wp_seq (wrl (wv (Pt b834 0) z z (x_field z underlying48 z sizeOf5 z) (wv (.int .u8 (u8.wrap t813.1)) z z (x_load z isAgg5 (hst.bc0 z)) (wl_nil (tn (wp_block (wp_seq (wrl (wv (.bool ((u8.wrap t813.1) == (1:Int))) z z z (wv (.bool ((u8.wrap t813.1) == (1:Int))) z z z (wl_nil (tn ?_))))))))))))
 refine bsplit ((u8.wrap t813.1) == (1:Int)) (fun hc841 => ?_) (fun hc841 => ?_)
 {
 replace hm := bif_t hc841 hm
 refine wp_ift (cvb hc841) ?_
 refine wrl (wv (Pt b807 0) z z (x_load z isAgg62 (hst.bc2 z)) ?_)
 replace hst := hst.pull1
 obtain ⟨t842, ht843, hm⟩ := bind_some hm
 refine wc call13 [Pt b807 0, I6 (8:Int)] z z z ?_
 refine (octet_Reader_Num_ref hst.to1 ht843).mono ?_
 rintro _ w844 ⟨rfl, hst⟩
 refine ⟨_, z, ?_⟩
 replace hst := hst.of1
 refine wv (Pt b834 3) z z (x_field z underlying48 z sizeOf25 z) ?_
 replace hst := hst.pull1
 obtain ⟨w847, hr848, hst⟩ := hst.by_ [U1 (u8.wrap t813.1), Zu, Zu, U6 t842.1, Zu, Zi, Zu, Zu, Zu, Zs, Zs, Zs, Zs, Zs, Zi, Zu, Zu, Zs, Zs, Zu, Zs, Zu, Zi, Zi, Zf, Zf, Zu, Zi, .bool false] 3 (.int .u64 t842.1) sizeOf25 z (oC z oN) (by kernel_rfl)
 refine wl_unit z z (x_unit hr848) ?_
 refine wl_nil (blk_n (tn ?_))
 replace hst := hst.own_nil tyF64
 replace hst := hst.own_nil tyF2
 replace hst := hst.own_nil tyF64
 replace hst := hst.own_nil (tyInt .u8)
 replace hst := hst.own_nil ty_api_Write
 replace hst := hst.own_nil ty_api_Got
 replace hst := hst.own_nil (tySl ty_api_Pair)
 replace hst := hst.own_nil ty_api_Part
 replace hst := hst.pull1.pull2.pull3.pull4.pull5.pull6.pull7.pull8.pull9.pull10.pull11.keep12
 obtain rfl := some_inj hm
 exact ⟨_, t842.2, ({ Kind := (u8.wrap t813.1), ID := ({ Session := (0:Int), Seq := (0:Int) } : api_ID), Epoch := t842.1, Index := (0:Int), E := (0:Int), Hold := zero_api_Hold, Writes := [], R := zero_api_Reply, Shards := (0:Int), Parts := [], Rule := zero_api_Rule, On := false } : api_Command), Zs, Zs, Zs, Zs, Zs, Zs, Zs, Zs, _, hx1232, (fu 0 r0_0 z (fu 2 (Pt b790 0) z (fu 4 (Pt b802 0) z (fu 5 (Pt b834 0) z z)))), hL1233, hst⟩
}
 {
 replace hm := bif_f hc841 hm
 refine wp_iff (cvb hc841) ?_
 refine wp_seq (wrl (wv (.bool ((u8.wrap t813.1) == (2:Int))) z z z (wv (.bool ((u8.wrap t813.1) == (2:Int))) z z z (wl_nil (tn ?_)))))
 refine bsplit ((u8.wrap t813.1) == (2:Int)) (fun hc849 => ?_) (fun hc849 => ?_)
 {
 replace hm := bif_t hc849 hm
 refine wp_ift (cvb hc849) ?_
 refine wrl (wv (Pt b807 0) z z (x_load z isAgg62 (hst.bc2 z)) ?_)
 replace hst := hst.pull1
 obtain ⟨t850, ht851, hm⟩ := bind_some hm
 refine wc call15 [Pt b807 0] z z z ?_
 refine (locks_Read_ref hst.to1 ht851).mono ?_
 rintro _ w852 ⟨v855, v857, v859, v861, rfl, hst⟩
 refine ⟨_, z, ?_⟩
 replace hst := hst.of5
 refine wv (Pt b834 6) z z (x_field z underlying48 z sizeOf36 z) ?_
 replace hst := hst.pull5
 obtain ⟨w863, hr864, hst⟩ := hst.by_ [U1 (u8.wrap t813.1), Zu, Zu, Zu, Zu, Zi, U6 t850.1.ID.Session, U6 t850.1.ID.Seq, U6 t850.1.Epoch, v855, v857, v859, v861, Zs, Zi, Zu, Zu, Zs, Zs, Zu, Zs, Zu, Zi, Zi, Zf, Zf, Zu, Zi, .bool false] 6 (.agg #[U6 t850.1.ID.Session, U6 t850.1.ID.Seq, U6 t850.1.Epoch, v855, v857, v859, v861]) sizeOf36 z (oC z (oC z (oC z (oC (one_of_sliceV hst.sv1) (oC (one_of_sliceV hst.sv2) (oC (one_of_sliceV hst.sv3) (oC (one_of_sliceV hst.sv4) oN))))))) (by kernel_rfl)
 refine wl_unit z z (x_unit hr864) ?_
 refine wl_nil (blk_n (tn ?_))
 replace hst := hst.own_nil ty_api_Write
 replace hst := hst.own_nil ty_api_Got
 replace hst := hst.own_nil (tySl ty_api_Pair)
 replace hst := hst.own_nil ty_api_Part
 replace hst := hst.pull1.pull2.pull3.pull8.pull8.pull8.pull8.pull8.pull9.pull10.pull11.keep12
 obtain rfl := some_inj hm
 exact ⟨_, t850.2, ({ Kind := (u8.wrap t813.1), ID := ({ Session := (0:Int), Seq := (0:Int) } : api_ID), Epoch := (0:Int), Index := (0:Int), E := (0:Int), Hold := t850.1, Writes := [], R := zero_api_Reply, Shards := (0:Int), Parts := [], Rule := zero_api_Rule, On := false } : api_Command), v855, v857, v859, v861, Zs, Zs, Zs, Zs, _, hx1232, (fu 0 r0_0 z (fu 2 (Pt b790 0) z (fu 4 (Pt b802 0) z (fu 5 (Pt b834 0) z z)))), hL1233, hst⟩
}
 {
 replace hm := bif_f hc849 hm
 refine wp_iff (cvb hc849) ?_
 refine wp_seq (wrl (wv (.bool ((u8.wrap t813.1) == (3:Int))) z z z (wv (.bool ((u8.wrap t813.1) == (3:Int))) z z z (wl_nil (tn ?_)))))
 refine bsplit ((u8.wrap t813.1) == (3:Int)) (fun hc865 => ?_) (fun hc865 => ?_)
 {
 replace hm := bif_t hc865 hm
 refine wp_ift (cvb hc865) ?_
 refine wp_seq (wrl (wv (.func (.func 49) #[] #[Pt b802 0, Pt b834 0]) z z z ?_))
 obtain ⟨y882, hq883, hm⟩ := bind_some hm
 refine wl_call z z (x_callv call49 (caps := [Pt b802 0, Pt b834 0]) z (vs := []) z) ?_
 refine Calls.mono (show Calls prog 49 #[Pt b802 0, Pt b834 0] _ (fun e w' => ∃ (z878 : octet_Reader) (z879 : Int) (z880 : Int), y882 = (z878, z879, z880) ∧ e = .returned (.tuple #[]) ∧ St w0 w' I [cells b790 [Zb, Zu, Zu, Zu, Zu, Zi, Zu, Zu, Zu, Zs, Zs, Zs, Zs, Zs, Zi, Zu, Zu, Zs, Zs, Zu, Zs, Zu, Zi, Zi, Zf, Zf, Zu, Zi, .bool false], at_octet_Reader (Pt b807 0) z878, cells b802 [Pt b807 0], cells b834 [U1 (u8.wrap t813.1), U6 z879, U6 z880, Zu, Zu, Zi, Zu, Zu, Zu, Zs, Zs, Zs, Zs, Zs, Zi, Zu, Zu, Zs, Zs, Zu, Zs, Zu, Zi, Zi, Zf, Zf, Zu, Zi, .bool false]] R) from ?_) ?_
 {
 clear hm; have hm := hq883
 refine calls_start (args := [Pt b802 0, Pt b834 0]) func49 z ntmps49 (Nat.le_of_ble_eq_true z) ?_
 refine wp_region_St hst 7 [0, 1, 2, 3, 4, 5, 6] [0, 1, 0, 7, 15, 31, 63] [] z (by kernel_rfl) (by kernel_rfl) Try.mixed (by kernel_rfl) ?_
 refine wsr (Pt b807 0) 0 z z z (by kernel_rfl) (fun w hst => x_load z isAgg62 (hst.bc2 z)) (wsr (Pt b807 0) 2 z z z (by kernel_rfl) (fun w hst => x_load z isAgg62 (hst.bc2 z)) ?_)
 refine ws_e1 1 (by kernel_rfl) ?_
 refine nxe [3, 4, 5, 6] (by kernel_rfl) z z ?_
 clear hst
 intro w hst
 replace hst := hst.pull1
 obtain ⟨t866, ht867, hm⟩ := bind_some hm
 refine wec call13 [Pt b807 0, I6 (8:Int)] z z ?_
 refine (octet_Reader_Num_ref hst.to1 ht867).mono ?_
 rintro _ w868 ⟨rfl, hst⟩
 refine ⟨_, z, ?_⟩
 replace hst := hst.of1
 refine ws_next (pend' := [(2, Pt b807 0)]) hst (by kernel_rfl) (pkr z z (fun w hst => x_load z isAgg62 (hst.bc2 z)) pk_nil) ?_
 refine ws_e1 3 (by kernel_rfl) ?_
 refine nxe [4, 5, 6] (by kernel_rfl) z z ?_
 clear hst
 intro w hst
 obtain ⟨t871, ht872, hm⟩ := bind_some hm
 refine wec call13 [Pt b807 0, I6 (8:Int)] z z ?_
 refine (octet_Reader_Num_ref hst.to1 ht872).mono ?_
 rintro _ w873 ⟨rfl, hst⟩
 refine ⟨_, z, ?_⟩
 replace hst := hst.of1
 refine ws_next (pend' := []) hst (by kernel_rfl) pk_nil ?_
 refine wsr (.agg #[U6 t866.1, U6 t871.1]) 4 z z z (by kernel_rfl) (fun w hst => by kernel_rfl) (wsr (Pt b834 1) 5 z z z (by kernel_rfl) (fun w hst => x_field z underlying48 z sizeOf32 z) ?_)
 refine ws_e1 6 (by kernel_rfl) ?_
 refine nxe [] (by kernel_rfl) z z ?_
 clear hst
 intro w hst
 replace hst := hst.pull1
 obtain ⟨w876, hr877, hst⟩ := hst.by_ [U1 (u8.wrap t813.1), U6 t866.1, U6 t871.1, Zu, Zu, Zi, Zu, Zu, Zu, Zs, Zs, Zs, Zs, Zs, Zi, Zu, Zu, Zs, Zs, Zu, Zs, Zu, Zi, Zi, Zf, Zf, Zu, Zi, .bool false] 1 (.agg #[U6 t866.1, U6 t871.1]) sizeOf32 z (oC z (oC z oN)) (by kernel_rfl)
 refine we_unit z (x_unit hr877) ?_
 refine ws_next (pend' := []) hst (by kernel_rfl) pk_nil ?_
 refine ws_nil ?_
 intro w hst
 refine post_end (vs := []) results49 rvs_nil ?_
 replace hst := hst.pull2.pull2.pull3.keep4
 obtain rfl := some_inj hm
 exact ⟨t871.2, t866.1, t871.1, z, z, hst⟩
}
 clear hst
 rintro _ w884 ⟨z878, z879, z880, rfl, rfl, hst⟩
 refine ⟨_, z, ?_⟩
 try dsimp only at hm
 refine wl_nil (tn (wp_seq ?_))
 refine wp_region_St hst 13 [0, 1, 2, 3, 4, 5, 6, 7, 8, 9, 10, 11, 12] [0, 1, 3, 0, 11, 0, 59, 7, 255, 511, 1023, 2047, 4095] [] z (by kernel_rfl) (by kernel_rfl) Try.mixed (by kernel_rfl) ?_
 refine wsr (Pt b807 0) 0 z z z (by kernel_rfl) (fun w hst => x_load z isAgg62 (hst.bc2 z)) (wsr (Pt b807 0) 3 z z z (by kernel_rfl) (fun w hst => x_load z isAgg62 (hst.bc2 z)) (wsr (Pt b807 0) 5 z z z (by kernel_rfl) (fun w hst => x_load z isAgg62 (hst.bc2 z)) ?_))
 refine ws_e1 1 (by kernel_rfl) ?_
 refine nxe [2, 4, 6, 7, 8, 9, 10, 11, 12] (by kernel_rfl) z z ?_
 clear hst
 intro w hst
 replace hst := hst.pull1
 obtain ⟨t885, ht886, hm⟩ := bind_some hm
 refine wec call13 [Pt b807 0, I6 (1:Int)] z z ?_
 refine (octet_Reader_Num_ref hst.to1 ht886).mono ?_
 rintro _ w887 ⟨rfl, hst⟩
 refine ⟨_, z, ?_⟩
 replace hst := hst.of1
 refine ws_next (pend' := [(5, Pt b807 0), (3, Pt b807 0)]) hst (by kernel_rfl) (pkr z z (fun w hst => x_load z isAgg62 (hst.bc2 z)) (pkr z z (fun w hst => x_load z isAgg62 (hst.bc2 z)) pk_nil)) ?_
 refine wsr (.int .i64 (i64.wrap t885.1)) 2 z z z (by kernel_rfl) (fun w hst => by kernel_rfl) (wsr (Pt b834 5) 7 z z z (by kernel_rfl) (fun w hst => x_field z underlying48 z sizeOf37 z) ?_)
 refine ws_e1 4 (by kernel_rfl) ?_
 refine nxe [6, 8, 9, 10, 11, 12] (by kernel_rfl) z z ?_
 clear hst
 intro w hst
 obtain ⟨t890, ht891, hm⟩ := bind_some hm
 refine wec call13 [Pt b807 0, I6 (8:Int)] z z ?_
 refine (octet_Reader_Num_ref hst.to1 ht891).mono ?_
 rintro _ w892 ⟨rfl, hst⟩
 refine ⟨_, z, ?_⟩
 replace hst := hst.of1
 refine ws_next (pend' := [(7, Pt b834 5), (2, I6 (i64.wrap t885.1)), (5, Pt b807 0)]) hst (by kernel_rfl) (pkr z z (fun w hst => x_field z underlying48 z sizeOf37 z) (pkr z z (fun w hst => by kernel_rfl) (pkr z z (fun w hst => x_load z isAgg62 (hst.bc2 z)) pk_nil))) ?_
 refine ws_e1 6 (by kernel_rfl) ?_
 refine nxe [8, 9, 10, 11, 12] (by kernel_rfl) z z ?_
 clear hst
 intro w hst
 obtain ⟨t895, ht896, hm⟩ := bind_some hm
 refine wec call13 [Pt b807 0, I6 (8:Int)] z z ?_
 refine (octet_Reader_Num_ref hst.to1 ht896).mono ?_
 rintro _ w897 ⟨rfl, hst⟩
 refine ⟨_, z, ?_⟩
 replace hst := hst.of1
 refine ws_next (pend' := [(7, Pt b834 5), (2, I6 (i64.wrap t885.1))]) hst (by kernel_rfl) (pkr z z (fun w hst => x_field z underlying48 z sizeOf37 z) (pkr z z (fun w hst => by kernel_rfl) pk_nil)) ?_
 refine ws_e1 8 (by kernel_rfl) ?_
 refine nxe [9, 10, 11, 12] (by kernel_rfl) z z ?_
 clear hst
 intro w hst
 replace hst := hst.pull3
 obtain ⟨w900, hr901, hst⟩ := hst.by_ [U1 (u8.wrap t813.1), U6 z879, U6 z880, Zu, Zu, I6 (i64.wrap t885.1), Zu, Zu, Zu, Zs, Zs, Zs, Zs, Zs, Zi, Zu, Zu, Zs, Zs, Zu, Zs, Zu, Zi, Zi, Zf, Zf, Zu, Zi, .bool false] 5 (.int .i64 (i64.wrap t885.1)) sizeOf37 z (oC z oN) (by kernel_rfl)
 refine we_unit z (x_unit hr901) ?_
 refine ws_next (pend' := []) hst (by kernel_rfl) pk_nil ?_
 refine wsr (Pt b834 3) 9 z z z (by kernel_rfl) (fun w hst => x_field z underlying48 z sizeOf25 z) ?_
 refine ws_e1 10 (by kernel_rfl) ?_
 refine nxe [11, 12] (by kernel_rfl) z z ?_
 clear hst
 intro w hst
 obtain ⟨w902, hr903, hst⟩ := hst.by_ [U1 (u8.wrap t813.1), U6 z879, U6 z880, U6 t890.1, Zu, I6 (i64.wrap t885.1), Zu, Zu, Zu, Zs, Zs, Zs, Zs, Zs, Zi, Zu, Zu, Zs, Zs, Zu, Zs, Zu, Zi, Zi, Zf, Zf, Zu, Zi, .bool false] 3 (.int .u64 t890.1) sizeOf25 z (oC z oN) (by kernel_rfl)
 refine we_unit z (x_unit hr903) ?_
 refine ws_next (pend' := []) hst (by kernel_rfl) pk_nil ?_
 refine wsr (Pt b834 4) 11 z z z (by kernel_rfl) (fun w hst => x_field z underlying48 z sizeOf25 z) ?_
 refine ws_e1 12 (by kernel_rfl) ?_
 refine nxe [] (by kernel_rfl) z z ?_
 clear hst
 intro w hst
 obtain ⟨w904, hr905, hst⟩ := hst.by_ [U1 (u8.wrap t813.1), U6 z879, U6 z880, U6 t890.1, U6 t895.1, I6 (i64.wrap t885.1), Zu, Zu, Zu, Zs, Zs, Zs, Zs, Zs, Zi, Zu, Zu, Zs, Zs, Zu, Zs, Zu, Zi, Zi, Zf, Zf, Zu, Zi, .bool false] 4 (.int .u64 t895.1) sizeOf25 z (oC z oN) (by kernel_rfl)
 refine we_unit z (x_unit hr905) ?_
 refine ws_next (pend' := []) hst (by kernel_rfl) pk_nil ?_
 refine ws_nil ?_
 intro w hst
 refine tn (wrl (wv (Pt b807 0) z z (x_load z isAgg62 (hst.bc3 z)) ?_))
 replace hst := hst.pull1
 obtain ⟨t906, ht907, hm⟩ := bind_some hm
 refine wc call50 [Pt b807 0] z z z ?_
 refine (command_readWrites_ref hst.to1 ht907).mono ?_
 rintro _ w908 ⟨I909, v911, rfl, hI910, hst⟩
 refine ⟨_, z, ?_⟩
 replace hst := hst.of2
 replace f0_0 := f0_0.mono (ro_le hI910)
 replace f810 := f810.mono (ro_le hI910)
 replace hI0 := hI0.trans hI910
 replace hL1233 := hL1233.trans hI910
 refine wv (Pt b834 13) z z (x_field z underlying48 z sizeOf42 z) ?_
 replace hst := hst.pull2
 obtain ⟨w913, hr914, hst⟩ := hst.boxStore1 (P := prog) (t := 42) (cs' := [U1 (u8.wrap t813.1), U6 z879, U6 z880, U6 t890.1, U6 t895.1, I6 (i64.wrap t885.1), Zu, Zu, Zu, Zs, Zs, Zs, Zs, v911, Zi, Zu, Zu, Zs, Zs, Zu, Zs, Zu, Zi, Zi, Zf, Zf, Zu, Zi, .bool false]) 13 v911 (one_of_sliceV hst.sv1) sizeOf42 z z
 refine wl_unit z z (x_unit hr914) ?_
 refine wl_nil (blk_n (tn ?_))
 replace hst := hst.own_nil tyF64
 replace hst := hst.own_nil tyF2
 replace hst := hst.own_nil tyF64
 replace hst := hst.own_nil (tyInt .u8)
 replace hst := hst.own_nil ty_api_Got
 replace hst := hst.own_nil (tySl ty_api_Pair)
 replace hst := hst.own_nil ty_api_Part
 replace hst := hst.pull1.pull2.pull8.pull4.pull5.pull6.pull7.pull8.pull9.pull11.pull11.keep12
 obtain rfl := some_inj hm
 exact ⟨_, t906.2, ({ Kind := (u8.wrap t813.1), ID := ({ Session := z879, Seq := z880 } : api_ID), Epoch := t890.1, Index := t895.1, E := (i64.wrap t885.1), Hold := zero_api_Hold, Writes := t906.1, R := zero_api_Reply, Shards := (0:Int), Parts := [], Rule := zero_api_Rule, On := false } : api_Command), Zs, Zs, Zs, Zs, v911, Zs, Zs, Zs, _, hx1232, (fu 0 r0_0 z (fu 2 (Pt b790 0) z (fu 4 (Pt b802 0) z (fu 5 (Pt b834 0) z z)))), hL1233, hst⟩
}
 {
 replace hm := bif_f hc865 hm
 refine wp_iff (cvb hc865) ?_
 refine wp_seq (wrl (wv (.bool ((u8.wrap t813.1) == (4:Int))) z z z (wv (.bool ((u8.wrap t813.1) == (4:Int))) z z z (wl_nil (tn ?_)))))
 refine bsplit ((u8.wrap t813.1) == (4:Int)) (fun hc915 => ?_) (fun hc915 => ?_)
 {
 replace hm := bif_t hc915 hm
 refine wp_ift (cvb hc915) ?_
 refine wp_seq (wrl (wv (.func (.func 49) #[] #[Pt b802 0, Pt b834 0]) z z z ?_))
 obtain ⟨y932, hq933, hm⟩ := bind_some hm
 refine wl_call z z (x_callv call49 (caps := [Pt b802 0, Pt b834 0]) z (vs := []) z) ?_
 refine Calls.mono (show Calls prog 49 #[Pt b802 0, Pt b834 0] _ (fun e w' => ∃ (z928 : octet_Reader) (z929 : Int) (z930 : Int), y932 = (z928, z929, z930) ∧ e = .returned (.tuple #[]) ∧ St w0 w' I [cells b790 [Zb, Zu, Zu, Zu, Zu, Zi, Zu, Zu, Zu, Zs, Zs, Zs, Zs, Zs, Zi, Zu, Zu, Zs, Zs, Zu, Zs, Zu, Zi, Zi, Zf, Zf, Zu, Zi, .bool false], at_octet_Reader (Pt b807 0) z928, cells b802 [Pt b807 0], cells b834 [U1 (u8.wrap t813.1), U6 z929, U6 z930, Zu, Zu, Zi, Zu, Zu, Zu, Zs, Zs, Zs, Zs, Zs, Zi, Zu, Zu, Zs, Zs, Zu, Zs, Zu, Zi, Zi, Zf, Zf, Zu, Zi, .bool false]] R) from ?_) ?_
 {
 clear hm; have hm := hq933
 refine calls_start (args := [Pt b802 0, Pt b834 0]) func49 z ntmps49 (Nat.le_of_ble_eq_true z) ?_
 refine wp_region_St hst 7 [0, 1, 2, 3, 4, 5, 6] [0, 1, 0, 7, 15, 31, 63] [] z (by kernel_rfl) (by kernel_rfl) Try.mixed (by kernel_rfl) ?_
 refine wsr (Pt b807 0) 0 z z z (by kernel_rfl) (fun w hst => x_load z isAgg62 (hst.bc2 z)) (wsr (Pt b807 0) 2 z z z (by kernel_rfl) (fun w hst => x_load z isAgg62 (hst.bc2 z)) ?_)
 refine ws_e1 1 (by kernel_rfl) ?_
 refine nxe [3, 4, 5, 6] (by kernel_rfl) z z ?_
 clear hst
 intro w hst
 replace hst := hst.pull1
 obtain ⟨t916, ht917, hm⟩ := bind_some hm
 refine wec call13 [Pt b807 0, I6 (8:Int)] z z ?_
 refine (octet_Reader_Num_ref hst.to1 ht917).mono ?_
 rintro _ w918 ⟨rfl, hst⟩
 refine ⟨_, z, ?_⟩
 replace hst := hst.of1
 refine ws_next (pend' := [(2, Pt b807 0)]) hst (by kernel_rfl) (pkr z z (fun w hst => x_load z isAgg62 (hst.bc2 z)) pk_nil) ?_
 refine ws_e1 3 (by kernel_rfl) ?_
 refine nxe [4, 5, 6] (by kernel_rfl) z z ?_
 clear hst
 intro w hst
 obtain ⟨t921, ht922, hm⟩ := bind_some hm
 refine wec call13 [Pt b807 0, I6 (8:Int)] z z ?_
 refine (octet_Reader_Num_ref hst.to1 ht922).mono ?_
 rintro _ w923 ⟨rfl, hst⟩
 refine ⟨_, z, ?_⟩
 replace hst := hst.of1
 refine ws_next (pend' := []) hst (by kernel_rfl) pk_nil ?_
 refine wsr (.agg #[U6 t916.1, U6 t921.1]) 4 z z z (by kernel_rfl) (fun w hst => by kernel_rfl) (wsr (Pt b834 1) 5 z z z (by kernel_rfl) (fun w hst => x_field z underlying48 z sizeOf32 z) ?_)
 refine ws_e1 6 (by kernel_rfl) ?_
 refine nxe [] (by kernel_rfl) z z ?_
 clear hst
 intro w hst
 replace hst := hst.pull1
 obtain ⟨w926, hr927, hst⟩ := hst.by_ [U1 (u8.wrap t813.1), U6 t916.1, U6 t921.1, Zu, Zu, Zi, Zu, Zu, Zu, Zs, Zs, Zs, Zs, Zs, Zi, Zu, Zu, Zs, Zs, Zu, Zs, Zu, Zi, Zi, Zf, Zf, Zu, Zi, .bool false] 1 (.agg #[U6 t916.1, U6 t921.1]) sizeOf32 z (oC z (oC z oN)) (by kernel_rfl)
 refine we_unit z (x_unit hr927) ?_
 refine ws_next (pend' := []) hst (by kernel_rfl) pk_nil ?_
 refine ws_nil ?_
 intro w hst
 refine post_end (vs := []) results49 rvs_nil ?_
 replace hst := hst.pull2.pull2.pull3.keep4
 obtain rfl := some_inj hm
 exact ⟨t921.2, t916.1, t921.1, z, z, hst⟩
}
 clear hst
 rintro _ w934 ⟨z928, z929, z930, rfl, rfl, hst⟩
 refine ⟨_, z, ?_⟩
 try dsimp only at hm
 refine wl_nil (tn (wp_seq ?_))
 refine wp_region_St hst 8 [0, 1, 2, 3, 4, 5, 6, 7] [0, 1, 0, 7, 3, 31, 63, 127] [] z (by kernel_rfl) (by kernel_rfl) Try.mixed (by kernel_rfl) ?_
 refine wsr (Pt b807 0) 0 z z z (by kernel_rfl) (fun w hst => x_load z isAgg62 (hst.bc2 z)) (wsr (Pt b807 0) 2 z z z (by kernel_rfl) (fun w hst => x_load z isAgg62 (hst.bc2 z)) ?_)
 refine ws_e1 1 (by kernel_rfl) ?_
 refine nxe [3, 4, 5, 6, 7] (by kernel_rfl) z z ?_
 clear hst
 intro w hst
 replace hst := hst.pull1
 obtain ⟨t935, ht936, hm⟩ := bind_some hm
 refine wec call13 [Pt b807 0, I6 (8:Int)] z z ?_
 refine (octet_Reader_Num_ref hst.to1 ht936).mono ?_
 rintro _ w937 ⟨rfl, hst⟩
 refine ⟨_, z, ?_⟩
 replace hst := hst.of1
 refine ws_next (pend' := [(2, Pt b807 0)]) hst (by kernel_rfl) (pkr z z (fun w hst => x_load z isAgg62 (hst.bc2 z)) pk_nil) ?_
 refine wsr (Pt b834 3) 4 z z z (by kernel_rfl) (fun w hst => x_field z underlying48 z sizeOf25 z) ?_
 refine ws_e1 3 (by kernel_rfl) ?_
 refine nxe [5, 6, 7] (by kernel_rfl) z z ?_
 clear hst
 intro w hst
 obtain ⟨t940, ht941, hm⟩ := bind_some hm
 refine wec call13 [Pt b807 0, I6 (2:Int)] z z ?_
 refine (octet_Reader_Num_ref hst.to1 ht941).mono ?_
 rintro _ w942 ⟨rfl, hst⟩
 refine ⟨_, z, ?_⟩
 replace hst := hst.of1
 refine ws_next (pend' := [(4, Pt b834 3)]) hst (by kernel_rfl) (pkr z z (fun w hst => x_field z underlying48 z sizeOf25 z) pk_nil) ?_
 refine ws_e1 5 (by kernel_rfl) ?_
 refine nxe [6, 7] (by kernel_rfl) z z ?_
 clear hst
 intro w hst
 replace hst := hst.pull3
 obtain ⟨w945, hr946, hst⟩ := hst.by_ [U1 (u8.wrap t813.1), U6 z929, U6 z930, U6 t935.1, Zu, Zi, Zu, Zu, Zu, Zs, Zs, Zs, Zs, Zs, Zi, Zu, Zu, Zs, Zs, Zu, Zs, Zu, Zi, Zi, Zf, Zf, Zu, Zi, .bool false] 3 (.int .u64 t935.1) sizeOf25 z (oC z oN) (by kernel_rfl)
 refine we_unit z (x_unit hr946) ?_
 refine ws_next (pend' := []) hst (by kernel_rfl) pk_nil ?_
 refine wsr (Pt b834 19) 6 z z z (by kernel_rfl) (fun w hst => x_field z underlying48 z sizeOf25 z) ?_
 refine ws_e1 7 (by kernel_rfl) ?_
 refine nxe [] (by kernel_rfl) z z ?_
 clear hst
 intro w hst
 obtain ⟨w947, hr948, hst⟩ := hst.by_ [U1 (u8.wrap t813.1), U6 z929, U6 z930, U6 t935.1, Zu, Zi, Zu, Zu, Zu, Zs, Zs, Zs, Zs, Zs, Zi, Zu, Zu, Zs, Zs, U6 t940.1, Zs, Zu, Zi, Zi, Zf, Zf, Zu, Zi, .bool false] 19 (.int .u64 t940.1) sizeOf25 z (oC z oN) (by kernel_rfl)
 refine we_unit z (x_unit hr948) ?_
 refine ws_next (pend' := []) hst (by kernel_rfl) pk_nil ?_
 refine ws_nil ?_
 intro w hst
 refine tn ?_
 obtain ⟨y1096, hm, hx1097⟩ := bind_some hm
 refine wp_cut (fun a w => ∃ (I1093 : HL) (z1089 : octet_Reader) (z1092 : (List api_Part)) (v1091 : Value) (σ1094 : Nat → Value), (command_Decode_j1 t813 z929 z930 t935 t940) (z1089, z1092) = some y1231 ∧ a = Fr 113 (upd (upd (upd (upd σ1094 0 (r0_0)) 2 (Pt b790 0)) 4 (Pt b802 0)) 5 (Pt b834 0)) ∧ I.le I1093 ∧ St w0 w I1093 [cells b790 [Zb, Zu, Zu, Zu, Zu, Zi, Zu, Zu, Zu, Zs, Zs, Zs, Zs, Zs, Zi, Zu, Zu, Zs, Zs, Zu, Zs, Zu, Zi, Zi, Zf, Zf, Zu, Zi, .bool false], cells b802 [Pt b807 0], at_octet_Reader (Pt b807 0) z1089, cells b834 [U1 (u8.wrap t813.1), U6 z929, U6 z930, U6 t935.1, Zu, Zi, Zu, Zu, Zu, Zs, Zs, Zs, Zs, Zs, Zi, Zu, Zu, Zs, Zs, U6 t940.1, v1091, Zu, Zi, Zi, Zf, Zf, Zu, Zi, .bool false], ownS ty_api_Part v1091 z1092] R) ?_ ?_
 {
 have hL1098 := HL.le.refl I
 refine wp_seq (wrl (wv (Pt b807 0) z z (x_load z isAgg62 (hst.bc3 z)) ?_))
 replace hst := hst.pull1
 obtain ⟨t949, ht950, hm⟩ := bind_some hm
 refine wc call46 [Pt b807 0, I6 (8:Int)] z z z ?_
 refine (octet_Reader_Count_ref hst.to1 ht950).mono ?_
 rintro _ w951 ⟨rfl, hst⟩
 refine ⟨_, z, ?_⟩
 replace hst := hst.of1
 refine wv (.int .i64 (0:Int)) z z z (wl_nil (tn (wp_block ?_)))
 replace hst := hst.own_nil ty_api_Part
 obtain ⟨n1053, hm⟩ := loopO_some hm
 refine wp_loop_n (fun n a w => ∃ (I1051 : HL) (z1046 : (List api_Part)) (z1049 : octet_Reader) (z1050 : Int) (v1047 : Value) (σ1052 : Nat → Value), loopN (command_Decode_l2 t949) n (z1046, z1049, z1050) = some y1096 ∧ a = Fr 113 (upd (upd (upd (upd (upd (upd σ1052 0 (r0_0)) 2 (Pt b790 0)) 4 (Pt b802 0)) 5 (Pt b834 0)) 55 (.int .i64 t949.1)) 56 (.int .i64 z1050)) ∧ I.le I1051 ∧ St w0 w I1051 [ownS ty_api_Part v1047 z1046, at_octet_Reader (Pt b807 0) z1049, cells b834 [U1 (u8.wrap t813.1), U6 z929, U6 z930, U6 t935.1, Zu, Zi, Zu, Zu, Zu, Zs, Zs, Zs, Zs, Zs, Zi, Zu, Zu, Zs, Zs, U6 t940.1, v1047, Zu, Zi, Zi, Zf, Zf, Zu, Zi, .bool false], cells b790 [Zb, Zu, Zu, Zu, Zu, Zi, Zu, Zu, Zu, Zs, Zs, Zs, Zs, Zs, Zi, Zu, Zu, Zs, Zs, Zu, Zs, Zu, Zi, Zi, Zf, Zf, Zu, Zi, .bool false], cells b802 [Pt b807 0]] R) n1053 ⟨_, [], t949.2, (0:Int), Zs, _, hm, (fu 0 r0_0 z (fu 2 (Pt b790 0) z (fu 4 (Pt b802 0) z (fu 5 (Pt b834 0) z (fu 55 (.int .i64 t949.1) z (fu 56 (.int .i64 (0:Int)) z z)))))), (HL.le.refl _), hst⟩ ?_
 rintro n1059 _ w1054 ⟨I1051, z1046, z1049, z1050, v1047, σ1052, hm, rfl, hL1055, hst⟩
 obtain ⟨n1056, y1057, rfl, hm, hx1058⟩ := loopN_some hm
 dsimp only [command_Decode_l2] at hm
 replace f0_0 := f0_0.mono (ro_le hL1055)
 replace f810 := f810.mono (ro_le hL1055)
 replace hI0 := hI0.trans hL1055
 replace hL1233 := hL1233.trans hL1055
 replace hL1098 := hL1098.trans hL1055
 refine wp_seq (wrl (wv (.bool (decide (z1050 < t949.1))) z z z (wl_nil (tn (wp_seq ?_)))))
 refine bsplit (decide (z1050 < t949.1)) (fun hc1060 => ?_) (fun hc1060 => ?_)
 {
 replace hm := bif_t hc1060 hm
 refine wp_ift (cvb hc1060) ?_
 refine wp_skip (tn (wp_seq (wp_block ?_)))
 refine wp_region_St hst 12 [0, 1, 2, 3, 4, 5, 6, 7, 8, 9, 10, 11] [0, 1, 0, 4, 12, 0, 44, 124, 252, 511, 1023, 2047] [] z (by kernel_rfl) (by kernel_rfl) Try.mixed (by kernel_rfl) ?_
 refine wsr (Pt b834 20) 0 z z z (by kernel_rfl) (fun w hst => x_field z underlying48 z sizeOf43 z) (wsr (v1047) 1 z z z (by kernel_rfl) (fun w hst => x_load z isAgg43 (hst.bc2 z)) (wsr (Pt b807 0) 2 z z z (by kernel_rfl) (fun w hst => x_load z isAgg62 (hst.bc4 z)) (wsr (Pt b807 0) 5 z z z (by kernel_rfl) (fun w hst => x_load z isAgg62 (hst.bc4 z)) ?_)))
 refine ws_e1 3 (by kernel_rfl) ?_
 refine nxe [4, 6, 7, 8, 9, 10, 11] (by kernel_rfl) z z ?_
 clear hst
 intro w hst
 replace hst := hst.pull1
 obtain ⟨t1061, ht1062, hm⟩ := bind_some hm
 refine wec call13 [Pt b807 0, I6 (1:Int)] z z ?_
 refine (octet_Reader_Num_ref hst.to1 ht1062).mono ?_
 rintro _ w1063 ⟨rfl, hst⟩
 refine ⟨_, z, ?_⟩
 replace hst := hst.of1
 refine ws_next (pend' := [(5, Pt b807 0), (1, v1047), (0, Pt b834 20)]) hst (by kernel_rfl) (pkr z z (fun w hst => x_load z isAgg62 (hst.bc4 z)) (pkr z z (fun w hst => x_load z isAgg43 (hst.bc2 z)) (pkr z z (fun w hst => x_field z underlying48 z sizeOf43 z) pk_nil))) ?_
 refine wsr (.int .i64 (i64.wrap t1061.1)) 4 z z z (by kernel_rfl) (fun w hst => by kernel_rfl) ?_
 refine ws_e1 6 (by kernel_rfl) ?_
 refine nxe [7, 8, 9, 10, 11] (by kernel_rfl) z z ?_
 clear hst
 intro w hst
 obtain ⟨t1066, ht1067, hm⟩ := bind_some hm
 refine wec call50 [Pt b807 0] z z ?_
 refine (command_readWrites_ref hst.to1 ht1067).mono ?_
 rintro _ w1068 ⟨I1069, v1071, rfl, hI1070, hst⟩
 refine ⟨_, z, ?_⟩
 replace hst := hst.of2
 replace f0_0 := f0_0.mono (ro_le hI1070)
 replace f810 := f810.mono (ro_le hI1070)
 replace hI0 := hI0.trans hI1070
 replace hL1233 := hL1233.trans hI1070
 replace hL1098 := hL1098.trans hI1070
 replace hL1055 := hL1055.trans hI1070
 refine ws_next (pend' := [(4, I6 (i64.wrap t1061.1)), (1, v1047), (0, Pt b834 20)]) hst (by kernel_rfl) (pkr z z (fun w hst => by kernel_rfl) (pkr z z (fun w hst => x_load z isAgg43 (hst.bc3 z)) (pkr z z (fun w hst => x_field z underlying48 z sizeOf43 z) pk_nil))) ?_
 refine wsr (.agg #[I6 (i64.wrap t1061.1), v1071]) 7 rfl rfl rfl (by kernel_rfl) (fun w hst => by obtain ⟨_, _, hv_, _⟩ := hst.sv0; rw [hv_]; kernel_rfl) ?_
 refine ws_e1 8 (by kernel_rfl) ?_
 refine nxe [9, 10, 11] (by kernel_rfl) z z ?_
 clear hst
 intro w hst
 obtain ⟨I1075, hI1076, f1077, hst⟩ := hst.own_fix
 replace f0_0 := f0_0.mono (ro_le hI1076)
 replace f810 := f810.mono (ro_le hI1076)
 replace hI0 := hI0.trans hI1076
 replace hL1233 := hL1233.trans hI1076
 replace hL1098 := hL1098.trans hI1076
 replace hL1055 := hL1055.trans hI1076
 obtain ⟨b1078, w1079, ew1080, eb1081, hst⟩ := hst.lits (E := ty_api_Part) (xs := [({ Shard := (i64.wrap t1061.1), Writes := t1066.1 } : api_Part)]) [[I6 (i64.wrap t1061.1), v1071]] 110 1 z (Reps.cons ⟨_, z, f1077, one_of_sliceV (ro_sliceV f1077)⟩ Reps.nil)
 refine we_run (v := (.slice (some ⟨b1078, 0, none⟩) 1 1)) (w' := w1079) z (x_als (by kernel_rfl) ew1080 eb1081) ?_
 refine ws_next (pend' := [(1, v1047), (0, Pt b834 20)]) hst (by kernel_rfl) (pkr z z (fun w hst => x_load z isAgg43 (hst.bc3 z)) (pkr z z (fun w hst => x_field z underlying48 z sizeOf43 z) pk_nil)) ?_
 refine ws_e1 9 (by kernel_rfl) ?_
 refine nxe [10, 11] (by kernel_rfl) z z ?_
 clear hst
 intro w hst
 obtain ⟨hg1083, hm⟩ := gd_some hm
 replace hst := hst.pull2
 obtain ⟨v1084, w1085, hr1086, hst⟩ := run_append elem_43 underlying43 hst hst.src1 (room_of hg1083 z) 43
 refine we_run (v := v1084) (w' := w1085) z (x_append z z hr1086) ?_
 refine ws_next (pend' := []) hst (by kernel_rfl) pk_nil ?_
 refine wsr (Pt b834 20) 10 z z z (by kernel_rfl) (fun w hst => x_field z underlying48 z sizeOf43 z) ?_
 refine ws_e1 11 (by kernel_rfl) ?_
 refine nxe [] (by kernel_rfl) z z ?_
 clear hst
 intro w hst
 replace hst := hst.pull3
 obtain ⟨w1087, hr1088, hst⟩ := hst.boxStore1 (P := prog) (t := 43) (cs' := [U1 (u8.wrap t813.1), U6 z929, U6 z930, U6 t935.1, Zu, Zi, Zu, Zu, Zu, Zs, Zs, Zs, Zs, Zs, Zi, Zu, Zu, Zs, Zs, U6 t940.1, v1084, Zu, Zi, Zi, Zf, Zf, Zu, Zi, .bool false]) 20 v1084 (one_of_sliceV hst.sv1) sizeOf43 z z
 refine we_unit z (x_unit hr1088) ?_
 refine ws_next (pend' := []) hst (by kernel_rfl) pk_nil ?_
 refine ws_nil ?_
 intro w hst
 refine blk_n (tn (wrl ?_))
 refine wv (.int .i64 (i64.wrap (z1050 + (1:Int)))) z z z (wv (.int .i64 (i64.wrap (z1050 + (1:Int)))) z z z (wl_nil (tn ?_)))
 replace hst := hst.pull5.pull5.pull2.pull5.pull4.keep5
 obtain rfl := some_inj hm
 exact ⟨_, Nat.lt_succ_self _, _, (z1046 ++ ([({ Shard := (i64.wrap t1061.1), Writes := t1066.1 } : api_Part)])), t1066.2, (i64.wrap (z1050 + (1:Int))), v1084, _, hx1058, (fu 0 r0_0 z (fu 2 (Pt b790 0) z (fu 4 (Pt b802 0) z (fu 5 (Pt b834 0) z (fu 55 (.int .i64 t949.1) z (fu 56 (.int .i64 (i64.wrap (z1050 + (1:Int)))) z z)))))), hL1055, hst⟩
}
 {
 replace hm := bif_f hc1060 hm
 refine wp_iff (cvb hc1060) ?_
 refine wp_exit (then_x (then_x ?_))
 replace hm := inr_up hm hx1058
 refine blk_x (tn ?_)
 replace hst := hst.pull2.pull2.pull4.pull4.keep5
 obtain rfl := some_inj hm
 exact ⟨_, z1049, z1046, v1047, _, hx1097, (fu 0 r0_0 z (fu 2 (Pt b790 0) z (fu 4 (Pt b802 0) z (fu 5 (Pt b834 0) z z)))), hL1098, hst⟩
}
}
 {
 clear hst
 rintro _ w1099 ⟨I1093, z1089, z1092, v1091, σ1094, hm, rfl, hL1095, hst⟩
 dsimp only [command_Decode_j1] at hm
 replace f0_0 := f0_0.mono (ro_le hL1095)
 replace f810 := f810.mono (ro_le hL1095)
 replace hI0 := hI0.trans hL1095
 replace hL1233 := hL1233.trans hL1095
 refine wrl (wv (Pt b807 0) z z (x_load z isAgg62 (hst.bc1 z)) ?_)
 replace hst := hst.pull2
 obtain ⟨t1100, ht1101, hm⟩ := bind_some hm
 refine wc call16 [Pt b807 0] z z z ?_
 refine (command_ReadReply_ref hst.to1 ht1101).mono ?_
 rintro _ w1102 ⟨I1103, v1105, v1107, rfl, hI1104, hst⟩
 refine ⟨_, z, ?_⟩
 replace hst := hst.of3
 replace f0_0 := f0_0.mono (ro_le hI1104)
 replace f810 := f810.mono (ro_le hI1104)
 replace hI0 := hI0.trans hI1104
 replace hL1233 := hL1233.trans hI1104
 refine wv (Pt b834 14) z z (x_field z underlying48 z sizeOf41 z) ?_
 replace hst := hst.pull5
 obtain ⟨w1109, hr1110, hst⟩ := hst.by_ [U1 (u8.wrap t813.1), U6 z929, U6 z930, U6 t935.1, Zu, Zi, Zu, Zu, Zu, Zs, Zs, Zs, Zs, Zs, I6 t1100.1.E, U6 t1100.1.Epoch, U6 t1100.1.Index, v1105, v1107, U6 t940.1, v1091, Zu, Zi, Zi, Zf, Zf, Zu, Zi, .bool false] 14 (.agg #[I6 t1100.1.E, U6 t1100.1.Epoch, U6 t1100.1.Index, v1105, v1107]) sizeOf41 z (oC z (oC z (oC z (oC (one_of_sliceV hst.sv1) (oC (one_of_sliceV hst.sv2) oN))))) (by kernel_rfl)
 refine wl_unit z z (x_unit hr1110) ?_
 refine wl_nil (blk_n (tn ?_))
 replace hst := hst.own_nil tyF64
 replace hst := hst.own_nil tyF2
 replace hst := hst.own_nil tyF64
 replace hst := hst.own_nil (tyInt .u8)
 replace hst := hst.own_nil ty_api_Write
 replace hst := hst.pull11.pull8.pull8.pull3.pull4.pull5.pull6.pull7.pull8.pull9.pull11.pull11.keep12
 obtain rfl := some_inj hm
 exact ⟨_, t1100.2, ({ Kind := (u8.wrap t813.1), ID := ({ Session := z929, Seq := z930 } : api_ID), Epoch := t935.1, Index := (0:Int), E := (0:Int), Hold := zero_api_Hold, Writes := [], R := t1100.1, Shards := t940.1, Parts := z1092, Rule := zero_api_Rule, On := false } : api_Command), Zs, Zs, Zs, Zs, Zs, v1105, v1107, v1091, _, hx1232, (fu 0 r0_0 z (fu 2 (Pt b790 0) z (fu 4 (Pt b802 0) z (fu 5 (Pt b834 0) z z)))), hL1233, hst⟩
}
}
 {
 replace hm := bif_f hc915 hm
 refine wp_iff (cvb hc915) ?_
 refine wp_seq (wrl (wv (.bool ((u8.wrap t813.1) == (5:Int))) z z z (wv (.bool ((u8.wrap t813.1) == (5:Int))) z z z (wl_nil (tn ?_)))))
 refine bsplit ((u8.wrap t813.1) == (5:Int)) (fun hc1111 => ?_) (fun hc1111 => ?_)
 {
 replace hm := bif_t hc1111 hm
 refine wp_ift (cvb hc1111) ?_
 refine wrl (wv (.func (.func 49) #[] #[Pt b802 0, Pt b834 0]) z z z ?_)
 obtain ⟨y1128, hq1129, hm⟩ := bind_some hm
 refine wl_call z z (x_callv call49 (caps := [Pt b802 0, Pt b834 0]) z (vs := []) z) ?_
 refine Calls.mono (show Calls prog 49 #[Pt b802 0, Pt b834 0] _ (fun e w' => ∃ (z1124 : octet_Reader) (z1125 : Int) (z1126 : Int), y1128 = (z1124, z1125, z1126) ∧ e = .returned (.tuple #[]) ∧ St w0 w' I [cells b790 [Zb, Zu, Zu, Zu, Zu, Zi, Zu, Zu, Zu, Zs, Zs, Zs, Zs, Zs, Zi, Zu, Zu, Zs, Zs, Zu, Zs, Zu, Zi, Zi, Zf, Zf, Zu, Zi, .bool false], at_octet_Reader (Pt b807 0) z1124, cells b802 [Pt b807 0], cells b834 [U1 (u8.wrap t813.1), U6 z1125, U6 z1126, Zu, Zu, Zi, Zu, Zu, Zu, Zs, Zs, Zs, Zs, Zs, Zi, Zu, Zu, Zs, Zs, Zu, Zs, Zu, Zi, Zi, Zf, Zf, Zu, Zi, .bool false]] R) from ?_) ?_
 {
 clear hm; have hm := hq1129
 refine calls_start (args := [Pt b802 0, Pt b834 0]) func49 z ntmps49 (Nat.le_of_ble_eq_true z) ?_
 refine wp_region_St hst 7 [0, 1, 2, 3, 4, 5, 6] [0, 1, 0, 7, 15, 31, 63] [] z (by kernel_rfl) (by kernel_rfl) Try.mixed (by kernel_rfl) ?_
 refine wsr (Pt b807 0) 0 z z z (by kernel_rfl) (fun w hst => x_load z isAgg62 (hst.bc2 z)) (wsr (Pt b807 0) 2 z z z (by kernel_rfl) (fun w hst => x_load z isAgg62 (hst.bc2 z)) ?_)
 refine ws_e1 1 (by kernel_rfl) ?_
 refine nxe [3, 4, 5, 6] (by kernel_rfl) z z ?_
 clear hst
 intro w hst
 replace hst := hst.pull1
 obtain ⟨t1112, ht1113, hm⟩ := bind_some hm
 refine wec call13 [Pt b807 0, I6 (8:Int)] z z ?_
 refine (octet_Reader_Num_ref hst.to1 ht1113).mono ?_
 rintro _ w1114 ⟨rfl, hst⟩
 refine ⟨_, z, ?_⟩
 replace hst := hst.of1
 refine ws_next (pend' := [(2, Pt b807 0)]) hst (by kernel_rfl) (pkr z z (fun w hst => x_load z isAgg62 (hst.bc2 z)) pk_nil) ?_
 refine ws_e1 3 (by kernel_rfl) ?_
 refine nxe [4, 5, 6] (by kernel_rfl) z z ?_
 clear hst
 intro w hst
 obtain ⟨t1117, ht1118, hm⟩ := bind_some hm
 refine wec call13 [Pt b807 0, I6 (8:Int)] z z ?_
 refine (octet_Reader_Num_ref hst.to1 ht1118).mono ?_
 rintro _ w1119 ⟨rfl, hst⟩
 refine ⟨_, z, ?_⟩
 replace hst := hst.of1
 refine ws_next (pend' := []) hst (by kernel_rfl) pk_nil ?_
 refine wsr (.agg #[U6 t1112.1, U6 t1117.1]) 4 z z z (by kernel_rfl) (fun w hst => by kernel_rfl) (wsr (Pt b834 1) 5 z z z (by kernel_rfl) (fun w hst => x_field z underlying48 z sizeOf32 z) ?_)
 refine ws_e1 6 (by kernel_rfl) ?_
 refine nxe [] (by kernel_rfl) z z ?_
 clear hst
 intro w hst
 replace hst := hst.pull1
 obtain ⟨w1122, hr1123, hst⟩ := hst.by_ [U1 (u8.wrap t813.1), U6 t1112.1, U6 t1117.1, Zu, Zu, Zi, Zu, Zu, Zu, Zs, Zs, Zs, Zs, Zs, Zi, Zu, Zu, Zs, Zs, Zu, Zs, Zu, Zi, Zi, Zf, Zf, Zu, Zi, .bool false] 1 (.agg #[U6 t1112.1, U6 t1117.1]) sizeOf32 z (oC z (oC z oN)) (by kernel_rfl)
 refine we_unit z (x_unit hr1123) ?_
 refine ws_next (pend' := []) hst (by kernel_rfl) pk_nil ?_
 refine ws_nil ?_
 intro w hst
 refine post_end (vs := []) results49 rvs_nil ?_
 replace hst := hst.pull2.pull2.pull3.keep4
 obtain rfl := some_inj hm
 exact ⟨t1117.2, t1112.1, t1117.1, z, z, hst⟩
}
 clear hst
 rintro _ w1130 ⟨z1124, z1125, z1126, rfl, rfl, hst⟩
 refine ⟨_, z, ?_⟩
 try dsimp only at hm
 refine wl_nil (blk_n (tn ?_))
 replace hst := hst.own_nil tyF64
 replace hst := hst.own_nil tyF2
 replace hst := hst.own_nil tyF64
 replace hst := hst.own_nil (tyInt .u8)
 replace hst := hst.own_nil ty_api_Write
 replace hst := hst.own_nil ty_api_Got
 replace hst := hst.own_nil (tySl ty_api_Pair)
 replace hst := hst.own_nil ty_api_Part
 replace hst := hst.pull1.pull2.pull3.pull4.pull5.pull6.pull7.pull11.pull10.pull11.pull11.keep12
 obtain rfl := some_inj hm
 exact ⟨_, z1124, ({ Kind := (u8.wrap t813.1), ID := ({ Session := z1125, Seq := z1126 } : api_ID), Epoch := (0:Int), Index := (0:Int), E := (0:Int), Hold := zero_api_Hold, Writes := [], R := zero_api_Reply, Shards := (0:Int), Parts := [], Rule := zero_api_Rule, On := false } : api_Command), Zs, Zs, Zs, Zs, Zs, Zs, Zs, Zs, _, hx1232, (fu 0 r0_0 z (fu 2 (Pt b790 0) z (fu 4 (Pt b802 0) z (fu 5 (Pt b834 0) z z)))), hL1233, hst⟩
}
 {
 replace hm := bif_f hc1111 hm
 refine wp_iff (cvb hc1111) ?_
 refine wp_seq (wrl (wv (.bool ((u8.wrap t813.1) == (6:Int))) z z z (wv (.bool ((u8.wrap t813.1) == (6:Int))) z z z (wl_nil (tn ?_)))))
 refine bsplit ((u8.wrap t813.1) == (6:Int)) (fun hc1131 => ?_) (fun hc1131 => ?_)
 {
 replace hm := bif_t hc1131 hm
 refine wp_ift (cvb hc1131) ?_
 refine wp_seq (wrl (wv (Pt b807 0) z z (x_load z isAgg62 (hst.bc2 z)) ?_))
 replace hst := hst.pull1
 obtain ⟨t1132, ht1133, hm⟩ := bind_some hm
 refine wc call51 [Pt b807 0] z z z ?_
 refine (command_readRule_ref hst.to1 ht1133).mono ?_
 rintro _ w1134 ⟨rfl, hst⟩
 refine ⟨_, z, ?_⟩
 replace hst := hst.of1
 refine wv (Pt b834 21) z z (x_field z underlying48 z sizeOf46 z) ?_
 replace hst := hst.pull1
 obtain ⟨w1137, hr1138, hst⟩ := hst.by_ [U1 (u8.wrap t813.1), Zu, Zu, Zu, Zu, Zi, Zu, Zu, Zu, Zs, Zs, Zs, Zs, Zs, Zi, Zu, Zu, Zs, Zs, Zu, Zs, U6 t1132.1.ID, I6 t1132.1.From, I6 t1132.1.To, F6 t1132.1.Lo, F6 t1132.1.Hi, U6 t1132.1.Authority, I6 t1132.1.Quota, .bool false] 21 (.agg #[U6 t1132.1.ID, I6 t1132.1.From, I6 t1132.1.To, F6 t1132.1.Lo, F6 t1132.1.Hi, U6 t1132.1.Authority, I6 t1132.1.Quota]) sizeOf46 z (oC z (oC z (oC z (oC z (oC z (oC z (oC z oN))))))) (by kernel_rfl)
 refine wl_unit z z (x_unit hr1138) ?_
 refine wl_nil (tn (wrl (wv (Pt b807 0) z z (x_load z isAgg62 (hst.bc2 z)) ?_)))
 replace hst := hst.pull1
 obtain ⟨t1139, ht1140, hm⟩ := bind_some hm
 refine wc call45 [Pt b807 0] z z z ?_
 refine (octet_Reader_Flag_ref hst.to1 ht1140).mono ?_
 rintro _ w1141 ⟨rfl, hst⟩
 refine ⟨_, z, ?_⟩
 replace hst := hst.of1
 refine wv (Pt b834 28) z z (x_field z underlying48 z sizeOf4 z) ?_
 replace hst := hst.pull1
 obtain ⟨w1144, hr1145, hst⟩ := hst.by_ [U1 (u8.wrap t813.1), Zu, Zu, Zu, Zu, Zi, Zu, Zu, Zu, Zs, Zs, Zs, Zs, Zs, Zi, Zu, Zu, Zs, Zs, Zu, Zs, U6 t1132.1.ID, I6 t1132.1.From, I6 t1132.1.To, F6 t1132.1.Lo, F6 t1132.1.Hi, U6 t1132.1.Authority, I6 t1132.1.Quota, .bool t1139.1] 28 (.bool t1139.1) sizeOf4 z (oC z oN) (by kernel_rfl)
 refine wl_unit z z (x_unit hr1145) ?_
 refine wl_nil (blk_n (tn ?_))
 replace hst := hst.own_nil tyF64
 replace hst := hst.own_nil tyF2
 replace hst := hst.own_nil tyF64
 replace hst := hst.own_nil (tyInt .u8)
 replace hst := hst.own_nil ty_api_Write
 replace hst := hst.own_nil ty_api_Got
 replace hst := hst.own_nil (tySl ty_api_Pair)
 replace hst := hst.own_nil ty_api_Part
 replace hst := hst.pull1.pull2.pull3.pull4.pull5.pull6.pull7.pull8.pull9.pull10.pull11.keep12
 obtain rfl := some_inj hm
 exact ⟨_, t1139.2, ({ Kind := (u8.wrap t813.1), ID := ({ Session := (0:Int), Seq := (0:Int) } : api_ID), Epoch := (0:Int), Index := (0:Int), E := (0:Int), Hold := zero_api_Hold, Writes := [], R := zero_api_Reply, Shards := (0:Int), Parts := [], Rule := t1132.1, On := t1139.1 } : api_Command), Zs, Zs, Zs, Zs, Zs, Zs, Zs, Zs, _, hx1232, (fu 0 r0_0 z (fu 2 (Pt b790 0) z (fu 4 (Pt b802 0) z (fu 5 (Pt b834 0) z z)))), hL1233, hst⟩
}
 {
 replace hm := bif_f hc1131 hm
 refine wp_iff (cvb hc1131) ?_
 refine wp_seq (wrl (wv (.bool ((u8.wrap t813.1) == (7:Int))) z z z (wv (.bool ((u8.wrap t813.1) == (7:Int))) z z z (wl_nil (tn ?_)))))
 refine bsplit ((u8.wrap t813.1) == (7:Int)) (fun hc1146 => ?_) (fun hc1146 => ?_)
 {
 replace hm := bif_t hc1146 hm
 refine wp_ift (cvb hc1146) ?_
 refine wp_seq (wrl (wv (.func (.func 49) #[] #[Pt b802 0, Pt b834 0]) z z z ?_))
 obtain ⟨y1163, hq1164, hm⟩ := bind_some hm
 refine wl_call z z (x_callv call49 (caps := [Pt b802 0, Pt b834 0]) z (vs := []) z) ?_
 refine Calls.mono (show Calls prog 49 #[Pt b802 0, Pt b834 0] _ (fun e w' => ∃ (z1159 : octet_Reader) (z1160 : Int) (z1161 : Int), y1163 = (z1159, z1160, z1161) ∧ e = .returned (.tuple #[]) ∧ St w0 w' I [cells b790 [Zb, Zu, Zu, Zu, Zu, Zi, Zu, Zu, Zu, Zs, Zs, Zs, Zs, Zs, Zi, Zu, Zu, Zs, Zs, Zu, Zs, Zu, Zi, Zi, Zf, Zf, Zu, Zi, .bool false], at_octet_Reader (Pt b807 0) z1159, cells b802 [Pt b807 0], cells b834 [U1 (u8.wrap t813.1), U6 z1160, U6 z1161, Zu, Zu, Zi, Zu, Zu, Zu, Zs, Zs, Zs, Zs, Zs, Zi, Zu, Zu, Zs, Zs, Zu, Zs, Zu, Zi, Zi, Zf, Zf, Zu, Zi, .bool false]] R) from ?_) ?_
 {
 clear hm; have hm := hq1164
 refine calls_start (args := [Pt b802 0, Pt b834 0]) func49 z ntmps49 (Nat.le_of_ble_eq_true z) ?_
 refine wp_region_St hst 7 [0, 1, 2, 3, 4, 5, 6] [0, 1, 0, 7, 15, 31, 63] [] z (by kernel_rfl) (by kernel_rfl) Try.mixed (by kernel_rfl) ?_
 refine wsr (Pt b807 0) 0 z z z (by kernel_rfl) (fun w hst => x_load z isAgg62 (hst.bc2 z)) (wsr (Pt b807 0) 2 z z z (by kernel_rfl) (fun w hst => x_load z isAgg62 (hst.bc2 z)) ?_)
 refine ws_e1 1 (by kernel_rfl) ?_
 refine nxe [3, 4, 5, 6] (by kernel_rfl) z z ?_
 clear hst
 intro w hst
 replace hst := hst.pull1
 obtain ⟨t1147, ht1148, hm⟩ := bind_some hm
 refine wec call13 [Pt b807 0, I6 (8:Int)] z z ?_
 refine (octet_Reader_Num_ref hst.to1 ht1148).mono ?_
 rintro _ w1149 ⟨rfl, hst⟩
 refine ⟨_, z, ?_⟩
 replace hst := hst.of1
 refine ws_next (pend' := [(2, Pt b807 0)]) hst (by kernel_rfl) (pkr z z (fun w hst => x_load z isAgg62 (hst.bc2 z)) pk_nil) ?_
 refine ws_e1 3 (by kernel_rfl) ?_
 refine nxe [4, 5, 6] (by kernel_rfl) z z ?_
 clear hst
 intro w hst
 obtain ⟨t1152, ht1153, hm⟩ := bind_some hm
 refine wec call13 [Pt b807 0, I6 (8:Int)] z z ?_
 refine (octet_Reader_Num_ref hst.to1 ht1153).mono ?_
 rintro _ w1154 ⟨rfl, hst⟩
 refine ⟨_, z, ?_⟩
 replace hst := hst.of1
 refine ws_next (pend' := []) hst (by kernel_rfl) pk_nil ?_
 refine wsr (.agg #[U6 t1147.1, U6 t1152.1]) 4 z z z (by kernel_rfl) (fun w hst => by kernel_rfl) (wsr (Pt b834 1) 5 z z z (by kernel_rfl) (fun w hst => x_field z underlying48 z sizeOf32 z) ?_)
 refine ws_e1 6 (by kernel_rfl) ?_
 refine nxe [] (by kernel_rfl) z z ?_
 clear hst
 intro w hst
 replace hst := hst.pull1
 obtain ⟨w1157, hr1158, hst⟩ := hst.by_ [U1 (u8.wrap t813.1), U6 t1147.1, U6 t1152.1, Zu, Zu, Zi, Zu, Zu, Zu, Zs, Zs, Zs, Zs, Zs, Zi, Zu, Zu, Zs, Zs, Zu, Zs, Zu, Zi, Zi, Zf, Zf, Zu, Zi, .bool false] 1 (.agg #[U6 t1147.1, U6 t1152.1]) sizeOf32 z (oC z (oC z oN)) (by kernel_rfl)
 refine we_unit z (x_unit hr1158) ?_
 refine ws_next (pend' := []) hst (by kernel_rfl) pk_nil ?_
 refine ws_nil ?_
 intro w hst
 refine post_end (vs := []) results49 rvs_nil ?_
 replace hst := hst.pull2.pull2.pull3.keep4
 obtain rfl := some_inj hm
 exact ⟨t1152.2, t1147.1, t1152.1, z, z, hst⟩
}
 clear hst
 rintro _ w1165 ⟨z1159, z1160, z1161, rfl, rfl, hst⟩
 refine ⟨_, z, ?_⟩
 try dsimp only at hm
 refine wl_nil (tn (wp_seq (wrl (wv (Pt b807 0) z z (x_load z isAgg62 (hst.bc2 z)) ?_))))
 replace hst := hst.pull1
 obtain ⟨t1166, ht1167, hm⟩ := bind_some hm
 refine wc call13 [Pt b807 0, I6 (8:Int)] z z z ?_
 refine (octet_Reader_Num_ref hst.to1 ht1167).mono ?_
 rintro _ w1168 ⟨rfl, hst⟩
 refine ⟨_, z, ?_⟩
 replace hst := hst.of1
 refine wv (Pt b834 3) z z (x_field z underlying48 z sizeOf25 z) ?_
 replace hst := hst.pull3
 obtain ⟨w1171, hr1172, hst⟩ := hst.by_ [U1 (u8.wrap t813.1), U6 z1160, U6 z1161, U6 t1166.1, Zu, Zi, Zu, Zu, Zu, Zs, Zs, Zs, Zs, Zs, Zi, Zu, Zu, Zs, Zs, Zu, Zs, Zu, Zi, Zi, Zf, Zf, Zu, Zi, .bool false] 3 (.int .u64 t1166.1) sizeOf25 z (oC z oN) (by kernel_rfl)
 refine wl_unit z z (x_unit hr1172) ?_
 refine wl_nil (tn (wp_seq (wrl (wv (Pt b807 0) z z (x_load z isAgg62 (hst.bc3 z)) ?_))))
 replace hst := hst.pull1
 obtain ⟨t1173, ht1174, hm⟩ := bind_some hm
 refine wc call51 [Pt b807 0] z z z ?_
 refine (command_readRule_ref hst.to1 ht1174).mono ?_
 rintro _ w1175 ⟨rfl, hst⟩
 refine ⟨_, z, ?_⟩
 replace hst := hst.of1
 refine wv (Pt b834 21) z z (x_field z underlying48 z sizeOf46 z) ?_
 replace hst := hst.pull1
 obtain ⟨w1178, hr1179, hst⟩ := hst.by_ [U1 (u8.wrap t813.1), U6 z1160, U6 z1161, U6 t1166.1, Zu, Zi, Zu, Zu, Zu, Zs, Zs, Zs, Zs, Zs, Zi, Zu, Zu, Zs, Zs, Zu, Zs, U6 t1173.1.ID, I6 t1173.1.From, I6 t1173.1.To, F6 t1173.1.Lo, F6 t1173.1.Hi, U6 t1173.1.Authority, I6 t1173.1.Quota, .bool false] 21 (.agg #[U6 t1173.1.ID, I6 t1173.1.From, I6 t1173.1.To, F6 t1173.1.Lo, F6 t1173.1.Hi, U6 t1173.1.Authority, I6 t1173.1.Quota]) sizeOf46 z (oC z (oC z (oC z (oC z (oC z (oC z (oC z oN))))))) (by kernel_rfl)
 refine wl_unit z z (x_unit hr1179) ?_
 refine wl_nil (tn (wp_seq (wrl (wv (Pt b807 0) z z (x_load z isAgg62 (hst.bc3 z)) ?_))))
 replace hst := hst.pull1
 obtain ⟨t1180, ht1181, hm⟩ := bind_some hm
 refine wc call50 [Pt b807 0] z z z ?_
 refine (command_readWrites_ref hst.to1 ht1181).mono ?_
 rintro _ w1182 ⟨I1183, v1185, rfl, hI1184, hst⟩
 refine ⟨_, z, ?_⟩
 replace hst := hst.of2
 replace f0_0 := f0_0.mono (ro_le hI1184)
 replace f810 := f810.mono (ro_le hI1184)
 replace hI0 := hI0.trans hI1184
 replace hL1233 := hL1233.trans hI1184
 refine wv (Pt b834 13) z z (x_field z underlying48 z sizeOf42 z) ?_
 replace hst := hst.pull2
 obtain ⟨w1187, hr1188, hst⟩ := hst.boxStore1 (P := prog) (t := 42) (cs' := [U1 (u8.wrap t813.1), U6 z1160, U6 z1161, U6 t1166.1, Zu, Zi, Zu, Zu, Zu, Zs, Zs, Zs, Zs, v1185, Zi, Zu, Zu, Zs, Zs, Zu, Zs, U6 t1173.1.ID, I6 t1173.1.From, I6 t1173.1.To, F6 t1173.1.Lo, F6 t1173.1.Hi, U6 t1173.1.Authority, I6 t1173.1.Quota, .bool false]) 13 v1185 (one_of_sliceV hst.sv1) sizeOf42 z z
 refine wl_unit z z (x_unit hr1188) ?_
 refine wl_nil (tn (wrl (wv (Pt b807 0) z z (x_load z isAgg62 (hst.bc4 z)) ?_)))
 replace hst := hst.pull2
 obtain ⟨t1189, ht1190, hm⟩ := bind_some hm
 refine wc call16 [Pt b807 0] z z z ?_
 refine (command_ReadReply_ref hst.to1 ht1190).mono ?_
 rintro _ w1191 ⟨I1192, v1194, v1196, rfl, hI1193, hst⟩
 refine ⟨_, z, ?_⟩
 replace hst := hst.of3
 replace f0_0 := f0_0.mono (ro_le hI1193)
 replace f810 := f810.mono (ro_le hI1193)
 replace hI0 := hI0.trans hI1193
 replace hL1233 := hL1233.trans hI1193
 refine wv (Pt b834 14) z z (x_field z underlying48 z sizeOf41 z) ?_
 replace hst := hst.pull3
 obtain ⟨w1198, hr1199, hst⟩ := hst.by_ [U1 (u8.wrap t813.1), U6 z1160, U6 z1161, U6 t1166.1, Zu, Zi, Zu, Zu, Zu, Zs, Zs, Zs, Zs, v1185, I6 t1189.1.E, U6 t1189.1.Epoch, U6 t1189.1.Index, v1194, v1196, Zu, Zs, U6 t1173.1.ID, I6 t1173.1.From, I6 t1173.1.To, F6 t1173.1.Lo, F6 t1173.1.Hi, U6 t1173.1.Authority, I6 t1173.1.Quota, .bool false] 14 (.agg #[I6 t1189.1.E, U6 t1189.1.Epoch, U6 t1189.1.Index, v1194, v1196]) sizeOf41 z (oC z (oC z (oC z (oC (one_of_sliceV hst.sv1) (oC (one_of_sliceV hst.sv2) oN))))) (by kernel_rfl)
 refine wl_unit z z (x_unit hr1199) ?_
 refine wl_nil (blk_n (tn ?_))
 replace hst := hst.own_nil tyF64
 replace hst := hst.own_nil tyF2
 replace hst := hst.own_nil tyF64
 replace hst := hst.own_nil (tyInt .u8)
 replace hst := hst.own_nil ty_api_Part
 replace hst := hst.pull7.pull7.pull9.pull4.pull5.pull6.pull7.pull8.pull9.pull11.pull11.keep12
 obtain rfl := some_inj hm
 exact ⟨_, t1189.2, ({ Kind := (u8.wrap t813.1), ID := ({ Session := z1160, Seq := z1161 } : api_ID), Epoch := t1166.1, Index := (0:Int), E := (0:Int), Hold := zero_api_Hold, Writes := t1180.1, R := t1189.1, Shards := (0:Int), Parts := [], Rule := t1173.1, On := false } : api_Command), Zs, Zs, Zs, Zs, v1185, v1194, v1196, Zs, _, hx1232, (fu 0 r0_0 z (fu 2 (Pt b790 0) z (fu 4 (Pt b802 0) z (fu 5 (Pt b834 0) z z)))), hL1233, hst⟩
}
 {
 replace hm := bif_f hc1146 hm
 refine wp_iff (cvb hc1146) ?_
 refine wp_seq (wrl (wv (.agg #[Zb, Zu, Zu, Zu, Zu, Zi, Zu, Zu, Zu, Zs, Zs, Zs, Zs, Zs, Zi, Zu, Zu, Zs, Zs, Zu, Zs, Zu, Zi, Zi, Zf, Zf, Zu, Zi, .bool false]) z z (by kernel_rfl) ?_))
 replace hst := hst.pull3
 obtain ⟨w1208, hr1209, hst⟩ := hst.bx [Zb, Zu, Zu, Zu, Zu, Zi, Zu, Zu, Zu, Zs, Zs, Zs, Zs, Zs, Zi, Zu, Zu, Zs, Zs, Zu, Zs, Zu, Zi, Zi, Zf, Zf, Zu, Zi, .bool false] sizeOf48 z (oC z (oC z (oC z (oC z (oC z (oC z (oC z (oC z (oC z (oC z (oC z (oC z (oC z (oC z (oC z (oC z (oC z (oC z (oC z (oC z (oC z (oC z (oC z (oC z (oC z (oC z (oC z (oC z (oC z oN))))))))))))))))))))))))))))) (by kernel_rfl)
 refine wl_unit z z (x_unit hr1209) ?_
 refine wv (.int .i64 (5:Int)) z z z (wl_nil (tn (wp_ret (blk_r (then_r ?_)))))
 replace hm := inr_up hm hx1232
 replace hst := hst.own_nil tyF64
 replace hst := hst.own_nil tyF2
 replace hst := hst.own_nil tyF64
 replace hst := hst.own_nil (tyInt .u8)
 replace hst := hst.own_nil ty_api_Write
 replace hst := hst.own_nil ty_api_Got
 replace hst := hst.own_nil (tySl ty_api_Pair)
 replace hst := hst.own_nil ty_api_Part
 obtain rfl := some_inj hm
 refine post_ret (vs := [.agg #[Zb, Zu, Zu, Zu, Zu, Zi, Zu, Zu, Zu, Zs, Zs, Zs, Zs, Zs, Zi, Zu, Zu, Zs, Zs, Zu, Zs, Zu, Zi, Zi, Zf, Zf, Zu, Zi, .bool false], I6 (5:Int)]) results17 (rvs_cons (rv_cell (cs := [Zb, Zu, Zu, Zu, Zu, Zi, Zu, Zu, Zu, Zs, Zs, Zs, Zs, Zs, Zi, Zu, Zu, Zs, Zs, Zu, Zs, Zu, Zi, Zi, Zf, Zf, Zu, Zi, .bool false]) z isAgg48 sizeOf48 (hst.bcs8 0 z)) (rvs_cons (rv_tmp z) rvs_nil)) ?_
 replace hst := hst.pull1.pull2.pull3.pull4.pull5.pull6.pull7
 exact ⟨_, Zs, Zs, Zs, Zs, Zs, Zs, Zs, Zs, z, hI0, hst.keep8⟩
}
}
}
}
}
}
}
}
 {
 clear hst
 rintro _ w1234 ⟨I1228, z1210, z1211, v1213, v1215, v1217, v1219, v1221, v1223, v1225, v1227, σ1229, hm, rfl, hL1230, hst⟩
 dsimp only [command_Decode_j0] at hm
 replace f0_0 := f0_0.mono (ro_le hL1230)
 replace f810 := f810.mono (ro_le hL1230)
 replace hI0 := hI0.trans hL1230
 refine wp_seq (wp_seq (wrl (wv (Pt b807 0) z z (x_load z isAgg62 (hst.bc1 z)) ?_)))
 replace hst := hst.pull2
 obtain ⟨t1235, ht1236, hm⟩ := bind_some hm
 refine wc call19 [Pt b807 0] z z z ?_
 refine (octet_Reader_End_ref hst.to1 ht1236).mono ?_
 rintro _ w1237 ⟨rfl, hst⟩
 refine ⟨_, z, ?_⟩
 replace hst := hst.of1
 refine wv (.bool (!t1235)) z z z (wv (.bool (!t1235)) z z z ?_)
 refine bsplit (!t1235) (fun hc1240 => ?_) (fun hc1240 => ?_)
 {
 replace hm := bif_t hc1240 hm
 refine wo hc1240 z z z z z z (wo hc1240 z z z z z z (wo hc1240 z z z z z z (wo hc1240 z z z z z z (wo hc1240 z z z z z z (wv (.bool true) z z (x_pick_t hc1240 z z) (wl_nil (tn ?_)))))))
 refine wp_ift z ?_
 refine wp_seq (wrl (wv (.agg #[Zb, Zu, Zu, Zu, Zu, Zi, Zu, Zu, Zu, Zs, Zs, Zs, Zs, Zs, Zi, Zu, Zu, Zs, Zs, Zu, Zs, Zu, Zi, Zi, Zf, Zf, Zu, Zi, .bool false]) z z (by kernel_rfl) ?_))
 replace hst := hst.pull1
 obtain ⟨w1249, hr1250, hst⟩ := hst.bx [Zb, Zu, Zu, Zu, Zu, Zi, Zu, Zu, Zu, Zs, Zs, Zs, Zs, Zs, Zi, Zu, Zu, Zs, Zs, Zu, Zs, Zu, Zi, Zi, Zf, Zf, Zu, Zi, .bool false] sizeOf48 z (oC z (oC z (oC z (oC z (oC z (oC z (oC z (oC z (oC z (oC z (oC z (oC z (oC z (oC z (oC z (oC z (oC z (oC z (oC z (oC z (oC z (oC z (oC z (oC z (oC z (oC z (oC z (oC z (oC z oN))))))))))))))))))))))))))))) (by kernel_rfl)
 refine wl_unit z z (x_unit hr1250) ?_
 refine wv (.int .i64 (5:Int)) z z z (wl_nil (tn (wp_ret (then_r ?_))))
 replace hst := hst.own_nil tyF64
 replace hst := hst.own_nil tyF2
 replace hst := hst.own_nil tyF64
 replace hst := hst.own_nil (tyInt .u8)
 replace hst := hst.own_nil ty_api_Write
 replace hst := hst.own_nil ty_api_Got
 replace hst := hst.own_nil (tySl ty_api_Pair)
 replace hst := hst.own_nil ty_api_Part
 obtain rfl := some_inj hm
 refine post_ret (vs := [.agg #[Zb, Zu, Zu, Zu, Zu, Zi, Zu, Zu, Zu, Zs, Zs, Zs, Zs, Zs, Zi, Zu, Zu, Zs, Zs, Zu, Zs, Zu, Zi, Zi, Zf, Zf, Zu, Zi, .bool false], I6 (5:Int)]) results17 (rvs_cons (rv_cell (cs := [Zb, Zu, Zu, Zu, Zu, Zi, Zu, Zu, Zu, Zs, Zs, Zs, Zs, Zs, Zi, Zu, Zu, Zs, Zs, Zu, Zs, Zu, Zi, Zi, Zf, Zf, Zu, Zi, .bool false]) z isAgg48 sizeOf48 (hst.bcs8 0 z)) (rvs_cons (rv_tmp z) rvs_nil)) ?_
 replace hst := hst.pull1.pull2.pull3.pull4.pull5.pull6.pull7
 exact ⟨_, Zs, Zs, Zs, Zs, Zs, Zs, Zs, Zs, z, hI0, hst.keep8⟩
}
 {
 replace hm := bif_f hc1240 hm
 refine wv (.agg #[U1 z1211.Kind, U6 z1211.ID.Session, U6 z1211.ID.Seq, U6 z1211.Epoch, U6 z1211.Index, I6 z1211.E, U6 z1211.Hold.ID.Session, U6 z1211.Hold.ID.Seq, U6 z1211.Hold.Epoch, v1213, v1215, v1217, v1219, v1221, I6 z1211.R.E, U6 z1211.R.Epoch, U6 z1211.R.Index, v1223, v1225, U6 z1211.Shards, v1227, U6 z1211.Rule.ID, I6 z1211.Rule.From, I6 z1211.Rule.To, F6 z1211.Rule.Lo, F6 z1211.Rule.Hi, U6 z1211.Rule.Authority, I6 z1211.Rule.Quota, .bool z1211.On]) ((wanted_eq z z z (cvb hc1240)).trans z) z (x_loadN (cs := [U1 z1211.Kind, U6 z1211.ID.Session, U6 z1211.ID.Seq, U6 z1211.Epoch, U6 z1211.Index, I6 z1211.E, U6 z1211.Hold.ID.Session, U6 z1211.Hold.ID.Seq, U6 z1211.Hold.Epoch, v1213, v1215, v1217, v1219, v1221, I6 z1211.R.E, U6 z1211.R.Epoch, U6 z1211.R.Index, v1223, v1225, U6 z1211.Shards, v1227, U6 z1211.Rule.ID, I6 z1211.Rule.From, I6 z1211.Rule.To, F6 z1211.Rule.Lo, F6 z1211.Rule.Hi, U6 z1211.Rule.Authority, I6 z1211.Rule.Quota, .bool z1211.On]) z isAgg48 sizeOf48 (hst.bcs3 0 z)) ?_
 replace hst := hst.pull4
 obtain ⟨css1251, hq1252, hst⟩ := hst.own_open
 replace hst := hst.pull5
 obtain ⟨css1253, hq1254, hst⟩ := hst.own_open
 replace hst := hst.pull6
 obtain ⟨css1255, hq1256, hst⟩ := hst.own_open
 replace hst := hst.pull7
 obtain ⟨css1257, hq1258, hst⟩ := hst.own_open
 replace hst := hst.pull8
 obtain ⟨css1259, hq1260, hst⟩ := hst.own_open
 replace hst := hst.pull9
 obtain ⟨css1261, hq1262, hst⟩ := hst.own_open
 replace hst := hst.pull10
 obtain ⟨css1263, hq1264, hst⟩ := hst.own_open
 replace hst := hst.pull11
 obtain ⟨css1265, hq1266, hst⟩ := hst.own_open
 obtain ⟨t1267, ht1268, hm⟩ := bind_some hm
 refine wl_call ((wanted_eq z z z (cvb hc1240)).trans z) z (x_call call26 z (vs := [.agg #[U1 z1211.Kind, U6 z1211.ID.Session, U6 z1211.ID.Seq, U6 z1211.Epoch, U6 z1211.Index, I6 z1211.E, U6 z1211.Hold.ID.Session, U6 z1211.Hold.ID.Seq, U6 z1211.Hold.Epoch, v1213, v1215, v1217, v1219, v1221, I6 z1211.R.E, U6 z1211.R.Epoch, U6 z1211.R.Index, v1223, v1225, U6 z1211.Shards, v1227, U6 z1211.Rule.ID, I6 z1211.Rule.From, I6 z1211.Rule.To, F6 z1211.Rule.Lo, F6 z1211.Rule.Hi, U6 z1211.Rule.Authority, I6 z1211.Rule.Quota, .bool z1211.On]]) z) ?_
 refine (command_Encode_ref (hst.rdrow7 hq1252) (hst.rdrow6 hq1254) (hst.rdrow5 hq1256) (hst.rdrow4 hq1258) (hst.rdrow3 hq1260) (hst.rdrow2 hq1262) (hst.rdrow1 hq1264) (hst.rdrow0 hq1266) hst.to0 ht1268).mono ?_
 rintro _ w1269 ⟨v1272, rfl, hst⟩
 refine ⟨_, z, ?_⟩
 replace hst := hst.of1.pull8.own_close hq1252
 replace hst := hst.pull8.own_close hq1254
 replace hst := hst.pull8.own_close hq1256
 replace hst := hst.pull8.own_close hq1258
 replace hst := hst.pull8.own_close hq1260
 replace hst := hst.pull8.own_close hq1262
 replace hst := hst.pull8.own_close hq1264
 replace hst := hst.pull8.own_close hq1266
 refine wv (r0_0) ((wanted_eq z z z (cvb hc1240)).trans z) z z ?_
 replace hst := hst.pull8
 obtain ⟨css1274, hq1275, hst⟩ := hst.own_open
 obtain ⟨t1276, ht1277, hm⟩ := bind_some hm
 refine wl_call ((wanted_eq z z z (cvb hc1240)).trans z) z (x_call call20 z (vs := [v1272, r0_0]) z) ?_
 refine (slices_Equal_byte_byte_ref (hst.rdrow0 hq1275) (f0_0.mono ro_rd) hst.to0 ht1277).mono ?_
 rintro _ w1278 ⟨rfl, hst⟩
 refine ⟨_, z, ?_⟩
 replace hst := hst.of0.own_close hq1275
 refine wv (.bool (!t1276)) ((wanted_eq z z z (cvb hc1240)).trans z) z z (wv (.bool (!t1276)) z z (x_pick_f hc1240 z z) (wl_nil (tn ?_)))
 refine bsplit (!t1276) (fun hc1281 => ?_) (fun hc1281 => ?_)
 {
 replace hm := bif_t hc1281 hm
 refine wp_ift (cvb hc1281) ?_
 refine wp_seq (wrl (wv (.agg #[Zb, Zu, Zu, Zu, Zu, Zi, Zu, Zu, Zu, Zs, Zs, Zs, Zs, Zs, Zi, Zu, Zu, Zs, Zs, Zu, Zs, Zu, Zi, Zi, Zf, Zf, Zu, Zi, .bool false]) z z (by kernel_rfl) ?_))
 replace hst := hst.pull10
 obtain ⟨w1290, hr1291, hst⟩ := hst.bx [Zb, Zu, Zu, Zu, Zu, Zi, Zu, Zu, Zu, Zs, Zs, Zs, Zs, Zs, Zi, Zu, Zu, Zs, Zs, Zu, Zs, Zu, Zi, Zi, Zf, Zf, Zu, Zi, .bool false] sizeOf48 z (oC z (oC z (oC z (oC z (oC z (oC z (oC z (oC z (oC z (oC z (oC z (oC z (oC z (oC z (oC z (oC z (oC z (oC z (oC z (oC z (oC z (oC z (oC z (oC z (oC z (oC z (oC z (oC z (oC z oN))))))))))))))))))))))))))))) (by kernel_rfl)
 refine wl_unit z z (x_unit hr1291) ?_
 refine wv (.int .i64 (5:Int)) z z z (wl_nil (tn (wp_ret (then_r ?_))))
 replace hst := hst.own_nil tyF64
 replace hst := hst.own_nil tyF2
 replace hst := hst.own_nil tyF64
 replace hst := hst.own_nil (tyInt .u8)
 replace hst := hst.own_nil ty_api_Write
 replace hst := hst.own_nil ty_api_Got
 replace hst := hst.own_nil (tySl ty_api_Pair)
 replace hst := hst.own_nil ty_api_Part
 obtain rfl := some_inj hm
 refine post_ret (vs := [.agg #[Zb, Zu, Zu, Zu, Zu, Zi, Zu, Zu, Zu, Zs, Zs, Zs, Zs, Zs, Zi, Zu, Zu, Zs, Zs, Zu, Zs, Zu, Zi, Zi, Zf, Zf, Zu, Zi, .bool false], I6 (5:Int)]) results17 (rvs_cons (rv_cell (cs := [Zb, Zu, Zu, Zu, Zu, Zi, Zu, Zu, Zu, Zs, Zs, Zs, Zs, Zs, Zi, Zu, Zu, Zs, Zs, Zu, Zs, Zu, Zi, Zi, Zf, Zf, Zu, Zi, .bool false]) z isAgg48 sizeOf48 (hst.bcs8 0 z)) (rvs_cons (rv_tmp z) rvs_nil)) ?_
 replace hst := hst.pull1.pull2.pull3.pull4.pull5.pull6.pull7
 exact ⟨_, Zs, Zs, Zs, Zs, Zs, Zs, Zs, Zs, z, hI0, hst.keep8⟩
}
 {
 replace hm := bif_f hc1281 hm
 refine wp_iff (cvb hc1281) ?_
 refine wp_skip (tn (wp_seq (wrl ?_)))
 refine wv (.agg #[U1 z1211.Kind, U6 z1211.ID.Session, U6 z1211.ID.Seq, U6 z1211.Epoch, U6 z1211.Index, I6 z1211.E, U6 z1211.Hold.ID.Session, U6 z1211.Hold.ID.Seq, U6 z1211.Hold.Epoch, v1213, v1215, v1217, v1219, v1221, I6 z1211.R.E, U6 z1211.R.Epoch, U6 z1211.R.Index, v1223, v1225, U6 z1211.Shards, v1227, U6 z1211.Rule.ID, I6 z1211.Rule.From, I6 z1211.Rule.To, F6 z1211.Rule.Lo, F6 z1211.Rule.Hi, U6 z1211.Rule.Authority, I6 z1211.Rule.Quota, .bool z1211.On]) z z (x_loadN (cs := [U1 z1211.Kind, U6 z1211.ID.Session, U6 z1211.ID.Seq, U6 z1211.Epoch, U6 z1211.Index, I6 z1211.E, U6 z1211.Hold.ID.Session, U6 z1211.Hold.ID.Seq, U6 z1211.Hold.Epoch, v1213, v1215, v1217, v1219, v1221, I6 z1211.R.E, U6 z1211.R.Epoch, U6 z1211.R.Index, v1223, v1225, U6 z1211.Shards, v1227, U6 z1211.Rule.ID, I6 z1211.Rule.From, I6 z1211.Rule.To, F6 z1211.Rule.Lo, F6 z1211.Rule.Hi, U6 z1211.Rule.Authority, I6 z1211.Rule.Quota, .bool z1211.On]) z isAgg48 sizeOf48 (hst.bcs12 0 z)) ?_
 replace hst := hst.pull10
 obtain ⟨w1292, hr1293, hst⟩ := hst.bx [U1 z1211.Kind, U6 z1211.ID.Session, U6 z1211.ID.Seq, U6 z1211.Epoch, U6 z1211.Index, I6 z1211.E, U6 z1211.Hold.ID.Session, U6 z1211.Hold.ID.Seq, U6 z1211.Hold.Epoch, v1213, v1215, v1217, v1219, v1221, I6 z1211.R.E, U6 z1211.R.Epoch, U6 z1211.R.Index, v1223, v1225, U6 z1211.Shards, v1227, U6 z1211.Rule.ID, I6 z1211.Rule.From, I6 z1211.Rule.To, F6 z1211.Rule.Lo, F6 z1211.Rule.Hi, U6 z1211.Rule.Authority, I6 z1211.Rule.Quota, .bool z1211.On] sizeOf48 z (oC z (oC z (oC z (oC z (oC z (oC z (oC z (oC z (oC z (oC (one_of_sliceV hst.sv9) (oC (one_of_sliceV hst.sv8) (oC (one_of_sliceV hst.sv7) (oC (one_of_sliceV hst.sv6) (oC (one_of_sliceV hst.sv5) (oC z (oC z (oC z (oC (one_of_sliceV hst.sv4) (oC (one_of_sliceV hst.sv3) (oC z (oC (one_of_sliceV hst.sv2) (oC z (oC z (oC z (oC z (oC z (oC z (oC z (oC z oN))))))))))))))))))))))))))))) (by kernel_rfl)
 refine wl_unit z z (x_unit hr1293) ?_
 refine wv (.int .i64 (0:Int)) z z z (wl_nil (tn (wp_ret ?_)))
 obtain rfl := some_inj hm
 refine post_ret (vs := [.agg #[U1 z1211.Kind, U6 z1211.ID.Session, U6 z1211.ID.Seq, U6 z1211.Epoch, U6 z1211.Index, I6 z1211.E, U6 z1211.Hold.ID.Session, U6 z1211.Hold.ID.Seq, U6 z1211.Hold.Epoch, v1213, v1215, v1217, v1219, v1221, I6 z1211.R.E, U6 z1211.R.Epoch, U6 z1211.R.Index, v1223, v1225, U6 z1211.Shards, v1227, U6 z1211.Rule.ID, I6 z1211.Rule.From, I6 z1211.Rule.To, F6 z1211.Rule.Lo, F6 z1211.Rule.Hi, U6 z1211.Rule.Authority, I6 z1211.Rule.Quota, .bool z1211.On], Zi]) results17 (rvs_cons (rv_cell (cs := [U1 z1211.Kind, U6 z1211.ID.Session, U6 z1211.ID.Seq, U6 z1211.Epoch, U6 z1211.Index, I6 z1211.E, U6 z1211.Hold.ID.Session, U6 z1211.Hold.ID.Seq, U6 z1211.Hold.Epoch, v1213, v1215, v1217, v1219, v1221, I6 z1211.R.E, U6 z1211.R.Epoch, U6 z1211.R.Index, v1223, v1225, U6 z1211.Shards, v1227, U6 z1211.Rule.ID, I6 z1211.Rule.From, I6 z1211.Rule.To, F6 z1211.Rule.Lo, F6 z1211.Rule.Hi, U6 z1211.Rule.Authority, I6 z1211.Rule.Quota, .bool z1211.On]) z isAgg48 sizeOf48 (hst.bcs0 0 z)) (rvs_cons (rv_tmp z) rvs_nil)) ?_
 replace hst := hst.pull2.pull3.pull4.pull5.pull6.pull7.pull8.pull9
 exact ⟨_, v1213, v1215, v1217, v1219, v1221, v1223, v1225, v1227, z, hI0, hst.keep8⟩
}
}
}
}

theorem mail_Decode_ref {w0 w : World} {I : HL} {R : SP} {a0 : (List Int)} {r0_0 : Value} (f0_0 : Ro (tyInt .u8) I r0_0 a0) (hst : St w0 w I [] R) {r : (api_Mail × Int)} (hm : mail_Decode a0 = some r) :
  Calls prog 7 #[r0_0] w fun e w' => ∃ (I' : HL) (q0_0 : Value) (q0_1 : Value) (q0_2 : Value) (q0_3 : Value) (q0_4 : Value) (q0_5 : Value) (q0_6 : Value) (q0_7 : Value) (q0_8 : Value) (q0_9 : Value) (q0_10 : Value) (q0_11 : Value) (q0_12 : Value) (q0_13 : Value) (q0_14 : Value) (q0_15 : Value), e = .returned (.tuple #[.agg #[U1 r.1.Kind, U1 r.1.M.Kind, I6 r.1.M.From, I6 r.1.M.To, U6 r.1.M.Term, U6 r.1.M.Index, U6 r.1.M.LogTerm, U6 r.1.M.Commit, .bool r.1.M.OK, q0_0, U6 r.1.M.S.Index, U6 r.1.M.S.Term, U6 r.1.M.S.Voters, q0_1, U6 r.1.H.ID.Session, U6 r.1.H.ID.Seq, U6 r.1.H.Epoch, q0_2, q0_3, q0_4, q0_5, U6 r.1.ID.Session, U6 r.1.ID.Seq, I6 r.1.R.E, U6 r.1.R.Epoch, U6 r.1.R.Index, q0_6, q0_7, U1 r.1.C.Kind, U6 r.1.C.ID.Session, U6 r.1.C.ID.Seq, U6 r.1.C.Epoch, U6 r.1.C.Index, I6 r.1.C.E, U6 r.1.C.Hold.ID.Session, U6 r.1.C.Hold.ID.Seq, U6 r.1.C.Hold.Epoch, q0_8, q0_9, q0_10, q0_11, q0_12, I6 r.1.C.R.E, U6 r.1.C.R.Epoch, U6 r.1.C.R.Index, q0_13, q0_14, U6 r.1.C.Shards, q0_15, U6 r.1.C.Rule.ID, I6 r.1.C.Rule.From, I6 r.1.C.Rule.To, F6 r.1.C.Rule.Lo, F6 r.1.C.Rule.Hi, U6 r.1.C.Rule.Authority, I6 r.1.C.Rule.Quota, .bool r.1.C.On], I6 r.2]) ∧ I.le I' ∧ St w0 w' I' [ownS ty_api_Entry q0_0 r.1.M.Entries, ownS (tyInt .u8) q0_1 r.1.M.S.Data, ownS tyF64 q0_2 r.1.H.Gets, ownS tyF2 q0_3 r.1.H.Scans, ownS tyF64 q0_4 r.1.H.Puts, ownS (tyInt .u8) q0_5 r.1.H.Data, ownS ty_api_Got q0_6 r.1.R.Gots, ownS (tySl ty_api_Pair) q0_7 r.1.R.Scans, ownS tyF64 q0_8 r.1.C.Hold.Gets, ownS tyF2 q0_9 r.1.C.Hold.Scans, ownS tyF64 q0_10 r.1.C.Hold.Puts, ownS (tyInt .u8) q0_11 r.1.C.Hold.Data, ownS ty_api_Write q0_12 r.1.C.Writes, ownS ty_api_Got q0_13 r.1.C.R.Gots, ownS (tySl ty_api_Pair) q0_14 r.1.C.R.Scans, ownS ty_api_Part q0_15 r.1.C.Parts] R := by {
 unfold mail_Decode at hm
 refine calls_start (args := [r0_0]) func7 z ntmps7 (Nat.le_of_ble_eq_true z) ?_
 have hI0 := HL.le.refl I
 refine wp_seq (wrl ?_)
 obtain ⟨b527, w528, ew529, eb530, hst⟩ := hst.box [Zb, Zb, Zi, Zi, Zu, Zu, Zu, Zu, .bool false, Zs, Zu, Zu, Zu, Zs, Zu, Zu, Zu, Zs, Zs, Zs, Zs, Zu, Zu, Zi, Zu, Zu, Zs, Zs, Zb, Zu, Zu, Zu, Zu, Zi, Zu, Zu, Zu, Zs, Zs, Zs, Zs, Zs, Zi, Zu, Zu, Zs, Zs, Zu, Zs, Zu, Zi, Zi, Zf, Zf, Zu, Zi, .bool false] 50
 refine wl_run (v := Pt b527 0) (w' := w528) z z (x_al (by kernel_rfl) ew529 eb530) ?_
 refine wv (.int .i64 (0:Int)) z z z (wl_nil (tn (wp_seq (wrl (wv (r0_0) z z z ?_)))))
 obtain ⟨t532, ht533, hm⟩ := bind_some hm
 refine wc call12 [r0_0] z z z ?_
 refine (octet_Read_ref f0_0 hst.to0 ht533).mono ?_
 rintro _ w534 ⟨v537, rfl, hst⟩
 refine ⟨_, z, ?_⟩
 replace hst := hst.of1
 refine wv (v537) z z z (wl_nil (tn (wp_seq (wrl (wv (v537) z z z ?_)))))
 obtain ⟨t539, ht540, hm⟩ := bind_some hm
 refine wc call13 [v537, I6 (1:Int)] z z z ?_
 refine (octet_Reader_Num_ref hst.to1 ht540).mono ?_
 rintro _ w541 ⟨rfl, hst⟩
 refine ⟨_, z, ?_⟩
 replace hst := hst.of1
 refine wv (.int .u8 (u8.wrap t539.1)) z z (by kernel_rfl) (wv (.agg #[U1 (u8.wrap t539.1), Zb, Zi, Zi, Zu, Zu, Zu, Zu, .bool false, Zs, Zu, Zu, Zu, Zs, Zu, Zu, Zu, Zs, Zs, Zs, Zs, Zu, Zu, Zi, Zu, Zu, Zs, Zs, Zb, Zu, Zu, Zu, Zu, Zi, Zu, Zu, Zu, Zs, Zs, Zs, Zs, Zs, Zi, Zu, Zu, Zs, Zs, Zu, Zs, Zu, Zi, Zi, Zf, Zf, Zu, Zi, .bool false]) z z (by kernel_rfl) ?_)
 obtain ⟨b576, w577, ew578, eb579, hst⟩ := hst.box [Zb, Zb, Zi, Zi, Zu, Zu, Zu, Zu, .bool false, Zs, Zu, Zu, Zu, Zs, Zu, Zu, Zu, Zs, Zs, Zs, Zs, Zu, Zu, Zi, Zu, Zu, Zs, Zs, Zb, Zu, Zu, Zu, Zu, Zi, Zu, Zu, Zu, Zs, Zs, Zs, Zs, Zs, Zi, Zu, Zu, Zs, Zs, Zu, Zs, Zu, Zi, Zi, Zf, Zf, Zu, Zi, .bool false] 50
 refine wl_run (v := Pt b576 0) (w' := w577) z z (x_al (by kernel_rfl) ew578 eb579) ?_
 obtain ⟨w581, hr582, hst⟩ := hst.bx [U1 (u8.wrap t539.1), Zb, Zi, Zi, Zu, Zu, Zu, Zu, .bool false, Zs, Zu, Zu, Zu, Zs, Zu, Zu, Zu, Zs, Zs, Zs, Zs, Zu, Zu, Zi, Zu, Zu, Zs, Zs, Zb, Zu, Zu, Zu, Zu, Zi, Zu, Zu, Zu, Zs, Zs, Zs, Zs, Zs, Zi, Zu, Zu, Zs, Zs, Zu, Zs, Zu, Zi, Zi, Zf, Zf, Zu, Zi, .bool false] sizeOf50 z (oC z (oC z (oC z (oC z (oC z (oC z (oC z (oC z (oC z (oC z (oC z (oC z (oC z (oC z (oC z (oC z (oC z (oC z (oC z (oC z (oC z (oC z (oC z (oC z (oC z (oC z (oC z (oC z (oC z (oC z (oC z (oC z (oC z (oC z (oC z (oC z (oC z (oC z (oC z (oC z (oC z (oC z (oC z (oC z (oC z (oC z (oC z (oC z (oC z (oC z (oC z (oC z (oC z (oC z (oC z (oC z (oC z oN))))))))))))))))))))))))))))))))))))))))))))))))))))))))) (by kernel_rfl)
 refine wl_unit z z (x_unit hr582) ?_
 refine wl_nil (tn ?_)
 obtain ⟨y800, hm, hx801⟩ := joinO_some hm
 refine wp_cut (fun a w => ∃ (I797 : HL) (z763 : octet_Reader) (z764 : api_Mail) (v766 : Value) (v768 : Value) (v770 : Value) (v772 : Value) (v774 : Value) (v776 : Value) (v778 : Value) (v780 : Value) (v782 : Value) (v784 : Value) (v786 : Value) (v788 : Value) (v790 : Value) (v792 : Value) (v794 : Value) (v796 : Value) (σ798 : Nat → Value), (mail_Decode_j0 a0) (z763, z764) = some r ∧ a = Fr 74 (upd (upd (upd (upd σ798 0 (r0_0)) 2 (Pt b527 0)) 4 (v537)) 5 (Pt b576 0)) ∧ I.le I797 ∧ St w0 w I797 [cells b527 [Zb, Zb, Zi, Zi, Zu, Zu, Zu, Zu, .bool false, Zs, Zu, Zu, Zu, Zs, Zu, Zu, Zu, Zs, Zs, Zs, Zs, Zu, Zu, Zi, Zu, Zu, Zs, Zs, Zb, Zu, Zu, Zu, Zu, Zi, Zu, Zu, Zu, Zs, Zs, Zs, Zs, Zs, Zi, Zu, Zu, Zs, Zs, Zu, Zs, Zu, Zi, Zi, Zf, Zf, Zu, Zi, .bool false], at_octet_Reader v537 z763, cells b576 [U1 z764.Kind, U1 z764.M.Kind, I6 z764.M.From, I6 z764.M.To, U6 z764.M.Term, U6 z764.M.Index, U6 z764.M.LogTerm, U6 z764.M.Commit, .bool z764.M.OK, v766, U6 z764.M.S.Index, U6 z764.M.S.Term, U6 z764.M.S.Voters, v768, U6 z764.H.ID.Session, U6 z764.H.ID.Seq, U6 z764.H.Epoch, v770, v772, v774, v776, U6 z764.ID.Session, U6 z764.ID.Seq, I6 z764.R.E, U6 z764.R.Epoch, U6 z764.R.Index, v778, v780, U1 z764.C.Kind, U6 z764.C.ID.Session, U6 z764.C.ID.Seq, U6 z764.C.Epoch, U6 z764.C.Index, I6 z764.C.E, U6 z764.C.Hold.ID.Session, U6 z764.C.Hold.ID.Seq, U6 z764.C.Hold.Epoch, v782, v784, v786, v788, v790, I6 z764.C.R.E, U6 z764.C.R.Epoch, U6 z764.C.R.Index, v792, v794, U6 z764.C.Shards, v796, U6 z764.C.Rule.ID, I6 z764.C.Rule.From, I6 z764.C.Rule.To, F6 z764.C.Rule.Lo, F6 z764.C.Rule.Hi, U6 z764.C.Rule.Authority, I6 z764.C.Rule.Quota, .bool z764.C.On], ownS ty_api_Entry v766 z764.M.Entries, ownS (tyInt .u8) v768 z764.M.S.Data, ownS tyF64 v770 z764.H.Gets, ownS tyF2 v772 z764.H.Scans, ownS tyF64 v774 z764.H.Puts, ownS (tyInt .u8) v776 z764.H.Data, ownS ty_api_Got v778 z764.R.Gots, ownS (tySl ty_api_Pair) v780 z764.R.Scans, ownS tyF64 v782 z764.C.Hold.Gets, ownS tyF2 v784 z764.C.Hold.Scans, ownS tyF64 v786 z764.C.Hold.Puts, ownS (tyInt .u8) v788 z764.C.Hold.Data, ownS ty_api_Write v790 z764.C.Writes, ownS ty_api_Got v792 z764.C.R.Gots, ownS (tySl ty_api_Pair) v794 z764.C.R.Scans, ownS ty_api_Part v796 z764.C.Parts] R) ?_ ?_
 {
 have hL802 := HL.le.refl I
 refine wp_seq (wrl (wv (Pt b576 0) z z (x_field z underlying50 z sizeOf5 z) (wv (.int .u8 (u8.wrap t539.1)) z z (x_load z isAgg5 (hst.bc0 z)) (wl_nil (tn (wp_block (wp_seq (wrl (wv (.bool ((u8.wrap t539.1) == (1:Int))) z z z (wv (.bool ((u8.wrap t539.1) == (1:Int))) z z z (wl_nil (tn ?_))))))))))))
 refine bsplit ((u8.wrap t539.1) == (1:Int)) (fun hc583 => ?_) (fun hc583 => ?_)
 {
 replace hm := bif_t hc583 hm
 refine wp_ift (cvb hc583) ?_
 refine wrl (wv (v537) z z z ?_)
 replace hst := hst.pull1
 obtain ⟨t584, ht585, hm⟩ := bind_some hm
 refine wc call14 [v537] z z z ?_
 refine (mail_readMessage_ref hst.to1 ht585).mono ?_
 rintro _ w586 ⟨I587, v589, v591, rfl, hI588, hst⟩
 refine ⟨_, z, ?_⟩
 replace hst := hst.of3
 replace f0_0 := f0_0.mono (ro_le hI588)
 replace hI0 := hI0.trans hI588
 replace hL802 := hL802.trans hI588
 refine wv (Pt b576 1) z z (x_field z underlying50 z sizeOf30 z) ?_
 replace hst := hst.pull3
 obtain ⟨w593, hr594, hst⟩ := hst.by_ [U1 (u8.wrap t539.1), U1 t584.1.Kind, I6 t584.1.From, I6 t584.1.To, U6 t584.1.Term, U6 t584.1.Index, U6 t584.1.LogTerm, U6 t584.1.Commit, .bool t584.1.OK, v589, U6 t584.1.S.Index, U6 t584.1.S.Term, U6 t584.1.S.Voters, v591, Zu, Zu, Zu, Zs, Zs, Zs, Zs, Zu, Zu, Zi, Zu, Zu, Zs, Zs, Zb, Zu, Zu, Zu, Zu, Zi, Zu, Zu, Zu, Zs, Zs, Zs, Zs, Zs, Zi, Zu, Zu, Zs, Zs, Zu, Zs, Zu, Zi, Zi, Zf, Zf, Zu, Zi, .bool false] 1 (.agg #[U1 t584.1.Kind, I6 t584.1.From, I6 t584.1.To, U6 t584.1.Term, U6 t584.1.Index, U6 t584.1.LogTerm, U6 t584.1.Commit, .bool t584.1.OK, v589, U6 t584.1.S.Index, U6 t584.1.S.Term, U6 t584.1.S.Voters, v591]) sizeOf30 z (oC z (oC z (oC z (oC z (oC z (oC z (oC z (oC z (oC (one_of_sliceV hst.sv1) (oC z (oC z (oC z (oC (one_of_sliceV hst.sv2) oN))))))))))))) (by kernel_rfl)
 refine wl_unit z z (x_unit hr594) ?_
 refine wl_nil (blk_n (tn ?_))
 replace hst := hst.own_nil tyF64
 replace hst := hst.own_nil tyF2
 replace hst := hst.own_nil tyF64
 replace hst := hst.own_nil (tyInt .u8)
 replace hst := hst.own_nil ty_api_Got
 replace hst := hst.own_nil (tySl ty_api_Pair)
 replace hst := hst.own_nil tyF64
 replace hst := hst.own_nil tyF2
 replace hst := hst.own_nil tyF64
 replace hst := hst.own_nil (tyInt .u8)
 replace hst := hst.own_nil ty_api_Write
 replace hst := hst.own_nil ty_api_Got
 replace hst := hst.own_nil (tySl ty_api_Pair)
 replace hst := hst.own_nil ty_api_Part
 replace hst := hst.pull1.pull2.pull3.pull4.pull5.pull6.pull7.pull8.pull9.pull10.pull11.pull12.pull13.pull16.pull16.pull16.pull17.pull18.keep19
 obtain rfl := some_inj hm
 exact ⟨_, t584.2, ({ Kind := (u8.wrap t539.1), M := t584.1, H := zero_api_Hold, ID := ({ Session := (0:Int), Seq := (0:Int) } : api_ID), R := zero_api_Reply, C := zero_api_Command } : api_Mail), v589, v591, Zs, Zs, Zs, Zs, Zs, Zs, Zs, Zs, Zs, Zs, Zs, Zs, Zs, Zs, _, hx801, (fu 0 r0_0 z (fu 2 (Pt b527 0) z (fu 4 v537 z (fu 5 (Pt b576 0) z z)))), hL802, hst⟩
}
 {
 replace hm := bif_f hc583 hm
 refine wp_iff (cvb hc583) ?_
 obtain ⟨y599, hm, hx600⟩ := bind_some hm
 refine wp_cut (fun a w => ∃ (z596 : Bool) (σ597 : Nat → Value), (mail_Decode_j1 t539) z596 = some y800 ∧ a = Fr 74 (upd (upd (upd (upd (upd (upd σ597 0 (r0_0)) 2 (Pt b527 0)) 4 (v537)) 5 (Pt b576 0)) 15 (.int .u8 (u8.wrap t539.1))) 22 (.bool z596)) ∧ St w0 w I [cells b527 [Zb, Zb, Zi, Zi, Zu, Zu, Zu, Zu, .bool false, Zs, Zu, Zu, Zu, Zs, Zu, Zu, Zu, Zs, Zs, Zs, Zs, Zu, Zu, Zi, Zu, Zu, Zs, Zs, Zb, Zu, Zu, Zu, Zu, Zi, Zu, Zu, Zu, Zs, Zs, Zs, Zs, Zs, Zi, Zu, Zu, Zs, Zs, Zu, Zs, Zu, Zi, Zi, Zf, Zf, Zu, Zi, .bool false], at_octet_Reader v537 t539.2, cells b576 [U1 (u8.wrap t539.1), Zb, Zi, Zi, Zu, Zu, Zu, Zu, .bool false, Zs, Zu, Zu, Zu, Zs, Zu, Zu, Zu, Zs, Zs, Zs, Zs, Zu, Zu, Zi, Zu, Zu, Zs, Zs, Zb, Zu, Zu, Zu, Zu, Zi, Zu, Zu, Zu, Zs, Zs, Zs, Zs, Zs, Zi, Zu, Zu, Zs, Zs, Zu, Zs, Zu, Zi, Zi, Zf, Zf, Zu, Zi, .bool false]] R) ?_ ?_
 {
 refine wp_seq (wrl (wv (.bool ((u8.wrap t539.1) == (2:Int))) z z z (wv (.bool ((u8.wrap t539.1) == (2:Int))) z z z (wl_nil (tn ?_)))))
 refine bsplit ((u8.wrap t539.1) == (2:Int)) (fun hc595 => ?_) (fun hc595 => ?_)
 {
 replace hm := bif_t hc595 hm
 refine wp_ift (cvb hc595) ?_
 refine wp_skip (tn ?_)
 replace hst := hst.pull1.pull2.keep3
 obtain rfl := some_inj hm
 exact ⟨((u8.wrap t539.1) == (2:Int)), _, hx600, (fu 0 r0_0 z (fu 2 (Pt b527 0) z (fu 4 v537 z (fu 5 (Pt b576 0) z (fu 15 (.int .u8 (u8.wrap t539.1)) z (fu 22 (.bool ((u8.wrap t539.1) == (2:Int))) z z)))))), hst⟩
}
 {
 replace hm := bif_f hc595 hm
 refine wp_iff (cvb hc595) ?_
 refine wrl (wv (.bool ((u8.wrap t539.1) == (6:Int))) z z z (wv (.bool ((u8.wrap t539.1) == (6:Int))) z z z (wl_nil (tn ?_))))
 replace hst := hst.pull1.pull2.keep3
 obtain rfl := some_inj hm
 exact ⟨((u8.wrap t539.1) == (6:Int)), _, hx600, (fu 0 r0_0 z (fu 2 (Pt b527 0) z (fu 4 v537 z (fu 5 (Pt b576 0) z (fu 15 (.int .u8 (u8.wrap t539.1)) z (fu 22 (.bool ((u8.wrap t539.1) == (6:Int))) z z)))))), hst⟩
}
}
 {
 clear hst
 rintro _ w601 ⟨z596, σ597, hm, rfl, hst⟩
 dsimp only [mail_Decode_j1] at hm
 refine bsplit z596 (fun hc602 => ?_) (fun hc602 => ?_)
 {
 replace hm := bif_t hc602 hm
 refine wp_ift (cvb hc602) ?_
 refine wrl (wv (v537) z z z ?_)
 replace hst := hst.pull1
 obtain ⟨t603, ht604, hm⟩ := bind_some hm
 refine wc call15 [v537] z z z ?_
 refine (locks_Read_ref hst.to1 ht604).mono ?_
 rintro _ w605 ⟨v608, v610, v612, v614, rfl, hst⟩
 refine ⟨_, z, ?_⟩
 replace hst := hst.of5
 refine wv (Pt b576 14) z z (x_field z underlying50 z sizeOf36 z) ?_
 replace hst := hst.pull6
 obtain ⟨w616, hr617, hst⟩ := hst.by_ [U1 (u8.wrap t539.1), Zb, Zi, Zi, Zu, Zu, Zu, Zu, .bool false, Zs, Zu, Zu, Zu, Zs, U6 t603.1.ID.Session, U6 t603.1.ID.Seq, U6 t603.1.Epoch, v608, v610, v612, v614, Zu, Zu, Zi, Zu, Zu, Zs, Zs, Zb, Zu, Zu, Zu, Zu, Zi, Zu, Zu, Zu, Zs, Zs, Zs, Zs, Zs, Zi, Zu, Zu, Zs, Zs, Zu, Zs, Zu, Zi, Zi, Zf, Zf, Zu, Zi, .bool false] 14 (.agg #[U6 t603.1.ID.Session, U6 t603.1.ID.Seq, U6 t603.1.Epoch, v608, v610, v612, v614]) sizeOf36 z (oC z (oC z (oC z (oC (one_of_sliceV hst.sv1) (oC (one_of_sliceV hst.sv2) (oC (one_of_sliceV hst.sv3) (oC (one_of_sliceV hst.sv4) oN))))))) (by kernel_rfl)
 refine wl_unit z z (x_unit hr617) ?_
 refine wl_nil (blk_n (tn ?_))
 replace hst := hst.own_nil ty_api_Entry
 replace hst := hst.own_nil (tyInt .u8)
 replace hst := hst.own_nil ty_api_Got
 replace hst := hst.own_nil (tySl ty_api_Pair)
 replace hst := hst.own_nil tyF64
 replace hst := hst.own_nil tyF2
 replace hst := hst.own_nil tyF64
 replace hst := hst.own_nil (tyInt .u8)
 replace hst := hst.own_nil ty_api_Write
 replace hst := hst.own_nil ty_api_Got
 replace hst := hst.own_nil (tySl ty_api_Pair)
 replace hst := hst.own_nil ty_api_Part
 replace hst := hst.pull1.pull2.pull3.pull4.pull5.pull6.pull7.pull8.pull9.pull16.pull16.pull16.pull16.pull14.pull15.pull16.pull17.pull18.keep19
 obtain rfl := some_inj hm
 exact ⟨_, t603.2, ({ Kind := (u8.wrap t539.1), M := zero_api_Message, H := t603.1, ID := ({ Session := (0:Int), Seq := (0:Int) } : api_ID), R := zero_api_Reply, C := zero_api_Command } : api_Mail), Zs, Zs, v608, v610, v612, v614, Zs, Zs, Zs, Zs, Zs, Zs, Zs, Zs, Zs, Zs, _, hx801, (fu 0 r0_0 z (fu 2 (Pt b527 0) z (fu 4 v537 z (fu 5 (Pt b576 0) z z)))), hL802, hst⟩
}
 {
 replace hm := bif_f hc602 hm
 refine wp_iff (cvb hc602) ?_
 refine wp_seq (wrl (wv (.bool ((u8.wrap t539.1) == (3:Int))) z z z (wv (.bool ((u8.wrap t539.1) == (3:Int))) z z z (wl_nil (tn ?_)))))
 refine bsplit ((u8.wrap t539.1) == (3:Int)) (fun hc618 => ?_) (fun hc618 => ?_)
 {
 replace hm := bif_t hc618 hm
 refine wp_ift (cvb hc618) ?_
 refine wp_seq (wrl (wv (v537) z z z ?_))
 replace hst := hst.pull1
 obtain ⟨t619, ht620, hm⟩ := bind_some hm
 refine wc call15 [v537] z z z ?_
 refine (locks_Read_ref hst.to1 ht620).mono ?_
 rintro _ w621 ⟨v624, v626, v628, v630, rfl, hst⟩
 refine ⟨_, z, ?_⟩
 replace hst := hst.of5
 refine wv (Pt b576 14) z z (x_field z underlying50 z sizeOf36 z) ?_
 replace hst := hst.pull6
 obtain ⟨w632, hr633, hst⟩ := hst.by_ [U1 (u8.wrap t539.1), Zb, Zi, Zi, Zu, Zu, Zu, Zu, .bool false, Zs, Zu, Zu, Zu, Zs, U6 t619.1.ID.Session, U6 t619.1.ID.Seq, U6 t619.1.Epoch, v624, v626, v628, v630, Zu, Zu, Zi, Zu, Zu, Zs, Zs, Zb, Zu, Zu, Zu, Zu, Zi, Zu, Zu, Zu, Zs, Zs, Zs, Zs, Zs, Zi, Zu, Zu, Zs, Zs, Zu, Zs, Zu, Zi, Zi, Zf, Zf, Zu, Zi, .bool false] 14 (.agg #[U6 t619.1.ID.Session, U6 t619.1.ID.Seq, U6 t619.1.Epoch, v624, v626, v628, v630]) sizeOf36 z (oC z (oC z (oC z (oC (one_of_sliceV hst.sv1) (oC (one_of_sliceV hst.sv2) (oC (one_of_sliceV hst.sv3) (oC (one_of_sliceV hst.sv4) oN))))))) (by kernel_rfl)
 refine wl_unit z z (x_unit hr633) ?_
 refine wl_nil (tn (wrl (wv (v537) z z z ?_)))
 replace hst := hst.pull5
 obtain ⟨t634, ht635, hm⟩ := bind_some hm
 refine wc call16 [v537] z z z ?_
 refine (command_ReadReply_ref hst.to1 ht635).mono ?_
 rintro _ w636 ⟨I637, v639, v641, rfl, hI638, hst⟩
 refine ⟨_, z, ?_⟩
 replace hst := hst.of3
 replace f0_0 := f0_0.mono (ro_le hI638)
 replace hI0 := hI0.trans hI638
 replace hL802 := hL802.trans hI638
 refine wv (Pt b576 23) z z (x_field z underlying50 z sizeOf41 z) ?_
 replace hst := hst.pull3
 obtain ⟨w643, hr644, hst⟩ := hst.by_ [U1 (u8.wrap t539.1), Zb, Zi, Zi, Zu, Zu, Zu, Zu, .bool false, Zs, Zu, Zu, Zu, Zs, U6 t619.1.ID.Session, U6 t619.1.ID.Seq, U6 t619.1.Epoch, v624, v626, v628, v630, Zu, Zu, I6 t634.1.E, U6 t634.1.Epoch, U6 t634.1.Index, v639, v641, Zb, Zu, Zu, Zu, Zu, Zi, Zu, Zu, Zu, Zs, Zs, Zs, Zs, Zs, Zi, Zu, Zu, Zs, Zs, Zu, Zs, Zu, Zi, Zi, Zf, Zf, Zu, Zi, .bool false] 23 (.agg #[I6 t634.1.E, U6 t634.1.Epoch, U6 t634.1.Index, v639, v641]) sizeOf41 z (oC z (oC z (oC z (oC (one_of_sliceV hst.sv1) (oC (one_of_sliceV hst.sv2) oN))))) (by kernel_rfl)
 refine wl_unit z z (x_unit hr644) ?_
 refine wl_nil (blk_n (tn ?_))
 replace hst := hst.own_nil ty_api_Entry
 replace hst := hst.own_nil (tyInt .u8)
 replace hst := hst.own_nil tyF64
 replace hst := hst.own_nil tyF2
 replace hst := hst.own_nil tyF64
 replace hst := hst.own_nil (tyInt .u8)
 replace hst := hst.own_nil ty_api_Write
 replace hst := hst.own_nil ty_api_Got
 replace hst := hst.own_nil (tySl ty_api_Pair)
 replace hst := hst.own_nil ty_api_Part
 replace hst := hst.pull1.pull2.pull3.pull4.pull5.pull6.pull7.pull12.pull12.pull17.pull17.pull17.pull17.pull14.pull15.pull16.pull17.pull18.keep19
 obtain rfl := some_inj hm
 exact ⟨_, t634.2, ({ Kind := (u8.wrap t539.1), M := zero_api_Message, H := t619.1, ID := ({ Session := (0:Int), Seq := (0:Int) } : api_ID), R := t634.1, C := zero_api_Command } : api_Mail), Zs, Zs, v624, v626, v628, v630, v639, v641, Zs, Zs, Zs, Zs, Zs, Zs, Zs, Zs, _, hx801, (fu 0 r0_0 z (fu 2 (Pt b527 0) z (fu 4 v537 z (fu 5 (Pt b576 0) z z)))), hL802, hst⟩
}
 {
 replace hm := bif_f hc618 hm
 refine wp_iff (cvb hc618) ?_
 refine wp_seq (wrl (wv (.bool ((u8.wrap t539.1) == (4:Int))) z z z (wv (.bool ((u8.wrap t539.1) == (4:Int))) z z z (wl_nil (tn ?_)))))
 refine bsplit ((u8.wrap t539.1) == (4:Int)) (fun hc645 => ?_) (fun hc645 => ?_)
 {
 replace hm := bif_t hc645 hm
 refine wp_ift (cvb hc645) ?_
 refine wp_seq (wrl (wv (v537) z z z ?_))
 replace hst := hst.pull1
 obtain ⟨t646, ht647, hm⟩ := bind_some hm
 refine wc call18 [v537, I6 (1048576:Int)] z z z ?_
 refine (octet_Reader_Bytes_ref hst.to1 ht647).mono ?_
 rintro _ w648 ⟨v651, rfl, hst⟩
 refine ⟨_, z, ?_⟩
 replace hst := hst.of2
 obtain ⟨I653, hI654, f655, hst⟩ := hst.own_fix
 replace f0_0 := f0_0.mono (ro_le hI654)
 replace hI0 := hI0.trans hI654
 replace hL802 := hL802.trans hI654
 obtain ⟨t656, ht657, hm⟩ := bind_some hm
 refine wc call17 [v651] z z z ?_
 refine (command_Decode_ref f655 hst.to0 ht657).mono ?_
 rintro _ w658 ⟨I659, v661, v663, v665, v667, v669, v671, v673, v675, rfl, hI660, hst⟩
 refine ⟨_, z, ?_⟩
 replace hst := hst.of8
 replace f0_0 := f0_0.mono (ro_le hI660)
 replace f655 := f655.mono (ro_le hI660)
 replace hI0 := hI0.trans hI660
 replace hL802 := hL802.trans hI660
 refine wv (.tuple #[.agg #[U1 t656.1.Kind, U6 t656.1.ID.Session, U6 t656.1.ID.Seq, U6 t656.1.Epoch, U6 t656.1.Index, I6 t656.1.E, U6 t656.1.Hold.ID.Session, U6 t656.1.Hold.ID.Seq, U6 t656.1.Hold.Epoch, v661, v663, v665, v667, v669, I6 t656.1.R.E, U6 t656.1.R.Epoch, U6 t656.1.R.Index, v671, v673, U6 t656.1.Shards, v675, U6 t656.1.Rule.ID, I6 t656.1.Rule.From, I6 t656.1.Rule.To, F6 t656.1.Rule.Lo, F6 t656.1.Rule.Hi, U6 t656.1.Rule.Authority, I6 t656.1.Rule.Quota, .bool t656.1.On], I6 t656.2]) z z z (wv (.agg #[U1 t656.1.Kind, U6 t656.1.ID.Session, U6 t656.1.ID.Seq, U6 t656.1.Epoch, U6 t656.1.Index, I6 t656.1.E, U6 t656.1.Hold.ID.Session, U6 t656.1.Hold.ID.Seq, U6 t656.1.Hold.Epoch, v661, v663, v665, v667, v669, I6 t656.1.R.E, U6 t656.1.R.Epoch, U6 t656.1.R.Index, v671, v673, U6 t656.1.Shards, v675, U6 t656.1.Rule.ID, I6 t656.1.Rule.From, I6 t656.1.Rule.To, F6 t656.1.Rule.Lo, F6 t656.1.Rule.Hi, U6 t656.1.Rule.Authority, I6 t656.1.Rule.Quota, .bool t656.1.On]) z z z (wv (.int .i64 t656.2) z z z ?_))
 obtain ⟨b685, w686, ew687, eb688, hst⟩ := hst.box [Zb, Zu, Zu, Zu, Zu, Zi, Zu, Zu, Zu, Zs, Zs, Zs, Zs, Zs, Zi, Zu, Zu, Zs, Zs, Zu, Zs, Zu, Zi, Zi, Zf, Zf, Zu, Zi, .bool false] 48
 refine wl_run (v := Pt b685 0) (w' := w686) z z (x_al (by kernel_rfl) ew687 eb688) ?_
 obtain ⟨w690, hr691, hst⟩ := hst.bx [U1 t656.1.Kind, U6 t656.1.ID.Session, U6 t656.1.ID.Seq, U6 t656.1.Epoch, U6 t656.1.Index, I6 t656.1.E, U6 t656.1.Hold.ID.Session, U6 t656.1.Hold.ID.Seq, U6 t656.1.Hold.Epoch, v661, v663, v665, v667, v669, I6 t656.1.R.E, U6 t656.1.R.Epoch, U6 t656.1.R.Index, v671, v673, U6 t656.1.Shards, v675, U6 t656.1.Rule.ID, I6 t656.1.Rule.From, I6 t656.1.Rule.To, F6 t656.1.Rule.Lo, F6 t656.1.Rule.Hi, U6 t656.1.Rule.Authority, I6 t656.1.Rule.Quota, .bool t656.1.On] sizeOf48 z (oC z (oC z (oC z (oC z (oC z (oC z (oC z (oC z (oC z (oC (one_of_sliceV hst.sv1) (oC (one_of_sliceV hst.sv2) (oC (one_of_sliceV hst.sv3) (oC (one_of_sliceV hst.sv4) (oC (one_of_sliceV hst.sv5) (oC z (oC z (oC z (oC (one_of_sliceV hst.sv6) (oC (one_of_sliceV hst.sv7) (oC z (oC (one_of_sliceV hst.sv8) (oC z (oC z (oC z (oC z (oC z (oC z (oC z (oC z oN))))))))))))))))))))))))))))) (by kernel_rfl)
 refine wl_unit z z (x_unit hr691) ?_
 refine wv (.int .i64 t656.2) z z z (wl_nil (tn (wp_seq (wp_seq (wrl (wv (.int .i64 t656.2) z z z (wv (.bool (t656.2 != (0:Int))) z z z (wv (.bool (t656.2 != (0:Int))) z z z ?_))))))))
 refine bsplit (t656.2 != (0:Int)) (fun hc692 => ?_) (fun hc692 => ?_)
 {
 replace hm := bif_t hc692 hm
 refine wo hc692 z z z z z z (wo hc692 z z z z z z (wo hc692 z z z z z z (wv (.bool true) z z (x_pick_t hc692 z z) (wl_nil (tn ?_)))))
 refine wp_ift z ?_
 refine wp_seq (wrl (wv (.agg #[Zb, Zb, Zi, Zi, Zu, Zu, Zu, Zu, .bool false, Zs, Zu, Zu, Zu, Zs, Zu, Zu, Zu, Zs, Zs, Zs, Zs, Zu, Zu, Zi, Zu, Zu, Zs, Zs, Zb, Zu, Zu, Zu, Zu, Zi, Zu, Zu, Zu, Zs, Zs, Zs, Zs, Zs, Zi, Zu, Zu, Zs, Zs, Zu, Zs, Zu, Zi, Zi, Zf, Zf, Zu, Zi, .bool false]) z z (by kernel_rfl) ?_))
 replace hst := hst.pull10
 obtain ⟨w709, hr710, hst⟩ := hst.bx [Zb, Zb, Zi, Zi, Zu, Zu, Zu, Zu, .bool false, Zs, Zu, Zu, Zu, Zs, Zu, Zu, Zu, Zs, Zs, Zs, Zs, Zu, Zu, Zi, Zu, Zu, Zs, Zs, Zb, Zu, Zu, Zu, Zu, Zi, Zu, Zu, Zu, Zs, Zs, Zs, Zs, Zs, Zi, Zu, Zu, Zs, Zs, Zu, Zs, Zu, Zi, Zi, Zf, Zf, Zu, Zi, .bool false] sizeOf50 z (oC z (oC z (oC z (oC z (oC z (oC z (oC z (oC z (oC z (oC z (oC z (oC z (oC z (oC z (oC z (oC z (oC z (oC z (oC z (oC z (oC z (oC z (oC z (oC z (oC z (oC z (oC z (oC z (oC z (oC z (oC z (oC z (oC z (oC z (oC z (oC z (oC z (oC z (oC z (oC z (oC z (oC z (oC z (oC z (oC z (oC z (oC z (oC z (oC z (oC z (oC z (oC z (oC z (oC z (oC z (oC z (oC z oN))))))))))))))))))))))))))))))))))))))))))))))))))))))))) (by kernel_rfl)
 refine wl_unit z z (x_unit hr710) ?_
 refine wv (.int .i64 (5:Int)) z z z (wl_nil (tn (wp_ret (then_r (blk_r (then_r ?_))))))
 replace hm := inr_up hm hx801
 replace hst := hst.own_nil ty_api_Entry
 replace hst := hst.own_nil (tyInt .u8)
 replace hst := hst.own_nil tyF64
 replace hst := hst.own_nil tyF2
 replace hst := hst.own_nil tyF64
 replace hst := hst.own_nil (tyInt .u8)
 replace hst := hst.own_nil ty_api_Got
 replace hst := hst.own_nil (tySl ty_api_Pair)
 replace hst := hst.own_nil tyF64
 replace hst := hst.own_nil tyF2
 replace hst := hst.own_nil tyF64
 replace hst := hst.own_nil (tyInt .u8)
 replace hst := hst.own_nil ty_api_Write
 replace hst := hst.own_nil ty_api_Got
 replace hst := hst.own_nil (tySl ty_api_Pair)
 replace hst := hst.own_nil ty_api_Part
 obtain rfl := some_inj hm
 refine post_ret (vs := [.agg #[Zb, Zb, Zi, Zi, Zu, Zu, Zu, Zu, .bool false, Zs, Zu, Zu, Zu, Zs, Zu, Zu, Zu, Zs, Zs, Zs, Zs, Zu, Zu, Zi, Zu, Zu, Zs, Zs, Zb, Zu, Zu, Zu, Zu, Zi, Zu, Zu, Zu, Zs, Zs, Zs, Zs, Zs, Zi, Zu, Zu, Zs, Zs, Zu, Zs, Zu, Zi, Zi, Zf, Zf, Zu, Zi, .bool false], I6 (5:Int)]) results7 (rvs_cons (rv_cell (cs := [Zb, Zb, Zi, Zi, Zu, Zu, Zu, Zu, .bool false, Zs, Zu, Zu, Zu, Zs, Zu, Zu, Zu, Zs, Zs, Zs, Zs, Zu, Zu, Zi, Zu, Zu, Zs, Zs, Zb, Zu, Zu, Zu, Zu, Zi, Zu, Zu, Zu, Zs, Zs, Zs, Zs, Zs, Zi, Zu, Zu, Zs, Zs, Zu, Zs, Zu, Zi, Zi, Zf, Zf, Zu, Zi, .bool false]) z isAgg50 sizeOf50 (hst.bcs16 0 z)) (rvs_cons (rv_tmp z) rvs_nil)) ?_
 replace hst := hst.pull1.pull2.pull3.pull4.pull5.pull6.pull7.pull8.pull9.pull10.pull11.pull12.pull13.pull14.pull15
 exact ⟨_, Zs, Zs, Zs, Zs, Zs, Zs, Zs, Zs, Zs, Zs, Zs, Zs, Zs, Zs, Zs, Zs, z, hI0, hst.keep16⟩
}
 {
 replace hm := bif_f hc692 hm
 refine wv (Pt b685 0) ((wanted_eq z z z (cvb hc692)).trans z) z (x_field z underlying48 z sizeOf5 z) (wv (.int .u8 t656.1.Kind) ((wanted_eq z z z (cvb hc692)).trans z) z (x_load z isAgg5 (hst.bc0 z)) (wv (.bool (t656.1.Kind != (3:Int))) ((wanted_eq z z z (cvb hc692)).trans z) z z (wv (.bool (t656.1.Kind != (3:Int))) z z (x_pick_f hc692 z z) (wl_nil (tn ?_)))))
 refine bsplit (t656.1.Kind != (3:Int)) (fun hc711 => ?_) (fun hc711 => ?_)
 {
 replace hm := bif_t hc711 hm
 refine wp_ift (cvb hc711) ?_
 refine wp_seq (wrl (wv (.agg #[Zb, Zb, Zi, Zi, Zu, Zu, Zu, Zu, .bool false, Zs, Zu, Zu, Zu, Zs, Zu, Zu, Zu, Zs, Zs, Zs, Zs, Zu, Zu, Zi, Zu, Zu, Zs, Zs, Zb, Zu, Zu, Zu, Zu, Zi, Zu, Zu, Zu, Zs, Zs, Zs, Zs, Zs, Zi, Zu, Zu, Zs, Zs, Zu, Zs, Zu, Zi, Zi, Zf, Zf, Zu, Zi, .bool false]) z z (by kernel_rfl) ?_))
 replace hst := hst.pull10
 obtain ⟨w728, hr729, hst⟩ := hst.bx [Zb, Zb, Zi, Zi, Zu, Zu, Zu, Zu, .bool false, Zs, Zu, Zu, Zu, Zs, Zu, Zu, Zu, Zs, Zs, Zs, Zs, Zu, Zu, Zi, Zu, Zu, Zs, Zs, Zb, Zu, Zu, Zu, Zu, Zi, Zu, Zu, Zu, Zs, Zs, Zs, Zs, Zs, Zi, Zu, Zu, Zs, Zs, Zu, Zs, Zu, Zi, Zi, Zf, Zf, Zu, Zi, .bool false] sizeOf50 z (oC z (oC z (oC z (oC z (oC z (oC z (oC z (oC z (oC z (oC z (oC z (oC z (oC z (oC z (oC z (oC z (oC z (oC z (oC z (oC z (oC z (oC z (oC z (oC z (oC z (oC z (oC z (oC z (oC z (oC z (oC z (oC z (oC z (oC z (oC z (oC z (oC z (oC z (oC z (oC z (oC z (oC z (oC z (oC z (oC z (oC z (oC z (oC z (oC z (oC z (oC z (oC z (oC z (oC z (oC z (oC z (oC z oN))))))))))))))))))))))))))))))))))))))))))))))))))))))))) (by kernel_rfl)
 refine wl_unit z z (x_unit hr729) ?_
 refine wv (.int .i64 (5:Int)) z z z (wl_nil (tn (wp_ret (then_r (blk_r (then_r ?_))))))
 replace hm := inr_up hm hx801
 replace hst := hst.own_nil ty_api_Entry
 replace hst := hst.own_nil (tyInt .u8)
 replace hst := hst.own_nil tyF64
 replace hst := hst.own_nil tyF2
 replace hst := hst.own_nil tyF64
 replace hst := hst.own_nil (tyInt .u8)
 replace hst := hst.own_nil ty_api_Got
 replace hst := hst.own_nil (tySl ty_api_Pair)
 replace hst := hst.own_nil tyF64
 replace hst := hst.own_nil tyF2
 replace hst := hst.own_nil tyF64
 replace hst := hst.own_nil (tyInt .u8)
 replace hst := hst.own_nil ty_api_Write
 replace hst := hst.own_nil ty_api_Got
 replace hst := hst.own_nil (tySl ty_api_Pair)
 replace hst := hst.own_nil ty_api_Part
 obtain rfl := some_inj hm
 refine post_ret (vs := [.agg #[Zb, Zb, Zi, Zi, Zu, Zu, Zu, Zu, .bool false, Zs, Zu, Zu, Zu, Zs, Zu, Zu, Zu, Zs, Zs, Zs, Zs, Zu, Zu, Zi, Zu, Zu, Zs, Zs, Zb, Zu, Zu, Zu, Zu, Zi, Zu, Zu, Zu, Zs, Zs, Zs, Zs, Zs, Zi, Zu, Zu, Zs, Zs, Zu, Zs, Zu, Zi, Zi, Zf, Zf, Zu, Zi, .bool false], I6 (5:Int)]) results7 (rvs_cons (rv_cell (cs := [Zb, Zb, Zi, Zi, Zu, Zu, Zu, Zu, .bool false, Zs, Zu, Zu, Zu, Zs, Zu, Zu, Zu, Zs, Zs, Zs, Zs, Zu, Zu, Zi, Zu, Zu, Zs, Zs, Zb, Zu, Zu, Zu, Zu, Zi, Zu, Zu, Zu, Zs, Zs, Zs, Zs, Zs, Zi, Zu, Zu, Zs, Zs, Zu, Zs, Zu, Zi, Zi, Zf, Zf, Zu, Zi, .bool false]) z isAgg50 sizeOf50 (hst.bcs16 0 z)) (rvs_cons (rv_tmp z) rvs_nil)) ?_
 replace hst := hst.pull1.pull2.pull3.pull4.pull5.pull6.pull7.pull8.pull9.pull10.pull11.pull12.pull13.pull14.pull15
 exact ⟨_, Zs, Zs, Zs, Zs, Zs, Zs, Zs, Zs, Zs, Zs, Zs, Zs, Zs, Zs, Zs, Zs, z, hI0, hst.keep16⟩
}
 {
 replace hm := bif_f hc711 hm
 refine wp_iff (cvb hc711) ?_
 refine wp_skip (tn (wrl ?_))
 refine wv (.agg #[U1 t656.1.Kind, U6 t656.1.ID.Session, U6 t656.1.ID.Seq, U6 t656.1.Epoch, U6 t656.1.Index, I6 t656.1.E, U6 t656.1.Hold.ID.Session, U6 t656.1.Hold.ID.Seq, U6 t656.1.Hold.Epoch, v661, v663, v665, v667, v669, I6 t656.1.R.E, U6 t656.1.R.Epoch, U6 t656.1.R.Index, v671, v673, U6 t656.1.Shards, v675, U6 t656.1.Rule.ID, I6 t656.1.Rule.From, I6 t656.1.Rule.To, F6 t656.1.Rule.Lo, F6 t656.1.Rule.Hi, U6 t656.1.Rule.Authority, I6 t656.1.Rule.Quota, .bool t656.1.On]) z z (x_loadN (cs := [U1 t656.1.Kind, U6 t656.1.ID.Session, U6 t656.1.ID.Seq, U6 t656.1.Epoch, U6 t656.1.Index, I6 t656.1.E, U6 t656.1.Hold.ID.Session, U6 t656.1.Hold.ID.Seq, U6 t656.1.Hold.Epoch, v661, v663, v665, v667, v669, I6 t656.1.R.E, U6 t656.1.R.Epoch, U6 t656.1.R.Index, v671, v673, U6 t656.1.Shards, v675, U6 t656.1.Rule.ID, I6 t656.1.Rule.From, I6 t656.1.Rule.To, F6 t656.1.Rule.Lo, F6 t656.1.Rule.Hi, U6 t656.1.Rule.Authority, I6 t656.1.Rule.Quota, .bool t656.1.On]) z isAgg48 sizeOf48 (hst.bcs0 0 z)) (wv (Pt b576 28) z z (x_field z underlying50 z sizeOf48 z) ?_)
 replace hst := hst.pull11
 obtain ⟨w730, hr731, hst⟩ := hst.by_ [U1 (u8.wrap t539.1), Zb, Zi, Zi, Zu, Zu, Zu, Zu, .bool false, Zs, Zu, Zu, Zu, Zs, Zu, Zu, Zu, Zs, Zs, Zs, Zs, Zu, Zu, Zi, Zu, Zu, Zs, Zs, U1 t656.1.Kind, U6 t656.1.ID.Session, U6 t656.1.ID.Seq, U6 t656.1.Epoch, U6 t656.1.Index, I6 t656.1.E, U6 t656.1.Hold.ID.Session, U6 t656.1.Hold.ID.Seq, U6 t656.1.Hold.Epoch, v661, v663, v665, v667, v669, I6 t656.1.R.E, U6 t656.1.R.Epoch, U6 t656.1.R.Index, v671, v673, U6 t656.1.Shards, v675, U6 t656.1.Rule.ID, I6 t656.1.Rule.From, I6 t656.1.Rule.To, F6 t656.1.Rule.Lo, F6 t656.1.Rule.Hi, U6 t656.1.Rule.Authority, I6 t656.1.Rule.Quota, .bool t656.1.On] 28 (.agg #[U1 t656.1.Kind, U6 t656.1.ID.Session, U6 t656.1.ID.Seq, U6 t656.1.Epoch, U6 t656.1.Index, I6 t656.1.E, U6 t656.1.Hold.ID.Session, U6 t656.1.Hold.ID.Seq, U6 t656.1.Hold.Epoch, v661, v663, v665, v667, v669, I6 t656.1.R.E, U6 t656.1.R.Epoch, U6 t656.1.R.Index, v671, v673, U6 t656.1.Shards, v675, U6 t656.1.Rule.ID, I6 t656.1.Rule.From, I6 t656.1.Rule.To, F6 t656.1.Rule.Lo, F6 t656.1.Rule.Hi, U6 t656.1.Rule.Authority, I6 t656.1.Rule.Quota, .bool t656.1.On]) sizeOf48 z (oC z (oC z (oC z (oC z (oC z (oC z (oC z (oC z (oC z (oC (one_of_sliceV hst.sv2) (oC (one_of_sliceV hst.sv3) (oC (one_of_sliceV hst.sv4) (oC (one_of_sliceV hst.sv5) (oC (one_of_sliceV hst.sv6) (oC z (oC z (oC z (oC (one_of_sliceV hst.sv7) (oC (one_of_sliceV hst.sv8) (oC z (oC (one_of_sliceV hst.sv9) (oC z (oC z (oC z (oC z (oC z (oC z (oC z (oC z oN))))))))))))))))))))))))))))) (by kernel_rfl)
 refine wl_unit z z (x_unit hr731) ?_
 refine wl_nil (blk_n (tn ?_))
 replace hst := hst.own_nil ty_api_Entry
 replace hst := hst.own_nil (tyInt .u8)
 replace hst := hst.own_nil tyF64
 replace hst := hst.own_nil tyF2
 replace hst := hst.own_nil tyF64
 replace hst := hst.own_nil (tyInt .u8)
 replace hst := hst.own_nil ty_api_Got
 replace hst := hst.own_nil (tySl ty_api_Pair)
 replace hst := hst.pull17.pull17.pull17.pull17.pull17.pull17.pull17.pull17.pull8.pull9.pull10.pull11.pull12.pull13.pull14.pull15.pull16.pull18.pull19.keep19
 obtain rfl := some_inj hm
 exact ⟨_, t646.2, ({ Kind := (u8.wrap t539.1), M := zero_api_Message, H := zero_api_Hold, ID := ({ Session := (0:Int), Seq := (0:Int) } : api_ID), R := zero_api_Reply, C := t656.1 } : api_Mail), Zs, Zs, Zs, Zs, Zs, Zs, Zs, Zs, v661, v663, v665, v667, v669, v671, v673, v675, _, hx801, (fu 0 r0_0 z (fu 2 (Pt b527 0) z (fu 4 v537 z (fu 5 (Pt b576 0) z z)))), hL802, hst⟩
}
}
}
 {
 replace hm := bif_f hc645 hm
 refine wp_iff (cvb hc645) ?_
 refine wp_seq (wrl (wv (.bool ((u8.wrap t539.1) == (5:Int))) z z z (wv (.bool ((u8.wrap t539.1) == (5:Int))) z z z (wl_nil (tn ?_)))))
 refine bsplit ((u8.wrap t539.1) == (5:Int)) (fun hc732 => ?_) (fun hc732 => ?_)
 {
 replace hm := bif_t hc732 hm
 refine wp_ift (cvb hc732) ?_
 refine wrl (wv (v537) z z z ?_)
 replace hst := hst.pull1
 obtain ⟨t733, ht734, hm⟩ := bind_some hm
 refine wc call13 [v537, I6 (8:Int)] z z z ?_
 refine (octet_Reader_Num_ref hst.to1 ht734).mono ?_
 rintro _ w735 ⟨rfl, hst⟩
 refine ⟨_, z, ?_⟩
 replace hst := hst.of1
 refine wv (v537) z z z ?_
 obtain ⟨t738, ht739, hm⟩ := bind_some hm
 refine wc call13 [v537, I6 (8:Int)] z z z ?_
 refine (octet_Reader_Num_ref hst.to1 ht739).mono ?_
 rintro _ w740 ⟨rfl, hst⟩
 refine ⟨_, z, ?_⟩
 replace hst := hst.of1
 refine wv (.agg #[U6 t733.1, U6 t738.1]) z z (by kernel_rfl) (wv (Pt b576 21) z z (x_field z underlying50 z sizeOf32 z) ?_)
 replace hst := hst.pull2
 obtain ⟨w743, hr744, hst⟩ := hst.by_ [U1 (u8.wrap t539.1), Zb, Zi, Zi, Zu, Zu, Zu, Zu, .bool false, Zs, Zu, Zu, Zu, Zs, Zu, Zu, Zu, Zs, Zs, Zs, Zs, U6 t733.1, U6 t738.1, Zi, Zu, Zu, Zs, Zs, Zb, Zu, Zu, Zu, Zu, Zi, Zu, Zu, Zu, Zs, Zs, Zs, Zs, Zs, Zi, Zu, Zu, Zs, Zs, Zu, Zs, Zu, Zi, Zi, Zf, Zf, Zu, Zi, .bool false] 21 (.agg #[U6 t733.1, U6 t738.1]) sizeOf32 z (oC z (oC z oN)) (by kernel_rfl)
 refine wl_unit z z (x_unit hr744) ?_
 refine wl_nil (blk_n (tn ?_))
 replace hst := hst.own_nil ty_api_Entry
 replace hst := hst.own_nil (tyInt .u8)
 replace hst := hst.own_nil tyF64
 replace hst := hst.own_nil tyF2
 replace hst := hst.own_nil tyF64
 replace hst := hst.own_nil (tyInt .u8)
 replace hst := hst.own_nil ty_api_Got
 replace hst := hst.own_nil (tySl ty_api_Pair)
 replace hst := hst.own_nil tyF64
 replace hst := hst.own_nil tyF2
 replace hst := hst.own_nil tyF64
 replace hst := hst.own_nil (tyInt .u8)
 replace hst := hst.own_nil ty_api_Write
 replace hst := hst.own_nil ty_api_Got
 replace hst := hst.own_nil (tySl ty_api_Pair)
 replace hst := hst.own_nil ty_api_Part
 replace hst := hst.pull1.pull2.pull3.pull4.pull5.pull6.pull7.pull8.pull9.pull10.pull11.pull12.pull13.pull14.pull15.pull16.pull17.pull18.keep19
 obtain rfl := some_inj hm
 exact ⟨_, t738.2, ({ Kind := (u8.wrap t539.1), M := zero_api_Message, H := zero_api_Hold, ID := ({ Session := t733.1, Seq := t738.1 } : api_ID), R := zero_api_Reply, C := zero_api_Command } : api_Mail), Zs, Zs, Zs, Zs, Zs, Zs, Zs, Zs, Zs, Zs, Zs, Zs, Zs, Zs, Zs, Zs, _, hx801, (fu 0 r0_0 z (fu 2 (Pt b527 0) z (fu 4 v537 z (fu 5 (Pt b576 0) z z)))), hL802, hst⟩
}
 {
 replace hm := bif_f hc732 hm
 refine wp_iff (cvb hc732) ?_
 refine wp_seq (wrl (wv (.agg #[Zb, Zb, Zi, Zi, Zu, Zu, Zu, Zu, .bool false, Zs, Zu, Zu, Zu, Zs, Zu, Zu, Zu, Zs, Zs, Zs, Zs, Zu, Zu, Zi, Zu, Zu, Zs, Zs, Zb, Zu, Zu, Zu, Zu, Zi, Zu, Zu, Zu, Zs, Zs, Zs, Zs, Zs, Zi, Zu, Zu, Zs, Zs, Zu, Zs, Zu, Zi, Zi, Zf, Zf, Zu, Zi, .bool false]) z z (by kernel_rfl) ?_))
 obtain ⟨w761, hr762, hst⟩ := hst.bx [Zb, Zb, Zi, Zi, Zu, Zu, Zu, Zu, .bool false, Zs, Zu, Zu, Zu, Zs, Zu, Zu, Zu, Zs, Zs, Zs, Zs, Zu, Zu, Zi, Zu, Zu, Zs, Zs, Zb, Zu, Zu, Zu, Zu, Zi, Zu, Zu, Zu, Zs, Zs, Zs, Zs, Zs, Zi, Zu, Zu, Zs, Zs, Zu, Zs, Zu, Zi, Zi, Zf, Zf, Zu, Zi, .bool false] sizeOf50 z (oC z (oC z (oC z (oC z (oC z (oC z (oC z (oC z (oC z (oC z (oC z (oC z (oC z (oC z (oC z (oC z (oC z (oC z (oC z (oC z (oC z (oC z (oC z (oC z (oC z (oC z (oC z (oC z (oC z (oC z (oC z (oC z (oC z (oC z (oC z (oC z (oC z (oC z (oC z (oC z (oC z (oC z (oC z (oC z (oC z (oC z (oC z (oC z (oC z (oC z (oC z (oC z (oC z (oC z (oC z (oC z (oC z oN))))))))))))))))))))))))))))))))))))))))))))))))))))))))) (by kernel_rfl)
 refine wl_unit z z (x_unit hr762) ?_
 refine wv (.int .i64 (5:Int)) z z z (wl_nil (tn (wp_ret (blk_r (then_r ?_)))))
 replace hm := inr_up hm hx801
 replace hst := hst.own_nil ty_api_Entry
 replace hst := hst.own_nil (tyInt .u8)
 replace hst := hst.own_nil tyF64
 replace hst := hst.own_nil tyF2
 replace hst := hst.own_nil tyF64
 replace hst := hst.own_nil (tyInt .u8)
 replace hst := hst.own_nil ty_api_Got
 replace hst := hst.own_nil (tySl ty_api_Pair)
 replace hst := hst.own_nil tyF64
 replace hst := hst.own_nil tyF2
 replace hst := hst.own_nil tyF64
 replace hst := hst.own_nil (tyInt .u8)
 replace hst := hst.own_nil ty_api_Write
 replace hst := hst.own_nil ty_api_Got
 replace hst := hst.own_nil (tySl ty_api_Pair)
 replace hst := hst.own_nil ty_api_Part
 obtain rfl := some_inj hm
 refine post_ret (vs := [.agg #[Zb, Zb, Zi, Zi, Zu, Zu, Zu, Zu, .bool false, Zs, Zu, Zu, Zu, Zs, Zu, Zu, Zu, Zs, Zs, Zs, Zs, Zu, Zu, Zi, Zu, Zu, Zs, Zs, Zb, Zu, Zu, Zu, Zu, Zi, Zu, Zu, Zu, Zs, Zs, Zs, Zs, Zs, Zi, Zu, Zu, Zs, Zs, Zu, Zs, Zu, Zi, Zi, Zf, Zf, Zu, Zi, .bool false], I6 (5:Int)]) results7 (rvs_cons (rv_cell (cs := [Zb, Zb, Zi, Zi, Zu, Zu, Zu, Zu, .bool false, Zs, Zu, Zu, Zu, Zs, Zu, Zu, Zu, Zs, Zs, Zs, Zs, Zu, Zu, Zi, Zu, Zu, Zs, Zs, Zb, Zu, Zu, Zu, Zu, Zi, Zu, Zu, Zu, Zs, Zs, Zs, Zs, Zs, Zi, Zu, Zu, Zs, Zs, Zu, Zs, Zu, Zi, Zi, Zf, Zf, Zu, Zi, .bool false]) z isAgg50 sizeOf50 (hst.bcs16 0 z)) (rvs_cons (rv_tmp z) rvs_nil)) ?_
 replace hst := hst.pull1.pull2.pull3.pull4.pull5.pull6.pull7.pull8.pull9.pull10.pull11.pull12.pull13.pull14.pull15
 exact ⟨_, Zs, Zs, Zs, Zs, Zs, Zs, Zs, Zs, Zs, Zs, Zs, Zs, Zs, Zs, Zs, Zs, z, hI0, hst.keep16⟩
}
}
}
}
}
}
}
 {
 clear hst
 rintro _ w803 ⟨I797, z763, z764, v766, v768, v770, v772, v774, v776, v778, v780, v782, v784, v786, v788, v790, v792, v794, v796, σ798, hm, rfl, hL799, hst⟩
 dsimp only [mail_Decode_j0] at hm
 replace f0_0 := f0_0.mono (ro_le hL799)
 replace hI0 := hI0.trans hL799
 refine wp_seq (wp_seq (wrl (wv (v537) z z z ?_)))
 replace hst := hst.pull1
 obtain ⟨t804, ht805, hm⟩ := bind_some hm
 refine wc call19 [v537] z z z ?_
 refine (octet_Reader_End_ref hst.to1 ht805).mono ?_
 rintro _ w806 ⟨rfl, hst⟩
 refine ⟨_, z, ?_⟩
 replace hst := hst.of1
 refine wv (.bool (!t804)) z z z (wv (.bool (!t804)) z z z ?_)
 refine bsplit (!t804) (fun hc809 => ?_) (fun hc809 => ?_)
 {
 replace hm := bif_t hc809 hm
 refine wo hc809 z z z z z z (wo hc809 z z z z z z (wo hc809 z z z z z z (wo hc809 z z z z z z (wo hc809 z z z z z z (wv (.bool true) z z (x_pick_t hc809 z z) (wl_nil (tn ?_)))))))
 refine wp_ift z ?_
 refine wp_seq (wrl (wv (.agg #[Zb, Zb, Zi, Zi, Zu, Zu, Zu, Zu, .bool false, Zs, Zu, Zu, Zu, Zs, Zu, Zu, Zu, Zs, Zs, Zs, Zs, Zu, Zu, Zi, Zu, Zu, Zs, Zs, Zb, Zu, Zu, Zu, Zu, Zi, Zu, Zu, Zu, Zs, Zs, Zs, Zs, Zs, Zi, Zu, Zu, Zs, Zs, Zu, Zs, Zu, Zi, Zi, Zf, Zf, Zu, Zi, .bool false]) z z (by kernel_rfl) ?_))
 replace hst := hst.pull1
 obtain ⟨w826, hr827, hst⟩ := hst.bx [Zb, Zb, Zi, Zi, Zu, Zu, Zu, Zu, .bool false, Zs, Zu, Zu, Zu, Zs, Zu, Zu, Zu, Zs, Zs, Zs, Zs, Zu, Zu, Zi, Zu, Zu, Zs, Zs, Zb, Zu, Zu, Zu, Zu, Zi, Zu, Zu, Zu, Zs, Zs, Zs, Zs, Zs, Zi, Zu, Zu, Zs, Zs, Zu, Zs, Zu, Zi, Zi, Zf, Zf, Zu, Zi, .bool false] sizeOf50 z (oC z (oC z (oC z (oC z (oC z (oC z (oC z (oC z (oC z (oC z (oC z (oC z (oC z (oC z (oC z (oC z (oC z (oC z (oC z (oC z (oC z (oC z (oC z (oC z (oC z (oC z (oC z (oC z (oC z (oC z (oC z (oC z (oC z (oC z (oC z (oC z (oC z (oC z (oC z (oC z (oC z (oC z (oC z (oC z (oC z (oC z (oC z (oC z (oC z (oC z (oC z (oC z (oC z (oC z (oC z (oC z (oC z oN))))))))))))))))))))))))))))))))))))))))))))))))))))))))) (by kernel_rfl)
 refine wl_unit z z (x_unit hr827) ?_
 refine wv (.int .i64 (5:Int)) z z z (wl_nil (tn (wp_ret (then_r ?_))))
 replace hst := hst.own_nil ty_api_Entry
 replace hst := hst.own_nil (tyInt .u8)
 replace hst := hst.own_nil tyF64
 replace hst := hst.own_nil tyF2
 replace hst := hst.own_nil tyF64
 replace hst := hst.own_nil (tyInt .u8)
 replace hst := hst.own_nil ty_api_Got
 replace hst := hst.own_nil (tySl ty_api_Pair)
 replace hst := hst.own_nil tyF64
 replace hst := hst.own_nil tyF2
 replace hst := hst.own_nil tyF64
 replace hst := hst.own_nil (tyInt .u8)
 replace hst := hst.own_nil ty_api_Write
 replace hst := hst.own_nil ty_api_Got
 replace hst := hst.own_nil (tySl ty_api_Pair)
 replace hst := hst.own_nil ty_api_Part
 obtain rfl := some_inj hm
 refine post_ret (vs := [.agg #[Zb, Zb, Zi, Zi, Zu, Zu, Zu, Zu, .bool false, Zs, Zu, Zu, Zu, Zs, Zu, Zu, Zu, Zs, Zs, Zs, Zs, Zu, Zu, Zi, Zu, Zu, Zs, Zs, Zb, Zu, Zu, Zu, Zu, Zi, Zu, Zu, Zu, Zs, Zs, Zs, Zs, Zs, Zi, Zu, Zu, Zs, Zs, Zu, Zs, Zu, Zi, Zi, Zf, Zf, Zu, Zi, .bool false], I6 (5:Int)]) results7 (rvs_cons (rv_cell (cs := [Zb, Zb, Zi, Zi, Zu, Zu, Zu, Zu, .bool false, Zs, Zu, Zu, Zu, Zs, Zu, Zu, Zu, Zs, Zs, Zs, Zs, Zu, Zu, Zi, Zu, Zu, Zs, Zs, Zb, Zu, Zu, Zu, Zu, Zi, Zu, Zu, Zu, Zs, Zs, Zs, Zs, Zs, Zi, Zu, Zu, Zs, Zs, Zu, Zs, Zu, Zi, Zi, Zf, Zf, Zu, Zi, .bool false]) z isAgg50 sizeOf50 (hst.bcs16 0 z)) (rvs_cons (rv_tmp z) rvs_nil)) ?_
 replace hst := hst.pull1.pull2.pull3.pull4.pull5.pull6.pull7.pull8.pull9.pull10.pull11.pull12.pull13.pull14.pull15
 exact ⟨_, Zs, Zs, Zs, Zs, Zs, Zs, Zs, Zs, Zs, Zs, Zs, Zs, Zs, Zs, Zs, Zs, z, hI0, hst.keep16⟩
}
 {
 replace hm := bif_f hc809 hm
 refine wv (.agg #[U1 z764.Kind, U1 z764.M.Kind, I6 z764.M.From, I6 z764.M.To, U6 z764.M.Term, U6 z764.M.Index, U6 z764.M.LogTerm, U6 z764.M.Commit, .bool z764.M.OK, v766, U6 z764.M.S.Index, U6 z764.M.S.Term, U6 z764.M.S.Voters, v768, U6 z764.H.ID.Session, U6 z764.H.ID.Seq, U6 z764.H.Epoch, v770, v772, v774, v776, U6 z764.ID.Session, U6 z764.ID.Seq, I6 z764.R.E, U6 z764.R.Epoch, U6 z764.R.Index, v778, v780, U1 z764.C.Kind, U6 z764.C.ID.Session, U6 z764.C.ID.Seq, U6 z764.C.Epoch, U6 z764.C.Index, I6 z764.C.E, U6 z764.C.Hold.ID.Session, U6 z764.C.Hold.ID.Seq, U6 z764.C.Hold.Epoch, v782, v784, v786, v788, v790, I6 z764.C.R.E, U6 z764.C.R.Epoch, U6 z764.C.R.Index, v792, v794, U6 z764.C.Shards, v796, U6 z764.C.Rule.ID, I6 z764.C.Rule.From, I6 z764.C.Rule.To, F6 z764.C.Rule.Lo, F6 z764.C.Rule.Hi, U6 z764.C.Rule.Authority, I6 z764.C.Rule.Quota, .bool z764.C.On]) ((wanted_eq z z z (cvb hc809)).trans z) z (x_loadN (cs := [U1 z764.Kind, U1 z764.M.Kind, I6 z764.M.From, I6 z764.M.To, U6 z764.M.Term, U6 z764.M.Index, U6 z764.M.LogTerm, U6 z764.M.Commit, .bool z764.M.OK, v766, U6 z764.M.S.Index, U6 z764.M.S.Term, U6 z764.M.S.Voters, v768, U6 z764.H.ID.Session, U6 z764.H.ID.Seq, U6 z764.H.Epoch, v770, v772, v774, v776, U6 z764.ID.Session, U6 z764.ID.Seq, I6 z764.R.E, U6 z764.R.Epoch, U6 z764.R.Index, v778, v780, U1 z764.C.Kind, U6 z764.C.ID.Session, U6 z764.C.ID.Seq, U6 z764.C.Epoch, U6 z764.C.Index, I6 z764.C.E, U6 z764.C.Hold.ID.Session, U6 z764.C.Hold.ID.Seq, U6 z764.C.Hold.Epoch, v782, v784, v786, v788, v790, I6 z764.C.R.E, U6 z764.C.R.Epoch, U6 z764.C.R.Index, v792, v794, U6 z764.C.Shards, v796, U6 z764.C.Rule.ID, I6 z764.C.Rule.From, I6 z764.C.Rule.To, F6 z764.C.Rule.Lo, F6 z764.C.Rule.Hi, U6 z764.C.Rule.Authority, I6 z764.C.Rule.Quota, .bool z764.C.On]) z isAgg50 sizeOf50 (hst.bcs2 0 z)) ?_
 replace hst := hst.pull3
 obtain ⟨css828, hq829, hst⟩ := hst.own_open
 replace hst := hst.pull4
 obtain ⟨css830, hq831, hst⟩ := hst.own_open
 replace hst := hst.pull5
 obtain ⟨css832, hq833, hst⟩ := hst.own_open
 replace hst := hst.pull6
 obtain ⟨css834, hq835, hst⟩ := hst.own_open
 replace hst := hst.pull7
 obtain ⟨css836, hq837, hst⟩ := hst.own_open
 replace hst := hst.pull8
 obtain ⟨css838, hq839, hst⟩ := hst.own_open
 replace hst := hst.pull9
 obtain ⟨css840, hq841, hst⟩ := hst.own_open
 replace hst := hst.pull10
 obtain ⟨css842, hq843, hst⟩ := hst.own_open
 replace hst := hst.pull11
 obtain ⟨css844, hq845, hst⟩ := hst.own_open
 replace hst := hst.pull12
 obtain ⟨css846, hq847, hst⟩ := hst.own_open
 replace hst := hst.pull13
 obtain ⟨css848, hq849, hst⟩ := hst.own_open
 replace hst := hst.pull14
 obtain ⟨css850, hq851, hst⟩ := hst.own_open
 replace hst := hst.pull15
 obtain ⟨css852, hq853, hst⟩ := hst.own_open
 replace hst := hst.pull16
 obtain ⟨css854, hq855, hst⟩ := hst.own_open
 replace hst := hst.pull17
 obtain ⟨css856, hq857, hst⟩ := hst.own_open
 replace hst := hst.pull18
 obtain ⟨css858, hq859, hst⟩ := hst.own_open
 obtain ⟨t860, ht861, hm⟩ := bind_some hm
 refine wl_call ((wanted_eq z z z (cvb hc809)).trans z) z (x_call call8 z (vs := [.agg #[U1 z764.Kind, U1 z764.M.Kind, I6 z764.M.From, I6 z764.M.To, U6 z764.M.Term, U6 z764.M.Index, U6 z764.M.LogTerm, U6 z764.M.Commit, .bool z764.M.OK, v766, U6 z764.M.S.Index, U6 z764.M.S.Term, U6 z764.M.S.Voters, v768, U6 z764.H.ID.Session, U6 z764.H.ID.Seq, U6 z764.H.Epoch, v770, v772, v774, v776, U6 z764.ID.Session, U6 z764.ID.Seq, I6 z764.R.E, U6 z764.R.Epoch, U6 z764.R.Index, v778, v780, U1 z764.C.Kind, U6 z764.C.ID.Session, U6 z764.C.ID.Seq, U6 z764.C.Epoch, U6 z764.C.Index, I6 z764.C.E, U6 z764.C.Hold.ID.Session, U6 z764.C.Hold.ID.Seq, U6 z764.C.Hold.Epoch, v782, v784, v786, v788, v790, I6 z764.C.R.E, U6 z764.C.R.Epoch, U6 z764.C.R.Index, v792, v794, U6 z764.C.Shards, v796, U6 z764.C.Rule.ID, I6 z764.C.Rule.From, I6 z764.C.Rule.To, F6 z764.C.Rule.Lo, F6 z764.C.Rule.Hi, U6 z764.C.Rule.Authority, I6 z764.C.Rule.Quota, .bool z764.C.On]]) z) ?_
 refine (mail_Encode_ref (hst.rdrow15 hq829) (hst.rdrow14 hq831) (hst.rdrow13 hq833) (hst.rdrow12 hq835) (hst.rdrow11 hq837) (hst.rdrow10 hq839) (hst.rdrow9 hq841) (hst.rdrow8 hq843) (hst.rdrow7 hq845) (hst.rdrow6 hq847) (hst.rdrow5 hq849) (hst.rdrow4 hq851) (hst.rdrow3 hq853) (hst.rdrow2 hq855) (hst.rdrow1 hq857) (hst.rdrow0 hq859) hst.to0 ht861).mono ?_
 rintro _ w862 ⟨v865, rfl, hst⟩
 refine ⟨_, z, ?_⟩
 replace hst := hst.of1.pull16.own_close hq829
 replace hst := hst.pull16.own_close hq831
 replace hst := hst.pull16.own_close hq833
 replace hst := hst.pull16.own_close hq835
 replace hst := hst.pull16.own_close hq837
 replace hst := hst.pull16.own_close hq839
 replace hst := hst.pull16.own_close hq841
 replace hst := hst.pull16.own_close hq843
 replace hst := hst.pull16.own_close hq845
 replace hst := hst.pull16.own_close hq847
 replace hst := hst.pull16.own_close hq849
 replace hst := hst.pull16.own_close hq851
 replace hst := hst.pull16.own_close hq853
 replace hst := hst.pull16.own_close hq855
 replace hst := hst.pull16.own_close hq857
 replace hst := hst.pull16.own_close hq859
 refine wv (r0_0) ((wanted_eq z z z (cvb hc809)).trans z) z z ?_
 replace hst := hst.pull16
 obtain ⟨css867, hq868, hst⟩ := hst.own_open
 obtain ⟨t869, ht870, hm⟩ := bind_some hm
 refine wl_call ((wanted_eq z z z (cvb hc809)).trans z) z (x_call call20 z (vs := [v865, r0_0]) z) ?_
 refine (slices_Equal_byte_byte_ref (hst.rdrow0 hq868) (f0_0.mono ro_rd) hst.to0 ht870).mono ?_
 rintro _ w871 ⟨rfl, hst⟩
 refine ⟨_, z, ?_⟩
 replace hst := hst.of0.own_close hq868
 refine wv (.bool (!t869)) ((wanted_eq z z z (cvb hc809)).trans z) z z (wv (.bool (!t869)) z z (x_pick_f hc809 z z) (wl_nil (tn ?_)))
 refine bsplit (!t869) (fun hc874 => ?_) (fun hc874 => ?_)
 {
 replace hm := bif_t hc874 hm
 refine wp_ift (cvb hc874) ?_
 refine wp_seq (wrl (wv (.agg #[Zb, Zb, Zi, Zi, Zu, Zu, Zu, Zu, .bool false, Zs, Zu, Zu, Zu, Zs, Zu, Zu, Zu, Zs, Zs, Zs, Zs, Zu, Zu, Zi, Zu, Zu, Zs, Zs, Zb, Zu, Zu, Zu, Zu, Zi, Zu, Zu, Zu, Zs, Zs, Zs, Zs, Zs, Zi, Zu, Zu, Zs, Zs, Zu, Zs, Zu, Zi, Zi, Zf, Zf, Zu, Zi, .bool false]) z z (by kernel_rfl) ?_))
 replace hst := hst.pull18
 obtain ⟨w891, hr892, hst⟩ := hst.bx [Zb, Zb, Zi, Zi, Zu, Zu, Zu, Zu, .bool false, Zs, Zu, Zu, Zu, Zs, Zu, Zu, Zu, Zs, Zs, Zs, Zs, Zu, Zu, Zi, Zu, Zu, Zs, Zs, Zb, Zu, Zu, Zu, Zu, Zi, Zu, Zu, Zu, Zs, Zs, Zs, Zs, Zs, Zi, Zu, Zu, Zs, Zs, Zu, Zs, Zu, Zi, Zi, Zf, Zf, Zu, Zi, .bool false] sizeOf50 z (oC z (oC z (oC z (oC z (oC z (oC z (oC z (oC z (oC z (oC z (oC z (oC z (oC z (oC z (oC z (oC z (oC z (oC z (oC z (oC z (oC z (oC z (oC z (oC z (oC z (oC z (oC z (oC z (oC z (oC z (oC z (oC z (oC z (oC z (oC z (oC z (oC z (oC z (oC z (oC z (oC z (oC z (oC z (oC z (oC z (oC z (oC z (oC z (oC z (oC z (oC z (oC z (oC z (oC z (oC z (oC z (oC z oN))))))))))))))))))))))))))))))))))))))))))))))))))))))))) (by kernel_rfl)
 refine wl_unit z z (x_unit hr892) ?_
 refine wv (.int .i64 (5:Int)) z z z (wl_nil (tn (wp_ret (then_r ?_))))
 replace hst := hst.own_nil ty_api_Entry
 replace hst := hst.own_nil (tyInt .u8)
 replace hst := hst.own_nil tyF64
 replace hst := hst.own_nil tyF2
 replace hst := hst.own_nil tyF64
 replace hst := hst.own_nil (tyInt .u8)
 replace hst := hst.own_nil ty_api_Got
 replace hst := hst.own_nil (tySl ty_api_Pair)
 replace hst := hst.own_nil tyF64
 replace hst := hst.own_nil tyF2
 replace hst := hst.own_nil tyF64
 replace hst := hst.own_nil (tyInt .u8)
 replace hst := hst.own_nil ty_api_Write
 replace hst := hst.own_nil ty_api_Got
 replace hst := hst.own_nil (tySl ty_api_Pair)
 replace hst := hst.own_nil ty_api_Part
 obtain rfl := some_inj hm
 refine post_ret (vs := [.agg #[Zb, Zb, Zi, Zi, Zu, Zu, Zu, Zu, .bool false, Zs, Zu, Zu, Zu, Zs, Zu, Zu, Zu, Zs, Zs, Zs, Zs, Zu, Zu, Zi, Zu, Zu, Zs, Zs, Zb, Zu, Zu, Zu, Zu, Zi, Zu, Zu, Zu, Zs, Zs, Zs, Zs, Zs, Zi, Zu, Zu, Zs, Zs, Zu, Zs, Zu, Zi, Zi, Zf, Zf, Zu, Zi, .bool false], I6 (5:Int)]) results7 (rvs_cons (rv_cell (cs := [Zb, Zb, Zi, Zi, Zu, Zu, Zu, Zu, .bool false, Zs, Zu, Zu, Zu, Zs, Zu, Zu, Zu, Zs, Zs, Zs, Zs, Zu, Zu, Zi, Zu, Zu, Zs, Zs, Zb, Zu, Zu, Zu, Zu, Zi, Zu, Zu, Zu, Zs, Zs, Zs, Zs, Zs, Zi, Zu, Zu, Zs, Zs, Zu, Zs, Zu, Zi, Zi, Zf, Zf, Zu, Zi, .bool false]) z isAgg50 sizeOf50 (hst.bcs16 0 z)) (rvs_cons (rv_tmp z) rvs_nil)) ?_
 replace hst := hst.pull1.pull2.pull3.pull4.pull5.pull6.pull7.pull8.pull9.pull10.pull11.pull12.pull13.pull14.pull15
 exact ⟨_, Zs, Zs, Zs, Zs, Zs, Zs, Zs, Zs, Zs, Zs, Zs, Zs, Zs, Zs, Zs, Zs, z, hI0, hst.keep16⟩
}
 {
 replace hm := bif_f hc874 hm
 refine wp_iff (cvb hc874) ?_
 refine wp_skip (tn (wp_seq (wrl ?_)))
 refine wv (.agg #[U1 z764.Kind, U1 z764.M.Kind, I6 z764.M.From, I6 z764.M.To, U6 z764.M.Term, U6 z764.M.Index, U6 z764.M.LogTerm, U6 z764.M.Commit, .bool z764.M.OK, v766, U6 z764.M.S.Index, U6 z764.M.S.Term, U6 z764.M.S.Voters, v768, U6 z764.H.ID.Session, U6 z764.H.ID.Seq, U6 z764.H.Epoch, v770, v772, v774, v776, U6 z764.ID.Session, U6 z764.ID.Seq, I6 z764.R.E, U6 z764.R.Epoch, U6 z764.R.Index, v778, v780, U1 z764.C.Kind, U6 z764.C.ID.Session, U6 z764.C.ID.Seq, U6 z764.C.Epoch, U6 z764.C.Index, I6 z764.C.E, U6 z764.C.Hold.ID.Session, U6 z764.C.Hold.ID.Seq, U6 z764.C.Hold.Epoch, v782, v784, v786, v788, v790, I6 z764.C.R.E, U6 z764.C.R.Epoch, U6 z764.C.R.Index, v792, v794, U6 z764.C.Shards, v796, U6 z764.C.Rule.ID, I6 z764.C.Rule.From, I6 z764.C.Rule.To, F6 z764.C.Rule.Lo, F6 z764.C.Rule.Hi, U6 z764.C.Rule.Authority, I6 z764.C.Rule.Quota, .bool z764.C.On]) z z (x_loadN (cs := [U1 z764.Kind, U1 z764.M.Kind, I6 z764.M.From, I6 z764.M.To, U6 z764.M.Term, U6 z764.M.Index, U6 z764.M.LogTerm, U6 z764.M.Commit, .bool z764.M.OK, v766, U6 z764.M.S.Index, U6 z764.M.S.Term, U6 z764.M.S.Voters, v768, U6 z764.H.ID.Session, U6 z764.H.ID.Seq, U6 z764.H.Epoch, v770, v772, v774, v776, U6 z764.ID.Session, U6 z764.ID.Seq, I6 z764.R.E, U6 z764.R.Epoch, U6 z764.R.Index, v778, v780, U1 z764.C.Kind, U6 z764.C.ID.Session, U6 z764.C.ID.Seq, U6 z764.C.Epoch, U6 z764.C.Index, I6 z764.C.E, U6 z764.C.Hold.ID.Session, U6 z764.C.Hold.ID.Seq, U6 z764.C.Hold.Epoch, v782, v784, v786, v788, v790, I6 z764.C.R.E, U6 z764.C.R.Epoch, U6 z764.C.R.Index, v792, v794, U6 z764.C.Shards, v796, U6 z764.C.Rule.ID, I6 z764.C.Rule.From, I6 z764.C.Rule.To, F6 z764.C.Rule.Lo, F6 z764.C.Rule.Hi, U6 z764.C.Rule.Authority, I6 z764.C.Rule.Quota, .bool z764.C.On]) z isAgg50 sizeOf50 (hst.bcs19 0 z)) ?_
 replace hst := hst.pull18
 obtain ⟨w893, hr894, hst⟩ := hst.bx [U1 z764.Kind, U1 z764.M.Kind, I6 z764.M.From, I6 z764.M.To, U6 z764.M.Term, U6 z764.M.Index, U6 z764.M.LogTerm, U6 z764.M.Commit, .bool z764.M.OK, v766, U6 z764.M.S.Index, U6 z764.M.S.Term, U6 z764.M.S.Voters, v768, U6 z764.H.ID.Session, U6 z764.H.ID.Seq, U6 z764.H.Epoch, v770, v772, v774, v776, U6 z764.ID.Session, U6 z764.ID.Seq, I6 z764.R.E, U6 z764.R.Epoch, U6 z764.R.Index, v778, v780, U1 z764.C.Kind, U6 z764.C.ID.Session, U6 z764.C.ID.Seq, U6 z764.C.Epoch, U6 z764.C.Index, I6 z764.C.E, U6 z764.C.Hold.ID.Session, U6 z764.C.Hold.ID.Seq, U6 z764.C.Hold.Epoch, v782, v784, v786, v788, v790, I6 z764.C.R.E, U6 z764.C.R.Epoch, U6 z764.C.R.Index, v792, v794, U6 z764.C.Shards, v796, U6 z764.C.Rule.ID, I6 z764.C.Rule.From, I6 z764.C.Rule.To, F6 z764.C.Rule.Lo, F6 z764.C.Rule.Hi, U6 z764.C.Rule.Authority, I6 z764.C.Rule.Quota, .bool z764.C.On] sizeOf50 z (oC z (oC z (oC z (oC z (oC z (oC z (oC z (oC z (oC z (oC (one_of_sliceV hst.sv17) (oC z (oC z (oC z (oC (one_of_sliceV hst.sv16) (oC z (oC z (oC z (oC (one_of_sliceV hst.sv15) (oC (one_of_sliceV hst.sv14) (oC (one_of_sliceV hst.sv13) (oC (one_of_sliceV hst.sv12) (oC z (oC z (oC z (oC z (oC z (oC (one_of_sliceV hst.sv11) (oC (one_of_sliceV hst.sv10) (oC z (oC z (oC z (oC z (oC z (oC z (oC z (oC z (oC z (oC (one_of_sliceV hst.sv9) (oC (one_of_sliceV hst.sv8) (oC (one_of_sliceV hst.sv7) (oC (one_of_sliceV hst.sv6) (oC (one_of_sliceV hst.sv5) (oC z (oC z (oC z (oC (one_of_sliceV hst.sv4) (oC (one_of_sliceV hst.sv3) (oC z (oC (one_of_sliceV hst.sv2) (oC z (oC z (oC z (oC z (oC z (oC z (oC z (oC z oN))))))))))))))))))))))))))))))))))))))))))))))))))))))))) (by kernel_rfl)
 refine wl_unit z z (x_unit hr894) ?_
 refine wv (.int .i64 (0:Int)) z z z (wl_nil (tn (wp_ret ?_)))
 obtain rfl := some_inj hm
 refine post_ret (vs := [.agg #[U1 z764.Kind, U1 z764.M.Kind, I6 z764.M.From, I6 z764.M.To, U6 z764.M.Term, U6 z764.M.Index, U6 z764.M.LogTerm, U6 z764.M.Commit, .bool z764.M.OK, v766, U6 z764.M.S.Index, U6 z764.M.S.Term, U6 z764.M.S.Voters, v768, U6 z764.H.ID.Session, U6 z764.H.ID.Seq, U6 z764.H.Epoch, v770, v772, v774, v776, U6 z764.ID.Session, U6 z764.ID.Seq, I6 z764.R.E, U6 z764.R.Epoch, U6 z764.R.Index, v778, v780, U1 z764.C.Kind, U6 z764.C.ID.Session, U6 z764.C.ID.Seq, U6 z764.C.Epoch, U6 z764.C.Index, I6 z764.C.E, U6 z764.C.Hold.ID.Session, U6 z764.C.Hold.ID.Seq, U6 z764.C.Hold.Epoch, v782, v784, v786, v788, v790, I6 z764.C.R.E, U6 z764.C.R.Epoch, U6 z764.C.R.Index, v792, v794, U6 z764.C.Shards, v796, U6 z764.C.Rule.ID, I6 z764.C.Rule.From, I6 z764.C.Rule.To, F6 z764.C.Rule.Lo, F6 z764.C.Rule.Hi, U6 z764.C.Rule.Authority, I6 z764.C.Rule.Quota, .bool z764.C.On], Zi]) results7 (rvs_cons (rv_cell (cs := [U1 z764.Kind, U1 z764.M.Kind, I6 z764.M.From, I6 z764.M.To, U6 z764.M.Term, U6 z764.M.Index, U6 z764.M.LogTerm, U6 z764.M.Commit, .bool z764.M.OK, v766, U6 z764.M.S.Index, U6 z764.M.S.Term, U6 z764.M.S.Voters, v768, U6 z764.H.ID.Session, U6 z764.H.ID.Seq, U6 z764.H.Epoch, v770, v772, v774, v776, U6 z764.ID.Session, U6 z764.ID.Seq, I6 z764.R.E, U6 z764.R.Epoch, U6 z764.R.Index, v778, v780, U1 z764.C.Kind, U6 z764.C.ID.Session, U6 z764.C.ID.Seq, U6 z764.C.Epoch, U6 z764.C.Index, I6 z764.C.E, U6 z764.C.Hold.ID.Session, U6 z764.C.Hold.ID.Seq, U6 z764.C.Hold.Epoch, v782, v784, v786, v788, v790, I6 z764.C.R.E, U6 z764.C.R.Epoch, U6 z764.C.R.Index, v792, v794, U6 z764.C.Shards, v796, U6 z764.C.Rule.ID, I6 z764.C.Rule.From, I6 z764.C.Rule.To, F6 z764.C.Rule.Lo, F6 z764.C.Rule.Hi, U6 z764.C.Rule.Authority, I6 z764.C.Rule.Quota, .bool z764.C.On]) z isAgg50 sizeOf50 (hst.bcs0 0 z)) (rvs_cons (rv_tmp z) rvs_nil)) ?_
 replace hst := hst.pull2.pull3.pull4.pull5.pull6.pull7.pull8.pull9.pull10.pull11.pull12.pull13.pull14.pull15.pull16.pull17
 exact ⟨_, v766, v768, v770, v772, v774, v776, v778, v780, v782, v784, v786, v788, v790, v792, v794, v796, z, hI0, hst.keep16⟩
}
}
}
}

theorem ref02_Num_ref {w0 w : World} {I : HL} {R : SP} {a0 : (List Int)} {r0_0 : Value} {a1 : Int} {a2 : Int} (f0_0 : Rd (tyInt .u8) R I r0_0 a0) (hst : St w0 w I [] R) {r : ((List Int))} (hm : ref02_Num a0 a1 a2 = some r) :
  Calls prog 34 #[r0_0, U6 a1, I6 a2] w fun e w' => ∃ (q0_0 : Value), e = .returned (q0_0) ∧ St w0 w' I [ownS (tyInt .u8) q0_0 r] R := by {
 unfold ref02_Num at hm
 refine calls_start (args := [r0_0, U6 a1, I6 a2]) func34 z ntmps34 (Nat.le_of_ble_eq_true z) ?_
 refine wp_seq (wrl (wv ((.slice none 0 0)) z z z (wl_nil (tn (wp_seq (wrl (wv ((.slice none 0 0)) z z z (wl_nil (tn (wp_seq (wrl (wv ((.slice none 0 0)) z z z (wv (r0_0) z z z ?_)))))))))))))
 replace hst := hst.own_nil (tyInt .u8)
 obtain ⟨hg268, hm⟩ := gd_some hm
 obtain ⟨v269, w270, hr271, hst⟩ := run_append elem_22 underlying22 hst (Src.of_rd hst f0_0 flat_int) (room_of hg268 z) 22
 replace hst := St.nil_app hst
 refine wl_run (v := v269) (w' := w270) z z (x_append z z hr271) ?_
 refine wv (v269) z z z (wl_nil (tn (wp_seq (wp_seq (wrl (wv (.int .i64 (0:Int)) z z z (wl_nil (tn (wp_block ?_)))))))))
 obtain ⟨n303, hm⟩ := loopO_some hm
 refine wp_loop_n (fun n a w => ∃ (z297 : Int) (z298 : (List Int)) (z301 : Int) (v299 : Value) (σ302 : Nat → Value), loopN (ref02_Num_l0 a2) n (z297, z298, z301) = some r ∧ a = Fr 26 (upd (upd (upd (upd σ302 1 (.int .u64 z297)) 2 (.int .i64 a2)) 7 (v299)) 8 (.int .i64 z301)) ∧ St w0 w I [ownS (tyInt .u8) v299 z298] R) n303 ⟨a1, a0, (0:Int), v269, _, hm, (fu 1 (.int .u64 a1) z (fu 2 (.int .i64 a2) z (fu 7 v269 z (fu 8 (.int .i64 (0:Int)) z z)))), hst⟩ ?_
 rintro n309 _ w304 ⟨z297, z298, z301, v299, σ302, hm, rfl, hst⟩
 obtain ⟨n306, y307, rfl, hm, hx308⟩ := loopN_some hm
 dsimp only [ref02_Num_l0] at hm
 refine wp_seq (wp_seq (wrl (wv (.int .i64 z301) z z z (wv (.int .i64 a2) z z z (wv (.bool (decide (z301 < a2))) z z z (wl_nil (tn ?_)))))))
 refine bsplit (decide (z301 < a2)) (fun hc310 => ?_) (fun hc310 => ?_)
 {
 replace hm := bif_t hc310 hm
 refine wp_ift (cvb hc310) ?_
 refine wp_skip (tn (wp_seq (wp_block (wp_seq (wrl ?_)))))
 refine wv (v299) z z z (wv (.int .u64 z297) z z z (wv (.int .u64 (bAnd .u64 z297 (255:Int))) z z z (wv (.int .u8 (u8.wrap (bAnd .u64 z297 (255:Int)))) z z (by kernel_rfl) ?_)))
 obtain ⟨b311, w312, ew313, eb314, hst⟩ := hst.lits (E := (tyInt .u8)) (xs := [(u8.wrap (bAnd .u64 z297 (255:Int)))]) [[U1 (u8.wrap (bAnd .u64 z297 (255:Int)))]] 5 1 z (Reps.cons z Reps.nil)
 refine wl_run (v := (.slice (some ⟨b311, 0, none⟩) 1 1)) (w' := w312) z z (x_als (by kernel_rfl) ew313 eb314) ?_
 obtain ⟨hg316, hm⟩ := gd_some hm
 replace hst := hst.pull1
 obtain ⟨v317, w318, hr319, hst⟩ := run_append elem_22 underlying22 hst hst.src1 (room_of hg316 z) 22
 refine wl_run (v := v317) (w' := w318) z z (x_append z z hr319) ?_
 refine wv (v317) z z z (wl_nil (tn (wrl (wv (.int .u64 z297) z z z (wv (.int .u64 (iShr .u64 z297 (8:Int))) z z (x_shr (by decide) z z) (wv (.int .u64 (iShr .u64 z297 (8:Int))) z z z (wl_nil (blk_n (tn (wrl (wv (.int .i64 z301) z z z (wv (.int .i64 (i64.wrap (z301 + (1:Int)))) z z z (wv (.int .i64 (i64.wrap (z301 + (1:Int)))) z z z (wl_nil (tn ?_)))))))))))))))
 replace hst := hst.keep1
 obtain rfl := some_inj hm
 exact ⟨_, Nat.lt_succ_self _, (iShr .u64 z297 (8:Int)), (z298 ++ ([(u8.wrap (bAnd .u64 z297 (255:Int)))])), (i64.wrap (z301 + (1:Int))), v317, _, hx308, (fu 1 (.int .u64 (iShr .u64 z297 (8:Int))) z (fu 2 (.int .i64 a2) z (fu 7 v317 z (fu 8 (.int .i64 (i64.wrap (z301 + (1:Int)))) z z)))), hst⟩
}
 {
 replace hm := bif_f hc310 hm
 refine wp_iff (cvb hc310) ?_
 refine wp_exit (then_x (then_x ?_))
 replace hm := inr_up hm hx308
 refine blk_x (tn (wp_seq (wrl ?_)))
 refine wv (v299) z z z (wv (v299) z z z (wl_nil (tn (wp_ret ?_))))
 obtain rfl := some_inj hm
 refine post_ret (vs := [v299]) results34 (rvs_cons (rv_tmp z) rvs_nil) ?_
 exact ⟨v299, z, hst.keep1⟩
}
}

theorem ref02_Flag_ref {w0 w : World} {I : HL} {R : SP} {a0 : (List Int)} {r0_0 : Value} {a1 : Bool} (f0_0 : Rd (tyInt .u8) R I r0_0 a0) (hst : St w0 w I [] R) {r : ((List Int))} (hm : ref02_Flag a0 a1 = some r) :
  Calls prog 60 #[r0_0, .bool a1] w fun e w' => ∃ (q0_0 : Value), e = .returned (q0_0) ∧ St w0 w' I [ownS (tyInt .u8) q0_0 r] R := by {
 unfold ref02_Flag at hm
 refine calls_start (args := [r0_0, .bool a1]) func60 z ntmps60 (Nat.le_of_ble_eq_true z) ?_
 refine wp_seq (wrl (wv ((.slice none 0 0)) z z z (wl_nil (tn (wp_seq (wp_seq (wrl (wv (.bool a1) z z z (wl_nil (tn ?_))))))))))
 refine bsplit a1 (fun hc309 => ?_) (fun hc309 => ?_)
 {
 replace hm := bif_t hc309 hm
 refine wp_ift (cvb hc309) ?_
 refine wp_seq (wrl (wv (r0_0) z z z ?_))
 obtain ⟨t310, ht311, hm⟩ := bind_some hm
 refine wc call34 [r0_0, U6 (1:Int), I6 (1:Int)] z z z ?_
 refine (ref02_Num_ref (f0_0.mono (rd_weak _)) hst.to0 ht311).mono ?_
 rintro _ w312 ⟨v315, rfl, hst⟩
 refine ⟨_, z, ?_⟩
 replace hst := hst.of1
 refine wv (v315) z z z (wl_nil (tn (wp_ret (then_r ?_))))
 obtain rfl := some_inj hm
 refine post_ret (vs := [v315]) results60 (rvs_cons (rv_tmp z) rvs_nil) ?_
 exact ⟨v315, z, hst.keep1⟩
}
 {
 replace hm := bif_f hc309 hm
 refine wp_iff (cvb hc309) ?_
 refine wp_skip (tn (wp_seq (wrl ?_)))
 refine wv (r0_0) z z z ?_
 obtain ⟨t317, ht318, hm⟩ := bind_some hm
 refine wc call34 [r0_0, Zu, I6 (1:Int)] z z z ?_
 refine (ref02_Num_ref (f0_0.mono (rd_weak _)) hst.to0 ht318).mono ?_
 rintro _ w319 ⟨v322, rfl, hst⟩
 refine ⟨_, z, ?_⟩
 replace hst := hst.of1
 refine wv (v322) z z z (wl_nil (tn (wp_ret ?_)))
 obtain rfl := some_inj hm
 refine post_ret (vs := [v322]) results60 (rvs_cons (rv_tmp z) rvs_nil) ?_
 exact ⟨v322, z, hst.keep1⟩
}
}

end Go.Proofs.Ytldfdainhdiffaa
