/- The Go functions refine their models, part 2. -/
import Derived.Test.YtldfdainhdiffaaMailJunkR1
set_option linter.unusedVariables false
set_option linter.unusedSimpArgs false
set_option maxRecDepth 100000
set_option maxHeartbeats 4000000
namespace Go.Proofs.Ytldfdainhdiffaa
open Go Go.V
attribute [local irreducible] wpList Code.wp wpQuiet Calls bodyPost Oper.wp wpS Nx PendOK YieldsIn
theorem command_Decode_ref {w0 w : World} {I : HL} {R : SP} {a0 : (List Int)} {r0_0 : Value} (f0_0 : Ro (tyInt .u8) I r0_0 a0) (hst : St w0 w I [] R) {r : (api_Command × Int)} (hm : command_Decode a0 = some r) :
  Calls Try.prog 17 #[r0_0] w fun e w' => ∃ (I' : HL) (q0_0 : Value) (q0_1 : Value) (q0_2 : Value) (q0_3 : Value) (q0_4 : Value) (q0_5 : Value) (q0_6 : Value) (q0_7 : Value), e = .returned (.tuple #[.agg #[.int .u8 r.1.Kind, .int .u64 r.1.ID.Session, .int .u64 r.1.ID.Seq, .int .u64 r.1.Epoch, .int .u64 r.1.Index, .int .i64 r.1.E, .int .u64 r.1.Hold.ID.Session, .int .u64 r.1.Hold.ID.Seq, .int .u64 r.1.Hold.Epoch, q0_0, q0_1, q0_2, q0_3, q0_4, .int .i64 r.1.R.E, .int .u64 r.1.R.Epoch, .int .u64 r.1.R.Index, q0_5, q0_6, .int .u64 r.1.Shards, q0_7, .int .u64 r.1.Rule.ID, .int .i64 r.1.Rule.From, .int .i64 r.1.Rule.To, .float .f64 r.1.Rule.Lo, .float .f64 r.1.Rule.Hi, .int .u64 r.1.Rule.Authority, .int .i64 r.1.Rule.Quota, .bool r.1.On], .int .i64 r.2]) ∧ I.le I' ∧ St w0 w' I' [ownS tyF64 q0_0 r.1.Hold.Gets, ownS tyF2 q0_1 r.1.Hold.Scans, ownS tyF64 q0_2 r.1.Hold.Puts, ownS (tyInt .u8) q0_3 r.1.Hold.Data, ownS ty_api_Write q0_4 r.1.Writes, ownS ty_api_Got q0_5 r.1.R.Gots, ownS (tySl ty_api_Pair) q0_6 r.1.R.Scans, ownS ty_api_Part q0_7 r.1.Parts] R := by
 unfold command_Decode at hm
 refine calls_start (args := [r0_0]) Try.func17 rfl Try.ntmps17 (Nat.le_of_ble_eq_true rfl) ?_
 have hI0 := HL.le.refl I
 refine wp_seq (wp_region_lit ?_)
 obtain ⟨b691, w692, ew693, eb694, hst⟩ := hst.box [.int .u8 (0:Int), .int .u64 (0:Int), .int .u64 (0:Int), .int .u64 (0:Int), .int .u64 (0:Int), .int .i64 (0:Int), .int .u64 (0:Int), .int .u64 (0:Int), .int .u64 (0:Int), (.slice none 0 0), (.slice none 0 0), (.slice none 0 0), (.slice none 0 0), (.slice none 0 0), .int .i64 (0:Int), .int .u64 (0:Int), .int .u64 (0:Int), (.slice none 0 0), (.slice none 0 0), .int .u64 (0:Int), (.slice none 0 0), .int .u64 (0:Int), .int .i64 (0:Int), .int .i64 (0:Int), .float .f64 (0:Nat), .float .f64 (0:Nat), .int .u64 (0:Int), .int .i64 (0:Int), .bool false] 48
 refine wl_run (v := .pointer (some ⟨b691, 0, none⟩)) (w' := w692) rfl rfl (x_al (by kernel_rfl) ew693 eb694) ?_
 refine wv (.int .i64 (0:Int)) rfl rfl rfl ?_
 refine wl_nil (then_n (wp_seq (wp_region_lit ?_)))
 refine wv (r0_0) rfl rfl rfl ?_
 obtain ⟨t696, ht697, hm⟩ := bind_some hm
 refine wl_call rfl rfl (x_call Try.call12 rfl (vs := [r0_0]) rfl) ?_
 refine (octet_Read_ref f0_0 hst.to0 ht697).mono ?_
 rintro _ w698 ⟨v701, rfl, hst⟩
 refine ⟨_, rfl, ?_⟩
 replace hst := hst.of1
 obtain ⟨b703, w704, ew705, eb706, hst⟩ := hst.box [.pointer none] 62
 refine wl_run (v := .pointer (some ⟨b703, 0, none⟩)) (w' := w704) rfl rfl (x_al (by kernel_rfl) ew705 eb706) ?_
 replace hst := hst.pull1
 obtain ⟨b708, v709, ⟨rfl, f711⟩, hst'⟩ := at_octet_Reader_open hst
 clear hst
 have hst := hst'
 clear hst'
 replace hst := hst.pull1
 obtain ⟨w712, hr713, hst⟩ := hst.boxStore (P := Try.prog) (t := 62) (cs' := [.pointer (some ⟨b708, 0, none⟩)]) 0 (.pointer (some ⟨b708, 0, none⟩)) Try.sizeOf62 (Nat.le_of_ble_eq_true rfl) (ones_cons rfl ones_nil) (by kernel_rfl)
 refine wl_unit rfl rfl (x_unit hr713) ?_
 refine wl_nil (then_n (wp_seq (wp_region_lit ?_)))
 refine wv (.pointer (some ⟨b708, 0, none⟩)) rfl rfl (x_load rfl Try.isAgg62 (hst.bc0 rfl)) ?_
 replace hst := hst.pull1
 replace hst := at_octet_Reader_close (pv := .pointer (some ⟨b708, 0, none⟩)) (x := t696) hst ⟨rfl, f711⟩
 obtain ⟨t714, ht715, hm⟩ := bind_some hm
 refine wl_call rfl rfl (x_call Try.call13 rfl (vs := [.pointer (some ⟨b708, 0, none⟩), .int .i64 (1:Int)]) rfl) ?_
 refine (octet_Reader_Num_ref hst.to1 ht715).mono ?_
 rintro _ w716 ⟨rfl, hst⟩
 refine ⟨_, rfl, ?_⟩
 replace hst := hst.of1
 refine wv (.int .u8 (IntKind.u8.wrap t714.1)) rfl rfl (by kernel_rfl) ?_
 refine wv (.agg #[.int .u8 (IntKind.u8.wrap t714.1), .int .u64 (0:Int), .int .u64 (0:Int), .int .u64 (0:Int), .int .u64 (0:Int), .int .i64 (0:Int), .int .u64 (0:Int), .int .u64 (0:Int), .int .u64 (0:Int), (.slice none 0 0), (.slice none 0 0), (.slice none 0 0), (.slice none 0 0), (.slice none 0 0), .int .i64 (0:Int), .int .u64 (0:Int), .int .u64 (0:Int), (.slice none 0 0), (.slice none 0 0), .int .u64 (0:Int), (.slice none 0 0), .int .u64 (0:Int), .int .i64 (0:Int), .int .i64 (0:Int), .float .f64 (0:Nat), .float .f64 (0:Nat), .int .u64 (0:Int), .int .i64 (0:Int), .bool false]) rfl rfl (by kernel_rfl) ?_
 obtain ⟨b735, w736, ew737, eb738, hst⟩ := hst.box [.int .u8 (0:Int), .int .u64 (0:Int), .int .u64 (0:Int), .int .u64 (0:Int), .int .u64 (0:Int), .int .i64 (0:Int), .int .u64 (0:Int), .int .u64 (0:Int), .int .u64 (0:Int), (.slice none 0 0), (.slice none 0 0), (.slice none 0 0), (.slice none 0 0), (.slice none 0 0), .int .i64 (0:Int), .int .u64 (0:Int), .int .u64 (0:Int), (.slice none 0 0), (.slice none 0 0), .int .u64 (0:Int), (.slice none 0 0), .int .u64 (0:Int), .int .i64 (0:Int), .int .i64 (0:Int), .float .f64 (0:Nat), .float .f64 (0:Nat), .int .u64 (0:Int), .int .i64 (0:Int), .bool false] 48
 refine wl_run (v := .pointer (some ⟨b735, 0, none⟩)) (w' := w736) rfl rfl (x_al (by kernel_rfl) ew737 eb738) ?_
 obtain ⟨w740, hr741, hst⟩ := hst.boxStore (P := Try.prog) (t := 48) (cs' := [.int .u8 (IntKind.u8.wrap t714.1), .int .u64 (0:Int), .int .u64 (0:Int), .int .u64 (0:Int), .int .u64 (0:Int), .int .i64 (0:Int), .int .u64 (0:Int), .int .u64 (0:Int), .int .u64 (0:Int), (.slice none 0 0), (.slice none 0 0), (.slice none 0 0), (.slice none 0 0), (.slice none 0 0), .int .i64 (0:Int), .int .u64 (0:Int), .int .u64 (0:Int), (.slice none 0 0), (.slice none 0 0), .int .u64 (0:Int), (.slice none 0 0), .int .u64 (0:Int), .int .i64 (0:Int), .int .i64 (0:Int), .float .f64 (0:Nat), .float .f64 (0:Nat), .int .u64 (0:Int), .int .i64 (0:Int), .bool false]) 0 (.agg #[.int .u8 (IntKind.u8.wrap t714.1), .int .u64 (0:Int), .int .u64 (0:Int), .int .u64 (0:Int), .int .u64 (0:Int), .int .i64 (0:Int), .int .u64 (0:Int), .int .u64 (0:Int), .int .u64 (0:Int), (.slice none 0 0), (.slice none 0 0), (.slice none 0 0), (.slice none 0 0), (.slice none 0 0), .int .i64 (0:Int), .int .u64 (0:Int), .int .u64 (0:Int), (.slice none 0 0), (.slice none 0 0), .int .u64 (0:Int), (.slice none 0 0), .int .u64 (0:Int), .int .i64 (0:Int), .int .i64 (0:Int), .float .f64 (0:Nat), .float .f64 (0:Nat), .int .u64 (0:Int), .int .i64 (0:Int), .bool false]) Try.sizeOf48 (Nat.le_of_ble_eq_true rfl) (ones_cons rfl (ones_cons rfl (ones_cons rfl (ones_cons rfl (ones_cons rfl (ones_cons rfl (ones_cons rfl (ones_cons rfl (ones_cons rfl (ones_cons rfl (ones_cons rfl (ones_cons rfl (ones_cons rfl (ones_cons rfl (ones_cons rfl (ones_cons rfl (ones_cons rfl (ones_cons rfl (ones_cons rfl (ones_cons rfl (ones_cons rfl (ones_cons rfl (ones_cons rfl (ones_cons rfl (ones_cons rfl (ones_cons rfl (ones_cons rfl (ones_cons rfl (ones_cons rfl ones_nil))))))))))))))))))))))))))))) (by kernel_rfl)
 refine wl_unit rfl rfl (x_unit hr741) ?_
 refine wl_nil (then_n (wp_seq (wp_region_lit ?_)))
 refine wv (.func (.func 49) #[] #[.pointer (some ⟨b703, 0, none⟩), .pointer (some ⟨b735, 0, none⟩)]) rfl rfl (by kernel_rfl) ?_
 refine wv (.func (.func 49) #[] #[.pointer (some ⟨b703, 0, none⟩), .pointer (some ⟨b735, 0, none⟩)]) rfl rfl rfl ?_
 refine wl_nil (then_n ?_)
 obtain ⟨y1132, hm, hx1133⟩ := joinO_some hm
 refine wp_cut (fun a w => ∃ (I1129 : HL) (z1111 : octet_Reader) (z1112 : api_Command) (v1114 : Value) (v1116 : Value) (v1118 : Value) (v1120 : Value) (v1122 : Value) (v1124 : Value) (v1126 : Value) (v1128 : Value) (σ1130 : Nat → Value), (command_Decode_j0 a0) (z1111, z1112) = some r ∧ a = Fr 113 (upd (upd (upd (upd σ1130 0 (r0_0)) 2 (.pointer (some ⟨b691, 0, none⟩))) 4 (.pointer (some ⟨b703, 0, none⟩))) 5 (.pointer (some ⟨b735, 0, none⟩))) ∧ I.le I1129 ∧ St w0 w I1129 [cells b691 [.int .u8 (0:Int), .int .u64 (0:Int), .int .u64 (0:Int), .int .u64 (0:Int), .int .u64 (0:Int), .int .i64 (0:Int), .int .u64 (0:Int), .int .u64 (0:Int), .int .u64 (0:Int), (.slice none 0 0), (.slice none 0 0), (.slice none 0 0), (.slice none 0 0), (.slice none 0 0), .int .i64 (0:Int), .int .u64 (0:Int), .int .u64 (0:Int), (.slice none 0 0), (.slice none 0 0), .int .u64 (0:Int), (.slice none 0 0), .int .u64 (0:Int), .int .i64 (0:Int), .int .i64 (0:Int), .float .f64 (0:Nat), .float .f64 (0:Nat), .int .u64 (0:Int), .int .i64 (0:Int), .bool false], cells b703 [.pointer (some ⟨b708, 0, none⟩)], at_octet_Reader (.pointer (some ⟨b708, 0, none⟩)) z1111, cells b735 [.int .u8 z1112.Kind, .int .u64 z1112.ID.Session, .int .u64 z1112.ID.Seq, .int .u64 z1112.Epoch, .int .u64 z1112.Index, .int .i64 z1112.E, .int .u64 z1112.Hold.ID.Session, .int .u64 z1112.Hold.ID.Seq, .int .u64 z1112.Hold.Epoch, v1114, v1116, v1118, v1120, v1122, .int .i64 z1112.R.E, .int .u64 z1112.R.Epoch, .int .u64 z1112.R.Index, v1124, v1126, .int .u64 z1112.Shards, v1128, .int .u64 z1112.Rule.ID, .int .i64 z1112.Rule.From, .int .i64 z1112.Rule.To, .float .f64 z1112.Rule.Lo, .float .f64 z1112.Rule.Hi, .int .u64 z1112.Rule.Authority, .int .i64 z1112.Rule.Quota, .bool z1112.On], ownS tyF64 v1114 z1112.Hold.Gets, ownS tyF2 v1116 z1112.Hold.Scans, ownS tyF64 v1118 z1112.Hold.Puts, ownS (tyInt .u8) v1120 z1112.Hold.Data, ownS ty_api_Write v1122 z1112.Writes, ownS ty_api_Got v1124 z1112.R.Gots, ownS (tySl ty_api_Pair) v1126 z1112.R.Scans, ownS ty_api_Part v1128 z1112.Parts] R) ?_ ?_
 ·skip
  have hL1134 := HL.le.refl I
  refine wp_seq (wp_region_lit ?_)
  refine wv (.pointer (some ⟨b735, 0, none⟩)) rfl rfl (x_field rfl Try.underlying48 rfl Try.sizeOf5 rfl) ?_
  refine wv (.int .u8 (IntKind.u8.wrap t714.1)) rfl rfl (x_load rfl Try.isAgg5 (hst.bc0 rfl)) ?_
  refine wl_nil (then_n (wp_block (wp_seq (wp_region_lit ?_))))
  refine wv (.bool ((IntKind.u8.wrap t714.1) == (1:Int))) rfl rfl rfl ?_
  refine wv (.bool ((IntKind.u8.wrap t714.1) == (1:Int))) rfl rfl rfl ?_
  refine wl_nil (then_n ?_)
  refine bsplit ((IntKind.u8.wrap t714.1) == (1:Int)) (fun hc742 => ?_) (fun hc742 => ?_)
  ·skip
   replace hm := bif_t hc742 hm
   refine wp_ift (congrArg Value.bool hc742) ?_
   refine wp_region_lit ?_
   refine wv (.pointer (some ⟨b708, 0, none⟩)) rfl rfl (x_load rfl Try.isAgg62 (hst.bc2 rfl)) ?_
   replace hst := hst.pull1
   obtain ⟨t743, ht744, hm⟩ := bind_some hm
   refine wl_call rfl rfl (x_call Try.call13 rfl (vs := [.pointer (some ⟨b708, 0, none⟩), .int .i64 (8:Int)]) rfl) ?_
   refine (octet_Reader_Num_ref hst.to1 ht744).mono ?_
   rintro _ w745 ⟨rfl, hst⟩
   refine ⟨_, rfl, ?_⟩
   replace hst := hst.of1
   refine wv (.pointer (some ⟨b735, 3, none⟩)) rfl rfl (x_field rfl Try.underlying48 rfl Try.sizeOf25 rfl) ?_
   replace hst := hst.pull1
   obtain ⟨w748, hr749, hst⟩ := hst.boxStore (P := Try.prog) (t := 25) (cs' := [.int .u8 (IntKind.u8.wrap t714.1), .int .u64 (0:Int), .int .u64 (0:Int), .int .u64 t743.1, .int .u64 (0:Int), .int .i64 (0:Int), .int .u64 (0:Int), .int .u64 (0:Int), .int .u64 (0:Int), (.slice none 0 0), (.slice none 0 0), (.slice none 0 0), (.slice none 0 0), (.slice none 0 0), .int .i64 (0:Int), .int .u64 (0:Int), .int .u64 (0:Int), (.slice none 0 0), (.slice none 0 0), .int .u64 (0:Int), (.slice none 0 0), .int .u64 (0:Int), .int .i64 (0:Int), .int .i64 (0:Int), .float .f64 (0:Nat), .float .f64 (0:Nat), .int .u64 (0:Int), .int .i64 (0:Int), .bool false]) 3 (.int .u64 t743.1) Try.sizeOf25 (Nat.le_of_ble_eq_true rfl) (ones_cons rfl ones_nil) (by kernel_rfl)
   refine wl_unit rfl rfl (x_unit hr749) ?_
   refine wl_nil (blk_n (then_n ?_))
   replace hst := hst.own_nil tyF64
   replace hst := hst.own_nil tyF2
   replace hst := hst.own_nil tyF64
   replace hst := hst.own_nil (tyInt .u8)
   replace hst := hst.own_nil ty_api_Write
   replace hst := hst.own_nil ty_api_Got
   replace hst := hst.own_nil (tySl ty_api_Pair)
   replace hst := hst.own_nil ty_api_Part
   replace hst := hst.pull1
   replace hst := hst.pull2
   replace hst := hst.pull3
   replace hst := hst.pull4
   replace hst := hst.pull5
   replace hst := hst.pull6
   replace hst := hst.pull7
   replace hst := hst.pull8
   replace hst := hst.pull9
   replace hst := hst.pull10
   replace hst := hst.pull11
   replace hst := hst.keep12
   obtain rfl := some_inj hm
   exact ⟨_, t743.2, ({ Kind := (IntKind.u8.wrap t714.1), ID := ({ Session := (0:Int), Seq := (0:Int) } : api_ID), Epoch := t743.1, Index := (0:Int), E := (0:Int), Hold := ({ ID := ({ Session := (0:Int), Seq := (0:Int) } : api_ID), Epoch := (0:Int), Gets := [], Scans := [], Puts := [], Data := [] } : api_Hold), Writes := [], R := ({ E := (0:Int), Epoch := (0:Int), Index := (0:Int), Gots := [], Scans := [] } : api_Reply), Shards := (0:Int), Parts := [], Rule := ({ ID := (0:Int), From := (0:Int), To := (0:Int), Lo := (0:Nat), Hi := (0:Nat), Authority := (0:Int), Quota := (0:Int) } : api_Rule), On := false } : api_Command), (.slice none 0 0), (.slice none 0 0), (.slice none 0 0), (.slice none 0 0), (.slice none 0 0), (.slice none 0 0), (.slice none 0 0), (.slice none 0 0), _, hx1133, ((fr_upd (t := 0) (v := r0_0) rfl).trans ((fr_upd (t := 2) (v := .pointer (some ⟨b691, 0, none⟩)) rfl).trans ((fr_upd (t := 4) (v := .pointer (some ⟨b703, 0, none⟩)) rfl).trans ((fr_upd (t := 5) (v := .pointer (some ⟨b735, 0, none⟩)) rfl).trans rfl)))), hL1134, hst⟩
  ·skip
   replace hm := bif_f hc742 hm
   refine wp_iff (congrArg Value.bool hc742) ?_
   refine wp_seq (wp_region_lit ?_)
   refine wv (.bool ((IntKind.u8.wrap t714.1) == (2:Int))) rfl rfl rfl ?_
   refine wv (.bool ((IntKind.u8.wrap t714.1) == (2:Int))) rfl rfl rfl ?_
   refine wl_nil (then_n ?_)
   refine bsplit ((IntKind.u8.wrap t714.1) == (2:Int)) (fun hc750 => ?_) (fun hc750 => ?_)
   ·skip
    replace hm := bif_t hc750 hm
    refine wp_ift (congrArg Value.bool hc750) ?_
    refine wp_region_lit ?_
    refine wv (.pointer (some ⟨b708, 0, none⟩)) rfl rfl (x_load rfl Try.isAgg62 (hst.bc2 rfl)) ?_
    replace hst := hst.pull1
    obtain ⟨t751, ht752, hm⟩ := bind_some hm
    refine wl_call rfl rfl (x_call Try.call15 rfl (vs := [.pointer (some ⟨b708, 0, none⟩)]) rfl) ?_
    refine (locks_Read_ref hst.to1 ht752).mono ?_
    rintro _ w753 ⟨v756, v758, v760, v762, rfl, hst⟩
    refine ⟨_, rfl, ?_⟩
    replace hst := hst.of5
    refine wv (.pointer (some ⟨b735, 6, none⟩)) rfl rfl (x_field rfl Try.underlying48 rfl Try.sizeOf36 rfl) ?_
    replace hst := hst.pull5
    obtain ⟨w764, hr765, hst⟩ := hst.boxStore (P := Try.prog) (t := 36) (cs' := [.int .u8 (IntKind.u8.wrap t714.1), .int .u64 (0:Int), .int .u64 (0:Int), .int .u64 (0:Int), .int .u64 (0:Int), .int .i64 (0:Int), .int .u64 t751.1.ID.Session, .int .u64 t751.1.ID.Seq, .int .u64 t751.1.Epoch, v756, v758, v760, v762, (.slice none 0 0), .int .i64 (0:Int), .int .u64 (0:Int), .int .u64 (0:Int), (.slice none 0 0), (.slice none 0 0), .int .u64 (0:Int), (.slice none 0 0), .int .u64 (0:Int), .int .i64 (0:Int), .int .i64 (0:Int), .float .f64 (0:Nat), .float .f64 (0:Nat), .int .u64 (0:Int), .int .i64 (0:Int), .bool false]) 6 (.agg #[.int .u64 t751.1.ID.Session, .int .u64 t751.1.ID.Seq, .int .u64 t751.1.Epoch, v756, v758, v760, v762]) Try.sizeOf36 (Nat.le_of_ble_eq_true rfl) (ones_cons rfl (ones_cons rfl (ones_cons rfl (ones_cons (one_of_sliceV hst.sv1) (ones_cons (one_of_sliceV hst.sv2) (ones_cons (one_of_sliceV hst.sv3) (ones_cons (one_of_sliceV hst.sv4) ones_nil))))))) (by kernel_rfl)
    refine wl_unit rfl rfl (x_unit hr765) ?_
    refine wl_nil (blk_n (then_n ?_))
    replace hst := hst.own_nil ty_api_Write
    replace hst := hst.own_nil ty_api_Got
    replace hst := hst.own_nil (tySl ty_api_Pair)
    replace hst := hst.own_nil ty_api_Part
    replace hst := hst.pull1
    replace hst := hst.pull2
    replace hst := hst.pull3
    replace hst := hst.pull8
    replace hst := hst.pull8
    replace hst := hst.pull8
    replace hst := hst.pull8
    replace hst := hst.pull8
    replace hst := hst.pull9
    replace hst := hst.pull10
    replace hst := hst.pull11
    replace hst := hst.keep12
    obtain rfl := some_inj hm
    exact ⟨_, t751.2, ({ Kind := (IntKind.u8.wrap t714.1), ID := ({ Session := (0:Int), Seq := (0:Int) } : api_ID), Epoch := (0:Int), Index := (0:Int), E := (0:Int), Hold := t751.1, Writes := [], R := ({ E := (0:Int), Epoch := (0:Int), Index := (0:Int), Gots := [], Scans := [] } : api_Reply), Shards := (0:Int), Parts := [], Rule := ({ ID := (0:Int), From := (0:Int), To := (0:Int), Lo := (0:Nat), Hi := (0:Nat), Authority := (0:Int), Quota := (0:Int) } : api_Rule), On := false } : api_Command), v756, v758, v760, v762, (.slice none 0 0), (.slice none 0 0), (.slice none 0 0), (.slice none 0 0), _, hx1133, ((fr_upd (t := 0) (v := r0_0) rfl).trans ((fr_upd (t := 2) (v := .pointer (some ⟨b691, 0, none⟩)) rfl).trans ((fr_upd (t := 4) (v := .pointer (some ⟨b703, 0, none⟩)) rfl).trans ((fr_upd (t := 5) (v := .pointer (some ⟨b735, 0, none⟩)) rfl).trans rfl)))), hL1134, hst⟩
   ·skip
    replace hm := bif_f hc750 hm
    refine wp_iff (congrArg Value.bool hc750) ?_
    refine wp_seq (wp_region_lit ?_)
    refine wv (.bool ((IntKind.u8.wrap t714.1) == (3:Int))) rfl rfl rfl ?_
    refine wv (.bool ((IntKind.u8.wrap t714.1) == (3:Int))) rfl rfl rfl ?_
    refine wl_nil (then_n ?_)
    refine bsplit ((IntKind.u8.wrap t714.1) == (3:Int)) (fun hc766 => ?_) (fun hc766 => ?_)
    ·skip
     replace hm := bif_t hc766 hm
     refine wp_ift (congrArg Value.bool hc766) ?_
     refine wp_seq (wp_region_lit ?_)
     refine wv (.func (.func 49) #[] #[.pointer (some ⟨b703, 0, none⟩), .pointer (some ⟨b735, 0, none⟩)]) rfl rfl rfl ?_
     obtain ⟨y783, hq784, hm⟩ := bind_some hm
     refine wl_call rfl rfl (x_callv Try.call49 (caps := [.pointer (some ⟨b703, 0, none⟩), .pointer (some ⟨b735, 0, none⟩)]) rfl (vs := []) rfl) ?_
     refine Calls.mono (show Calls Try.prog 49 #[.pointer (some ⟨b703, 0, none⟩), .pointer (some ⟨b735, 0, none⟩)] _ (fun e w' => ∃ (z779 : octet_Reader) (z780 : Int) (z781 : Int), y783 = (z779, z780, z781) ∧ e = .returned (.tuple #[]) ∧ St w0 w' I [cells b691 [.int .u8 (0:Int), .int .u64 (0:Int), .int .u64 (0:Int), .int .u64 (0:Int), .int .u64 (0:Int), .int .i64 (0:Int), .int .u64 (0:Int), .int .u64 (0:Int), .int .u64 (0:Int), (.slice none 0 0), (.slice none 0 0), (.slice none 0 0), (.slice none 0 0), (.slice none 0 0), .int .i64 (0:Int), .int .u64 (0:Int), .int .u64 (0:Int), (.slice none 0 0), (.slice none 0 0), .int .u64 (0:Int), (.slice none 0 0), .int .u64 (0:Int), .int .i64 (0:Int), .int .i64 (0:Int), .float .f64 (0:Nat), .float .f64 (0:Nat), .int .u64 (0:Int), .int .i64 (0:Int), .bool false], at_octet_Reader (.pointer (some ⟨b708, 0, none⟩)) z779, cells b703 [.pointer (some ⟨b708, 0, none⟩)], cells b735 [.int .u8 (IntKind.u8.wrap t714.1), .int .u64 z780, .int .u64 z781, .int .u64 (0:Int), .int .u64 (0:Int), .int .i64 (0:Int), .int .u64 (0:Int), .int .u64 (0:Int), .int .u64 (0:Int), (.slice none 0 0), (.slice none 0 0), (.slice none 0 0), (.slice none 0 0), (.slice none 0 0), .int .i64 (0:Int), .int .u64 (0:Int), .int .u64 (0:Int), (.slice none 0 0), (.slice none 0 0), .int .u64 (0:Int), (.slice none 0 0), .int .u64 (0:Int), .int .i64 (0:Int), .int .i64 (0:Int), .float .f64 (0:Nat), .float .f64 (0:Nat), .int .u64 (0:Int), .int .i64 (0:Int), .bool false]] R) from ?_) ?_
     ·skip
      clear hm; have hm := hq784
      refine calls_start (args := [.pointer (some ⟨b703, 0, none⟩), .pointer (some ⟨b735, 0, none⟩)]) Try.func49 rfl Try.ntmps49 (Nat.le_of_ble_eq_true rfl) ?_
      refine wp_region_St hst 7 [0, 1, 2, 3, 4, 5, 6] [0, 1, 0, 7, 15, 31, 63] [] rfl (by kernel_rfl) (by kernel_rfl) Try.mixed (by kernel_rfl) ?_
      refine wsr (.pointer (some ⟨b708, 0, none⟩)) 0 rfl rfl rfl (by kernel_rfl) (fun w hst => x_load rfl Try.isAgg62 (hst.bc2 rfl)) ?_
      refine wsr (.pointer (some ⟨b708, 0, none⟩)) 2 rfl rfl rfl (by kernel_rfl) (fun w hst => x_load rfl Try.isAgg62 (hst.bc2 rfl)) ?_
      refine ws_e1 1 (by kernel_rfl) ?_
      refine nxe [3, 4, 5, 6] (by kernel_rfl) rfl rfl ?_
      clear hst
      intro w hst
      replace hst := hst.pull1
      obtain ⟨t767, ht768, hm⟩ := bind_some hm
      refine we_call rfl (x_call Try.call13 rfl (vs := [.pointer (some ⟨b708, 0, none⟩), .int .i64 (8:Int)]) rfl) ?_
      refine (octet_Reader_Num_ref hst.to1 ht768).mono ?_
      rintro _ w769 ⟨rfl, hst⟩
      refine ⟨_, rfl, ?_⟩
      replace hst := hst.of1
      refine ws_next (pend' := [(2, .pointer (some ⟨b708, 0, none⟩))]) hst (by kernel_rfl) (pkr rfl rfl (fun w hst => x_load rfl Try.isAgg62 (hst.bc2 rfl)) pk_nil) ?_
      refine ws_e1 3 (by kernel_rfl) ?_
      refine nxe [4, 5, 6] (by kernel_rfl) rfl rfl ?_
      clear hst
      intro w hst
      obtain ⟨t772, ht773, hm⟩ := bind_some hm
      refine we_call rfl (x_call Try.call13 rfl (vs := [.pointer (some ⟨b708, 0, none⟩), .int .i64 (8:Int)]) rfl) ?_
      refine (octet_Reader_Num_ref hst.to1 ht773).mono ?_
      rintro _ w774 ⟨rfl, hst⟩
      refine ⟨_, rfl, ?_⟩
      replace hst := hst.of1
      refine ws_next (pend' := []) hst (by kernel_rfl) pk_nil ?_
      refine wsr (.agg #[.int .u64 t767.1, .int .u64 t772.1]) 4 rfl rfl rfl (by kernel_rfl) (fun w hst => by kernel_rfl) ?_
      refine wsr (.pointer (some ⟨b735, 1, none⟩)) 5 rfl rfl rfl (by kernel_rfl) (fun w hst => x_field rfl Try.underlying48 rfl Try.sizeOf32 rfl) ?_
      refine ws_e1 6 (by kernel_rfl) ?_
      refine nxe [] (by kernel_rfl) rfl rfl ?_
      clear hst
      intro w hst
      replace hst := hst.pull1
      obtain ⟨w777, hr778, hst⟩ := hst.boxStore (P := Try.prog) (t := 32) (cs' := [.int .u8 (IntKind.u8.wrap t714.1), .int .u64 t767.1, .int .u64 t772.1, .int .u64 (0:Int), .int .u64 (0:Int), .int .i64 (0:Int), .int .u64 (0:Int), .int .u64 (0:Int), .int .u64 (0:Int), (.slice none 0 0), (.slice none 0 0), (.slice none 0 0), (.slice none 0 0), (.slice none 0 0), .int .i64 (0:Int), .int .u64 (0:Int), .int .u64 (0:Int), (.slice none 0 0), (.slice none 0 0), .int .u64 (0:Int), (.slice none 0 0), .int .u64 (0:Int), .int .i64 (0:Int), .int .i64 (0:Int), .float .f64 (0:Nat), .float .f64 (0:Nat), .int .u64 (0:Int), .int .i64 (0:Int), .bool false]) 1 (.agg #[.int .u64 t767.1, .int .u64 t772.1]) Try.sizeOf32 (Nat.le_of_ble_eq_true rfl) (ones_cons rfl (ones_cons rfl ones_nil)) (by kernel_rfl)
      refine we_unit rfl (x_unit hr778) ?_
      refine ws_next (pend' := []) hst (by kernel_rfl) pk_nil ?_
      refine ws_nil ?_
      intro w hst
      refine post_end (vs := []) Try.results49 rvs_nil ?_
      replace hst := hst.pull2
      replace hst := hst.pull2
      replace hst := hst.pull3
      replace hst := hst.keep4
      obtain rfl := some_inj hm
      exact ⟨t772.2, t767.1, t772.1, rfl, rfl, hst⟩
     clear hst
     rintro _ w785 ⟨z779, z780, z781, rfl, rfl, hst⟩
     refine ⟨_, rfl, ?_⟩
     try dsimp only at hm
     refine wl_nil (then_n (wp_seq ?_))
     refine wp_region_St hst 13 [0, 1, 2, 3, 4, 5, 6, 7, 8, 9, 10, 11, 12] [0, 1, 3, 0, 11, 0, 59, 7, 255, 511, 1023, 2047, 4095] [] rfl (by kernel_rfl) (by kernel_rfl) Try.mixed (by kernel_rfl) ?_
     refine wsr (.pointer (some ⟨b708, 0, none⟩)) 0 rfl rfl rfl (by kernel_rfl) (fun w hst => x_load rfl Try.isAgg62 (hst.bc2 rfl)) ?_
     refine wsr (.pointer (some ⟨b708, 0, none⟩)) 3 rfl rfl rfl (by kernel_rfl) (fun w hst => x_load rfl Try.isAgg62 (hst.bc2 rfl)) ?_
     refine wsr (.pointer (some ⟨b708, 0, none⟩)) 5 rfl rfl rfl (by kernel_rfl) (fun w hst => x_load rfl Try.isAgg62 (hst.bc2 rfl)) ?_
     refine ws_e1 1 (by kernel_rfl) ?_
     refine nxe [2, 4, 6, 7, 8, 9, 10, 11, 12] (by kernel_rfl) rfl rfl ?_
     clear hst
     intro w hst
     replace hst := hst.pull1
     obtain ⟨t786, ht787, hm⟩ := bind_some hm
     refine we_call rfl (x_call Try.call13 rfl (vs := [.pointer (some ⟨b708, 0, none⟩), .int .i64 (1:Int)]) rfl) ?_
     refine (octet_Reader_Num_ref hst.to1 ht787).mono ?_
     rintro _ w788 ⟨rfl, hst⟩
     refine ⟨_, rfl, ?_⟩
     replace hst := hst.of1
     refine ws_next (pend' := [(5, .pointer (some ⟨b708, 0, none⟩)), (3, .pointer (some ⟨b708, 0, none⟩))]) hst (by kernel_rfl) (pkr rfl rfl (fun w hst => x_load rfl Try.isAgg62 (hst.bc2 rfl)) (pkr rfl rfl (fun w hst => x_load rfl Try.isAgg62 (hst.bc2 rfl)) pk_nil)) ?_
     refine wsr (.int .i64 (IntKind.i64.wrap t786.1)) 2 rfl rfl rfl (by kernel_rfl) (fun w hst => by kernel_rfl) ?_
     refine wsr (.pointer (some ⟨b735, 5, none⟩)) 7 rfl rfl rfl (by kernel_rfl) (fun w hst => x_field rfl Try.underlying48 rfl Try.sizeOf37 rfl) ?_
     refine ws_e1 4 (by kernel_rfl) ?_
     refine nxe [6, 8, 9, 10, 11, 12] (by kernel_rfl) rfl rfl ?_
     clear hst
     intro w hst
     obtain ⟨t791, ht792, hm⟩ := bind_some hm
     refine we_call rfl (x_call Try.call13 rfl (vs := [.pointer (some ⟨b708, 0, none⟩), .int .i64 (8:Int)]) rfl) ?_
     refine (octet_Reader_Num_ref hst.to1 ht792).mono ?_
     rintro _ w793 ⟨rfl, hst⟩
     refine ⟨_, rfl, ?_⟩
     replace hst := hst.of1
     refine ws_next (pend' := [(7, .pointer (some ⟨b735, 5, none⟩)), (2, .int .i64 (IntKind.i64.wrap t786.1)), (5, .pointer (some ⟨b708, 0, none⟩))]) hst (by kernel_rfl) (pkr rfl rfl (fun w hst => x_field rfl Try.underlying48 rfl Try.sizeOf37 rfl) (pkr rfl rfl (fun w hst => by kernel_rfl) (pkr rfl rfl (fun w hst => x_load rfl Try.isAgg62 (hst.bc2 rfl)) pk_nil))) ?_
     refine ws_e1 6 (by kernel_rfl) ?_
     refine nxe [8, 9, 10, 11, 12] (by kernel_rfl) rfl rfl ?_
     clear hst
     intro w hst
     obtain ⟨t796, ht797, hm⟩ := bind_some hm
     refine we_call rfl (x_call Try.call13 rfl (vs := [.pointer (some ⟨b708, 0, none⟩), .int .i64 (8:Int)]) rfl) ?_
     refine (octet_Reader_Num_ref hst.to1 ht797).mono ?_
     rintro _ w798 ⟨rfl, hst⟩
     refine ⟨_, rfl, ?_⟩
     replace hst := hst.of1
     refine ws_next (pend' := [(7, .pointer (some ⟨b735, 5, none⟩)), (2, .int .i64 (IntKind.i64.wrap t786.1))]) hst (by kernel_rfl) (pkr rfl rfl (fun w hst => x_field rfl Try.underlying48 rfl Try.sizeOf37 rfl) (pkr rfl rfl (fun w hst => by kernel_rfl) pk_nil)) ?_
     refine ws_e1 8 (by kernel_rfl) ?_
     refine nxe [9, 10, 11, 12] (by kernel_rfl) rfl rfl ?_
     clear hst
     intro w hst
     replace hst := hst.pull3
     obtain ⟨w801, hr802, hst⟩ := hst.boxStore (P := Try.prog) (t := 37) (cs' := [.int .u8 (IntKind.u8.wrap t714.1), .int .u64 z780, .int .u64 z781, .int .u64 (0:Int), .int .u64 (0:Int), .int .i64 (IntKind.i64.wrap t786.1), .int .u64 (0:Int), .int .u64 (0:Int), .int .u64 (0:Int), (.slice none 0 0), (.slice none 0 0), (.slice none 0 0), (.slice none 0 0), (.slice none 0 0), .int .i64 (0:Int), .int .u64 (0:Int), .int .u64 (0:Int), (.slice none 0 0), (.slice none 0 0), .int .u64 (0:Int), (.slice none 0 0), .int .u64 (0:Int), .int .i64 (0:Int), .int .i64 (0:Int), .float .f64 (0:Nat), .float .f64 (0:Nat), .int .u64 (0:Int), .int .i64 (0:Int), .bool false]) 5 (.int .i64 (IntKind.i64.wrap t786.1)) Try.sizeOf37 (Nat.le_of_ble_eq_true rfl) (ones_cons rfl ones_nil) (by kernel_rfl)
     refine we_unit rfl (x_unit hr802) ?_
     refine ws_next (pend' := []) hst (by kernel_rfl) pk_nil ?_
     refine wsr (.pointer (some ⟨b735, 3, none⟩)) 9 rfl rfl rfl (by kernel_rfl) (fun w hst => x_field rfl Try.underlying48 rfl Try.sizeOf25 rfl) ?_
     refine ws_e1 10 (by kernel_rfl) ?_
     refine nxe [11, 12] (by kernel_rfl) rfl rfl ?_
     clear hst
     intro w hst
     obtain ⟨w803, hr804, hst⟩ := hst.boxStore (P := Try.prog) (t := 25) (cs' := [.int .u8 (IntKind.u8.wrap t714.1), .int .u64 z780, .int .u64 z781, .int .u64 t791.1, .int .u64 (0:Int), .int .i64 (IntKind.i64.wrap t786.1), .int .u64 (0:Int), .int .u64 (0:Int), .int .u64 (0:Int), (.slice none 0 0), (.slice none 0 0), (.slice none 0 0), (.slice none 0 0), (.slice none 0 0), .int .i64 (0:Int), .int .u64 (0:Int), .int .u64 (0:Int), (.slice none 0 0), (.slice none 0 0), .int .u64 (0:Int), (.slice none 0 0), .int .u64 (0:Int), .int .i64 (0:Int), .int .i64 (0:Int), .float .f64 (0:Nat), .float .f64 (0:Nat), .int .u64 (0:Int), .int .i64 (0:Int), .bool false]) 3 (.int .u64 t791.1) Try.sizeOf25 (Nat.le_of_ble_eq_true rfl) (ones_cons rfl ones_nil) (by kernel_rfl)
     refine we_unit rfl (x_unit hr804) ?_
     refine ws_next (pend' := []) hst (by kernel_rfl) pk_nil ?_
     refine wsr (.pointer (some ⟨b735, 4, none⟩)) 11 rfl rfl rfl (by kernel_rfl) (fun w hst => x_field rfl Try.underlying48 rfl Try.sizeOf25 rfl) ?_
     refine ws_e1 12 (by kernel_rfl) ?_
     refine nxe [] (by kernel_rfl) rfl rfl ?_
     clear hst
     intro w hst
     obtain ⟨w805, hr806, hst⟩ := hst.boxStore (P := Try.prog) (t := 25) (cs' := [.int .u8 (IntKind.u8.wrap t714.1), .int .u64 z780, .int .u64 z781, .int .u64 t791.1, .int .u64 t796.1, .int .i64 (IntKind.i64.wrap t786.1), .int .u64 (0:Int), .int .u64 (0:Int), .int .u64 (0:Int), (.slice none 0 0), (.slice none 0 0), (.slice none 0 0), (.slice none 0 0), (.slice none 0 0), .int .i64 (0:Int), .int .u64 (0:Int), .int .u64 (0:Int), (.slice none 0 0), (.slice none 0 0), .int .u64 (0:Int), (.slice none 0 0), .int .u64 (0:Int), .int .i64 (0:Int), .int .i64 (0:Int), .float .f64 (0:Nat), .float .f64 (0:Nat), .int .u64 (0:Int), .int .i64 (0:Int), .bool false]) 4 (.int .u64 t796.1) Try.sizeOf25 (Nat.le_of_ble_eq_true rfl) (ones_cons rfl ones_nil) (by kernel_rfl)
     refine we_unit rfl (x_unit hr806) ?_
     refine ws_next (pend' := []) hst (by kernel_rfl) pk_nil ?_
     refine ws_nil ?_
     intro w hst
     refine then_n (wp_region_lit ?_)
     refine wv (.pointer (some ⟨b708, 0, none⟩)) rfl rfl (x_load rfl Try.isAgg62 (hst.bc3 rfl)) ?_
     replace hst := hst.pull1
     obtain ⟨t807, ht808, hm⟩ := bind_some hm
     refine wl_call rfl rfl (x_call Try.call50 rfl (vs := [.pointer (some ⟨b708, 0, none⟩)]) rfl) ?_
     refine (command_readWrites_ref hst.to1 ht808).mono ?_
     rintro _ w809 ⟨I810, v812, rfl, hI811, hst⟩
     refine ⟨_, rfl, ?_⟩
     replace hst := hst.of2
     replace f0_0 := f0_0.mono (ro_le hI811)
     replace f711 := f711.mono (ro_le hI811)
     replace hI0 := hI0.trans hI811
     replace hL1134 := hL1134.trans hI811
     refine wv (.pointer (some ⟨b735, 13, none⟩)) rfl rfl (x_field rfl Try.underlying48 rfl Try.sizeOf42 rfl) ?_
     replace hst := hst.pull2
     obtain ⟨w814, hr815, hst⟩ := hst.boxStore1 (P := Try.prog) (t := 42) (cs' := [.int .u8 (IntKind.u8.wrap t714.1), .int .u64 z780, .int .u64 z781, .int .u64 t791.1, .int .u64 t796.1, .int .i64 (IntKind.i64.wrap t786.1), .int .u64 (0:Int), .int .u64 (0:Int), .int .u64 (0:Int), (.slice none 0 0), (.slice none 0 0), (.slice none 0 0), (.slice none 0 0), v812, .int .i64 (0:Int), .int .u64 (0:Int), .int .u64 (0:Int), (.slice none 0 0), (.slice none 0 0), .int .u64 (0:Int), (.slice none 0 0), .int .u64 (0:Int), .int .i64 (0:Int), .int .i64 (0:Int), .float .f64 (0:Nat), .float .f64 (0:Nat), .int .u64 (0:Int), .int .i64 (0:Int), .bool false]) 13 v812 (one_of_sliceV hst.sv1) Try.sizeOf42 rfl rfl
     refine wl_unit rfl rfl (x_unit hr815) ?_
     refine wl_nil (blk_n (then_n ?_))
     replace hst := hst.own_nil tyF64
     replace hst := hst.own_nil tyF2
     replace hst := hst.own_nil tyF64
     replace hst := hst.own_nil (tyInt .u8)
     replace hst := hst.own_nil ty_api_Got
     replace hst := hst.own_nil (tySl ty_api_Pair)
     replace hst := hst.own_nil ty_api_Part
     replace hst := hst.pull1
     replace hst := hst.pull2
     replace hst := hst.pull8
     replace hst := hst.pull4
     replace hst := hst.pull5
     replace hst := hst.pull6
     replace hst := hst.pull7
     replace hst := hst.pull8
     replace hst := hst.pull9
     replace hst := hst.pull11
     replace hst := hst.pull11
     replace hst := hst.keep12
     obtain rfl := some_inj hm
     exact ⟨_, t807.2, ({ Kind := (IntKind.u8.wrap t714.1), ID := ({ Session := z780, Seq := z781 } : api_ID), Epoch := t791.1, Index := t796.1, E := (IntKind.i64.wrap t786.1), Hold := ({ ID := ({ Session := (0:Int), Seq := (0:Int) } : api_ID), Epoch := (0:Int), Gets := [], Scans := [], Puts := [], Data := [] } : api_Hold), Writes := t807.1, R := ({ E := (0:Int), Epoch := (0:Int), Index := (0:Int), Gots := [], Scans := [] } : api_Reply), Shards := (0:Int), Parts := [], Rule := ({ ID := (0:Int), From := (0:Int), To := (0:Int), Lo := (0:Nat), Hi := (0:Nat), Authority := (0:Int), Quota := (0:Int) } : api_Rule), On := false } : api_Command), (.slice none 0 0), (.slice none 0 0), (.slice none 0 0), (.slice none 0 0), v812, (.slice none 0 0), (.slice none 0 0), (.slice none 0 0), _, hx1133, ((fr_upd (t := 0) (v := r0_0) rfl).trans ((fr_upd (t := 2) (v := .pointer (some ⟨b691, 0, none⟩)) rfl).trans ((fr_upd (t := 4) (v := .pointer (some ⟨b703, 0, none⟩)) rfl).trans ((fr_upd (t := 5) (v := .pointer (some ⟨b735, 0, none⟩)) rfl).trans rfl)))), hL1134, hst⟩
    ·skip
     replace hm := bif_f hc766 hm
     refine wp_iff (congrArg Value.bool hc766) ?_
     refine wp_seq (wp_region_lit ?_)
     refine wv (.bool ((IntKind.u8.wrap t714.1) == (4:Int))) rfl rfl rfl ?_
     refine wv (.bool ((IntKind.u8.wrap t714.1) == (4:Int))) rfl rfl rfl ?_
     refine wl_nil (then_n ?_)
     refine bsplit ((IntKind.u8.wrap t714.1) == (4:Int)) (fun hc816 => ?_) (fun hc816 => ?_)
     ·skip
      replace hm := bif_t hc816 hm
      refine wp_ift (congrArg Value.bool hc816) ?_
      refine wp_seq (wp_region_lit ?_)
      refine wv (.func (.func 49) #[] #[.pointer (some ⟨b703, 0, none⟩), .pointer (some ⟨b735, 0, none⟩)]) rfl rfl rfl ?_
      obtain ⟨y833, hq834, hm⟩ := bind_some hm
      refine wl_call rfl rfl (x_callv Try.call49 (caps := [.pointer (some ⟨b703, 0, none⟩), .pointer (some ⟨b735, 0, none⟩)]) rfl (vs := []) rfl) ?_
      refine Calls.mono (show Calls Try.prog 49 #[.pointer (some ⟨b703, 0, none⟩), .pointer (some ⟨b735, 0, none⟩)] _ (fun e w' => ∃ (z829 : octet_Reader) (z830 : Int) (z831 : Int), y833 = (z829, z830, z831) ∧ e = .returned (.tuple #[]) ∧ St w0 w' I [cells b691 [.int .u8 (0:Int), .int .u64 (0:Int), .int .u64 (0:Int), .int .u64 (0:Int), .int .u64 (0:Int), .int .i64 (0:Int), .int .u64 (0:Int), .int .u64 (0:Int), .int .u64 (0:Int), (.slice none 0 0), (.slice none 0 0), (.slice none 0 0), (.slice none 0 0), (.slice none 0 0), .int .i64 (0:Int), .int .u64 (0:Int), .int .u64 (0:Int), (.slice none 0 0), (.slice none 0 0), .int .u64 (0:Int), (.slice none 0 0), .int .u64 (0:Int), .int .i64 (0:Int), .int .i64 (0:Int), .float .f64 (0:Nat), .float .f64 (0:Nat), .int .u64 (0:Int), .int .i64 (0:Int), .bool false], at_octet_Reader (.pointer (some ⟨b708, 0, none⟩)) z829, cells b703 [.pointer (some ⟨b708, 0, none⟩)], cells b735 [.int .u8 (IntKind.u8.wrap t714.1), .int .u64 z830, .int .u64 z831, .int .u64 (0:Int), .int .u64 (0:Int), .int .i64 (0:Int), .int .u64 (0:Int), .int .u64 (0:Int), .int .u64 (0:Int), (.slice none 0 0), (.slice none 0 0), (.slice none 0 0), (.slice none 0 0), (.slice none 0 0), .int .i64 (0:Int), .int .u64 (0:Int), .int .u64 (0:Int), (.slice none 0 0), (.slice none 0 0), .int .u64 (0:Int), (.slice none 0 0), .int .u64 (0:Int), .int .i64 (0:Int), .int .i64 (0:Int), .float .f64 (0:Nat), .float .f64 (0:Nat), .int .u64 (0:Int), .int .i64 (0:Int), .bool false]] R) from ?_) ?_
      ·skip
       clear hm; have hm := hq834
       refine calls_start (args := [.pointer (some ⟨b703, 0, none⟩), .pointer (some ⟨b735, 0, none⟩)]) Try.func49 rfl Try.ntmps49 (Nat.le_of_ble_eq_true rfl) ?_
       refine wp_region_St hst 7 [0, 1, 2, 3, 4, 5, 6] [0, 1, 0, 7, 15, 31, 63] [] rfl (by kernel_rfl) (by kernel_rfl) Try.mixed (by kernel_rfl) ?_
       refine wsr (.pointer (some ⟨b708, 0, none⟩)) 0 rfl rfl rfl (by kernel_rfl) (fun w hst => x_load rfl Try.isAgg62 (hst.bc2 rfl)) ?_
       refine wsr (.pointer (some ⟨b708, 0, none⟩)) 2 rfl rfl rfl (by kernel_rfl) (fun w hst => x_load rfl Try.isAgg62 (hst.bc2 rfl)) ?_
       refine ws_e1 1 (by kernel_rfl) ?_
       refine nxe [3, 4, 5, 6] (by kernel_rfl) rfl rfl ?_
       clear hst
       intro w hst
       replace hst := hst.pull1
       obtain ⟨t817, ht818, hm⟩ := bind_some hm
       refine we_call rfl (x_call Try.call13 rfl (vs := [.pointer (some ⟨b708, 0, none⟩), .int .i64 (8:Int)]) rfl) ?_
       refine (octet_Reader_Num_ref hst.to1 ht818).mono ?_
       rintro _ w819 ⟨rfl, hst⟩
       refine ⟨_, rfl, ?_⟩
       replace hst := hst.of1
       refine ws_next (pend' := [(2, .pointer (some ⟨b708, 0, none⟩))]) hst (by kernel_rfl) (pkr rfl rfl (fun w hst => x_load rfl Try.isAgg62 (hst.bc2 rfl)) pk_nil) ?_
       refine ws_e1 3 (by kernel_rfl) ?_
       refine nxe [4, 5, 6] (by kernel_rfl) rfl rfl ?_
       clear hst
       intro w hst
       obtain ⟨t822, ht823, hm⟩ := bind_some hm
       refine we_call rfl (x_call Try.call13 rfl (vs := [.pointer (some ⟨b708, 0, none⟩), .int .i64 (8:Int)]) rfl) ?_
       refine (octet_Reader_Num_ref hst.to1 ht823).mono ?_
       rintro _ w824 ⟨rfl, hst⟩
       refine ⟨_, rfl, ?_⟩
       replace hst := hst.of1
       refine ws_next (pend' := []) hst (by kernel_rfl) pk_nil ?_
       refine wsr (.agg #[.int .u64 t817.1, .int .u64 t822.1]) 4 rfl rfl rfl (by kernel_rfl) (fun w hst => by kernel_rfl) ?_
       refine wsr (.pointer (some ⟨b735, 1, none⟩)) 5 rfl rfl rfl (by kernel_rfl) (fun w hst => x_field rfl Try.underlying48 rfl Try.sizeOf32 rfl) ?_
       refine ws_e1 6 (by kernel_rfl) ?_
       refine nxe [] (by kernel_rfl) rfl rfl ?_
       clear hst
       intro w hst
       replace hst := hst.pull1
       obtain ⟨w827, hr828, hst⟩ := hst.boxStore (P := Try.prog) (t := 32) (cs' := [.int .u8 (IntKind.u8.wrap t714.1), .int .u64 t817.1, .int .u64 t822.1, .int .u64 (0:Int), .int .u64 (0:Int), .int .i64 (0:Int), .int .u64 (0:Int), .int .u64 (0:Int), .int .u64 (0:Int), (.slice none 0 0), (.slice none 0 0), (.slice none 0 0), (.slice none 0 0), (.slice none 0 0), .int .i64 (0:Int), .int .u64 (0:Int), .int .u64 (0:Int), (.slice none 0 0), (.slice none 0 0), .int .u64 (0:Int), (.slice none 0 0), .int .u64 (0:Int), .int .i64 (0:Int), .int .i64 (0:Int), .float .f64 (0:Nat), .float .f64 (0:Nat), .int .u64 (0:Int), .int .i64 (0:Int), .bool false]) 1 (.agg #[.int .u64 t817.1, .int .u64 t822.1]) Try.sizeOf32 (Nat.le_of_ble_eq_true rfl) (ones_cons rfl (ones_cons rfl ones_nil)) (by kernel_rfl)
       refine we_unit rfl (x_unit hr828) ?_
       refine ws_next (pend' := []) hst (by kernel_rfl) pk_nil ?_
       refine ws_nil ?_
       intro w hst
       refine post_end (vs := []) Try.results49 rvs_nil ?_
       replace hst := hst.pull2
       replace hst := hst.pull2
       replace hst := hst.pull3
       replace hst := hst.keep4
       obtain rfl := some_inj hm
       exact ⟨t822.2, t817.1, t822.1, rfl, rfl, hst⟩
      clear hst
      rintro _ w835 ⟨z829, z830, z831, rfl, rfl, hst⟩
      refine ⟨_, rfl, ?_⟩
      try dsimp only at hm
      refine wl_nil (then_n (wp_seq ?_))
      refine wp_region_St hst 8 [0, 1, 2, 3, 4, 5, 6, 7] [0, 1, 0, 7, 3, 31, 63, 127] [] rfl (by kernel_rfl) (by kernel_rfl) Try.mixed (by kernel_rfl) ?_
      refine wsr (.pointer (some ⟨b708, 0, none⟩)) 0 rfl rfl rfl (by kernel_rfl) (fun w hst => x_load rfl Try.isAgg62 (hst.bc2 rfl)) ?_
      refine wsr (.pointer (some ⟨b708, 0, none⟩)) 2 rfl rfl rfl (by kernel_rfl) (fun w hst => x_load rfl Try.isAgg62 (hst.bc2 rfl)) ?_
      refine ws_e1 1 (by kernel_rfl) ?_
      refine nxe [3, 4, 5, 6, 7] (by kernel_rfl) rfl rfl ?_
      clear hst
      intro w hst
      replace hst := hst.pull1
      obtain ⟨t836, ht837, hm⟩ := bind_some hm
      refine we_call rfl (x_call Try.call13 rfl (vs := [.pointer (some ⟨b708, 0, none⟩), .int .i64 (8:Int)]) rfl) ?_
      refine (octet_Reader_Num_ref hst.to1 ht837).mono ?_
      rintro _ w838 ⟨rfl, hst⟩
      refine ⟨_, rfl, ?_⟩
      replace hst := hst.of1
      refine ws_next (pend' := [(2, .pointer (some ⟨b708, 0, none⟩))]) hst (by kernel_rfl) (pkr rfl rfl (fun w hst => x_load rfl Try.isAgg62 (hst.bc2 rfl)) pk_nil) ?_
      refine wsr (.pointer (some ⟨b735, 3, none⟩)) 4 rfl rfl rfl (by kernel_rfl) (fun w hst => x_field rfl Try.underlying48 rfl Try.sizeOf25 rfl) ?_
      refine ws_e1 3 (by kernel_rfl) ?_
      refine nxe [5, 6, 7] (by kernel_rfl) rfl rfl ?_
      clear hst
      intro w hst
      obtain ⟨t841, ht842, hm⟩ := bind_some hm
      refine we_call rfl (x_call Try.call13 rfl (vs := [.pointer (some ⟨b708, 0, none⟩), .int .i64 (2:Int)]) rfl) ?_
      refine (octet_Reader_Num_ref hst.to1 ht842).mono ?_
      rintro _ w843 ⟨rfl, hst⟩
      refine ⟨_, rfl, ?_⟩
      replace hst := hst.of1
      refine ws_next (pend' := [(4, .pointer (some ⟨b735, 3, none⟩))]) hst (by kernel_rfl) (pkr rfl rfl (fun w hst => x_field rfl Try.underlying48 rfl Try.sizeOf25 rfl) pk_nil) ?_
      refine ws_e1 5 (by kernel_rfl) ?_
      refine nxe [6, 7] (by kernel_rfl) rfl rfl ?_
      clear hst
      intro w hst
      replace hst := hst.pull3
      obtain ⟨w846, hr847, hst⟩ := hst.boxStore (P := Try.prog) (t := 25) (cs' := [.int .u8 (IntKind.u8.wrap t714.1), .int .u64 z830, .int .u64 z831, .int .u64 t836.1, .int .u64 (0:Int), .int .i64 (0:Int), .int .u64 (0:Int), .int .u64 (0:Int), .int .u64 (0:Int), (.slice none 0 0), (.slice none 0 0), (.slice none 0 0), (.slice none 0 0), (.slice none 0 0), .int .i64 (0:Int), .int .u64 (0:Int), .int .u64 (0:Int), (.slice none 0 0), (.slice none 0 0), .int .u64 (0:Int), (.slice none 0 0), .int .u64 (0:Int), .int .i64 (0:Int), .int .i64 (0:Int), .float .f64 (0:Nat), .float .f64 (0:Nat), .int .u64 (0:Int), .int .i64 (0:Int), .bool false]) 3 (.int .u64 t836.1) Try.sizeOf25 (Nat.le_of_ble_eq_true rfl) (ones_cons rfl ones_nil) (by kernel_rfl)
      refine we_unit rfl (x_unit hr847) ?_
      refine ws_next (pend' := []) hst (by kernel_rfl) pk_nil ?_
      refine wsr (.pointer (some ⟨b735, 19, none⟩)) 6 rfl rfl rfl (by kernel_rfl) (fun w hst => x_field rfl Try.underlying48 rfl Try.sizeOf25 rfl) ?_
      refine ws_e1 7 (by kernel_rfl) ?_
      refine nxe [] (by kernel_rfl) rfl rfl ?_
      clear hst
      intro w hst
      obtain ⟨w848, hr849, hst⟩ := hst.boxStore (P := Try.prog) (t := 25) (cs' := [.int .u8 (IntKind.u8.wrap t714.1), .int .u64 z830, .int .u64 z831, .int .u64 t836.1, .int .u64 (0:Int), .int .i64 (0:Int), .int .u64 (0:Int), .int .u64 (0:Int), .int .u64 (0:Int), (.slice none 0 0), (.slice none 0 0), (.slice none 0 0), (.slice none 0 0), (.slice none 0 0), .int .i64 (0:Int), .int .u64 (0:Int), .int .u64 (0:Int), (.slice none 0 0), (.slice none 0 0), .int .u64 t841.1, (.slice none 0 0), .int .u64 (0:Int), .int .i64 (0:Int), .int .i64 (0:Int), .float .f64 (0:Nat), .float .f64 (0:Nat), .int .u64 (0:Int), .int .i64 (0:Int), .bool false]) 19 (.int .u64 t841.1) Try.sizeOf25 (Nat.le_of_ble_eq_true rfl) (ones_cons rfl ones_nil) (by kernel_rfl)
      refine we_unit rfl (x_unit hr849) ?_
      refine ws_next (pend' := []) hst (by kernel_rfl) pk_nil ?_
      refine ws_nil ?_
      intro w hst
      refine then_n ?_
      obtain ⟨y997, hm, hx998⟩ := bind_some hm
      refine wp_cut (fun a w => ∃ (I994 : HL) (z990 : octet_Reader) (z993 : (List api_Part)) (v992 : Value) (σ995 : Nat → Value), (command_Decode_j1 t714 z830 z831 t836 t841) (z990, z993) = some y1132 ∧ a = Fr 113 (upd (upd (upd (upd σ995 0 (r0_0)) 2 (.pointer (some ⟨b691, 0, none⟩))) 4 (.pointer (some ⟨b703, 0, none⟩))) 5 (.pointer (some ⟨b735, 0, none⟩))) ∧ I.le I994 ∧ St w0 w I994 [cells b691 [.int .u8 (0:Int), .int .u64 (0:Int), .int .u64 (0:Int), .int .u64 (0:Int), .int .u64 (0:Int), .int .i64 (0:Int), .int .u64 (0:Int), .int .u64 (0:Int), .int .u64 (0:Int), (.slice none 0 0), (.slice none 0 0), (.slice none 0 0), (.slice none 0 0), (.slice none 0 0), .int .i64 (0:Int), .int .u64 (0:Int), .int .u64 (0:Int), (.slice none 0 0), (.slice none 0 0), .int .u64 (0:Int), (.slice none 0 0), .int .u64 (0:Int), .int .i64 (0:Int), .int .i64 (0:Int), .float .f64 (0:Nat), .float .f64 (0:Nat), .int .u64 (0:Int), .int .i64 (0:Int), .bool false], cells b703 [.pointer (some ⟨b708, 0, none⟩)], at_octet_Reader (.pointer (some ⟨b708, 0, none⟩)) z990, cells b735 [.int .u8 (IntKind.u8.wrap t714.1), .int .u64 z830, .int .u64 z831, .int .u64 t836.1, .int .u64 (0:Int), .int .i64 (0:Int), .int .u64 (0:Int), .int .u64 (0:Int), .int .u64 (0:Int), (.slice none 0 0), (.slice none 0 0), (.slice none 0 0), (.slice none 0 0), (.slice none 0 0), .int .i64 (0:Int), .int .u64 (0:Int), .int .u64 (0:Int), (.slice none 0 0), (.slice none 0 0), .int .u64 t841.1, v992, .int .u64 (0:Int), .int .i64 (0:Int), .int .i64 (0:Int), .float .f64 (0:Nat), .float .f64 (0:Nat), .int .u64 (0:Int), .int .i64 (0:Int), .bool false], ownS ty_api_Part v992 z993] R) ?_ ?_
      ·skip
       have hL999 := HL.le.refl I
       refine wp_seq (wp_region_lit ?_)
       refine wv (.pointer (some ⟨b708, 0, none⟩)) rfl rfl (x_load rfl Try.isAgg62 (hst.bc3 rfl)) ?_
       replace hst := hst.pull1
       obtain ⟨t850, ht851, hm⟩ := bind_some hm
       refine wl_call rfl rfl (x_call Try.call46 rfl (vs := [.pointer (some ⟨b708, 0, none⟩), .int .i64 (8:Int)]) rfl) ?_
       refine (octet_Reader_Count_ref hst.to1 ht851).mono ?_
       rintro _ w852 ⟨rfl, hst⟩
       refine ⟨_, rfl, ?_⟩
       replace hst := hst.of1
       refine wv (.int .i64 (0:Int)) rfl rfl rfl ?_
       refine wl_nil (then_n (wp_block ?_))
       replace hst := hst.own_nil ty_api_Part
       obtain ⟨n954, hm⟩ := loopO_some hm
       refine wp_loop_n (fun n a w => ∃ (I952 : HL) (z947 : (List api_Part)) (z950 : octet_Reader) (z951 : Int) (v948 : Value) (σ953 : Nat → Value), loopN (command_Decode_l2 t850) n (z947, z950, z951) = some y997 ∧ a = Fr 113 (upd (upd (upd (upd (upd (upd σ953 0 (r0_0)) 2 (.pointer (some ⟨b691, 0, none⟩))) 4 (.pointer (some ⟨b703, 0, none⟩))) 5 (.pointer (some ⟨b735, 0, none⟩))) 55 (.int .i64 t850.1)) 56 (.int .i64 z951)) ∧ I.le I952 ∧ St w0 w I952 [ownS ty_api_Part v948 z947, at_octet_Reader (.pointer (some ⟨b708, 0, none⟩)) z950, cells b735 [.int .u8 (IntKind.u8.wrap t714.1), .int .u64 z830, .int .u64 z831, .int .u64 t836.1, .int .u64 (0:Int), .int .i64 (0:Int), .int .u64 (0:Int), .int .u64 (0:Int), .int .u64 (0:Int), (.slice none 0 0), (.slice none 0 0), (.slice none 0 0), (.slice none 0 0), (.slice none 0 0), .int .i64 (0:Int), .int .u64 (0:Int), .int .u64 (0:Int), (.slice none 0 0), (.slice none 0 0), .int .u64 t841.1, v948, .int .u64 (0:Int), .int .i64 (0:Int), .int .i64 (0:Int), .float .f64 (0:Nat), .float .f64 (0:Nat), .int .u64 (0:Int), .int .i64 (0:Int), .bool false], cells b691 [.int .u8 (0:Int), .int .u64 (0:Int), .int .u64 (0:Int), .int .u64 (0:Int), .int .u64 (0:Int), .int .i64 (0:Int), .int .u64 (0:Int), .int .u64 (0:Int), .int .u64 (0:Int), (.slice none 0 0), (.slice none 0 0), (.slice none 0 0), (.slice none 0 0), (.slice none 0 0), .int .i64 (0:Int), .int .u64 (0:Int), .int .u64 (0:Int), (.slice none 0 0), (.slice none 0 0), .int .u64 (0:Int), (.slice none 0 0), .int .u64 (0:Int), .int .i64 (0:Int), .int .i64 (0:Int), .float .f64 (0:Nat), .float .f64 (0:Nat), .int .u64 (0:Int), .int .i64 (0:Int), .bool false], cells b703 [.pointer (some ⟨b708, 0, none⟩)]] R) n954 ⟨_, [], t850.2, (0:Int), (.slice none 0 0), _, hm, ((fr_upd (t := 0) (v := r0_0) rfl).trans ((fr_upd (t := 2) (v := .pointer (some ⟨b691, 0, none⟩)) rfl).trans ((fr_upd (t := 4) (v := .pointer (some ⟨b703, 0, none⟩)) rfl).trans ((fr_upd (t := 5) (v := .pointer (some ⟨b735, 0, none⟩)) rfl).trans ((fr_upd (t := 55) (v := .int .i64 t850.1) rfl).trans ((fr_upd (t := 56) (v := .int .i64 (0:Int)) rfl).trans rfl)))))), (HL.le.refl _), hst⟩ ?_
       rintro n960 _ w955 ⟨I952, z947, z950, z951, v948, σ953, hm, rfl, hL956, hst⟩
       obtain ⟨n957, y958, rfl, hm, hx959⟩ := loopN_some hm
       dsimp only [command_Decode_l2] at hm
       replace f0_0 := f0_0.mono (ro_le hL956)
       replace f711 := f711.mono (ro_le hL956)
       replace hI0 := hI0.trans hL956
       replace hL1134 := hL1134.trans hL956
       replace hL999 := hL999.trans hL956
       refine wp_seq (wp_region_lit ?_)
       refine wv (.bool (decide (z951 < t850.1))) rfl rfl rfl ?_
       refine wl_nil (then_n (wp_seq ?_))
       refine bsplit (decide (z951 < t850.1)) (fun hc961 => ?_) (fun hc961 => ?_)
       ·skip
        replace hm := bif_t hc961 hm
        refine wp_ift (congrArg Value.bool hc961) ?_
        refine wp_skip (then_n (wp_seq (wp_block ?_)))
        refine wp_region_St hst 12 [0, 1, 2, 3, 4, 5, 6, 7, 8, 9, 10, 11] [0, 1, 0, 4, 12, 0, 44, 124, 252, 511, 1023, 2047] [] rfl (by kernel_rfl) (by kernel_rfl) Try.mixed (by kernel_rfl) ?_
        refine wsr (.pointer (some ⟨b735, 20, none⟩)) 0 rfl rfl rfl (by kernel_rfl) (fun w hst => x_field rfl Try.underlying48 rfl Try.sizeOf43 rfl) ?_
        refine wsr (v948) 1 rfl rfl rfl (by kernel_rfl) (fun w hst => x_load rfl Try.isAgg43 (hst.bc2 rfl)) ?_
        refine wsr (.pointer (some ⟨b708, 0, none⟩)) 2 rfl rfl rfl (by kernel_rfl) (fun w hst => x_load rfl Try.isAgg62 (hst.bc4 rfl)) ?_
        refine wsr (.pointer (some ⟨b708, 0, none⟩)) 5 rfl rfl rfl (by kernel_rfl) (fun w hst => x_load rfl Try.isAgg62 (hst.bc4 rfl)) ?_
        refine ws_e1 3 (by kernel_rfl) ?_
        refine nxe [4, 6, 7, 8, 9, 10, 11] (by kernel_rfl) rfl rfl ?_
        clear hst
        intro w hst
        replace hst := hst.pull1
        obtain ⟨t962, ht963, hm⟩ := bind_some hm
        refine we_call rfl (x_call Try.call13 rfl (vs := [.pointer (some ⟨b708, 0, none⟩), .int .i64 (1:Int)]) rfl) ?_
        refine (octet_Reader_Num_ref hst.to1 ht963).mono ?_
        rintro _ w964 ⟨rfl, hst⟩
        refine ⟨_, rfl, ?_⟩
        replace hst := hst.of1
        refine ws_next (pend' := [(5, .pointer (some ⟨b708, 0, none⟩)), (1, v948), (0, .pointer (some ⟨b735, 20, none⟩))]) hst (by kernel_rfl) (pkr rfl rfl (fun w hst => x_load rfl Try.isAgg62 (hst.bc4 rfl)) (pkr rfl rfl (fun w hst => x_load rfl Try.isAgg43 (hst.bc2 rfl)) (pkr rfl rfl (fun w hst => x_field rfl Try.underlying48 rfl Try.sizeOf43 rfl) pk_nil))) ?_
        refine wsr (.int .i64 (IntKind.i64.wrap t962.1)) 4 rfl rfl rfl (by kernel_rfl) (fun w hst => by kernel_rfl) ?_
        refine ws_e1 6 (by kernel_rfl) ?_
        refine nxe [7, 8, 9, 10, 11] (by kernel_rfl) rfl rfl ?_
        clear hst
        intro w hst
        obtain ⟨t967, ht968, hm⟩ := bind_some hm
        refine we_call rfl (x_call Try.call50 rfl (vs := [.pointer (some ⟨b708, 0, none⟩)]) rfl) ?_
        refine (command_readWrites_ref hst.to1 ht968).mono ?_
        rintro _ w969 ⟨I970, v972, rfl, hI971, hst⟩
        refine ⟨_, rfl, ?_⟩
        replace hst := hst.of2
        replace f0_0 := f0_0.mono (ro_le hI971)
        replace f711 := f711.mono (ro_le hI971)
        replace hI0 := hI0.trans hI971
        replace hL1134 := hL1134.trans hI971
        replace hL999 := hL999.trans hI971
        replace hL956 := hL956.trans hI971
        refine ws_next (pend' := [(4, .int .i64 (IntKind.i64.wrap t962.1)), (1, v948), (0, .pointer (some ⟨b735, 20, none⟩))]) hst (by kernel_rfl) (pkr rfl rfl (fun w hst => by kernel_rfl) (pkr rfl rfl (fun w hst => x_load rfl Try.isAgg43 (hst.bc3 rfl)) (pkr rfl rfl (fun w hst => x_field rfl Try.underlying48 rfl Try.sizeOf43 rfl) pk_nil))) ?_
        refine wsr (.agg #[.int .i64 (IntKind.i64.wrap t962.1), v972]) 7 rfl rfl rfl (by kernel_rfl) (fun w hst => by obtain ⟨_, _, hv_, _⟩ := hst.sv0; rw [hv_]; kernel_rfl) ?_
        refine ws_e1 8 (by kernel_rfl) ?_
        refine nxe [9, 10, 11] (by kernel_rfl) rfl rfl ?_
        clear hst
        intro w hst
        obtain ⟨I976, hI977, f978, hst⟩ := hst.own_fix
        replace f0_0 := f0_0.mono (ro_le hI977)
        replace f711 := f711.mono (ro_le hI977)
        replace hI0 := hI0.trans hI977
        replace hL1134 := hL1134.trans hI977
        replace hL999 := hL999.trans hI977
        replace hL956 := hL956.trans hI977
        obtain ⟨b979, w980, ew981, eb982, hst⟩ := hst.lits (E := ty_api_Part) (xs := [({ Shard := (IntKind.i64.wrap t962.1), Writes := t967.1 } : api_Part)]) [[.int .i64 (IntKind.i64.wrap t962.1), v972]] 110 1 rfl (Reps.cons ⟨_, rfl, f978, one_of_sliceV (ro_sliceV f978)⟩ Reps.nil)
        refine we_run (v := (.slice (some ⟨b979, 0, none⟩) 1 1)) (w' := w980) rfl (x_als (by kernel_rfl) ew981 eb982) ?_
        refine ws_next (pend' := [(1, v948), (0, .pointer (some ⟨b735, 20, none⟩))]) hst (by kernel_rfl) (pkr rfl rfl (fun w hst => x_load rfl Try.isAgg43 (hst.bc3 rfl)) (pkr rfl rfl (fun w hst => x_field rfl Try.underlying48 rfl Try.sizeOf43 rfl) pk_nil)) ?_
        refine ws_e1 9 (by kernel_rfl) ?_
        refine nxe [10, 11] (by kernel_rfl) rfl rfl ?_
        clear hst
        intro w hst
        obtain ⟨hg984, hm⟩ := gd_some hm
        replace hst := hst.pull2
        obtain ⟨v985, w986, hr987, hst⟩ := run_append elem_43 Try.underlying43 hst hst.src1 (room_of hg984 rfl) 43
        refine we_run (v := v985) (w' := w986) rfl (x_append rfl rfl hr987) ?_
        refine ws_next (pend' := []) hst (by kernel_rfl) pk_nil ?_
        refine wsr (.pointer (some ⟨b735, 20, none⟩)) 10 rfl rfl rfl (by kernel_rfl) (fun w hst => x_field rfl Try.underlying48 rfl Try.sizeOf43 rfl) ?_
        refine ws_e1 11 (by kernel_rfl) ?_
        refine nxe [] (by kernel_rfl) rfl rfl ?_
        clear hst
        intro w hst
        replace hst := hst.pull3
        obtain ⟨w988, hr989, hst⟩ := hst.boxStore1 (P := Try.prog) (t := 43) (cs' := [.int .u8 (IntKind.u8.wrap t714.1), .int .u64 z830, .int .u64 z831, .int .u64 t836.1, .int .u64 (0:Int), .int .i64 (0:Int), .int .u64 (0:Int), .int .u64 (0:Int), .int .u64 (0:Int), (.slice none 0 0), (.slice none 0 0), (.slice none 0 0), (.slice none 0 0), (.slice none 0 0), .int .i64 (0:Int), .int .u64 (0:Int), .int .u64 (0:Int), (.slice none 0 0), (.slice none 0 0), .int .u64 t841.1, v985, .int .u64 (0:Int), .int .i64 (0:Int), .int .i64 (0:Int), .float .f64 (0:Nat), .float .f64 (0:Nat), .int .u64 (0:Int), .int .i64 (0:Int), .bool false]) 20 v985 (one_of_sliceV hst.sv1) Try.sizeOf43 rfl rfl
        refine we_unit rfl (x_unit hr989) ?_
        refine ws_next (pend' := []) hst (by kernel_rfl) pk_nil ?_
        refine ws_nil ?_
        intro w hst
        refine blk_n (then_n (wp_region_lit ?_))
        refine wv (.int .i64 (IntKind.i64.wrap (z951 + (1:Int)))) rfl rfl rfl ?_
        refine wv (.int .i64 (IntKind.i64.wrap (z951 + (1:Int)))) rfl rfl rfl ?_
        refine wl_nil (then_n ?_)
        replace hst := hst.pull5
        replace hst := hst.pull5
        replace hst := hst.pull2
        replace hst := hst.pull5
        replace hst := hst.pull4
        replace hst := hst.keep5
        obtain rfl := some_inj hm
        exact ⟨_, Nat.lt_succ_self _, _, (z947 ++ ([({ Shard := (IntKind.i64.wrap t962.1), Writes := t967.1 } : api_Part)])), t967.2, (IntKind.i64.wrap (z951 + (1:Int))), v985, _, hx959, ((fr_upd (t := 0) (v := r0_0) rfl).trans ((fr_upd (t := 2) (v := .pointer (some ⟨b691, 0, none⟩)) rfl).trans ((fr_upd (t := 4) (v := .pointer (some ⟨b703, 0, none⟩)) rfl).trans ((fr_upd (t := 5) (v := .pointer (some ⟨b735, 0, none⟩)) rfl).trans ((fr_upd (t := 55) (v := .int .i64 t850.1) rfl).trans ((fr_upd (t := 56) (v := .int .i64 (IntKind.i64.wrap (z951 + (1:Int)))) rfl).trans rfl)))))), hL956, hst⟩
       ·skip
        replace hm := bif_f hc961 hm
        refine wp_iff (congrArg Value.bool hc961) ?_
        refine wp_exit (then_x (then_x ?_))
        replace hm := inr_up hm hx959
        refine blk_x (then_n ?_)
        replace hst := hst.pull2
        replace hst := hst.pull2
        replace hst := hst.pull4
        replace hst := hst.pull4
        replace hst := hst.keep5
        obtain rfl := some_inj hm
        exact ⟨_, z950, z947, v948, _, hx998, ((fr_upd (t := 0) (v := r0_0) rfl).trans ((fr_upd (t := 2) (v := .pointer (some ⟨b691, 0, none⟩)) rfl).trans ((fr_upd (t := 4) (v := .pointer (some ⟨b703, 0, none⟩)) rfl).trans ((fr_upd (t := 5) (v := .pointer (some ⟨b735, 0, none⟩)) rfl).trans rfl)))), hL999, hst⟩
      ·skip
       clear hst
       rintro _ w1000 ⟨I994, z990, z993, v992, σ995, hm, rfl, hL996, hst⟩
       dsimp only [command_Decode_j1] at hm
       replace f0_0 := f0_0.mono (ro_le hL996)
       replace f711 := f711.mono (ro_le hL996)
       replace hI0 := hI0.trans hL996
       replace hL1134 := hL1134.trans hL996
       refine wp_region_lit ?_
       refine wv (.pointer (some ⟨b708, 0, none⟩)) rfl rfl (x_load rfl Try.isAgg62 (hst.bc1 rfl)) ?_
       replace hst := hst.pull2
       obtain ⟨t1001, ht1002, hm⟩ := bind_some hm
       refine wl_call rfl rfl (x_call Try.call16 rfl (vs := [.pointer (some ⟨b708, 0, none⟩)]) rfl) ?_
       refine (command_ReadReply_ref hst.to1 ht1002).mono ?_
       rintro _ w1003 ⟨I1004, v1006, v1008, rfl, hI1005, hst⟩
       refine ⟨_, rfl, ?_⟩
       replace hst := hst.of3
       replace f0_0 := f0_0.mono (ro_le hI1005)
       replace f711 := f711.mono (ro_le hI1005)
       replace hI0 := hI0.trans hI1005
       replace hL1134 := hL1134.trans hI1005
       refine wv (.pointer (some ⟨b735, 14, none⟩)) rfl rfl (x_field rfl Try.underlying48 rfl Try.sizeOf41 rfl) ?_
       replace hst := hst.pull5
       obtain ⟨w1010, hr1011, hst⟩ := hst.boxStore (P := Try.prog) (t := 41) (cs' := [.int .u8 (IntKind.u8.wrap t714.1), .int .u64 z830, .int .u64 z831, .int .u64 t836.1, .int .u64 (0:Int), .int .i64 (0:Int), .int .u64 (0:Int), .int .u64 (0:Int), .int .u64 (0:Int), (.slice none 0 0), (.slice none 0 0), (.slice none 0 0), (.slice none 0 0), (.slice none 0 0), .int .i64 t1001.1.E, .int .u64 t1001.1.Epoch, .int .u64 t1001.1.Index, v1006, v1008, .int .u64 t841.1, v992, .int .u64 (0:Int), .int .i64 (0:Int), .int .i64 (0:Int), .float .f64 (0:Nat), .float .f64 (0:Nat), .int .u64 (0:Int), .int .i64 (0:Int), .bool false]) 14 (.agg #[.int .i64 t1001.1.E, .int .u64 t1001.1.Epoch, .int .u64 t1001.1.Index, v1006, v1008]) Try.sizeOf41 (Nat.le_of_ble_eq_true rfl) (ones_cons rfl (ones_cons rfl (ones_cons rfl (ones_cons (one_of_sliceV hst.sv1) (ones_cons (one_of_sliceV hst.sv2) ones_nil))))) (by kernel_rfl)
       refine wl_unit rfl rfl (x_unit hr1011) ?_
       refine wl_nil (blk_n (then_n ?_))
       replace hst := hst.own_nil tyF64
       replace hst := hst.own_nil tyF2
       replace hst := hst.own_nil tyF64
       replace hst := hst.own_nil (tyInt .u8)
       replace hst := hst.own_nil ty_api_Write
       replace hst := hst.pull11
       replace hst := hst.pull8
       replace hst := hst.pull8
       replace hst := hst.pull3
       replace hst := hst.pull4
       replace hst := hst.pull5
       replace hst := hst.pull6
       replace hst := hst.pull7
       replace hst := hst.pull8
       replace hst := hst.pull9
       replace hst := hst.pull11
       replace hst := hst.pull11
       replace hst := hst.keep12
       obtain rfl := some_inj hm
       exact ⟨_, t1001.2, ({ Kind := (IntKind.u8.wrap t714.1), ID := ({ Session := z830, Seq := z831 } : api_ID), Epoch := t836.1, Index := (0:Int), E := (0:Int), Hold := ({ ID := ({ Session := (0:Int), Seq := (0:Int) } : api_ID), Epoch := (0:Int), Gets := [], Scans := [], Puts := [], Data := [] } : api_Hold), Writes := [], R := t1001.1, Shards := t841.1, Parts := z993, Rule := ({ ID := (0:Int), From := (0:Int), To := (0:Int), Lo := (0:Nat), Hi := (0:Nat), Authority := (0:Int), Quota := (0:Int) } : api_Rule), On := false } : api_Command), (.slice none 0 0), (.slice none 0 0), (.slice none 0 0), (.slice none 0 0), (.slice none 0 0), v1006, v1008, v992, _, hx1133, ((fr_upd (t := 0) (v := r0_0) rfl).trans ((fr_upd (t := 2) (v := .pointer (some ⟨b691, 0, none⟩)) rfl).trans ((fr_upd (t := 4) (v := .pointer (some ⟨b703, 0, none⟩)) rfl).trans ((fr_upd (t := 5) (v := .pointer (some ⟨b735, 0, none⟩)) rfl).trans rfl)))), hL1134, hst⟩
     ·skip
      replace hm := bif_f hc816 hm
      refine wp_iff (congrArg Value.bool hc816) ?_
      refine wp_seq (wp_region_lit ?_)
      refine wv (.bool ((IntKind.u8.wrap t714.1) == (5:Int))) rfl rfl rfl ?_
      refine wv (.bool ((IntKind.u8.wrap t714.1) == (5:Int))) rfl rfl rfl ?_
      refine wl_nil (then_n ?_)
      refine bsplit ((IntKind.u8.wrap t714.1) == (5:Int)) (fun hc1012 => ?_) (fun hc1012 => ?_)
      ·skip
       replace hm := bif_t hc1012 hm
       refine wp_ift (congrArg Value.bool hc1012) ?_
       refine wp_region_lit ?_
       refine wv (.func (.func 49) #[] #[.pointer (some ⟨b703, 0, none⟩), .pointer (some ⟨b735, 0, none⟩)]) rfl rfl rfl ?_
       obtain ⟨y1029, hq1030, hm⟩ := bind_some hm
       refine wl_call rfl rfl (x_callv Try.call49 (caps := [.pointer (some ⟨b703, 0, none⟩), .pointer (some ⟨b735, 0, none⟩)]) rfl (vs := []) rfl) ?_
       refine Calls.mono (show Calls Try.prog 49 #[.pointer (some ⟨b703, 0, none⟩), .pointer (some ⟨b735, 0, none⟩)] _ (fun e w' => ∃ (z1025 : octet_Reader) (z1026 : Int) (z1027 : Int), y1029 = (z1025, z1026, z1027) ∧ e = .returned (.tuple #[]) ∧ St w0 w' I [cells b691 [.int .u8 (0:Int), .int .u64 (0:Int), .int .u64 (0:Int), .int .u64 (0:Int), .int .u64 (0:Int), .int .i64 (0:Int), .int .u64 (0:Int), .int .u64 (0:Int), .int .u64 (0:Int), (.slice none 0 0), (.slice none 0 0), (.slice none 0 0), (.slice none 0 0), (.slice none 0 0), .int .i64 (0:Int), .int .u64 (0:Int), .int .u64 (0:Int), (.slice none 0 0), (.slice none 0 0), .int .u64 (0:Int), (.slice none 0 0), .int .u64 (0:Int), .int .i64 (0:Int), .int .i64 (0:Int), .float .f64 (0:Nat), .float .f64 (0:Nat), .int .u64 (0:Int), .int .i64 (0:Int), .bool false], at_octet_Reader (.pointer (some ⟨b708, 0, none⟩)) z1025, cells b703 [.pointer (some ⟨b708, 0, none⟩)], cells b735 [.int .u8 (IntKind.u8.wrap t714.1), .int .u64 z1026, .int .u64 z1027, .int .u64 (0:Int), .int .u64 (0:Int), .int .i64 (0:Int), .int .u64 (0:Int), .int .u64 (0:Int), .int .u64 (0:Int), (.slice none 0 0), (.slice none 0 0), (.slice none 0 0), (.slice none 0 0), (.slice none 0 0), .int .i64 (0:Int), .int .u64 (0:Int), .int .u64 (0:Int), (.slice none 0 0), (.slice none 0 0), .int .u64 (0:Int), (.slice none 0 0), .int .u64 (0:Int), .int .i64 (0:Int), .int .i64 (0:Int), .float .f64 (0:Nat), .float .f64 (0:Nat), .int .u64 (0:Int), .int .i64 (0:Int), .bool false]] R) from ?_) ?_
       ·skip
        clear hm; have hm := hq1030
        refine calls_start (args := [.pointer (some ⟨b703, 0, none⟩), .pointer (some ⟨b735, 0, none⟩)]) Try.func49 rfl Try.ntmps49 (Nat.le_of_ble_eq_true rfl) ?_
        refine wp_region_St hst 7 [0, 1, 2, 3, 4, 5, 6] [0, 1, 0, 7, 15, 31, 63] [] rfl (by kernel_rfl) (by kernel_rfl) Try.mixed (by kernel_rfl) ?_
        refine wsr (.pointer (some ⟨b708, 0, none⟩)) 0 rfl rfl rfl (by kernel_rfl) (fun w hst => x_load rfl Try.isAgg62 (hst.bc2 rfl)) ?_
        refine wsr (.pointer (some ⟨b708, 0, none⟩)) 2 rfl rfl rfl (by kernel_rfl) (fun w hst => x_load rfl Try.isAgg62 (hst.bc2 rfl)) ?_
        refine ws_e1 1 (by kernel_rfl) ?_
        refine nxe [3, 4, 5, 6] (by kernel_rfl) rfl rfl ?_
        clear hst
        intro w hst
        replace hst := hst.pull1
        obtain ⟨t1013, ht1014, hm⟩ := bind_some hm
        refine we_call rfl (x_call Try.call13 rfl (vs := [.pointer (some ⟨b708, 0, none⟩), .int .i64 (8:Int)]) rfl) ?_
        refine (octet_Reader_Num_ref hst.to1 ht1014).mono ?_
        rintro _ w1015 ⟨rfl, hst⟩
        refine ⟨_, rfl, ?_⟩
        replace hst := hst.of1
        refine ws_next (pend' := [(2, .pointer (some ⟨b708, 0, none⟩))]) hst (by kernel_rfl) (pkr rfl rfl (fun w hst => x_load rfl Try.isAgg62 (hst.bc2 rfl)) pk_nil) ?_
        refine ws_e1 3 (by kernel_rfl) ?_
        refine nxe [4, 5, 6] (by kernel_rfl) rfl rfl ?_
        clear hst
        intro w hst
        obtain ⟨t1018, ht1019, hm⟩ := bind_some hm
        refine we_call rfl (x_call Try.call13 rfl (vs := [.pointer (some ⟨b708, 0, none⟩), .int .i64 (8:Int)]) rfl) ?_
        refine (octet_Reader_Num_ref hst.to1 ht1019).mono ?_
        rintro _ w1020 ⟨rfl, hst⟩
        refine ⟨_, rfl, ?_⟩
        replace hst := hst.of1
        refine ws_next (pend' := []) hst (by kernel_rfl) pk_nil ?_
        refine wsr (.agg #[.int .u64 t1013.1, .int .u64 t1018.1]) 4 rfl rfl rfl (by kernel_rfl) (fun w hst => by kernel_rfl) ?_
        refine wsr (.pointer (some ⟨b735, 1, none⟩)) 5 rfl rfl rfl (by kernel_rfl) (fun w hst => x_field rfl Try.underlying48 rfl Try.sizeOf32 rfl) ?_
        refine ws_e1 6 (by kernel_rfl) ?_
        refine nxe [] (by kernel_rfl) rfl rfl ?_
        clear hst
        intro w hst
        replace hst := hst.pull1
        obtain ⟨w1023, hr1024, hst⟩ := hst.boxStore (P := Try.prog) (t := 32) (cs' := [.int .u8 (IntKind.u8.wrap t714.1), .int .u64 t1013.1, .int .u64 t1018.1, .int .u64 (0:Int), .int .u64 (0:Int), .int .i64 (0:Int), .int .u64 (0:Int), .int .u64 (0:Int), .int .u64 (0:Int), (.slice none 0 0), (.slice none 0 0), (.slice none 0 0), (.slice none 0 0), (.slice none 0 0), .int .i64 (0:Int), .int .u64 (0:Int), .int .u64 (0:Int), (.slice none 0 0), (.slice none 0 0), .int .u64 (0:Int), (.slice none 0 0), .int .u64 (0:Int), .int .i64 (0:Int), .int .i64 (0:Int), .float .f64 (0:Nat), .float .f64 (0:Nat), .int .u64 (0:Int), .int .i64 (0:Int), .bool false]) 1 (.agg #[.int .u64 t1013.1, .int .u64 t1018.1]) Try.sizeOf32 (Nat.le_of_ble_eq_true rfl) (ones_cons rfl (ones_cons rfl ones_nil)) (by kernel_rfl)
        refine we_unit rfl (x_unit hr1024) ?_
        refine ws_next (pend' := []) hst (by kernel_rfl) pk_nil ?_
        refine ws_nil ?_
        intro w hst
        refine post_end (vs := []) Try.results49 rvs_nil ?_
        replace hst := hst.pull2
        replace hst := hst.pull2
        replace hst := hst.pull3
        replace hst := hst.keep4
        obtain rfl := some_inj hm
        exact ⟨t1018.2, t1013.1, t1018.1, rfl, rfl, hst⟩
       clear hst
       rintro _ w1031 ⟨z1025, z1026, z1027, rfl, rfl, hst⟩
       refine ⟨_, rfl, ?_⟩
       try dsimp only at hm
       refine wl_nil (blk_n (then_n ?_))
       replace hst := hst.own_nil tyF64
       replace hst := hst.own_nil tyF2
       replace hst := hst.own_nil tyF64
       replace hst := hst.own_nil (tyInt .u8)
       replace hst := hst.own_nil ty_api_Write
       replace hst := hst.own_nil ty_api_Got
       replace hst := hst.own_nil (tySl ty_api_Pair)
       replace hst := hst.own_nil ty_api_Part
       replace hst := hst.pull1
       replace hst := hst.pull2
       replace hst := hst.pull3
       replace hst := hst.pull4
       replace hst := hst.pull5
       replace hst := hst.pull6
       replace hst := hst.pull7
       replace hst := hst.pull11
       replace hst := hst.pull10
       replace hst := hst.pull11
       replace hst := hst.pull11
       replace hst := hst.keep12
       obtain rfl := some_inj hm
       exact ⟨_, z1025, ({ Kind := (IntKind.u8.wrap t714.1), ID := ({ Session := z1026, Seq := z1027 } : api_ID), Epoch := (0:Int), Index := (0:Int), E := (0:Int), Hold := ({ ID := ({ Session := (0:Int), Seq := (0:Int) } : api_ID), Epoch := (0:Int), Gets := [], Scans := [], Puts := [], Data := [] } : api_Hold), Writes := [], R := ({ E := (0:Int), Epoch := (0:Int), Index := (0:Int), Gots := [], Scans := [] } : api_Reply), Shards := (0:Int), Parts := [], Rule := ({ ID := (0:Int), From := (0:Int), To := (0:Int), Lo := (0:Nat), Hi := (0:Nat), Authority := (0:Int), Quota := (0:Int) } : api_Rule), On := false } : api_Command), (.slice none 0 0), (.slice none 0 0), (.slice none 0 0), (.slice none 0 0), (.slice none 0 0), (.slice none 0 0), (.slice none 0 0), (.slice none 0 0), _, hx1133, ((fr_upd (t := 0) (v := r0_0) rfl).trans ((fr_upd (t := 2) (v := .pointer (some ⟨b691, 0, none⟩)) rfl).trans ((fr_upd (t := 4) (v := .pointer (some ⟨b703, 0, none⟩)) rfl).trans ((fr_upd (t := 5) (v := .pointer (some ⟨b735, 0, none⟩)) rfl).trans rfl)))), hL1134, hst⟩
      ·skip
       replace hm := bif_f hc1012 hm
       refine wp_iff (congrArg Value.bool hc1012) ?_
       refine wp_seq (wp_region_lit ?_)
       refine wv (.bool ((IntKind.u8.wrap t714.1) == (6:Int))) rfl rfl rfl ?_
       refine wv (.bool ((IntKind.u8.wrap t714.1) == (6:Int))) rfl rfl rfl ?_
       refine wl_nil (then_n ?_)
       refine bsplit ((IntKind.u8.wrap t714.1) == (6:Int)) (fun hc1032 => ?_) (fun hc1032 => ?_)
       ·skip
        replace hm := bif_t hc1032 hm
        refine wp_ift (congrArg Value.bool hc1032) ?_
        refine wp_seq (wp_region_lit ?_)
        refine wv (.pointer (some ⟨b708, 0, none⟩)) rfl rfl (x_load rfl Try.isAgg62 (hst.bc2 rfl)) ?_
        replace hst := hst.pull1
        obtain ⟨t1033, ht1034, hm⟩ := bind_some hm
        refine wl_call rfl rfl (x_call Try.call51 rfl (vs := [.pointer (some ⟨b708, 0, none⟩)]) rfl) ?_
        refine (command_readRule_ref hst.to1 ht1034).mono ?_
        rintro _ w1035 ⟨rfl, hst⟩
        refine ⟨_, rfl, ?_⟩
        replace hst := hst.of1
        refine wv (.pointer (some ⟨b735, 21, none⟩)) rfl rfl (x_field rfl Try.underlying48 rfl Try.sizeOf46 rfl) ?_
        replace hst := hst.pull1
        obtain ⟨w1038, hr1039, hst⟩ := hst.boxStore (P := Try.prog) (t := 46) (cs' := [.int .u8 (IntKind.u8.wrap t714.1), .int .u64 (0:Int), .int .u64 (0:Int), .int .u64 (0:Int), .int .u64 (0:Int), .int .i64 (0:Int), .int .u64 (0:Int), .int .u64 (0:Int), .int .u64 (0:Int), (.slice none 0 0), (.slice none 0 0), (.slice none 0 0), (.slice none 0 0), (.slice none 0 0), .int .i64 (0:Int), .int .u64 (0:Int), .int .u64 (0:Int), (.slice none 0 0), (.slice none 0 0), .int .u64 (0:Int), (.slice none 0 0), .int .u64 t1033.1.ID, .int .i64 t1033.1.From, .int .i64 t1033.1.To, .float .f64 t1033.1.Lo, .float .f64 t1033.1.Hi, .int .u64 t1033.1.Authority, .int .i64 t1033.1.Quota, .bool false]) 21 (.agg #[.int .u64 t1033.1.ID, .int .i64 t1033.1.From, .int .i64 t1033.1.To, .float .f64 t1033.1.Lo, .float .f64 t1033.1.Hi, .int .u64 t1033.1.Authority, .int .i64 t1033.1.Quota]) Try.sizeOf46 (Nat.le_of_ble_eq_true rfl) (ones_cons rfl (ones_cons rfl (ones_cons rfl (ones_cons rfl (ones_cons rfl (ones_cons rfl (ones_cons rfl ones_nil))))))) (by kernel_rfl)
        refine wl_unit rfl rfl (x_unit hr1039) ?_
        refine wl_nil (then_n (wp_region_lit ?_))
        refine wv (.pointer (some ⟨b708, 0, none⟩)) rfl rfl (x_load rfl Try.isAgg62 (hst.bc2 rfl)) ?_
        replace hst := hst.pull1
        obtain ⟨t1040, ht1041, hm⟩ := bind_some hm
        refine wl_call rfl rfl (x_call Try.call45 rfl (vs := [.pointer (some ⟨b708, 0, none⟩)]) rfl) ?_
        refine (octet_Reader_Flag_ref hst.to1 ht1041).mono ?_
        rintro _ w1042 ⟨rfl, hst⟩
        refine ⟨_, rfl, ?_⟩
        replace hst := hst.of1
        refine wv (.pointer (some ⟨b735, 28, none⟩)) rfl rfl (x_field rfl Try.underlying48 rfl Try.sizeOf4 rfl) ?_
        replace hst := hst.pull1
        obtain ⟨w1045, hr1046, hst⟩ := hst.boxStore (P := Try.prog) (t := 4) (cs' := [.int .u8 (IntKind.u8.wrap t714.1), .int .u64 (0:Int), .int .u64 (0:Int), .int .u64 (0:Int), .int .u64 (0:Int), .int .i64 (0:Int), .int .u64 (0:Int), .int .u64 (0:Int), .int .u64 (0:Int), (.slice none 0 0), (.slice none 0 0), (.slice none 0 0), (.slice none 0 0), (.slice none 0 0), .int .i64 (0:Int), .int .u64 (0:Int), .int .u64 (0:Int), (.slice none 0 0), (.slice none 0 0), .int .u64 (0:Int), (.slice none 0 0), .int .u64 t1033.1.ID, .int .i64 t1033.1.From, .int .i64 t1033.1.To, .float .f64 t1033.1.Lo, .float .f64 t1033.1.Hi, .int .u64 t1033.1.Authority, .int .i64 t1033.1.Quota, .bool t1040.1]) 28 (.bool t1040.1) Try.sizeOf4 (Nat.le_of_ble_eq_true rfl) (ones_cons rfl ones_nil) (by kernel_rfl)
        refine wl_unit rfl rfl (x_unit hr1046) ?_
        refine wl_nil (blk_n (then_n ?_))
        replace hst := hst.own_nil tyF64
        replace hst := hst.own_nil tyF2
        replace hst := hst.own_nil tyF64
        replace hst := hst.own_nil (tyInt .u8)
        replace hst := hst.own_nil ty_api_Write
        replace hst := hst.own_nil ty_api_Got
        replace hst := hst.own_nil (tySl ty_api_Pair)
        replace hst := hst.own_nil ty_api_Part
        replace hst := hst.pull1
        replace hst := hst.pull2
        replace hst := hst.pull3
        replace hst := hst.pull4
        replace hst := hst.pull5
        replace hst := hst.pull6
        replace hst := hst.pull7
        replace hst := hst.pull8
        replace hst := hst.pull9
        replace hst := hst.pull10
        replace hst := hst.pull11
        replace hst := hst.keep12
        obtain rfl := some_inj hm
        exact ⟨_, t1040.2, ({ Kind := (IntKind.u8.wrap t714.1), ID := ({ Session := (0:Int), Seq := (0:Int) } : api_ID), Epoch := (0:Int), Index := (0:Int), E := (0:Int), Hold := ({ ID := ({ Session := (0:Int), Seq := (0:Int) } : api_ID), Epoch := (0:Int), Gets := [], Scans := [], Puts := [], Data := [] } : api_Hold), Writes := [], R := ({ E := (0:Int), Epoch := (0:Int), Index := (0:Int), Gots := [], Scans := [] } : api_Reply), Shards := (0:Int), Parts := [], Rule := t1033.1, On := t1040.1 } : api_Command), (.slice none 0 0), (.slice none 0 0), (.slice none 0 0), (.slice none 0 0), (.slice none 0 0), (.slice none 0 0), (.slice none 0 0), (.slice none 0 0), _, hx1133, ((fr_upd (t := 0) (v := r0_0) rfl).trans ((fr_upd (t := 2) (v := .pointer (some ⟨b691, 0, none⟩)) rfl).trans ((fr_upd (t := 4) (v := .pointer (some ⟨b703, 0, none⟩)) rfl).trans ((fr_upd (t := 5) (v := .pointer (some ⟨b735, 0, none⟩)) rfl).trans rfl)))), hL1134, hst⟩
       ·skip
        replace hm := bif_f hc1032 hm
        refine wp_iff (congrArg Value.bool hc1032) ?_
        refine wp_seq (wp_region_lit ?_)
        refine wv (.bool ((IntKind.u8.wrap t714.1) == (7:Int))) rfl rfl rfl ?_
        refine wv (.bool ((IntKind.u8.wrap t714.1) == (7:Int))) rfl rfl rfl ?_
        refine wl_nil (then_n ?_)
        refine bsplit ((IntKind.u8.wrap t714.1) == (7:Int)) (fun hc1047 => ?_) (fun hc1047 => ?_)
        ·skip
         replace hm := bif_t hc1047 hm
         refine wp_ift (congrArg Value.bool hc1047) ?_
         refine wp_seq (wp_region_lit ?_)
         refine wv (.func (.func 49) #[] #[.pointer (some ⟨b703, 0, none⟩), .pointer (some ⟨b735, 0, none⟩)]) rfl rfl rfl ?_
         obtain ⟨y1064, hq1065, hm⟩ := bind_some hm
         refine wl_call rfl rfl (x_callv Try.call49 (caps := [.pointer (some ⟨b703, 0, none⟩), .pointer (some ⟨b735, 0, none⟩)]) rfl (vs := []) rfl) ?_
         refine Calls.mono (show Calls Try.prog 49 #[.pointer (some ⟨b703, 0, none⟩), .pointer (some ⟨b735, 0, none⟩)] _ (fun e w' => ∃ (z1060 : octet_Reader) (z1061 : Int) (z1062 : Int), y1064 = (z1060, z1061, z1062) ∧ e = .returned (.tuple #[]) ∧ St w0 w' I [cells b691 [.int .u8 (0:Int), .int .u64 (0:Int), .int .u64 (0:Int), .int .u64 (0:Int), .int .u64 (0:Int), .int .i64 (0:Int), .int .u64 (0:Int), .int .u64 (0:Int), .int .u64 (0:Int), (.slice none 0 0), (.slice none 0 0), (.slice none 0 0), (.slice none 0 0), (.slice none 0 0), .int .i64 (0:Int), .int .u64 (0:Int), .int .u64 (0:Int), (.slice none 0 0), (.slice none 0 0), .int .u64 (0:Int), (.slice none 0 0), .int .u64 (0:Int), .int .i64 (0:Int), .int .i64 (0:Int), .float .f64 (0:Nat), .float .f64 (0:Nat), .int .u64 (0:Int), .int .i64 (0:Int), .bool false], at_octet_Reader (.pointer (some ⟨b708, 0, none⟩)) z1060, cells b703 [.pointer (some ⟨b708, 0, none⟩)], cells b735 [.int .u8 (IntKind.u8.wrap t714.1), .int .u64 z1061, .int .u64 z1062, .int .u64 (0:Int), .int .u64 (0:Int), .int .i64 (0:Int), .int .u64 (0:Int), .int .u64 (0:Int), .int .u64 (0:Int), (.slice none 0 0), (.slice none 0 0), (.slice none 0 0), (.slice none 0 0), (.slice none 0 0), .int .i64 (0:Int), .int .u64 (0:Int), .int .u64 (0:Int), (.slice none 0 0), (.slice none 0 0), .int .u64 (0:Int), (.slice none 0 0), .int .u64 (0:Int), .int .i64 (0:Int), .int .i64 (0:Int), .float .f64 (0:Nat), .float .f64 (0:Nat), .int .u64 (0:Int), .int .i64 (0:Int), .bool false]] R) from ?_) ?_
         ·skip
          clear hm; have hm := hq1065
          refine calls_start (args := [.pointer (some ⟨b703, 0, none⟩), .pointer (some ⟨b735, 0, none⟩)]) Try.func49 rfl Try.ntmps49 (Nat.le_of_ble_eq_true rfl) ?_
          refine wp_region_St hst 7 [0, 1, 2, 3, 4, 5, 6] [0, 1, 0, 7, 15, 31, 63] [] rfl (by kernel_rfl) (by kernel_rfl) Try.mixed (by kernel_rfl) ?_
          refine wsr (.pointer (some ⟨b708, 0, none⟩)) 0 rfl rfl rfl (by kernel_rfl) (fun w hst => x_load rfl Try.isAgg62 (hst.bc2 rfl)) ?_
          refine wsr (.pointer (some ⟨b708, 0, none⟩)) 2 rfl rfl rfl (by kernel_rfl) (fun w hst => x_load rfl Try.isAgg62 (hst.bc2 rfl)) ?_
          refine ws_e1 1 (by kernel_rfl) ?_
          refine nxe [3, 4, 5, 6] (by kernel_rfl) rfl rfl ?_
          clear hst
          intro w hst
          replace hst := hst.pull1
          obtain ⟨t1048, ht1049, hm⟩ := bind_some hm
          refine we_call rfl (x_call Try.call13 rfl (vs := [.pointer (some ⟨b708, 0, none⟩), .int .i64 (8:Int)]) rfl) ?_
          refine (octet_Reader_Num_ref hst.to1 ht1049).mono ?_
          rintro _ w1050 ⟨rfl, hst⟩
          refine ⟨_, rfl, ?_⟩
          replace hst := hst.of1
          refine ws_next (pend' := [(2, .pointer (some ⟨b708, 0, none⟩))]) hst (by kernel_rfl) (pkr rfl rfl (fun w hst => x_load rfl Try.isAgg62 (hst.bc2 rfl)) pk_nil) ?_
          refine ws_e1 3 (by kernel_rfl) ?_
          refine nxe [4, 5, 6] (by kernel_rfl) rfl rfl ?_
          clear hst
          intro w hst
          obtain ⟨t1053, ht1054, hm⟩ := bind_some hm
          refine we_call rfl (x_call Try.call13 rfl (vs := [.pointer (some ⟨b708, 0, none⟩), .int .i64 (8:Int)]) rfl) ?_
          refine (octet_Reader_Num_ref hst.to1 ht1054).mono ?_
          rintro _ w1055 ⟨rfl, hst⟩
          refine ⟨_, rfl, ?_⟩
          replace hst := hst.of1
          refine ws_next (pend' := []) hst (by kernel_rfl) pk_nil ?_
          refine wsr (.agg #[.int .u64 t1048.1, .int .u64 t1053.1]) 4 rfl rfl rfl (by kernel_rfl) (fun w hst => by kernel_rfl) ?_
          refine wsr (.pointer (some ⟨b735, 1, none⟩)) 5 rfl rfl rfl (by kernel_rfl) (fun w hst => x_field rfl Try.underlying48 rfl Try.sizeOf32 rfl) ?_
          refine ws_e1 6 (by kernel_rfl) ?_
          refine nxe [] (by kernel_rfl) rfl rfl ?_
          clear hst
          intro w hst
          replace hst := hst.pull1
          obtain ⟨w1058, hr1059, hst⟩ := hst.boxStore (P := Try.prog) (t := 32) (cs' := [.int .u8 (IntKind.u8.wrap t714.1), .int .u64 t1048.1, .int .u64 t1053.1, .int .u64 (0:Int), .int .u64 (0:Int), .int .i64 (0:Int), .int .u64 (0:Int), .int .u64 (0:Int), .int .u64 (0:Int), (.slice none 0 0), (.slice none 0 0), (.slice none 0 0), (.slice none 0 0), (.slice none 0 0), .int .i64 (0:Int), .int .u64 (0:Int), .int .u64 (0:Int), (.slice none 0 0), (.slice none 0 0), .int .u64 (0:Int), (.slice none 0 0), .int .u64 (0:Int), .int .i64 (0:Int), .int .i64 (0:Int), .float .f64 (0:Nat), .float .f64 (0:Nat), .int .u64 (0:Int), .int .i64 (0:Int), .bool false]) 1 (.agg #[.int .u64 t1048.1, .int .u64 t1053.1]) Try.sizeOf32 (Nat.le_of_ble_eq_true rfl) (ones_cons rfl (ones_cons rfl ones_nil)) (by kernel_rfl)
          refine we_unit rfl (x_unit hr1059) ?_
          refine ws_next (pend' := []) hst (by kernel_rfl) pk_nil ?_
          refine ws_nil ?_
          intro w hst
          refine post_end (vs := []) Try.results49 rvs_nil ?_
          replace hst := hst.pull2
          replace hst := hst.pull2
          replace hst := hst.pull3
          replace hst := hst.keep4
          obtain rfl := some_inj hm
          exact ⟨t1053.2, t1048.1, t1053.1, rfl, rfl, hst⟩
         clear hst
         rintro _ w1066 ⟨z1060, z1061, z1062, rfl, rfl, hst⟩
         refine ⟨_, rfl, ?_⟩
         try dsimp only at hm
         refine wl_nil (then_n (wp_seq (wp_region_lit ?_)))
         refine wv (.pointer (some ⟨b708, 0, none⟩)) rfl rfl (x_load rfl Try.isAgg62 (hst.bc2 rfl)) ?_
         replace hst := hst.pull1
         obtain ⟨t1067, ht1068, hm⟩ := bind_some hm
         refine wl_call rfl rfl (x_call Try.call13 rfl (vs := [.pointer (some ⟨b708, 0, none⟩), .int .i64 (8:Int)]) rfl) ?_
         refine (octet_Reader_Num_ref hst.to1 ht1068).mono ?_
         rintro _ w1069 ⟨rfl, hst⟩
         refine ⟨_, rfl, ?_⟩
         replace hst := hst.of1
         refine wv (.pointer (some ⟨b735, 3, none⟩)) rfl rfl (x_field rfl Try.underlying48 rfl Try.sizeOf25 rfl) ?_
         replace hst := hst.pull3
         obtain ⟨w1072, hr1073, hst⟩ := hst.boxStore (P := Try.prog) (t := 25) (cs' := [.int .u8 (IntKind.u8.wrap t714.1), .int .u64 z1061, .int .u64 z1062, .int .u64 t1067.1, .int .u64 (0:Int), .int .i64 (0:Int), .int .u64 (0:Int), .int .u64 (0:Int), .int .u64 (0:Int), (.slice none 0 0), (.slice none 0 0), (.slice none 0 0), (.slice none 0 0), (.slice none 0 0), .int .i64 (0:Int), .int .u64 (0:Int), .int .u64 (0:Int), (.slice none 0 0), (.slice none 0 0), .int .u64 (0:Int), (.slice none 0 0), .int .u64 (0:Int), .int .i64 (0:Int), .int .i64 (0:Int), .float .f64 (0:Nat), .float .f64 (0:Nat), .int .u64 (0:Int), .int .i64 (0:Int), .bool false]) 3 (.int .u64 t1067.1) Try.sizeOf25 (Nat.le_of_ble_eq_true rfl) (ones_cons rfl ones_nil) (by kernel_rfl)
         refine wl_unit rfl rfl (x_unit hr1073) ?_
         refine wl_nil (then_n (wp_seq (wp_region_lit ?_)))
         refine wv (.pointer (some ⟨b708, 0, none⟩)) rfl rfl (x_load rfl Try.isAgg62 (hst.bc3 rfl)) ?_
         replace hst := hst.pull1
         obtain ⟨t1074, ht1075, hm⟩ := bind_some hm
         refine wl_call rfl rfl (x_call Try.call51 rfl (vs := [.pointer (some ⟨b708, 0, none⟩)]) rfl) ?_
         refine (command_readRule_ref hst.to1 ht1075).mono ?_
         rintro _ w1076 ⟨rfl, hst⟩
         refine ⟨_, rfl, ?_⟩
         replace hst := hst.of1
         refine wv (.pointer (some ⟨b735, 21, none⟩)) rfl rfl (x_field rfl Try.underlying48 rfl Try.sizeOf46 rfl) ?_
         replace hst := hst.pull1
         obtain ⟨w1079, hr1080, hst⟩ := hst.boxStore (P := Try.prog) (t := 46) (cs' := [.int .u8 (IntKind.u8.wrap t714.1), .int .u64 z1061, .int .u64 z1062, .int .u64 t1067.1, .int .u64 (0:Int), .int .i64 (0:Int), .int .u64 (0:Int), .int .u64 (0:Int), .int .u64 (0:Int), (.slice none 0 0), (.slice none 0 0), (.slice none 0 0), (.slice none 0 0), (.slice none 0 0), .int .i64 (0:Int), .int .u64 (0:Int), .int .u64 (0:Int), (.slice none 0 0), (.slice none 0 0), .int .u64 (0:Int), (.slice none 0 0), .int .u64 t1074.1.ID, .int .i64 t1074.1.From, .int .i64 t1074.1.To, .float .f64 t1074.1.Lo, .float .f64 t1074.1.Hi, .int .u64 t1074.1.Authority, .int .i64 t1074.1.Quota, .bool false]) 21 (.agg #[.int .u64 t1074.1.ID, .int .i64 t1074.1.From, .int .i64 t1074.1.To, .float .f64 t1074.1.Lo, .float .f64 t1074.1.Hi, .int .u64 t1074.1.Authority, .int .i64 t1074.1.Quota]) Try.sizeOf46 (Nat.le_of_ble_eq_true rfl) (ones_cons rfl (ones_cons rfl (ones_cons rfl (ones_cons rfl (ones_cons rfl (ones_cons rfl (ones_cons rfl ones_nil))))))) (by kernel_rfl)
         refine wl_unit rfl rfl (x_unit hr1080) ?_
         refine wl_nil (then_n (wp_seq (wp_region_lit ?_)))
         refine wv (.pointer (some ⟨b708, 0, none⟩)) rfl rfl (x_load rfl Try.isAgg62 (hst.bc3 rfl)) ?_
         replace hst := hst.pull1
         obtain ⟨t1081, ht1082, hm⟩ := bind_some hm
         refine wl_call rfl rfl (x_call Try.call50 rfl (vs := [.pointer (some ⟨b708, 0, none⟩)]) rfl) ?_
         refine (command_readWrites_ref hst.to1 ht1082).mono ?_
         rintro _ w1083 ⟨I1084, v1086, rfl, hI1085, hst⟩
         refine ⟨_, rfl, ?_⟩
         replace hst := hst.of2
         replace f0_0 := f0_0.mono (ro_le hI1085)
         replace f711 := f711.mono (ro_le hI1085)
         replace hI0 := hI0.trans hI1085
         replace hL1134 := hL1134.trans hI1085
         refine wv (.pointer (some ⟨b735, 13, none⟩)) rfl rfl (x_field rfl Try.underlying48 rfl Try.sizeOf42 rfl) ?_
         replace hst := hst.pull2
         obtain ⟨w1088, hr1089, hst⟩ := hst.boxStore1 (P := Try.prog) (t := 42) (cs' := [.int .u8 (IntKind.u8.wrap t714.1), .int .u64 z1061, .int .u64 z1062, .int .u64 t1067.1, .int .u64 (0:Int), .int .i64 (0:Int), .int .u64 (0:Int), .int .u64 (0:Int), .int .u64 (0:Int), (.slice none 0 0), (.slice none 0 0), (.slice none 0 0), (.slice none 0 0), v1086, .int .i64 (0:Int), .int .u64 (0:Int), .int .u64 (0:Int), (.slice none 0 0), (.slice none 0 0), .int .u64 (0:Int), (.slice none 0 0), .int .u64 t1074.1.ID, .int .i64 t1074.1.From, .int .i64 t1074.1.To, .float .f64 t1074.1.Lo, .float .f64 t1074.1.Hi, .int .u64 t1074.1.Authority, .int .i64 t1074.1.Quota, .bool false]) 13 v1086 (one_of_sliceV hst.sv1) Try.sizeOf42 rfl rfl
         refine wl_unit rfl rfl (x_unit hr1089) ?_
         refine wl_nil (then_n (wp_region_lit ?_))
         refine wv (.pointer (some ⟨b708, 0, none⟩)) rfl rfl (x_load rfl Try.isAgg62 (hst.bc4 rfl)) ?_
         replace hst := hst.pull2
         obtain ⟨t1090, ht1091, hm⟩ := bind_some hm
         refine wl_call rfl rfl (x_call Try.call16 rfl (vs := [.pointer (some ⟨b708, 0, none⟩)]) rfl) ?_
         refine (command_ReadReply_ref hst.to1 ht1091).mono ?_
         rintro _ w1092 ⟨I1093, v1095, v1097, rfl, hI1094, hst⟩
         refine ⟨_, rfl, ?_⟩
         replace hst := hst.of3
         replace f0_0 := f0_0.mono (ro_le hI1094)
         replace f711 := f711.mono (ro_le hI1094)
         replace hI0 := hI0.trans hI1094
         replace hL1134 := hL1134.trans hI1094
         refine wv (.pointer (some ⟨b735, 14, none⟩)) rfl rfl (x_field rfl Try.underlying48 rfl Try.sizeOf41 rfl) ?_
         replace hst := hst.pull3
         obtain ⟨w1099, hr1100, hst⟩ := hst.boxStore (P := Try.prog) (t := 41) (cs' := [.int .u8 (IntKind.u8.wrap t714.1), .int .u64 z1061, .int .u64 z1062, .int .u64 t1067.1, .int .u64 (0:Int), .int .i64 (0:Int), .int .u64 (0:Int), .int .u64 (0:Int), .int .u64 (0:Int), (.slice none 0 0), (.slice none 0 0), (.slice none 0 0), (.slice none 0 0), v1086, .int .i64 t1090.1.E, .int .u64 t1090.1.Epoch, .int .u64 t1090.1.Index, v1095, v1097, .int .u64 (0:Int), (.slice none 0 0), .int .u64 t1074.1.ID, .int .i64 t1074.1.From, .int .i64 t1074.1.To, .float .f64 t1074.1.Lo, .float .f64 t1074.1.Hi, .int .u64 t1074.1.Authority, .int .i64 t1074.1.Quota, .bool false]) 14 (.agg #[.int .i64 t1090.1.E, .int .u64 t1090.1.Epoch, .int .u64 t1090.1.Index, v1095, v1097]) Try.sizeOf41 (Nat.le_of_ble_eq_true rfl) (ones_cons rfl (ones_cons rfl (ones_cons rfl (ones_cons (one_of_sliceV hst.sv1) (ones_cons (one_of_sliceV hst.sv2) ones_nil))))) (by kernel_rfl)
         refine wl_unit rfl rfl (x_unit hr1100) ?_
         refine wl_nil (blk_n (then_n ?_))
         replace hst := hst.own_nil tyF64
         replace hst := hst.own_nil tyF2
         replace hst := hst.own_nil tyF64
         replace hst := hst.own_nil (tyInt .u8)
         replace hst := hst.own_nil ty_api_Part
         replace hst := hst.pull7
         replace hst := hst.pull7
         replace hst := hst.pull9
         replace hst := hst.pull4
         replace hst := hst.pull5
         replace hst := hst.pull6
         replace hst := hst.pull7
         replace hst := hst.pull8
         replace hst := hst.pull9
         replace hst := hst.pull11
         replace hst := hst.pull11
         replace hst := hst.keep12
         obtain rfl := some_inj hm
         exact ⟨_, t1090.2, ({ Kind := (IntKind.u8.wrap t714.1), ID := ({ Session := z1061, Seq := z1062 } : api_ID), Epoch := t1067.1, Index := (0:Int), E := (0:Int), Hold := ({ ID := ({ Session := (0:Int), Seq := (0:Int) } : api_ID), Epoch := (0:Int), Gets := [], Scans := [], Puts := [], Data := [] } : api_Hold), Writes := t1081.1, R := t1090.1, Shards := (0:Int), Parts := [], Rule := t1074.1, On := false } : api_Command), (.slice none 0 0), (.slice none 0 0), (.slice none 0 0), (.slice none 0 0), v1086, v1095, v1097, (.slice none 0 0), _, hx1133, ((fr_upd (t := 0) (v := r0_0) rfl).trans ((fr_upd (t := 2) (v := .pointer (some ⟨b691, 0, none⟩)) rfl).trans ((fr_upd (t := 4) (v := .pointer (some ⟨b703, 0, none⟩)) rfl).trans ((fr_upd (t := 5) (v := .pointer (some ⟨b735, 0, none⟩)) rfl).trans rfl)))), hL1134, hst⟩
        ·skip
         replace hm := bif_f hc1047 hm
         refine wp_iff (congrArg Value.bool hc1047) ?_
         refine wp_seq (wp_region_lit ?_)
         refine wv (.agg #[.int .u8 (0:Int), .int .u64 (0:Int), .int .u64 (0:Int), .int .u64 (0:Int), .int .u64 (0:Int), .int .i64 (0:Int), .int .u64 (0:Int), .int .u64 (0:Int), .int .u64 (0:Int), (.slice none 0 0), (.slice none 0 0), (.slice none 0 0), (.slice none 0 0), (.slice none 0 0), .int .i64 (0:Int), .int .u64 (0:Int), .int .u64 (0:Int), (.slice none 0 0), (.slice none 0 0), .int .u64 (0:Int), (.slice none 0 0), .int .u64 (0:Int), .int .i64 (0:Int), .int .i64 (0:Int), .float .f64 (0:Nat), .float .f64 (0:Nat), .int .u64 (0:Int), .int .i64 (0:Int), .bool false]) rfl rfl (by kernel_rfl) ?_
         replace hst := hst.pull3
         obtain ⟨w1109, hr1110, hst⟩ := hst.boxStore (P := Try.prog) (t := 48) (cs' := [.int .u8 (0:Int), .int .u64 (0:Int), .int .u64 (0:Int), .int .u64 (0:Int), .int .u64 (0:Int), .int .i64 (0:Int), .int .u64 (0:Int), .int .u64 (0:Int), .int .u64 (0:Int), (.slice none 0 0), (.slice none 0 0), (.slice none 0 0), (.slice none 0 0), (.slice none 0 0), .int .i64 (0:Int), .int .u64 (0:Int), .int .u64 (0:Int), (.slice none 0 0), (.slice none 0 0), .int .u64 (0:Int), (.slice none 0 0), .int .u64 (0:Int), .int .i64 (0:Int), .int .i64 (0:Int), .float .f64 (0:Nat), .float .f64 (0:Nat), .int .u64 (0:Int), .int .i64 (0:Int), .bool false]) 0 (.agg #[.int .u8 (0:Int), .int .u64 (0:Int), .int .u64 (0:Int), .int .u64 (0:Int), .int .u64 (0:Int), .int .i64 (0:Int), .int .u64 (0:Int), .int .u64 (0:Int), .int .u64 (0:Int), (.slice none 0 0), (.slice none 0 0), (.slice none 0 0), (.slice none 0 0), (.slice none 0 0), .int .i64 (0:Int), .int .u64 (0:Int), .int .u64 (0:Int), (.slice none 0 0), (.slice none 0 0), .int .u64 (0:Int), (.slice none 0 0), .int .u64 (0:Int), .int .i64 (0:Int), .int .i64 (0:Int), .float .f64 (0:Nat), .float .f64 (0:Nat), .int .u64 (0:Int), .int .i64 (0:Int), .bool false]) Try.sizeOf48 (Nat.le_of_ble_eq_true rfl) (ones_cons rfl (ones_cons rfl (ones_cons rfl (ones_cons rfl (ones_cons rfl (ones_cons rfl (ones_cons rfl (ones_cons rfl (ones_cons rfl (ones_cons rfl (ones_cons rfl (ones_cons rfl (ones_cons rfl (ones_cons rfl (ones_cons rfl (ones_cons rfl (ones_cons rfl (ones_cons rfl (ones_cons rfl (ones_cons rfl (ones_cons rfl (ones_cons rfl (ones_cons rfl (ones_cons rfl (ones_cons rfl (ones_cons rfl (ones_cons rfl (ones_cons rfl (ones_cons rfl ones_nil))))))))))))))))))))))))))))) (by kernel_rfl)
         refine wl_unit rfl rfl (x_unit hr1110) ?_
         refine wv (.int .i64 (5:Int)) rfl rfl rfl ?_
         refine wl_nil (then_n (wp_ret (blk_r (then_r ?_))))
         replace hm := inr_up hm hx1133
         replace hst := hst.own_nil tyF64
         replace hst := hst.own_nil tyF2
         replace hst := hst.own_nil tyF64
         replace hst := hst.own_nil (tyInt .u8)
         replace hst := hst.own_nil ty_api_Write
         replace hst := hst.own_nil ty_api_Got
         replace hst := hst.own_nil (tySl ty_api_Pair)
         replace hst := hst.own_nil ty_api_Part
         obtain rfl := some_inj hm
         refine post_ret (vs := [.agg #[.int .u8 (0:Int), .int .u64 (0:Int), .int .u64 (0:Int), .int .u64 (0:Int), .int .u64 (0:Int), .int .i64 (0:Int), .int .u64 (0:Int), .int .u64 (0:Int), .int .u64 (0:Int), (.slice none 0 0), (.slice none 0 0), (.slice none 0 0), (.slice none 0 0), (.slice none 0 0), .int .i64 (0:Int), .int .u64 (0:Int), .int .u64 (0:Int), (.slice none 0 0), (.slice none 0 0), .int .u64 (0:Int), (.slice none 0 0), .int .u64 (0:Int), .int .i64 (0:Int), .int .i64 (0:Int), .float .f64 (0:Nat), .float .f64 (0:Nat), .int .u64 (0:Int), .int .i64 (0:Int), .bool false], .int .i64 (5:Int)]) Try.results17 (rvs_cons (rv_cell (cs := [.int .u8 (0:Int), .int .u64 (0:Int), .int .u64 (0:Int), .int .u64 (0:Int), .int .u64 (0:Int), .int .i64 (0:Int), .int .u64 (0:Int), .int .u64 (0:Int), .int .u64 (0:Int), (.slice none 0 0), (.slice none 0 0), (.slice none 0 0), (.slice none 0 0), (.slice none 0 0), .int .i64 (0:Int), .int .u64 (0:Int), .int .u64 (0:Int), (.slice none 0 0), (.slice none 0 0), .int .u64 (0:Int), (.slice none 0 0), .int .u64 (0:Int), .int .i64 (0:Int), .int .i64 (0:Int), .float .f64 (0:Nat), .float .f64 (0:Nat), .int .u64 (0:Int), .int .i64 (0:Int), .bool false]) rfl Try.isAgg48 Try.sizeOf48 (hst.bcs8 0 rfl)) (rvs_cons (rv_tmp rfl) rvs_nil)) ?_
         replace hst := hst.pull1
         replace hst := hst.pull2
         replace hst := hst.pull3
         replace hst := hst.pull4
         replace hst := hst.pull5
         replace hst := hst.pull6
         replace hst := hst.pull7
         exact ⟨_, (.slice none 0 0), (.slice none 0 0), (.slice none 0 0), (.slice none 0 0), (.slice none 0 0), (.slice none 0 0), (.slice none 0 0), (.slice none 0 0), rfl, hI0, hst.keep8⟩
 ·skip
  clear hst
  rintro _ w1135 ⟨I1129, z1111, z1112, v1114, v1116, v1118, v1120, v1122, v1124, v1126, v1128, σ1130, hm, rfl, hL1131, hst⟩
  dsimp only [command_Decode_j0] at hm
  replace f0_0 := f0_0.mono (ro_le hL1131)
  replace f711 := f711.mono (ro_le hL1131)
  replace hI0 := hI0.trans hL1131
  refine wp_seq (wp_seq (wp_region_lit ?_))
  refine wv (.pointer (some ⟨b708, 0, none⟩)) rfl rfl (x_load rfl Try.isAgg62 (hst.bc1 rfl)) ?_
  replace hst := hst.pull2
  obtain ⟨t1136, ht1137, hm⟩ := bind_some hm
  refine wl_call rfl rfl (x_call Try.call19 rfl (vs := [.pointer (some ⟨b708, 0, none⟩)]) rfl) ?_
  refine (octet_Reader_End_ref hst.to1 ht1137).mono ?_
  rintro _ w1138 ⟨rfl, hst⟩
  refine ⟨_, rfl, ?_⟩
  replace hst := hst.of1
  refine wv (.bool (!t1136)) rfl rfl rfl ?_
  refine wv (.bool (!t1136)) rfl rfl rfl ?_
  refine bsplit (!t1136) (fun hc1141 => ?_) (fun hc1141 => ?_)
  ·skip
   replace hm := bif_t hc1141 hm
   refine wo hc1141 rfl rfl rfl rfl rfl rfl ?_
   refine wo hc1141 rfl rfl rfl rfl rfl rfl ?_
   refine wo hc1141 rfl rfl rfl rfl rfl rfl ?_
   refine wo hc1141 rfl rfl rfl rfl rfl rfl ?_
   refine wo hc1141 rfl rfl rfl rfl rfl rfl ?_
   refine wv (.bool true) rfl rfl (x_pick_t hc1141 rfl rfl) ?_
   refine wl_nil (then_n ?_)
   refine wp_ift rfl ?_
   refine wp_seq (wp_region_lit ?_)
   refine wv (.agg #[.int .u8 (0:Int), .int .u64 (0:Int), .int .u64 (0:Int), .int .u64 (0:Int), .int .u64 (0:Int), .int .i64 (0:Int), .int .u64 (0:Int), .int .u64 (0:Int), .int .u64 (0:Int), (.slice none 0 0), (.slice none 0 0), (.slice none 0 0), (.slice none 0 0), (.slice none 0 0), .int .i64 (0:Int), .int .u64 (0:Int), .int .u64 (0:Int), (.slice none 0 0), (.slice none 0 0), .int .u64 (0:Int), (.slice none 0 0), .int .u64 (0:Int), .int .i64 (0:Int), .int .i64 (0:Int), .float .f64 (0:Nat), .float .f64 (0:Nat), .int .u64 (0:Int), .int .i64 (0:Int), .bool false]) rfl rfl (by kernel_rfl) ?_
   replace hst := hst.pull1
   obtain ⟨w1150, hr1151, hst⟩ := hst.boxStore (P := Try.prog) (t := 48) (cs' := [.int .u8 (0:Int), .int .u64 (0:Int), .int .u64 (0:Int), .int .u64 (0:Int), .int .u64 (0:Int), .int .i64 (0:Int), .int .u64 (0:Int), .int .u64 (0:Int), .int .u64 (0:Int), (.slice none 0 0), (.slice none 0 0), (.slice none 0 0), (.slice none 0 0), (.slice none 0 0), .int .i64 (0:Int), .int .u64 (0:Int), .int .u64 (0:Int), (.slice none 0 0), (.slice none 0 0), .int .u64 (0:Int), (.slice none 0 0), .int .u64 (0:Int), .int .i64 (0:Int), .int .i64 (0:Int), .float .f64 (0:Nat), .float .f64 (0:Nat), .int .u64 (0:Int), .int .i64 (0:Int), .bool false]) 0 (.agg #[.int .u8 (0:Int), .int .u64 (0:Int), .int .u64 (0:Int), .int .u64 (0:Int), .int .u64 (0:Int), .int .i64 (0:Int), .int .u64 (0:Int), .int .u64 (0:Int), .int .u64 (0:Int), (.slice none 0 0), (.slice none 0 0), (.slice none 0 0), (.slice none 0 0), (.slice none 0 0), .int .i64 (0:Int), .int .u64 (0:Int), .int .u64 (0:Int), (.slice none 0 0), (.slice none 0 0), .int .u64 (0:Int), (.slice none 0 0), .int .u64 (0:Int), .int .i64 (0:Int), .int .i64 (0:Int), .float .f64 (0:Nat), .float .f64 (0:Nat), .int .u64 (0:Int), .int .i64 (0:Int), .bool false]) Try.sizeOf48 (Nat.le_of_ble_eq_true rfl) (ones_cons rfl (ones_cons rfl (ones_cons rfl (ones_cons rfl (ones_cons rfl (ones_cons rfl (ones_cons rfl (ones_cons rfl (ones_cons rfl (ones_cons rfl (ones_cons rfl (ones_cons rfl (ones_cons rfl (ones_cons rfl (ones_cons rfl (ones_cons rfl (ones_cons rfl (ones_cons rfl (ones_cons rfl (ones_cons rfl (ones_cons rfl (ones_cons rfl (ones_cons rfl (ones_cons rfl (ones_cons rfl (ones_cons rfl (ones_cons rfl (ones_cons rfl (ones_cons rfl ones_nil))))))))))))))))))))))))))))) (by kernel_rfl)
   refine wl_unit rfl rfl (x_unit hr1151) ?_
   refine wv (.int .i64 (5:Int)) rfl rfl rfl ?_
   refine wl_nil (then_n (wp_ret (then_r ?_)))
   replace hst := hst.own_nil tyF64
   replace hst := hst.own_nil tyF2
   replace hst := hst.own_nil tyF64
   replace hst := hst.own_nil (tyInt .u8)
   replace hst := hst.own_nil ty_api_Write
   replace hst := hst.own_nil ty_api_Got
   replace hst := hst.own_nil (tySl ty_api_Pair)
   replace hst := hst.own_nil ty_api_Part
   obtain rfl := some_inj hm
   refine post_ret (vs := [.agg #[.int .u8 (0:Int), .int .u64 (0:Int), .int .u64 (0:Int), .int .u64 (0:Int), .int .u64 (0:Int), .int .i64 (0:Int), .int .u64 (0:Int), .int .u64 (0:Int), .int .u64 (0:Int), (.slice none 0 0), (.slice none 0 0), (.slice none 0 0), (.slice none 0 0), (.slice none 0 0), .int .i64 (0:Int), .int .u64 (0:Int), .int .u64 (0:Int), (.slice none 0 0), (.slice none 0 0), .int .u64 (0:Int), (.slice none 0 0), .int .u64 (0:Int), .int .i64 (0:Int), .int .i64 (0:Int), .float .f64 (0:Nat), .float .f64 (0:Nat), .int .u64 (0:Int), .int .i64 (0:Int), .bool false], .int .i64 (5:Int)]) Try.results17 (rvs_cons (rv_cell (cs := [.int .u8 (0:Int), .int .u64 (0:Int), .int .u64 (0:Int), .int .u64 (0:Int), .int .u64 (0:Int), .int .i64 (0:Int), .int .u64 (0:Int), .int .u64 (0:Int), .int .u64 (0:Int), (.slice none 0 0), (.slice none 0 0), (.slice none 0 0), (.slice none 0 0), (.slice none 0 0), .int .i64 (0:Int), .int .u64 (0:Int), .int .u64 (0:Int), (.slice none 0 0), (.slice none 0 0), .int .u64 (0:Int), (.slice none 0 0), .int .u64 (0:Int), .int .i64 (0:Int), .int .i64 (0:Int), .float .f64 (0:Nat), .float .f64 (0:Nat), .int .u64 (0:Int), .int .i64 (0:Int), .bool false]) rfl Try.isAgg48 Try.sizeOf48 (hst.bcs8 0 rfl)) (rvs_cons (rv_tmp rfl) rvs_nil)) ?_
   replace hst := hst.pull1
   replace hst := hst.pull2
   replace hst := hst.pull3
   replace hst := hst.pull4
   replace hst := hst.pull5
   replace hst := hst.pull6
   replace hst := hst.pull7
   exact ⟨_, (.slice none 0 0), (.slice none 0 0), (.slice none 0 0), (.slice none 0 0), (.slice none 0 0), (.slice none 0 0), (.slice none 0 0), (.slice none 0 0), rfl, hI0, hst.keep8⟩
  ·skip
   replace hm := bif_f hc1141 hm
   refine wv (.agg #[.int .u8 z1112.Kind, .int .u64 z1112.ID.Session, .int .u64 z1112.ID.Seq, .int .u64 z1112.Epoch, .int .u64 z1112.Index, .int .i64 z1112.E, .int .u64 z1112.Hold.ID.Session, .int .u64 z1112.Hold.ID.Seq, .int .u64 z1112.Hold.Epoch, v1114, v1116, v1118, v1120, v1122, .int .i64 z1112.R.E, .int .u64 z1112.R.Epoch, .int .u64 z1112.R.Index, v1124, v1126, .int .u64 z1112.Shards, v1128, .int .u64 z1112.Rule.ID, .int .i64 z1112.Rule.From, .int .i64 z1112.Rule.To, .float .f64 z1112.Rule.Lo, .float .f64 z1112.Rule.Hi, .int .u64 z1112.Rule.Authority, .int .i64 z1112.Rule.Quota, .bool z1112.On]) ((wanted_eq rfl rfl rfl (congrArg Value.bool hc1141)).trans rfl) rfl (x_loadN (cs := [.int .u8 z1112.Kind, .int .u64 z1112.ID.Session, .int .u64 z1112.ID.Seq, .int .u64 z1112.Epoch, .int .u64 z1112.Index, .int .i64 z1112.E, .int .u64 z1112.Hold.ID.Session, .int .u64 z1112.Hold.ID.Seq, .int .u64 z1112.Hold.Epoch, v1114, v1116, v1118, v1120, v1122, .int .i64 z1112.R.E, .int .u64 z1112.R.Epoch, .int .u64 z1112.R.Index, v1124, v1126, .int .u64 z1112.Shards, v1128, .int .u64 z1112.Rule.ID, .int .i64 z1112.Rule.From, .int .i64 z1112.Rule.To, .float .f64 z1112.Rule.Lo, .float .f64 z1112.Rule.Hi, .int .u64 z1112.Rule.Authority, .int .i64 z1112.Rule.Quota, .bool z1112.On]) rfl Try.isAgg48 Try.sizeOf48 (hst.bcs3 0 rfl)) ?_
   replace hst := hst.pull4
   obtain ⟨css1152, hq1153, hst⟩ := hst.own_open
   replace hst := hst.pull5
   obtain ⟨css1154, hq1155, hst⟩ := hst.own_open
   replace hst := hst.pull6
   obtain ⟨css1156, hq1157, hst⟩ := hst.own_open
   replace hst := hst.pull7
   obtain ⟨css1158, hq1159, hst⟩ := hst.own_open
   replace hst := hst.pull8
   obtain ⟨css1160, hq1161, hst⟩ := hst.own_open
   replace hst := hst.pull9
   obtain ⟨css1162, hq1163, hst⟩ := hst.own_open
   replace hst := hst.pull10
   obtain ⟨css1164, hq1165, hst⟩ := hst.own_open
   replace hst := hst.pull11
   obtain ⟨css1166, hq1167, hst⟩ := hst.own_open
   obtain ⟨t1168, ht1169, hm⟩ := bind_some hm
   refine wl_call ((wanted_eq rfl rfl rfl (congrArg Value.bool hc1141)).trans rfl) rfl (x_call Try.call26 rfl (vs := [.agg #[.int .u8 z1112.Kind, .int .u64 z1112.ID.Session, .int .u64 z1112.ID.Seq, .int .u64 z1112.Epoch, .int .u64 z1112.Index, .int .i64 z1112.E, .int .u64 z1112.Hold.ID.Session, .int .u64 z1112.Hold.ID.Seq, .int .u64 z1112.Hold.Epoch, v1114, v1116, v1118, v1120, v1122, .int .i64 z1112.R.E, .int .u64 z1112.R.Epoch, .int .u64 z1112.R.Index, v1124, v1126, .int .u64 z1112.Shards, v1128, .int .u64 z1112.Rule.ID, .int .i64 z1112.Rule.From, .int .i64 z1112.Rule.To, .float .f64 z1112.Rule.Lo, .float .f64 z1112.Rule.Hi, .int .u64 z1112.Rule.Authority, .int .i64 z1112.Rule.Quota, .bool z1112.On]]) rfl) ?_
   refine (command_Encode_ref (hst.rdrow7 hq1153) (hst.rdrow6 hq1155) (hst.rdrow5 hq1157) (hst.rdrow4 hq1159) (hst.rdrow3 hq1161) (hst.rdrow2 hq1163) (hst.rdrow1 hq1165) (hst.rdrow0 hq1167) hst.to0 ht1169).mono ?_
   rintro _ w1170 ⟨v1173, rfl, hst⟩
   refine ⟨_, rfl, ?_⟩
   replace hst := hst.of1
   replace hst := hst.pull8
   replace hst := hst.own_close hq1153
   replace hst := hst.pull8
   replace hst := hst.own_close hq1155
   replace hst := hst.pull8
   replace hst := hst.own_close hq1157
   replace hst := hst.pull8
   replace hst := hst.own_close hq1159
   replace hst := hst.pull8
   replace hst := hst.own_close hq1161
   replace hst := hst.pull8
   replace hst := hst.own_close hq1163
   replace hst := hst.pull8
   replace hst := hst.own_close hq1165
   replace hst := hst.pull8
   replace hst := hst.own_close hq1167
   refine wv (r0_0) ((wanted_eq rfl rfl rfl (congrArg Value.bool hc1141)).trans rfl) rfl rfl ?_
   replace hst := hst.pull8
   obtain ⟨css1175, hq1176, hst⟩ := hst.own_open
   obtain ⟨t1177, ht1178, hm⟩ := bind_some hm
   refine wl_call ((wanted_eq rfl rfl rfl (congrArg Value.bool hc1141)).trans rfl) rfl (x_call Try.call20 rfl (vs := [v1173, r0_0]) rfl) ?_
   refine (slices_Equal_byte_byte_ref (hst.rdrow0 hq1176) (f0_0.mono ro_rd) hst.to0 ht1178).mono ?_
   rintro _ w1179 ⟨rfl, hst⟩
   refine ⟨_, rfl, ?_⟩
   replace hst := hst.of0
   replace hst := hst.own_close hq1176
   refine wv (.bool (!t1177)) ((wanted_eq rfl rfl rfl (congrArg Value.bool hc1141)).trans rfl) rfl rfl ?_
   refine wv (.bool (!t1177)) rfl rfl (x_pick_f hc1141 rfl rfl) ?_
   refine wl_nil (then_n ?_)
   refine bsplit (!t1177) (fun hc1182 => ?_) (fun hc1182 => ?_)
   ·skip
    replace hm := bif_t hc1182 hm
    refine wp_ift (congrArg Value.bool hc1182) ?_
    refine wp_seq (wp_region_lit ?_)
    refine wv (.agg #[.int .u8 (0:Int), .int .u64 (0:Int), .int .u64 (0:Int), .int .u64 (0:Int), .int .u64 (0:Int), .int .i64 (0:Int), .int .u64 (0:Int), .int .u64 (0:Int), .int .u64 (0:Int), (.slice none 0 0), (.slice none 0 0), (.slice none 0 0), (.slice none 0 0), (.slice none 0 0), .int .i64 (0:Int), .int .u64 (0:Int), .int .u64 (0:Int), (.slice none 0 0), (.slice none 0 0), .int .u64 (0:Int), (.slice none 0 0), .int .u64 (0:Int), .int .i64 (0:Int), .int .i64 (0:Int), .float .f64 (0:Nat), .float .f64 (0:Nat), .int .u64 (0:Int), .int .i64 (0:Int), .bool false]) rfl rfl (by kernel_rfl) ?_
    replace hst := hst.pull10
    obtain ⟨w1191, hr1192, hst⟩ := hst.boxStore (P := Try.prog) (t := 48) (cs' := [.int .u8 (0:Int), .int .u64 (0:Int), .int .u64 (0:Int), .int .u64 (0:Int), .int .u64 (0:Int), .int .i64 (0:Int), .int .u64 (0:Int), .int .u64 (0:Int), .int .u64 (0:Int), (.slice none 0 0), (.slice none 0 0), (.slice none 0 0), (.slice none 0 0), (.slice none 0 0), .int .i64 (0:Int), .int .u64 (0:Int), .int .u64 (0:Int), (.slice none 0 0), (.slice none 0 0), .int .u64 (0:Int), (.slice none 0 0), .int .u64 (0:Int), .int .i64 (0:Int), .int .i64 (0:Int), .float .f64 (0:Nat), .float .f64 (0:Nat), .int .u64 (0:Int), .int .i64 (0:Int), .bool false]) 0 (.agg #[.int .u8 (0:Int), .int .u64 (0:Int), .int .u64 (0:Int), .int .u64 (0:Int), .int .u64 (0:Int), .int .i64 (0:Int), .int .u64 (0:Int), .int .u64 (0:Int), .int .u64 (0:Int), (.slice none 0 0), (.slice none 0 0), (.slice none 0 0), (.slice none 0 0), (.slice none 0 0), .int .i64 (0:Int), .int .u64 (0:Int), .int .u64 (0:Int), (.slice none 0 0), (.slice none 0 0), .int .u64 (0:Int), (.slice none 0 0), .int .u64 (0:Int), .int .i64 (0:Int), .int .i64 (0:Int), .float .f64 (0:Nat), .float .f64 (0:Nat), .int .u64 (0:Int), .int .i64 (0:Int), .bool false]) Try.sizeOf48 (Nat.le_of_ble_eq_true rfl) (ones_cons rfl (ones_cons rfl (ones_cons rfl (ones_cons rfl (ones_cons rfl (ones_cons rfl (ones_cons rfl (ones_cons rfl (ones_cons rfl (ones_cons rfl (ones_cons rfl (ones_cons rfl (ones_cons rfl (ones_cons rfl (ones_cons rfl (ones_cons rfl (ones_cons rfl (ones_cons rfl (ones_cons rfl (ones_cons rfl (ones_cons rfl (ones_cons rfl (ones_cons rfl (ones_cons rfl (ones_cons rfl (ones_cons rfl (ones_cons rfl (ones_cons rfl (ones_cons rfl ones_nil))))))))))))))))))))))))))))) (by kernel_rfl)
    refine wl_unit rfl rfl (x_unit hr1192) ?_
    refine wv (.int .i64 (5:Int)) rfl rfl rfl ?_
    refine wl_nil (then_n (wp_ret (then_r ?_)))
    replace hst := hst.own_nil tyF64
    replace hst := hst.own_nil tyF2
    replace hst := hst.own_nil tyF64
    replace hst := hst.own_nil (tyInt .u8)
    replace hst := hst.own_nil ty_api_Write
    replace hst := hst.own_nil ty_api_Got
    replace hst := hst.own_nil (tySl ty_api_Pair)
    replace hst := hst.own_nil ty_api_Part
    obtain rfl := some_inj hm
    refine post_ret (vs := [.agg #[.int .u8 (0:Int), .int .u64 (0:Int), .int .u64 (0:Int), .int .u64 (0:Int), .int .u64 (0:Int), .int .i64 (0:Int), .int .u64 (0:Int), .int .u64 (0:Int), .int .u64 (0:Int), (.slice none 0 0), (.slice none 0 0), (.slice none 0 0), (.slice none 0 0), (.slice none 0 0), .int .i64 (0:Int), .int .u64 (0:Int), .int .u64 (0:Int), (.slice none 0 0), (.slice none 0 0), .int .u64 (0:Int), (.slice none 0 0), .int .u64 (0:Int), .int .i64 (0:Int), .int .i64 (0:Int), .float .f64 (0:Nat), .float .f64 (0:Nat), .int .u64 (0:Int), .int .i64 (0:Int), .bool false], .int .i64 (5:Int)]) Try.results17 (rvs_cons (rv_cell (cs := [.int .u8 (0:Int), .int .u64 (0:Int), .int .u64 (0:Int), .int .u64 (0:Int), .int .u64 (0:Int), .int .i64 (0:Int), .int .u64 (0:Int), .int .u64 (0:Int), .int .u64 (0:Int), (.slice none 0 0), (.slice none 0 0), (.slice none 0 0), (.slice none 0 0), (.slice none 0 0), .int .i64 (0:Int), .int .u64 (0:Int), .int .u64 (0:Int), (.slice none 0 0), (.slice none 0 0), .int .u64 (0:Int), (.slice none 0 0), .int .u64 (0:Int), .int .i64 (0:Int), .int .i64 (0:Int), .float .f64 (0:Nat), .float .f64 (0:Nat), .int .u64 (0:Int), .int .i64 (0:Int), .bool false]) rfl Try.isAgg48 Try.sizeOf48 (hst.bcs8 0 rfl)) (rvs_cons (rv_tmp rfl) rvs_nil)) ?_
    replace hst := hst.pull1
    replace hst := hst.pull2
    replace hst := hst.pull3
    replace hst := hst.pull4
    replace hst := hst.pull5
    replace hst := hst.pull6
    replace hst := hst.pull7
    exact ⟨_, (.slice none 0 0), (.slice none 0 0), (.slice none 0 0), (.slice none 0 0), (.slice none 0 0), (.slice none 0 0), (.slice none 0 0), (.slice none 0 0), rfl, hI0, hst.keep8⟩
   ·skip
    replace hm := bif_f hc1182 hm
    refine wp_iff (congrArg Value.bool hc1182) ?_
    refine wp_skip (then_n (wp_seq (wp_region_lit ?_)))
    refine wv (.agg #[.int .u8 z1112.Kind, .int .u64 z1112.ID.Session, .int .u64 z1112.ID.Seq, .int .u64 z1112.Epoch, .int .u64 z1112.Index, .int .i64 z1112.E, .int .u64 z1112.Hold.ID.Session, .int .u64 z1112.Hold.ID.Seq, .int .u64 z1112.Hold.Epoch, v1114, v1116, v1118, v1120, v1122, .int .i64 z1112.R.E, .int .u64 z1112.R.Epoch, .int .u64 z1112.R.Index, v1124, v1126, .int .u64 z1112.Shards, v1128, .int .u64 z1112.Rule.ID, .int .i64 z1112.Rule.From, .int .i64 z1112.Rule.To, .float .f64 z1112.Rule.Lo, .float .f64 z1112.Rule.Hi, .int .u64 z1112.Rule.Authority, .int .i64 z1112.Rule.Quota, .bool z1112.On]) rfl rfl (x_loadN (cs := [.int .u8 z1112.Kind, .int .u64 z1112.ID.Session, .int .u64 z1112.ID.Seq, .int .u64 z1112.Epoch, .int .u64 z1112.Index, .int .i64 z1112.E, .int .u64 z1112.Hold.ID.Session, .int .u64 z1112.Hold.ID.Seq, .int .u64 z1112.Hold.Epoch, v1114, v1116, v1118, v1120, v1122, .int .i64 z1112.R.E, .int .u64 z1112.R.Epoch, .int .u64 z1112.R.Index, v1124, v1126, .int .u64 z1112.Shards, v1128, .int .u64 z1112.Rule.ID, .int .i64 z1112.Rule.From, .int .i64 z1112.Rule.To, .float .f64 z1112.Rule.Lo, .float .f64 z1112.Rule.Hi, .int .u64 z1112.Rule.Authority, .int .i64 z1112.Rule.Quota, .bool z1112.On]) rfl Try.isAgg48 Try.sizeOf48 (hst.bcs12 0 rfl)) ?_
    replace hst := hst.pull10
    obtain ⟨w1193, hr1194, hst⟩ := hst.boxStore (P := Try.prog) (t := 48) (cs' := [.int .u8 z1112.Kind, .int .u64 z1112.ID.Session, .int .u64 z1112.ID.Seq, .int .u64 z1112.Epoch, .int .u64 z1112.Index, .int .i64 z1112.E, .int .u64 z1112.Hold.ID.Session, .int .u64 z1112.Hold.ID.Seq, .int .u64 z1112.Hold.Epoch, v1114, v1116, v1118, v1120, v1122, .int .i64 z1112.R.E, .int .u64 z1112.R.Epoch, .int .u64 z1112.R.Index, v1124, v1126, .int .u64 z1112.Shards, v1128, .int .u64 z1112.Rule.ID, .int .i64 z1112.Rule.From, .int .i64 z1112.Rule.To, .float .f64 z1112.Rule.Lo, .float .f64 z1112.Rule.Hi, .int .u64 z1112.Rule.Authority, .int .i64 z1112.Rule.Quota, .bool z1112.On]) 0 (.agg #[.int .u8 z1112.Kind, .int .u64 z1112.ID.Session, .int .u64 z1112.ID.Seq, .int .u64 z1112.Epoch, .int .u64 z1112.Index, .int .i64 z1112.E, .int .u64 z1112.Hold.ID.Session, .int .u64 z1112.Hold.ID.Seq, .int .u64 z1112.Hold.Epoch, v1114, v1116, v1118, v1120, v1122, .int .i64 z1112.R.E, .int .u64 z1112.R.Epoch, .int .u64 z1112.R.Index, v1124, v1126, .int .u64 z1112.Shards, v1128, .int .u64 z1112.Rule.ID, .int .i64 z1112.Rule.From, .int .i64 z1112.Rule.To, .float .f64 z1112.Rule.Lo, .float .f64 z1112.Rule.Hi, .int .u64 z1112.Rule.Authority, .int .i64 z1112.Rule.Quota, .bool z1112.On]) Try.sizeOf48 (Nat.le_of_ble_eq_true rfl) (ones_cons rfl (ones_cons rfl (ones_cons rfl (ones_cons rfl (ones_cons rfl (ones_cons rfl (ones_cons rfl (ones_cons rfl (ones_cons rfl (ones_cons (one_of_sliceV hst.sv9) (ones_cons (one_of_sliceV hst.sv8) (ones_cons (one_of_sliceV hst.sv7) (ones_cons (one_of_sliceV hst.sv6) (ones_cons (one_of_sliceV hst.sv5) (ones_cons rfl (ones_cons rfl (ones_cons rfl (ones_cons (one_of_sliceV hst.sv4) (ones_cons (one_of_sliceV hst.sv3) (ones_cons rfl (ones_cons (one_of_sliceV hst.sv2) (ones_cons rfl (ones_cons rfl (ones_cons rfl (ones_cons rfl (ones_cons rfl (ones_cons rfl (ones_cons rfl (ones_cons rfl ones_nil))))))))))))))))))))))))))))) (by kernel_rfl)
    refine wl_unit rfl rfl (x_unit hr1194) ?_
    refine wv (.int .i64 (0:Int)) rfl rfl rfl ?_
    refine wl_nil (then_n (wp_ret ?_))
    obtain rfl := some_inj hm
    refine post_ret (vs := [.agg #[.int .u8 z1112.Kind, .int .u64 z1112.ID.Session, .int .u64 z1112.ID.Seq, .int .u64 z1112.Epoch, .int .u64 z1112.Index, .int .i64 z1112.E, .int .u64 z1112.Hold.ID.Session, .int .u64 z1112.Hold.ID.Seq, .int .u64 z1112.Hold.Epoch, v1114, v1116, v1118, v1120, v1122, .int .i64 z1112.R.E, .int .u64 z1112.R.Epoch, .int .u64 z1112.R.Index, v1124, v1126, .int .u64 z1112.Shards, v1128, .int .u64 z1112.Rule.ID, .int .i64 z1112.Rule.From, .int .i64 z1112.Rule.To, .float .f64 z1112.Rule.Lo, .float .f64 z1112.Rule.Hi, .int .u64 z1112.Rule.Authority, .int .i64 z1112.Rule.Quota, .bool z1112.On], .int .i64 (0:Int)]) Try.results17 (rvs_cons (rv_cell (cs := [.int .u8 z1112.Kind, .int .u64 z1112.ID.Session, .int .u64 z1112.ID.Seq, .int .u64 z1112.Epoch, .int .u64 z1112.Index, .int .i64 z1112.E, .int .u64 z1112.Hold.ID.Session, .int .u64 z1112.Hold.ID.Seq, .int .u64 z1112.Hold.Epoch, v1114, v1116, v1118, v1120, v1122, .int .i64 z1112.R.E, .int .u64 z1112.R.Epoch, .int .u64 z1112.R.Index, v1124, v1126, .int .u64 z1112.Shards, v1128, .int .u64 z1112.Rule.ID, .int .i64 z1112.Rule.From, .int .i64 z1112.Rule.To, .float .f64 z1112.Rule.Lo, .float .f64 z1112.Rule.Hi, .int .u64 z1112.Rule.Authority, .int .i64 z1112.Rule.Quota, .bool z1112.On]) rfl Try.isAgg48 Try.sizeOf48 (hst.bcs0 0 rfl)) (rvs_cons (rv_tmp rfl) rvs_nil)) ?_
    replace hst := hst.pull2
    replace hst := hst.pull3
    replace hst := hst.pull4
    replace hst := hst.pull5
    replace hst := hst.pull6
    replace hst := hst.pull7
    replace hst := hst.pull8
    replace hst := hst.pull9
    exact ⟨_, v1114, v1116, v1118, v1120, v1122, v1124, v1126, v1128, rfl, hI0, hst.keep8⟩

theorem mail_Decode_ref {w0 w : World} {I : HL} {R : SP} {a0 : (List Int)} {r0_0 : Value} (f0_0 : Ro (tyInt .u8) I r0_0 a0) (hst : St w0 w I [] R) {r : (api_Mail × Int)} (hm : mail_Decode a0 = some r) :
  Calls Try.prog 7 #[r0_0] w fun e w' => ∃ (I' : HL) (q0_0 : Value) (q0_1 : Value) (q0_2 : Value) (q0_3 : Value) (q0_4 : Value) (q0_5 : Value) (q0_6 : Value) (q0_7 : Value) (q0_8 : Value) (q0_9 : Value) (q0_10 : Value) (q0_11 : Value) (q0_12 : Value) (q0_13 : Value) (q0_14 : Value) (q0_15 : Value), e = .returned (.tuple #[.agg #[.int .u8 r.1.Kind, .int .u8 r.1.M.Kind, .int .i64 r.1.M.From, .int .i64 r.1.M.To, .int .u64 r.1.M.Term, .int .u64 r.1.M.Index, .int .u64 r.1.M.LogTerm, .int .u64 r.1.M.Commit, .bool r.1.M.OK, q0_0, .int .u64 r.1.M.S.Index, .int .u64 r.1.M.S.Term, .int .u64 r.1.M.S.Voters, q0_1, .int .u64 r.1.H.ID.Session, .int .u64 r.1.H.ID.Seq, .int .u64 r.1.H.Epoch, q0_2, q0_3, q0_4, q0_5, .int .u64 r.1.ID.Session, .int .u64 r.1.ID.Seq, .int .i64 r.1.R.E, .int .u64 r.1.R.Epoch, .int .u64 r.1.R.Index, q0_6, q0_7, .int .u8 r.1.C.Kind, .int .u64 r.1.C.ID.Session, .int .u64 r.1.C.ID.Seq, .int .u64 r.1.C.Epoch, .int .u64 r.1.C.Index, .int .i64 r.1.C.E, .int .u64 r.1.C.Hold.ID.Session, .int .u64 r.1.C.Hold.ID.Seq, .int .u64 r.1.C.Hold.Epoch, q0_8, q0_9, q0_10, q0_11, q0_12, .int .i64 r.1.C.R.E, .int .u64 r.1.C.R.Epoch, .int .u64 r.1.C.R.Index, q0_13, q0_14, .int .u64 r.1.C.Shards, q0_15, .int .u64 r.1.C.Rule.ID, .int .i64 r.1.C.Rule.From, .int .i64 r.1.C.Rule.To, .float .f64 r.1.C.Rule.Lo, .float .f64 r.1.C.Rule.Hi, .int .u64 r.1.C.Rule.Authority, .int .i64 r.1.C.Rule.Quota, .bool r.1.C.On], .int .i64 r.2]) ∧ I.le I' ∧ St w0 w' I' [ownS ty_api_Entry q0_0 r.1.M.Entries, ownS (tyInt .u8) q0_1 r.1.M.S.Data, ownS tyF64 q0_2 r.1.H.Gets, ownS tyF2 q0_3 r.1.H.Scans, ownS tyF64 q0_4 r.1.H.Puts, ownS (tyInt .u8) q0_5 r.1.H.Data, ownS ty_api_Got q0_6 r.1.R.Gots, ownS (tySl ty_api_Pair) q0_7 r.1.R.Scans, ownS tyF64 q0_8 r.1.C.Hold.Gets, ownS tyF2 q0_9 r.1.C.Hold.Scans, ownS tyF64 q0_10 r.1.C.Hold.Puts, ownS (tyInt .u8) q0_11 r.1.C.Hold.Data, ownS ty_api_Write q0_12 r.1.C.Writes, ownS ty_api_Got q0_13 r.1.C.R.Gots, ownS (tySl ty_api_Pair) q0_14 r.1.C.R.Scans, ownS ty_api_Part q0_15 r.1.C.Parts] R := by
 unfold mail_Decode at hm
 refine calls_start (args := [r0_0]) Try.func7 rfl Try.ntmps7 (Nat.le_of_ble_eq_true rfl) ?_
 have hI0 := HL.le.refl I
 refine wp_seq (wp_region_lit ?_)
 obtain ⟨b428, w429, ew430, eb431, hst⟩ := hst.box [.int .u8 (0:Int), .int .u8 (0:Int), .int .i64 (0:Int), .int .i64 (0:Int), .int .u64 (0:Int), .int .u64 (0:Int), .int .u64 (0:Int), .int .u64 (0:Int), .bool false, (.slice none 0 0), .int .u64 (0:Int), .int .u64 (0:Int), .int .u64 (0:Int), (.slice none 0 0), .int .u64 (0:Int), .int .u64 (0:Int), .int .u64 (0:Int), (.slice none 0 0), (.slice none 0 0), (.slice none 0 0), (.slice none 0 0), .int .u64 (0:Int), .int .u64 (0:Int), .int .i64 (0:Int), .int .u64 (0:Int), .int .u64 (0:Int), (.slice none 0 0), (.slice none 0 0), .int .u8 (0:Int), .int .u64 (0:Int), .int .u64 (0:Int), .int .u64 (0:Int), .int .u64 (0:Int), .int .i64 (0:Int), .int .u64 (0:Int), .int .u64 (0:Int), .int .u64 (0:Int), (.slice none 0 0), (.slice none 0 0), (.slice none 0 0), (.slice none 0 0), (.slice none 0 0), .int .i64 (0:Int), .int .u64 (0:Int), .int .u64 (0:Int), (.slice none 0 0), (.slice none 0 0), .int .u64 (0:Int), (.slice none 0 0), .int .u64 (0:Int), .int .i64 (0:Int), .int .i64 (0:Int), .float .f64 (0:Nat), .float .f64 (0:Nat), .int .u64 (0:Int), .int .i64 (0:Int), .bool false] 50
 refine wl_run (v := .pointer (some ⟨b428, 0, none⟩)) (w' := w429) rfl rfl (x_al (by kernel_rfl) ew430 eb431) ?_
 refine wv (.int .i64 (0:Int)) rfl rfl rfl ?_
 refine wl_nil (then_n (wp_seq (wp_region_lit ?_)))
 refine wv (r0_0) rfl rfl rfl ?_
 obtain ⟨t433, ht434, hm⟩ := bind_some hm
 refine wl_call rfl rfl (x_call Try.call12 rfl (vs := [r0_0]) rfl) ?_
 refine (octet_Read_ref f0_0 hst.to0 ht434).mono ?_
 rintro _ w435 ⟨v438, rfl, hst⟩
 refine ⟨_, rfl, ?_⟩
 replace hst := hst.of1
 refine wv (v438) rfl rfl rfl ?_
 refine wl_nil (then_n (wp_seq (wp_region_lit ?_)))
 refine wv (v438) rfl rfl rfl ?_
 obtain ⟨t440, ht441, hm⟩ := bind_some hm
 refine wl_call rfl rfl (x_call Try.call13 rfl (vs := [v438, .int .i64 (1:Int)]) rfl) ?_
 refine (octet_Reader_Num_ref hst.to1 ht441).mono ?_
 rintro _ w442 ⟨rfl, hst⟩
 refine ⟨_, rfl, ?_⟩
 replace hst := hst.of1
 refine wv (.int .u8 (IntKind.u8.wrap t440.1)) rfl rfl (by kernel_rfl) ?_
 refine wv (.agg #[.int .u8 (IntKind.u8.wrap t440.1), .int .u8 (0:Int), .int .i64 (0:Int), .int .i64 (0:Int), .int .u64 (0:Int), .int .u64 (0:Int), .int .u64 (0:Int), .int .u64 (0:Int), .bool false, (.slice none 0 0), .int .u64 (0:Int), .int .u64 (0:Int), .int .u64 (0:Int), (.slice none 0 0), .int .u64 (0:Int), .int .u64 (0:Int), .int .u64 (0:Int), (.slice none 0 0), (.slice none 0 0), (.slice none 0 0), (.slice none 0 0), .int .u64 (0:Int), .int .u64 (0:Int), .int .i64 (0:Int), .int .u64 (0:Int), .int .u64 (0:Int), (.slice none 0 0), (.slice none 0 0), .int .u8 (0:Int), .int .u64 (0:Int), .int .u64 (0:Int), .int .u64 (0:Int), .int .u64 (0:Int), .int .i64 (0:Int), .int .u64 (0:Int), .int .u64 (0:Int), .int .u64 (0:Int), (.slice none 0 0), (.slice none 0 0), (.slice none 0 0), (.slice none 0 0), (.slice none 0 0), .int .i64 (0:Int), .int .u64 (0:Int), .int .u64 (0:Int), (.slice none 0 0), (.slice none 0 0), .int .u64 (0:Int), (.slice none 0 0), .int .u64 (0:Int), .int .i64 (0:Int), .int .i64 (0:Int), .float .f64 (0:Nat), .float .f64 (0:Nat), .int .u64 (0:Int), .int .i64 (0:Int), .bool false]) rfl rfl (by kernel_rfl) ?_
 obtain ⟨b477, w478, ew479, eb480, hst⟩ := hst.box [.int .u8 (0:Int), .int .u8 (0:Int), .int .i64 (0:Int), .int .i64 (0:Int), .int .u64 (0:Int), .int .u64 (0:Int), .int .u64 (0:Int), .int .u64 (0:Int), .bool false, (.slice none 0 0), .int .u64 (0:Int), .int .u64 (0:Int), .int .u64 (0:Int), (.slice none 0 0), .int .u64 (0:Int), .int .u64 (0:Int), .int .u64 (0:Int), (.slice none 0 0), (.slice none 0 0), (.slice none 0 0), (.slice none 0 0), .int .u64 (0:Int), .int .u64 (0:Int), .int .i64 (0:Int), .int .u64 (0:Int), .int .u64 (0:Int), (.slice none 0 0), (.slice none 0 0), .int .u8 (0:Int), .int .u64 (0:Int), .int .u64 (0:Int), .int .u64 (0:Int), .int .u64 (0:Int), .int .i64 (0:Int), .int .u64 (0:Int), .int .u64 (0:Int), .int .u64 (0:Int), (.slice none 0 0), (.slice none 0 0), (.slice none 0 0), (.slice none 0 0), (.slice none 0 0), .int .i64 (0:Int), .int .u64 (0:Int), .int .u64 (0:Int), (.slice none 0 0), (.slice none 0 0), .int .u64 (0:Int), (.slice none 0 0), .int .u64 (0:Int), .int .i64 (0:Int), .int .i64 (0:Int), .float .f64 (0:Nat), .float .f64 (0:Nat), .int .u64 (0:Int), .int .i64 (0:Int), .bool false] 50
 refine wl_run (v := .pointer (some ⟨b477, 0, none⟩)) (w' := w478) rfl rfl (x_al (by kernel_rfl) ew479 eb480) ?_
 obtain ⟨w482, hr483, hst⟩ := hst.boxStore (P := Try.prog) (t := 50) (cs' := [.int .u8 (IntKind.u8.wrap t440.1), .int .u8 (0:Int), .int .i64 (0:Int), .int .i64 (0:Int), .int .u64 (0:Int), .int .u64 (0:Int), .int .u64 (0:Int), .int .u64 (0:Int), .bool false, (.slice none 0 0), .int .u64 (0:Int), .int .u64 (0:Int), .int .u64 (0:Int), (.slice none 0 0), .int .u64 (0:Int), .int .u64 (0:Int), .int .u64 (0:Int), (.slice none 0 0), (.slice none 0 0), (.slice none 0 0), (.slice none 0 0), .int .u64 (0:Int), .int .u64 (0:Int), .int .i64 (0:Int), .int .u64 (0:Int), .int .u64 (0:Int), (.slice none 0 0), (.slice none 0 0), .int .u8 (0:Int), .int .u64 (0:Int), .int .u64 (0:Int), .int .u64 (0:Int), .int .u64 (0:Int), .int .i64 (0:Int), .int .u64 (0:Int), .int .u64 (0:Int), .int .u64 (0:Int), (.slice none 0 0), (.slice none 0 0), (.slice none 0 0), (.slice none 0 0), (.slice none 0 0), .int .i64 (0:Int), .int .u64 (0:Int), .int .u64 (0:Int), (.slice none 0 0), (.slice none 0 0), .int .u64 (0:Int), (.slice none 0 0), .int .u64 (0:Int), .int .i64 (0:Int), .int .i64 (0:Int), .float .f64 (0:Nat), .float .f64 (0:Nat), .int .u64 (0:Int), .int .i64 (0:Int), .bool false]) 0 (.agg #[.int .u8 (IntKind.u8.wrap t440.1), .int .u8 (0:Int), .int .i64 (0:Int), .int .i64 (0:Int), .int .u64 (0:Int), .int .u64 (0:Int), .int .u64 (0:Int), .int .u64 (0:Int), .bool false, (.slice none 0 0), .int .u64 (0:Int), .int .u64 (0:Int), .int .u64 (0:Int), (.slice none 0 0), .int .u64 (0:Int), .int .u64 (0:Int), .int .u64 (0:Int), (.slice none 0 0), (.slice none 0 0), (.slice none 0 0), (.slice none 0 0), .int .u64 (0:Int), .int .u64 (0:Int), .int .i64 (0:Int), .int .u64 (0:Int), .int .u64 (0:Int), (.slice none 0 0), (.slice none 0 0), .int .u8 (0:Int), .int .u64 (0:Int), .int .u64 (0:Int), .int .u64 (0:Int), .int .u64 (0:Int), .int .i64 (0:Int), .int .u64 (0:Int), .int .u64 (0:Int), .int .u64 (0:Int), (.slice none 0 0), (.slice none 0 0), (.slice none 0 0), (.slice none 0 0), (.slice none 0 0), .int .i64 (0:Int), .int .u64 (0:Int), .int .u64 (0:Int), (.slice none 0 0), (.slice none 0 0), .int .u64 (0:Int), (.slice none 0 0), .int .u64 (0:Int), .int .i64 (0:Int), .int .i64 (0:Int), .float .f64 (0:Nat), .float .f64 (0:Nat), .int .u64 (0:Int), .int .i64 (0:Int), .bool false]) Try.sizeOf50 (Nat.le_of_ble_eq_true rfl) (ones_cons rfl (ones_cons rfl (ones_cons rfl (ones_cons rfl (ones_cons rfl (ones_cons rfl (ones_cons rfl (ones_cons rfl (ones_cons rfl (ones_cons rfl (ones_cons rfl (ones_cons rfl (ones_cons rfl (ones_cons rfl (ones_cons rfl (ones_cons rfl (ones_cons rfl (ones_cons rfl (ones_cons rfl (ones_cons rfl (ones_cons rfl (ones_cons rfl (ones_cons rfl (ones_cons rfl (ones_cons rfl (ones_cons rfl (ones_cons rfl (ones_cons rfl (ones_cons rfl (ones_cons rfl (ones_cons rfl (ones_cons rfl (ones_cons rfl (ones_cons rfl (ones_cons rfl (ones_cons rfl (ones_cons rfl (ones_cons rfl (ones_cons rfl (ones_cons rfl (ones_cons rfl (ones_cons rfl (ones_cons rfl (ones_cons rfl (ones_cons rfl (ones_cons rfl (ones_cons rfl (ones_cons rfl (ones_cons rfl (ones_cons rfl (ones_cons rfl (ones_cons rfl (ones_cons rfl (ones_cons rfl (ones_cons rfl (ones_cons rfl (ones_cons rfl ones_nil))))))))))))))))))))))))))))))))))))))))))))))))))))))))) (by kernel_rfl)
 refine wl_unit rfl rfl (x_unit hr483) ?_
 refine wl_nil (then_n ?_)
 obtain ⟨y701, hm, hx702⟩ := joinO_some hm
 refine wp_cut (fun a w => ∃ (I698 : HL) (z664 : octet_Reader) (z665 : api_Mail) (v667 : Value) (v669 : Value) (v671 : Value) (v673 : Value) (v675 : Value) (v677 : Value) (v679 : Value) (v681 : Value) (v683 : Value) (v685 : Value) (v687 : Value) (v689 : Value) (v691 : Value) (v693 : Value) (v695 : Value) (v697 : Value) (σ699 : Nat → Value), (mail_Decode_j0 a0) (z664, z665) = some r ∧ a = Fr 74 (upd (upd (upd (upd σ699 0 (r0_0)) 2 (.pointer (some ⟨b428, 0, none⟩))) 4 (v438)) 5 (.pointer (some ⟨b477, 0, none⟩))) ∧ I.le I698 ∧ St w0 w I698 [cells b428 [.int .u8 (0:Int), .int .u8 (0:Int), .int .i64 (0:Int), .int .i64 (0:Int), .int .u64 (0:Int), .int .u64 (0:Int), .int .u64 (0:Int), .int .u64 (0:Int), .bool false, (.slice none 0 0), .int .u64 (0:Int), .int .u64 (0:Int), .int .u64 (0:Int), (.slice none 0 0), .int .u64 (0:Int), .int .u64 (0:Int), .int .u64 (0:Int), (.slice none 0 0), (.slice none 0 0), (.slice none 0 0), (.slice none 0 0), .int .u64 (0:Int), .int .u64 (0:Int), .int .i64 (0:Int), .int .u64 (0:Int), .int .u64 (0:Int), (.slice none 0 0), (.slice none 0 0), .int .u8 (0:Int), .int .u64 (0:Int), .int .u64 (0:Int), .int .u64 (0:Int), .int .u64 (0:Int), .int .i64 (0:Int), .int .u64 (0:Int), .int .u64 (0:Int), .int .u64 (0:Int), (.slice none 0 0), (.slice none 0 0), (.slice none 0 0), (.slice none 0 0), (.slice none 0 0), .int .i64 (0:Int), .int .u64 (0:Int), .int .u64 (0:Int), (.slice none 0 0), (.slice none 0 0), .int .u64 (0:Int), (.slice none 0 0), .int .u64 (0:Int), .int .i64 (0:Int), .int .i64 (0:Int), .float .f64 (0:Nat), .float .f64 (0:Nat), .int .u64 (0:Int), .int .i64 (0:Int), .bool false], at_octet_Reader v438 z664, cells b477 [.int .u8 z665.Kind, .int .u8 z665.M.Kind, .int .i64 z665.M.From, .int .i64 z665.M.To, .int .u64 z665.M.Term, .int .u64 z665.M.Index, .int .u64 z665.M.LogTerm, .int .u64 z665.M.Commit, .bool z665.M.OK, v667, .int .u64 z665.M.S.Index, .int .u64 z665.M.S.Term, .int .u64 z665.M.S.Voters, v669, .int .u64 z665.H.ID.Session, .int .u64 z665.H.ID.Seq, .int .u64 z665.H.Epoch, v671, v673, v675, v677, .int .u64 z665.ID.Session, .int .u64 z665.ID.Seq, .int .i64 z665.R.E, .int .u64 z665.R.Epoch, .int .u64 z665.R.Index, v679, v681, .int .u8 z665.C.Kind, .int .u64 z665.C.ID.Session, .int .u64 z665.C.ID.Seq, .int .u64 z665.C.Epoch, .int .u64 z665.C.Index, .int .i64 z665.C.E, .int .u64 z665.C.Hold.ID.Session, .int .u64 z665.C.Hold.ID.Seq, .int .u64 z665.C.Hold.Epoch, v683, v685, v687, v689, v691, .int .i64 z665.C.R.E, .int .u64 z665.C.R.Epoch, .int .u64 z665.C.R.Index, v693, v695, .int .u64 z665.C.Shards, v697, .int .u64 z665.C.Rule.ID, .int .i64 z665.C.Rule.From, .int .i64 z665.C.Rule.To, .float .f64 z665.C.Rule.Lo, .float .f64 z665.C.Rule.Hi, .int .u64 z665.C.Rule.Authority, .int .i64 z665.C.Rule.Quota, .bool z665.C.On], ownS ty_api_Entry v667 z665.M.Entries, ownS (tyInt .u8) v669 z665.M.S.Data, ownS tyF64 v671 z665.H.Gets, ownS tyF2 v673 z665.H.Scans, ownS tyF64 v675 z665.H.Puts, ownS (tyInt .u8) v677 z665.H.Data, ownS ty_api_Got v679 z665.R.Gots, ownS (tySl ty_api_Pair) v681 z665.R.Scans, ownS tyF64 v683 z665.C.Hold.Gets, ownS tyF2 v685 z665.C.Hold.Scans, ownS tyF64 v687 z665.C.Hold.Puts, ownS (tyInt .u8) v689 z665.C.Hold.Data, ownS ty_api_Write v691 z665.C.Writes, ownS ty_api_Got v693 z665.C.R.Gots, ownS (tySl ty_api_Pair) v695 z665.C.R.Scans, ownS ty_api_Part v697 z665.C.Parts] R) ?_ ?_
 ·skip
  have hL703 := HL.le.refl I
  refine wp_seq (wp_region_lit ?_)
  refine wv (.pointer (some ⟨b477, 0, none⟩)) rfl rfl (x_field rfl Try.underlying50 rfl Try.sizeOf5 rfl) ?_
  refine wv (.int .u8 (IntKind.u8.wrap t440.1)) rfl rfl (x_load rfl Try.isAgg5 (hst.bc0 rfl)) ?_
  refine wl_nil (then_n (wp_block (wp_seq (wp_region_lit ?_))))
  refine wv (.bool ((IntKind.u8.wrap t440.1) == (1:Int))) rfl rfl rfl ?_
  refine wv (.bool ((IntKind.u8.wrap t440.1) == (1:Int))) rfl rfl rfl ?_
  refine wl_nil (then_n ?_)
  refine bsplit ((IntKind.u8.wrap t440.1) == (1:Int)) (fun hc484 => ?_) (fun hc484 => ?_)
  ·skip
   replace hm := bif_t hc484 hm
   refine wp_ift (congrArg Value.bool hc484) ?_
   refine wp_region_lit ?_
   refine wv (v438) rfl rfl rfl ?_
   replace hst := hst.pull1
   obtain ⟨t485, ht486, hm⟩ := bind_some hm
   refine wl_call rfl rfl (x_call Try.call14 rfl (vs := [v438]) rfl) ?_
   refine (mail_readMessage_ref hst.to1 ht486).mono ?_
   rintro _ w487 ⟨I488, v490, v492, rfl, hI489, hst⟩
   refine ⟨_, rfl, ?_⟩
   replace hst := hst.of3
   replace f0_0 := f0_0.mono (ro_le hI489)
   replace hI0 := hI0.trans hI489
   replace hL703 := hL703.trans hI489
   refine wv (.pointer (some ⟨b477, 1, none⟩)) rfl rfl (x_field rfl Try.underlying50 rfl Try.sizeOf30 rfl) ?_
   replace hst := hst.pull3
   obtain ⟨w494, hr495, hst⟩ := hst.boxStore (P := Try.prog) (t := 30) (cs' := [.int .u8 (IntKind.u8.wrap t440.1), .int .u8 t485.1.Kind, .int .i64 t485.1.From, .int .i64 t485.1.To, .int .u64 t485.1.Term, .int .u64 t485.1.Index, .int .u64 t485.1.LogTerm, .int .u64 t485.1.Commit, .bool t485.1.OK, v490, .int .u64 t485.1.S.Index, .int .u64 t485.1.S.Term, .int .u64 t485.1.S.Voters, v492, .int .u64 (0:Int), .int .u64 (0:Int), .int .u64 (0:Int), (.slice none 0 0), (.slice none 0 0), (.slice none 0 0), (.slice none 0 0), .int .u64 (0:Int), .int .u64 (0:Int), .int .i64 (0:Int), .int .u64 (0:Int), .int .u64 (0:Int), (.slice none 0 0), (.slice none 0 0), .int .u8 (0:Int), .int .u64 (0:Int), .int .u64 (0:Int), .int .u64 (0:Int), .int .u64 (0:Int), .int .i64 (0:Int), .int .u64 (0:Int), .int .u64 (0:Int), .int .u64 (0:Int), (.slice none 0 0), (.slice none 0 0), (.slice none 0 0), (.slice none 0 0), (.slice none 0 0), .int .i64 (0:Int), .int .u64 (0:Int), .int .u64 (0:Int), (.slice none 0 0), (.slice none 0 0), .int .u64 (0:Int), (.slice none 0 0), .int .u64 (0:Int), .int .i64 (0:Int), .int .i64 (0:Int), .float .f64 (0:Nat), .float .f64 (0:Nat), .int .u64 (0:Int), .int .i64 (0:Int), .bool false]) 1 (.agg #[.int .u8 t485.1.Kind, .int .i64 t485.1.From, .int .i64 t485.1.To, .int .u64 t485.1.Term, .int .u64 t485.1.Index, .int .u64 t485.1.LogTerm, .int .u64 t485.1.Commit, .bool t485.1.OK, v490, .int .u64 t485.1.S.Index, .int .u64 t485.1.S.Term, .int .u64 t485.1.S.Voters, v492]) Try.sizeOf30 (Nat.le_of_ble_eq_true rfl) (ones_cons rfl (ones_cons rfl (ones_cons rfl (ones_cons rfl (ones_cons rfl (ones_cons rfl (ones_cons rfl (ones_cons rfl (ones_cons (one_of_sliceV hst.sv1) (ones_cons rfl (ones_cons rfl (ones_cons rfl (ones_cons (one_of_sliceV hst.sv2) ones_nil))))))))))))) (by kernel_rfl)
   refine wl_unit rfl rfl (x_unit hr495) ?_
   refine wl_nil (blk_n (then_n ?_))
   replace hst := hst.own_nil tyF64
   replace hst := hst.own_nil tyF2
   replace hst := hst.own_nil tyF64
   replace hst := hst.own_nil (tyInt .u8)
   replace hst := hst.own_nil ty_api_Got
   replace hst := hst.own_nil (tySl ty_api_Pair)
   replace hst := hst.own_nil tyF64
   replace hst := hst.own_nil tyF2
   replace hst := hst.own_nil tyF64
   replace hst := hst.own_nil (tyInt .u8)
   replace hst := hst.own_nil ty_api_Write
   replace hst := hst.own_nil ty_api_Got
   replace hst := hst.own_nil (tySl ty_api_Pair)
   replace hst := hst.own_nil ty_api_Part
   replace hst := hst.pull1
   replace hst := hst.pull2
   replace hst := hst.pull3
   replace hst := hst.pull4
   replace hst := hst.pull5
   replace hst := hst.pull6
   replace hst := hst.pull7
   replace hst := hst.pull8
   replace hst := hst.pull9
   replace hst := hst.pull10
   replace hst := hst.pull11
   replace hst := hst.pull12
   replace hst := hst.pull13
   replace hst := hst.pull16
   replace hst := hst.pull16
   replace hst := hst.pull16
   replace hst := hst.pull17
   replace hst := hst.pull18
   replace hst := hst.keep19
   obtain rfl := some_inj hm
   exact ⟨_, t485.2, ({ Kind := (IntKind.u8.wrap t440.1), M := t485.1, H := ({ ID := ({ Session := (0:Int), Seq := (0:Int) } : api_ID), Epoch := (0:Int), Gets := [], Scans := [], Puts := [], Data := [] } : api_Hold), ID := ({ Session := (0:Int), Seq := (0:Int) } : api_ID), R := ({ E := (0:Int), Epoch := (0:Int), Index := (0:Int), Gots := [], Scans := [] } : api_Reply), C := ({ Kind := (0:Int), ID := ({ Session := (0:Int), Seq := (0:Int) } : api_ID), Epoch := (0:Int), Index := (0:Int), E := (0:Int), Hold := ({ ID := ({ Session := (0:Int), Seq := (0:Int) } : api_ID), Epoch := (0:Int), Gets := [], Scans := [], Puts := [], Data := [] } : api_Hold), Writes := [], R := ({ E := (0:Int), Epoch := (0:Int), Index := (0:Int), Gots := [], Scans := [] } : api_Reply), Shards := (0:Int), Parts := [], Rule := ({ ID := (0:Int), From := (0:Int), To := (0:Int), Lo := (0:Nat), Hi := (0:Nat), Authority := (0:Int), Quota := (0:Int) } : api_Rule), On := false } : api_Command) } : api_Mail), v490, v492, (.slice none 0 0), (.slice none 0 0), (.slice none 0 0), (.slice none 0 0), (.slice none 0 0), (.slice none 0 0), (.slice none 0 0), (.slice none 0 0), (.slice none 0 0), (.slice none 0 0), (.slice none 0 0), (.slice none 0 0), (.slice none 0 0), (.slice none 0 0), _, hx702, ((fr_upd (t := 0) (v := r0_0) rfl).trans ((fr_upd (t := 2) (v := .pointer (some ⟨b428, 0, none⟩)) rfl).trans ((fr_upd (t := 4) (v := v438) rfl).trans ((fr_upd (t := 5) (v := .pointer (some ⟨b477, 0, none⟩)) rfl).trans rfl)))), hL703, hst⟩
  ·skip
   replace hm := bif_f hc484 hm
   refine wp_iff (congrArg Value.bool hc484) ?_
   obtain ⟨y500, hm, hx501⟩ := bind_some hm
   refine wp_cut (fun a w => ∃ (z497 : Bool) (σ498 : Nat → Value), (mail_Decode_j1 t440) z497 = some y701 ∧ a = Fr 74 (upd (upd (upd (upd (upd (upd σ498 0 (r0_0)) 2 (.pointer (some ⟨b428, 0, none⟩))) 4 (v438)) 5 (.pointer (some ⟨b477, 0, none⟩))) 15 (.int .u8 (IntKind.u8.wrap t440.1))) 22 (.bool z497)) ∧ St w0 w I [cells b428 [.int .u8 (0:Int), .int .u8 (0:Int), .int .i64 (0:Int), .int .i64 (0:Int), .int .u64 (0:Int), .int .u64 (0:Int), .int .u64 (0:Int), .int .u64 (0:Int), .bool false, (.slice none 0 0), .int .u64 (0:Int), .int .u64 (0:Int), .int .u64 (0:Int), (.slice none 0 0), .int .u64 (0:Int), .int .u64 (0:Int), .int .u64 (0:Int), (.slice none 0 0), (.slice none 0 0), (.slice none 0 0), (.slice none 0 0), .int .u64 (0:Int), .int .u64 (0:Int), .int .i64 (0:Int), .int .u64 (0:Int), .int .u64 (0:Int), (.slice none 0 0), (.slice none 0 0), .int .u8 (0:Int), .int .u64 (0:Int), .int .u64 (0:Int), .int .u64 (0:Int), .int .u64 (0:Int), .int .i64 (0:Int), .int .u64 (0:Int), .int .u64 (0:Int), .int .u64 (0:Int), (.slice none 0 0), (.slice none 0 0), (.slice none 0 0), (.slice none 0 0), (.slice none 0 0), .int .i64 (0:Int), .int .u64 (0:Int), .int .u64 (0:Int), (.slice none 0 0), (.slice none 0 0), .int .u64 (0:Int), (.slice none 0 0), .int .u64 (0:Int), .int .i64 (0:Int), .int .i64 (0:Int), .float .f64 (0:Nat), .float .f64 (0:Nat), .int .u64 (0:Int), .int .i64 (0:Int), .bool false], at_octet_Reader v438 t440.2, cells b477 [.int .u8 (IntKind.u8.wrap t440.1), .int .u8 (0:Int), .int .i64 (0:Int), .int .i64 (0:Int), .int .u64 (0:Int), .int .u64 (0:Int), .int .u64 (0:Int), .int .u64 (0:Int), .bool false, (.slice none 0 0), .int .u64 (0:Int), .int .u64 (0:Int), .int .u64 (0:Int), (.slice none 0 0), .int .u64 (0:Int), .int .u64 (0:Int), .int .u64 (0:Int), (.slice none 0 0), (.slice none 0 0), (.slice none 0 0), (.slice none 0 0), .int .u64 (0:Int), .int .u64 (0:Int), .int .i64 (0:Int), .int .u64 (0:Int), .int .u64 (0:Int), (.slice none 0 0), (.slice none 0 0), .int .u8 (0:Int), .int .u64 (0:Int), .int .u64 (0:Int), .int .u64 (0:Int), .int .u64 (0:Int), .int .i64 (0:Int), .int .u64 (0:Int), .int .u64 (0:Int), .int .u64 (0:Int), (.slice none 0 0), (.slice none 0 0), (.slice none 0 0), (.slice none 0 0), (.slice none 0 0), .int .i64 (0:Int), .int .u64 (0:Int), .int .u64 (0:Int), (.slice none 0 0), (.slice none 0 0), .int .u64 (0:Int), (.slice none 0 0), .int .u64 (0:Int), .int .i64 (0:Int), .int .i64 (0:Int), .float .f64 (0:Nat), .float .f64 (0:Nat), .int .u64 (0:Int), .int .i64 (0:Int), .bool false]] R) ?_ ?_
   ·skip
    refine wp_seq (wp_region_lit ?_)
    refine wv (.bool ((IntKind.u8.wrap t440.1) == (2:Int))) rfl rfl rfl ?_
    refine wv (.bool ((IntKind.u8.wrap t440.1) == (2:Int))) rfl rfl rfl ?_
    refine wl_nil (then_n ?_)
    refine bsplit ((IntKind.u8.wrap t440.1) == (2:Int)) (fun hc496 => ?_) (fun hc496 => ?_)
    ·skip
     replace hm := bif_t hc496 hm
     refine wp_ift (congrArg Value.bool hc496) ?_
     refine wp_skip (then_n ?_)
     replace hst := hst.pull1
     replace hst := hst.pull2
     replace hst := hst.keep3
     obtain rfl := some_inj hm
     exact ⟨((IntKind.u8.wrap t440.1) == (2:Int)), _, hx501, ((fr_upd (t := 0) (v := r0_0) rfl).trans ((fr_upd (t := 2) (v := .pointer (some ⟨b428, 0, none⟩)) rfl).trans ((fr_upd (t := 4) (v := v438) rfl).trans ((fr_upd (t := 5) (v := .pointer (some ⟨b477, 0, none⟩)) rfl).trans ((fr_upd (t := 15) (v := .int .u8 (IntKind.u8.wrap t440.1)) rfl).trans ((fr_upd (t := 22) (v := .bool ((IntKind.u8.wrap t440.1) == (2:Int))) rfl).trans rfl)))))), hst⟩
    ·skip
     replace hm := bif_f hc496 hm
     refine wp_iff (congrArg Value.bool hc496) ?_
     refine wp_region_lit ?_
     refine wv (.bool ((IntKind.u8.wrap t440.1) == (6:Int))) rfl rfl rfl ?_
     refine wv (.bool ((IntKind.u8.wrap t440.1) == (6:Int))) rfl rfl rfl ?_
     refine wl_nil (then_n ?_)
     replace hst := hst.pull1
     replace hst := hst.pull2
     replace hst := hst.keep3
     obtain rfl := some_inj hm
     exact ⟨((IntKind.u8.wrap t440.1) == (6:Int)), _, hx501, ((fr_upd (t := 0) (v := r0_0) rfl).trans ((fr_upd (t := 2) (v := .pointer (some ⟨b428, 0, none⟩)) rfl).trans ((fr_upd (t := 4) (v := v438) rfl).trans ((fr_upd (t := 5) (v := .pointer (some ⟨b477, 0, none⟩)) rfl).trans ((fr_upd (t := 15) (v := .int .u8 (IntKind.u8.wrap t440.1)) rfl).trans ((fr_upd (t := 22) (v := .bool ((IntKind.u8.wrap t440.1) == (6:Int))) rfl).trans rfl)))))), hst⟩
   ·skip
    clear hst
    rintro _ w502 ⟨z497, σ498, hm, rfl, hst⟩
    dsimp only [mail_Decode_j1] at hm
    refine bsplit z497 (fun hc503 => ?_) (fun hc503 => ?_)
    ·skip
     replace hm := bif_t hc503 hm
     refine wp_ift (congrArg Value.bool hc503) ?_
     refine wp_region_lit ?_
     refine wv (v438) rfl rfl rfl ?_
     replace hst := hst.pull1
     obtain ⟨t504, ht505, hm⟩ := bind_some hm
     refine wl_call rfl rfl (x_call Try.call15 rfl (vs := [v438]) rfl) ?_
     refine (locks_Read_ref hst.to1 ht505).mono ?_
     rintro _ w506 ⟨v509, v511, v513, v515, rfl, hst⟩
     refine ⟨_, rfl, ?_⟩
     replace hst := hst.of5
     refine wv (.pointer (some ⟨b477, 14, none⟩)) rfl rfl (x_field rfl Try.underlying50 rfl Try.sizeOf36 rfl) ?_
     replace hst := hst.pull6
     obtain ⟨w517, hr518, hst⟩ := hst.boxStore (P := Try.prog) (t := 36) (cs' := [.int .u8 (IntKind.u8.wrap t440.1), .int .u8 (0:Int), .int .i64 (0:Int), .int .i64 (0:Int), .int .u64 (0:Int), .int .u64 (0:Int), .int .u64 (0:Int), .int .u64 (0:Int), .bool false, (.slice none 0 0), .int .u64 (0:Int), .int .u64 (0:Int), .int .u64 (0:Int), (.slice none 0 0), .int .u64 t504.1.ID.Session, .int .u64 t504.1.ID.Seq, .int .u64 t504.1.Epoch, v509, v511, v513, v515, .int .u64 (0:Int), .int .u64 (0:Int), .int .i64 (0:Int), .int .u64 (0:Int), .int .u64 (0:Int), (.slice none 0 0), (.slice none 0 0), .int .u8 (0:Int), .int .u64 (0:Int), .int .u64 (0:Int), .int .u64 (0:Int), .int .u64 (0:Int), .int .i64 (0:Int), .int .u64 (0:Int), .int .u64 (0:Int), .int .u64 (0:Int), (.slice none 0 0), (.slice none 0 0), (.slice none 0 0), (.slice none 0 0), (.slice none 0 0), .int .i64 (0:Int), .int .u64 (0:Int), .int .u64 (0:Int), (.slice none 0 0), (.slice none 0 0), .int .u64 (0:Int), (.slice none 0 0), .int .u64 (0:Int), .int .i64 (0:Int), .int .i64 (0:Int), .float .f64 (0:Nat), .float .f64 (0:Nat), .int .u64 (0:Int), .int .i64 (0:Int), .bool false]) 14 (.agg #[.int .u64 t504.1.ID.Session, .int .u64 t504.1.ID.Seq, .int .u64 t504.1.Epoch, v509, v511, v513, v515]) Try.sizeOf36 (Nat.le_of_ble_eq_true rfl) (ones_cons rfl (ones_cons rfl (ones_cons rfl (ones_cons (one_of_sliceV hst.sv1) (ones_cons (one_of_sliceV hst.sv2) (ones_cons (one_of_sliceV hst.sv3) (ones_cons (one_of_sliceV hst.sv4) ones_nil))))))) (by kernel_rfl)
     refine wl_unit rfl rfl (x_unit hr518) ?_
     refine wl_nil (blk_n (then_n ?_))
     replace hst := hst.own_nil ty_api_Entry
     replace hst := hst.own_nil (tyInt .u8)
     replace hst := hst.own_nil ty_api_Got
     replace hst := hst.own_nil (tySl ty_api_Pair)
     replace hst := hst.own_nil tyF64
     replace hst := hst.own_nil tyF2
     replace hst := hst.own_nil tyF64
     replace hst := hst.own_nil (tyInt .u8)
     replace hst := hst.own_nil ty_api_Write
     replace hst := hst.own_nil ty_api_Got
     replace hst := hst.own_nil (tySl ty_api_Pair)
     replace hst := hst.own_nil ty_api_Part
     replace hst := hst.pull1
     replace hst := hst.pull2
     replace hst := hst.pull3
     replace hst := hst.pull4
     replace hst := hst.pull5
     replace hst := hst.pull6
     replace hst := hst.pull7
     replace hst := hst.pull8
     replace hst := hst.pull9
     replace hst := hst.pull16
     replace hst := hst.pull16
     replace hst := hst.pull16
     replace hst := hst.pull16
     replace hst := hst.pull14
     replace hst := hst.pull15
     replace hst := hst.pull16
     replace hst := hst.pull17
     replace hst := hst.pull18
     replace hst := hst.keep19
     obtain rfl := some_inj hm
     exact ⟨_, t504.2, ({ Kind := (IntKind.u8.wrap t440.1), M := ({ Kind := (0:Int), From := (0:Int), To := (0:Int), Term := (0:Int), Index := (0:Int), LogTerm := (0:Int), Commit := (0:Int), OK := false, Entries := [], S := ({ Index := (0:Int), Term := (0:Int), Voters := (0:Int), Data := [] } : api_Snap) } : api_Message), H := t504.1, ID := ({ Session := (0:Int), Seq := (0:Int) } : api_ID), R := ({ E := (0:Int), Epoch := (0:Int), Index := (0:Int), Gots := [], Scans := [] } : api_Reply), C := ({ Kind := (0:Int), ID := ({ Session := (0:Int), Seq := (0:Int) } : api_ID), Epoch := (0:Int), Index := (0:Int), E := (0:Int), Hold := ({ ID := ({ Session := (0:Int), Seq := (0:Int) } : api_ID), Epoch := (0:Int), Gets := [], Scans := [], Puts := [], Data := [] } : api_Hold), Writes := [], R := ({ E := (0:Int), Epoch := (0:Int), Index := (0:Int), Gots := [], Scans := [] } : api_Reply), Shards := (0:Int), Parts := [], Rule := ({ ID := (0:Int), From := (0:Int), To := (0:Int), Lo := (0:Nat), Hi := (0:Nat), Authority := (0:Int), Quota := (0:Int) } : api_Rule), On := false } : api_Command) } : api_Mail), (.slice none 0 0), (.slice none 0 0), v509, v511, v513, v515, (.slice none 0 0), (.slice none 0 0), (.slice none 0 0), (.slice none 0 0), (.slice none 0 0), (.slice none 0 0), (.slice none 0 0), (.slice none 0 0), (.slice none 0 0), (.slice none 0 0), _, hx702, ((fr_upd (t := 0) (v := r0_0) rfl).trans ((fr_upd (t := 2) (v := .pointer (some ⟨b428, 0, none⟩)) rfl).trans ((fr_upd (t := 4) (v := v438) rfl).trans ((fr_upd (t := 5) (v := .pointer (some ⟨b477, 0, none⟩)) rfl).trans rfl)))), hL703, hst⟩
    ·skip
     replace hm := bif_f hc503 hm
     refine wp_iff (congrArg Value.bool hc503) ?_
     refine wp_seq (wp_region_lit ?_)
     refine wv (.bool ((IntKind.u8.wrap t440.1) == (3:Int))) rfl rfl rfl ?_
     refine wv (.bool ((IntKind.u8.wrap t440.1) == (3:Int))) rfl rfl rfl ?_
     refine wl_nil (then_n ?_)
     refine bsplit ((IntKind.u8.wrap t440.1) == (3:Int)) (fun hc519 => ?_) (fun hc519 => ?_)
     ·skip
      replace hm := bif_t hc519 hm
      refine wp_ift (congrArg Value.bool hc519) ?_
      refine wp_seq (wp_region_lit ?_)
      refine wv (v438) rfl rfl rfl ?_
      replace hst := hst.pull1
      obtain ⟨t520, ht521, hm⟩ := bind_some hm
      refine wl_call rfl rfl (x_call Try.call15 rfl (vs := [v438]) rfl) ?_
      refine (locks_Read_ref hst.to1 ht521).mono ?_
      rintro _ w522 ⟨v525, v527, v529, v531, rfl, hst⟩
      refine ⟨_, rfl, ?_⟩
      replace hst := hst.of5
      refine wv (.pointer (some ⟨b477, 14, none⟩)) rfl rfl (x_field rfl Try.underlying50 rfl Try.sizeOf36 rfl) ?_
      replace hst := hst.pull6
      obtain ⟨w533, hr534, hst⟩ := hst.boxStore (P := Try.prog) (t := 36) (cs' := [.int .u8 (IntKind.u8.wrap t440.1), .int .u8 (0:Int), .int .i64 (0:Int), .int .i64 (0:Int), .int .u64 (0:Int), .int .u64 (0:Int), .int .u64 (0:Int), .int .u64 (0:Int), .bool false, (.slice none 0 0), .int .u64 (0:Int), .int .u64 (0:Int), .int .u64 (0:Int), (.slice none 0 0), .int .u64 t520.1.ID.Session, .int .u64 t520.1.ID.Seq, .int .u64 t520.1.Epoch, v525, v527, v529, v531, .int .u64 (0:Int), .int .u64 (0:Int), .int .i64 (0:Int), .int .u64 (0:Int), .int .u64 (0:Int), (.slice none 0 0), (.slice none 0 0), .int .u8 (0:Int), .int .u64 (0:Int), .int .u64 (0:Int), .int .u64 (0:Int), .int .u64 (0:Int), .int .i64 (0:Int), .int .u64 (0:Int), .int .u64 (0:Int), .int .u64 (0:Int), (.slice none 0 0), (.slice none 0 0), (.slice none 0 0), (.slice none 0 0), (.slice none 0 0), .int .i64 (0:Int), .int .u64 (0:Int), .int .u64 (0:Int), (.slice none 0 0), (.slice none 0 0), .int .u64 (0:Int), (.slice none 0 0), .int .u64 (0:Int), .int .i64 (0:Int), .int .i64 (0:Int), .float .f64 (0:Nat), .float .f64 (0:Nat), .int .u64 (0:Int), .int .i64 (0:Int), .bool false]) 14 (.agg #[.int .u64 t520.1.ID.Session, .int .u64 t520.1.ID.Seq, .int .u64 t520.1.Epoch, v525, v527, v529, v531]) Try.sizeOf36 (Nat.le_of_ble_eq_true rfl) (ones_cons rfl (ones_cons rfl (ones_cons rfl (ones_cons (one_of_sliceV hst.sv1) (ones_cons (one_of_sliceV hst.sv2) (ones_cons (one_of_sliceV hst.sv3) (ones_cons (one_of_sliceV hst.sv4) ones_nil))))))) (by kernel_rfl)
      refine wl_unit rfl rfl (x_unit hr534) ?_
      refine wl_nil (then_n (wp_region_lit ?_))
      refine wv (v438) rfl rfl rfl ?_
      replace hst := hst.pull5
      obtain ⟨t535, ht536, hm⟩ := bind_some hm
      refine wl_call rfl rfl (x_call Try.call16 rfl (vs := [v438]) rfl) ?_
      refine (command_ReadReply_ref hst.to1 ht536).mono ?_
      rintro _ w537 ⟨I538, v540, v542, rfl, hI539, hst⟩
      refine ⟨_, rfl, ?_⟩
      replace hst := hst.of3
      replace f0_0 := f0_0.mono (ro_le hI539)
      replace hI0 := hI0.trans hI539
      replace hL703 := hL703.trans hI539
      refine wv (.pointer (some ⟨b477, 23, none⟩)) rfl rfl (x_field rfl Try.underlying50 rfl Try.sizeOf41 rfl) ?_
      replace hst := hst.pull3
      obtain ⟨w544, hr545, hst⟩ := hst.boxStore (P := Try.prog) (t := 41) (cs' := [.int .u8 (IntKind.u8.wrap t440.1), .int .u8 (0:Int), .int .i64 (0:Int), .int .i64 (0:Int), .int .u64 (0:Int), .int .u64 (0:Int), .int .u64 (0:Int), .int .u64 (0:Int), .bool false, (.slice none 0 0), .int .u64 (0:Int), .int .u64 (0:Int), .int .u64 (0:Int), (.slice none 0 0), .int .u64 t520.1.ID.Session, .int .u64 t520.1.ID.Seq, .int .u64 t520.1.Epoch, v525, v527, v529, v531, .int .u64 (0:Int), .int .u64 (0:Int), .int .i64 t535.1.E, .int .u64 t535.1.Epoch, .int .u64 t535.1.Index, v540, v542, .int .u8 (0:Int), .int .u64 (0:Int), .int .u64 (0:Int), .int .u64 (0:Int), .int .u64 (0:Int), .int .i64 (0:Int), .int .u64 (0:Int), .int .u64 (0:Int), .int .u64 (0:Int), (.slice none 0 0), (.slice none 0 0), (.slice none 0 0), (.slice none 0 0), (.slice none 0 0), .int .i64 (0:Int), .int .u64 (0:Int), .int .u64 (0:Int), (.slice none 0 0), (.slice none 0 0), .int .u64 (0:Int), (.slice none 0 0), .int .u64 (0:Int), .int .i64 (0:Int), .int .i64 (0:Int), .float .f64 (0:Nat), .float .f64 (0:Nat), .int .u64 (0:Int), .int .i64 (0:Int), .bool false]) 23 (.agg #[.int .i64 t535.1.E, .int .u64 t535.1.Epoch, .int .u64 t535.1.Index, v540, v542]) Try.sizeOf41 (Nat.le_of_ble_eq_true rfl) (ones_cons rfl (ones_cons rfl (ones_cons rfl (ones_cons (one_of_sliceV hst.sv1) (ones_cons (one_of_sliceV hst.sv2) ones_nil))))) (by kernel_rfl)
      refine wl_unit rfl rfl (x_unit hr545) ?_
      refine wl_nil (blk_n (then_n ?_))
      replace hst := hst.own_nil ty_api_Entry
      replace hst := hst.own_nil (tyInt .u8)
      replace hst := hst.own_nil tyF64
      replace hst := hst.own_nil tyF2
      replace hst := hst.own_nil tyF64
      replace hst := hst.own_nil (tyInt .u8)
      replace hst := hst.own_nil ty_api_Write
      replace hst := hst.own_nil ty_api_Got
      replace hst := hst.own_nil (tySl ty_api_Pair)
      replace hst := hst.own_nil ty_api_Part
      replace hst := hst.pull1
      replace hst := hst.pull2
      replace hst := hst.pull3
      replace hst := hst.pull4
      replace hst := hst.pull5
      replace hst := hst.pull6
      replace hst := hst.pull7
      replace hst := hst.pull12
      replace hst := hst.pull12
      replace hst := hst.pull17
      replace hst := hst.pull17
      replace hst := hst.pull17
      replace hst := hst.pull17
      replace hst := hst.pull14
      replace hst := hst.pull15
      replace hst := hst.pull16
      replace hst := hst.pull17
      replace hst := hst.pull18
      replace hst := hst.keep19
      obtain rfl := some_inj hm
      exact ⟨_, t535.2, ({ Kind := (IntKind.u8.wrap t440.1), M := ({ Kind := (0:Int), From := (0:Int), To := (0:Int), Term := (0:Int), Index := (0:Int), LogTerm := (0:Int), Commit := (0:Int), OK := false, Entries := [], S := ({ Index := (0:Int), Term := (0:Int), Voters := (0:Int), Data := [] } : api_Snap) } : api_Message), H := t520.1, ID := ({ Session := (0:Int), Seq := (0:Int) } : api_ID), R := t535.1, C := ({ Kind := (0:Int), ID := ({ Session := (0:Int), Seq := (0:Int) } : api_ID), Epoch := (0:Int), Index := (0:Int), E := (0:Int), Hold := ({ ID := ({ Session := (0:Int), Seq := (0:Int) } : api_ID), Epoch := (0:Int), Gets := [], Scans := [], Puts := [], Data := [] } : api_Hold), Writes := [], R := ({ E := (0:Int), Epoch := (0:Int), Index := (0:Int), Gots := [], Scans := [] } : api_Reply), Shards := (0:Int), Parts := [], Rule := ({ ID := (0:Int), From := (0:Int), To := (0:Int), Lo := (0:Nat), Hi := (0:Nat), Authority := (0:Int), Quota := (0:Int) } : api_Rule), On := false } : api_Command) } : api_Mail), (.slice none 0 0), (.slice none 0 0), v525, v527, v529, v531, v540, v542, (.slice none 0 0), (.slice none 0 0), (.slice none 0 0), (.slice none 0 0), (.slice none 0 0), (.slice none 0 0), (.slice none 0 0), (.slice none 0 0), _, hx702, ((fr_upd (t := 0) (v := r0_0) rfl).trans ((fr_upd (t := 2) (v := .pointer (some ⟨b428, 0, none⟩)) rfl).trans ((fr_upd (t := 4) (v := v438) rfl).trans ((fr_upd (t := 5) (v := .pointer (some ⟨b477, 0, none⟩)) rfl).trans rfl)))), hL703, hst⟩
     ·skip
      replace hm := bif_f hc519 hm
      refine wp_iff (congrArg Value.bool hc519) ?_
      refine wp_seq (wp_region_lit ?_)
      refine wv (.bool ((IntKind.u8.wrap t440.1) == (4:Int))) rfl rfl rfl ?_
      refine wv (.bool ((IntKind.u8.wrap t440.1) == (4:Int))) rfl rfl rfl ?_
      refine wl_nil (then_n ?_)
      refine bsplit ((IntKind.u8.wrap t440.1) == (4:Int)) (fun hc546 => ?_) (fun hc546 => ?_)
      ·skip
       replace hm := bif_t hc546 hm
       refine wp_ift (congrArg Value.bool hc546) ?_
       refine wp_seq (wp_region_lit ?_)
       refine wv (v438) rfl rfl rfl ?_
       replace hst := hst.pull1
       obtain ⟨t547, ht548, hm⟩ := bind_some hm
       refine wl_call rfl rfl (x_call Try.call18 rfl (vs := [v438, .int .i64 (1048576:Int)]) rfl) ?_
       refine (octet_Reader_Bytes_ref hst.to1 ht548).mono ?_
       rintro _ w549 ⟨v552, rfl, hst⟩
       refine ⟨_, rfl, ?_⟩
       replace hst := hst.of2
       obtain ⟨I554, hI555, f556, hst⟩ := hst.own_fix
       replace f0_0 := f0_0.mono (ro_le hI555)
       replace hI0 := hI0.trans hI555
       replace hL703 := hL703.trans hI555
       obtain ⟨t557, ht558, hm⟩ := bind_some hm
       refine wl_call rfl rfl (x_call Try.call17 rfl (vs := [v552]) rfl) ?_
       refine (command_Decode_ref f556 hst.to0 ht558).mono ?_
       rintro _ w559 ⟨I560, v562, v564, v566, v568, v570, v572, v574, v576, rfl, hI561, hst⟩
       refine ⟨_, rfl, ?_⟩
       replace hst := hst.of8
       replace f0_0 := f0_0.mono (ro_le hI561)
       replace f556 := f556.mono (ro_le hI561)
       replace hI0 := hI0.trans hI561
       replace hL703 := hL703.trans hI561
       refine wv (.tuple #[.agg #[.int .u8 t557.1.Kind, .int .u64 t557.1.ID.Session, .int .u64 t557.1.ID.Seq, .int .u64 t557.1.Epoch, .int .u64 t557.1.Index, .int .i64 t557.1.E, .int .u64 t557.1.Hold.ID.Session, .int .u64 t557.1.Hold.ID.Seq, .int .u64 t557.1.Hold.Epoch, v562, v564, v566, v568, v570, .int .i64 t557.1.R.E, .int .u64 t557.1.R.Epoch, .int .u64 t557.1.R.Index, v572, v574, .int .u64 t557.1.Shards, v576, .int .u64 t557.1.Rule.ID, .int .i64 t557.1.Rule.From, .int .i64 t557.1.Rule.To, .float .f64 t557.1.Rule.Lo, .float .f64 t557.1.Rule.Hi, .int .u64 t557.1.Rule.Authority, .int .i64 t557.1.Rule.Quota, .bool t557.1.On], .int .i64 t557.2]) rfl rfl rfl ?_
       refine wv (.agg #[.int .u8 t557.1.Kind, .int .u64 t557.1.ID.Session, .int .u64 t557.1.ID.Seq, .int .u64 t557.1.Epoch, .int .u64 t557.1.Index, .int .i64 t557.1.E, .int .u64 t557.1.Hold.ID.Session, .int .u64 t557.1.Hold.ID.Seq, .int .u64 t557.1.Hold.Epoch, v562, v564, v566, v568, v570, .int .i64 t557.1.R.E, .int .u64 t557.1.R.Epoch, .int .u64 t557.1.R.Index, v572, v574, .int .u64 t557.1.Shards, v576, .int .u64 t557.1.Rule.ID, .int .i64 t557.1.Rule.From, .int .i64 t557.1.Rule.To, .float .f64 t557.1.Rule.Lo, .float .f64 t557.1.Rule.Hi, .int .u64 t557.1.Rule.Authority, .int .i64 t557.1.Rule.Quota, .bool t557.1.On]) rfl rfl rfl ?_
       refine wv (.int .i64 t557.2) rfl rfl rfl ?_
       obtain ⟨b586, w587, ew588, eb589, hst⟩ := hst.box [.int .u8 (0:Int), .int .u64 (0:Int), .int .u64 (0:Int), .int .u64 (0:Int), .int .u64 (0:Int), .int .i64 (0:Int), .int .u64 (0:Int), .int .u64 (0:Int), .int .u64 (0:Int), (.slice none 0 0), (.slice none 0 0), (.slice none 0 0), (.slice none 0 0), (.slice none 0 0), .int .i64 (0:Int), .int .u64 (0:Int), .int .u64 (0:Int), (.slice none 0 0), (.slice none 0 0), .int .u64 (0:Int), (.slice none 0 0), .int .u64 (0:Int), .int .i64 (0:Int), .int .i64 (0:Int), .float .f64 (0:Nat), .float .f64 (0:Nat), .int .u64 (0:Int), .int .i64 (0:Int), .bool false] 48
       refine wl_run (v := .pointer (some ⟨b586, 0, none⟩)) (w' := w587) rfl rfl (x_al (by kernel_rfl) ew588 eb589) ?_
       obtain ⟨w591, hr592, hst⟩ := hst.boxStore (P := Try.prog) (t := 48) (cs' := [.int .u8 t557.1.Kind, .int .u64 t557.1.ID.Session, .int .u64 t557.1.ID.Seq, .int .u64 t557.1.Epoch, .int .u64 t557.1.Index, .int .i64 t557.1.E, .int .u64 t557.1.Hold.ID.Session, .int .u64 t557.1.Hold.ID.Seq, .int .u64 t557.1.Hold.Epoch, v562, v564, v566, v568, v570, .int .i64 t557.1.R.E, .int .u64 t557.1.R.Epoch, .int .u64 t557.1.R.Index, v572, v574, .int .u64 t557.1.Shards, v576, .int .u64 t557.1.Rule.ID, .int .i64 t557.1.Rule.From, .int .i64 t557.1.Rule.To, .float .f64 t557.1.Rule.Lo, .float .f64 t557.1.Rule.Hi, .int .u64 t557.1.Rule.Authority, .int .i64 t557.1.Rule.Quota, .bool t557.1.On]) 0 (.agg #[.int .u8 t557.1.Kind, .int .u64 t557.1.ID.Session, .int .u64 t557.1.ID.Seq, .int .u64 t557.1.Epoch, .int .u64 t557.1.Index, .int .i64 t557.1.E, .int .u64 t557.1.Hold.ID.Session, .int .u64 t557.1.Hold.ID.Seq, .int .u64 t557.1.Hold.Epoch, v562, v564, v566, v568, v570, .int .i64 t557.1.R.E, .int .u64 t557.1.R.Epoch, .int .u64 t557.1.R.Index, v572, v574, .int .u64 t557.1.Shards, v576, .int .u64 t557.1.Rule.ID, .int .i64 t557.1.Rule.From, .int .i64 t557.1.Rule.To, .float .f64 t557.1.Rule.Lo, .float .f64 t557.1.Rule.Hi, .int .u64 t557.1.Rule.Authority, .int .i64 t557.1.Rule.Quota, .bool t557.1.On]) Try.sizeOf48 (Nat.le_of_ble_eq_true rfl) (ones_cons rfl (ones_cons rfl (ones_cons rfl (ones_cons rfl (ones_cons rfl (ones_cons rfl (ones_cons rfl (ones_cons rfl (ones_cons rfl (ones_cons (one_of_sliceV hst.sv1) (ones_cons (one_of_sliceV hst.sv2) (ones_cons (one_of_sliceV hst.sv3) (ones_cons (one_of_sliceV hst.sv4) (ones_cons (one_of_sliceV hst.sv5) (ones_cons rfl (ones_cons rfl (ones_cons rfl (ones_cons (one_of_sliceV hst.sv6) (ones_cons (one_of_sliceV hst.sv7) (ones_cons rfl (ones_cons (one_of_sliceV hst.sv8) (ones_cons rfl (ones_cons rfl (ones_cons rfl (ones_cons rfl (ones_cons rfl (ones_cons rfl (ones_cons rfl (ones_cons rfl ones_nil))))))))))))))))))))))))))))) (by kernel_rfl)
       refine wl_unit rfl rfl (x_unit hr592) ?_
       refine wv (.int .i64 t557.2) rfl rfl rfl ?_
       refine wl_nil (then_n (wp_seq (wp_seq (wp_region_lit ?_))))
       refine wv (.int .i64 t557.2) rfl rfl rfl ?_
       refine wv (.bool (t557.2 != (0:Int))) rfl rfl rfl ?_
       refine wv (.bool (t557.2 != (0:Int))) rfl rfl rfl ?_
       refine bsplit (t557.2 != (0:Int)) (fun hc593 => ?_) (fun hc593 => ?_)
       ·skip
        replace hm := bif_t hc593 hm
        refine wo hc593 rfl rfl rfl rfl rfl rfl ?_
        refine wo hc593 rfl rfl rfl rfl rfl rfl ?_
        refine wo hc593 rfl rfl rfl rfl rfl rfl ?_
        refine wv (.bool true) rfl rfl (x_pick_t hc593 rfl rfl) ?_
        refine wl_nil (then_n ?_)
        refine wp_ift rfl ?_
        refine wp_seq (wp_region_lit ?_)
        refine wv (.agg #[.int .u8 (0:Int), .int .u8 (0:Int), .int .i64 (0:Int), .int .i64 (0:Int), .int .u64 (0:Int), .int .u64 (0:Int), .int .u64 (0:Int), .int .u64 (0:Int), .bool false, (.slice none 0 0), .int .u64 (0:Int), .int .u64 (0:Int), .int .u64 (0:Int), (.slice none 0 0), .int .u64 (0:Int), .int .u64 (0:Int), .int .u64 (0:Int), (.slice none 0 0), (.slice none 0 0), (.slice none 0 0), (.slice none 0 0), .int .u64 (0:Int), .int .u64 (0:Int), .int .i64 (0:Int), .int .u64 (0:Int), .int .u64 (0:Int), (.slice none 0 0), (.slice none 0 0), .int .u8 (0:Int), .int .u64 (0:Int), .int .u64 (0:Int), .int .u64 (0:Int), .int .u64 (0:Int), .int .i64 (0:Int), .int .u64 (0:Int), .int .u64 (0:Int), .int .u64 (0:Int), (.slice none 0 0), (.slice none 0 0), (.slice none 0 0), (.slice none 0 0), (.slice none 0 0), .int .i64 (0:Int), .int .u64 (0:Int), .int .u64 (0:Int), (.slice none 0 0), (.slice none 0 0), .int .u64 (0:Int), (.slice none 0 0), .int .u64 (0:Int), .int .i64 (0:Int), .int .i64 (0:Int), .float .f64 (0:Nat), .float .f64 (0:Nat), .int .u64 (0:Int), .int .i64 (0:Int), .bool false]) rfl rfl (by kernel_rfl) ?_
        replace hst := hst.pull10
        obtain ⟨w610, hr611, hst⟩ := hst.boxStore (P := Try.prog) (t := 50) (cs' := [.int .u8 (0:Int), .int .u8 (0:Int), .int .i64 (0:Int), .int .i64 (0:Int), .int .u64 (0:Int), .int .u64 (0:Int), .int .u64 (0:Int), .int .u64 (0:Int), .bool false, (.slice none 0 0), .int .u64 (0:Int), .int .u64 (0:Int), .int .u64 (0:Int), (.slice none 0 0), .int .u64 (0:Int), .int .u64 (0:Int), .int .u64 (0:Int), (.slice none 0 0), (.slice none 0 0), (.slice none 0 0), (.slice none 0 0), .int .u64 (0:Int), .int .u64 (0:Int), .int .i64 (0:Int), .int .u64 (0:Int), .int .u64 (0:Int), (.slice none 0 0), (.slice none 0 0), .int .u8 (0:Int), .int .u64 (0:Int), .int .u64 (0:Int), .int .u64 (0:Int), .int .u64 (0:Int), .int .i64 (0:Int), .int .u64 (0:Int), .int .u64 (0:Int), .int .u64 (0:Int), (.slice none 0 0), (.slice none 0 0), (.slice none 0 0), (.slice none 0 0), (.slice none 0 0), .int .i64 (0:Int), .int .u64 (0:Int), .int .u64 (0:Int), (.slice none 0 0), (.slice none 0 0), .int .u64 (0:Int), (.slice none 0 0), .int .u64 (0:Int), .int .i64 (0:Int), .int .i64 (0:Int), .float .f64 (0:Nat), .float .f64 (0:Nat), .int .u64 (0:Int), .int .i64 (0:Int), .bool false]) 0 (.agg #[.int .u8 (0:Int), .int .u8 (0:Int), .int .i64 (0:Int), .int .i64 (0:Int), .int .u64 (0:Int), .int .u64 (0:Int), .int .u64 (0:Int), .int .u64 (0:Int), .bool false, (.slice none 0 0), .int .u64 (0:Int), .int .u64 (0:Int), .int .u64 (0:Int), (.slice none 0 0), .int .u64 (0:Int), .int .u64 (0:Int), .int .u64 (0:Int), (.slice none 0 0), (.slice none 0 0), (.slice none 0 0), (.slice none 0 0), .int .u64 (0:Int), .int .u64 (0:Int), .int .i64 (0:Int), .int .u64 (0:Int), .int .u64 (0:Int), (.slice none 0 0), (.slice none 0 0), .int .u8 (0:Int), .int .u64 (0:Int), .int .u64 (0:Int), .int .u64 (0:Int), .int .u64 (0:Int), .int .i64 (0:Int), .int .u64 (0:Int), .int .u64 (0:Int), .int .u64 (0:Int), (.slice none 0 0), (.slice none 0 0), (.slice none 0 0), (.slice none 0 0), (.slice none 0 0), .int .i64 (0:Int), .int .u64 (0:Int), .int .u64 (0:Int), (.slice none 0 0), (.slice none 0 0), .int .u64 (0:Int), (.slice none 0 0), .int .u64 (0:Int), .int .i64 (0:Int), .int .i64 (0:Int), .float .f64 (0:Nat), .float .f64 (0:Nat), .int .u64 (0:Int), .int .i64 (0:Int), .bool false]) Try.sizeOf50 (Nat.le_of_ble_eq_true rfl) (ones_cons rfl (ones_cons rfl (ones_cons rfl (ones_cons rfl (ones_cons rfl (ones_cons rfl (ones_cons rfl (ones_cons rfl (ones_cons rfl (ones_cons rfl (ones_cons rfl (ones_cons rfl (ones_cons rfl (ones_cons rfl (ones_cons rfl (ones_cons rfl (ones_cons rfl (ones_cons rfl (ones_cons rfl (ones_cons rfl (ones_cons rfl (ones_cons rfl (ones_cons rfl (ones_cons rfl (ones_cons rfl (ones_cons rfl (ones_cons rfl (ones_cons rfl (ones_cons rfl (ones_cons rfl (ones_cons rfl (ones_cons rfl (ones_cons rfl (ones_cons rfl (ones_cons rfl (ones_cons rfl (ones_cons rfl (ones_cons rfl (ones_cons rfl (ones_cons rfl (ones_cons rfl (ones_cons rfl (ones_cons rfl (ones_cons rfl (ones_cons rfl (ones_cons rfl (ones_cons rfl (ones_cons rfl (ones_cons rfl (ones_cons rfl (ones_cons rfl (ones_cons rfl (ones_cons rfl (ones_cons rfl (ones_cons rfl (ones_cons rfl (ones_cons rfl ones_nil))))))))))))))))))))))))))))))))))))))))))))))))))))))))) (by kernel_rfl)
        refine wl_unit rfl rfl (x_unit hr611) ?_
        refine wv (.int .i64 (5:Int)) rfl rfl rfl ?_
        refine wl_nil (then_n (wp_ret (then_r (blk_r (then_r ?_)))))
        replace hm := inr_up hm hx702
        replace hst := hst.own_nil ty_api_Entry
        replace hst := hst.own_nil (tyInt .u8)
        replace hst := hst.own_nil tyF64
        replace hst := hst.own_nil tyF2
        replace hst := hst.own_nil tyF64
        replace hst := hst.own_nil (tyInt .u8)
        replace hst := hst.own_nil ty_api_Got
        replace hst := hst.own_nil (tySl ty_api_Pair)
        replace hst := hst.own_nil tyF64
        replace hst := hst.own_nil tyF2
        replace hst := hst.own_nil tyF64
        replace hst := hst.own_nil (tyInt .u8)
        replace hst := hst.own_nil ty_api_Write
        replace hst := hst.own_nil ty_api_Got
        replace hst := hst.own_nil (tySl ty_api_Pair)
        replace hst := hst.own_nil ty_api_Part
        obtain rfl := some_inj hm
        refine post_ret (vs := [.agg #[.int .u8 (0:Int), .int .u8 (0:Int), .int .i64 (0:Int), .int .i64 (0:Int), .int .u64 (0:Int), .int .u64 (0:Int), .int .u64 (0:Int), .int .u64 (0:Int), .bool false, (.slice none 0 0), .int .u64 (0:Int), .int .u64 (0:Int), .int .u64 (0:Int), (.slice none 0 0), .int .u64 (0:Int), .int .u64 (0:Int), .int .u64 (0:Int), (.slice none 0 0), (.slice none 0 0), (.slice none 0 0), (.slice none 0 0), .int .u64 (0:Int), .int .u64 (0:Int), .int .i64 (0:Int), .int .u64 (0:Int), .int .u64 (0:Int), (.slice none 0 0), (.slice none 0 0), .int .u8 (0:Int), .int .u64 (0:Int), .int .u64 (0:Int), .int .u64 (0:Int), .int .u64 (0:Int), .int .i64 (0:Int), .int .u64 (0:Int), .int .u64 (0:Int), .int .u64 (0:Int), (.slice none 0 0), (.slice none 0 0), (.slice none 0 0), (.slice none 0 0), (.slice none 0 0), .int .i64 (0:Int), .int .u64 (0:Int), .int .u64 (0:Int), (.slice none 0 0), (.slice none 0 0), .int .u64 (0:Int), (.slice none 0 0), .int .u64 (0:Int), .int .i64 (0:Int), .int .i64 (0:Int), .float .f64 (0:Nat), .float .f64 (0:Nat), .int .u64 (0:Int), .int .i64 (0:Int), .bool false], .int .i64 (5:Int)]) Try.results7 (rvs_cons (rv_cell (cs := [.int .u8 (0:Int), .int .u8 (0:Int), .int .i64 (0:Int), .int .i64 (0:Int), .int .u64 (0:Int), .int .u64 (0:Int), .int .u64 (0:Int), .int .u64 (0:Int), .bool false, (.slice none 0 0), .int .u64 (0:Int), .int .u64 (0:Int), .int .u64 (0:Int), (.slice none 0 0), .int .u64 (0:Int), .int .u64 (0:Int), .int .u64 (0:Int), (.slice none 0 0), (.slice none 0 0), (.slice none 0 0), (.slice none 0 0), .int .u64 (0:Int), .int .u64 (0:Int), .int .i64 (0:Int), .int .u64 (0:Int), .int .u64 (0:Int), (.slice none 0 0), (.slice none 0 0), .int .u8 (0:Int), .int .u64 (0:Int), .int .u64 (0:Int), .int .u64 (0:Int), .int .u64 (0:Int), .int .i64 (0:Int), .int .u64 (0:Int), .int .u64 (0:Int), .int .u64 (0:Int), (.slice none 0 0), (.slice none 0 0), (.slice none 0 0), (.slice none 0 0), (.slice none 0 0), .int .i64 (0:Int), .int .u64 (0:Int), .int .u64 (0:Int), (.slice none 0 0), (.slice none 0 0), .int .u64 (0:Int), (.slice none 0 0), .int .u64 (0:Int), .int .i64 (0:Int), .int .i64 (0:Int), .float .f64 (0:Nat), .float .f64 (0:Nat), .int .u64 (0:Int), .int .i64 (0:Int), .bool false]) rfl Try.isAgg50 Try.sizeOf50 (hst.bcs16 0 rfl)) (rvs_cons (rv_tmp rfl) rvs_nil)) ?_
        replace hst := hst.pull1
        replace hst := hst.pull2
        replace hst := hst.pull3
        replace hst := hst.pull4
        replace hst := hst.pull5
        replace hst := hst.pull6
        replace hst := hst.pull7
        replace hst := hst.pull8
        replace hst := hst.pull9
        replace hst := hst.pull10
        replace hst := hst.pull11
        replace hst := hst.pull12
        replace hst := hst.pull13
        replace hst := hst.pull14
        replace hst := hst.pull15
        exact ⟨_, (.slice none 0 0), (.slice none 0 0), (.slice none 0 0), (.slice none 0 0), (.slice none 0 0), (.slice none 0 0), (.slice none 0 0), (.slice none 0 0), (.slice none 0 0), (.slice none 0 0), (.slice none 0 0), (.slice none 0 0), (.slice none 0 0), (.slice none 0 0), (.slice none 0 0), (.slice none 0 0), rfl, hI0, hst.keep16⟩
       ·skip
        replace hm := bif_f hc593 hm
        refine wv (.pointer (some ⟨b586, 0, none⟩)) ((wanted_eq rfl rfl rfl (congrArg Value.bool hc593)).trans rfl) rfl (x_field rfl Try.underlying48 rfl Try.sizeOf5 rfl) ?_
        refine wv (.int .u8 t557.1.Kind) ((wanted_eq rfl rfl rfl (congrArg Value.bool hc593)).trans rfl) rfl (x_load rfl Try.isAgg5 (hst.bc0 rfl)) ?_
        refine wv (.bool (t557.1.Kind != (3:Int))) ((wanted_eq rfl rfl rfl (congrArg Value.bool hc593)).trans rfl) rfl rfl ?_
        refine wv (.bool (t557.1.Kind != (3:Int))) rfl rfl (x_pick_f hc593 rfl rfl) ?_
        refine wl_nil (then_n ?_)
        refine bsplit (t557.1.Kind != (3:Int)) (fun hc612 => ?_) (fun hc612 => ?_)
        ·skip
         replace hm := bif_t hc612 hm
         refine wp_ift (congrArg Value.bool hc612) ?_
         refine wp_seq (wp_region_lit ?_)
         refine wv (.agg #[.int .u8 (0:Int), .int .u8 (0:Int), .int .i64 (0:Int), .int .i64 (0:Int), .int .u64 (0:Int), .int .u64 (0:Int), .int .u64 (0:Int), .int .u64 (0:Int), .bool false, (.slice none 0 0), .int .u64 (0:Int), .int .u64 (0:Int), .int .u64 (0:Int), (.slice none 0 0), .int .u64 (0:Int), .int .u64 (0:Int), .int .u64 (0:Int), (.slice none 0 0), (.slice none 0 0), (.slice none 0 0), (.slice none 0 0), .int .u64 (0:Int), .int .u64 (0:Int), .int .i64 (0:Int), .int .u64 (0:Int), .int .u64 (0:Int), (.slice none 0 0), (.slice none 0 0), .int .u8 (0:Int), .int .u64 (0:Int), .int .u64 (0:Int), .int .u64 (0:Int), .int .u64 (0:Int), .int .i64 (0:Int), .int .u64 (0:Int), .int .u64 (0:Int), .int .u64 (0:Int), (.slice none 0 0), (.slice none 0 0), (.slice none 0 0), (.slice none 0 0), (.slice none 0 0), .int .i64 (0:Int), .int .u64 (0:Int), .int .u64 (0:Int), (.slice none 0 0), (.slice none 0 0), .int .u64 (0:Int), (.slice none 0 0), .int .u64 (0:Int), .int .i64 (0:Int), .int .i64 (0:Int), .float .f64 (0:Nat), .float .f64 (0:Nat), .int .u64 (0:Int), .int .i64 (0:Int), .bool false]) rfl rfl (by kernel_rfl) ?_
         replace hst := hst.pull10
         obtain ⟨w629, hr630, hst⟩ := hst.boxStore (P := Try.prog) (t := 50) (cs' := [.int .u8 (0:Int), .int .u8 (0:Int), .int .i64 (0:Int), .int .i64 (0:Int), .int .u64 (0:Int), .int .u64 (0:Int), .int .u64 (0:Int), .int .u64 (0:Int), .bool false, (.slice none 0 0), .int .u64 (0:Int), .int .u64 (0:Int), .int .u64 (0:Int), (.slice none 0 0), .int .u64 (0:Int), .int .u64 (0:Int), .int .u64 (0:Int), (.slice none 0 0), (.slice none 0 0), (.slice none 0 0), (.slice none 0 0), .int .u64 (0:Int), .int .u64 (0:Int), .int .i64 (0:Int), .int .u64 (0:Int), .int .u64 (0:Int), (.slice none 0 0), (.slice none 0 0), .int .u8 (0:Int), .int .u64 (0:Int), .int .u64 (0:Int), .int .u64 (0:Int), .int .u64 (0:Int), .int .i64 (0:Int), .int .u64 (0:Int), .int .u64 (0:Int), .int .u64 (0:Int), (.slice none 0 0), (.slice none 0 0), (.slice none 0 0), (.slice none 0 0), (.slice none 0 0), .int .i64 (0:Int), .int .u64 (0:Int), .int .u64 (0:Int), (.slice none 0 0), (.slice none 0 0), .int .u64 (0:Int), (.slice none 0 0), .int .u64 (0:Int), .int .i64 (0:Int), .int .i64 (0:Int), .float .f64 (0:Nat), .float .f64 (0:Nat), .int .u64 (0:Int), .int .i64 (0:Int), .bool false]) 0 (.agg #[.int .u8 (0:Int), .int .u8 (0:Int), .int .i64 (0:Int), .int .i64 (0:Int), .int .u64 (0:Int), .int .u64 (0:Int), .int .u64 (0:Int), .int .u64 (0:Int), .bool false, (.slice none 0 0), .int .u64 (0:Int), .int .u64 (0:Int), .int .u64 (0:Int), (.slice none 0 0), .int .u64 (0:Int), .int .u64 (0:Int), .int .u64 (0:Int), (.slice none 0 0), (.slice none 0 0), (.slice none 0 0), (.slice none 0 0), .int .u64 (0:Int), .int .u64 (0:Int), .int .i64 (0:Int), .int .u64 (0:Int), .int .u64 (0:Int), (.slice none 0 0), (.slice none 0 0), .int .u8 (0:Int), .int .u64 (0:Int), .int .u64 (0:Int), .int .u64 (0:Int), .int .u64 (0:Int), .int .i64 (0:Int), .int .u64 (0:Int), .int .u64 (0:Int), .int .u64 (0:Int), (.slice none 0 0), (.slice none 0 0), (.slice none 0 0), (.slice none 0 0), (.slice none 0 0), .int .i64 (0:Int), .int .u64 (0:Int), .int .u64 (0:Int), (.slice none 0 0), (.slice none 0 0), .int .u64 (0:Int), (.slice none 0 0), .int .u64 (0:Int), .int .i64 (0:Int), .int .i64 (0:Int), .float .f64 (0:Nat), .float .f64 (0:Nat), .int .u64 (0:Int), .int .i64 (0:Int), .bool false]) Try.sizeOf50 (Nat.le_of_ble_eq_true rfl) (ones_cons rfl (ones_cons rfl (ones_cons rfl (ones_cons rfl (ones_cons rfl (ones_cons rfl (ones_cons rfl (ones_cons rfl (ones_cons rfl (ones_cons rfl (ones_cons rfl (ones_cons rfl (ones_cons rfl (ones_cons rfl (ones_cons rfl (ones_cons rfl (ones_cons rfl (ones_cons rfl (ones_cons rfl (ones_cons rfl (ones_cons rfl (ones_cons rfl (ones_cons rfl (ones_cons rfl (ones_cons rfl (ones_cons rfl (ones_cons rfl (ones_cons rfl (ones_cons rfl (ones_cons rfl (ones_cons rfl (ones_cons rfl (ones_cons rfl (ones_cons rfl (ones_cons rfl (ones_cons rfl (ones_cons rfl (ones_cons rfl (ones_cons rfl (ones_cons rfl (ones_cons rfl (ones_cons rfl (ones_cons rfl (ones_cons rfl (ones_cons rfl (ones_cons rfl (ones_cons rfl (ones_cons rfl (ones_cons rfl (ones_cons rfl (ones_cons rfl (ones_cons rfl (ones_cons rfl (ones_cons rfl (ones_cons rfl (ones_cons rfl (ones_cons rfl ones_nil))))))))))))))))))))))))))))))))))))))))))))))))))))))))) (by kernel_rfl)
         refine wl_unit rfl rfl (x_unit hr630) ?_
         refine wv (.int .i64 (5:Int)) rfl rfl rfl ?_
         refine wl_nil (then_n (wp_ret (then_r (blk_r (then_r ?_)))))
         replace hm := inr_up hm hx702
         replace hst := hst.own_nil ty_api_Entry
         replace hst := hst.own_nil (tyInt .u8)
         replace hst := hst.own_nil tyF64
         replace hst := hst.own_nil tyF2
         replace hst := hst.own_nil tyF64
         replace hst := hst.own_nil (tyInt .u8)
         replace hst := hst.own_nil ty_api_Got
         replace hst := hst.own_nil (tySl ty_api_Pair)
         replace hst := hst.own_nil tyF64
         replace hst := hst.own_nil tyF2
         replace hst := hst.own_nil tyF64
         replace hst := hst.own_nil (tyInt .u8)
         replace hst := hst.own_nil ty_api_Write
         replace hst := hst.own_nil ty_api_Got
         replace hst := hst.own_nil (tySl ty_api_Pair)
         replace hst := hst.own_nil ty_api_Part
         obtain rfl := some_inj hm
         refine post_ret (vs := [.agg #[.int .u8 (0:Int), .int .u8 (0:Int), .int .i64 (0:Int), .int .i64 (0:Int), .int .u64 (0:Int), .int .u64 (0:Int), .int .u64 (0:Int), .int .u64 (0:Int), .bool false, (.slice none 0 0), .int .u64 (0:Int), .int .u64 (0:Int), .int .u64 (0:Int), (.slice none 0 0), .int .u64 (0:Int), .int .u64 (0:Int), .int .u64 (0:Int), (.slice none 0 0), (.slice none 0 0), (.slice none 0 0), (.slice none 0 0), .int .u64 (0:Int), .int .u64 (0:Int), .int .i64 (0:Int), .int .u64 (0:Int), .int .u64 (0:Int), (.slice none 0 0), (.slice none 0 0), .int .u8 (0:Int), .int .u64 (0:Int), .int .u64 (0:Int), .int .u64 (0:Int), .int .u64 (0:Int), .int .i64 (0:Int), .int .u64 (0:Int), .int .u64 (0:Int), .int .u64 (0:Int), (.slice none 0 0), (.slice none 0 0), (.slice none 0 0), (.slice none 0 0), (.slice none 0 0), .int .i64 (0:Int), .int .u64 (0:Int), .int .u64 (0:Int), (.slice none 0 0), (.slice none 0 0), .int .u64 (0:Int), (.slice none 0 0), .int .u64 (0:Int), .int .i64 (0:Int), .int .i64 (0:Int), .float .f64 (0:Nat), .float .f64 (0:Nat), .int .u64 (0:Int), .int .i64 (0:Int), .bool false], .int .i64 (5:Int)]) Try.results7 (rvs_cons (rv_cell (cs := [.int .u8 (0:Int), .int .u8 (0:Int), .int .i64 (0:Int), .int .i64 (0:Int), .int .u64 (0:Int), .int .u64 (0:Int), .int .u64 (0:Int), .int .u64 (0:Int), .bool false, (.slice none 0 0), .int .u64 (0:Int), .int .u64 (0:Int), .int .u64 (0:Int), (.slice none 0 0), .int .u64 (0:Int), .int .u64 (0:Int), .int .u64 (0:Int), (.slice none 0 0), (.slice none 0 0), (.slice none 0 0), (.slice none 0 0), .int .u64 (0:Int), .int .u64 (0:Int), .int .i64 (0:Int), .int .u64 (0:Int), .int .u64 (0:Int), (.slice none 0 0), (.slice none 0 0), .int .u8 (0:Int), .int .u64 (0:Int), .int .u64 (0:Int), .int .u64 (0:Int), .int .u64 (0:Int), .int .i64 (0:Int), .int .u64 (0:Int), .int .u64 (0:Int), .int .u64 (0:Int), (.slice none 0 0), (.slice none 0 0), (.slice none 0 0), (.slice none 0 0), (.slice none 0 0), .int .i64 (0:Int), .int .u64 (0:Int), .int .u64 (0:Int), (.slice none 0 0), (.slice none 0 0), .int .u64 (0:Int), (.slice none 0 0), .int .u64 (0:Int), .int .i64 (0:Int), .int .i64 (0:Int), .float .f64 (0:Nat), .float .f64 (0:Nat), .int .u64 (0:Int), .int .i64 (0:Int), .bool false]) rfl Try.isAgg50 Try.sizeOf50 (hst.bcs16 0 rfl)) (rvs_cons (rv_tmp rfl) rvs_nil)) ?_
         replace hst := hst.pull1
         replace hst := hst.pull2
         replace hst := hst.pull3
         replace hst := hst.pull4
         replace hst := hst.pull5
         replace hst := hst.pull6
         replace hst := hst.pull7
         replace hst := hst.pull8
         replace hst := hst.pull9
         replace hst := hst.pull10
         replace hst := hst.pull11
         replace hst := hst.pull12
         replace hst := hst.pull13
         replace hst := hst.pull14
         replace hst := hst.pull15
         exact ⟨_, (.slice none 0 0), (.slice none 0 0), (.slice none 0 0), (.slice none 0 0), (.slice none 0 0), (.slice none 0 0), (.slice none 0 0), (.slice none 0 0), (.slice none 0 0), (.slice none 0 0), (.slice none 0 0), (.slice none 0 0), (.slice none 0 0), (.slice none 0 0), (.slice none 0 0), (.slice none 0 0), rfl, hI0, hst.keep16⟩
        ·skip
         replace hm := bif_f hc612 hm
         refine wp_iff (congrArg Value.bool hc612) ?_
         refine wp_skip (then_n (wp_region_lit ?_))
         refine wv (.agg #[.int .u8 t557.1.Kind, .int .u64 t557.1.ID.Session, .int .u64 t557.1.ID.Seq, .int .u64 t557.1.Epoch, .int .u64 t557.1.Index, .int .i64 t557.1.E, .int .u64 t557.1.Hold.ID.Session, .int .u64 t557.1.Hold.ID.Seq, .int .u64 t557.1.Hold.Epoch, v562, v564, v566, v568, v570, .int .i64 t557.1.R.E, .int .u64 t557.1.R.Epoch, .int .u64 t557.1.R.Index, v572, v574, .int .u64 t557.1.Shards, v576, .int .u64 t557.1.Rule.ID, .int .i64 t557.1.Rule.From, .int .i64 t557.1.Rule.To, .float .f64 t557.1.Rule.Lo, .float .f64 t557.1.Rule.Hi, .int .u64 t557.1.Rule.Authority, .int .i64 t557.1.Rule.Quota, .bool t557.1.On]) rfl rfl (x_loadN (cs := [.int .u8 t557.1.Kind, .int .u64 t557.1.ID.Session, .int .u64 t557.1.ID.Seq, .int .u64 t557.1.Epoch, .int .u64 t557.1.Index, .int .i64 t557.1.E, .int .u64 t557.1.Hold.ID.Session, .int .u64 t557.1.Hold.ID.Seq, .int .u64 t557.1.Hold.Epoch, v562, v564, v566, v568, v570, .int .i64 t557.1.R.E, .int .u64 t557.1.R.Epoch, .int .u64 t557.1.R.Index, v572, v574, .int .u64 t557.1.Shards, v576, .int .u64 t557.1.Rule.ID, .int .i64 t557.1.Rule.From, .int .i64 t557.1.Rule.To, .float .f64 t557.1.Rule.Lo, .float .f64 t557.1.Rule.Hi, .int .u64 t557.1.Rule.Authority, .int .i64 t557.1.Rule.Quota, .bool t557.1.On]) rfl Try.isAgg48 Try.sizeOf48 (hst.bcs0 0 rfl)) ?_
         refine wv (.pointer (some ⟨b477, 28, none⟩)) rfl rfl (x_field rfl Try.underlying50 rfl Try.sizeOf48 rfl) ?_
         replace hst := hst.pull11
         obtain ⟨w631, hr632, hst⟩ := hst.boxStore (P := Try.prog) (t := 48) (cs' := [.int .u8 (IntKind.u8.wrap t440.1), .int .u8 (0:Int), .int .i64 (0:Int), .int .i64 (0:Int), .int .u64 (0:Int), .int .u64 (0:Int), .int .u64 (0:Int), .int .u64 (0:Int), .bool false, (.slice none 0 0), .int .u64 (0:Int), .int .u64 (0:Int), .int .u64 (0:Int), (.slice none 0 0), .int .u64 (0:Int), .int .u64 (0:Int), .int .u64 (0:Int), (.slice none 0 0), (.slice none 0 0), (.slice none 0 0), (.slice none 0 0), .int .u64 (0:Int), .int .u64 (0:Int), .int .i64 (0:Int), .int .u64 (0:Int), .int .u64 (0:Int), (.slice none 0 0), (.slice none 0 0), .int .u8 t557.1.Kind, .int .u64 t557.1.ID.Session, .int .u64 t557.1.ID.Seq, .int .u64 t557.1.Epoch, .int .u64 t557.1.Index, .int .i64 t557.1.E, .int .u64 t557.1.Hold.ID.Session, .int .u64 t557.1.Hold.ID.Seq, .int .u64 t557.1.Hold.Epoch, v562, v564, v566, v568, v570, .int .i64 t557.1.R.E, .int .u64 t557.1.R.Epoch, .int .u64 t557.1.R.Index, v572, v574, .int .u64 t557.1.Shards, v576, .int .u64 t557.1.Rule.ID, .int .i64 t557.1.Rule.From, .int .i64 t557.1.Rule.To, .float .f64 t557.1.Rule.Lo, .float .f64 t557.1.Rule.Hi, .int .u64 t557.1.Rule.Authority, .int .i64 t557.1.Rule.Quota, .bool t557.1.On]) 28 (.agg #[.int .u8 t557.1.Kind, .int .u64 t557.1.ID.Session, .int .u64 t557.1.ID.Seq, .int .u64 t557.1.Epoch, .int .u64 t557.1.Index, .int .i64 t557.1.E, .int .u64 t557.1.Hold.ID.Session, .int .u64 t557.1.Hold.ID.Seq, .int .u64 t557.1.Hold.Epoch, v562, v564, v566, v568, v570, .int .i64 t557.1.R.E, .int .u64 t557.1.R.Epoch, .int .u64 t557.1.R.Index, v572, v574, .int .u64 t557.1.Shards, v576, .int .u64 t557.1.Rule.ID, .int .i64 t557.1.Rule.From, .int .i64 t557.1.Rule.To, .float .f64 t557.1.Rule.Lo, .float .f64 t557.1.Rule.Hi, .int .u64 t557.1.Rule.Authority, .int .i64 t557.1.Rule.Quota, .bool t557.1.On]) Try.sizeOf48 (Nat.le_of_ble_eq_true rfl) (ones_cons rfl (ones_cons rfl (ones_cons rfl (ones_cons rfl (ones_cons rfl (ones_cons rfl (ones_cons rfl (ones_cons rfl (ones_cons rfl (ones_cons (one_of_sliceV hst.sv2) (ones_cons (one_of_sliceV hst.sv3) (ones_cons (one_of_sliceV hst.sv4) (ones_cons (one_of_sliceV hst.sv5) (ones_cons (one_of_sliceV hst.sv6) (ones_cons rfl (ones_cons rfl (ones_cons rfl (ones_cons (one_of_sliceV hst.sv7) (ones_cons (one_of_sliceV hst.sv8) (ones_cons rfl (ones_cons (one_of_sliceV hst.sv9) (ones_cons rfl (ones_cons rfl (ones_cons rfl (ones_cons rfl (ones_cons rfl (ones_cons rfl (ones_cons rfl (ones_cons rfl ones_nil))))))))))))))))))))))))))))) (by kernel_rfl)
         refine wl_unit rfl rfl (x_unit hr632) ?_
         refine wl_nil (blk_n (then_n ?_))
         replace hst := hst.own_nil ty_api_Entry
         replace hst := hst.own_nil (tyInt .u8)
         replace hst := hst.own_nil tyF64
         replace hst := hst.own_nil tyF2
         replace hst := hst.own_nil tyF64
         replace hst := hst.own_nil (tyInt .u8)
         replace hst := hst.own_nil ty_api_Got
         replace hst := hst.own_nil (tySl ty_api_Pair)
         replace hst := hst.pull17
         replace hst := hst.pull17
         replace hst := hst.pull17
         replace hst := hst.pull17
         replace hst := hst.pull17
         replace hst := hst.pull17
         replace hst := hst.pull17
         replace hst := hst.pull17
         replace hst := hst.pull8
         replace hst := hst.pull9
         replace hst := hst.pull10
         replace hst := hst.pull11
         replace hst := hst.pull12
         replace hst := hst.pull13
         replace hst := hst.pull14
         replace hst := hst.pull15
         replace hst := hst.pull16
         replace hst := hst.pull18
         replace hst := hst.pull19
         replace hst := hst.keep19
         obtain rfl := some_inj hm
         exact ⟨_, t547.2, ({ Kind := (IntKind.u8.wrap t440.1), M := ({ Kind := (0:Int), From := (0:Int), To := (0:Int), Term := (0:Int), Index := (0:Int), LogTerm := (0:Int), Commit := (0:Int), OK := false, Entries := [], S := ({ Index := (0:Int), Term := (0:Int), Voters := (0:Int), Data := [] } : api_Snap) } : api_Message), H := ({ ID := ({ Session := (0:Int), Seq := (0:Int) } : api_ID), Epoch := (0:Int), Gets := [], Scans := [], Puts := [], Data := [] } : api_Hold), ID := ({ Session := (0:Int), Seq := (0:Int) } : api_ID), R := ({ E := (0:Int), Epoch := (0:Int), Index := (0:Int), Gots := [], Scans := [] } : api_Reply), C := t557.1 } : api_Mail), (.slice none 0 0), (.slice none 0 0), (.slice none 0 0), (.slice none 0 0), (.slice none 0 0), (.slice none 0 0), (.slice none 0 0), (.slice none 0 0), v562, v564, v566, v568, v570, v572, v574, v576, _, hx702, ((fr_upd (t := 0) (v := r0_0) rfl).trans ((fr_upd (t := 2) (v := .pointer (some ⟨b428, 0, none⟩)) rfl).trans ((fr_upd (t := 4) (v := v438) rfl).trans ((fr_upd (t := 5) (v := .pointer (some ⟨b477, 0, none⟩)) rfl).trans rfl)))), hL703, hst⟩
      ·skip
       replace hm := bif_f hc546 hm
       refine wp_iff (congrArg Value.bool hc546) ?_
       refine wp_seq (wp_region_lit ?_)
       refine wv (.bool ((IntKind.u8.wrap t440.1) == (5:Int))) rfl rfl rfl ?_
       refine wv (.bool ((IntKind.u8.wrap t440.1) == (5:Int))) rfl rfl rfl ?_
       refine wl_nil (then_n ?_)
       refine bsplit ((IntKind.u8.wrap t440.1) == (5:Int)) (fun hc633 => ?_) (fun hc633 => ?_)
       ·skip
        replace hm := bif_t hc633 hm
        refine wp_ift (congrArg Value.bool hc633) ?_
        refine wp_region_lit ?_
        refine wv (v438) rfl rfl rfl ?_
        replace hst := hst.pull1
        obtain ⟨t634, ht635, hm⟩ := bind_some hm
        refine wl_call rfl rfl (x_call Try.call13 rfl (vs := [v438, .int .i64 (8:Int)]) rfl) ?_
        refine (octet_Reader_Num_ref hst.to1 ht635).mono ?_
        rintro _ w636 ⟨rfl, hst⟩
        refine ⟨_, rfl, ?_⟩
        replace hst := hst.of1
        refine wv (v438) rfl rfl rfl ?_
        obtain ⟨t639, ht640, hm⟩ := bind_some hm
        refine wl_call rfl rfl (x_call Try.call13 rfl (vs := [v438, .int .i64 (8:Int)]) rfl) ?_
        refine (octet_Reader_Num_ref hst.to1 ht640).mono ?_
        rintro _ w641 ⟨rfl, hst⟩
        refine ⟨_, rfl, ?_⟩
        replace hst := hst.of1
        refine wv (.agg #[.int .u64 t634.1, .int .u64 t639.1]) rfl rfl (by kernel_rfl) ?_
        refine wv (.pointer (some ⟨b477, 21, none⟩)) rfl rfl (x_field rfl Try.underlying50 rfl Try.sizeOf32 rfl) ?_
        replace hst := hst.pull2
        obtain ⟨w644, hr645, hst⟩ := hst.boxStore (P := Try.prog) (t := 32) (cs' := [.int .u8 (IntKind.u8.wrap t440.1), .int .u8 (0:Int), .int .i64 (0:Int), .int .i64 (0:Int), .int .u64 (0:Int), .int .u64 (0:Int), .int .u64 (0:Int), .int .u64 (0:Int), .bool false, (.slice none 0 0), .int .u64 (0:Int), .int .u64 (0:Int), .int .u64 (0:Int), (.slice none 0 0), .int .u64 (0:Int), .int .u64 (0:Int), .int .u64 (0:Int), (.slice none 0 0), (.slice none 0 0), (.slice none 0 0), (.slice none 0 0), .int .u64 t634.1, .int .u64 t639.1, .int .i64 (0:Int), .int .u64 (0:Int), .int .u64 (0:Int), (.slice none 0 0), (.slice none 0 0), .int .u8 (0:Int), .int .u64 (0:Int), .int .u64 (0:Int), .int .u64 (0:Int), .int .u64 (0:Int), .int .i64 (0:Int), .int .u64 (0:Int), .int .u64 (0:Int), .int .u64 (0:Int), (.slice none 0 0), (.slice none 0 0), (.slice none 0 0), (.slice none 0 0), (.slice none 0 0), .int .i64 (0:Int), .int .u64 (0:Int), .int .u64 (0:Int), (.slice none 0 0), (.slice none 0 0), .int .u64 (0:Int), (.slice none 0 0), .int .u64 (0:Int), .int .i64 (0:Int), .int .i64 (0:Int), .float .f64 (0:Nat), .float .f64 (0:Nat), .int .u64 (0:Int), .int .i64 (0:Int), .bool false]) 21 (.agg #[.int .u64 t634.1, .int .u64 t639.1]) Try.sizeOf32 (Nat.le_of_ble_eq_true rfl) (ones_cons rfl (ones_cons rfl ones_nil)) (by kernel_rfl)
        refine wl_unit rfl rfl (x_unit hr645) ?_
        refine wl_nil (blk_n (then_n ?_))
        replace hst := hst.own_nil ty_api_Entry
        replace hst := hst.own_nil (tyInt .u8)
        replace hst := hst.own_nil tyF64
        replace hst := hst.own_nil tyF2
        replace hst := hst.own_nil tyF64
        replace hst := hst.own_nil (tyInt .u8)
        replace hst := hst.own_nil ty_api_Got
        replace hst := hst.own_nil (tySl ty_api_Pair)
        replace hst := hst.own_nil tyF64
        replace hst := hst.own_nil tyF2
        replace hst := hst.own_nil tyF64
        replace hst := hst.own_nil (tyInt .u8)
        replace hst := hst.own_nil ty_api_Write
        replace hst := hst.own_nil ty_api_Got
        replace hst := hst.own_nil (tySl ty_api_Pair)
        replace hst := hst.own_nil ty_api_Part
        replace hst := hst.pull1
        replace hst := hst.pull2
        replace hst := hst.pull3
        replace hst := hst.pull4
        replace hst := hst.pull5
        replace hst := hst.pull6
        replace hst := hst.pull7
        replace hst := hst.pull8
        replace hst := hst.pull9
        replace hst := hst.pull10
        replace hst := hst.pull11
        replace hst := hst.pull12
        replace hst := hst.pull13
        replace hst := hst.pull14
        replace hst := hst.pull15
        replace hst := hst.pull16
        replace hst := hst.pull17
        replace hst := hst.pull18
        replace hst := hst.keep19
        obtain rfl := some_inj hm
        exact ⟨_, t639.2, ({ Kind := (IntKind.u8.wrap t440.1), M := ({ Kind := (0:Int), From := (0:Int), To := (0:Int), Term := (0:Int), Index := (0:Int), LogTerm := (0:Int), Commit := (0:Int), OK := false, Entries := [], S := ({ Index := (0:Int), Term := (0:Int), Voters := (0:Int), Data := [] } : api_Snap) } : api_Message), H := ({ ID := ({ Session := (0:Int), Seq := (0:Int) } : api_ID), Epoch := (0:Int), Gets := [], Scans := [], Puts := [], Data := [] } : api_Hold), ID := ({ Session := t634.1, Seq := t639.1 } : api_ID), R := ({ E := (0:Int), Epoch := (0:Int), Index := (0:Int), Gots := [], Scans := [] } : api_Reply), C := ({ Kind := (0:Int), ID := ({ Session := (0:Int), Seq := (0:Int) } : api_ID), Epoch := (0:Int), Index := (0:Int), E := (0:Int), Hold := ({ ID := ({ Session := (0:Int), Seq := (0:Int) } : api_ID), Epoch := (0:Int), Gets := [], Scans := [], Puts := [], Data := [] } : api_Hold), Writes := [], R := ({ E := (0:Int), Epoch := (0:Int), Index := (0:Int), Gots := [], Scans := [] } : api_Reply), Shards := (0:Int), Parts := [], Rule := ({ ID := (0:Int), From := (0:Int), To := (0:Int), Lo := (0:Nat), Hi := (0:Nat), Authority := (0:Int), Quota := (0:Int) } : api_Rule), On := false } : api_Command) } : api_Mail), (.slice none 0 0), (.slice none 0 0), (.slice none 0 0), (.slice none 0 0), (.slice none 0 0), (.slice none 0 0), (.slice none 0 0), (.slice none 0 0), (.slice none 0 0), (.slice none 0 0), (.slice none 0 0), (.slice none 0 0), (.slice none 0 0), (.slice none 0 0), (.slice none 0 0), (.slice none 0 0), _, hx702, ((fr_upd (t := 0) (v := r0_0) rfl).trans ((fr_upd (t := 2) (v := .pointer (some ⟨b428, 0, none⟩)) rfl).trans ((fr_upd (t := 4) (v := v438) rfl).trans ((fr_upd (t := 5) (v := .pointer (some ⟨b477, 0, none⟩)) rfl).trans rfl)))), hL703, hst⟩
       ·skip
        replace hm := bif_f hc633 hm
        refine wp_iff (congrArg Value.bool hc633) ?_
        refine wp_seq (wp_region_lit ?_)
        refine wv (.agg #[.int .u8 (0:Int), .int .u8 (0:Int), .int .i64 (0:Int), .int .i64 (0:Int), .int .u64 (0:Int), .int .u64 (0:Int), .int .u64 (0:Int), .int .u64 (0:Int), .bool false, (.slice none 0 0), .int .u64 (0:Int), .int .u64 (0:Int), .int .u64 (0:Int), (.slice none 0 0), .int .u64 (0:Int), .int .u64 (0:Int), .int .u64 (0:Int), (.slice none 0 0), (.slice none 0 0), (.slice none 0 0), (.slice none 0 0), .int .u64 (0:Int), .int .u64 (0:Int), .int .i64 (0:Int), .int .u64 (0:Int), .int .u64 (0:Int), (.slice none 0 0), (.slice none 0 0), .int .u8 (0:Int), .int .u64 (0:Int), .int .u64 (0:Int), .int .u64 (0:Int), .int .u64 (0:Int), .int .i64 (0:Int), .int .u64 (0:Int), .int .u64 (0:Int), .int .u64 (0:Int), (.slice none 0 0), (.slice none 0 0), (.slice none 0 0), (.slice none 0 0), (.slice none 0 0), .int .i64 (0:Int), .int .u64 (0:Int), .int .u64 (0:Int), (.slice none 0 0), (.slice none 0 0), .int .u64 (0:Int), (.slice none 0 0), .int .u64 (0:Int), .int .i64 (0:Int), .int .i64 (0:Int), .float .f64 (0:Nat), .float .f64 (0:Nat), .int .u64 (0:Int), .int .i64 (0:Int), .bool false]) rfl rfl (by kernel_rfl) ?_
        obtain ⟨w662, hr663, hst⟩ := hst.boxStore (P := Try.prog) (t := 50) (cs' := [.int .u8 (0:Int), .int .u8 (0:Int), .int .i64 (0:Int), .int .i64 (0:Int), .int .u64 (0:Int), .int .u64 (0:Int), .int .u64 (0:Int), .int .u64 (0:Int), .bool false, (.slice none 0 0), .int .u64 (0:Int), .int .u64 (0:Int), .int .u64 (0:Int), (.slice none 0 0), .int .u64 (0:Int), .int .u64 (0:Int), .int .u64 (0:Int), (.slice none 0 0), (.slice none 0 0), (.slice none 0 0), (.slice none 0 0), .int .u64 (0:Int), .int .u64 (0:Int), .int .i64 (0:Int), .int .u64 (0:Int), .int .u64 (0:Int), (.slice none 0 0), (.slice none 0 0), .int .u8 (0:Int), .int .u64 (0:Int), .int .u64 (0:Int), .int .u64 (0:Int), .int .u64 (0:Int), .int .i64 (0:Int), .int .u64 (0:Int), .int .u64 (0:Int), .int .u64 (0:Int), (.slice none 0 0), (.slice none 0 0), (.slice none 0 0), (.slice none 0 0), (.slice none 0 0), .int .i64 (0:Int), .int .u64 (0:Int), .int .u64 (0:Int), (.slice none 0 0), (.slice none 0 0), .int .u64 (0:Int), (.slice none 0 0), .int .u64 (0:Int), .int .i64 (0:Int), .int .i64 (0:Int), .float .f64 (0:Nat), .float .f64 (0:Nat), .int .u64 (0:Int), .int .i64 (0:Int), .bool false]) 0 (.agg #[.int .u8 (0:Int), .int .u8 (0:Int), .int .i64 (0:Int), .int .i64 (0:Int), .int .u64 (0:Int), .int .u64 (0:Int), .int .u64 (0:Int), .int .u64 (0:Int), .bool false, (.slice none 0 0), .int .u64 (0:Int), .int .u64 (0:Int), .int .u64 (0:Int), (.slice none 0 0), .int .u64 (0:Int), .int .u64 (0:Int), .int .u64 (0:Int), (.slice none 0 0), (.slice none 0 0), (.slice none 0 0), (.slice none 0 0), .int .u64 (0:Int), .int .u64 (0:Int), .int .i64 (0:Int), .int .u64 (0:Int), .int .u64 (0:Int), (.slice none 0 0), (.slice none 0 0), .int .u8 (0:Int), .int .u64 (0:Int), .int .u64 (0:Int), .int .u64 (0:Int), .int .u64 (0:Int), .int .i64 (0:Int), .int .u64 (0:Int), .int .u64 (0:Int), .int .u64 (0:Int), (.slice none 0 0), (.slice none 0 0), (.slice none 0 0), (.slice none 0 0), (.slice none 0 0), .int .i64 (0:Int), .int .u64 (0:Int), .int .u64 (0:Int), (.slice none 0 0), (.slice none 0 0), .int .u64 (0:Int), (.slice none 0 0), .int .u64 (0:Int), .int .i64 (0:Int), .int .i64 (0:Int), .float .f64 (0:Nat), .float .f64 (0:Nat), .int .u64 (0:Int), .int .i64 (0:Int), .bool false]) Try.sizeOf50 (Nat.le_of_ble_eq_true rfl) (ones_cons rfl (ones_cons rfl (ones_cons rfl (ones_cons rfl (ones_cons rfl (ones_cons rfl (ones_cons rfl (ones_cons rfl (ones_cons rfl (ones_cons rfl (ones_cons rfl (ones_cons rfl (ones_cons rfl (ones_cons rfl (ones_cons rfl (ones_cons rfl (ones_cons rfl (ones_cons rfl (ones_cons rfl (ones_cons rfl (ones_cons rfl (ones_cons rfl (ones_cons rfl (ones_cons rfl (ones_cons rfl (ones_cons rfl (ones_cons rfl (ones_cons rfl (ones_cons rfl (ones_cons rfl (ones_cons rfl (ones_cons rfl (ones_cons rfl (ones_cons rfl (ones_cons rfl (ones_cons rfl (ones_cons rfl (ones_cons rfl (ones_cons rfl (ones_cons rfl (ones_cons rfl (ones_cons rfl (ones_cons rfl (ones_cons rfl (ones_cons rfl (ones_cons rfl (ones_cons rfl (ones_cons rfl (ones_cons rfl (ones_cons rfl (ones_cons rfl (ones_cons rfl (ones_cons rfl (ones_cons rfl (ones_cons rfl (ones_cons rfl (ones_cons rfl ones_nil))))))))))))))))))))))))))))))))))))))))))))))))))))))))) (by kernel_rfl)
        refine wl_unit rfl rfl (x_unit hr663) ?_
        refine wv (.int .i64 (5:Int)) rfl rfl rfl ?_
        refine wl_nil (then_n (wp_ret (blk_r (then_r ?_))))
        replace hm := inr_up hm hx702
        replace hst := hst.own_nil ty_api_Entry
        replace hst := hst.own_nil (tyInt .u8)
        replace hst := hst.own_nil tyF64
        replace hst := hst.own_nil tyF2
        replace hst := hst.own_nil tyF64
        replace hst := hst.own_nil (tyInt .u8)
        replace hst := hst.own_nil ty_api_Got
        replace hst := hst.own_nil (tySl ty_api_Pair)
        replace hst := hst.own_nil tyF64
        replace hst := hst.own_nil tyF2
        replace hst := hst.own_nil tyF64
        replace hst := hst.own_nil (tyInt .u8)
        replace hst := hst.own_nil ty_api_Write
        replace hst := hst.own_nil ty_api_Got
        replace hst := hst.own_nil (tySl ty_api_Pair)
        replace hst := hst.own_nil ty_api_Part
        obtain rfl := some_inj hm
        refine post_ret (vs := [.agg #[.int .u8 (0:Int), .int .u8 (0:Int), .int .i64 (0:Int), .int .i64 (0:Int), .int .u64 (0:Int), .int .u64 (0:Int), .int .u64 (0:Int), .int .u64 (0:Int), .bool false, (.slice none 0 0), .int .u64 (0:Int), .int .u64 (0:Int), .int .u64 (0:Int), (.slice none 0 0), .int .u64 (0:Int), .int .u64 (0:Int), .int .u64 (0:Int), (.slice none 0 0), (.slice none 0 0), (.slice none 0 0), (.slice none 0 0), .int .u64 (0:Int), .int .u64 (0:Int), .int .i64 (0:Int), .int .u64 (0:Int), .int .u64 (0:Int), (.slice none 0 0), (.slice none 0 0), .int .u8 (0:Int), .int .u64 (0:Int), .int .u64 (0:Int), .int .u64 (0:Int), .int .u64 (0:Int), .int .i64 (0:Int), .int .u64 (0:Int), .int .u64 (0:Int), .int .u64 (0:Int), (.slice none 0 0), (.slice none 0 0), (.slice none 0 0), (.slice none 0 0), (.slice none 0 0), .int .i64 (0:Int), .int .u64 (0:Int), .int .u64 (0:Int), (.slice none 0 0), (.slice none 0 0), .int .u64 (0:Int), (.slice none 0 0), .int .u64 (0:Int), .int .i64 (0:Int), .int .i64 (0:Int), .float .f64 (0:Nat), .float .f64 (0:Nat), .int .u64 (0:Int), .int .i64 (0:Int), .bool false], .int .i64 (5:Int)]) Try.results7 (rvs_cons (rv_cell (cs := [.int .u8 (0:Int), .int .u8 (0:Int), .int .i64 (0:Int), .int .i64 (0:Int), .int .u64 (0:Int), .int .u64 (0:Int), .int .u64 (0:Int), .int .u64 (0:Int), .bool false, (.slice none 0 0), .int .u64 (0:Int), .int .u64 (0:Int), .int .u64 (0:Int), (.slice none 0 0), .int .u64 (0:Int), .int .u64 (0:Int), .int .u64 (0:Int), (.slice none 0 0), (.slice none 0 0), (.slice none 0 0), (.slice none 0 0), .int .u64 (0:Int), .int .u64 (0:Int), .int .i64 (0:Int), .int .u64 (0:Int), .int .u64 (0:Int), (.slice none 0 0), (.slice none 0 0), .int .u8 (0:Int), .int .u64 (0:Int), .int .u64 (0:Int), .int .u64 (0:Int), .int .u64 (0:Int), .int .i64 (0:Int), .int .u64 (0:Int), .int .u64 (0:Int), .int .u64 (0:Int), (.slice none 0 0), (.slice none 0 0), (.slice none 0 0), (.slice none 0 0), (.slice none 0 0), .int .i64 (0:Int), .int .u64 (0:Int), .int .u64 (0:Int), (.slice none 0 0), (.slice none 0 0), .int .u64 (0:Int), (.slice none 0 0), .int .u64 (0:Int), .int .i64 (0:Int), .int .i64 (0:Int), .float .f64 (0:Nat), .float .f64 (0:Nat), .int .u64 (0:Int), .int .i64 (0:Int), .bool false]) rfl Try.isAgg50 Try.sizeOf50 (hst.bcs16 0 rfl)) (rvs_cons (rv_tmp rfl) rvs_nil)) ?_
        replace hst := hst.pull1
        replace hst := hst.pull2
        replace hst := hst.pull3
        replace hst := hst.pull4
        replace hst := hst.pull5
        replace hst := hst.pull6
        replace hst := hst.pull7
        replace hst := hst.pull8
        replace hst := hst.pull9
        replace hst := hst.pull10
        replace hst := hst.pull11
        replace hst := hst.pull12
        replace hst := hst.pull13
        replace hst := hst.pull14
        replace hst := hst.pull15
        exact ⟨_, (.slice none 0 0), (.slice none 0 0), (.slice none 0 0), (.slice none 0 0), (.slice none 0 0), (.slice none 0 0), (.slice none 0 0), (.slice none 0 0), (.slice none 0 0), (.slice none 0 0), (.slice none 0 0), (.slice none 0 0), (.slice none 0 0), (.slice none 0 0), (.slice none 0 0), (.slice none 0 0), rfl, hI0, hst.keep16⟩
 ·skip
  clear hst
  rintro _ w704 ⟨I698, z664, z665, v667, v669, v671, v673, v675, v677, v679, v681, v683, v685, v687, v689, v691, v693, v695, v697, σ699, hm, rfl, hL700, hst⟩
  dsimp only [mail_Decode_j0] at hm
  replace f0_0 := f0_0.mono (ro_le hL700)
  replace hI0 := hI0.trans hL700
  refine wp_seq (wp_seq (wp_region_lit ?_))
  refine wv (v438) rfl rfl rfl ?_
  replace hst := hst.pull1
  obtain ⟨t705, ht706, hm⟩ := bind_some hm
  refine wl_call rfl rfl (x_call Try.call19 rfl (vs := [v438]) rfl) ?_
  refine (octet_Reader_End_ref hst.to1 ht706).mono ?_
  rintro _ w707 ⟨rfl, hst⟩
  refine ⟨_, rfl, ?_⟩
  replace hst := hst.of1
  refine wv (.bool (!t705)) rfl rfl rfl ?_
  refine wv (.bool (!t705)) rfl rfl rfl ?_
  refine bsplit (!t705) (fun hc710 => ?_) (fun hc710 => ?_)
  ·skip
   replace hm := bif_t hc710 hm
   refine wo hc710 rfl rfl rfl rfl rfl rfl ?_
   refine wo hc710 rfl rfl rfl rfl rfl rfl ?_
   refine wo hc710 rfl rfl rfl rfl rfl rfl ?_
   refine wo hc710 rfl rfl rfl rfl rfl rfl ?_
   refine wo hc710 rfl rfl rfl rfl rfl rfl ?_
   refine wv (.bool true) rfl rfl (x_pick_t hc710 rfl rfl) ?_
   refine wl_nil (then_n ?_)
   refine wp_ift rfl ?_
   refine wp_seq (wp_region_lit ?_)
   refine wv (.agg #[.int .u8 (0:Int), .int .u8 (0:Int), .int .i64 (0:Int), .int .i64 (0:Int), .int .u64 (0:Int), .int .u64 (0:Int), .int .u64 (0:Int), .int .u64 (0:Int), .bool false, (.slice none 0 0), .int .u64 (0:Int), .int .u64 (0:Int), .int .u64 (0:Int), (.slice none 0 0), .int .u64 (0:Int), .int .u64 (0:Int), .int .u64 (0:Int), (.slice none 0 0), (.slice none 0 0), (.slice none 0 0), (.slice none 0 0), .int .u64 (0:Int), .int .u64 (0:Int), .int .i64 (0:Int), .int .u64 (0:Int), .int .u64 (0:Int), (.slice none 0 0), (.slice none 0 0), .int .u8 (0:Int), .int .u64 (0:Int), .int .u64 (0:Int), .int .u64 (0:Int), .int .u64 (0:Int), .int .i64 (0:Int), .int .u64 (0:Int), .int .u64 (0:Int), .int .u64 (0:Int), (.slice none 0 0), (.slice none 0 0), (.slice none 0 0), (.slice none 0 0), (.slice none 0 0), .int .i64 (0:Int), .int .u64 (0:Int), .int .u64 (0:Int), (.slice none 0 0), (.slice none 0 0), .int .u64 (0:Int), (.slice none 0 0), .int .u64 (0:Int), .int .i64 (0:Int), .int .i64 (0:Int), .float .f64 (0:Nat), .float .f64 (0:Nat), .int .u64 (0:Int), .int .i64 (0:Int), .bool false]) rfl rfl (by kernel_rfl) ?_
   replace hst := hst.pull1
   obtain ⟨w727, hr728, hst⟩ := hst.boxStore (P := Try.prog) (t := 50) (cs' := [.int .u8 (0:Int), .int .u8 (0:Int), .int .i64 (0:Int), .int .i64 (0:Int), .int .u64 (0:Int), .int .u64 (0:Int), .int .u64 (0:Int), .int .u64 (0:Int), .bool false, (.slice none 0 0), .int .u64 (0:Int), .int .u64 (0:Int), .int .u64 (0:Int), (.slice none 0 0), .int .u64 (0:Int), .int .u64 (0:Int), .int .u64 (0:Int), (.slice none 0 0), (.slice none 0 0), (.slice none 0 0), (.slice none 0 0), .int .u64 (0:Int), .int .u64 (0:Int), .int .i64 (0:Int), .int .u64 (0:Int), .int .u64 (0:Int), (.slice none 0 0), (.slice none 0 0), .int .u8 (0:Int), .int .u64 (0:Int), .int .u64 (0:Int), .int .u64 (0:Int), .int .u64 (0:Int), .int .i64 (0:Int), .int .u64 (0:Int), .int .u64 (0:Int), .int .u64 (0:Int), (.slice none 0 0), (.slice none 0 0), (.slice none 0 0), (.slice none 0 0), (.slice none 0 0), .int .i64 (0:Int), .int .u64 (0:Int), .int .u64 (0:Int), (.slice none 0 0), (.slice none 0 0), .int .u64 (0:Int), (.slice none 0 0), .int .u64 (0:Int), .int .i64 (0:Int), .int .i64 (0:Int), .float .f64 (0:Nat), .float .f64 (0:Nat), .int .u64 (0:Int), .int .i64 (0:Int), .bool false]) 0 (.agg #[.int .u8 (0:Int), .int .u8 (0:Int), .int .i64 (0:Int), .int .i64 (0:Int), .int .u64 (0:Int), .int .u64 (0:Int), .int .u64 (0:Int), .int .u64 (0:Int), .bool false, (.slice none 0 0), .int .u64 (0:Int), .int .u64 (0:Int), .int .u64 (0:Int), (.slice none 0 0), .int .u64 (0:Int), .int .u64 (0:Int), .int .u64 (0:Int), (.slice none 0 0), (.slice none 0 0), (.slice none 0 0), (.slice none 0 0), .int .u64 (0:Int), .int .u64 (0:Int), .int .i64 (0:Int), .int .u64 (0:Int), .int .u64 (0:Int), (.slice none 0 0), (.slice none 0 0), .int .u8 (0:Int), .int .u64 (0:Int), .int .u64 (0:Int), .int .u64 (0:Int), .int .u64 (0:Int), .int .i64 (0:Int), .int .u64 (0:Int), .int .u64 (0:Int), .int .u64 (0:Int), (.slice none 0 0), (.slice none 0 0), (.slice none 0 0), (.slice none 0 0), (.slice none 0 0), .int .i64 (0:Int), .int .u64 (0:Int), .int .u64 (0:Int), (.slice none 0 0), (.slice none 0 0), .int .u64 (0:Int), (.slice none 0 0), .int .u64 (0:Int), .int .i64 (0:Int), .int .i64 (0:Int), .float .f64 (0:Nat), .float .f64 (0:Nat), .int .u64 (0:Int), .int .i64 (0:Int), .bool false]) Try.sizeOf50 (Nat.le_of_ble_eq_true rfl) (ones_cons rfl (ones_cons rfl (ones_cons rfl (ones_cons rfl (ones_cons rfl (ones_cons rfl (ones_cons rfl (ones_cons rfl (ones_cons rfl (ones_cons rfl (ones_cons rfl (ones_cons rfl (ones_cons rfl (ones_cons rfl (ones_cons rfl (ones_cons rfl (ones_cons rfl (ones_cons rfl (ones_cons rfl (ones_cons rfl (ones_cons rfl (ones_cons rfl (ones_cons rfl (ones_cons rfl (ones_cons rfl (ones_cons rfl (ones_cons rfl (ones_cons rfl (ones_cons rfl (ones_cons rfl (ones_cons rfl (ones_cons rfl (ones_cons rfl (ones_cons rfl (ones_cons rfl (ones_cons rfl (ones_cons rfl (ones_cons rfl (ones_cons rfl (ones_cons rfl (ones_cons rfl (ones_cons rfl (ones_cons rfl (ones_cons rfl (ones_cons rfl (ones_cons rfl (ones_cons rfl (ones_cons rfl (ones_cons rfl (ones_cons rfl (ones_cons rfl (ones_cons rfl (ones_cons rfl (ones_cons rfl (ones_cons rfl (ones_cons rfl (ones_cons rfl ones_nil))))))))))))))))))))))))))))))))))))))))))))))))))))))))) (by kernel_rfl)
   refine wl_unit rfl rfl (x_unit hr728) ?_
   refine wv (.int .i64 (5:Int)) rfl rfl rfl ?_
   refine wl_nil (then_n (wp_ret (then_r ?_)))
   replace hst := hst.own_nil ty_api_Entry
   replace hst := hst.own_nil (tyInt .u8)
   replace hst := hst.own_nil tyF64
   replace hst := hst.own_nil tyF2
   replace hst := hst.own_nil tyF64
   replace hst := hst.own_nil (tyInt .u8)
   replace hst := hst.own_nil ty_api_Got
   replace hst := hst.own_nil (tySl ty_api_Pair)
   replace hst := hst.own_nil tyF64
   replace hst := hst.own_nil tyF2
   replace hst := hst.own_nil tyF64
   replace hst := hst.own_nil (tyInt .u8)
   replace hst := hst.own_nil ty_api_Write
   replace hst := hst.own_nil ty_api_Got
   replace hst := hst.own_nil (tySl ty_api_Pair)
   replace hst := hst.own_nil ty_api_Part
   obtain rfl := some_inj hm
   refine post_ret (vs := [.agg #[.int .u8 (0:Int), .int .u8 (0:Int), .int .i64 (0:Int), .int .i64 (0:Int), .int .u64 (0:Int), .int .u64 (0:Int), .int .u64 (0:Int), .int .u64 (0:Int), .bool false, (.slice none 0 0), .int .u64 (0:Int), .int .u64 (0:Int), .int .u64 (0:Int), (.slice none 0 0), .int .u64 (0:Int), .int .u64 (0:Int), .int .u64 (0:Int), (.slice none 0 0), (.slice none 0 0), (.slice none 0 0), (.slice none 0 0), .int .u64 (0:Int), .int .u64 (0:Int), .int .i64 (0:Int), .int .u64 (0:Int), .int .u64 (0:Int), (.slice none 0 0), (.slice none 0 0), .int .u8 (0:Int), .int .u64 (0:Int), .int .u64 (0:Int), .int .u64 (0:Int), .int .u64 (0:Int), .int .i64 (0:Int), .int .u64 (0:Int), .int .u64 (0:Int), .int .u64 (0:Int), (.slice none 0 0), (.slice none 0 0), (.slice none 0 0), (.slice none 0 0), (.slice none 0 0), .int .i64 (0:Int), .int .u64 (0:Int), .int .u64 (0:Int), (.slice none 0 0), (.slice none 0 0), .int .u64 (0:Int), (.slice none 0 0), .int .u64 (0:Int), .int .i64 (0:Int), .int .i64 (0:Int), .float .f64 (0:Nat), .float .f64 (0:Nat), .int .u64 (0:Int), .int .i64 (0:Int), .bool false], .int .i64 (5:Int)]) Try.results7 (rvs_cons (rv_cell (cs := [.int .u8 (0:Int), .int .u8 (0:Int), .int .i64 (0:Int), .int .i64 (0:Int), .int .u64 (0:Int), .int .u64 (0:Int), .int .u64 (0:Int), .int .u64 (0:Int), .bool false, (.slice none 0 0), .int .u64 (0:Int), .int .u64 (0:Int), .int .u64 (0:Int), (.slice none 0 0), .int .u64 (0:Int), .int .u64 (0:Int), .int .u64 (0:Int), (.slice none 0 0), (.slice none 0 0), (.slice none 0 0), (.slice none 0 0), .int .u64 (0:Int), .int .u64 (0:Int), .int .i64 (0:Int), .int .u64 (0:Int), .int .u64 (0:Int), (.slice none 0 0), (.slice none 0 0), .int .u8 (0:Int), .int .u64 (0:Int), .int .u64 (0:Int), .int .u64 (0:Int), .int .u64 (0:Int), .int .i64 (0:Int), .int .u64 (0:Int), .int .u64 (0:Int), .int .u64 (0:Int), (.slice none 0 0), (.slice none 0 0), (.slice none 0 0), (.slice none 0 0), (.slice none 0 0), .int .i64 (0:Int), .int .u64 (0:Int), .int .u64 (0:Int), (.slice none 0 0), (.slice none 0 0), .int .u64 (0:Int), (.slice none 0 0), .int .u64 (0:Int), .int .i64 (0:Int), .int .i64 (0:Int), .float .f64 (0:Nat), .float .f64 (0:Nat), .int .u64 (0:Int), .int .i64 (0:Int), .bool false]) rfl Try.isAgg50 Try.sizeOf50 (hst.bcs16 0 rfl)) (rvs_cons (rv_tmp rfl) rvs_nil)) ?_
   replace hst := hst.pull1
   replace hst := hst.pull2
   replace hst := hst.pull3
   replace hst := hst.pull4
   replace hst := hst.pull5
   replace hst := hst.pull6
   replace hst := hst.pull7
   replace hst := hst.pull8
   replace hst := hst.pull9
   replace hst := hst.pull10
   replace hst := hst.pull11
   replace hst := hst.pull12
   replace hst := hst.pull13
   replace hst := hst.pull14
   replace hst := hst.pull15
   exact ⟨_, (.slice none 0 0), (.slice none 0 0), (.slice none 0 0), (.slice none 0 0), (.slice none 0 0), (.slice none 0 0), (.slice none 0 0), (.slice none 0 0), (.slice none 0 0), (.slice none 0 0), (.slice none 0 0), (.slice none 0 0), (.slice none 0 0), (.slice none 0 0), (.slice none 0 0), (.slice none 0 0), rfl, hI0, hst.keep16⟩
  ·skip
   replace hm := bif_f hc710 hm
   refine wv (.agg #[.int .u8 z665.Kind, .int .u8 z665.M.Kind, .int .i64 z665.M.From, .int .i64 z665.M.To, .int .u64 z665.M.Term, .int .u64 z665.M.Index, .int .u64 z665.M.LogTerm, .int .u64 z665.M.Commit, .bool z665.M.OK, v667, .int .u64 z665.M.S.Index, .int .u64 z665.M.S.Term, .int .u64 z665.M.S.Voters, v669, .int .u64 z665.H.ID.Session, .int .u64 z665.H.ID.Seq, .int .u64 z665.H.Epoch, v671, v673, v675, v677, .int .u64 z665.ID.Session, .int .u64 z665.ID.Seq, .int .i64 z665.R.E, .int .u64 z665.R.Epoch, .int .u64 z665.R.Index, v679, v681, .int .u8 z665.C.Kind, .int .u64 z665.C.ID.Session, .int .u64 z665.C.ID.Seq, .int .u64 z665.C.Epoch, .int .u64 z665.C.Index, .int .i64 z665.C.E, .int .u64 z665.C.Hold.ID.Session, .int .u64 z665.C.Hold.ID.Seq, .int .u64 z665.C.Hold.Epoch, v683, v685, v687, v689, v691, .int .i64 z665.C.R.E, .int .u64 z665.C.R.Epoch, .int .u64 z665.C.R.Index, v693, v695, .int .u64 z665.C.Shards, v697, .int .u64 z665.C.Rule.ID, .int .i64 z665.C.Rule.From, .int .i64 z665.C.Rule.To, .float .f64 z665.C.Rule.Lo, .float .f64 z665.C.Rule.Hi, .int .u64 z665.C.Rule.Authority, .int .i64 z665.C.Rule.Quota, .bool z665.C.On]) ((wanted_eq rfl rfl rfl (congrArg Value.bool hc710)).trans rfl) rfl (x_loadN (cs := [.int .u8 z665.Kind, .int .u8 z665.M.Kind, .int .i64 z665.M.From, .int .i64 z665.M.To, .int .u64 z665.M.Term, .int .u64 z665.M.Index, .int .u64 z665.M.LogTerm, .int .u64 z665.M.Commit, .bool z665.M.OK, v667, .int .u64 z665.M.S.Index, .int .u64 z665.M.S.Term, .int .u64 z665.M.S.Voters, v669, .int .u64 z665.H.ID.Session, .int .u64 z665.H.ID.Seq, .int .u64 z665.H.Epoch, v671, v673, v675, v677, .int .u64 z665.ID.Session, .int .u64 z665.ID.Seq, .int .i64 z665.R.E, .int .u64 z665.R.Epoch, .int .u64 z665.R.Index, v679, v681, .int .u8 z665.C.Kind, .int .u64 z665.C.ID.Session, .int .u64 z665.C.ID.Seq, .int .u64 z665.C.Epoch, .int .u64 z665.C.Index, .int .i64 z665.C.E, .int .u64 z665.C.Hold.ID.Session, .int .u64 z665.C.Hold.ID.Seq, .int .u64 z665.C.Hold.Epoch, v683, v685, v687, v689, v691, .int .i64 z665.C.R.E, .int .u64 z665.C.R.Epoch, .int .u64 z665.C.R.Index, v693, v695, .int .u64 z665.C.Shards, v697, .int .u64 z665.C.Rule.ID, .int .i64 z665.C.Rule.From, .int .i64 z665.C.Rule.To, .float .f64 z665.C.Rule.Lo, .float .f64 z665.C.Rule.Hi, .int .u64 z665.C.Rule.Authority, .int .i64 z665.C.Rule.Quota, .bool z665.C.On]) rfl Try.isAgg50 Try.sizeOf50 (hst.bcs2 0 rfl)) ?_
   replace hst := hst.pull3
   obtain ⟨css729, hq730, hst⟩ := hst.own_open
   replace hst := hst.pull4
   obtain ⟨css731, hq732, hst⟩ := hst.own_open
   replace hst := hst.pull5
   obtain ⟨css733, hq734, hst⟩ := hst.own_open
   replace hst := hst.pull6
   obtain ⟨css735, hq736, hst⟩ := hst.own_open
   replace hst := hst.pull7
   obtain ⟨css737, hq738, hst⟩ := hst.own_open
   replace hst := hst.pull8
   obtain ⟨css739, hq740, hst⟩ := hst.own_open
   replace hst := hst.pull9
   obtain ⟨css741, hq742, hst⟩ := hst.own_open
   replace hst := hst.pull10
   obtain ⟨css743, hq744, hst⟩ := hst.own_open
   replace hst := hst.pull11
   obtain ⟨css745, hq746, hst⟩ := hst.own_open
   replace hst := hst.pull12
   obtain ⟨css747, hq748, hst⟩ := hst.own_open
   replace hst := hst.pull13
   obtain ⟨css749, hq750, hst⟩ := hst.own_open
   replace hst := hst.pull14
   obtain ⟨css751, hq752, hst⟩ := hst.own_open
   replace hst := hst.pull15
   obtain ⟨css753, hq754, hst⟩ := hst.own_open
   replace hst := hst.pull16
   obtain ⟨css755, hq756, hst⟩ := hst.own_open
   replace hst := hst.pull17
   obtain ⟨css757, hq758, hst⟩ := hst.own_open
   replace hst := hst.pull18
   obtain ⟨css759, hq760, hst⟩ := hst.own_open
   obtain ⟨t761, ht762, hm⟩ := bind_some hm
   refine wl_call ((wanted_eq rfl rfl rfl (congrArg Value.bool hc710)).trans rfl) rfl (x_call Try.call8 rfl (vs := [.agg #[.int .u8 z665.Kind, .int .u8 z665.M.Kind, .int .i64 z665.M.From, .int .i64 z665.M.To, .int .u64 z665.M.Term, .int .u64 z665.M.Index, .int .u64 z665.M.LogTerm, .int .u64 z665.M.Commit, .bool z665.M.OK, v667, .int .u64 z665.M.S.Index, .int .u64 z665.M.S.Term, .int .u64 z665.M.S.Voters, v669, .int .u64 z665.H.ID.Session, .int .u64 z665.H.ID.Seq, .int .u64 z665.H.Epoch, v671, v673, v675, v677, .int .u64 z665.ID.Session, .int .u64 z665.ID.Seq, .int .i64 z665.R.E, .int .u64 z665.R.Epoch, .int .u64 z665.R.Index, v679, v681, .int .u8 z665.C.Kind, .int .u64 z665.C.ID.Session, .int .u64 z665.C.ID.Seq, .int .u64 z665.C.Epoch, .int .u64 z665.C.Index, .int .i64 z665.C.E, .int .u64 z665.C.Hold.ID.Session, .int .u64 z665.C.Hold.ID.Seq, .int .u64 z665.C.Hold.Epoch, v683, v685, v687, v689, v691, .int .i64 z665.C.R.E, .int .u64 z665.C.R.Epoch, .int .u64 z665.C.R.Index, v693, v695, .int .u64 z665.C.Shards, v697, .int .u64 z665.C.Rule.ID, .int .i64 z665.C.Rule.From, .int .i64 z665.C.Rule.To, .float .f64 z665.C.Rule.Lo, .float .f64 z665.C.Rule.Hi, .int .u64 z665.C.Rule.Authority, .int .i64 z665.C.Rule.Quota, .bool z665.C.On]]) rfl) ?_
   refine (mail_Encode_ref (hst.rdrow15 hq730) (hst.rdrow14 hq732) (hst.rdrow13 hq734) (hst.rdrow12 hq736) (hst.rdrow11 hq738) (hst.rdrow10 hq740) (hst.rdrow9 hq742) (hst.rdrow8 hq744) (hst.rdrow7 hq746) (hst.rdrow6 hq748) (hst.rdrow5 hq750) (hst.rdrow4 hq752) (hst.rdrow3 hq754) (hst.rdrow2 hq756) (hst.rdrow1 hq758) (hst.rdrow0 hq760) hst.to0 ht762).mono ?_
   rintro _ w763 ⟨v766, rfl, hst⟩
   refine ⟨_, rfl, ?_⟩
   replace hst := hst.of1
   replace hst := hst.pull16
   replace hst := hst.own_close hq730
   replace hst := hst.pull16
   replace hst := hst.own_close hq732
   replace hst := hst.pull16
   replace hst := hst.own_close hq734
   replace hst := hst.pull16
   replace hst := hst.own_close hq736
   replace hst := hst.pull16
   replace hst := hst.own_close hq738
   replace hst := hst.pull16
   replace hst := hst.own_close hq740
   replace hst := hst.pull16
   replace hst := hst.own_close hq742
   replace hst := hst.pull16
   replace hst := hst.own_close hq744
   replace hst := hst.pull16
   replace hst := hst.own_close hq746
   replace hst := hst.pull16
   replace hst := hst.own_close hq748
   replace hst := hst.pull16
   replace hst := hst.own_close hq750
   replace hst := hst.pull16
   replace hst := hst.own_close hq752
   replace hst := hst.pull16
   replace hst := hst.own_close hq754
   replace hst := hst.pull16
   replace hst := hst.own_close hq756
   replace hst := hst.pull16
   replace hst := hst.own_close hq758
   replace hst := hst.pull16
   replace hst := hst.own_close hq760
   refine wv (r0_0) ((wanted_eq rfl rfl rfl (congrArg Value.bool hc710)).trans rfl) rfl rfl ?_
   replace hst := hst.pull16
   obtain ⟨css768, hq769, hst⟩ := hst.own_open
   obtain ⟨t770, ht771, hm⟩ := bind_some hm
   refine wl_call ((wanted_eq rfl rfl rfl (congrArg Value.bool hc710)).trans rfl) rfl (x_call Try.call20 rfl (vs := [v766, r0_0]) rfl) ?_
   refine (slices_Equal_byte_byte_ref (hst.rdrow0 hq769) (f0_0.mono ro_rd) hst.to0 ht771).mono ?_
   rintro _ w772 ⟨rfl, hst⟩
   refine ⟨_, rfl, ?_⟩
   replace hst := hst.of0
   replace hst := hst.own_close hq769
   refine wv (.bool (!t770)) ((wanted_eq rfl rfl rfl (congrArg Value.bool hc710)).trans rfl) rfl rfl ?_
   refine wv (.bool (!t770)) rfl rfl (x_pick_f hc710 rfl rfl) ?_
   refine wl_nil (then_n ?_)
   refine bsplit (!t770) (fun hc775 => ?_) (fun hc775 => ?_)
   ·skip
    replace hm := bif_t hc775 hm
    refine wp_ift (congrArg Value.bool hc775) ?_
    refine wp_seq (wp_region_lit ?_)
    refine wv (.agg #[.int .u8 (0:Int), .int .u8 (0:Int), .int .i64 (0:Int), .int .i64 (0:Int), .int .u64 (0:Int), .int .u64 (0:Int), .int .u64 (0:Int), .int .u64 (0:Int), .bool false, (.slice none 0 0), .int .u64 (0:Int), .int .u64 (0:Int), .int .u64 (0:Int), (.slice none 0 0), .int .u64 (0:Int), .int .u64 (0:Int), .int .u64 (0:Int), (.slice none 0 0), (.slice none 0 0), (.slice none 0 0), (.slice none 0 0), .int .u64 (0:Int), .int .u64 (0:Int), .int .i64 (0:Int), .int .u64 (0:Int), .int .u64 (0:Int), (.slice none 0 0), (.slice none 0 0), .int .u8 (0:Int), .int .u64 (0:Int), .int .u64 (0:Int), .int .u64 (0:Int), .int .u64 (0:Int), .int .i64 (0:Int), .int .u64 (0:Int), .int .u64 (0:Int), .int .u64 (0:Int), (.slice none 0 0), (.slice none 0 0), (.slice none 0 0), (.slice none 0 0), (.slice none 0 0), .int .i64 (0:Int), .int .u64 (0:Int), .int .u64 (0:Int), (.slice none 0 0), (.slice none 0 0), .int .u64 (0:Int), (.slice none 0 0), .int .u64 (0:Int), .int .i64 (0:Int), .int .i64 (0:Int), .float .f64 (0:Nat), .float .f64 (0:Nat), .int .u64 (0:Int), .int .i64 (0:Int), .bool false]) rfl rfl (by kernel_rfl) ?_
    replace hst := hst.pull18
    obtain ⟨w792, hr793, hst⟩ := hst.boxStore (P := Try.prog) (t := 50) (cs' := [.int .u8 (0:Int), .int .u8 (0:Int), .int .i64 (0:Int), .int .i64 (0:Int), .int .u64 (0:Int), .int .u64 (0:Int), .int .u64 (0:Int), .int .u64 (0:Int), .bool false, (.slice none 0 0), .int .u64 (0:Int), .int .u64 (0:Int), .int .u64 (0:Int), (.slice none 0 0), .int .u64 (0:Int), .int .u64 (0:Int), .int .u64 (0:Int), (.slice none 0 0), (.slice none 0 0), (.slice none 0 0), (.slice none 0 0), .int .u64 (0:Int), .int .u64 (0:Int), .int .i64 (0:Int), .int .u64 (0:Int), .int .u64 (0:Int), (.slice none 0 0), (.slice none 0 0), .int .u8 (0:Int), .int .u64 (0:Int), .int .u64 (0:Int), .int .u64 (0:Int), .int .u64 (0:Int), .int .i64 (0:Int), .int .u64 (0:Int), .int .u64 (0:Int), .int .u64 (0:Int), (.slice none 0 0), (.slice none 0 0), (.slice none 0 0), (.slice none 0 0), (.slice none 0 0), .int .i64 (0:Int), .int .u64 (0:Int), .int .u64 (0:Int), (.slice none 0 0), (.slice none 0 0), .int .u64 (0:Int), (.slice none 0 0), .int .u64 (0:Int), .int .i64 (0:Int), .int .i64 (0:Int), .float .f64 (0:Nat), .float .f64 (0:Nat), .int .u64 (0:Int), .int .i64 (0:Int), .bool false]) 0 (.agg #[.int .u8 (0:Int), .int .u8 (0:Int), .int .i64 (0:Int), .int .i64 (0:Int), .int .u64 (0:Int), .int .u64 (0:Int), .int .u64 (0:Int), .int .u64 (0:Int), .bool false, (.slice none 0 0), .int .u64 (0:Int), .int .u64 (0:Int), .int .u64 (0:Int), (.slice none 0 0), .int .u64 (0:Int), .int .u64 (0:Int), .int .u64 (0:Int), (.slice none 0 0), (.slice none 0 0), (.slice none 0 0), (.slice none 0 0), .int .u64 (0:Int), .int .u64 (0:Int), .int .i64 (0:Int), .int .u64 (0:Int), .int .u64 (0:Int), (.slice none 0 0), (.slice none 0 0), .int .u8 (0:Int), .int .u64 (0:Int), .int .u64 (0:Int), .int .u64 (0:Int), .int .u64 (0:Int), .int .i64 (0:Int), .int .u64 (0:Int), .int .u64 (0:Int), .int .u64 (0:Int), (.slice none 0 0), (.slice none 0 0), (.slice none 0 0), (.slice none 0 0), (.slice none 0 0), .int .i64 (0:Int), .int .u64 (0:Int), .int .u64 (0:Int), (.slice none 0 0), (.slice none 0 0), .int .u64 (0:Int), (.slice none 0 0), .int .u64 (0:Int), .int .i64 (0:Int), .int .i64 (0:Int), .float .f64 (0:Nat), .float .f64 (0:Nat), .int .u64 (0:Int), .int .i64 (0:Int), .bool false]) Try.sizeOf50 (Nat.le_of_ble_eq_true rfl) (ones_cons rfl (ones_cons rfl (ones_cons rfl (ones_cons rfl (ones_cons rfl (ones_cons rfl (ones_cons rfl (ones_cons rfl (ones_cons rfl (ones_cons rfl (ones_cons rfl (ones_cons rfl (ones_cons rfl (ones_cons rfl (ones_cons rfl (ones_cons rfl (ones_cons rfl (ones_cons rfl (ones_cons rfl (ones_cons rfl (ones_cons rfl (ones_cons rfl (ones_cons rfl (ones_cons rfl (ones_cons rfl (ones_cons rfl (ones_cons rfl (ones_cons rfl (ones_cons rfl (ones_cons rfl (ones_cons rfl (ones_cons rfl (ones_cons rfl (ones_cons rfl (ones_cons rfl (ones_cons rfl (ones_cons rfl (ones_cons rfl (ones_cons rfl (ones_cons rfl (ones_cons rfl (ones_cons rfl (ones_cons rfl (ones_cons rfl (ones_cons rfl (ones_cons rfl (ones_cons rfl (ones_cons rfl (ones_cons rfl (ones_cons rfl (ones_cons rfl (ones_cons rfl (ones_cons rfl (ones_cons rfl (ones_cons rfl (ones_cons rfl (ones_cons rfl ones_nil))))))))))))))))))))))))))))))))))))))))))))))))))))))))) (by kernel_rfl)
    refine wl_unit rfl rfl (x_unit hr793) ?_
    refine wv (.int .i64 (5:Int)) rfl rfl rfl ?_
    refine wl_nil (then_n (wp_ret (then_r ?_)))
    replace hst := hst.own_nil ty_api_Entry
    replace hst := hst.own_nil (tyInt .u8)
    replace hst := hst.own_nil tyF64
    replace hst := hst.own_nil tyF2
    replace hst := hst.own_nil tyF64
    replace hst := hst.own_nil (tyInt .u8)
    replace hst := hst.own_nil ty_api_Got
    replace hst := hst.own_nil (tySl ty_api_Pair)
    replace hst := hst.own_nil tyF64
    replace hst := hst.own_nil tyF2
    replace hst := hst.own_nil tyF64
    replace hst := hst.own_nil (tyInt .u8)
    replace hst := hst.own_nil ty_api_Write
    replace hst := hst.own_nil ty_api_Got
    replace hst := hst.own_nil (tySl ty_api_Pair)
    replace hst := hst.own_nil ty_api_Part
    obtain rfl := some_inj hm
    refine post_ret (vs := [.agg #[.int .u8 (0:Int), .int .u8 (0:Int), .int .i64 (0:Int), .int .i64 (0:Int), .int .u64 (0:Int), .int .u64 (0:Int), .int .u64 (0:Int), .int .u64 (0:Int), .bool false, (.slice none 0 0), .int .u64 (0:Int), .int .u64 (0:Int), .int .u64 (0:Int), (.slice none 0 0), .int .u64 (0:Int), .int .u64 (0:Int), .int .u64 (0:Int), (.slice none 0 0), (.slice none 0 0), (.slice none 0 0), (.slice none 0 0), .int .u64 (0:Int), .int .u64 (0:Int), .int .i64 (0:Int), .int .u64 (0:Int), .int .u64 (0:Int), (.slice none 0 0), (.slice none 0 0), .int .u8 (0:Int), .int .u64 (0:Int), .int .u64 (0:Int), .int .u64 (0:Int), .int .u64 (0:Int), .int .i64 (0:Int), .int .u64 (0:Int), .int .u64 (0:Int), .int .u64 (0:Int), (.slice none 0 0), (.slice none 0 0), (.slice none 0 0), (.slice none 0 0), (.slice none 0 0), .int .i64 (0:Int), .int .u64 (0:Int), .int .u64 (0:Int), (.slice none 0 0), (.slice none 0 0), .int .u64 (0:Int), (.slice none 0 0), .int .u64 (0:Int), .int .i64 (0:Int), .int .i64 (0:Int), .float .f64 (0:Nat), .float .f64 (0:Nat), .int .u64 (0:Int), .int .i64 (0:Int), .bool false], .int .i64 (5:Int)]) Try.results7 (rvs_cons (rv_cell (cs := [.int .u8 (0:Int), .int .u8 (0:Int), .int .i64 (0:Int), .int .i64 (0:Int), .int .u64 (0:Int), .int .u64 (0:Int), .int .u64 (0:Int), .int .u64 (0:Int), .bool false, (.slice none 0 0), .int .u64 (0:Int), .int .u64 (0:Int), .int .u64 (0:Int), (.slice none 0 0), .int .u64 (0:Int), .int .u64 (0:Int), .int .u64 (0:Int), (.slice none 0 0), (.slice none 0 0), (.slice none 0 0), (.slice none 0 0), .int .u64 (0:Int), .int .u64 (0:Int), .int .i64 (0:Int), .int .u64 (0:Int), .int .u64 (0:Int), (.slice none 0 0), (.slice none 0 0), .int .u8 (0:Int), .int .u64 (0:Int), .int .u64 (0:Int), .int .u64 (0:Int), .int .u64 (0:Int), .int .i64 (0:Int), .int .u64 (0:Int), .int .u64 (0:Int), .int .u64 (0:Int), (.slice none 0 0), (.slice none 0 0), (.slice none 0 0), (.slice none 0 0), (.slice none 0 0), .int .i64 (0:Int), .int .u64 (0:Int), .int .u64 (0:Int), (.slice none 0 0), (.slice none 0 0), .int .u64 (0:Int), (.slice none 0 0), .int .u64 (0:Int), .int .i64 (0:Int), .int .i64 (0:Int), .float .f64 (0:Nat), .float .f64 (0:Nat), .int .u64 (0:Int), .int .i64 (0:Int), .bool false]) rfl Try.isAgg50 Try.sizeOf50 (hst.bcs16 0 rfl)) (rvs_cons (rv_tmp rfl) rvs_nil)) ?_
    replace hst := hst.pull1
    replace hst := hst.pull2
    replace hst := hst.pull3
    replace hst := hst.pull4
    replace hst := hst.pull5
    replace hst := hst.pull6
    replace hst := hst.pull7
    replace hst := hst.pull8
    replace hst := hst.pull9
    replace hst := hst.pull10
    replace hst := hst.pull11
    replace hst := hst.pull12
    replace hst := hst.pull13
    replace hst := hst.pull14
    replace hst := hst.pull15
    exact ⟨_, (.slice none 0 0), (.slice none 0 0), (.slice none 0 0), (.slice none 0 0), (.slice none 0 0), (.slice none 0 0), (.slice none 0 0), (.slice none 0 0), (.slice none 0 0), (.slice none 0 0), (.slice none 0 0), (.slice none 0 0), (.slice none 0 0), (.slice none 0 0), (.slice none 0 0), (.slice none 0 0), rfl, hI0, hst.keep16⟩
   ·skip
    replace hm := bif_f hc775 hm
    refine wp_iff (congrArg Value.bool hc775) ?_
    refine wp_skip (then_n (wp_seq (wp_region_lit ?_)))
    refine wv (.agg #[.int .u8 z665.Kind, .int .u8 z665.M.Kind, .int .i64 z665.M.From, .int .i64 z665.M.To, .int .u64 z665.M.Term, .int .u64 z665.M.Index, .int .u64 z665.M.LogTerm, .int .u64 z665.M.Commit, .bool z665.M.OK, v667, .int .u64 z665.M.S.Index, .int .u64 z665.M.S.Term, .int .u64 z665.M.S.Voters, v669, .int .u64 z665.H.ID.Session, .int .u64 z665.H.ID.Seq, .int .u64 z665.H.Epoch, v671, v673, v675, v677, .int .u64 z665.ID.Session, .int .u64 z665.ID.Seq, .int .i64 z665.R.E, .int .u64 z665.R.Epoch, .int .u64 z665.R.Index, v679, v681, .int .u8 z665.C.Kind, .int .u64 z665.C.ID.Session, .int .u64 z665.C.ID.Seq, .int .u64 z665.C.Epoch, .int .u64 z665.C.Index, .int .i64 z665.C.E, .int .u64 z665.C.Hold.ID.Session, .int .u64 z665.C.Hold.ID.Seq, .int .u64 z665.C.Hold.Epoch, v683, v685, v687, v689, v691, .int .i64 z665.C.R.E, .int .u64 z665.C.R.Epoch, .int .u64 z665.C.R.Index, v693, v695, .int .u64 z665.C.Shards, v697, .int .u64 z665.C.Rule.ID, .int .i64 z665.C.Rule.From, .int .i64 z665.C.Rule.To, .float .f64 z665.C.Rule.Lo, .float .f64 z665.C.Rule.Hi, .int .u64 z665.C.Rule.Authority, .int .i64 z665.C.Rule.Quota, .bool z665.C.On]) rfl rfl (x_loadN (cs := [.int .u8 z665.Kind, .int .u8 z665.M.Kind, .int .i64 z665.M.From, .int .i64 z665.M.To, .int .u64 z665.M.Term, .int .u64 z665.M.Index, .int .u64 z665.M.LogTerm, .int .u64 z665.M.Commit, .bool z665.M.OK, v667, .int .u64 z665.M.S.Index, .int .u64 z665.M.S.Term, .int .u64 z665.M.S.Voters, v669, .int .u64 z665.H.ID.Session, .int .u64 z665.H.ID.Seq, .int .u64 z665.H.Epoch, v671, v673, v675, v677, .int .u64 z665.ID.Session, .int .u64 z665.ID.Seq, .int .i64 z665.R.E, .int .u64 z665.R.Epoch, .int .u64 z665.R.Index, v679, v681, .int .u8 z665.C.Kind, .int .u64 z665.C.ID.Session, .int .u64 z665.C.ID.Seq, .int .u64 z665.C.Epoch, .int .u64 z665.C.Index, .int .i64 z665.C.E, .int .u64 z665.C.Hold.ID.Session, .int .u64 z665.C.Hold.ID.Seq, .int .u64 z665.C.Hold.Epoch, v683, v685, v687, v689, v691, .int .i64 z665.C.R.E, .int .u64 z665.C.R.Epoch, .int .u64 z665.C.R.Index, v693, v695, .int .u64 z665.C.Shards, v697, .int .u64 z665.C.Rule.ID, .int .i64 z665.C.Rule.From, .int .i64 z665.C.Rule.To, .float .f64 z665.C.Rule.Lo, .float .f64 z665.C.Rule.Hi, .int .u64 z665.C.Rule.Authority, .int .i64 z665.C.Rule.Quota, .bool z665.C.On]) rfl Try.isAgg50 Try.sizeOf50 (hst.bcs19 0 rfl)) ?_
    replace hst := hst.pull18
    obtain ⟨w794, hr795, hst⟩ := hst.boxStore (P := Try.prog) (t := 50) (cs' := [.int .u8 z665.Kind, .int .u8 z665.M.Kind, .int .i64 z665.M.From, .int .i64 z665.M.To, .int .u64 z665.M.Term, .int .u64 z665.M.Index, .int .u64 z665.M.LogTerm, .int .u64 z665.M.Commit, .bool z665.M.OK, v667, .int .u64 z665.M.S.Index, .int .u64 z665.M.S.Term, .int .u64 z665.M.S.Voters, v669, .int .u64 z665.H.ID.Session, .int .u64 z665.H.ID.Seq, .int .u64 z665.H.Epoch, v671, v673, v675, v677, .int .u64 z665.ID.Session, .int .u64 z665.ID.Seq, .int .i64 z665.R.E, .int .u64 z665.R.Epoch, .int .u64 z665.R.Index, v679, v681, .int .u8 z665.C.Kind, .int .u64 z665.C.ID.Session, .int .u64 z665.C.ID.Seq, .int .u64 z665.C.Epoch, .int .u64 z665.C.Index, .int .i64 z665.C.E, .int .u64 z665.C.Hold.ID.Session, .int .u64 z665.C.Hold.ID.Seq, .int .u64 z665.C.Hold.Epoch, v683, v685, v687, v689, v691, .int .i64 z665.C.R.E, .int .u64 z665.C.R.Epoch, .int .u64 z665.C.R.Index, v693, v695, .int .u64 z665.C.Shards, v697, .int .u64 z665.C.Rule.ID, .int .i64 z665.C.Rule.From, .int .i64 z665.C.Rule.To, .float .f64 z665.C.Rule.Lo, .float .f64 z665.C.Rule.Hi, .int .u64 z665.C.Rule.Authority, .int .i64 z665.C.Rule.Quota, .bool z665.C.On]) 0 (.agg #[.int .u8 z665.Kind, .int .u8 z665.M.Kind, .int .i64 z665.M.From, .int .i64 z665.M.To, .int .u64 z665.M.Term, .int .u64 z665.M.Index, .int .u64 z665.M.LogTerm, .int .u64 z665.M.Commit, .bool z665.M.OK, v667, .int .u64 z665.M.S.Index, .int .u64 z665.M.S.Term, .int .u64 z665.M.S.Voters, v669, .int .u64 z665.H.ID.Session, .int .u64 z665.H.ID.Seq, .int .u64 z665.H.Epoch, v671, v673, v675, v677, .int .u64 z665.ID.Session, .int .u64 z665.ID.Seq, .int .i64 z665.R.E, .int .u64 z665.R.Epoch, .int .u64 z665.R.Index, v679, v681, .int .u8 z665.C.Kind, .int .u64 z665.C.ID.Session, .int .u64 z665.C.ID.Seq, .int .u64 z665.C.Epoch, .int .u64 z665.C.Index, .int .i64 z665.C.E, .int .u64 z665.C.Hold.ID.Session, .int .u64 z665.C.Hold.ID.Seq, .int .u64 z665.C.Hold.Epoch, v683, v685, v687, v689, v691, .int .i64 z665.C.R.E, .int .u64 z665.C.R.Epoch, .int .u64 z665.C.R.Index, v693, v695, .int .u64 z665.C.Shards, v697, .int .u64 z665.C.Rule.ID, .int .i64 z665.C.Rule.From, .int .i64 z665.C.Rule.To, .float .f64 z665.C.Rule.Lo, .float .f64 z665.C.Rule.Hi, .int .u64 z665.C.Rule.Authority, .int .i64 z665.C.Rule.Quota, .bool z665.C.On]) Try.sizeOf50 (Nat.le_of_ble_eq_true rfl) (ones_cons rfl (ones_cons rfl (ones_cons rfl (ones_cons rfl (ones_cons rfl (ones_cons rfl (ones_cons rfl (ones_cons rfl (ones_cons rfl (ones_cons (one_of_sliceV hst.sv17) (ones_cons rfl (ones_cons rfl (ones_cons rfl (ones_cons (one_of_sliceV hst.sv16) (ones_cons rfl (ones_cons rfl (ones_cons rfl (ones_cons (one_of_sliceV hst.sv15) (ones_cons (one_of_sliceV hst.sv14) (ones_cons (one_of_sliceV hst.sv13) (ones_cons (one_of_sliceV hst.sv12) (ones_cons rfl (ones_cons rfl (ones_cons rfl (ones_cons rfl (ones_cons rfl (ones_cons (one_of_sliceV hst.sv11) (ones_cons (one_of_sliceV hst.sv10) (ones_cons rfl (ones_cons rfl (ones_cons rfl (ones_cons rfl (ones_cons rfl (ones_cons rfl (ones_cons rfl (ones_cons rfl (ones_cons rfl (ones_cons (one_of_sliceV hst.sv9) (ones_cons (one_of_sliceV hst.sv8) (ones_cons (one_of_sliceV hst.sv7) (ones_cons (one_of_sliceV hst.sv6) (ones_cons (one_of_sliceV hst.sv5) (ones_cons rfl (ones_cons rfl (ones_cons rfl (ones_cons (one_of_sliceV hst.sv4) (ones_cons (one_of_sliceV hst.sv3) (ones_cons rfl (ones_cons (one_of_sliceV hst.sv2) (ones_cons rfl (ones_cons rfl (ones_cons rfl (ones_cons rfl (ones_cons rfl (ones_cons rfl (ones_cons rfl (ones_cons rfl ones_nil))))))))))))))))))))))))))))))))))))))))))))))))))))))))) (by kernel_rfl)
    refine wl_unit rfl rfl (x_unit hr795) ?_
    refine wv (.int .i64 (0:Int)) rfl rfl rfl ?_
    refine wl_nil (then_n (wp_ret ?_))
    obtain rfl := some_inj hm
    refine post_ret (vs := [.agg #[.int .u8 z665.Kind, .int .u8 z665.M.Kind, .int .i64 z665.M.From, .int .i64 z665.M.To, .int .u64 z665.M.Term, .int .u64 z665.M.Index, .int .u64 z665.M.LogTerm, .int .u64 z665.M.Commit, .bool z665.M.OK, v667, .int .u64 z665.M.S.Index, .int .u64 z665.M.S.Term, .int .u64 z665.M.S.Voters, v669, .int .u64 z665.H.ID.Session, .int .u64 z665.H.ID.Seq, .int .u64 z665.H.Epoch, v671, v673, v675, v677, .int .u64 z665.ID.Session, .int .u64 z665.ID.Seq, .int .i64 z665.R.E, .int .u64 z665.R.Epoch, .int .u64 z665.R.Index, v679, v681, .int .u8 z665.C.Kind, .int .u64 z665.C.ID.Session, .int .u64 z665.C.ID.Seq, .int .u64 z665.C.Epoch, .int .u64 z665.C.Index, .int .i64 z665.C.E, .int .u64 z665.C.Hold.ID.Session, .int .u64 z665.C.Hold.ID.Seq, .int .u64 z665.C.Hold.Epoch, v683, v685, v687, v689, v691, .int .i64 z665.C.R.E, .int .u64 z665.C.R.Epoch, .int .u64 z665.C.R.Index, v693, v695, .int .u64 z665.C.Shards, v697, .int .u64 z665.C.Rule.ID, .int .i64 z665.C.Rule.From, .int .i64 z665.C.Rule.To, .float .f64 z665.C.Rule.Lo, .float .f64 z665.C.Rule.Hi, .int .u64 z665.C.Rule.Authority, .int .i64 z665.C.Rule.Quota, .bool z665.C.On], .int .i64 (0:Int)]) Try.results7 (rvs_cons (rv_cell (cs := [.int .u8 z665.Kind, .int .u8 z665.M.Kind, .int .i64 z665.M.From, .int .i64 z665.M.To, .int .u64 z665.M.Term, .int .u64 z665.M.Index, .int .u64 z665.M.LogTerm, .int .u64 z665.M.Commit, .bool z665.M.OK, v667, .int .u64 z665.M.S.Index, .int .u64 z665.M.S.Term, .int .u64 z665.M.S.Voters, v669, .int .u64 z665.H.ID.Session, .int .u64 z665.H.ID.Seq, .int .u64 z665.H.Epoch, v671, v673, v675, v677, .int .u64 z665.ID.Session, .int .u64 z665.ID.Seq, .int .i64 z665.R.E, .int .u64 z665.R.Epoch, .int .u64 z665.R.Index, v679, v681, .int .u8 z665.C.Kind, .int .u64 z665.C.ID.Session, .int .u64 z665.C.ID.Seq, .int .u64 z665.C.Epoch, .int .u64 z665.C.Index, .int .i64 z665.C.E, .int .u64 z665.C.Hold.ID.Session, .int .u64 z665.C.Hold.ID.Seq, .int .u64 z665.C.Hold.Epoch, v683, v685, v687, v689, v691, .int .i64 z665.C.R.E, .int .u64 z665.C.R.Epoch, .int .u64 z665.C.R.Index, v693, v695, .int .u64 z665.C.Shards, v697, .int .u64 z665.C.Rule.ID, .int .i64 z665.C.Rule.From, .int .i64 z665.C.Rule.To, .float .f64 z665.C.Rule.Lo, .float .f64 z665.C.Rule.Hi, .int .u64 z665.C.Rule.Authority, .int .i64 z665.C.Rule.Quota, .bool z665.C.On]) rfl Try.isAgg50 Try.sizeOf50 (hst.bcs0 0 rfl)) (rvs_cons (rv_tmp rfl) rvs_nil)) ?_
    replace hst := hst.pull2
    replace hst := hst.pull3
    replace hst := hst.pull4
    replace hst := hst.pull5
    replace hst := hst.pull6
    replace hst := hst.pull7
    replace hst := hst.pull8
    replace hst := hst.pull9
    replace hst := hst.pull10
    replace hst := hst.pull11
    replace hst := hst.pull12
    replace hst := hst.pull13
    replace hst := hst.pull14
    replace hst := hst.pull15
    replace hst := hst.pull16
    replace hst := hst.pull17
    exact ⟨_, v667, v669, v671, v673, v675, v677, v679, v681, v683, v685, v687, v689, v691, v693, v695, v697, rfl, hI0, hst.keep16⟩

end Go.Proofs.Ytldfdainhdiffaa
