/- The Go functions refine their models, part 2. -/
import Derived.Test.YtijcfglomdfglaaCommandLongR1
set_option linter.unusedVariables false
set_option linter.unusedSimpArgs false
set_option maxRecDepth 100000
set_option maxHeartbeats 4000000
namespace Go.Proofs.Ytijcfglomdfglaa
open Go Go.V
attribute [local irreducible] wpList Code.wp wpQuiet Calls bodyPost Oper.wp wpS Nx PendOK YieldsIn
theorem command_Decode_ref {w0 w : World} {I : HL} {R : SP} {a0 : (List Int)} {r0_0 : Value} (f0_0 : Ro (tyInt .u8) I r0_0 a0) (hst : St w0 w I [] R) {r : (api_Command × Int)} (hm : command_Decode a0 = some r) :
  Calls Try.prog 20 #[r0_0] w fun e w' => ∃ (I' : HL) (q0_0 : Value) (q0_1 : Value) (q0_2 : Value) (q0_3 : Value) (q0_4 : Value) (q0_5 : Value) (q0_6 : Value) (q0_7 : Value), e = .returned (.tuple #[.agg #[.int .u8 r.1.Kind, .int .u64 r.1.ID.Session, .int .u64 r.1.ID.Seq, .int .u64 r.1.Epoch, .int .u64 r.1.Index, .int .i64 r.1.E, .int .u64 r.1.Hold.ID.Session, .int .u64 r.1.Hold.ID.Seq, .int .u64 r.1.Hold.Epoch, q0_0, q0_1, q0_2, q0_3, q0_4, .int .i64 r.1.R.E, .int .u64 r.1.R.Epoch, .int .u64 r.1.R.Index, q0_5, q0_6, .int .u64 r.1.Shards, q0_7, .int .u64 r.1.Rule.ID, .int .i64 r.1.Rule.From, .int .i64 r.1.Rule.To, .float .f64 r.1.Rule.Lo, .float .f64 r.1.Rule.Hi, .int .u64 r.1.Rule.Authority, .int .i64 r.1.Rule.Quota, .bool r.1.On], .int .i64 r.2]) ∧ I.le I' ∧ St w0 w' I' [ownS tyF64 q0_0 r.1.Hold.Gets, ownS tyF2 q0_1 r.1.Hold.Scans, ownS tyF64 q0_2 r.1.Hold.Puts, ownS (tyInt .u8) q0_3 r.1.Hold.Data, ownS ty_api_Write q0_4 r.1.Writes, ownS ty_api_Got q0_5 r.1.R.Gots, ownS (tySl ty_api_Pair) q0_6 r.1.R.Scans, ownS ty_api_Part q0_7 r.1.Parts] R := by
 unfold command_Decode at hm
 refine calls_start (args := [r0_0]) Try.func20 rfl Try.ntmps20 (Nat.le_of_ble_eq_true rfl) ?_
 have hI0 := HL.le.refl I
 refine wp_seq (wp_region_lit ?_)
 obtain ⟨b681, w682, ew683, eb684, hst⟩ := hst.box [.int .u8 (0:Int), .int .u64 (0:Int), .int .u64 (0:Int), .int .u64 (0:Int), .int .u64 (0:Int), .int .i64 (0:Int), .int .u64 (0:Int), .int .u64 (0:Int), .int .u64 (0:Int), (.slice none 0 0), (.slice none 0 0), (.slice none 0 0), (.slice none 0 0), (.slice none 0 0), .int .i64 (0:Int), .int .u64 (0:Int), .int .u64 (0:Int), (.slice none 0 0), (.slice none 0 0), .int .u64 (0:Int), (.slice none 0 0), .int .u64 (0:Int), .int .i64 (0:Int), .int .i64 (0:Int), .float .f64 (0:Nat), .float .f64 (0:Nat), .int .u64 (0:Int), .int .i64 (0:Int), .bool false] 45
 refine wl_run (v := .pointer (some ⟨b681, 0, none⟩)) (w' := w682) rfl rfl (x_al (by kernel_rfl) ew683 eb684) ?_
 refine wv (.int .i64 (0:Int)) rfl rfl rfl ?_
 refine wl_nil (then_n (wp_seq (wp_region_lit ?_)))
 refine wv (r0_0) rfl rfl rfl ?_
 obtain ⟨t686, ht687, hm⟩ := bind_some hm
 refine wl_call rfl rfl (x_call Try.call15 rfl (vs := [r0_0]) rfl) ?_
 refine (octet_Read_ref f0_0 hst.to0 ht687).mono ?_
 rintro _ w688 ⟨v691, rfl, hst⟩
 refine ⟨_, rfl, ?_⟩
 replace hst := hst.of1
 obtain ⟨b693, w694, ew695, eb696, hst⟩ := hst.box [.pointer none] 61
 refine wl_run (v := .pointer (some ⟨b693, 0, none⟩)) (w' := w694) rfl rfl (x_al (by kernel_rfl) ew695 eb696) ?_
 replace hst := hst.pull1
 obtain ⟨b698, v699, ⟨rfl, f701⟩, hst'⟩ := at_octet_Reader_open hst
 clear hst
 have hst := hst'
 clear hst'
 replace hst := hst.pull1
 obtain ⟨w702, hr703, hst⟩ := hst.boxStore (P := Try.prog) (t := 61) (cs' := [.pointer (some ⟨b698, 0, none⟩)]) 0 (.pointer (some ⟨b698, 0, none⟩)) Try.sizeOf61 (Nat.le_of_ble_eq_true rfl) (ones_cons rfl ones_nil) (by kernel_rfl)
 refine wl_unit rfl rfl (x_unit hr703) ?_
 refine wl_nil (then_n (wp_seq (wp_region_lit ?_)))
 refine wv (.pointer (some ⟨b698, 0, none⟩)) rfl rfl (x_load rfl Try.isAgg61 (hst.bc0 rfl)) ?_
 replace hst := hst.pull1
 replace hst := at_octet_Reader_close (pv := .pointer (some ⟨b698, 0, none⟩)) (x := t686) hst ⟨rfl, f701⟩
 obtain ⟨t704, ht705, hm⟩ := bind_some hm
 refine wl_call rfl rfl (x_call Try.call40 rfl (vs := [.pointer (some ⟨b698, 0, none⟩), .int .i64 (1:Int)]) rfl) ?_
 refine (octet_Reader_Num_ref hst.to1 ht705).mono ?_
 rintro _ w706 ⟨rfl, hst⟩
 refine ⟨_, rfl, ?_⟩
 replace hst := hst.of1
 refine wv (.int .u8 (IntKind.u8.wrap t704.1)) rfl rfl (by kernel_rfl) ?_
 refine wv (.agg #[.int .u8 (IntKind.u8.wrap t704.1), .int .u64 (0:Int), .int .u64 (0:Int), .int .u64 (0:Int), .int .u64 (0:Int), .int .i64 (0:Int), .int .u64 (0:Int), .int .u64 (0:Int), .int .u64 (0:Int), (.slice none 0 0), (.slice none 0 0), (.slice none 0 0), (.slice none 0 0), (.slice none 0 0), .int .i64 (0:Int), .int .u64 (0:Int), .int .u64 (0:Int), (.slice none 0 0), (.slice none 0 0), .int .u64 (0:Int), (.slice none 0 0), .int .u64 (0:Int), .int .i64 (0:Int), .int .i64 (0:Int), .float .f64 (0:Nat), .float .f64 (0:Nat), .int .u64 (0:Int), .int .i64 (0:Int), .bool false]) rfl rfl (by kernel_rfl) ?_
 obtain ⟨b725, w726, ew727, eb728, hst⟩ := hst.box [.int .u8 (0:Int), .int .u64 (0:Int), .int .u64 (0:Int), .int .u64 (0:Int), .int .u64 (0:Int), .int .i64 (0:Int), .int .u64 (0:Int), .int .u64 (0:Int), .int .u64 (0:Int), (.slice none 0 0), (.slice none 0 0), (.slice none 0 0), (.slice none 0 0), (.slice none 0 0), .int .i64 (0:Int), .int .u64 (0:Int), .int .u64 (0:Int), (.slice none 0 0), (.slice none 0 0), .int .u64 (0:Int), (.slice none 0 0), .int .u64 (0:Int), .int .i64 (0:Int), .int .i64 (0:Int), .float .f64 (0:Nat), .float .f64 (0:Nat), .int .u64 (0:Int), .int .i64 (0:Int), .bool false] 45
 refine wl_run (v := .pointer (some ⟨b725, 0, none⟩)) (w' := w726) rfl rfl (x_al (by kernel_rfl) ew727 eb728) ?_
 obtain ⟨w730, hr731, hst⟩ := hst.boxStore (P := Try.prog) (t := 45) (cs' := [.int .u8 (IntKind.u8.wrap t704.1), .int .u64 (0:Int), .int .u64 (0:Int), .int .u64 (0:Int), .int .u64 (0:Int), .int .i64 (0:Int), .int .u64 (0:Int), .int .u64 (0:Int), .int .u64 (0:Int), (.slice none 0 0), (.slice none 0 0), (.slice none 0 0), (.slice none 0 0), (.slice none 0 0), .int .i64 (0:Int), .int .u64 (0:Int), .int .u64 (0:Int), (.slice none 0 0), (.slice none 0 0), .int .u64 (0:Int), (.slice none 0 0), .int .u64 (0:Int), .int .i64 (0:Int), .int .i64 (0:Int), .float .f64 (0:Nat), .float .f64 (0:Nat), .int .u64 (0:Int), .int .i64 (0:Int), .bool false]) 0 (.agg #[.int .u8 (IntKind.u8.wrap t704.1), .int .u64 (0:Int), .int .u64 (0:Int), .int .u64 (0:Int), .int .u64 (0:Int), .int .i64 (0:Int), .int .u64 (0:Int), .int .u64 (0:Int), .int .u64 (0:Int), (.slice none 0 0), (.slice none 0 0), (.slice none 0 0), (.slice none 0 0), (.slice none 0 0), .int .i64 (0:Int), .int .u64 (0:Int), .int .u64 (0:Int), (.slice none 0 0), (.slice none 0 0), .int .u64 (0:Int), (.slice none 0 0), .int .u64 (0:Int), .int .i64 (0:Int), .int .i64 (0:Int), .float .f64 (0:Nat), .float .f64 (0:Nat), .int .u64 (0:Int), .int .i64 (0:Int), .bool false]) Try.sizeOf45 (Nat.le_of_ble_eq_true rfl) (ones_cons rfl (ones_cons rfl (ones_cons rfl (ones_cons rfl (ones_cons rfl (ones_cons rfl (ones_cons rfl (ones_cons rfl (ones_cons rfl (ones_cons rfl (ones_cons rfl (ones_cons rfl (ones_cons rfl (ones_cons rfl (ones_cons rfl (ones_cons rfl (ones_cons rfl (ones_cons rfl (ones_cons rfl (ones_cons rfl (ones_cons rfl (ones_cons rfl (ones_cons rfl (ones_cons rfl (ones_cons rfl (ones_cons rfl (ones_cons rfl (ones_cons rfl (ones_cons rfl ones_nil))))))))))))))))))))))))))))) (by kernel_rfl)
 refine wl_unit rfl rfl (x_unit hr731) ?_
 refine wl_nil (then_n (wp_seq (wp_region_lit ?_)))
 refine wv (.func (.func 52) #[] #[.pointer (some ⟨b693, 0, none⟩), .pointer (some ⟨b725, 0, none⟩)]) rfl rfl (by kernel_rfl) ?_
 refine wv (.func (.func 52) #[] #[.pointer (some ⟨b693, 0, none⟩), .pointer (some ⟨b725, 0, none⟩)]) rfl rfl rfl ?_
 refine wl_nil (then_n ?_)
 obtain ⟨y1122, hm, hx1123⟩ := joinO_some hm
 refine wp_cut (fun a w => ∃ (I1119 : HL) (z1101 : octet_Reader) (z1102 : api_Command) (v1104 : Value) (v1106 : Value) (v1108 : Value) (v1110 : Value) (v1112 : Value) (v1114 : Value) (v1116 : Value) (v1118 : Value) (σ1120 : Nat → Value), (command_Decode_j0 a0) (z1101, z1102) = some r ∧ a = Fr 113 (upd (upd (upd (upd σ1120 0 (r0_0)) 2 (.pointer (some ⟨b681, 0, none⟩))) 4 (.pointer (some ⟨b693, 0, none⟩))) 5 (.pointer (some ⟨b725, 0, none⟩))) ∧ I.le I1119 ∧ St w0 w I1119 [cells b681 [.int .u8 (0:Int), .int .u64 (0:Int), .int .u64 (0:Int), .int .u64 (0:Int), .int .u64 (0:Int), .int .i64 (0:Int), .int .u64 (0:Int), .int .u64 (0:Int), .int .u64 (0:Int), (.slice none 0 0), (.slice none 0 0), (.slice none 0 0), (.slice none 0 0), (.slice none 0 0), .int .i64 (0:Int), .int .u64 (0:Int), .int .u64 (0:Int), (.slice none 0 0), (.slice none 0 0), .int .u64 (0:Int), (.slice none 0 0), .int .u64 (0:Int), .int .i64 (0:Int), .int .i64 (0:Int), .float .f64 (0:Nat), .float .f64 (0:Nat), .int .u64 (0:Int), .int .i64 (0:Int), .bool false], cells b693 [.pointer (some ⟨b698, 0, none⟩)], at_octet_Reader (.pointer (some ⟨b698, 0, none⟩)) z1101, cells b725 [.int .u8 z1102.Kind, .int .u64 z1102.ID.Session, .int .u64 z1102.ID.Seq, .int .u64 z1102.Epoch, .int .u64 z1102.Index, .int .i64 z1102.E, .int .u64 z1102.Hold.ID.Session, .int .u64 z1102.Hold.ID.Seq, .int .u64 z1102.Hold.Epoch, v1104, v1106, v1108, v1110, v1112, .int .i64 z1102.R.E, .int .u64 z1102.R.Epoch, .int .u64 z1102.R.Index, v1114, v1116, .int .u64 z1102.Shards, v1118, .int .u64 z1102.Rule.ID, .int .i64 z1102.Rule.From, .int .i64 z1102.Rule.To, .float .f64 z1102.Rule.Lo, .float .f64 z1102.Rule.Hi, .int .u64 z1102.Rule.Authority, .int .i64 z1102.Rule.Quota, .bool z1102.On], ownS tyF64 v1104 z1102.Hold.Gets, ownS tyF2 v1106 z1102.Hold.Scans, ownS tyF64 v1108 z1102.Hold.Puts, ownS (tyInt .u8) v1110 z1102.Hold.Data, ownS ty_api_Write v1112 z1102.Writes, ownS ty_api_Got v1114 z1102.R.Gots, ownS (tySl ty_api_Pair) v1116 z1102.R.Scans, ownS ty_api_Part v1118 z1102.Parts] R) ?_ ?_
 ·skip
  have hL1124 := HL.le.refl I
  refine wp_seq (wp_region_lit ?_)
  refine wv (.pointer (some ⟨b725, 0, none⟩)) rfl rfl (x_field rfl Try.underlying45 rfl Try.sizeOf5 rfl) ?_
  refine wv (.int .u8 (IntKind.u8.wrap t704.1)) rfl rfl (x_load rfl Try.isAgg5 (hst.bc0 rfl)) ?_
  refine wl_nil (then_n (wp_block (wp_seq (wp_region_lit ?_))))
  refine wv (.bool ((IntKind.u8.wrap t704.1) == (1:Int))) rfl rfl rfl ?_
  refine wv (.bool ((IntKind.u8.wrap t704.1) == (1:Int))) rfl rfl rfl ?_
  refine wl_nil (then_n ?_)
  refine bsplit ((IntKind.u8.wrap t704.1) == (1:Int)) (fun hc732 => ?_) (fun hc732 => ?_)
  ·skip
   replace hm := bif_t hc732 hm
   refine wp_ift (congrArg Value.bool hc732) ?_
   refine wp_region_lit ?_
   refine wv (.pointer (some ⟨b698, 0, none⟩)) rfl rfl (x_load rfl Try.isAgg61 (hst.bc2 rfl)) ?_
   replace hst := hst.pull1
   obtain ⟨t733, ht734, hm⟩ := bind_some hm
   refine wl_call rfl rfl (x_call Try.call40 rfl (vs := [.pointer (some ⟨b698, 0, none⟩), .int .i64 (8:Int)]) rfl) ?_
   refine (octet_Reader_Num_ref hst.to1 ht734).mono ?_
   rintro _ w735 ⟨rfl, hst⟩
   refine ⟨_, rfl, ?_⟩
   replace hst := hst.of1
   refine wv (.pointer (some ⟨b725, 3, none⟩)) rfl rfl (x_field rfl Try.underlying45 rfl Try.sizeOf27 rfl) ?_
   replace hst := hst.pull1
   obtain ⟨w738, hr739, hst⟩ := hst.boxStore (P := Try.prog) (t := 27) (cs' := [.int .u8 (IntKind.u8.wrap t704.1), .int .u64 (0:Int), .int .u64 (0:Int), .int .u64 t733.1, .int .u64 (0:Int), .int .i64 (0:Int), .int .u64 (0:Int), .int .u64 (0:Int), .int .u64 (0:Int), (.slice none 0 0), (.slice none 0 0), (.slice none 0 0), (.slice none 0 0), (.slice none 0 0), .int .i64 (0:Int), .int .u64 (0:Int), .int .u64 (0:Int), (.slice none 0 0), (.slice none 0 0), .int .u64 (0:Int), (.slice none 0 0), .int .u64 (0:Int), .int .i64 (0:Int), .int .i64 (0:Int), .float .f64 (0:Nat), .float .f64 (0:Nat), .int .u64 (0:Int), .int .i64 (0:Int), .bool false]) 3 (.int .u64 t733.1) Try.sizeOf27 (Nat.le_of_ble_eq_true rfl) (ones_cons rfl ones_nil) (by kernel_rfl)
   refine wl_unit rfl rfl (x_unit hr739) ?_
   refine wl_nil (blk_n (then_n ?_))
   replace hst := hst.own_nil tyF64
   replace hst := hst.own_nil tyF2
   replace hst := hst.own_nil tyF64
   replace hst := hst.own_nil (tyInt .u8)
   replace hst := hst.own_nil ty_api_Write
   replace hst := hst.own_nil ty_api_Got
   replace hst := hst.own_nil (tySl ty_api_Pair)
   replace hst := hst.own_nil ty_api_Part
   replace hst := hst.pull1
   replace hst := hst.pull2
   replace hst := hst.pull3
   replace hst := hst.pull4
   replace hst := hst.pull5
   replace hst := hst.pull6
   replace hst := hst.pull7
   replace hst := hst.pull8
   replace hst := hst.pull9
   replace hst := hst.pull10
   replace hst := hst.pull11
   replace hst := hst.keep12
   obtain rfl := some_inj hm
   exact ⟨_, t733.2, ({ Kind := (IntKind.u8.wrap t704.1), ID := ({ Session := (0:Int), Seq := (0:Int) } : api_ID), Epoch := t733.1, Index := (0:Int), E := (0:Int), Hold := ({ ID := ({ Session := (0:Int), Seq := (0:Int) } : api_ID), Epoch := (0:Int), Gets := [], Scans := [], Puts := [], Data := [] } : api_Hold), Writes := [], R := ({ E := (0:Int), Epoch := (0:Int), Index := (0:Int), Gots := [], Scans := [] } : api_Reply), Shards := (0:Int), Parts := [], Rule := ({ ID := (0:Int), From := (0:Int), To := (0:Int), Lo := (0:Nat), Hi := (0:Nat), Authority := (0:Int), Quota := (0:Int) } : api_Rule), On := false } : api_Command), (.slice none 0 0), (.slice none 0 0), (.slice none 0 0), (.slice none 0 0), (.slice none 0 0), (.slice none 0 0), (.slice none 0 0), (.slice none 0 0), _, hx1123, ((fr_upd (t := 0) (v := r0_0) rfl).trans ((fr_upd (t := 2) (v := .pointer (some ⟨b681, 0, none⟩)) rfl).trans ((fr_upd (t := 4) (v := .pointer (some ⟨b693, 0, none⟩)) rfl).trans ((fr_upd (t := 5) (v := .pointer (some ⟨b725, 0, none⟩)) rfl).trans rfl)))), hL1124, hst⟩
  ·skip
   replace hm := bif_f hc732 hm
   refine wp_iff (congrArg Value.bool hc732) ?_
   refine wp_seq (wp_region_lit ?_)
   refine wv (.bool ((IntKind.u8.wrap t704.1) == (2:Int))) rfl rfl rfl ?_
   refine wv (.bool ((IntKind.u8.wrap t704.1) == (2:Int))) rfl rfl rfl ?_
   refine wl_nil (then_n ?_)
   refine bsplit ((IntKind.u8.wrap t704.1) == (2:Int)) (fun hc740 => ?_) (fun hc740 => ?_)
   ·skip
    replace hm := bif_t hc740 hm
    refine wp_ift (congrArg Value.bool hc740) ?_
    refine wp_region_lit ?_
    refine wv (.pointer (some ⟨b698, 0, none⟩)) rfl rfl (x_load rfl Try.isAgg61 (hst.bc2 rfl)) ?_
    replace hst := hst.pull1
    obtain ⟨t741, ht742, hm⟩ := bind_some hm
    refine wl_call rfl rfl (x_call Try.call53 rfl (vs := [.pointer (some ⟨b698, 0, none⟩)]) rfl) ?_
    refine (locks_Read_ref hst.to1 ht742).mono ?_
    rintro _ w743 ⟨v746, v748, v750, v752, rfl, hst⟩
    refine ⟨_, rfl, ?_⟩
    replace hst := hst.of5
    refine wv (.pointer (some ⟨b725, 6, none⟩)) rfl rfl (x_field rfl Try.underlying45 rfl Try.sizeOf34 rfl) ?_
    replace hst := hst.pull5
    obtain ⟨w754, hr755, hst⟩ := hst.boxStore (P := Try.prog) (t := 34) (cs' := [.int .u8 (IntKind.u8.wrap t704.1), .int .u64 (0:Int), .int .u64 (0:Int), .int .u64 (0:Int), .int .u64 (0:Int), .int .i64 (0:Int), .int .u64 t741.1.ID.Session, .int .u64 t741.1.ID.Seq, .int .u64 t741.1.Epoch, v746, v748, v750, v752, (.slice none 0 0), .int .i64 (0:Int), .int .u64 (0:Int), .int .u64 (0:Int), (.slice none 0 0), (.slice none 0 0), .int .u64 (0:Int), (.slice none 0 0), .int .u64 (0:Int), .int .i64 (0:Int), .int .i64 (0:Int), .float .f64 (0:Nat), .float .f64 (0:Nat), .int .u64 (0:Int), .int .i64 (0:Int), .bool false]) 6 (.agg #[.int .u64 t741.1.ID.Session, .int .u64 t741.1.ID.Seq, .int .u64 t741.1.Epoch, v746, v748, v750, v752]) Try.sizeOf34 (Nat.le_of_ble_eq_true rfl) (ones_cons rfl (ones_cons rfl (ones_cons rfl (ones_cons (one_of_sliceV hst.sv1) (ones_cons (one_of_sliceV hst.sv2) (ones_cons (one_of_sliceV hst.sv3) (ones_cons (one_of_sliceV hst.sv4) ones_nil))))))) (by kernel_rfl)
    refine wl_unit rfl rfl (x_unit hr755) ?_
    refine wl_nil (blk_n (then_n ?_))
    replace hst := hst.own_nil ty_api_Write
    replace hst := hst.own_nil ty_api_Got
    replace hst := hst.own_nil (tySl ty_api_Pair)
    replace hst := hst.own_nil ty_api_Part
    replace hst := hst.pull1
    replace hst := hst.pull2
    replace hst := hst.pull3
    replace hst := hst.pull8
    replace hst := hst.pull8
    replace hst := hst.pull8
    replace hst := hst.pull8
    replace hst := hst.pull8
    replace hst := hst.pull9
    replace hst := hst.pull10
    replace hst := hst.pull11
    replace hst := hst.keep12
    obtain rfl := some_inj hm
    exact ⟨_, t741.2, ({ Kind := (IntKind.u8.wrap t704.1), ID := ({ Session := (0:Int), Seq := (0:Int) } : api_ID), Epoch := (0:Int), Index := (0:Int), E := (0:Int), Hold := t741.1, Writes := [], R := ({ E := (0:Int), Epoch := (0:Int), Index := (0:Int), Gots := [], Scans := [] } : api_Reply), Shards := (0:Int), Parts := [], Rule := ({ ID := (0:Int), From := (0:Int), To := (0:Int), Lo := (0:Nat), Hi := (0:Nat), Authority := (0:Int), Quota := (0:Int) } : api_Rule), On := false } : api_Command), v746, v748, v750, v752, (.slice none 0 0), (.slice none 0 0), (.slice none 0 0), (.slice none 0 0), _, hx1123, ((fr_upd (t := 0) (v := r0_0) rfl).trans ((fr_upd (t := 2) (v := .pointer (some ⟨b681, 0, none⟩)) rfl).trans ((fr_upd (t := 4) (v := .pointer (some ⟨b693, 0, none⟩)) rfl).trans ((fr_upd (t := 5) (v := .pointer (some ⟨b725, 0, none⟩)) rfl).trans rfl)))), hL1124, hst⟩
   ·skip
    replace hm := bif_f hc740 hm
    refine wp_iff (congrArg Value.bool hc740) ?_
    refine wp_seq (wp_region_lit ?_)
    refine wv (.bool ((IntKind.u8.wrap t704.1) == (3:Int))) rfl rfl rfl ?_
    refine wv (.bool ((IntKind.u8.wrap t704.1) == (3:Int))) rfl rfl rfl ?_
    refine wl_nil (then_n ?_)
    refine bsplit ((IntKind.u8.wrap t704.1) == (3:Int)) (fun hc756 => ?_) (fun hc756 => ?_)
    ·skip
     replace hm := bif_t hc756 hm
     refine wp_ift (congrArg Value.bool hc756) ?_
     refine wp_seq (wp_region_lit ?_)
     refine wv (.func (.func 52) #[] #[.pointer (some ⟨b693, 0, none⟩), .pointer (some ⟨b725, 0, none⟩)]) rfl rfl rfl ?_
     obtain ⟨y773, hq774, hm⟩ := bind_some hm
     refine wl_call rfl rfl (x_callv Try.call52 (caps := [.pointer (some ⟨b693, 0, none⟩), .pointer (some ⟨b725, 0, none⟩)]) rfl (vs := []) rfl) ?_
     refine Calls.mono (show Calls Try.prog 52 #[.pointer (some ⟨b693, 0, none⟩), .pointer (some ⟨b725, 0, none⟩)] _ (fun e w' => ∃ (z769 : octet_Reader) (z770 : Int) (z771 : Int), y773 = (z769, z770, z771) ∧ e = .returned (.tuple #[]) ∧ St w0 w' I [cells b681 [.int .u8 (0:Int), .int .u64 (0:Int), .int .u64 (0:Int), .int .u64 (0:Int), .int .u64 (0:Int), .int .i64 (0:Int), .int .u64 (0:Int), .int .u64 (0:Int), .int .u64 (0:Int), (.slice none 0 0), (.slice none 0 0), (.slice none 0 0), (.slice none 0 0), (.slice none 0 0), .int .i64 (0:Int), .int .u64 (0:Int), .int .u64 (0:Int), (.slice none 0 0), (.slice none 0 0), .int .u64 (0:Int), (.slice none 0 0), .int .u64 (0:Int), .int .i64 (0:Int), .int .i64 (0:Int), .float .f64 (0:Nat), .float .f64 (0:Nat), .int .u64 (0:Int), .int .i64 (0:Int), .bool false], at_octet_Reader (.pointer (some ⟨b698, 0, none⟩)) z769, cells b693 [.pointer (some ⟨b698, 0, none⟩)], cells b725 [.int .u8 (IntKind.u8.wrap t704.1), .int .u64 z770, .int .u64 z771, .int .u64 (0:Int), .int .u64 (0:Int), .int .i64 (0:Int), .int .u64 (0:Int), .int .u64 (0:Int), .int .u64 (0:Int), (.slice none 0 0), (.slice none 0 0), (.slice none 0 0), (.slice none 0 0), (.slice none 0 0), .int .i64 (0:Int), .int .u64 (0:Int), .int .u64 (0:Int), (.slice none 0 0), (.slice none 0 0), .int .u64 (0:Int), (.slice none 0 0), .int .u64 (0:Int), .int .i64 (0:Int), .int .i64 (0:Int), .float .f64 (0:Nat), .float .f64 (0:Nat), .int .u64 (0:Int), .int .i64 (0:Int), .bool false]] R) from ?_) ?_
     ·skip
      clear hm; have hm := hq774
      refine calls_start (args := [.pointer (some ⟨b693, 0, none⟩), .pointer (some ⟨b725, 0, none⟩)]) Try.func52 rfl Try.ntmps52 (Nat.le_of_ble_eq_true rfl) ?_
      refine wp_region_St hst 7 [0, 1, 2, 3, 4, 5, 6] [0, 1, 0, 7, 15, 31, 63] [] rfl (by kernel_rfl) (by kernel_rfl) Try.mixed (by kernel_rfl) ?_
      refine wsr (.pointer (some ⟨b698, 0, none⟩)) 0 rfl rfl rfl (by kernel_rfl) (fun w hst => x_load rfl Try.isAgg61 (hst.bc2 rfl)) ?_
      refine wsr (.pointer (some ⟨b698, 0, none⟩)) 2 rfl rfl rfl (by kernel_rfl) (fun w hst => x_load rfl Try.isAgg61 (hst.bc2 rfl)) ?_
      refine ws_e1 1 (by kernel_rfl) ?_
      refine nxe [3, 4, 5, 6] (by kernel_rfl) rfl rfl ?_
      clear hst
      intro w hst
      replace hst := hst.pull1
      obtain ⟨t757, ht758, hm⟩ := bind_some hm
      refine we_call rfl (x_call Try.call40 rfl (vs := [.pointer (some ⟨b698, 0, none⟩), .int .i64 (8:Int)]) rfl) ?_
      refine (octet_Reader_Num_ref hst.to1 ht758).mono ?_
      rintro _ w759 ⟨rfl, hst⟩
      refine ⟨_, rfl, ?_⟩
      replace hst := hst.of1
      refine ws_next (pend' := [(2, .pointer (some ⟨b698, 0, none⟩))]) hst (by kernel_rfl) (pkr rfl rfl (fun w hst => x_load rfl Try.isAgg61 (hst.bc2 rfl)) pk_nil) ?_
      refine ws_e1 3 (by kernel_rfl) ?_
      refine nxe [4, 5, 6] (by kernel_rfl) rfl rfl ?_
      clear hst
      intro w hst
      obtain ⟨t762, ht763, hm⟩ := bind_some hm
      refine we_call rfl (x_call Try.call40 rfl (vs := [.pointer (some ⟨b698, 0, none⟩), .int .i64 (8:Int)]) rfl) ?_
      refine (octet_Reader_Num_ref hst.to1 ht763).mono ?_
      rintro _ w764 ⟨rfl, hst⟩
      refine ⟨_, rfl, ?_⟩
      replace hst := hst.of1
      refine ws_next (pend' := []) hst (by kernel_rfl) pk_nil ?_
      refine wsr (.agg #[.int .u64 t757.1, .int .u64 t762.1]) 4 rfl rfl rfl (by kernel_rfl) (fun w hst => by kernel_rfl) ?_
      refine wsr (.pointer (some ⟨b725, 1, none⟩)) 5 rfl rfl rfl (by kernel_rfl) (fun w hst => x_field rfl Try.underlying45 rfl Try.sizeOf29 rfl) ?_
      refine ws_e1 6 (by kernel_rfl) ?_
      refine nxe [] (by kernel_rfl) rfl rfl ?_
      clear hst
      intro w hst
      replace hst := hst.pull1
      obtain ⟨w767, hr768, hst⟩ := hst.boxStore (P := Try.prog) (t := 29) (cs' := [.int .u8 (IntKind.u8.wrap t704.1), .int .u64 t757.1, .int .u64 t762.1, .int .u64 (0:Int), .int .u64 (0:Int), .int .i64 (0:Int), .int .u64 (0:Int), .int .u64 (0:Int), .int .u64 (0:Int), (.slice none 0 0), (.slice none 0 0), (.slice none 0 0), (.slice none 0 0), (.slice none 0 0), .int .i64 (0:Int), .int .u64 (0:Int), .int .u64 (0:Int), (.slice none 0 0), (.slice none 0 0), .int .u64 (0:Int), (.slice none 0 0), .int .u64 (0:Int), .int .i64 (0:Int), .int .i64 (0:Int), .float .f64 (0:Nat), .float .f64 (0:Nat), .int .u64 (0:Int), .int .i64 (0:Int), .bool false]) 1 (.agg #[.int .u64 t757.1, .int .u64 t762.1]) Try.sizeOf29 (Nat.le_of_ble_eq_true rfl) (ones_cons rfl (ones_cons rfl ones_nil)) (by kernel_rfl)
      refine we_unit rfl (x_unit hr768) ?_
      refine ws_next (pend' := []) hst (by kernel_rfl) pk_nil ?_
      refine ws_nil ?_
      intro w hst
      refine post_end (vs := []) Try.results52 rvs_nil ?_
      replace hst := hst.pull2
      replace hst := hst.pull2
      replace hst := hst.pull3
      replace hst := hst.keep4
      obtain rfl := some_inj hm
      exact ⟨t762.2, t757.1, t762.1, rfl, rfl, hst⟩
     clear hst
     rintro _ w775 ⟨z769, z770, z771, rfl, rfl, hst⟩
     refine ⟨_, rfl, ?_⟩
     try dsimp only at hm
     refine wl_nil (then_n (wp_seq ?_))
     refine wp_region_St hst 13 [0, 1, 2, 3, 4, 5, 6, 7, 8, 9, 10, 11, 12] [0, 1, 3, 0, 11, 0, 59, 7, 255, 511, 1023, 2047, 4095] [] rfl (by kernel_rfl) (by kernel_rfl) Try.mixed (by kernel_rfl) ?_
     refine wsr (.pointer (some ⟨b698, 0, none⟩)) 0 rfl rfl rfl (by kernel_rfl) (fun w hst => x_load rfl Try.isAgg61 (hst.bc2 rfl)) ?_
     refine wsr (.pointer (some ⟨b698, 0, none⟩)) 3 rfl rfl rfl (by kernel_rfl) (fun w hst => x_load rfl Try.isAgg61 (hst.bc2 rfl)) ?_
     refine wsr (.pointer (some ⟨b698, 0, none⟩)) 5 rfl rfl rfl (by kernel_rfl) (fun w hst => x_load rfl Try.isAgg61 (hst.bc2 rfl)) ?_
     refine ws_e1 1 (by kernel_rfl) ?_
     refine nxe [2, 4, 6, 7, 8, 9, 10, 11, 12] (by kernel_rfl) rfl rfl ?_
     clear hst
     intro w hst
     replace hst := hst.pull1
     obtain ⟨t776, ht777, hm⟩ := bind_some hm
     refine we_call rfl (x_call Try.call40 rfl (vs := [.pointer (some ⟨b698, 0, none⟩), .int .i64 (1:Int)]) rfl) ?_
     refine (octet_Reader_Num_ref hst.to1 ht777).mono ?_
     rintro _ w778 ⟨rfl, hst⟩
     refine ⟨_, rfl, ?_⟩
     replace hst := hst.of1
     refine ws_next (pend' := [(5, .pointer (some ⟨b698, 0, none⟩)), (3, .pointer (some ⟨b698, 0, none⟩))]) hst (by kernel_rfl) (pkr rfl rfl (fun w hst => x_load rfl Try.isAgg61 (hst.bc2 rfl)) (pkr rfl rfl (fun w hst => x_load rfl Try.isAgg61 (hst.bc2 rfl)) pk_nil)) ?_
     refine wsr (.int .i64 (IntKind.i64.wrap t776.1)) 2 rfl rfl rfl (by kernel_rfl) (fun w hst => by kernel_rfl) ?_
     refine wsr (.pointer (some ⟨b725, 5, none⟩)) 7 rfl rfl rfl (by kernel_rfl) (fun w hst => x_field rfl Try.underlying45 rfl Try.sizeOf30 rfl) ?_
     refine ws_e1 4 (by kernel_rfl) ?_
     refine nxe [6, 8, 9, 10, 11, 12] (by kernel_rfl) rfl rfl ?_
     clear hst
     intro w hst
     obtain ⟨t781, ht782, hm⟩ := bind_some hm
     refine we_call rfl (x_call Try.call40 rfl (vs := [.pointer (some ⟨b698, 0, none⟩), .int .i64 (8:Int)]) rfl) ?_
     refine (octet_Reader_Num_ref hst.to1 ht782).mono ?_
     rintro _ w783 ⟨rfl, hst⟩
     refine ⟨_, rfl, ?_⟩
     replace hst := hst.of1
     refine ws_next (pend' := [(7, .pointer (some ⟨b725, 5, none⟩)), (2, .int .i64 (IntKind.i64.wrap t776.1)), (5, .pointer (some ⟨b698, 0, none⟩))]) hst (by kernel_rfl) (pkr rfl rfl (fun w hst => x_field rfl Try.underlying45 rfl Try.sizeOf30 rfl) (pkr rfl rfl (fun w hst => by kernel_rfl) (pkr rfl rfl (fun w hst => x_load rfl Try.isAgg61 (hst.bc2 rfl)) pk_nil))) ?_
     refine ws_e1 6 (by kernel_rfl) ?_
     refine nxe [8, 9, 10, 11, 12] (by kernel_rfl) rfl rfl ?_
     clear hst
     intro w hst
     obtain ⟨t786, ht787, hm⟩ := bind_some hm
     refine we_call rfl (x_call Try.call40 rfl (vs := [.pointer (some ⟨b698, 0, none⟩), .int .i64 (8:Int)]) rfl) ?_
     refine (octet_Reader_Num_ref hst.to1 ht787).mono ?_
     rintro _ w788 ⟨rfl, hst⟩
     refine ⟨_, rfl, ?_⟩
     replace hst := hst.of1
     refine ws_next (pend' := [(7, .pointer (some ⟨b725, 5, none⟩)), (2, .int .i64 (IntKind.i64.wrap t776.1))]) hst (by kernel_rfl) (pkr rfl rfl (fun w hst => x_field rfl Try.underlying45 rfl Try.sizeOf30 rfl) (pkr rfl rfl (fun w hst => by kernel_rfl) pk_nil)) ?_
     refine ws_e1 8 (by kernel_rfl) ?_
     refine nxe [9, 10, 11, 12] (by kernel_rfl) rfl rfl ?_
     clear hst
     intro w hst
     replace hst := hst.pull3
     obtain ⟨w791, hr792, hst⟩ := hst.boxStore (P := Try.prog) (t := 30) (cs' := [.int .u8 (IntKind.u8.wrap t704.1), .int .u64 z770, .int .u64 z771, .int .u64 (0:Int), .int .u64 (0:Int), .int .i64 (IntKind.i64.wrap t776.1), .int .u64 (0:Int), .int .u64 (0:Int), .int .u64 (0:Int), (.slice none 0 0), (.slice none 0 0), (.slice none 0 0), (.slice none 0 0), (.slice none 0 0), .int .i64 (0:Int), .int .u64 (0:Int), .int .u64 (0:Int), (.slice none 0 0), (.slice none 0 0), .int .u64 (0:Int), (.slice none 0 0), .int .u64 (0:Int), .int .i64 (0:Int), .int .i64 (0:Int), .float .f64 (0:Nat), .float .f64 (0:Nat), .int .u64 (0:Int), .int .i64 (0:Int), .bool false]) 5 (.int .i64 (IntKind.i64.wrap t776.1)) Try.sizeOf30 (Nat.le_of_ble_eq_true rfl) (ones_cons rfl ones_nil) (by kernel_rfl)
     refine we_unit rfl (x_unit hr792) ?_
     refine ws_next (pend' := []) hst (by kernel_rfl) pk_nil ?_
     refine wsr (.pointer (some ⟨b725, 3, none⟩)) 9 rfl rfl rfl (by kernel_rfl) (fun w hst => x_field rfl Try.underlying45 rfl Try.sizeOf27 rfl) ?_
     refine ws_e1 10 (by kernel_rfl) ?_
     refine nxe [11, 12] (by kernel_rfl) rfl rfl ?_
     clear hst
     intro w hst
     obtain ⟨w793, hr794, hst⟩ := hst.boxStore (P := Try.prog) (t := 27) (cs' := [.int .u8 (IntKind.u8.wrap t704.1), .int .u64 z770, .int .u64 z771, .int .u64 t781.1, .int .u64 (0:Int), .int .i64 (IntKind.i64.wrap t776.1), .int .u64 (0:Int), .int .u64 (0:Int), .int .u64 (0:Int), (.slice none 0 0), (.slice none 0 0), (.slice none 0 0), (.slice none 0 0), (.slice none 0 0), .int .i64 (0:Int), .int .u64 (0:Int), .int .u64 (0:Int), (.slice none 0 0), (.slice none 0 0), .int .u64 (0:Int), (.slice none 0 0), .int .u64 (0:Int), .int .i64 (0:Int), .int .i64 (0:Int), .float .f64 (0:Nat), .float .f64 (0:Nat), .int .u64 (0:Int), .int .i64 (0:Int), .bool false]) 3 (.int .u64 t781.1) Try.sizeOf27 (Nat.le_of_ble_eq_true rfl) (ones_cons rfl ones_nil) (by kernel_rfl)
     refine we_unit rfl (x_unit hr794) ?_
     refine ws_next (pend' := []) hst (by kernel_rfl) pk_nil ?_
     refine wsr (.pointer (some ⟨b725, 4, none⟩)) 11 rfl rfl rfl (by kernel_rfl) (fun w hst => x_field rfl Try.underlying45 rfl Try.sizeOf27 rfl) ?_
     refine ws_e1 12 (by kernel_rfl) ?_
     refine nxe [] (by kernel_rfl) rfl rfl ?_
     clear hst
     intro w hst
     obtain ⟨w795, hr796, hst⟩ := hst.boxStore (P := Try.prog) (t := 27) (cs' := [.int .u8 (IntKind.u8.wrap t704.1), .int .u64 z770, .int .u64 z771, .int .u64 t781.1, .int .u64 t786.1, .int .i64 (IntKind.i64.wrap t776.1), .int .u64 (0:Int), .int .u64 (0:Int), .int .u64 (0:Int), (.slice none 0 0), (.slice none 0 0), (.slice none 0 0), (.slice none 0 0), (.slice none 0 0), .int .i64 (0:Int), .int .u64 (0:Int), .int .u64 (0:Int), (.slice none 0 0), (.slice none 0 0), .int .u64 (0:Int), (.slice none 0 0), .int .u64 (0:Int), .int .i64 (0:Int), .int .i64 (0:Int), .float .f64 (0:Nat), .float .f64 (0:Nat), .int .u64 (0:Int), .int .i64 (0:Int), .bool false]) 4 (.int .u64 t786.1) Try.sizeOf27 (Nat.le_of_ble_eq_true rfl) (ones_cons rfl ones_nil) (by kernel_rfl)
     refine we_unit rfl (x_unit hr796) ?_
     refine ws_next (pend' := []) hst (by kernel_rfl) pk_nil ?_
     refine ws_nil ?_
     intro w hst
     refine then_n (wp_region_lit ?_)
     refine wv (.pointer (some ⟨b698, 0, none⟩)) rfl rfl (x_load rfl Try.isAgg61 (hst.bc3 rfl)) ?_
     replace hst := hst.pull1
     obtain ⟨t797, ht798, hm⟩ := bind_some hm
     refine wl_call rfl rfl (x_call Try.call54 rfl (vs := [.pointer (some ⟨b698, 0, none⟩)]) rfl) ?_
     refine (command_readWrites_ref hst.to1 ht798).mono ?_
     rintro _ w799 ⟨I800, v802, rfl, hI801, hst⟩
     refine ⟨_, rfl, ?_⟩
     replace hst := hst.of2
     replace f0_0 := f0_0.mono (ro_le hI801)
     replace f701 := f701.mono (ro_le hI801)
     replace hI0 := hI0.trans hI801
     replace hL1124 := hL1124.trans hI801
     refine wv (.pointer (some ⟨b725, 13, none⟩)) rfl rfl (x_field rfl Try.underlying45 rfl Try.sizeOf35 rfl) ?_
     replace hst := hst.pull2
     obtain ⟨w804, hr805, hst⟩ := hst.boxStore1 (P := Try.prog) (t := 35) (cs' := [.int .u8 (IntKind.u8.wrap t704.1), .int .u64 z770, .int .u64 z771, .int .u64 t781.1, .int .u64 t786.1, .int .i64 (IntKind.i64.wrap t776.1), .int .u64 (0:Int), .int .u64 (0:Int), .int .u64 (0:Int), (.slice none 0 0), (.slice none 0 0), (.slice none 0 0), (.slice none 0 0), v802, .int .i64 (0:Int), .int .u64 (0:Int), .int .u64 (0:Int), (.slice none 0 0), (.slice none 0 0), .int .u64 (0:Int), (.slice none 0 0), .int .u64 (0:Int), .int .i64 (0:Int), .int .i64 (0:Int), .float .f64 (0:Nat), .float .f64 (0:Nat), .int .u64 (0:Int), .int .i64 (0:Int), .bool false]) 13 v802 (one_of_sliceV hst.sv1) Try.sizeOf35 rfl rfl
     refine wl_unit rfl rfl (x_unit hr805) ?_
     refine wl_nil (blk_n (then_n ?_))
     replace hst := hst.own_nil tyF64
     replace hst := hst.own_nil tyF2
     replace hst := hst.own_nil tyF64
     replace hst := hst.own_nil (tyInt .u8)
     replace hst := hst.own_nil ty_api_Got
     replace hst := hst.own_nil (tySl ty_api_Pair)
     replace hst := hst.own_nil ty_api_Part
     replace hst := hst.pull1
     replace hst := hst.pull2
     replace hst := hst.pull8
     replace hst := hst.pull4
     replace hst := hst.pull5
     replace hst := hst.pull6
     replace hst := hst.pull7
     replace hst := hst.pull8
     replace hst := hst.pull9
     replace hst := hst.pull11
     replace hst := hst.pull11
     replace hst := hst.keep12
     obtain rfl := some_inj hm
     exact ⟨_, t797.2, ({ Kind := (IntKind.u8.wrap t704.1), ID := ({ Session := z770, Seq := z771 } : api_ID), Epoch := t781.1, Index := t786.1, E := (IntKind.i64.wrap t776.1), Hold := ({ ID := ({ Session := (0:Int), Seq := (0:Int) } : api_ID), Epoch := (0:Int), Gets := [], Scans := [], Puts := [], Data := [] } : api_Hold), Writes := t797.1, R := ({ E := (0:Int), Epoch := (0:Int), Index := (0:Int), Gots := [], Scans := [] } : api_Reply), Shards := (0:Int), Parts := [], Rule := ({ ID := (0:Int), From := (0:Int), To := (0:Int), Lo := (0:Nat), Hi := (0:Nat), Authority := (0:Int), Quota := (0:Int) } : api_Rule), On := false } : api_Command), (.slice none 0 0), (.slice none 0 0), (.slice none 0 0), (.slice none 0 0), v802, (.slice none 0 0), (.slice none 0 0), (.slice none 0 0), _, hx1123, ((fr_upd (t := 0) (v := r0_0) rfl).trans ((fr_upd (t := 2) (v := .pointer (some ⟨b681, 0, none⟩)) rfl).trans ((fr_upd (t := 4) (v := .pointer (some ⟨b693, 0, none⟩)) rfl).trans ((fr_upd (t := 5) (v := .pointer (some ⟨b725, 0, none⟩)) rfl).trans rfl)))), hL1124, hst⟩
    ·skip
     replace hm := bif_f hc756 hm
     refine wp_iff (congrArg Value.bool hc756) ?_
     refine wp_seq (wp_region_lit ?_)
     refine wv (.bool ((IntKind.u8.wrap t704.1) == (4:Int))) rfl rfl rfl ?_
     refine wv (.bool ((IntKind.u8.wrap t704.1) == (4:Int))) rfl rfl rfl ?_
     refine wl_nil (then_n ?_)
     refine bsplit ((IntKind.u8.wrap t704.1) == (4:Int)) (fun hc806 => ?_) (fun hc806 => ?_)
     ·skip
      replace hm := bif_t hc806 hm
      refine wp_ift (congrArg Value.bool hc806) ?_
      refine wp_seq (wp_region_lit ?_)
      refine wv (.func (.func 52) #[] #[.pointer (some ⟨b693, 0, none⟩), .pointer (some ⟨b725, 0, none⟩)]) rfl rfl rfl ?_
      obtain ⟨y823, hq824, hm⟩ := bind_some hm
      refine wl_call rfl rfl (x_callv Try.call52 (caps := [.pointer (some ⟨b693, 0, none⟩), .pointer (some ⟨b725, 0, none⟩)]) rfl (vs := []) rfl) ?_
      refine Calls.mono (show Calls Try.prog 52 #[.pointer (some ⟨b693, 0, none⟩), .pointer (some ⟨b725, 0, none⟩)] _ (fun e w' => ∃ (z819 : octet_Reader) (z820 : Int) (z821 : Int), y823 = (z819, z820, z821) ∧ e = .returned (.tuple #[]) ∧ St w0 w' I [cells b681 [.int .u8 (0:Int), .int .u64 (0:Int), .int .u64 (0:Int), .int .u64 (0:Int), .int .u64 (0:Int), .int .i64 (0:Int), .int .u64 (0:Int), .int .u64 (0:Int), .int .u64 (0:Int), (.slice none 0 0), (.slice none 0 0), (.slice none 0 0), (.slice none 0 0), (.slice none 0 0), .int .i64 (0:Int), .int .u64 (0:Int), .int .u64 (0:Int), (.slice none 0 0), (.slice none 0 0), .int .u64 (0:Int), (.slice none 0 0), .int .u64 (0:Int), .int .i64 (0:Int), .int .i64 (0:Int), .float .f64 (0:Nat), .float .f64 (0:Nat), .int .u64 (0:Int), .int .i64 (0:Int), .bool false], at_octet_Reader (.pointer (some ⟨b698, 0, none⟩)) z819, cells b693 [.pointer (some ⟨b698, 0, none⟩)], cells b725 [.int .u8 (IntKind.u8.wrap t704.1), .int .u64 z820, .int .u64 z821, .int .u64 (0:Int), .int .u64 (0:Int), .int .i64 (0:Int), .int .u64 (0:Int), .int .u64 (0:Int), .int .u64 (0:Int), (.slice none 0 0), (.slice none 0 0), (.slice none 0 0), (.slice none 0 0), (.slice none 0 0), .int .i64 (0:Int), .int .u64 (0:Int), .int .u64 (0:Int), (.slice none 0 0), (.slice none 0 0), .int .u64 (0:Int), (.slice none 0 0), .int .u64 (0:Int), .int .i64 (0:Int), .int .i64 (0:Int), .float .f64 (0:Nat), .float .f64 (0:Nat), .int .u64 (0:Int), .int .i64 (0:Int), .bool false]] R) from ?_) ?_
      ·skip
       clear hm; have hm := hq824
       refine calls_start (args := [.pointer (some ⟨b693, 0, none⟩), .pointer (some ⟨b725, 0, none⟩)]) Try.func52 rfl Try.ntmps52 (Nat.le_of_ble_eq_true rfl) ?_
       refine wp_region_St hst 7 [0, 1, 2, 3, 4, 5, 6] [0, 1, 0, 7, 15, 31, 63] [] rfl (by kernel_rfl) (by kernel_rfl) Try.mixed (by kernel_rfl) ?_
       refine wsr (.pointer (some ⟨b698, 0, none⟩)) 0 rfl rfl rfl (by kernel_rfl) (fun w hst => x_load rfl Try.isAgg61 (hst.bc2 rfl)) ?_
       refine wsr (.pointer (some ⟨b698, 0, none⟩)) 2 rfl rfl rfl (by kernel_rfl) (fun w hst => x_load rfl Try.isAgg61 (hst.bc2 rfl)) ?_
       refine ws_e1 1 (by kernel_rfl) ?_
       refine nxe [3, 4, 5, 6] (by kernel_rfl) rfl rfl ?_
       clear hst
       intro w hst
       replace hst := hst.pull1
       obtain ⟨t807, ht808, hm⟩ := bind_some hm
       refine we_call rfl (x_call Try.call40 rfl (vs := [.pointer (some ⟨b698, 0, none⟩), .int .i64 (8:Int)]) rfl) ?_
       refine (octet_Reader_Num_ref hst.to1 ht808).mono ?_
       rintro _ w809 ⟨rfl, hst⟩
       refine ⟨_, rfl, ?_⟩
       replace hst := hst.of1
       refine ws_next (pend' := [(2, .pointer (some ⟨b698, 0, none⟩))]) hst (by kernel_rfl) (pkr rfl rfl (fun w hst => x_load rfl Try.isAgg61 (hst.bc2 rfl)) pk_nil) ?_
       refine ws_e1 3 (by kernel_rfl) ?_
       refine nxe [4, 5, 6] (by kernel_rfl) rfl rfl ?_
       clear hst
       intro w hst
       obtain ⟨t812, ht813, hm⟩ := bind_some hm
       refine we_call rfl (x_call Try.call40 rfl (vs := [.pointer (some ⟨b698, 0, none⟩), .int .i64 (8:Int)]) rfl) ?_
       refine (octet_Reader_Num_ref hst.to1 ht813).mono ?_
       rintro _ w814 ⟨rfl, hst⟩
       refine ⟨_, rfl, ?_⟩
       replace hst := hst.of1
       refine ws_next (pend' := []) hst (by kernel_rfl) pk_nil ?_
       refine wsr (.agg #[.int .u64 t807.1, .int .u64 t812.1]) 4 rfl rfl rfl (by kernel_rfl) (fun w hst => by kernel_rfl) ?_
       refine wsr (.pointer (some ⟨b725, 1, none⟩)) 5 rfl rfl rfl (by kernel_rfl) (fun w hst => x_field rfl Try.underlying45 rfl Try.sizeOf29 rfl) ?_
       refine ws_e1 6 (by kernel_rfl) ?_
       refine nxe [] (by kernel_rfl) rfl rfl ?_
       clear hst
       intro w hst
       replace hst := hst.pull1
       obtain ⟨w817, hr818, hst⟩ := hst.boxStore (P := Try.prog) (t := 29) (cs' := [.int .u8 (IntKind.u8.wrap t704.1), .int .u64 t807.1, .int .u64 t812.1, .int .u64 (0:Int), .int .u64 (0:Int), .int .i64 (0:Int), .int .u64 (0:Int), .int .u64 (0:Int), .int .u64 (0:Int), (.slice none 0 0), (.slice none 0 0), (.slice none 0 0), (.slice none 0 0), (.slice none 0 0), .int .i64 (0:Int), .int .u64 (0:Int), .int .u64 (0:Int), (.slice none 0 0), (.slice none 0 0), .int .u64 (0:Int), (.slice none 0 0), .int .u64 (0:Int), .int .i64 (0:Int), .int .i64 (0:Int), .float .f64 (0:Nat), .float .f64 (0:Nat), .int .u64 (0:Int), .int .i64 (0:Int), .bool false]) 1 (.agg #[.int .u64 t807.1, .int .u64 t812.1]) Try.sizeOf29 (Nat.le_of_ble_eq_true rfl) (ones_cons rfl (ones_cons rfl ones_nil)) (by kernel_rfl)
       refine we_unit rfl (x_unit hr818) ?_
       refine ws_next (pend' := []) hst (by kernel_rfl) pk_nil ?_
       refine ws_nil ?_
       intro w hst
       refine post_end (vs := []) Try.results52 rvs_nil ?_
       replace hst := hst.pull2
       replace hst := hst.pull2
       replace hst := hst.pull3
       replace hst := hst.keep4
       obtain rfl := some_inj hm
       exact ⟨t812.2, t807.1, t812.1, rfl, rfl, hst⟩
      clear hst
      rintro _ w825 ⟨z819, z820, z821, rfl, rfl, hst⟩
      refine ⟨_, rfl, ?_⟩
      try dsimp only at hm
      refine wl_nil (then_n (wp_seq ?_))
      refine wp_region_St hst 8 [0, 1, 2, 3, 4, 5, 6, 7] [0, 1, 0, 7, 3, 31, 63, 127] [] rfl (by kernel_rfl) (by kernel_rfl) Try.mixed (by kernel_rfl) ?_
      refine wsr (.pointer (some ⟨b698, 0, none⟩)) 0 rfl rfl rfl (by kernel_rfl) (fun w hst => x_load rfl Try.isAgg61 (hst.bc2 rfl)) ?_
      refine wsr (.pointer (some ⟨b698, 0, none⟩)) 2 rfl rfl rfl (by kernel_rfl) (fun w hst => x_load rfl Try.isAgg61 (hst.bc2 rfl)) ?_
      refine ws_e1 1 (by kernel_rfl) ?_
      refine nxe [3, 4, 5, 6, 7] (by kernel_rfl) rfl rfl ?_
      clear hst
      intro w hst
      replace hst := hst.pull1
      obtain ⟨t826, ht827, hm⟩ := bind_some hm
      refine we_call rfl (x_call Try.call40 rfl (vs := [.pointer (some ⟨b698, 0, none⟩), .int .i64 (8:Int)]) rfl) ?_
      refine (octet_Reader_Num_ref hst.to1 ht827).mono ?_
      rintro _ w828 ⟨rfl, hst⟩
      refine ⟨_, rfl, ?_⟩
      replace hst := hst.of1
      refine ws_next (pend' := [(2, .pointer (some ⟨b698, 0, none⟩))]) hst (by kernel_rfl) (pkr rfl rfl (fun w hst => x_load rfl Try.isAgg61 (hst.bc2 rfl)) pk_nil) ?_
      refine wsr (.pointer (some ⟨b725, 3, none⟩)) 4 rfl rfl rfl (by kernel_rfl) (fun w hst => x_field rfl Try.underlying45 rfl Try.sizeOf27 rfl) ?_
      refine ws_e1 3 (by kernel_rfl) ?_
      refine nxe [5, 6, 7] (by kernel_rfl) rfl rfl ?_
      clear hst
      intro w hst
      obtain ⟨t831, ht832, hm⟩ := bind_some hm
      refine we_call rfl (x_call Try.call40 rfl (vs := [.pointer (some ⟨b698, 0, none⟩), .int .i64 (2:Int)]) rfl) ?_
      refine (octet_Reader_Num_ref hst.to1 ht832).mono ?_
      rintro _ w833 ⟨rfl, hst⟩
      refine ⟨_, rfl, ?_⟩
      replace hst := hst.of1
      refine ws_next (pend' := [(4, .pointer (some ⟨b725, 3, none⟩))]) hst (by kernel_rfl) (pkr rfl rfl (fun w hst => x_field rfl Try.underlying45 rfl Try.sizeOf27 rfl) pk_nil) ?_
      refine ws_e1 5 (by kernel_rfl) ?_
      refine nxe [6, 7] (by kernel_rfl) rfl rfl ?_
      clear hst
      intro w hst
      replace hst := hst.pull3
      obtain ⟨w836, hr837, hst⟩ := hst.boxStore (P := Try.prog) (t := 27) (cs' := [.int .u8 (IntKind.u8.wrap t704.1), .int .u64 z820, .int .u64 z821, .int .u64 t826.1, .int .u64 (0:Int), .int .i64 (0:Int), .int .u64 (0:Int), .int .u64 (0:Int), .int .u64 (0:Int), (.slice none 0 0), (.slice none 0 0), (.slice none 0 0), (.slice none 0 0), (.slice none 0 0), .int .i64 (0:Int), .int .u64 (0:Int), .int .u64 (0:Int), (.slice none 0 0), (.slice none 0 0), .int .u64 (0:Int), (.slice none 0 0), .int .u64 (0:Int), .int .i64 (0:Int), .int .i64 (0:Int), .float .f64 (0:Nat), .float .f64 (0:Nat), .int .u64 (0:Int), .int .i64 (0:Int), .bool false]) 3 (.int .u64 t826.1) Try.sizeOf27 (Nat.le_of_ble_eq_true rfl) (ones_cons rfl ones_nil) (by kernel_rfl)
      refine we_unit rfl (x_unit hr837) ?_
      refine ws_next (pend' := []) hst (by kernel_rfl) pk_nil ?_
      refine wsr (.pointer (some ⟨b725, 19, none⟩)) 6 rfl rfl rfl (by kernel_rfl) (fun w hst => x_field rfl Try.underlying45 rfl Try.sizeOf27 rfl) ?_
      refine ws_e1 7 (by kernel_rfl) ?_
      refine nxe [] (by kernel_rfl) rfl rfl ?_
      clear hst
      intro w hst
      obtain ⟨w838, hr839, hst⟩ := hst.boxStore (P := Try.prog) (t := 27) (cs' := [.int .u8 (IntKind.u8.wrap t704.1), .int .u64 z820, .int .u64 z821, .int .u64 t826.1, .int .u64 (0:Int), .int .i64 (0:Int), .int .u64 (0:Int), .int .u64 (0:Int), .int .u64 (0:Int), (.slice none 0 0), (.slice none 0 0), (.slice none 0 0), (.slice none 0 0), (.slice none 0 0), .int .i64 (0:Int), .int .u64 (0:Int), .int .u64 (0:Int), (.slice none 0 0), (.slice none 0 0), .int .u64 t831.1, (.slice none 0 0), .int .u64 (0:Int), .int .i64 (0:Int), .int .i64 (0:Int), .float .f64 (0:Nat), .float .f64 (0:Nat), .int .u64 (0:Int), .int .i64 (0:Int), .bool false]) 19 (.int .u64 t831.1) Try.sizeOf27 (Nat.le_of_ble_eq_true rfl) (ones_cons rfl ones_nil) (by kernel_rfl)
      refine we_unit rfl (x_unit hr839) ?_
      refine ws_next (pend' := []) hst (by kernel_rfl) pk_nil ?_
      refine ws_nil ?_
      intro w hst
      refine then_n ?_
      obtain ⟨y987, hm, hx988⟩ := bind_some hm
      refine wp_cut (fun a w => ∃ (I984 : HL) (z980 : octet_Reader) (z983 : (List api_Part)) (v982 : Value) (σ985 : Nat → Value), (command_Decode_j1 t704 z820 z821 t826 t831) (z980, z983) = some y1122 ∧ a = Fr 113 (upd (upd (upd (upd σ985 0 (r0_0)) 2 (.pointer (some ⟨b681, 0, none⟩))) 4 (.pointer (some ⟨b693, 0, none⟩))) 5 (.pointer (some ⟨b725, 0, none⟩))) ∧ I.le I984 ∧ St w0 w I984 [cells b681 [.int .u8 (0:Int), .int .u64 (0:Int), .int .u64 (0:Int), .int .u64 (0:Int), .int .u64 (0:Int), .int .i64 (0:Int), .int .u64 (0:Int), .int .u64 (0:Int), .int .u64 (0:Int), (.slice none 0 0), (.slice none 0 0), (.slice none 0 0), (.slice none 0 0), (.slice none 0 0), .int .i64 (0:Int), .int .u64 (0:Int), .int .u64 (0:Int), (.slice none 0 0), (.slice none 0 0), .int .u64 (0:Int), (.slice none 0 0), .int .u64 (0:Int), .int .i64 (0:Int), .int .i64 (0:Int), .float .f64 (0:Nat), .float .f64 (0:Nat), .int .u64 (0:Int), .int .i64 (0:Int), .bool false], cells b693 [.pointer (some ⟨b698, 0, none⟩)], at_octet_Reader (.pointer (some ⟨b698, 0, none⟩)) z980, cells b725 [.int .u8 (IntKind.u8.wrap t704.1), .int .u64 z820, .int .u64 z821, .int .u64 t826.1, .int .u64 (0:Int), .int .i64 (0:Int), .int .u64 (0:Int), .int .u64 (0:Int), .int .u64 (0:Int), (.slice none 0 0), (.slice none 0 0), (.slice none 0 0), (.slice none 0 0), (.slice none 0 0), .int .i64 (0:Int), .int .u64 (0:Int), .int .u64 (0:Int), (.slice none 0 0), (.slice none 0 0), .int .u64 t831.1, v982, .int .u64 (0:Int), .int .i64 (0:Int), .int .i64 (0:Int), .float .f64 (0:Nat), .float .f64 (0:Nat), .int .u64 (0:Int), .int .i64 (0:Int), .bool false], ownS ty_api_Part v982 z983] R) ?_ ?_
      ·skip
       have hL989 := HL.le.refl I
       refine wp_seq (wp_region_lit ?_)
       refine wv (.pointer (some ⟨b698, 0, none⟩)) rfl rfl (x_load rfl Try.isAgg61 (hst.bc3 rfl)) ?_
       replace hst := hst.pull1
       obtain ⟨t840, ht841, hm⟩ := bind_some hm
       refine wl_call rfl rfl (x_call Try.call41 rfl (vs := [.pointer (some ⟨b698, 0, none⟩), .int .i64 (8:Int)]) rfl) ?_
       refine (octet_Reader_Count_ref hst.to1 ht841).mono ?_
       rintro _ w842 ⟨rfl, hst⟩
       refine ⟨_, rfl, ?_⟩
       replace hst := hst.of1
       refine wv (.int .i64 (0:Int)) rfl rfl rfl ?_
       refine wl_nil (then_n (wp_block ?_))
       replace hst := hst.own_nil ty_api_Part
       obtain ⟨n944, hm⟩ := loopO_some hm
       refine wp_loop_n (fun n a w => ∃ (I942 : HL) (z937 : (List api_Part)) (z940 : octet_Reader) (z941 : Int) (v938 : Value) (σ943 : Nat → Value), loopN (command_Decode_l2 t840) n (z937, z940, z941) = some y987 ∧ a = Fr 113 (upd (upd (upd (upd (upd (upd σ943 0 (r0_0)) 2 (.pointer (some ⟨b681, 0, none⟩))) 4 (.pointer (some ⟨b693, 0, none⟩))) 5 (.pointer (some ⟨b725, 0, none⟩))) 55 (.int .i64 t840.1)) 56 (.int .i64 z941)) ∧ I.le I942 ∧ St w0 w I942 [ownS ty_api_Part v938 z937, at_octet_Reader (.pointer (some ⟨b698, 0, none⟩)) z940, cells b725 [.int .u8 (IntKind.u8.wrap t704.1), .int .u64 z820, .int .u64 z821, .int .u64 t826.1, .int .u64 (0:Int), .int .i64 (0:Int), .int .u64 (0:Int), .int .u64 (0:Int), .int .u64 (0:Int), (.slice none 0 0), (.slice none 0 0), (.slice none 0 0), (.slice none 0 0), (.slice none 0 0), .int .i64 (0:Int), .int .u64 (0:Int), .int .u64 (0:Int), (.slice none 0 0), (.slice none 0 0), .int .u64 t831.1, v938, .int .u64 (0:Int), .int .i64 (0:Int), .int .i64 (0:Int), .float .f64 (0:Nat), .float .f64 (0:Nat), .int .u64 (0:Int), .int .i64 (0:Int), .bool false], cells b681 [.int .u8 (0:Int), .int .u64 (0:Int), .int .u64 (0:Int), .int .u64 (0:Int), .int .u64 (0:Int), .int .i64 (0:Int), .int .u64 (0:Int), .int .u64 (0:Int), .int .u64 (0:Int), (.slice none 0 0), (.slice none 0 0), (.slice none 0 0), (.slice none 0 0), (.slice none 0 0), .int .i64 (0:Int), .int .u64 (0:Int), .int .u64 (0:Int), (.slice none 0 0), (.slice none 0 0), .int .u64 (0:Int), (.slice none 0 0), .int .u64 (0:Int), .int .i64 (0:Int), .int .i64 (0:Int), .float .f64 (0:Nat), .float .f64 (0:Nat), .int .u64 (0:Int), .int .i64 (0:Int), .bool false], cells b693 [.pointer (some ⟨b698, 0, none⟩)]] R) n944 ⟨_, [], t840.2, (0:Int), (.slice none 0 0), _, hm, ((fr_upd (t := 0) (v := r0_0) rfl).trans ((fr_upd (t := 2) (v := .pointer (some ⟨b681, 0, none⟩)) rfl).trans ((fr_upd (t := 4) (v := .pointer (some ⟨b693, 0, none⟩)) rfl).trans ((fr_upd (t := 5) (v := .pointer (some ⟨b725, 0, none⟩)) rfl).trans ((fr_upd (t := 55) (v := .int .i64 t840.1) rfl).trans ((fr_upd (t := 56) (v := .int .i64 (0:Int)) rfl).trans rfl)))))), (HL.le.refl _), hst⟩ ?_
       rintro n950 _ w945 ⟨I942, z937, z940, z941, v938, σ943, hm, rfl, hL946, hst⟩
       obtain ⟨n947, y948, rfl, hm, hx949⟩ := loopN_some hm
       dsimp only [command_Decode_l2] at hm
       replace f0_0 := f0_0.mono (ro_le hL946)
       replace f701 := f701.mono (ro_le hL946)
       replace hI0 := hI0.trans hL946
       replace hL1124 := hL1124.trans hL946
       replace hL989 := hL989.trans hL946
       refine wp_seq (wp_region_lit ?_)
       refine wv (.bool (decide (z941 < t840.1))) rfl rfl rfl ?_
       refine wl_nil (then_n (wp_seq ?_))
       refine bsplit (decide (z941 < t840.1)) (fun hc951 => ?_) (fun hc951 => ?_)
       ·skip
        replace hm := bif_t hc951 hm
        refine wp_ift (congrArg Value.bool hc951) ?_
        refine wp_skip (then_n (wp_seq (wp_block ?_)))
        refine wp_region_St hst 12 [0, 1, 2, 3, 4, 5, 6, 7, 8, 9, 10, 11] [0, 1, 0, 4, 12, 0, 44, 124, 252, 511, 1023, 2047] [] rfl (by kernel_rfl) (by kernel_rfl) Try.mixed (by kernel_rfl) ?_
        refine wsr (.pointer (some ⟨b725, 20, none⟩)) 0 rfl rfl rfl (by kernel_rfl) (fun w hst => x_field rfl Try.underlying45 rfl Try.sizeOf40 rfl) ?_
        refine wsr (v938) 1 rfl rfl rfl (by kernel_rfl) (fun w hst => x_load rfl Try.isAgg40 (hst.bc2 rfl)) ?_
        refine wsr (.pointer (some ⟨b698, 0, none⟩)) 2 rfl rfl rfl (by kernel_rfl) (fun w hst => x_load rfl Try.isAgg61 (hst.bc4 rfl)) ?_
        refine wsr (.pointer (some ⟨b698, 0, none⟩)) 5 rfl rfl rfl (by kernel_rfl) (fun w hst => x_load rfl Try.isAgg61 (hst.bc4 rfl)) ?_
        refine ws_e1 3 (by kernel_rfl) ?_
        refine nxe [4, 6, 7, 8, 9, 10, 11] (by kernel_rfl) rfl rfl ?_
        clear hst
        intro w hst
        replace hst := hst.pull1
        obtain ⟨t952, ht953, hm⟩ := bind_some hm
        refine we_call rfl (x_call Try.call40 rfl (vs := [.pointer (some ⟨b698, 0, none⟩), .int .i64 (1:Int)]) rfl) ?_
        refine (octet_Reader_Num_ref hst.to1 ht953).mono ?_
        rintro _ w954 ⟨rfl, hst⟩
        refine ⟨_, rfl, ?_⟩
        replace hst := hst.of1
        refine ws_next (pend' := [(5, .pointer (some ⟨b698, 0, none⟩)), (1, v938), (0, .pointer (some ⟨b725, 20, none⟩))]) hst (by kernel_rfl) (pkr rfl rfl (fun w hst => x_load rfl Try.isAgg61 (hst.bc4 rfl)) (pkr rfl rfl (fun w hst => x_load rfl Try.isAgg40 (hst.bc2 rfl)) (pkr rfl rfl (fun w hst => x_field rfl Try.underlying45 rfl Try.sizeOf40 rfl) pk_nil))) ?_
        refine wsr (.int .i64 (IntKind.i64.wrap t952.1)) 4 rfl rfl rfl (by kernel_rfl) (fun w hst => by kernel_rfl) ?_
        refine ws_e1 6 (by kernel_rfl) ?_
        refine nxe [7, 8, 9, 10, 11] (by kernel_rfl) rfl rfl ?_
        clear hst
        intro w hst
        obtain ⟨t957, ht958, hm⟩ := bind_some hm
        refine we_call rfl (x_call Try.call54 rfl (vs := [.pointer (some ⟨b698, 0, none⟩)]) rfl) ?_
        refine (command_readWrites_ref hst.to1 ht958).mono ?_
        rintro _ w959 ⟨I960, v962, rfl, hI961, hst⟩
        refine ⟨_, rfl, ?_⟩
        replace hst := hst.of2
        replace f0_0 := f0_0.mono (ro_le hI961)
        replace f701 := f701.mono (ro_le hI961)
        replace hI0 := hI0.trans hI961
        replace hL1124 := hL1124.trans hI961
        replace hL989 := hL989.trans hI961
        replace hL946 := hL946.trans hI961
        refine ws_next (pend' := [(4, .int .i64 (IntKind.i64.wrap t952.1)), (1, v938), (0, .pointer (some ⟨b725, 20, none⟩))]) hst (by kernel_rfl) (pkr rfl rfl (fun w hst => by kernel_rfl) (pkr rfl rfl (fun w hst => x_load rfl Try.isAgg40 (hst.bc3 rfl)) (pkr rfl rfl (fun w hst => x_field rfl Try.underlying45 rfl Try.sizeOf40 rfl) pk_nil))) ?_
        refine wsr (.agg #[.int .i64 (IntKind.i64.wrap t952.1), v962]) 7 rfl rfl rfl (by kernel_rfl) (fun w hst => by obtain ⟨_, _, hv_, _⟩ := hst.sv0; rw [hv_]; kernel_rfl) ?_
        refine ws_e1 8 (by kernel_rfl) ?_
        refine nxe [9, 10, 11] (by kernel_rfl) rfl rfl ?_
        clear hst
        intro w hst
        obtain ⟨I966, hI967, f968, hst⟩ := hst.own_fix
        replace f0_0 := f0_0.mono (ro_le hI967)
        replace f701 := f701.mono (ro_le hI967)
        replace hI0 := hI0.trans hI967
        replace hL1124 := hL1124.trans hI967
        replace hL989 := hL989.trans hI967
        replace hL946 := hL946.trans hI967
        obtain ⟨b969, w970, ew971, eb972, hst⟩ := hst.lits (E := ty_api_Part) (xs := [({ Shard := (IntKind.i64.wrap t952.1), Writes := t957.1 } : api_Part)]) [[.int .i64 (IntKind.i64.wrap t952.1), v962]] 81 1 rfl (Reps.cons ⟨_, rfl, f968, one_of_sliceV (ro_sliceV f968)⟩ Reps.nil)
        refine we_run (v := (.slice (some ⟨b969, 0, none⟩) 1 1)) (w' := w970) rfl (x_als (by kernel_rfl) ew971 eb972) ?_
        refine ws_next (pend' := [(1, v938), (0, .pointer (some ⟨b725, 20, none⟩))]) hst (by kernel_rfl) (pkr rfl rfl (fun w hst => x_load rfl Try.isAgg40 (hst.bc3 rfl)) (pkr rfl rfl (fun w hst => x_field rfl Try.underlying45 rfl Try.sizeOf40 rfl) pk_nil)) ?_
        refine ws_e1 9 (by kernel_rfl) ?_
        refine nxe [10, 11] (by kernel_rfl) rfl rfl ?_
        clear hst
        intro w hst
        obtain ⟨hg974, hm⟩ := gd_some hm
        replace hst := hst.pull2
        obtain ⟨v975, w976, hr977, hst⟩ := run_append elem_40 Try.underlying40 hst hst.src1 (room_of hg974 rfl) 40
        refine we_run (v := v975) (w' := w976) rfl (x_append rfl rfl hr977) ?_
        refine ws_next (pend' := []) hst (by kernel_rfl) pk_nil ?_
        refine wsr (.pointer (some ⟨b725, 20, none⟩)) 10 rfl rfl rfl (by kernel_rfl) (fun w hst => x_field rfl Try.underlying45 rfl Try.sizeOf40 rfl) ?_
        refine ws_e1 11 (by kernel_rfl) ?_
        refine nxe [] (by kernel_rfl) rfl rfl ?_
        clear hst
        intro w hst
        replace hst := hst.pull3
        obtain ⟨w978, hr979, hst⟩ := hst.boxStore1 (P := Try.prog) (t := 40) (cs' := [.int .u8 (IntKind.u8.wrap t704.1), .int .u64 z820, .int .u64 z821, .int .u64 t826.1, .int .u64 (0:Int), .int .i64 (0:Int), .int .u64 (0:Int), .int .u64 (0:Int), .int .u64 (0:Int), (.slice none 0 0), (.slice none 0 0), (.slice none 0 0), (.slice none 0 0), (.slice none 0 0), .int .i64 (0:Int), .int .u64 (0:Int), .int .u64 (0:Int), (.slice none 0 0), (.slice none 0 0), .int .u64 t831.1, v975, .int .u64 (0:Int), .int .i64 (0:Int), .int .i64 (0:Int), .float .f64 (0:Nat), .float .f64 (0:Nat), .int .u64 (0:Int), .int .i64 (0:Int), .bool false]) 20 v975 (one_of_sliceV hst.sv1) Try.sizeOf40 rfl rfl
        refine we_unit rfl (x_unit hr979) ?_
        refine ws_next (pend' := []) hst (by kernel_rfl) pk_nil ?_
        refine ws_nil ?_
        intro w hst
        refine blk_n (then_n (wp_region_lit ?_))
        refine wv (.int .i64 (IntKind.i64.wrap (z941 + (1:Int)))) rfl rfl rfl ?_
        refine wv (.int .i64 (IntKind.i64.wrap (z941 + (1:Int)))) rfl rfl rfl ?_
        refine wl_nil (then_n ?_)
        replace hst := hst.pull5
        replace hst := hst.pull5
        replace hst := hst.pull2
        replace hst := hst.pull5
        replace hst := hst.pull4
        replace hst := hst.keep5
        obtain rfl := some_inj hm
        exact ⟨_, Nat.lt_succ_self _, _, (z937 ++ ([({ Shard := (IntKind.i64.wrap t952.1), Writes := t957.1 } : api_Part)])), t957.2, (IntKind.i64.wrap (z941 + (1:Int))), v975, _, hx949, ((fr_upd (t := 0) (v := r0_0) rfl).trans ((fr_upd (t := 2) (v := .pointer (some ⟨b681, 0, none⟩)) rfl).trans ((fr_upd (t := 4) (v := .pointer (some ⟨b693, 0, none⟩)) rfl).trans ((fr_upd (t := 5) (v := .pointer (some ⟨b725, 0, none⟩)) rfl).trans ((fr_upd (t := 55) (v := .int .i64 t840.1) rfl).trans ((fr_upd (t := 56) (v := .int .i64 (IntKind.i64.wrap (z941 + (1:Int)))) rfl).trans rfl)))))), hL946, hst⟩
       ·skip
        replace hm := bif_f hc951 hm
        refine wp_iff (congrArg Value.bool hc951) ?_
        refine wp_exit (then_x (then_x ?_))
        replace hm := inr_up hm hx949
        refine blk_x (then_n ?_)
        replace hst := hst.pull2
        replace hst := hst.pull2
        replace hst := hst.pull4
        replace hst := hst.pull4
        replace hst := hst.keep5
        obtain rfl := some_inj hm
        exact ⟨_, z940, z937, v938, _, hx988, ((fr_upd (t := 0) (v := r0_0) rfl).trans ((fr_upd (t := 2) (v := .pointer (some ⟨b681, 0, none⟩)) rfl).trans ((fr_upd (t := 4) (v := .pointer (some ⟨b693, 0, none⟩)) rfl).trans ((fr_upd (t := 5) (v := .pointer (some ⟨b725, 0, none⟩)) rfl).trans rfl)))), hL989, hst⟩
      ·skip
       clear hst
       rintro _ w990 ⟨I984, z980, z983, v982, σ985, hm, rfl, hL986, hst⟩
       dsimp only [command_Decode_j1] at hm
       replace f0_0 := f0_0.mono (ro_le hL986)
       replace f701 := f701.mono (ro_le hL986)
       replace hI0 := hI0.trans hL986
       replace hL1124 := hL1124.trans hL986
       refine wp_region_lit ?_
       refine wv (.pointer (some ⟨b698, 0, none⟩)) rfl rfl (x_load rfl Try.isAgg61 (hst.bc1 rfl)) ?_
       replace hst := hst.pull2
       obtain ⟨t991, ht992, hm⟩ := bind_some hm
       refine wl_call rfl rfl (x_call Try.call16 rfl (vs := [.pointer (some ⟨b698, 0, none⟩)]) rfl) ?_
       refine (command_ReadReply_ref hst.to1 ht992).mono ?_
       rintro _ w993 ⟨I994, v996, v998, rfl, hI995, hst⟩
       refine ⟨_, rfl, ?_⟩
       replace hst := hst.of3
       replace f0_0 := f0_0.mono (ro_le hI995)
       replace f701 := f701.mono (ro_le hI995)
       replace hI0 := hI0.trans hI995
       replace hL1124 := hL1124.trans hI995
       refine wv (.pointer (some ⟨b725, 14, none⟩)) rfl rfl (x_field rfl Try.underlying45 rfl Try.sizeOf39 rfl) ?_
       replace hst := hst.pull5
       obtain ⟨w1000, hr1001, hst⟩ := hst.boxStore (P := Try.prog) (t := 39) (cs' := [.int .u8 (IntKind.u8.wrap t704.1), .int .u64 z820, .int .u64 z821, .int .u64 t826.1, .int .u64 (0:Int), .int .i64 (0:Int), .int .u64 (0:Int), .int .u64 (0:Int), .int .u64 (0:Int), (.slice none 0 0), (.slice none 0 0), (.slice none 0 0), (.slice none 0 0), (.slice none 0 0), .int .i64 t991.1.E, .int .u64 t991.1.Epoch, .int .u64 t991.1.Index, v996, v998, .int .u64 t831.1, v982, .int .u64 (0:Int), .int .i64 (0:Int), .int .i64 (0:Int), .float .f64 (0:Nat), .float .f64 (0:Nat), .int .u64 (0:Int), .int .i64 (0:Int), .bool false]) 14 (.agg #[.int .i64 t991.1.E, .int .u64 t991.1.Epoch, .int .u64 t991.1.Index, v996, v998]) Try.sizeOf39 (Nat.le_of_ble_eq_true rfl) (ones_cons rfl (ones_cons rfl (ones_cons rfl (ones_cons (one_of_sliceV hst.sv1) (ones_cons (one_of_sliceV hst.sv2) ones_nil))))) (by kernel_rfl)
       refine wl_unit rfl rfl (x_unit hr1001) ?_
       refine wl_nil (blk_n (then_n ?_))
       replace hst := hst.own_nil tyF64
       replace hst := hst.own_nil tyF2
       replace hst := hst.own_nil tyF64
       replace hst := hst.own_nil (tyInt .u8)
       replace hst := hst.own_nil ty_api_Write
       replace hst := hst.pull11
       replace hst := hst.pull8
       replace hst := hst.pull8
       replace hst := hst.pull3
       replace hst := hst.pull4
       replace hst := hst.pull5
       replace hst := hst.pull6
       replace hst := hst.pull7
       replace hst := hst.pull8
       replace hst := hst.pull9
       replace hst := hst.pull11
       replace hst := hst.pull11
       replace hst := hst.keep12
       obtain rfl := some_inj hm
       exact ⟨_, t991.2, ({ Kind := (IntKind.u8.wrap t704.1), ID := ({ Session := z820, Seq := z821 } : api_ID), Epoch := t826.1, Index := (0:Int), E := (0:Int), Hold := ({ ID := ({ Session := (0:Int), Seq := (0:Int) } : api_ID), Epoch := (0:Int), Gets := [], Scans := [], Puts := [], Data := [] } : api_Hold), Writes := [], R := t991.1, Shards := t831.1, Parts := z983, Rule := ({ ID := (0:Int), From := (0:Int), To := (0:Int), Lo := (0:Nat), Hi := (0:Nat), Authority := (0:Int), Quota := (0:Int) } : api_Rule), On := false } : api_Command), (.slice none 0 0), (.slice none 0 0), (.slice none 0 0), (.slice none 0 0), (.slice none 0 0), v996, v998, v982, _, hx1123, ((fr_upd (t := 0) (v := r0_0) rfl).trans ((fr_upd (t := 2) (v := .pointer (some ⟨b681, 0, none⟩)) rfl).trans ((fr_upd (t := 4) (v := .pointer (some ⟨b693, 0, none⟩)) rfl).trans ((fr_upd (t := 5) (v := .pointer (some ⟨b725, 0, none⟩)) rfl).trans rfl)))), hL1124, hst⟩
     ·skip
      replace hm := bif_f hc806 hm
      refine wp_iff (congrArg Value.bool hc806) ?_
      refine wp_seq (wp_region_lit ?_)
      refine wv (.bool ((IntKind.u8.wrap t704.1) == (5:Int))) rfl rfl rfl ?_
      refine wv (.bool ((IntKind.u8.wrap t704.1) == (5:Int))) rfl rfl rfl ?_
      refine wl_nil (then_n ?_)
      refine bsplit ((IntKind.u8.wrap t704.1) == (5:Int)) (fun hc1002 => ?_) (fun hc1002 => ?_)
      ·skip
       replace hm := bif_t hc1002 hm
       refine wp_ift (congrArg Value.bool hc1002) ?_
       refine wp_region_lit ?_
       refine wv (.func (.func 52) #[] #[.pointer (some ⟨b693, 0, none⟩), .pointer (some ⟨b725, 0, none⟩)]) rfl rfl rfl ?_
       obtain ⟨y1019, hq1020, hm⟩ := bind_some hm
       refine wl_call rfl rfl (x_callv Try.call52 (caps := [.pointer (some ⟨b693, 0, none⟩), .pointer (some ⟨b725, 0, none⟩)]) rfl (vs := []) rfl) ?_
       refine Calls.mono (show Calls Try.prog 52 #[.pointer (some ⟨b693, 0, none⟩), .pointer (some ⟨b725, 0, none⟩)] _ (fun e w' => ∃ (z1015 : octet_Reader) (z1016 : Int) (z1017 : Int), y1019 = (z1015, z1016, z1017) ∧ e = .returned (.tuple #[]) ∧ St w0 w' I [cells b681 [.int .u8 (0:Int), .int .u64 (0:Int), .int .u64 (0:Int), .int .u64 (0:Int), .int .u64 (0:Int), .int .i64 (0:Int), .int .u64 (0:Int), .int .u64 (0:Int), .int .u64 (0:Int), (.slice none 0 0), (.slice none 0 0), (.slice none 0 0), (.slice none 0 0), (.slice none 0 0), .int .i64 (0:Int), .int .u64 (0:Int), .int .u64 (0:Int), (.slice none 0 0), (.slice none 0 0), .int .u64 (0:Int), (.slice none 0 0), .int .u64 (0:Int), .int .i64 (0:Int), .int .i64 (0:Int), .float .f64 (0:Nat), .float .f64 (0:Nat), .int .u64 (0:Int), .int .i64 (0:Int), .bool false], at_octet_Reader (.pointer (some ⟨b698, 0, none⟩)) z1015, cells b693 [.pointer (some ⟨b698, 0, none⟩)], cells b725 [.int .u8 (IntKind.u8.wrap t704.1), .int .u64 z1016, .int .u64 z1017, .int .u64 (0:Int), .int .u64 (0:Int), .int .i64 (0:Int), .int .u64 (0:Int), .int .u64 (0:Int), .int .u64 (0:Int), (.slice none 0 0), (.slice none 0 0), (.slice none 0 0), (.slice none 0 0), (.slice none 0 0), .int .i64 (0:Int), .int .u64 (0:Int), .int .u64 (0:Int), (.slice none 0 0), (.slice none 0 0), .int .u64 (0:Int), (.slice none 0 0), .int .u64 (0:Int), .int .i64 (0:Int), .int .i64 (0:Int), .float .f64 (0:Nat), .float .f64 (0:Nat), .int .u64 (0:Int), .int .i64 (0:Int), .bool false]] R) from ?_) ?_
       ·skip
        clear hm; have hm := hq1020
        refine calls_start (args := [.pointer (some ⟨b693, 0, none⟩), .pointer (some ⟨b725, 0, none⟩)]) Try.func52 rfl Try.ntmps52 (Nat.le_of_ble_eq_true rfl) ?_
        refine wp_region_St hst 7 [0, 1, 2, 3, 4, 5, 6] [0, 1, 0, 7, 15, 31, 63] [] rfl (by kernel_rfl) (by kernel_rfl) Try.mixed (by kernel_rfl) ?_
        refine wsr (.pointer (some ⟨b698, 0, none⟩)) 0 rfl rfl rfl (by kernel_rfl) (fun w hst => x_load rfl Try.isAgg61 (hst.bc2 rfl)) ?_
        refine wsr (.pointer (some ⟨b698, 0, none⟩)) 2 rfl rfl rfl (by kernel_rfl) (fun w hst => x_load rfl Try.isAgg61 (hst.bc2 rfl)) ?_
        refine ws_e1 1 (by kernel_rfl) ?_
        refine nxe [3, 4, 5, 6] (by kernel_rfl) rfl rfl ?_
        clear hst
        intro w hst
        replace hst := hst.pull1
        obtain ⟨t1003, ht1004, hm⟩ := bind_some hm
        refine we_call rfl (x_call Try.call40 rfl (vs := [.pointer (some ⟨b698, 0, none⟩), .int .i64 (8:Int)]) rfl) ?_
        refine (octet_Reader_Num_ref hst.to1 ht1004).mono ?_
        rintro _ w1005 ⟨rfl, hst⟩
        refine ⟨_, rfl, ?_⟩
        replace hst := hst.of1
        refine ws_next (pend' := [(2, .pointer (some ⟨b698, 0, none⟩))]) hst (by kernel_rfl) (pkr rfl rfl (fun w hst => x_load rfl Try.isAgg61 (hst.bc2 rfl)) pk_nil) ?_
        refine ws_e1 3 (by kernel_rfl) ?_
        refine nxe [4, 5, 6] (by kernel_rfl) rfl rfl ?_
        clear hst
        intro w hst
        obtain ⟨t1008, ht1009, hm⟩ := bind_some hm
        refine we_call rfl (x_call Try.call40 rfl (vs := [.pointer (some ⟨b698, 0, none⟩), .int .i64 (8:Int)]) rfl) ?_
        refine (octet_Reader_Num_ref hst.to1 ht1009).mono ?_
        rintro _ w1010 ⟨rfl, hst⟩
        refine ⟨_, rfl, ?_⟩
        replace hst := hst.of1
        refine ws_next (pend' := []) hst (by kernel_rfl) pk_nil ?_
        refine wsr (.agg #[.int .u64 t1003.1, .int .u64 t1008.1]) 4 rfl rfl rfl (by kernel_rfl) (fun w hst => by kernel_rfl) ?_
        refine wsr (.pointer (some ⟨b725, 1, none⟩)) 5 rfl rfl rfl (by kernel_rfl) (fun w hst => x_field rfl Try.underlying45 rfl Try.sizeOf29 rfl) ?_
        refine ws_e1 6 (by kernel_rfl) ?_
        refine nxe [] (by kernel_rfl) rfl rfl ?_
        clear hst
        intro w hst
        replace hst := hst.pull1
        obtain ⟨w1013, hr1014, hst⟩ := hst.boxStore (P := Try.prog) (t := 29) (cs' := [.int .u8 (IntKind.u8.wrap t704.1), .int .u64 t1003.1, .int .u64 t1008.1, .int .u64 (0:Int), .int .u64 (0:Int), .int .i64 (0:Int), .int .u64 (0:Int), .int .u64 (0:Int), .int .u64 (0:Int), (.slice none 0 0), (.slice none 0 0), (.slice none 0 0), (.slice none 0 0), (.slice none 0 0), .int .i64 (0:Int), .int .u64 (0:Int), .int .u64 (0:Int), (.slice none 0 0), (.slice none 0 0), .int .u64 (0:Int), (.slice none 0 0), .int .u64 (0:Int), .int .i64 (0:Int), .int .i64 (0:Int), .float .f64 (0:Nat), .float .f64 (0:Nat), .int .u64 (0:Int), .int .i64 (0:Int), .bool false]) 1 (.agg #[.int .u64 t1003.1, .int .u64 t1008.1]) Try.sizeOf29 (Nat.le_of_ble_eq_true rfl) (ones_cons rfl (ones_cons rfl ones_nil)) (by kernel_rfl)
        refine we_unit rfl (x_unit hr1014) ?_
        refine ws_next (pend' := []) hst (by kernel_rfl) pk_nil ?_
        refine ws_nil ?_
        intro w hst
        refine post_end (vs := []) Try.results52 rvs_nil ?_
        replace hst := hst.pull2
        replace hst := hst.pull2
        replace hst := hst.pull3
        replace hst := hst.keep4
        obtain rfl := some_inj hm
        exact ⟨t1008.2, t1003.1, t1008.1, rfl, rfl, hst⟩
       clear hst
       rintro _ w1021 ⟨z1015, z1016, z1017, rfl, rfl, hst⟩
       refine ⟨_, rfl, ?_⟩
       try dsimp only at hm
       refine wl_nil (blk_n (then_n ?_))
       replace hst := hst.own_nil tyF64
       replace hst := hst.own_nil tyF2
       replace hst := hst.own_nil tyF64
       replace hst := hst.own_nil (tyInt .u8)
       replace hst := hst.own_nil ty_api_Write
       replace hst := hst.own_nil ty_api_Got
       replace hst := hst.own_nil (tySl ty_api_Pair)
       replace hst := hst.own_nil ty_api_Part
       replace hst := hst.pull1
       replace hst := hst.pull2
       replace hst := hst.pull3
       replace hst := hst.pull4
       replace hst := hst.pull5
       replace hst := hst.pull6
       replace hst := hst.pull7
       replace hst := hst.pull11
       replace hst := hst.pull10
       replace hst := hst.pull11
       replace hst := hst.pull11
       replace hst := hst.keep12
       obtain rfl := some_inj hm
       exact ⟨_, z1015, ({ Kind := (IntKind.u8.wrap t704.1), ID := ({ Session := z1016, Seq := z1017 } : api_ID), Epoch := (0:Int), Index := (0:Int), E := (0:Int), Hold := ({ ID := ({ Session := (0:Int), Seq := (0:Int) } : api_ID), Epoch := (0:Int), Gets := [], Scans := [], Puts := [], Data := [] } : api_Hold), Writes := [], R := ({ E := (0:Int), Epoch := (0:Int), Index := (0:Int), Gots := [], Scans := [] } : api_Reply), Shards := (0:Int), Parts := [], Rule := ({ ID := (0:Int), From := (0:Int), To := (0:Int), Lo := (0:Nat), Hi := (0:Nat), Authority := (0:Int), Quota := (0:Int) } : api_Rule), On := false } : api_Command), (.slice none 0 0), (.slice none 0 0), (.slice none 0 0), (.slice none 0 0), (.slice none 0 0), (.slice none 0 0), (.slice none 0 0), (.slice none 0 0), _, hx1123, ((fr_upd (t := 0) (v := r0_0) rfl).trans ((fr_upd (t := 2) (v := .pointer (some ⟨b681, 0, none⟩)) rfl).trans ((fr_upd (t := 4) (v := .pointer (some ⟨b693, 0, none⟩)) rfl).trans ((fr_upd (t := 5) (v := .pointer (some ⟨b725, 0, none⟩)) rfl).trans rfl)))), hL1124, hst⟩
      ·skip
       replace hm := bif_f hc1002 hm
       refine wp_iff (congrArg Value.bool hc1002) ?_
       refine wp_seq (wp_region_lit ?_)
       refine wv (.bool ((IntKind.u8.wrap t704.1) == (6:Int))) rfl rfl rfl ?_
       refine wv (.bool ((IntKind.u8.wrap t704.1) == (6:Int))) rfl rfl rfl ?_
       refine wl_nil (then_n ?_)
       refine bsplit ((IntKind.u8.wrap t704.1) == (6:Int)) (fun hc1022 => ?_) (fun hc1022 => ?_)
       ·skip
        replace hm := bif_t hc1022 hm
        refine wp_ift (congrArg Value.bool hc1022) ?_
        refine wp_seq (wp_region_lit ?_)
        refine wv (.pointer (some ⟨b698, 0, none⟩)) rfl rfl (x_load rfl Try.isAgg61 (hst.bc2 rfl)) ?_
        replace hst := hst.pull1
        obtain ⟨t1023, ht1024, hm⟩ := bind_some hm
        refine wl_call rfl rfl (x_call Try.call55 rfl (vs := [.pointer (some ⟨b698, 0, none⟩)]) rfl) ?_
        refine (command_readRule_ref hst.to1 ht1024).mono ?_
        rintro _ w1025 ⟨rfl, hst⟩
        refine ⟨_, rfl, ?_⟩
        replace hst := hst.of1
        refine wv (.pointer (some ⟨b725, 21, none⟩)) rfl rfl (x_field rfl Try.underlying45 rfl Try.sizeOf43 rfl) ?_
        replace hst := hst.pull1
        obtain ⟨w1028, hr1029, hst⟩ := hst.boxStore (P := Try.prog) (t := 43) (cs' := [.int .u8 (IntKind.u8.wrap t704.1), .int .u64 (0:Int), .int .u64 (0:Int), .int .u64 (0:Int), .int .u64 (0:Int), .int .i64 (0:Int), .int .u64 (0:Int), .int .u64 (0:Int), .int .u64 (0:Int), (.slice none 0 0), (.slice none 0 0), (.slice none 0 0), (.slice none 0 0), (.slice none 0 0), .int .i64 (0:Int), .int .u64 (0:Int), .int .u64 (0:Int), (.slice none 0 0), (.slice none 0 0), .int .u64 (0:Int), (.slice none 0 0), .int .u64 t1023.1.ID, .int .i64 t1023.1.From, .int .i64 t1023.1.To, .float .f64 t1023.1.Lo, .float .f64 t1023.1.Hi, .int .u64 t1023.1.Authority, .int .i64 t1023.1.Quota, .bool false]) 21 (.agg #[.int .u64 t1023.1.ID, .int .i64 t1023.1.From, .int .i64 t1023.1.To, .float .f64 t1023.1.Lo, .float .f64 t1023.1.Hi, .int .u64 t1023.1.Authority, .int .i64 t1023.1.Quota]) Try.sizeOf43 (Nat.le_of_ble_eq_true rfl) (ones_cons rfl (ones_cons rfl (ones_cons rfl (ones_cons rfl (ones_cons rfl (ones_cons rfl (ones_cons rfl ones_nil))))))) (by kernel_rfl)
        refine wl_unit rfl rfl (x_unit hr1029) ?_
        refine wl_nil (then_n (wp_region_lit ?_))
        refine wv (.pointer (some ⟨b698, 0, none⟩)) rfl rfl (x_load rfl Try.isAgg61 (hst.bc2 rfl)) ?_
        replace hst := hst.pull1
        obtain ⟨t1030, ht1031, hm⟩ := bind_some hm
        refine wl_call rfl rfl (x_call Try.call42 rfl (vs := [.pointer (some ⟨b698, 0, none⟩)]) rfl) ?_
        refine (octet_Reader_Flag_ref hst.to1 ht1031).mono ?_
        rintro _ w1032 ⟨rfl, hst⟩
        refine ⟨_, rfl, ?_⟩
        replace hst := hst.of1
        refine wv (.pointer (some ⟨b725, 28, none⟩)) rfl rfl (x_field rfl Try.underlying45 rfl Try.sizeOf4 rfl) ?_
        replace hst := hst.pull1
        obtain ⟨w1035, hr1036, hst⟩ := hst.boxStore (P := Try.prog) (t := 4) (cs' := [.int .u8 (IntKind.u8.wrap t704.1), .int .u64 (0:Int), .int .u64 (0:Int), .int .u64 (0:Int), .int .u64 (0:Int), .int .i64 (0:Int), .int .u64 (0:Int), .int .u64 (0:Int), .int .u64 (0:Int), (.slice none 0 0), (.slice none 0 0), (.slice none 0 0), (.slice none 0 0), (.slice none 0 0), .int .i64 (0:Int), .int .u64 (0:Int), .int .u64 (0:Int), (.slice none 0 0), (.slice none 0 0), .int .u64 (0:Int), (.slice none 0 0), .int .u64 t1023.1.ID, .int .i64 t1023.1.From, .int .i64 t1023.1.To, .float .f64 t1023.1.Lo, .float .f64 t1023.1.Hi, .int .u64 t1023.1.Authority, .int .i64 t1023.1.Quota, .bool t1030.1]) 28 (.bool t1030.1) Try.sizeOf4 (Nat.le_of_ble_eq_true rfl) (ones_cons rfl ones_nil) (by kernel_rfl)
        refine wl_unit rfl rfl (x_unit hr1036) ?_
        refine wl_nil (blk_n (then_n ?_))
        replace hst := hst.own_nil tyF64
        replace hst := hst.own_nil tyF2
        replace hst := hst.own_nil tyF64
        replace hst := hst.own_nil (tyInt .u8)
        replace hst := hst.own_nil ty_api_Write
        replace hst := hst.own_nil ty_api_Got
        replace hst := hst.own_nil (tySl ty_api_Pair)
        replace hst := hst.own_nil ty_api_Part
        replace hst := hst.pull1
        replace hst := hst.pull2
        replace hst := hst.pull3
        replace hst := hst.pull4
        replace hst := hst.pull5
        replace hst := hst.pull6
        replace hst := hst.pull7
        replace hst := hst.pull8
        replace hst := hst.pull9
        replace hst := hst.pull10
        replace hst := hst.pull11
        replace hst := hst.keep12
        obtain rfl := some_inj hm
        exact ⟨_, t1030.2, ({ Kind := (IntKind.u8.wrap t704.1), ID := ({ Session := (0:Int), Seq := (0:Int) } : api_ID), Epoch := (0:Int), Index := (0:Int), E := (0:Int), Hold := ({ ID := ({ Session := (0:Int), Seq := (0:Int) } : api_ID), Epoch := (0:Int), Gets := [], Scans := [], Puts := [], Data := [] } : api_Hold), Writes := [], R := ({ E := (0:Int), Epoch := (0:Int), Index := (0:Int), Gots := [], Scans := [] } : api_Reply), Shards := (0:Int), Parts := [], Rule := t1023.1, On := t1030.1 } : api_Command), (.slice none 0 0), (.slice none 0 0), (.slice none 0 0), (.slice none 0 0), (.slice none 0 0), (.slice none 0 0), (.slice none 0 0), (.slice none 0 0), _, hx1123, ((fr_upd (t := 0) (v := r0_0) rfl).trans ((fr_upd (t := 2) (v := .pointer (some ⟨b681, 0, none⟩)) rfl).trans ((fr_upd (t := 4) (v := .pointer (some ⟨b693, 0, none⟩)) rfl).trans ((fr_upd (t := 5) (v := .pointer (some ⟨b725, 0, none⟩)) rfl).trans rfl)))), hL1124, hst⟩
       ·skip
        replace hm := bif_f hc1022 hm
        refine wp_iff (congrArg Value.bool hc1022) ?_
        refine wp_seq (wp_region_lit ?_)
        refine wv (.bool ((IntKind.u8.wrap t704.1) == (7:Int))) rfl rfl rfl ?_
        refine wv (.bool ((IntKind.u8.wrap t704.1) == (7:Int))) rfl rfl rfl ?_
        refine wl_nil (then_n ?_)
        refine bsplit ((IntKind.u8.wrap t704.1) == (7:Int)) (fun hc1037 => ?_) (fun hc1037 => ?_)
        ·skip
         replace hm := bif_t hc1037 hm
         refine wp_ift (congrArg Value.bool hc1037) ?_
         refine wp_seq (wp_region_lit ?_)
         refine wv (.func (.func 52) #[] #[.pointer (some ⟨b693, 0, none⟩), .pointer (some ⟨b725, 0, none⟩)]) rfl rfl rfl ?_
         obtain ⟨y1054, hq1055, hm⟩ := bind_some hm
         refine wl_call rfl rfl (x_callv Try.call52 (caps := [.pointer (some ⟨b693, 0, none⟩), .pointer (some ⟨b725, 0, none⟩)]) rfl (vs := []) rfl) ?_
         refine Calls.mono (show Calls Try.prog 52 #[.pointer (some ⟨b693, 0, none⟩), .pointer (some ⟨b725, 0, none⟩)] _ (fun e w' => ∃ (z1050 : octet_Reader) (z1051 : Int) (z1052 : Int), y1054 = (z1050, z1051, z1052) ∧ e = .returned (.tuple #[]) ∧ St w0 w' I [cells b681 [.int .u8 (0:Int), .int .u64 (0:Int), .int .u64 (0:Int), .int .u64 (0:Int), .int .u64 (0:Int), .int .i64 (0:Int), .int .u64 (0:Int), .int .u64 (0:Int), .int .u64 (0:Int), (.slice none 0 0), (.slice none 0 0), (.slice none 0 0), (.slice none 0 0), (.slice none 0 0), .int .i64 (0:Int), .int .u64 (0:Int), .int .u64 (0:Int), (.slice none 0 0), (.slice none 0 0), .int .u64 (0:Int), (.slice none 0 0), .int .u64 (0:Int), .int .i64 (0:Int), .int .i64 (0:Int), .float .f64 (0:Nat), .float .f64 (0:Nat), .int .u64 (0:Int), .int .i64 (0:Int), .bool false], at_octet_Reader (.pointer (some ⟨b698, 0, none⟩)) z1050, cells b693 [.pointer (some ⟨b698, 0, none⟩)], cells b725 [.int .u8 (IntKind.u8.wrap t704.1), .int .u64 z1051, .int .u64 z1052, .int .u64 (0:Int), .int .u64 (0:Int), .int .i64 (0:Int), .int .u64 (0:Int), .int .u64 (0:Int), .int .u64 (0:Int), (.slice none 0 0), (.slice none 0 0), (.slice none 0 0), (.slice none 0 0), (.slice none 0 0), .int .i64 (0:Int), .int .u64 (0:Int), .int .u64 (0:Int), (.slice none 0 0), (.slice none 0 0), .int .u64 (0:Int), (.slice none 0 0), .int .u64 (0:Int), .int .i64 (0:Int), .int .i64 (0:Int), .float .f64 (0:Nat), .float .f64 (0:Nat), .int .u64 (0:Int), .int .i64 (0:Int), .bool false]] R) from ?_) ?_
         ·skip
          clear hm; have hm := hq1055
          refine calls_start (args := [.pointer (some ⟨b693, 0, none⟩), .pointer (some ⟨b725, 0, none⟩)]) Try.func52 rfl Try.ntmps52 (Nat.le_of_ble_eq_true rfl) ?_
          refine wp_region_St hst 7 [0, 1, 2, 3, 4, 5, 6] [0, 1, 0, 7, 15, 31, 63] [] rfl (by kernel_rfl) (by kernel_rfl) Try.mixed (by kernel_rfl) ?_
          refine wsr (.pointer (some ⟨b698, 0, none⟩)) 0 rfl rfl rfl (by kernel_rfl) (fun w hst => x_load rfl Try.isAgg61 (hst.bc2 rfl)) ?_
          refine wsr (.pointer (some ⟨b698, 0, none⟩)) 2 rfl rfl rfl (by kernel_rfl) (fun w hst => x_load rfl Try.isAgg61 (hst.bc2 rfl)) ?_
          refine ws_e1 1 (by kernel_rfl) ?_
          refine nxe [3, 4, 5, 6] (by kernel_rfl) rfl rfl ?_
          clear hst
          intro w hst
          replace hst := hst.pull1
          obtain ⟨t1038, ht1039, hm⟩ := bind_some hm
          refine we_call rfl (x_call Try.call40 rfl (vs := [.pointer (some ⟨b698, 0, none⟩), .int .i64 (8:Int)]) rfl) ?_
          refine (octet_Reader_Num_ref hst.to1 ht1039).mono ?_
          rintro _ w1040 ⟨rfl, hst⟩
          refine ⟨_, rfl, ?_⟩
          replace hst := hst.of1
          refine ws_next (pend' := [(2, .pointer (some ⟨b698, 0, none⟩))]) hst (by kernel_rfl) (pkr rfl rfl (fun w hst => x_load rfl Try.isAgg61 (hst.bc2 rfl)) pk_nil) ?_
          refine ws_e1 3 (by kernel_rfl) ?_
          refine nxe [4, 5, 6] (by kernel_rfl) rfl rfl ?_
          clear hst
          intro w hst
          obtain ⟨t1043, ht1044, hm⟩ := bind_some hm
          refine we_call rfl (x_call Try.call40 rfl (vs := [.pointer (some ⟨b698, 0, none⟩), .int .i64 (8:Int)]) rfl) ?_
          refine (octet_Reader_Num_ref hst.to1 ht1044).mono ?_
          rintro _ w1045 ⟨rfl, hst⟩
          refine ⟨_, rfl, ?_⟩
          replace hst := hst.of1
          refine ws_next (pend' := []) hst (by kernel_rfl) pk_nil ?_
          refine wsr (.agg #[.int .u64 t1038.1, .int .u64 t1043.1]) 4 rfl rfl rfl (by kernel_rfl) (fun w hst => by kernel_rfl) ?_
          refine wsr (.pointer (some ⟨b725, 1, none⟩)) 5 rfl rfl rfl (by kernel_rfl) (fun w hst => x_field rfl Try.underlying45 rfl Try.sizeOf29 rfl) ?_
          refine ws_e1 6 (by kernel_rfl) ?_
          refine nxe [] (by kernel_rfl) rfl rfl ?_
          clear hst
          intro w hst
          replace hst := hst.pull1
          obtain ⟨w1048, hr1049, hst⟩ := hst.boxStore (P := Try.prog) (t := 29) (cs' := [.int .u8 (IntKind.u8.wrap t704.1), .int .u64 t1038.1, .int .u64 t1043.1, .int .u64 (0:Int), .int .u64 (0:Int), .int .i64 (0:Int), .int .u64 (0:Int), .int .u64 (0:Int), .int .u64 (0:Int), (.slice none 0 0), (.slice none 0 0), (.slice none 0 0), (.slice none 0 0), (.slice none 0 0), .int .i64 (0:Int), .int .u64 (0:Int), .int .u64 (0:Int), (.slice none 0 0), (.slice none 0 0), .int .u64 (0:Int), (.slice none 0 0), .int .u64 (0:Int), .int .i64 (0:Int), .int .i64 (0:Int), .float .f64 (0:Nat), .float .f64 (0:Nat), .int .u64 (0:Int), .int .i64 (0:Int), .bool false]) 1 (.agg #[.int .u64 t1038.1, .int .u64 t1043.1]) Try.sizeOf29 (Nat.le_of_ble_eq_true rfl) (ones_cons rfl (ones_cons rfl ones_nil)) (by kernel_rfl)
          refine we_unit rfl (x_unit hr1049) ?_
          refine ws_next (pend' := []) hst (by kernel_rfl) pk_nil ?_
          refine ws_nil ?_
          intro w hst
          refine post_end (vs := []) Try.results52 rvs_nil ?_
          replace hst := hst.pull2
          replace hst := hst.pull2
          replace hst := hst.pull3
          replace hst := hst.keep4
          obtain rfl := some_inj hm
          exact ⟨t1043.2, t1038.1, t1043.1, rfl, rfl, hst⟩
         clear hst
         rintro _ w1056 ⟨z1050, z1051, z1052, rfl, rfl, hst⟩
         refine ⟨_, rfl, ?_⟩
         try dsimp only at hm
         refine wl_nil (then_n (wp_seq (wp_region_lit ?_)))
         refine wv (.pointer (some ⟨b698, 0, none⟩)) rfl rfl (x_load rfl Try.isAgg61 (hst.bc2 rfl)) ?_
         replace hst := hst.pull1
         obtain ⟨t1057, ht1058, hm⟩ := bind_some hm
         refine wl_call rfl rfl (x_call Try.call40 rfl (vs := [.pointer (some ⟨b698, 0, none⟩), .int .i64 (8:Int)]) rfl) ?_
         refine (octet_Reader_Num_ref hst.to1 ht1058).mono ?_
         rintro _ w1059 ⟨rfl, hst⟩
         refine ⟨_, rfl, ?_⟩
         replace hst := hst.of1
         refine wv (.pointer (some ⟨b725, 3, none⟩)) rfl rfl (x_field rfl Try.underlying45 rfl Try.sizeOf27 rfl) ?_
         replace hst := hst.pull3
         obtain ⟨w1062, hr1063, hst⟩ := hst.boxStore (P := Try.prog) (t := 27) (cs' := [.int .u8 (IntKind.u8.wrap t704.1), .int .u64 z1051, .int .u64 z1052, .int .u64 t1057.1, .int .u64 (0:Int), .int .i64 (0:Int), .int .u64 (0:Int), .int .u64 (0:Int), .int .u64 (0:Int), (.slice none 0 0), (.slice none 0 0), (.slice none 0 0), (.slice none 0 0), (.slice none 0 0), .int .i64 (0:Int), .int .u64 (0:Int), .int .u64 (0:Int), (.slice none 0 0), (.slice none 0 0), .int .u64 (0:Int), (.slice none 0 0), .int .u64 (0:Int), .int .i64 (0:Int), .int .i64 (0:Int), .float .f64 (0:Nat), .float .f64 (0:Nat), .int .u64 (0:Int), .int .i64 (0:Int), .bool false]) 3 (.int .u64 t1057.1) Try.sizeOf27 (Nat.le_of_ble_eq_true rfl) (ones_cons rfl ones_nil) (by kernel_rfl)
         refine wl_unit rfl rfl (x_unit hr1063) ?_
         refine wl_nil (then_n (wp_seq (wp_region_lit ?_)))
         refine wv (.pointer (some ⟨b698, 0, none⟩)) rfl rfl (x_load rfl Try.isAgg61 (hst.bc3 rfl)) ?_
         replace hst := hst.pull1
         obtain ⟨t1064, ht1065, hm⟩ := bind_some hm
         refine wl_call rfl rfl (x_call Try.call55 rfl (vs := [.pointer (some ⟨b698, 0, none⟩)]) rfl) ?_
         refine (command_readRule_ref hst.to1 ht1065).mono ?_
         rintro _ w1066 ⟨rfl, hst⟩
         refine ⟨_, rfl, ?_⟩
         replace hst := hst.of1
         refine wv (.pointer (some ⟨b725, 21, none⟩)) rfl rfl (x_field rfl Try.underlying45 rfl Try.sizeOf43 rfl) ?_
         replace hst := hst.pull1
         obtain ⟨w1069, hr1070, hst⟩ := hst.boxStore (P := Try.prog) (t := 43) (cs' := [.int .u8 (IntKind.u8.wrap t704.1), .int .u64 z1051, .int .u64 z1052, .int .u64 t1057.1, .int .u64 (0:Int), .int .i64 (0:Int), .int .u64 (0:Int), .int .u64 (0:Int), .int .u64 (0:Int), (.slice none 0 0), (.slice none 0 0), (.slice none 0 0), (.slice none 0 0), (.slice none 0 0), .int .i64 (0:Int), .int .u64 (0:Int), .int .u64 (0:Int), (.slice none 0 0), (.slice none 0 0), .int .u64 (0:Int), (.slice none 0 0), .int .u64 t1064.1.ID, .int .i64 t1064.1.From, .int .i64 t1064.1.To, .float .f64 t1064.1.Lo, .float .f64 t1064.1.Hi, .int .u64 t1064.1.Authority, .int .i64 t1064.1.Quota, .bool false]) 21 (.agg #[.int .u64 t1064.1.ID, .int .i64 t1064.1.From, .int .i64 t1064.1.To, .float .f64 t1064.1.Lo, .float .f64 t1064.1.Hi, .int .u64 t1064.1.Authority, .int .i64 t1064.1.Quota]) Try.sizeOf43 (Nat.le_of_ble_eq_true rfl) (ones_cons rfl (ones_cons rfl (ones_cons rfl (ones_cons rfl (ones_cons rfl (ones_cons rfl (ones_cons rfl ones_nil))))))) (by kernel_rfl)
         refine wl_unit rfl rfl (x_unit hr1070) ?_
         refine wl_nil (then_n (wp_seq (wp_region_lit ?_)))
         refine wv (.pointer (some ⟨b698, 0, none⟩)) rfl rfl (x_load rfl Try.isAgg61 (hst.bc3 rfl)) ?_
         replace hst := hst.pull1
         obtain ⟨t1071, ht1072, hm⟩ := bind_some hm
         refine wl_call rfl rfl (x_call Try.call54 rfl (vs := [.pointer (some ⟨b698, 0, none⟩)]) rfl) ?_
         refine (command_readWrites_ref hst.to1 ht1072).mono ?_
         rintro _ w1073 ⟨I1074, v1076, rfl, hI1075, hst⟩
         refine ⟨_, rfl, ?_⟩
         replace hst := hst.of2
         replace f0_0 := f0_0.mono (ro_le hI1075)
         replace f701 := f701.mono (ro_le hI1075)
         replace hI0 := hI0.trans hI1075
         replace hL1124 := hL1124.trans hI1075
         refine wv (.pointer (some ⟨b725, 13, none⟩)) rfl rfl (x_field rfl Try.underlying45 rfl Try.sizeOf35 rfl) ?_
         replace hst := hst.pull2
         obtain ⟨w1078, hr1079, hst⟩ := hst.boxStore1 (P := Try.prog) (t := 35) (cs' := [.int .u8 (IntKind.u8.wrap t704.1), .int .u64 z1051, .int .u64 z1052, .int .u64 t1057.1, .int .u64 (0:Int), .int .i64 (0:Int), .int .u64 (0:Int), .int .u64 (0:Int), .int .u64 (0:Int), (.slice none 0 0), (.slice none 0 0), (.slice none 0 0), (.slice none 0 0), v1076, .int .i64 (0:Int), .int .u64 (0:Int), .int .u64 (0:Int), (.slice none 0 0), (.slice none 0 0), .int .u64 (0:Int), (.slice none 0 0), .int .u64 t1064.1.ID, .int .i64 t1064.1.From, .int .i64 t1064.1.To, .float .f64 t1064.1.Lo, .float .f64 t1064.1.Hi, .int .u64 t1064.1.Authority, .int .i64 t1064.1.Quota, .bool false]) 13 v1076 (one_of_sliceV hst.sv1) Try.sizeOf35 rfl rfl
         refine wl_unit rfl rfl (x_unit hr1079) ?_
         refine wl_nil (then_n (wp_region_lit ?_))
         refine wv (.pointer (some ⟨b698, 0, none⟩)) rfl rfl (x_load rfl Try.isAgg61 (hst.bc4 rfl)) ?_
         replace hst := hst.pull2
         obtain ⟨t1080, ht1081, hm⟩ := bind_some hm
         refine wl_call rfl rfl (x_call Try.call16 rfl (vs := [.pointer (some ⟨b698, 0, none⟩)]) rfl) ?_
         refine (command_ReadReply_ref hst.to1 ht1081).mono ?_
         rintro _ w1082 ⟨I1083, v1085, v1087, rfl, hI1084, hst⟩
         refine ⟨_, rfl, ?_⟩
         replace hst := hst.of3
         replace f0_0 := f0_0.mono (ro_le hI1084)
         replace f701 := f701.mono (ro_le hI1084)
         replace hI0 := hI0.trans hI1084
         replace hL1124 := hL1124.trans hI1084
         refine wv (.pointer (some ⟨b725, 14, none⟩)) rfl rfl (x_field rfl Try.underlying45 rfl Try.sizeOf39 rfl) ?_
         replace hst := hst.pull3
         obtain ⟨w1089, hr1090, hst⟩ := hst.boxStore (P := Try.prog) (t := 39) (cs' := [.int .u8 (IntKind.u8.wrap t704.1), .int .u64 z1051, .int .u64 z1052, .int .u64 t1057.1, .int .u64 (0:Int), .int .i64 (0:Int), .int .u64 (0:Int), .int .u64 (0:Int), .int .u64 (0:Int), (.slice none 0 0), (.slice none 0 0), (.slice none 0 0), (.slice none 0 0), v1076, .int .i64 t1080.1.E, .int .u64 t1080.1.Epoch, .int .u64 t1080.1.Index, v1085, v1087, .int .u64 (0:Int), (.slice none 0 0), .int .u64 t1064.1.ID, .int .i64 t1064.1.From, .int .i64 t1064.1.To, .float .f64 t1064.1.Lo, .float .f64 t1064.1.Hi, .int .u64 t1064.1.Authority, .int .i64 t1064.1.Quota, .bool false]) 14 (.agg #[.int .i64 t1080.1.E, .int .u64 t1080.1.Epoch, .int .u64 t1080.1.Index, v1085, v1087]) Try.sizeOf39 (Nat.le_of_ble_eq_true rfl) (ones_cons rfl (ones_cons rfl (ones_cons rfl (ones_cons (one_of_sliceV hst.sv1) (ones_cons (one_of_sliceV hst.sv2) ones_nil))))) (by kernel_rfl)
         refine wl_unit rfl rfl (x_unit hr1090) ?_
         refine wl_nil (blk_n (then_n ?_))
         replace hst := hst.own_nil tyF64
         replace hst := hst.own_nil tyF2
         replace hst := hst.own_nil tyF64
         replace hst := hst.own_nil (tyInt .u8)
         replace hst := hst.own_nil ty_api_Part
         replace hst := hst.pull7
         replace hst := hst.pull7
         replace hst := hst.pull9
         replace hst := hst.pull4
         replace hst := hst.pull5
         replace hst := hst.pull6
         replace hst := hst.pull7
         replace hst := hst.pull8
         replace hst := hst.pull9
         replace hst := hst.pull11
         replace hst := hst.pull11
         replace hst := hst.keep12
         obtain rfl := some_inj hm
         exact ⟨_, t1080.2, ({ Kind := (IntKind.u8.wrap t704.1), ID := ({ Session := z1051, Seq := z1052 } : api_ID), Epoch := t1057.1, Index := (0:Int), E := (0:Int), Hold := ({ ID := ({ Session := (0:Int), Seq := (0:Int) } : api_ID), Epoch := (0:Int), Gets := [], Scans := [], Puts := [], Data := [] } : api_Hold), Writes := t1071.1, R := t1080.1, Shards := (0:Int), Parts := [], Rule := t1064.1, On := false } : api_Command), (.slice none 0 0), (.slice none 0 0), (.slice none 0 0), (.slice none 0 0), v1076, v1085, v1087, (.slice none 0 0), _, hx1123, ((fr_upd (t := 0) (v := r0_0) rfl).trans ((fr_upd (t := 2) (v := .pointer (some ⟨b681, 0, none⟩)) rfl).trans ((fr_upd (t := 4) (v := .pointer (some ⟨b693, 0, none⟩)) rfl).trans ((fr_upd (t := 5) (v := .pointer (some ⟨b725, 0, none⟩)) rfl).trans rfl)))), hL1124, hst⟩
        ·skip
         replace hm := bif_f hc1037 hm
         refine wp_iff (congrArg Value.bool hc1037) ?_
         refine wp_seq (wp_region_lit ?_)
         refine wv (.agg #[.int .u8 (0:Int), .int .u64 (0:Int), .int .u64 (0:Int), .int .u64 (0:Int), .int .u64 (0:Int), .int .i64 (0:Int), .int .u64 (0:Int), .int .u64 (0:Int), .int .u64 (0:Int), (.slice none 0 0), (.slice none 0 0), (.slice none 0 0), (.slice none 0 0), (.slice none 0 0), .int .i64 (0:Int), .int .u64 (0:Int), .int .u64 (0:Int), (.slice none 0 0), (.slice none 0 0), .int .u64 (0:Int), (.slice none 0 0), .int .u64 (0:Int), .int .i64 (0:Int), .int .i64 (0:Int), .float .f64 (0:Nat), .float .f64 (0:Nat), .int .u64 (0:Int), .int .i64 (0:Int), .bool false]) rfl rfl (by kernel_rfl) ?_
         replace hst := hst.pull3
         obtain ⟨w1099, hr1100, hst⟩ := hst.boxStore (P := Try.prog) (t := 45) (cs' := [.int .u8 (0:Int), .int .u64 (0:Int), .int .u64 (0:Int), .int .u64 (0:Int), .int .u64 (0:Int), .int .i64 (0:Int), .int .u64 (0:Int), .int .u64 (0:Int), .int .u64 (0:Int), (.slice none 0 0), (.slice none 0 0), (.slice none 0 0), (.slice none 0 0), (.slice none 0 0), .int .i64 (0:Int), .int .u64 (0:Int), .int .u64 (0:Int), (.slice none 0 0), (.slice none 0 0), .int .u64 (0:Int), (.slice none 0 0), .int .u64 (0:Int), .int .i64 (0:Int), .int .i64 (0:Int), .float .f64 (0:Nat), .float .f64 (0:Nat), .int .u64 (0:Int), .int .i64 (0:Int), .bool false]) 0 (.agg #[.int .u8 (0:Int), .int .u64 (0:Int), .int .u64 (0:Int), .int .u64 (0:Int), .int .u64 (0:Int), .int .i64 (0:Int), .int .u64 (0:Int), .int .u64 (0:Int), .int .u64 (0:Int), (.slice none 0 0), (.slice none 0 0), (.slice none 0 0), (.slice none 0 0), (.slice none 0 0), .int .i64 (0:Int), .int .u64 (0:Int), .int .u64 (0:Int), (.slice none 0 0), (.slice none 0 0), .int .u64 (0:Int), (.slice none 0 0), .int .u64 (0:Int), .int .i64 (0:Int), .int .i64 (0:Int), .float .f64 (0:Nat), .float .f64 (0:Nat), .int .u64 (0:Int), .int .i64 (0:Int), .bool false]) Try.sizeOf45 (Nat.le_of_ble_eq_true rfl) (ones_cons rfl (ones_cons rfl (ones_cons rfl (ones_cons rfl (ones_cons rfl (ones_cons rfl (ones_cons rfl (ones_cons rfl (ones_cons rfl (ones_cons rfl (ones_cons rfl (ones_cons rfl (ones_cons rfl (ones_cons rfl (ones_cons rfl (ones_cons rfl (ones_cons rfl (ones_cons rfl (ones_cons rfl (ones_cons rfl (ones_cons rfl (ones_cons rfl (ones_cons rfl (ones_cons rfl (ones_cons rfl (ones_cons rfl (ones_cons rfl (ones_cons rfl (ones_cons rfl ones_nil))))))))))))))))))))))))))))) (by kernel_rfl)
         refine wl_unit rfl rfl (x_unit hr1100) ?_
         refine wv (.int .i64 (5:Int)) rfl rfl rfl ?_
         refine wl_nil (then_n (wp_ret (blk_r (then_r ?_))))
         replace hm := inr_up hm hx1123
         replace hst := hst.own_nil tyF64
         replace hst := hst.own_nil tyF2
         replace hst := hst.own_nil tyF64
         replace hst := hst.own_nil (tyInt .u8)
         replace hst := hst.own_nil ty_api_Write
         replace hst := hst.own_nil ty_api_Got
         replace hst := hst.own_nil (tySl ty_api_Pair)
         replace hst := hst.own_nil ty_api_Part
         obtain rfl := some_inj hm
         refine post_ret (vs := [.agg #[.int .u8 (0:Int), .int .u64 (0:Int), .int .u64 (0:Int), .int .u64 (0:Int), .int .u64 (0:Int), .int .i64 (0:Int), .int .u64 (0:Int), .int .u64 (0:Int), .int .u64 (0:Int), (.slice none 0 0), (.slice none 0 0), (.slice none 0 0), (.slice none 0 0), (.slice none 0 0), .int .i64 (0:Int), .int .u64 (0:Int), .int .u64 (0:Int), (.slice none 0 0), (.slice none 0 0), .int .u64 (0:Int), (.slice none 0 0), .int .u64 (0:Int), .int .i64 (0:Int), .int .i64 (0:Int), .float .f64 (0:Nat), .float .f64 (0:Nat), .int .u64 (0:Int), .int .i64 (0:Int), .bool false], .int .i64 (5:Int)]) Try.results20 (rvs_cons (rv_cell (cs := [.int .u8 (0:Int), .int .u64 (0:Int), .int .u64 (0:Int), .int .u64 (0:Int), .int .u64 (0:Int), .int .i64 (0:Int), .int .u64 (0:Int), .int .u64 (0:Int), .int .u64 (0:Int), (.slice none 0 0), (.slice none 0 0), (.slice none 0 0), (.slice none 0 0), (.slice none 0 0), .int .i64 (0:Int), .int .u64 (0:Int), .int .u64 (0:Int), (.slice none 0 0), (.slice none 0 0), .int .u64 (0:Int), (.slice none 0 0), .int .u64 (0:Int), .int .i64 (0:Int), .int .i64 (0:Int), .float .f64 (0:Nat), .float .f64 (0:Nat), .int .u64 (0:Int), .int .i64 (0:Int), .bool false]) rfl Try.isAgg45 Try.sizeOf45 (hst.bcs8 0 rfl)) (rvs_cons (rv_tmp rfl) rvs_nil)) ?_
         replace hst := hst.pull1
         replace hst := hst.pull2
         replace hst := hst.pull3
         replace hst := hst.pull4
         replace hst := hst.pull5
         replace hst := hst.pull6
         replace hst := hst.pull7
         exact ⟨_, (.slice none 0 0), (.slice none 0 0), (.slice none 0 0), (.slice none 0 0), (.slice none 0 0), (.slice none 0 0), (.slice none 0 0), (.slice none 0 0), rfl, hI0, hst.keep8⟩
 ·skip
  clear hst
  rintro _ w1125 ⟨I1119, z1101, z1102, v1104, v1106, v1108, v1110, v1112, v1114, v1116, v1118, σ1120, hm, rfl, hL1121, hst⟩
  dsimp only [command_Decode_j0] at hm
  replace f0_0 := f0_0.mono (ro_le hL1121)
  replace f701 := f701.mono (ro_le hL1121)
  replace hI0 := hI0.trans hL1121
  refine wp_seq (wp_seq (wp_region_lit ?_))
  refine wv (.pointer (some ⟨b698, 0, none⟩)) rfl rfl (x_load rfl Try.isAgg61 (hst.bc1 rfl)) ?_
  replace hst := hst.pull2
  obtain ⟨t1126, ht1127, hm⟩ := bind_some hm
  refine wl_call rfl rfl (x_call Try.call18 rfl (vs := [.pointer (some ⟨b698, 0, none⟩)]) rfl) ?_
  refine (octet_Reader_End_ref hst.to1 ht1127).mono ?_
  rintro _ w1128 ⟨rfl, hst⟩
  refine ⟨_, rfl, ?_⟩
  replace hst := hst.of1
  refine wv (.bool (!t1126)) rfl rfl rfl ?_
  refine wv (.bool (!t1126)) rfl rfl rfl ?_
  refine bsplit (!t1126) (fun hc1131 => ?_) (fun hc1131 => ?_)
  ·skip
   replace hm := bif_t hc1131 hm
   refine wo hc1131 rfl rfl rfl rfl rfl rfl ?_
   refine wo hc1131 rfl rfl rfl rfl rfl rfl ?_
   refine wo hc1131 rfl rfl rfl rfl rfl rfl ?_
   refine wo hc1131 rfl rfl rfl rfl rfl rfl ?_
   refine wo hc1131 rfl rfl rfl rfl rfl rfl ?_
   refine wv (.bool true) rfl rfl (x_pick_t hc1131 rfl rfl) ?_
   refine wl_nil (then_n ?_)
   refine wp_ift rfl ?_
   refine wp_seq (wp_region_lit ?_)
   refine wv (.agg #[.int .u8 (0:Int), .int .u64 (0:Int), .int .u64 (0:Int), .int .u64 (0:Int), .int .u64 (0:Int), .int .i64 (0:Int), .int .u64 (0:Int), .int .u64 (0:Int), .int .u64 (0:Int), (.slice none 0 0), (.slice none 0 0), (.slice none 0 0), (.slice none 0 0), (.slice none 0 0), .int .i64 (0:Int), .int .u64 (0:Int), .int .u64 (0:Int), (.slice none 0 0), (.slice none 0 0), .int .u64 (0:Int), (.slice none 0 0), .int .u64 (0:Int), .int .i64 (0:Int), .int .i64 (0:Int), .float .f64 (0:Nat), .float .f64 (0:Nat), .int .u64 (0:Int), .int .i64 (0:Int), .bool false]) rfl rfl (by kernel_rfl) ?_
   replace hst := hst.pull1
   obtain ⟨w1140, hr1141, hst⟩ := hst.boxStore (P := Try.prog) (t := 45) (cs' := [.int .u8 (0:Int), .int .u64 (0:Int), .int .u64 (0:Int), .int .u64 (0:Int), .int .u64 (0:Int), .int .i64 (0:Int), .int .u64 (0:Int), .int .u64 (0:Int), .int .u64 (0:Int), (.slice none 0 0), (.slice none 0 0), (.slice none 0 0), (.slice none 0 0), (.slice none 0 0), .int .i64 (0:Int), .int .u64 (0:Int), .int .u64 (0:Int), (.slice none 0 0), (.slice none 0 0), .int .u64 (0:Int), (.slice none 0 0), .int .u64 (0:Int), .int .i64 (0:Int), .int .i64 (0:Int), .float .f64 (0:Nat), .float .f64 (0:Nat), .int .u64 (0:Int), .int .i64 (0:Int), .bool false]) 0 (.agg #[.int .u8 (0:Int), .int .u64 (0:Int), .int .u64 (0:Int), .int .u64 (0:Int), .int .u64 (0:Int), .int .i64 (0:Int), .int .u64 (0:Int), .int .u64 (0:Int), .int .u64 (0:Int), (.slice none 0 0), (.slice none 0 0), (.slice none 0 0), (.slice none 0 0), (.slice none 0 0), .int .i64 (0:Int), .int .u64 (0:Int), .int .u64 (0:Int), (.slice none 0 0), (.slice none 0 0), .int .u64 (0:Int), (.slice none 0 0), .int .u64 (0:Int), .int .i64 (0:Int), .int .i64 (0:Int), .float .f64 (0:Nat), .float .f64 (0:Nat), .int .u64 (0:Int), .int .i64 (0:Int), .bool false]) Try.sizeOf45 (Nat.le_of_ble_eq_true rfl) (ones_cons rfl (ones_cons rfl (ones_cons rfl (ones_cons rfl (ones_cons rfl (ones_cons rfl (ones_cons rfl (ones_cons rfl (ones_cons rfl (ones_cons rfl (ones_cons rfl (ones_cons rfl (ones_cons rfl (ones_cons rfl (ones_cons rfl (ones_cons rfl (ones_cons rfl (ones_cons rfl (ones_cons rfl (ones_cons rfl (ones_cons rfl (ones_cons rfl (ones_cons rfl (ones_cons rfl (ones_cons rfl (ones_cons rfl (ones_cons rfl (ones_cons rfl (ones_cons rfl ones_nil))))))))))))))))))))))))))))) (by kernel_rfl)
   refine wl_unit rfl rfl (x_unit hr1141) ?_
   refine wv (.int .i64 (5:Int)) rfl rfl rfl ?_
   refine wl_nil (then_n (wp_ret (then_r ?_)))
   replace hst := hst.own_nil tyF64
   replace hst := hst.own_nil tyF2
   replace hst := hst.own_nil tyF64
   replace hst := hst.own_nil (tyInt .u8)
   replace hst := hst.own_nil ty_api_Write
   replace hst := hst.own_nil ty_api_Got
   replace hst := hst.own_nil (tySl ty_api_Pair)
   replace hst := hst.own_nil ty_api_Part
   obtain rfl := some_inj hm
   refine post_ret (vs := [.agg #[.int .u8 (0:Int), .int .u64 (0:Int), .int .u64 (0:Int), .int .u64 (0:Int), .int .u64 (0:Int), .int .i64 (0:Int), .int .u64 (0:Int), .int .u64 (0:Int), .int .u64 (0:Int), (.slice none 0 0), (.slice none 0 0), (.slice none 0 0), (.slice none 0 0), (.slice none 0 0), .int .i64 (0:Int), .int .u64 (0:Int), .int .u64 (0:Int), (.slice none 0 0), (.slice none 0 0), .int .u64 (0:Int), (.slice none 0 0), .int .u64 (0:Int), .int .i64 (0:Int), .int .i64 (0:Int), .float .f64 (0:Nat), .float .f64 (0:Nat), .int .u64 (0:Int), .int .i64 (0:Int), .bool false], .int .i64 (5:Int)]) Try.results20 (rvs_cons (rv_cell (cs := [.int .u8 (0:Int), .int .u64 (0:Int), .int .u64 (0:Int), .int .u64 (0:Int), .int .u64 (0:Int), .int .i64 (0:Int), .int .u64 (0:Int), .int .u64 (0:Int), .int .u64 (0:Int), (.slice none 0 0), (.slice none 0 0), (.slice none 0 0), (.slice none 0 0), (.slice none 0 0), .int .i64 (0:Int), .int .u64 (0:Int), .int .u64 (0:Int), (.slice none 0 0), (.slice none 0 0), .int .u64 (0:Int), (.slice none 0 0), .int .u64 (0:Int), .int .i64 (0:Int), .int .i64 (0:Int), .float .f64 (0:Nat), .float .f64 (0:Nat), .int .u64 (0:Int), .int .i64 (0:Int), .bool false]) rfl Try.isAgg45 Try.sizeOf45 (hst.bcs8 0 rfl)) (rvs_cons (rv_tmp rfl) rvs_nil)) ?_
   replace hst := hst.pull1
   replace hst := hst.pull2
   replace hst := hst.pull3
   replace hst := hst.pull4
   replace hst := hst.pull5
   replace hst := hst.pull6
   replace hst := hst.pull7
   exact ⟨_, (.slice none 0 0), (.slice none 0 0), (.slice none 0 0), (.slice none 0 0), (.slice none 0 0), (.slice none 0 0), (.slice none 0 0), (.slice none 0 0), rfl, hI0, hst.keep8⟩
  ·skip
   replace hm := bif_f hc1131 hm
   refine wv (.agg #[.int .u8 z1102.Kind, .int .u64 z1102.ID.Session, .int .u64 z1102.ID.Seq, .int .u64 z1102.Epoch, .int .u64 z1102.Index, .int .i64 z1102.E, .int .u64 z1102.Hold.ID.Session, .int .u64 z1102.Hold.ID.Seq, .int .u64 z1102.Hold.Epoch, v1104, v1106, v1108, v1110, v1112, .int .i64 z1102.R.E, .int .u64 z1102.R.Epoch, .int .u64 z1102.R.Index, v1114, v1116, .int .u64 z1102.Shards, v1118, .int .u64 z1102.Rule.ID, .int .i64 z1102.Rule.From, .int .i64 z1102.Rule.To, .float .f64 z1102.Rule.Lo, .float .f64 z1102.Rule.Hi, .int .u64 z1102.Rule.Authority, .int .i64 z1102.Rule.Quota, .bool z1102.On]) ((wanted_eq rfl rfl rfl (congrArg Value.bool hc1131)).trans rfl) rfl (x_loadN (cs := [.int .u8 z1102.Kind, .int .u64 z1102.ID.Session, .int .u64 z1102.ID.Seq, .int .u64 z1102.Epoch, .int .u64 z1102.Index, .int .i64 z1102.E, .int .u64 z1102.Hold.ID.Session, .int .u64 z1102.Hold.ID.Seq, .int .u64 z1102.Hold.Epoch, v1104, v1106, v1108, v1110, v1112, .int .i64 z1102.R.E, .int .u64 z1102.R.Epoch, .int .u64 z1102.R.Index, v1114, v1116, .int .u64 z1102.Shards, v1118, .int .u64 z1102.Rule.ID, .int .i64 z1102.Rule.From, .int .i64 z1102.Rule.To, .float .f64 z1102.Rule.Lo, .float .f64 z1102.Rule.Hi, .int .u64 z1102.Rule.Authority, .int .i64 z1102.Rule.Quota, .bool z1102.On]) rfl Try.isAgg45 Try.sizeOf45 (hst.bcs3 0 rfl)) ?_
   replace hst := hst.pull4
   obtain ⟨css1142, hq1143, hst⟩ := hst.own_open
   replace hst := hst.pull5
   obtain ⟨css1144, hq1145, hst⟩ := hst.own_open
   replace hst := hst.pull6
   obtain ⟨css1146, hq1147, hst⟩ := hst.own_open
   replace hst := hst.pull7
   obtain ⟨css1148, hq1149, hst⟩ := hst.own_open
   replace hst := hst.pull8
   obtain ⟨css1150, hq1151, hst⟩ := hst.own_open
   replace hst := hst.pull9
   obtain ⟨css1152, hq1153, hst⟩ := hst.own_open
   replace hst := hst.pull10
   obtain ⟨css1154, hq1155, hst⟩ := hst.own_open
   replace hst := hst.pull11
   obtain ⟨css1156, hq1157, hst⟩ := hst.own_open
   obtain ⟨t1158, ht1159, hm⟩ := bind_some hm
   refine wl_call ((wanted_eq rfl rfl rfl (congrArg Value.bool hc1131)).trans rfl) rfl (x_call Try.call10 rfl (vs := [.agg #[.int .u8 z1102.Kind, .int .u64 z1102.ID.Session, .int .u64 z1102.ID.Seq, .int .u64 z1102.Epoch, .int .u64 z1102.Index, .int .i64 z1102.E, .int .u64 z1102.Hold.ID.Session, .int .u64 z1102.Hold.ID.Seq, .int .u64 z1102.Hold.Epoch, v1104, v1106, v1108, v1110, v1112, .int .i64 z1102.R.E, .int .u64 z1102.R.Epoch, .int .u64 z1102.R.Index, v1114, v1116, .int .u64 z1102.Shards, v1118, .int .u64 z1102.Rule.ID, .int .i64 z1102.Rule.From, .int .i64 z1102.Rule.To, .float .f64 z1102.Rule.Lo, .float .f64 z1102.Rule.Hi, .int .u64 z1102.Rule.Authority, .int .i64 z1102.Rule.Quota, .bool z1102.On]]) rfl) ?_
   refine (command_Encode_ref (hst.rdrow7 hq1143) (hst.rdrow6 hq1145) (hst.rdrow5 hq1147) (hst.rdrow4 hq1149) (hst.rdrow3 hq1151) (hst.rdrow2 hq1153) (hst.rdrow1 hq1155) (hst.rdrow0 hq1157) hst.to0 ht1159).mono ?_
   rintro _ w1160 ⟨v1163, rfl, hst⟩
   refine ⟨_, rfl, ?_⟩
   replace hst := hst.of1
   replace hst := hst.pull8
   replace hst := hst.own_close hq1143
   replace hst := hst.pull8
   replace hst := hst.own_close hq1145
   replace hst := hst.pull8
   replace hst := hst.own_close hq1147
   replace hst := hst.pull8
   replace hst := hst.own_close hq1149
   replace hst := hst.pull8
   replace hst := hst.own_close hq1151
   replace hst := hst.pull8
   replace hst := hst.own_close hq1153
   replace hst := hst.pull8
   replace hst := hst.own_close hq1155
   replace hst := hst.pull8
   replace hst := hst.own_close hq1157
   refine wv (r0_0) ((wanted_eq rfl rfl rfl (congrArg Value.bool hc1131)).trans rfl) rfl rfl ?_
   replace hst := hst.pull8
   obtain ⟨css1165, hq1166, hst⟩ := hst.own_open
   obtain ⟨t1167, ht1168, hm⟩ := bind_some hm
   refine wl_call ((wanted_eq rfl rfl rfl (congrArg Value.bool hc1131)).trans rfl) rfl (x_call Try.call56 rfl (vs := [v1163, r0_0]) rfl) ?_
   refine (slices_Equal_byte_byte_ref (hst.rdrow0 hq1166) (f0_0.mono ro_rd) hst.to0 ht1168).mono ?_
   rintro _ w1169 ⟨rfl, hst⟩
   refine ⟨_, rfl, ?_⟩
   replace hst := hst.of0
   replace hst := hst.own_close hq1166
   refine wv (.bool (!t1167)) ((wanted_eq rfl rfl rfl (congrArg Value.bool hc1131)).trans rfl) rfl rfl ?_
   refine wv (.bool (!t1167)) rfl rfl (x_pick_f hc1131 rfl rfl) ?_
   refine wl_nil (then_n ?_)
   refine bsplit (!t1167) (fun hc1172 => ?_) (fun hc1172 => ?_)
   ·skip
    replace hm := bif_t hc1172 hm
    refine wp_ift (congrArg Value.bool hc1172) ?_
    refine wp_seq (wp_region_lit ?_)
    refine wv (.agg #[.int .u8 (0:Int), .int .u64 (0:Int), .int .u64 (0:Int), .int .u64 (0:Int), .int .u64 (0:Int), .int .i64 (0:Int), .int .u64 (0:Int), .int .u64 (0:Int), .int .u64 (0:Int), (.slice none 0 0), (.slice none 0 0), (.slice none 0 0), (.slice none 0 0), (.slice none 0 0), .int .i64 (0:Int), .int .u64 (0:Int), .int .u64 (0:Int), (.slice none 0 0), (.slice none 0 0), .int .u64 (0:Int), (.slice none 0 0), .int .u64 (0:Int), .int .i64 (0:Int), .int .i64 (0:Int), .float .f64 (0:Nat), .float .f64 (0:Nat), .int .u64 (0:Int), .int .i64 (0:Int), .bool false]) rfl rfl (by kernel_rfl) ?_
    replace hst := hst.pull10
    obtain ⟨w1181, hr1182, hst⟩ := hst.boxStore (P := Try.prog) (t := 45) (cs' := [.int .u8 (0:Int), .int .u64 (0:Int), .int .u64 (0:Int), .int .u64 (0:Int), .int .u64 (0:Int), .int .i64 (0:Int), .int .u64 (0:Int), .int .u64 (0:Int), .int .u64 (0:Int), (.slice none 0 0), (.slice none 0 0), (.slice none 0 0), (.slice none 0 0), (.slice none 0 0), .int .i64 (0:Int), .int .u64 (0:Int), .int .u64 (0:Int), (.slice none 0 0), (.slice none 0 0), .int .u64 (0:Int), (.slice none 0 0), .int .u64 (0:Int), .int .i64 (0:Int), .int .i64 (0:Int), .float .f64 (0:Nat), .float .f64 (0:Nat), .int .u64 (0:Int), .int .i64 (0:Int), .bool false]) 0 (.agg #[.int .u8 (0:Int), .int .u64 (0:Int), .int .u64 (0:Int), .int .u64 (0:Int), .int .u64 (0:Int), .int .i64 (0:Int), .int .u64 (0:Int), .int .u64 (0:Int), .int .u64 (0:Int), (.slice none 0 0), (.slice none 0 0), (.slice none 0 0), (.slice none 0 0), (.slice none 0 0), .int .i64 (0:Int), .int .u64 (0:Int), .int .u64 (0:Int), (.slice none 0 0), (.slice none 0 0), .int .u64 (0:Int), (.slice none 0 0), .int .u64 (0:Int), .int .i64 (0:Int), .int .i64 (0:Int), .float .f64 (0:Nat), .float .f64 (0:Nat), .int .u64 (0:Int), .int .i64 (0:Int), .bool false]) Try.sizeOf45 (Nat.le_of_ble_eq_true rfl) (ones_cons rfl (ones_cons rfl (ones_cons rfl (ones_cons rfl (ones_cons rfl (ones_cons rfl (ones_cons rfl (ones_cons rfl (ones_cons rfl (ones_cons rfl (ones_cons rfl (ones_cons rfl (ones_cons rfl (ones_cons rfl (ones_cons rfl (ones_cons rfl (ones_cons rfl (ones_cons rfl (ones_cons rfl (ones_cons rfl (ones_cons rfl (ones_cons rfl (ones_cons rfl (ones_cons rfl (ones_cons rfl (ones_cons rfl (ones_cons rfl (ones_cons rfl (ones_cons rfl ones_nil))))))))))))))))))))))))))))) (by kernel_rfl)
    refine wl_unit rfl rfl (x_unit hr1182) ?_
    refine wv (.int .i64 (5:Int)) rfl rfl rfl ?_
    refine wl_nil (then_n (wp_ret (then_r ?_)))
    replace hst := hst.own_nil tyF64
    replace hst := hst.own_nil tyF2
    replace hst := hst.own_nil tyF64
    replace hst := hst.own_nil (tyInt .u8)
    replace hst := hst.own_nil ty_api_Write
    replace hst := hst.own_nil ty_api_Got
    replace hst := hst.own_nil (tySl ty_api_Pair)
    replace hst := hst.own_nil ty_api_Part
    obtain rfl := some_inj hm
    refine post_ret (vs := [.agg #[.int .u8 (0:Int), .int .u64 (0:Int), .int .u64 (0:Int), .int .u64 (0:Int), .int .u64 (0:Int), .int .i64 (0:Int), .int .u64 (0:Int), .int .u64 (0:Int), .int .u64 (0:Int), (.slice none 0 0), (.slice none 0 0), (.slice none 0 0), (.slice none 0 0), (.slice none 0 0), .int .i64 (0:Int), .int .u64 (0:Int), .int .u64 (0:Int), (.slice none 0 0), (.slice none 0 0), .int .u64 (0:Int), (.slice none 0 0), .int .u64 (0:Int), .int .i64 (0:Int), .int .i64 (0:Int), .float .f64 (0:Nat), .float .f64 (0:Nat), .int .u64 (0:Int), .int .i64 (0:Int), .bool false], .int .i64 (5:Int)]) Try.results20 (rvs_cons (rv_cell (cs := [.int .u8 (0:Int), .int .u64 (0:Int), .int .u64 (0:Int), .int .u64 (0:Int), .int .u64 (0:Int), .int .i64 (0:Int), .int .u64 (0:Int), .int .u64 (0:Int), .int .u64 (0:Int), (.slice none 0 0), (.slice none 0 0), (.slice none 0 0), (.slice none 0 0), (.slice none 0 0), .int .i64 (0:Int), .int .u64 (0:Int), .int .u64 (0:Int), (.slice none 0 0), (.slice none 0 0), .int .u64 (0:Int), (.slice none 0 0), .int .u64 (0:Int), .int .i64 (0:Int), .int .i64 (0:Int), .float .f64 (0:Nat), .float .f64 (0:Nat), .int .u64 (0:Int), .int .i64 (0:Int), .bool false]) rfl Try.isAgg45 Try.sizeOf45 (hst.bcs8 0 rfl)) (rvs_cons (rv_tmp rfl) rvs_nil)) ?_
    replace hst := hst.pull1
    replace hst := hst.pull2
    replace hst := hst.pull3
    replace hst := hst.pull4
    replace hst := hst.pull5
    replace hst := hst.pull6
    replace hst := hst.pull7
    exact ⟨_, (.slice none 0 0), (.slice none 0 0), (.slice none 0 0), (.slice none 0 0), (.slice none 0 0), (.slice none 0 0), (.slice none 0 0), (.slice none 0 0), rfl, hI0, hst.keep8⟩
   ·skip
    replace hm := bif_f hc1172 hm
    refine wp_iff (congrArg Value.bool hc1172) ?_
    refine wp_skip (then_n (wp_seq (wp_region_lit ?_)))
    refine wv (.agg #[.int .u8 z1102.Kind, .int .u64 z1102.ID.Session, .int .u64 z1102.ID.Seq, .int .u64 z1102.Epoch, .int .u64 z1102.Index, .int .i64 z1102.E, .int .u64 z1102.Hold.ID.Session, .int .u64 z1102.Hold.ID.Seq, .int .u64 z1102.Hold.Epoch, v1104, v1106, v1108, v1110, v1112, .int .i64 z1102.R.E, .int .u64 z1102.R.Epoch, .int .u64 z1102.R.Index, v1114, v1116, .int .u64 z1102.Shards, v1118, .int .u64 z1102.Rule.ID, .int .i64 z1102.Rule.From, .int .i64 z1102.Rule.To, .float .f64 z1102.Rule.Lo, .float .f64 z1102.Rule.Hi, .int .u64 z1102.Rule.Authority, .int .i64 z1102.Rule.Quota, .bool z1102.On]) rfl rfl (x_loadN (cs := [.int .u8 z1102.Kind, .int .u64 z1102.ID.Session, .int .u64 z1102.ID.Seq, .int .u64 z1102.Epoch, .int .u64 z1102.Index, .int .i64 z1102.E, .int .u64 z1102.Hold.ID.Session, .int .u64 z1102.Hold.ID.Seq, .int .u64 z1102.Hold.Epoch, v1104, v1106, v1108, v1110, v1112, .int .i64 z1102.R.E, .int .u64 z1102.R.Epoch, .int .u64 z1102.R.Index, v1114, v1116, .int .u64 z1102.Shards, v1118, .int .u64 z1102.Rule.ID, .int .i64 z1102.Rule.From, .int .i64 z1102.Rule.To, .float .f64 z1102.Rule.Lo, .float .f64 z1102.Rule.Hi, .int .u64 z1102.Rule.Authority, .int .i64 z1102.Rule.Quota, .bool z1102.On]) rfl Try.isAgg45 Try.sizeOf45 (hst.bcs12 0 rfl)) ?_
    replace hst := hst.pull10
    obtain ⟨w1183, hr1184, hst⟩ := hst.boxStore (P := Try.prog) (t := 45) (cs' := [.int .u8 z1102.Kind, .int .u64 z1102.ID.Session, .int .u64 z1102.ID.Seq, .int .u64 z1102.Epoch, .int .u64 z1102.Index, .int .i64 z1102.E, .int .u64 z1102.Hold.ID.Session, .int .u64 z1102.Hold.ID.Seq, .int .u64 z1102.Hold.Epoch, v1104, v1106, v1108, v1110, v1112, .int .i64 z1102.R.E, .int .u64 z1102.R.Epoch, .int .u64 z1102.R.Index, v1114, v1116, .int .u64 z1102.Shards, v1118, .int .u64 z1102.Rule.ID, .int .i64 z1102.Rule.From, .int .i64 z1102.Rule.To, .float .f64 z1102.Rule.Lo, .float .f64 z1102.Rule.Hi, .int .u64 z1102.Rule.Authority, .int .i64 z1102.Rule.Quota, .bool z1102.On]) 0 (.agg #[.int .u8 z1102.Kind, .int .u64 z1102.ID.Session, .int .u64 z1102.ID.Seq, .int .u64 z1102.Epoch, .int .u64 z1102.Index, .int .i64 z1102.E, .int .u64 z1102.Hold.ID.Session, .int .u64 z1102.Hold.ID.Seq, .int .u64 z1102.Hold.Epoch, v1104, v1106, v1108, v1110, v1112, .int .i64 z1102.R.E, .int .u64 z1102.R.Epoch, .int .u64 z1102.R.Index, v1114, v1116, .int .u64 z1102.Shards, v1118, .int .u64 z1102.Rule.ID, .int .i64 z1102.Rule.From, .int .i64 z1102.Rule.To, .float .f64 z1102.Rule.Lo, .float .f64 z1102.Rule.Hi, .int .u64 z1102.Rule.Authority, .int .i64 z1102.Rule.Quota, .bool z1102.On]) Try.sizeOf45 (Nat.le_of_ble_eq_true rfl) (ones_cons rfl (ones_cons rfl (ones_cons rfl (ones_cons rfl (ones_cons rfl (ones_cons rfl (ones_cons rfl (ones_cons rfl (ones_cons rfl (ones_cons (one_of_sliceV hst.sv9) (ones_cons (one_of_sliceV hst.sv8) (ones_cons (one_of_sliceV hst.sv7) (ones_cons (one_of_sliceV hst.sv6) (ones_cons (one_of_sliceV hst.sv5) (ones_cons rfl (ones_cons rfl (ones_cons rfl (ones_cons (one_of_sliceV hst.sv4) (ones_cons (one_of_sliceV hst.sv3) (ones_cons rfl (ones_cons (one_of_sliceV hst.sv2) (ones_cons rfl (ones_cons rfl (ones_cons rfl (ones_cons rfl (ones_cons rfl (ones_cons rfl (ones_cons rfl (ones_cons rfl ones_nil))))))))))))))))))))))))))))) (by kernel_rfl)
    refine wl_unit rfl rfl (x_unit hr1184) ?_
    refine wv (.int .i64 (0:Int)) rfl rfl rfl ?_
    refine wl_nil (then_n (wp_ret ?_))
    obtain rfl := some_inj hm
    refine post_ret (vs := [.agg #[.int .u8 z1102.Kind, .int .u64 z1102.ID.Session, .int .u64 z1102.ID.Seq, .int .u64 z1102.Epoch, .int .u64 z1102.Index, .int .i64 z1102.E, .int .u64 z1102.Hold.ID.Session, .int .u64 z1102.Hold.ID.Seq, .int .u64 z1102.Hold.Epoch, v1104, v1106, v1108, v1110, v1112, .int .i64 z1102.R.E, .int .u64 z1102.R.Epoch, .int .u64 z1102.R.Index, v1114, v1116, .int .u64 z1102.Shards, v1118, .int .u64 z1102.Rule.ID, .int .i64 z1102.Rule.From, .int .i64 z1102.Rule.To, .float .f64 z1102.Rule.Lo, .float .f64 z1102.Rule.Hi, .int .u64 z1102.Rule.Authority, .int .i64 z1102.Rule.Quota, .bool z1102.On], .int .i64 (0:Int)]) Try.results20 (rvs_cons (rv_cell (cs := [.int .u8 z1102.Kind, .int .u64 z1102.ID.Session, .int .u64 z1102.ID.Seq, .int .u64 z1102.Epoch, .int .u64 z1102.Index, .int .i64 z1102.E, .int .u64 z1102.Hold.ID.Session, .int .u64 z1102.Hold.ID.Seq, .int .u64 z1102.Hold.Epoch, v1104, v1106, v1108, v1110, v1112, .int .i64 z1102.R.E, .int .u64 z1102.R.Epoch, .int .u64 z1102.R.Index, v1114, v1116, .int .u64 z1102.Shards, v1118, .int .u64 z1102.Rule.ID, .int .i64 z1102.Rule.From, .int .i64 z1102.Rule.To, .float .f64 z1102.Rule.Lo, .float .f64 z1102.Rule.Hi, .int .u64 z1102.Rule.Authority, .int .i64 z1102.Rule.Quota, .bool z1102.On]) rfl Try.isAgg45 Try.sizeOf45 (hst.bcs0 0 rfl)) (rvs_cons (rv_tmp rfl) rvs_nil)) ?_
    replace hst := hst.pull2
    replace hst := hst.pull3
    replace hst := hst.pull4
    replace hst := hst.pull5
    replace hst := hst.pull6
    replace hst := hst.pull7
    replace hst := hst.pull8
    replace hst := hst.pull9
    exact ⟨_, v1104, v1106, v1108, v1110, v1112, v1114, v1116, v1118, rfl, hI0, hst.keep8⟩

theorem math_Signbit_ref {w0 w : World} {I : HL} {R : SP} {a0 : Nat}  (hst : St w0 w I [] R) {r : (Bool)} (hm : math_Signbit a0 = some r) :
  Calls Try.prog 69 #[.float .f64 a0] w fun e w' => e = .returned (.bool r) ∧ St w0 w' I [] R := by
 unfold math_Signbit at hm
 refine calls_start (args := [.float .f64 a0]) Try.func69 rfl Try.ntmps69 (Nat.le_of_ble_eq_true rfl) ?_
 refine wp_seq (wp_region_lit ?_)
 refine wv (.bool false) rfl rfl rfl ?_
 refine wl_nil (then_n (wp_seq (wp_region_lit ?_)))
 refine wv (.float .f64 a0) rfl rfl rfl ?_
 refine wv (.int .u64 (Int.ofNat a0)) rfl rfl (by kernel_rfl) ?_
 refine wv (.int .i64 (IntKind.i64.wrap (Int.ofNat a0))) rfl rfl (by kernel_rfl) ?_
 refine wv (.bool (decide ((IntKind.i64.wrap (Int.ofNat a0)) < (0:Int)))) rfl rfl rfl ?_
 refine wv (.bool (decide ((IntKind.i64.wrap (Int.ofNat a0)) < (0:Int)))) rfl rfl rfl ?_
 refine wl_nil (then_n (wp_ret ?_))
 obtain rfl := some_inj hm
 refine post_ret (vs := [.bool (decide ((IntKind.i64.wrap (Int.ofNat a0)) < (0:Int)))]) Try.results69 (rvs_cons (rv_tmp rfl) rvs_nil) ?_
 exact ⟨rfl, hst.keep0⟩

theorem ref01_Ahead_ref {w0 w : World} {I : HL} {R : SP} {a0 : Nat} {a1 : Nat}  (hst : St w0 w I [] R) {r : (Bool)} (hm : ref01_Ahead a0 a1 = some r) :
  Calls Try.prog 68 #[.float .f64 a0, .float .f64 a1] w fun e w' => e = .returned (.bool r) ∧ St w0 w' I [] R := by
 unfold ref01_Ahead at hm
 refine calls_start (args := [.float .f64 a0, .float .f64 a1]) Try.func68 rfl Try.ntmps68 (Nat.le_of_ble_eq_true rfl) ?_
 refine wp_seq (wp_region_lit ?_)
 refine wv (.bool false) rfl rfl rfl ?_
 refine wl_nil (then_n (wp_seq (wp_seq (wp_region_lit ?_))))
 refine wv (.float .f64 a0) rfl rfl rfl ?_
 refine wv (.float .f64 a0) rfl rfl rfl ?_
 refine wv (.bool (fNe a0 a0)) rfl rfl rfl ?_
 refine wl_nil (then_n ?_)
 refine bsplit (fNe a0 a0) (fun hc276 => ?_) (fun hc276 => ?_)
 ·skip
  replace hm := bif_t hc276 hm
  refine wp_ift (congrArg Value.bool hc276) ?_
  refine wp_seq (wp_region_lit ?_)
  refine wv (.bool false) rfl rfl rfl ?_
  refine wl_nil (then_n (wp_ret (then_r ?_)))
  obtain rfl := some_inj hm
  refine post_ret (vs := [.bool false]) Try.results68 (rvs_cons (rv_tmp rfl) rvs_nil) ?_
  exact ⟨rfl, hst.keep0⟩
 ·skip
  replace hm := bif_f hc276 hm
  refine wp_iff (congrArg Value.bool hc276) ?_
  refine wp_skip (then_n (wp_seq (wp_seq (wp_region_lit ?_))))
  refine wv (.float .f64 a1) rfl rfl rfl ?_
  refine wv (.float .f64 a1) rfl rfl rfl ?_
  refine wv (.bool (fNe a1 a1)) rfl rfl rfl ?_
  refine wl_nil (then_n ?_)
  refine bsplit (fNe a1 a1) (fun hc277 => ?_) (fun hc277 => ?_)
  ·skip
   replace hm := bif_t hc277 hm
   refine wp_ift (congrArg Value.bool hc277) ?_
   refine wp_seq (wp_region_lit ?_)
   refine wv (.bool true) rfl rfl rfl ?_
   refine wl_nil (then_n (wp_ret (then_r ?_)))
   obtain rfl := some_inj hm
   refine post_ret (vs := [.bool true]) Try.results68 (rvs_cons (rv_tmp rfl) rvs_nil) ?_
   exact ⟨rfl, hst.keep0⟩
  ·skip
   replace hm := bif_f hc277 hm
   refine wp_iff (congrArg Value.bool hc277) ?_
   refine wp_skip (then_n ?_)
   obtain ⟨y293, hm, hx294⟩ := joinO_some hm
   refine wp_cut (fun a w => ∃ (σ291 : Nat → Value), (ref01_Ahead_j0 a0 a1) () = some r ∧ a = Fr 27 (upd (upd σ291 0 (.float .f64 a0)) 1 (.float .f64 a1)) ∧ St w0 w I [] R) ?_ ?_
   ·skip
    refine wp_seq (wp_region_lit ?_)
    refine wv (.float .f64 a0) rfl rfl rfl ?_
    refine wv (.bool (fEq a0 (0:Nat))) rfl rfl rfl ?_
    refine wv (.bool (fEq a0 (0:Nat))) rfl rfl rfl ?_
    refine bsplit (fEq a0 (0:Nat)) (fun hc278 => ?_) (fun hc278 => ?_)
    ·skip
     replace hm := bif_t hc278 hm
     refine wv (.float .f64 a1) ((wanted_eq rfl rfl rfl (congrArg Value.bool hc278)).trans rfl) rfl rfl ?_
     refine wv (.bool (fEq a1 (0:Nat))) ((wanted_eq rfl rfl rfl (congrArg Value.bool hc278)).trans rfl) rfl rfl ?_
     refine wv (.bool (fEq a1 (0:Nat))) rfl rfl (x_pick_t hc278 rfl rfl) ?_
     refine wl_nil (then_n ?_)
     refine bsplit (fEq a1 (0:Nat)) (fun hc279 => ?_) (fun hc279 => ?_)
     ·skip
      replace hm := bif_t hc279 hm
      refine wp_ift (congrArg Value.bool hc279) ?_
      refine wp_seq (wp_region_lit ?_)
      refine wv (.float .f64 a0) rfl rfl rfl ?_
      obtain ⟨t280, ht281, hm⟩ := bind_some hm
      refine wl_call rfl rfl (x_call Try.call69 rfl (vs := [.float .f64 a0]) rfl) ?_
      refine (math_Signbit_ref hst.to0 ht281).mono ?_
      rintro _ w282 ⟨rfl, hst⟩
      refine ⟨_, rfl, ?_⟩
      replace hst := hst.of0
      refine wv (.bool t280) rfl rfl rfl ?_
      refine bsplit t280 (fun hc285 => ?_) (fun hc285 => ?_)
      ·skip
       replace hm := bif_t hc285 hm
       refine wv (.float .f64 a1) ((wanted_eq rfl rfl rfl (congrArg Value.bool hc285)).trans rfl) rfl rfl ?_
       obtain ⟨t286, ht287, hm⟩ := bind_some hm
       refine wl_call ((wanted_eq rfl rfl rfl (congrArg Value.bool hc285)).trans rfl) rfl (x_call Try.call69 rfl (vs := [.float .f64 a1]) rfl) ?_
       refine (math_Signbit_ref hst.to0 ht287).mono ?_
       rintro _ w288 ⟨rfl, hst⟩
       refine ⟨_, rfl, ?_⟩
       replace hst := hst.of0
       refine wv (.bool (!t286)) ((wanted_eq rfl rfl rfl (congrArg Value.bool hc285)).trans rfl) rfl rfl ?_
       refine wv (.bool (!t286)) rfl rfl (x_pick_t hc285 rfl rfl) ?_
       refine wv (.bool (!t286)) rfl rfl rfl ?_
       refine wl_nil (then_n (wp_ret (then_r ?_)))
       replace hm := inr_up hm hx294
       obtain rfl := some_inj hm
       refine post_ret (vs := [.bool (!t286)]) Try.results68 (rvs_cons (rv_tmp rfl) rvs_nil) ?_
       exact ⟨rfl, hst.keep0⟩
      ·skip
       replace hm := bif_f hc285 hm
       refine wo hc285 rfl rfl rfl rfl rfl rfl ?_
       refine wo hc285 rfl rfl rfl rfl rfl rfl ?_
       refine wo hc285 rfl rfl rfl rfl rfl rfl ?_
       refine wv (.bool false) rfl rfl (x_pick_f hc285 rfl rfl) ?_
       refine wv (.bool false) rfl rfl rfl ?_
       refine wl_nil (then_n (wp_ret (then_r ?_)))
       replace hm := inr_up hm hx294
       obtain rfl := some_inj hm
       refine post_ret (vs := [.bool false]) Try.results68 (rvs_cons (rv_tmp rfl) rvs_nil) ?_
       exact ⟨rfl, hst.keep0⟩
     ·skip
      replace hm := bif_f hc279 hm
      refine wp_iff (congrArg Value.bool hc279) ?_
      refine wp_skip (then_n ?_)
      replace hst := hst.keep0
      obtain rfl := some_inj hm
      exact ⟨_, hx294, ((fr_upd (t := 0) (v := .float .f64 a0) rfl).trans ((fr_upd (t := 1) (v := .float .f64 a1) rfl).trans rfl)), hst⟩
    ·skip
     replace hm := bif_f hc278 hm
     refine wo hc278 rfl rfl rfl rfl rfl rfl ?_
     refine wo hc278 rfl rfl rfl rfl rfl rfl ?_
     refine wv (.bool false) rfl rfl (x_pick_f hc278 rfl rfl) ?_
     refine wl_nil (then_n ?_)
     refine wp_iff rfl ?_
     refine wp_skip (then_n ?_)
     replace hst := hst.keep0
     obtain rfl := some_inj hm
     exact ⟨_, hx294, ((fr_upd (t := 0) (v := .float .f64 a0) rfl).trans ((fr_upd (t := 1) (v := .float .f64 a1) rfl).trans rfl)), hst⟩
   ·skip
    clear hst
    rintro _ w295 ⟨σ291, hm, rfl, hst⟩
    dsimp only [ref01_Ahead_j0] at hm
    refine wp_seq (wp_region_lit ?_)
    refine wv (.float .f64 a0) rfl rfl rfl ?_
    refine wv (.float .f64 a1) rfl rfl rfl ?_
    refine wv (.bool (fLt a0 a1)) rfl rfl rfl ?_
    refine wv (.bool (fLt a0 a1)) rfl rfl rfl ?_
    refine wl_nil (then_n (wp_ret ?_))
    obtain rfl := some_inj hm
    refine post_ret (vs := [.bool (fLt a0 a1)]) Try.results68 (rvs_cons (rv_tmp rfl) rvs_nil) ?_
    exact ⟨rfl, hst.keep0⟩

theorem ref01_Same_ref {w0 w : World} {I : HL} {R : SP} {a0 : Nat} {a1 : Nat}  (hst : St w0 w I [] R) {r : (Bool)} (hm : ref01_Same a0 a1 = some r) :
  Calls Try.prog 62 #[.float .f64 a0, .float .f64 a1] w fun e w' => e = .returned (.bool r) ∧ St w0 w' I [] R := by
 unfold ref01_Same at hm
 refine calls_start (args := [.float .f64 a0, .float .f64 a1]) Try.func62 rfl Try.ntmps62 (Nat.le_of_ble_eq_true rfl) ?_
 refine wp_seq (wp_region_lit ?_)
 refine wv (.bool false) rfl rfl rfl ?_
 refine wl_nil (then_n (wp_seq (wp_region_lit ?_)))
 refine wv (.float .f64 a0) rfl rfl rfl ?_
 refine wv (.float .f64 a1) rfl rfl rfl ?_
 obtain ⟨t267, ht268, hm⟩ := bind_some hm
 refine wl_call rfl rfl (x_call Try.call68 rfl (vs := [.float .f64 a0, .float .f64 a1]) rfl) ?_
 refine (ref01_Ahead_ref hst.to0 ht268).mono ?_
 rintro _ w269 ⟨rfl, hst⟩
 refine ⟨_, rfl, ?_⟩
 replace hst := hst.of0
 refine wv (.bool (!t267)) rfl rfl rfl ?_
 refine wv (.bool (!t267)) rfl rfl rfl ?_
 refine bsplit (!t267) (fun hc272 => ?_) (fun hc272 => ?_)
 ·skip
  replace hm := bif_t hc272 hm
  refine wv (.float .f64 a1) ((wanted_eq rfl rfl rfl (congrArg Value.bool hc272)).trans rfl) rfl rfl ?_
  refine wv (.float .f64 a0) ((wanted_eq rfl rfl rfl (congrArg Value.bool hc272)).trans rfl) rfl rfl ?_
  obtain ⟨t273, ht274, hm⟩ := bind_some hm
  refine wl_call ((wanted_eq rfl rfl rfl (congrArg Value.bool hc272)).trans rfl) rfl (x_call Try.call68 rfl (vs := [.float .f64 a1, .float .f64 a0]) rfl) ?_
  refine (ref01_Ahead_ref hst.to0 ht274).mono ?_
  rintro _ w275 ⟨rfl, hst⟩
  refine ⟨_, rfl, ?_⟩
  replace hst := hst.of0
  refine wv (.bool (!t273)) ((wanted_eq rfl rfl rfl (congrArg Value.bool hc272)).trans rfl) rfl rfl ?_
  refine wv (.bool (!t273)) rfl rfl (x_pick_t hc272 rfl rfl) ?_
  refine wv (.bool (!t273)) rfl rfl rfl ?_
  refine wl_nil (then_n (wp_ret ?_))
  obtain rfl := some_inj hm
  refine post_ret (vs := [.bool (!t273)]) Try.results62 (rvs_cons (rv_tmp rfl) rvs_nil) ?_
  exact ⟨rfl, hst.keep0⟩
 ·skip
  replace hm := bif_f hc272 hm
  refine wo hc272 rfl rfl rfl rfl rfl rfl ?_
  refine wo hc272 rfl rfl rfl rfl rfl rfl ?_
  refine wo hc272 rfl rfl rfl rfl rfl rfl ?_
  refine wo hc272 rfl rfl rfl rfl rfl rfl ?_
  refine wv (.bool false) rfl rfl (x_pick_f hc272 rfl rfl) ?_
  refine wv (.bool false) rfl rfl rfl ?_
  refine wl_nil (then_n (wp_ret ?_))
  obtain rfl := some_inj hm
  refine post_ret (vs := [.bool false]) Try.results62 (rvs_cons (rv_tmp rfl) rvs_nil) ?_
  exact ⟨rfl, hst.keep0⟩

theorem ref11_SameHold_ref {w0 w : World} {I : HL} {R : SP} {a0 : api_Hold} {r0_0 : Value} {r0_1 : Value} {r0_2 : Value} {r0_3 : Value} {a1 : api_Hold} {r1_0 : Value} {r1_1 : Value} {r1_2 : Value} {r1_3 : Value} (f0_0 : Rd tyF64 R I r0_0 a0.Gets) (f0_1 : Rd tyF2 R I r0_1 a0.Scans) (f0_2 : Rd tyF64 R I r0_2 a0.Puts) (f0_3 : Rd (tyInt .u8) R I r0_3 a0.Data) (f1_0 : Rd tyF64 R I r1_0 a1.Gets) (f1_1 : Rd tyF2 R I r1_1 a1.Scans) (f1_2 : Rd tyF64 R I r1_2 a1.Puts) (f1_3 : Rd (tyInt .u8) R I r1_3 a1.Data) (hst : St w0 w I [] R) {r : (Bool)} (hm : ref11_SameHold a0 a1 = some r) :
  Calls Try.prog 33 #[.agg #[.int .u64 a0.ID.Session, .int .u64 a0.ID.Seq, .int .u64 a0.Epoch, r0_0, r0_1, r0_2, r0_3], .agg #[.int .u64 a1.ID.Session, .int .u64 a1.ID.Seq, .int .u64 a1.Epoch, r1_0, r1_1, r1_2, r1_3]] w fun e w' => e = .returned (.bool r) ∧ St w0 w' I [] R := by
 unfold ref11_SameHold at hm
 refine calls_start (args := [.agg #[.int .u64 a0.ID.Session, .int .u64 a0.ID.Seq, .int .u64 a0.Epoch, r0_0, r0_1, r0_2, r0_3], .agg #[.int .u64 a1.ID.Session, .int .u64 a1.ID.Seq, .int .u64 a1.Epoch, r1_0, r1_1, r1_2, r1_3]]) Try.func33 rfl Try.ntmps33 (Nat.le_of_ble_eq_true rfl) ?_
 refine wp_seq (wp_region_lit ?_)
 obtain ⟨b474, w475, ew476, eb477, hst⟩ := hst.box [.int .u64 a0.ID.Session, .int .u64 a0.ID.Seq, .int .u64 a0.Epoch, r0_0, r0_1, r0_2, r0_3] 34
 refine wl_run (v := .pointer (some ⟨b474, 0, none⟩)) (w' := w475) rfl rfl (x_al (by kernel_rfl) ew476 eb477) ?_
 obtain ⟨b479, w480, ew481, eb482, hst⟩ := hst.box [.int .u64 a1.ID.Session, .int .u64 a1.ID.Seq, .int .u64 a1.Epoch, r1_0, r1_1, r1_2, r1_3] 34
 refine wl_run (v := .pointer (some ⟨b479, 0, none⟩)) (w' := w480) rfl rfl (x_al (by kernel_rfl) ew481 eb482) ?_
 refine wv (.bool false) rfl rfl rfl ?_
 refine wl_nil (then_n (wp_seq (wp_seq (wp_region_lit ?_))))
 refine wv (.pointer (some ⟨b474, 0, none⟩)) rfl rfl (x_field rfl Try.underlying34 rfl Try.sizeOf29 rfl) ?_
 refine wv (.agg #[.int .u64 a0.ID.Session, .int .u64 a0.ID.Seq]) rfl rfl (x_loadN (cs := [.int .u64 a0.ID.Session, .int .u64 a0.ID.Seq]) rfl Try.isAgg29 Try.sizeOf29 (hst.bcs1 0 rfl)) ?_
 refine wv (.pointer (some ⟨b479, 0, none⟩)) rfl rfl (x_field rfl Try.underlying34 rfl Try.sizeOf29 rfl) ?_
 refine wv (.agg #[.int .u64 a1.ID.Session, .int .u64 a1.ID.Seq]) rfl rfl (x_loadN (cs := [.int .u64 a1.ID.Session, .int .u64 a1.ID.Seq]) rfl Try.isAgg29 Try.sizeOf29 (hst.bcs0 0 rfl)) ?_
 refine wv (.bool (!((a0.ID.Session == a1.ID.Session) && (a0.ID.Seq == a1.ID.Seq)))) rfl rfl (x_aggne2 rfl rfl (by kernel_rfl) Try.underlying29 (by kernel_rfl) (by kernel_rfl) (by kernel_rfl) Try.underlying27 Try.underlying27 (fun _ _ _ => by kernel_rfl) (fun _ _ _ => by kernel_rfl)) ?_
 refine wv (.bool (!((a0.ID.Session == a1.ID.Session) && (a0.ID.Seq == a1.ID.Seq)))) rfl rfl rfl ?_
 refine bsplit (!((a0.ID.Session == a1.ID.Session) && (a0.ID.Seq == a1.ID.Seq))) (fun hc484 => ?_) (fun hc484 => ?_)
 ·skip
  replace hm := bif_t hc484 hm
  refine wo hc484 rfl rfl rfl rfl rfl rfl ?_
  refine wo hc484 rfl rfl rfl rfl rfl rfl ?_
  refine wo hc484 rfl rfl rfl rfl rfl rfl ?_
  refine wo hc484 rfl rfl rfl rfl rfl rfl ?_
  refine wo hc484 rfl rfl rfl rfl rfl rfl ?_
  refine wv (.bool true) rfl rfl (x_pick_t hc484 rfl rfl) ?_
  refine wv (.bool true) rfl rfl rfl ?_
  refine wl_off ((wanted_eq rfl rfl rfl rfl).trans rfl) rfl ?_
  refine wl_off ((wanted_eq rfl rfl rfl rfl).trans rfl) rfl ?_
  refine wl_off ((wanted_eq rfl rfl rfl rfl).trans rfl) rfl ?_
  refine wl_off ((wanted_eq rfl rfl rfl rfl).trans rfl) rfl ?_
  refine wl_off ((wanted_eq rfl rfl rfl rfl).trans rfl) rfl ?_
  refine wl_off ((wanted_eq rfl rfl rfl rfl).trans rfl) rfl ?_
  refine wl_off ((wanted_eq rfl rfl rfl rfl).trans rfl) rfl ?_
  refine wv (.bool true) rfl rfl (x_pick_t rfl rfl rfl) ?_
  refine wv (.bool true) rfl rfl rfl ?_
  refine wl_off ((wanted_eq rfl rfl rfl rfl).trans rfl) rfl ?_
  refine wl_off ((wanted_eq rfl rfl rfl rfl).trans rfl) rfl ?_
  refine wl_off ((wanted_eq rfl rfl rfl rfl).trans rfl) rfl ?_
  refine wl_off ((wanted_eq rfl rfl rfl rfl).trans rfl) rfl ?_
  refine wl_off ((wanted_eq rfl rfl rfl rfl).trans rfl) rfl ?_
  refine wl_off ((wanted_eq rfl rfl rfl rfl).trans rfl) rfl ?_
  refine wl_off ((wanted_eq rfl rfl rfl rfl).trans rfl) rfl ?_
  refine wv (.bool true) rfl rfl (x_pick_t rfl rfl rfl) ?_
  refine wv (.bool true) rfl rfl rfl ?_
  refine wl_off ((wanted_eq rfl rfl rfl rfl).trans rfl) rfl ?_
  refine wl_off ((wanted_eq rfl rfl rfl rfl).trans rfl) rfl ?_
  refine wl_off ((wanted_eq rfl rfl rfl rfl).trans rfl) rfl ?_
  refine wl_off ((wanted_eq rfl rfl rfl rfl).trans rfl) rfl ?_
  refine wl_off ((wanted_eq rfl rfl rfl rfl).trans rfl) rfl ?_
  refine wl_off ((wanted_eq rfl rfl rfl rfl).trans rfl) rfl ?_
  refine wl_off ((wanted_eq rfl rfl rfl rfl).trans rfl) rfl ?_
  refine wv (.bool true) rfl rfl (x_pick_t rfl rfl rfl) ?_
  refine wv (.bool true) rfl rfl rfl ?_
  refine wl_off ((wanted_eq rfl rfl rfl rfl).trans rfl) rfl ?_
  refine wl_off ((wanted_eq rfl rfl rfl rfl).trans rfl) rfl ?_
  refine wl_off ((wanted_eq rfl rfl rfl rfl).trans rfl) rfl ?_
  refine wl_off ((wanted_eq rfl rfl rfl rfl).trans rfl) rfl ?_
  refine wl_off ((wanted_eq rfl rfl rfl rfl).trans rfl) rfl ?_
  refine wl_off ((wanted_eq rfl rfl rfl rfl).trans rfl) rfl ?_
  refine wl_off ((wanted_eq rfl rfl rfl rfl).trans rfl) rfl ?_
  refine wv (.bool true) rfl rfl (x_pick_t rfl rfl rfl) ?_
  refine wl_nil (then_n ?_)
  refine wp_ift rfl ?_
  refine wp_seq (wp_region_lit ?_)
  refine wv (.bool false) rfl rfl rfl ?_
  refine wl_nil (then_n (wp_ret (then_r ?_)))
  obtain rfl := some_inj hm
  refine post_ret (vs := [.bool false]) Try.results33 (rvs_cons (rv_tmp rfl) rvs_nil) ?_
  exact ⟨rfl, hst.keep0⟩
 ·skip
  replace hm := bif_f hc484 hm
  refine wv (.pointer (some ⟨b474, 2, none⟩)) ((wanted_eq rfl rfl rfl (congrArg Value.bool hc484)).trans rfl) rfl (x_field rfl Try.underlying34 rfl Try.sizeOf27 rfl) ?_
  refine wv (.int .u64 a0.Epoch) ((wanted_eq rfl rfl rfl (congrArg Value.bool hc484)).trans rfl) rfl (x_load rfl Try.isAgg27 (hst.bc1 rfl)) ?_
  refine wv (.pointer (some ⟨b479, 2, none⟩)) ((wanted_eq rfl rfl rfl (congrArg Value.bool hc484)).trans rfl) rfl (x_field rfl Try.underlying34 rfl Try.sizeOf27 rfl) ?_
  refine wv (.int .u64 a1.Epoch) ((wanted_eq rfl rfl rfl (congrArg Value.bool hc484)).trans rfl) rfl (x_load rfl Try.isAgg27 (hst.bc0 rfl)) ?_
  refine wv (.bool (a0.Epoch != a1.Epoch)) ((wanted_eq rfl rfl rfl (congrArg Value.bool hc484)).trans rfl) rfl rfl ?_
  refine wv (.bool (a0.Epoch != a1.Epoch)) rfl rfl (x_pick_f hc484 rfl rfl) ?_
  refine wv (.bool (a0.Epoch != a1.Epoch)) rfl rfl rfl ?_
  refine bsplit (a0.Epoch != a1.Epoch) (fun hc485 => ?_) (fun hc485 => ?_)
  ·skip
   replace hm := bif_t hc485 hm
   refine wo hc485 rfl rfl rfl rfl rfl rfl ?_
   refine wo hc485 rfl rfl rfl rfl rfl rfl ?_
   refine wo hc485 rfl rfl rfl rfl rfl rfl ?_
   refine wo hc485 rfl rfl rfl rfl rfl rfl ?_
   refine wo hc485 rfl rfl rfl rfl rfl rfl ?_
   refine wo hc485 rfl rfl rfl rfl rfl rfl ?_
   refine wo hc485 rfl rfl rfl rfl rfl rfl ?_
   refine wv (.bool true) rfl rfl (x_pick_t hc485 rfl rfl) ?_
   refine wv (.bool true) rfl rfl rfl ?_
   refine wl_off ((wanted_eq rfl rfl rfl rfl).trans rfl) rfl ?_
   refine wl_off ((wanted_eq rfl rfl rfl rfl).trans rfl) rfl ?_
   refine wl_off ((wanted_eq rfl rfl rfl rfl).trans rfl) rfl ?_
   refine wl_off ((wanted_eq rfl rfl rfl rfl).trans rfl) rfl ?_
   refine wl_off ((wanted_eq rfl rfl rfl rfl).trans rfl) rfl ?_
   refine wl_off ((wanted_eq rfl rfl rfl rfl).trans rfl) rfl ?_
   refine wl_off ((wanted_eq rfl rfl rfl rfl).trans rfl) rfl ?_
   refine wv (.bool true) rfl rfl (x_pick_t rfl rfl rfl) ?_
   refine wv (.bool true) rfl rfl rfl ?_
   refine wl_off ((wanted_eq rfl rfl rfl rfl).trans rfl) rfl ?_
   refine wl_off ((wanted_eq rfl rfl rfl rfl).trans rfl) rfl ?_
   refine wl_off ((wanted_eq rfl rfl rfl rfl).trans rfl) rfl ?_
   refine wl_off ((wanted_eq rfl rfl rfl rfl).trans rfl) rfl ?_
   refine wl_off ((wanted_eq rfl rfl rfl rfl).trans rfl) rfl ?_
   refine wl_off ((wanted_eq rfl rfl rfl rfl).trans rfl) rfl ?_
   refine wl_off ((wanted_eq rfl rfl rfl rfl).trans rfl) rfl ?_
   refine wv (.bool true) rfl rfl (x_pick_t rfl rfl rfl) ?_
   refine wv (.bool true) rfl rfl rfl ?_
   refine wl_off ((wanted_eq rfl rfl rfl rfl).trans rfl) rfl ?_
   refine wl_off ((wanted_eq rfl rfl rfl rfl).trans rfl) rfl ?_
   refine wl_off ((wanted_eq rfl rfl rfl rfl).trans rfl) rfl ?_
   refine wl_off ((wanted_eq rfl rfl rfl rfl).trans rfl) rfl ?_
   refine wl_off ((wanted_eq rfl rfl rfl rfl).trans rfl) rfl ?_
   refine wl_off ((wanted_eq rfl rfl rfl rfl).trans rfl) rfl ?_
   refine wl_off ((wanted_eq rfl rfl rfl rfl).trans rfl) rfl ?_
   refine wv (.bool true) rfl rfl (x_pick_t rfl rfl rfl) ?_
   refine wl_nil (then_n ?_)
   refine wp_ift rfl ?_
   refine wp_seq (wp_region_lit ?_)
   refine wv (.bool false) rfl rfl rfl ?_
   refine wl_nil (then_n (wp_ret (then_r ?_)))
   obtain rfl := some_inj hm
   refine post_ret (vs := [.bool false]) Try.results33 (rvs_cons (rv_tmp rfl) rvs_nil) ?_
   exact ⟨rfl, hst.keep0⟩
  ·skip
   replace hm := bif_f hc485 hm
   refine wv (.pointer (some ⟨b474, 3, none⟩)) ((wanted_eq rfl rfl rfl (congrArg Value.bool hc485)).trans rfl) rfl (x_field rfl Try.underlying34 rfl Try.sizeOf31 rfl) ?_
   refine wv (r0_0) ((wanted_eq rfl rfl rfl (congrArg Value.bool hc485)).trans rfl) rfl (x_load rfl Try.isAgg31 (hst.bc1 rfl)) ?_
   refine wv (.int .i64 ((a0.Gets).length : Int)) ((wanted_eq rfl rfl rfl (congrArg Value.bool hc485)).trans rfl) rfl (x_len rfl Try.underlying31 (rd_sliceV f0_0)) ?_
   refine wv (.pointer (some ⟨b479, 3, none⟩)) ((wanted_eq rfl rfl rfl (congrArg Value.bool hc485)).trans rfl) rfl (x_field rfl Try.underlying34 rfl Try.sizeOf31 rfl) ?_
   refine wv (r1_0) ((wanted_eq rfl rfl rfl (congrArg Value.bool hc485)).trans rfl) rfl (x_load rfl Try.isAgg31 (hst.bc0 rfl)) ?_
   refine wv (.int .i64 ((a1.Gets).length : Int)) ((wanted_eq rfl rfl rfl (congrArg Value.bool hc485)).trans rfl) rfl (x_len rfl Try.underlying31 (rd_sliceV f1_0)) ?_
   refine wv (.bool (((a0.Gets).length : Int) != ((a1.Gets).length : Int))) ((wanted_eq rfl rfl rfl (congrArg Value.bool hc485)).trans rfl) rfl rfl ?_
   refine wv (.bool (((a0.Gets).length : Int) != ((a1.Gets).length : Int))) rfl rfl (x_pick_f hc485 rfl rfl) ?_
   refine wv (.bool (((a0.Gets).length : Int) != ((a1.Gets).length : Int))) rfl rfl rfl ?_
   refine bsplit (((a0.Gets).length : Int) != ((a1.Gets).length : Int)) (fun hc486 => ?_) (fun hc486 => ?_)
   ·skip
    replace hm := bif_t hc486 hm
    refine wo hc486 rfl rfl rfl rfl rfl rfl ?_
    refine wo hc486 rfl rfl rfl rfl rfl rfl ?_
    refine wo hc486 rfl rfl rfl rfl rfl rfl ?_
    refine wo hc486 rfl rfl rfl rfl rfl rfl ?_
    refine wo hc486 rfl rfl rfl rfl rfl rfl ?_
    refine wo hc486 rfl rfl rfl rfl rfl rfl ?_
    refine wo hc486 rfl rfl rfl rfl rfl rfl ?_
    refine wv (.bool true) rfl rfl (x_pick_t hc486 rfl rfl) ?_
    refine wv (.bool true) rfl rfl rfl ?_
    refine wl_off ((wanted_eq rfl rfl rfl rfl).trans rfl) rfl ?_
    refine wl_off ((wanted_eq rfl rfl rfl rfl).trans rfl) rfl ?_
    refine wl_off ((wanted_eq rfl rfl rfl rfl).trans rfl) rfl ?_
    refine wl_off ((wanted_eq rfl rfl rfl rfl).trans rfl) rfl ?_
    refine wl_off ((wanted_eq rfl rfl rfl rfl).trans rfl) rfl ?_
    refine wl_off ((wanted_eq rfl rfl rfl rfl).trans rfl) rfl ?_
    refine wl_off ((wanted_eq rfl rfl rfl rfl).trans rfl) rfl ?_
    refine wv (.bool true) rfl rfl (x_pick_t rfl rfl rfl) ?_
    refine wv (.bool true) rfl rfl rfl ?_
    refine wl_off ((wanted_eq rfl rfl rfl rfl).trans rfl) rfl ?_
    refine wl_off ((wanted_eq rfl rfl rfl rfl).trans rfl) rfl ?_
    refine wl_off ((wanted_eq rfl rfl rfl rfl).trans rfl) rfl ?_
    refine wl_off ((wanted_eq rfl rfl rfl rfl).trans rfl) rfl ?_
    refine wl_off ((wanted_eq rfl rfl rfl rfl).trans rfl) rfl ?_
    refine wl_off ((wanted_eq rfl rfl rfl rfl).trans rfl) rfl ?_
    refine wl_off ((wanted_eq rfl rfl rfl rfl).trans rfl) rfl ?_
    refine wv (.bool true) rfl rfl (x_pick_t rfl rfl rfl) ?_
    refine wl_nil (then_n ?_)
    refine wp_ift rfl ?_
    refine wp_seq (wp_region_lit ?_)
    refine wv (.bool false) rfl rfl rfl ?_
    refine wl_nil (then_n (wp_ret (then_r ?_)))
    obtain rfl := some_inj hm
    refine post_ret (vs := [.bool false]) Try.results33 (rvs_cons (rv_tmp rfl) rvs_nil) ?_
    exact ⟨rfl, hst.keep0⟩
   ·skip
    replace hm := bif_f hc486 hm
    refine wv (.pointer (some ⟨b474, 4, none⟩)) ((wanted_eq rfl rfl rfl (congrArg Value.bool hc486)).trans rfl) rfl (x_field rfl Try.underlying34 rfl Try.sizeOf32 rfl) ?_
    refine wv (r0_1) ((wanted_eq rfl rfl rfl (congrArg Value.bool hc486)).trans rfl) rfl (x_load rfl Try.isAgg32 (hst.bc1 rfl)) ?_
    refine wv (.int .i64 ((a0.Scans).length : Int)) ((wanted_eq rfl rfl rfl (congrArg Value.bool hc486)).trans rfl) rfl (x_len rfl Try.underlying32 (rd_sliceV f0_1)) ?_
    refine wv (.pointer (some ⟨b479, 4, none⟩)) ((wanted_eq rfl rfl rfl (congrArg Value.bool hc486)).trans rfl) rfl (x_field rfl Try.underlying34 rfl Try.sizeOf32 rfl) ?_
    refine wv (r1_1) ((wanted_eq rfl rfl rfl (congrArg Value.bool hc486)).trans rfl) rfl (x_load rfl Try.isAgg32 (hst.bc0 rfl)) ?_
    refine wv (.int .i64 ((a1.Scans).length : Int)) ((wanted_eq rfl rfl rfl (congrArg Value.bool hc486)).trans rfl) rfl (x_len rfl Try.underlying32 (rd_sliceV f1_1)) ?_
    refine wv (.bool (((a0.Scans).length : Int) != ((a1.Scans).length : Int))) ((wanted_eq rfl rfl rfl (congrArg Value.bool hc486)).trans rfl) rfl rfl ?_
    refine wv (.bool (((a0.Scans).length : Int) != ((a1.Scans).length : Int))) rfl rfl (x_pick_f hc486 rfl rfl) ?_
    refine wv (.bool (((a0.Scans).length : Int) != ((a1.Scans).length : Int))) rfl rfl rfl ?_
    refine bsplit (((a0.Scans).length : Int) != ((a1.Scans).length : Int)) (fun hc487 => ?_) (fun hc487 => ?_)
    ·skip
     replace hm := bif_t hc487 hm
     refine wo hc487 rfl rfl rfl rfl rfl rfl ?_
     refine wo hc487 rfl rfl rfl rfl rfl rfl ?_
     refine wo hc487 rfl rfl rfl rfl rfl rfl ?_
     refine wo hc487 rfl rfl rfl rfl rfl rfl ?_
     refine wo hc487 rfl rfl rfl rfl rfl rfl ?_
     refine wo hc487 rfl rfl rfl rfl rfl rfl ?_
     refine wo hc487 rfl rfl rfl rfl rfl rfl ?_
     refine wv (.bool true) rfl rfl (x_pick_t hc487 rfl rfl) ?_
     refine wv (.bool true) rfl rfl rfl ?_
     refine wl_off ((wanted_eq rfl rfl rfl rfl).trans rfl) rfl ?_
     refine wl_off ((wanted_eq rfl rfl rfl rfl).trans rfl) rfl ?_
     refine wl_off ((wanted_eq rfl rfl rfl rfl).trans rfl) rfl ?_
     refine wl_off ((wanted_eq rfl rfl rfl rfl).trans rfl) rfl ?_
     refine wl_off ((wanted_eq rfl rfl rfl rfl).trans rfl) rfl ?_
     refine wl_off ((wanted_eq rfl rfl rfl rfl).trans rfl) rfl ?_
     refine wl_off ((wanted_eq rfl rfl rfl rfl).trans rfl) rfl ?_
     refine wv (.bool true) rfl rfl (x_pick_t rfl rfl rfl) ?_
     refine wl_nil (then_n ?_)
     refine wp_ift rfl ?_
     refine wp_seq (wp_region_lit ?_)
     refine wv (.bool false) rfl rfl rfl ?_
     refine wl_nil (then_n (wp_ret (then_r ?_)))
     obtain rfl := some_inj hm
     refine post_ret (vs := [.bool false]) Try.results33 (rvs_cons (rv_tmp rfl) rvs_nil) ?_
     exact ⟨rfl, hst.keep0⟩
    ·skip
     replace hm := bif_f hc487 hm
     refine wv (.pointer (some ⟨b474, 5, none⟩)) ((wanted_eq rfl rfl rfl (congrArg Value.bool hc487)).trans rfl) rfl (x_field rfl Try.underlying34 rfl Try.sizeOf31 rfl) ?_
     refine wv (r0_2) ((wanted_eq rfl rfl rfl (congrArg Value.bool hc487)).trans rfl) rfl (x_load rfl Try.isAgg31 (hst.bc1 rfl)) ?_
     refine wv (.int .i64 ((a0.Puts).length : Int)) ((wanted_eq rfl rfl rfl (congrArg Value.bool hc487)).trans rfl) rfl (x_len rfl Try.underlying31 (rd_sliceV f0_2)) ?_
     refine wv (.pointer (some ⟨b479, 5, none⟩)) ((wanted_eq rfl rfl rfl (congrArg Value.bool hc487)).trans rfl) rfl (x_field rfl Try.underlying34 rfl Try.sizeOf31 rfl) ?_
     refine wv (r1_2) ((wanted_eq rfl rfl rfl (congrArg Value.bool hc487)).trans rfl) rfl (x_load rfl Try.isAgg31 (hst.bc0 rfl)) ?_
     refine wv (.int .i64 ((a1.Puts).length : Int)) ((wanted_eq rfl rfl rfl (congrArg Value.bool hc487)).trans rfl) rfl (x_len rfl Try.underlying31 (rd_sliceV f1_2)) ?_
     refine wv (.bool (((a0.Puts).length : Int) != ((a1.Puts).length : Int))) ((wanted_eq rfl rfl rfl (congrArg Value.bool hc487)).trans rfl) rfl rfl ?_
     refine wv (.bool (((a0.Puts).length : Int) != ((a1.Puts).length : Int))) rfl rfl (x_pick_f hc487 rfl rfl) ?_
     refine wv (.bool (((a0.Puts).length : Int) != ((a1.Puts).length : Int))) rfl rfl rfl ?_
     refine bsplit (((a0.Puts).length : Int) != ((a1.Puts).length : Int)) (fun hc488 => ?_) (fun hc488 => ?_)
     ·skip
      replace hm := bif_t hc488 hm
      refine wo hc488 rfl rfl rfl rfl rfl rfl ?_
      refine wo hc488 rfl rfl rfl rfl rfl rfl ?_
      refine wo hc488 rfl rfl rfl rfl rfl rfl ?_
      refine wo hc488 rfl rfl rfl rfl rfl rfl ?_
      refine wo hc488 rfl rfl rfl rfl rfl rfl ?_
      refine wo hc488 rfl rfl rfl rfl rfl rfl ?_
      refine wo hc488 rfl rfl rfl rfl rfl rfl ?_
      refine wv (.bool true) rfl rfl (x_pick_t hc488 rfl rfl) ?_
      refine wl_nil (then_n ?_)
      refine wp_ift rfl ?_
      refine wp_seq (wp_region_lit ?_)
      refine wv (.bool false) rfl rfl rfl ?_
      refine wl_nil (then_n (wp_ret (then_r ?_)))
      obtain rfl := some_inj hm
      refine post_ret (vs := [.bool false]) Try.results33 (rvs_cons (rv_tmp rfl) rvs_nil) ?_
      exact ⟨rfl, hst.keep0⟩
     ·skip
      replace hm := bif_f hc488 hm
      refine wv (.pointer (some ⟨b474, 6, none⟩)) ((wanted_eq rfl rfl rfl (congrArg Value.bool hc488)).trans rfl) rfl (x_field rfl Try.underlying34 rfl Try.sizeOf22 rfl) ?_
      refine wv (r0_3) ((wanted_eq rfl rfl rfl (congrArg Value.bool hc488)).trans rfl) rfl (x_load rfl Try.isAgg22 (hst.bc1 rfl)) ?_
      refine wv (.string (toStr a0.Data)) ((wanted_eq rfl rfl rfl (congrArg Value.bool hc488)).trans rfl) rfl (x_tostr Try.underlying22 Try.underlying9 Try.underlying5 rfl (Src.of_rd hst f0_3 flat_int)) ?_
      refine wv (.pointer (some ⟨b479, 6, none⟩)) ((wanted_eq rfl rfl rfl (congrArg Value.bool hc488)).trans rfl) rfl (x_field rfl Try.underlying34 rfl Try.sizeOf22 rfl) ?_
      refine wv (r1_3) ((wanted_eq rfl rfl rfl (congrArg Value.bool hc488)).trans rfl) rfl (x_load rfl Try.isAgg22 (hst.bc0 rfl)) ?_
      refine wv (.string (toStr a1.Data)) ((wanted_eq rfl rfl rfl (congrArg Value.bool hc488)).trans rfl) rfl (x_tostr Try.underlying22 Try.underlying9 Try.underlying5 rfl (Src.of_rd hst f1_3 flat_int)) ?_
      refine wv (.bool (!(sEq (toStr a0.Data) (toStr a1.Data)))) ((wanted_eq rfl rfl rfl (congrArg Value.bool hc488)).trans rfl) rfl (by kernel_rfl) ?_
      refine wv (.bool (!(sEq (toStr a0.Data) (toStr a1.Data)))) rfl rfl (x_pick_f hc488 rfl rfl) ?_
      refine wl_nil (then_n ?_)
      refine bsplit (!(sEq (toStr a0.Data) (toStr a1.Data))) (fun hc489 => ?_) (fun hc489 => ?_)
      ·skip
       replace hm := bif_t hc489 hm
       refine wp_ift (congrArg Value.bool hc489) ?_
       refine wp_seq (wp_region_lit ?_)
       refine wv (.bool false) rfl rfl rfl ?_
       refine wl_nil (then_n (wp_ret (then_r ?_)))
       obtain rfl := some_inj hm
       refine post_ret (vs := [.bool false]) Try.results33 (rvs_cons (rv_tmp rfl) rvs_nil) ?_
       exact ⟨rfl, hst.keep0⟩
      ·skip
       replace hm := bif_f hc489 hm
       refine wp_iff (congrArg Value.bool hc489) ?_
       refine wp_skip (then_n ?_)
       obtain ⟨y553, hm, hx554⟩ := joinO_some hm
       refine wp_cut (fun a w => ∃ (σ551 : Nat → Value), (ref11_SameHold_j0 a0 a1) () = some r ∧ a = Fr 131 (upd (upd σ551 2 (.pointer (some ⟨b474, 0, none⟩))) 3 (.pointer (some ⟨b479, 0, none⟩))) ∧ St w0 w I [cells b474 [.int .u64 a0.ID.Session, .int .u64 a0.ID.Seq, .int .u64 a0.Epoch, r0_0, r0_1, r0_2, r0_3], cells b479 [.int .u64 a1.ID.Session, .int .u64 a1.ID.Seq, .int .u64 a1.Epoch, r1_0, r1_1, r1_2, r1_3]] R) ?_ ?_
       ·skip
        refine wp_seq (wp_region_lit ?_)
        refine wv (.int .i64 (0:Int)) rfl rfl rfl ?_
        refine wl_nil (then_n (wp_block ?_))
        obtain ⟨n527, hm⟩ := loopO_some hm
        refine wp_loop_n (fun n a w => ∃ (z525 : Int) (σ526 : Nat → Value), loopN (ref11_SameHold_l1 a0 a1) n z525 = some y553 ∧ a = Fr 131 (upd (upd (upd σ526 2 (.pointer (some ⟨b474, 0, none⟩))) 3 (.pointer (some ⟨b479, 0, none⟩))) 5 (.int .i64 z525)) ∧ St w0 w I [cells b479 [.int .u64 a1.ID.Session, .int .u64 a1.ID.Seq, .int .u64 a1.Epoch, r1_0, r1_1, r1_2, r1_3], cells b474 [.int .u64 a0.ID.Session, .int .u64 a0.ID.Seq, .int .u64 a0.Epoch, r0_0, r0_1, r0_2, r0_3]] R) n527 ⟨(0:Int), _, hm, ((fr_upd (t := 2) (v := .pointer (some ⟨b474, 0, none⟩)) rfl).trans ((fr_upd (t := 3) (v := .pointer (some ⟨b479, 0, none⟩)) rfl).trans ((fr_upd (t := 5) (v := .int .i64 (0:Int)) rfl).trans rfl))), hst⟩ ?_
        rintro n533 _ w528 ⟨z525, σ526, hm, rfl, hst⟩
        obtain ⟨n530, y531, rfl, hm, hx532⟩ := loopN_some hm
        dsimp only [ref11_SameHold_l1] at hm
        refine wp_seq (wp_seq (wp_region_lit ?_))
        refine wv (.int .i64 z525) rfl rfl rfl ?_
        refine wv (.pointer (some ⟨b474, 3, none⟩)) rfl rfl (x_field rfl Try.underlying34 rfl Try.sizeOf31 rfl) ?_
        refine wv (r0_0) rfl rfl (x_load rfl Try.isAgg31 (hst.bc1 rfl)) ?_
        refine wv (.int .i64 ((a0.Gets).length : Int)) rfl rfl (x_len rfl Try.underlying31 (rd_sliceV f0_0)) ?_
        refine wv (.bool (decide (z525 < ((a0.Gets).length : Int)))) rfl rfl rfl ?_
        refine wl_nil (then_n ?_)
        refine bsplit (decide (z525 < ((a0.Gets).length : Int))) (fun hc534 => ?_) (fun hc534 => ?_)
        ·skip
         replace hm := bif_t hc534 hm
         refine wp_ift (congrArg Value.bool hc534) ?_
         refine wp_skip (then_n (wp_seq (wp_block (wp_seq ?_))))
         refine wp_region_St hst 12 [0, 1, 2, 3, 4, 5, 6, 7, 8, 9, 10, 11] [0, 1, 0, 7, 15, 0, 32, 0, 224, 480, 1023, 2047] [] rfl (by kernel_rfl) (by kernel_rfl) Try.mixed (by kernel_rfl) ?_
         refine wsr (.pointer (some ⟨b474, 3, none⟩)) 0 rfl rfl rfl (by kernel_rfl) (fun w hst => x_field rfl Try.underlying34 rfl Try.sizeOf31 rfl) ?_
         refine wsr (r0_0) 1 rfl rfl rfl (by kernel_rfl) (fun w hst => x_load rfl Try.isAgg31 (hst.bc1 rfl)) ?_
         refine wsr (.int .i64 z525) 2 rfl rfl rfl (by kernel_rfl) (fun w hst => rfl) ?_
         obtain ⟨x535, hx536, hm⟩ := bind_some hm
         obtain ⟨h537, h538, hi539⟩ := geto_some hx536
         refine wsr (.pointer (some (eAddr r0_0 (z525.toNat * 1 + 0)))) 3 rfl rfl rfl (by kernel_rfl) (fun w hst => x_index rfl rfl Try.underlying31 Try.sizeOf41 (rd_sliceV f0_0) h537 h538) ?_
         refine wsr (.float .f64 x535) 4 rfl rfl rfl (by kernel_rfl) (fun w hst => x_load rfl Try.isAgg41 (rd_load f0_0 (HL.le.refl _) hst hi539 (by rintro _ rfl; rfl))) ?_
         refine wsr (.pointer (some ⟨b479, 3, none⟩)) 5 rfl rfl rfl (by kernel_rfl) (fun w hst => x_field rfl Try.underlying34 rfl Try.sizeOf31 rfl) ?_
         refine wsr (r1_0) 6 rfl rfl rfl (by kernel_rfl) (fun w hst => x_load rfl Try.isAgg31 (hst.bc0 rfl)) ?_
         refine wsr (.int .i64 z525) 7 rfl rfl rfl (by kernel_rfl) (fun w hst => rfl) ?_
         obtain ⟨x540, hx541, hm⟩ := bind_some hm
         obtain ⟨h542, h543, hi544⟩ := geto_some hx541
         refine wsr (.pointer (some (eAddr r1_0 (z525.toNat * 1 + 0)))) 8 rfl rfl rfl (by kernel_rfl) (fun w hst => x_index rfl rfl Try.underlying31 Try.sizeOf41 (rd_sliceV f1_0) h542 h543) ?_
         refine wsr (.float .f64 x540) 9 rfl rfl rfl (by kernel_rfl) (fun w hst => x_load rfl Try.isAgg41 (rd_load f1_0 (HL.le.refl _) hst hi544 (by rintro _ rfl; rfl))) ?_
         refine ws_e1 10 (by kernel_rfl) ?_
         refine nxe [11] (by kernel_rfl) rfl rfl ?_
         clear hst
         intro w hst
         obtain ⟨t545, ht546, hm⟩ := bind_some hm
         refine we_call rfl (x_call Try.call62 rfl (vs := [.float .f64 x535, .float .f64 x540]) rfl) ?_
         refine (ref01_Same_ref hst.to0 ht546).mono ?_
         rintro _ w547 ⟨rfl, hst⟩
         refine ⟨_, rfl, ?_⟩
         replace hst := hst.of0
         refine ws_next (pend' := []) hst (by kernel_rfl) pk_nil ?_
         refine wsr (.bool (!t545)) 11 rfl rfl rfl (by kernel_rfl) (fun w hst => rfl) ?_
         refine ws_nil ?_
         intro w hst
         refine then_n ?_
         refine bsplit (!t545) (fun hc550 => ?_) (fun hc550 => ?_)
         ·skip
          replace hm := bif_t hc550 hm
          refine wp_ift (congrArg Value.bool hc550) ?_
          refine wp_seq (wp_region_lit ?_)
          refine wv (.bool false) rfl rfl rfl ?_
          refine wl_nil (then_n (wp_ret (blk_r (then_r (then_r ?_)))))
          replace hm := inr_up hm hx532
          refine blk_r (then_r ?_)
          replace hm := inr_up hm hx554
          obtain rfl := some_inj hm
          refine post_ret (vs := [.bool false]) Try.results33 (rvs_cons (rv_tmp rfl) rvs_nil) ?_
          exact ⟨rfl, hst.keep0⟩
         ·skip
          replace hm := bif_f hc550 hm
          refine wp_iff (congrArg Value.bool hc550) ?_
          refine wp_skip (blk_n (then_n (wp_region_lit ?_)))
          refine wv (.int .i64 z525) rfl rfl rfl ?_
          refine wv (.int .i64 (IntKind.i64.wrap (z525 + (1:Int)))) rfl rfl rfl ?_
          refine wv (.int .i64 (IntKind.i64.wrap (z525 + (1:Int)))) rfl rfl rfl ?_
          refine wl_nil (then_n ?_)
          replace hst := hst.pull1
          replace hst := hst.pull1
          replace hst := hst.keep2
          obtain rfl := some_inj hm
          exact ⟨_, Nat.lt_succ_self _, (IntKind.i64.wrap (z525 + (1:Int))), _, hx532, ((fr_upd (t := 2) (v := .pointer (some ⟨b474, 0, none⟩)) rfl).trans ((fr_upd (t := 3) (v := .pointer (some ⟨b479, 0, none⟩)) rfl).trans ((fr_upd (t := 5) (v := .int .i64 (IntKind.i64.wrap (z525 + (1:Int)))) rfl).trans rfl))), hst⟩
        ·skip
         replace hm := bif_f hc534 hm
         refine wp_iff (congrArg Value.bool hc534) ?_
         refine wp_exit (then_x (then_x ?_))
         replace hm := inr_up hm hx532
         refine blk_x (then_n ?_)
         replace hst := hst.pull1
         replace hst := hst.keep2
         obtain rfl := some_inj hm
         exact ⟨_, hx554, ((fr_upd (t := 2) (v := .pointer (some ⟨b474, 0, none⟩)) rfl).trans ((fr_upd (t := 3) (v := .pointer (some ⟨b479, 0, none⟩)) rfl).trans rfl)), hst⟩
       ·skip
        clear hst
        rintro _ w555 ⟨σ551, hm, rfl, hst⟩
        dsimp only [ref11_SameHold_j0] at hm
        obtain ⟨y637, hm, hx638⟩ := joinO_some hm
        refine wp_cut (fun a w => ∃ (σ635 : Nat → Value), (ref11_SameHold_j2 a0 a1) () = some r ∧ a = Fr 131 (upd (upd σ635 2 (.pointer (some ⟨b474, 0, none⟩))) 3 (.pointer (some ⟨b479, 0, none⟩))) ∧ St w0 w I [cells b474 [.int .u64 a0.ID.Session, .int .u64 a0.ID.Seq, .int .u64 a0.Epoch, r0_0, r0_1, r0_2, r0_3], cells b479 [.int .u64 a1.ID.Session, .int .u64 a1.ID.Seq, .int .u64 a1.Epoch, r1_0, r1_1, r1_2, r1_3]] R) ?_ ?_
        ·skip
         refine wp_seq (wp_region_lit ?_)
         refine wv (.int .i64 (0:Int)) rfl rfl rfl ?_
         refine wl_nil (then_n (wp_block ?_))
         obtain ⟨n605, hm⟩ := loopO_some hm
         refine wp_loop_n (fun n a w => ∃ (z603 : Int) (σ604 : Nat → Value), loopN (ref11_SameHold_l3 a0 a1) n z603 = some y637 ∧ a = Fr 131 (upd (upd (upd σ604 2 (.pointer (some ⟨b474, 0, none⟩))) 3 (.pointer (some ⟨b479, 0, none⟩))) 6 (.int .i64 z603)) ∧ St w0 w I [cells b474 [.int .u64 a0.ID.Session, .int .u64 a0.ID.Seq, .int .u64 a0.Epoch, r0_0, r0_1, r0_2, r0_3], cells b479 [.int .u64 a1.ID.Session, .int .u64 a1.ID.Seq, .int .u64 a1.Epoch, r1_0, r1_1, r1_2, r1_3]] R) n605 ⟨(0:Int), _, hm, ((fr_upd (t := 2) (v := .pointer (some ⟨b474, 0, none⟩)) rfl).trans ((fr_upd (t := 3) (v := .pointer (some ⟨b479, 0, none⟩)) rfl).trans ((fr_upd (t := 6) (v := .int .i64 (0:Int)) rfl).trans rfl))), hst⟩ ?_
         rintro n611 _ w606 ⟨z603, σ604, hm, rfl, hst⟩
         obtain ⟨n608, y609, rfl, hm, hx610⟩ := loopN_some hm
         dsimp only [ref11_SameHold_l3] at hm
         refine wp_seq (wp_seq (wp_region_lit ?_))
         refine wv (.int .i64 z603) rfl rfl rfl ?_
         refine wv (.pointer (some ⟨b474, 4, none⟩)) rfl rfl (x_field rfl Try.underlying34 rfl Try.sizeOf32 rfl) ?_
         refine wv (r0_1) rfl rfl (x_load rfl Try.isAgg32 (hst.bc0 rfl)) ?_
         refine wv (.int .i64 ((a0.Scans).length : Int)) rfl rfl (x_len rfl Try.underlying32 (rd_sliceV f0_1)) ?_
         refine wv (.bool (decide (z603 < ((a0.Scans).length : Int)))) rfl rfl rfl ?_
         refine wl_nil (then_n ?_)
         refine bsplit (decide (z603 < ((a0.Scans).length : Int))) (fun hc612 => ?_) (fun hc612 => ?_)
         ·skip
          replace hm := bif_t hc612 hm
          refine wp_ift (congrArg Value.bool hc612) ?_
          refine wp_skip (then_n (wp_seq (wp_block (wp_seq ?_))))
          refine wp_region_St hst 30 [0, 1, 2, 3, 4, 5, 6, 7, 8, 9, 10, 11, 12, 13, 14, 15, 16, 17, 18, 19, 20, 21, 22, 23, 24, 25, 26, 27, 28, 29] [0, 1, 0, 7, 15, 31, 0, 64, 0, 448, 960, 1984, 4095, 8191, 16383, 32767, 65535, 32767, 262143, 524287, 1048575, 32767, 2129919, 32767, 14712831, 31490047, 65044479, 134217727, 268435455, 536870911] [] rfl (by kernel_rfl) (by kernel_rfl) Try.mixed (by kernel_rfl) ?_
          refine wsr (.pointer (some ⟨b474, 4, none⟩)) 0 rfl rfl rfl (by kernel_rfl) (fun w hst => x_field rfl Try.underlying34 rfl Try.sizeOf32 rfl) ?_
          refine wsr (r0_1) 1 rfl rfl rfl (by kernel_rfl) (fun w hst => x_load rfl Try.isAgg32 (hst.bc0 rfl)) ?_
          refine wsr (.int .i64 z603) 2 rfl rfl rfl (by kernel_rfl) (fun w hst => rfl) ?_
          obtain ⟨x613, hx614, hm⟩ := bind_some hm
          obtain ⟨h615, h616, hi617⟩ := geto_some hx614
          refine wsr (.pointer (some (eAddr r0_1 (z603.toNat * 2 + 0)))) 3 rfl rfl rfl (by kernel_rfl) (fun w hst => x_index rfl rfl Try.underlying32 Try.sizeOf111 (rd_sliceV f0_1) h615 h616) ?_
          refine wsr (.pointer (some (eAddr r0_1 (z603.toNat * 2 + 0)))) 4 rfl rfl rfl (by kernel_rfl) (fun w hst => x_index_arr_e (i := (0:Int)) rfl rfl Try.underlying111 Try.sizeOf41 (by decide) (by decide) rfl) ?_
          refine wsr (.float .f64 x613.1) 5 rfl rfl rfl (by kernel_rfl) (fun w hst => x_load rfl Try.isAgg41 (rd_load f0_1 (HL.le.refl _) hst hi617 (by rintro _ rfl; rfl))) ?_
          refine wsr (.pointer (some ⟨b479, 4, none⟩)) 6 rfl rfl rfl (by kernel_rfl) (fun w hst => x_field rfl Try.underlying34 rfl Try.sizeOf32 rfl) ?_
          refine wsr (r1_1) 7 rfl rfl rfl (by kernel_rfl) (fun w hst => x_load rfl Try.isAgg32 (hst.bc1 rfl)) ?_
          refine wsr (.int .i64 z603) 8 rfl rfl rfl (by kernel_rfl) (fun w hst => rfl) ?_
          obtain ⟨x618, hx619, hm⟩ := bind_some hm
          obtain ⟨h620, h621, hi622⟩ := geto_some hx619
          refine wsr (.pointer (some (eAddr r1_1 (z603.toNat * 2 + 0)))) 9 rfl rfl rfl (by kernel_rfl) (fun w hst => x_index rfl rfl Try.underlying32 Try.sizeOf111 (rd_sliceV f1_1) h620 h621) ?_
          refine wsr (.pointer (some (eAddr r1_1 (z603.toNat * 2 + 0)))) 10 rfl rfl rfl (by kernel_rfl) (fun w hst => x_index_arr_e (i := (0:Int)) rfl rfl Try.underlying111 Try.sizeOf41 (by decide) (by decide) rfl) ?_
          refine wsr (.float .f64 x618.1) 11 rfl rfl rfl (by kernel_rfl) (fun w hst => x_load rfl Try.isAgg41 (rd_load f1_1 (HL.le.refl _) hst hi622 (by rintro _ rfl; rfl))) ?_
          refine ws_e1 12 (by kernel_rfl) ?_
          refine nxe [13, 14, 15, 16, 17, 18, 19, 20, 21, 22, 23, 24, 25, 26, 27, 28, 29] (by kernel_rfl) rfl rfl ?_
          clear hst
          intro w hst
          obtain ⟨t623, ht624, hm⟩ := bind_some hm
          refine we_call rfl (x_call Try.call62 rfl (vs := [.float .f64 x613.1, .float .f64 x618.1]) rfl) ?_
          refine (ref01_Same_ref hst.to0 ht624).mono ?_
          rintro _ w625 ⟨rfl, hst⟩
          refine ⟨_, rfl, ?_⟩
          replace hst := hst.of0
          refine ws_next (pend' := []) hst (by kernel_rfl) pk_nil ?_
          refine wsr (.bool (!t623)) 13 rfl rfl rfl (by kernel_rfl) (fun w hst => rfl) ?_
          refine wsr (.bool (!t623)) 14 rfl rfl rfl (by kernel_rfl) (fun w hst => rfl) ?_
          refine bsplit (!t623) (fun hc628 => ?_) (fun hc628 => ?_)
          ·skip
           replace hm := bif_t hc628 hm
           refine ws_q (v := undef) 15 [16, 17, 18, 19, 20, 21, 22, 23, 24, 25, 26, 27, 28, 29] (by kernel_rfl) rfl rfl (yi_off ((wanted_eq rfl rfl rfl (congrArg Value.bool hc628)).trans rfl)) ?_
           refine ws_q (v := undef) 16 [17, 18, 19, 20, 21, 22, 23, 24, 25, 26, 27, 28, 29] (by kernel_rfl) rfl rfl (yi_off ((wanted_eq rfl rfl rfl (congrArg Value.bool hc628)).trans rfl)) ?_
           refine ws_q (v := undef) 17 [18, 19, 20, 21, 22, 23, 24, 25, 26, 27, 28, 29] (by kernel_rfl) rfl rfl (yi_off ((wanted_eq rfl rfl rfl (congrArg Value.bool hc628)).trans rfl)) ?_
           refine ws_q (v := undef) 18 [19, 20, 21, 22, 23, 24, 25, 26, 27, 28, 29] (by kernel_rfl) rfl rfl (yi_off ((wanted_eq rfl rfl rfl (congrArg Value.bool hc628)).trans rfl)) ?_
           refine ws_q (v := undef) 19 [20, 21, 22, 23, 24, 25, 26, 27, 28, 29] (by kernel_rfl) rfl rfl (yi_off ((wanted_eq rfl rfl rfl (congrArg Value.bool hc628)).trans rfl)) ?_
           refine ws_q (v := undef) 20 [21, 22, 23, 24, 25, 26, 27, 28, 29] (by kernel_rfl) rfl rfl (yi_off ((wanted_eq rfl rfl rfl (congrArg Value.bool hc628)).trans rfl)) ?_
           refine ws_q (v := undef) 21 [22, 23, 24, 25, 26, 27, 28, 29] (by kernel_rfl) rfl rfl (yi_off ((wanted_eq rfl rfl rfl (congrArg Value.bool hc628)).trans rfl)) ?_
           refine ws_q (v := undef) 22 [23, 24, 25, 26, 27, 28, 29] (by kernel_rfl) rfl rfl (yi_off ((wanted_eq rfl rfl rfl (congrArg Value.bool hc628)).trans rfl)) ?_
           refine ws_q (v := undef) 23 [24, 25, 26, 27, 28, 29] (by kernel_rfl) rfl rfl (yi_off ((wanted_eq rfl rfl rfl (congrArg Value.bool hc628)).trans rfl)) ?_
           refine ws_q (v := undef) 24 [25, 26, 27, 28, 29] (by kernel_rfl) rfl rfl (yi_off ((wanted_eq rfl rfl rfl (congrArg Value.bool hc628)).trans rfl)) ?_
           refine ws_q (v := undef) 25 [26, 27, 28, 29] (by kernel_rfl) rfl rfl (yi_off ((wanted_eq rfl rfl rfl (congrArg Value.bool hc628)).trans rfl)) ?_
           refine ws_q (v := undef) 26 [27, 28, 29] (by kernel_rfl) rfl rfl (yi_off ((wanted_eq rfl rfl rfl (congrArg Value.bool hc628)).trans rfl)) ?_
           refine ws_q (v := undef) 27 [28, 29] (by kernel_rfl) rfl rfl (yi_off ((wanted_eq rfl rfl rfl (congrArg Value.bool hc628)).trans rfl)) ?_
           refine ws_q (v := undef) 28 [29] (by kernel_rfl) rfl rfl (yi_off ((wanted_eq rfl rfl rfl (congrArg Value.bool hc628)).trans rfl)) ?_
           refine wsr (.bool true) 29 rfl rfl rfl (by kernel_rfl) (fun w hst => x_pick_t hc628 rfl rfl) ?_
           refine ws_nil ?_
           intro w hst
           refine then_n ?_
           refine wp_ift rfl ?_
           refine wp_seq (wp_region_lit ?_)
           refine wv (.bool false) rfl rfl rfl ?_
           refine wl_nil (then_n (wp_ret (blk_r (then_r (then_r ?_)))))
           replace hm := inr_up hm hx610
           refine blk_r (then_r ?_)
           replace hm := inr_up hm hx638
           obtain rfl := some_inj hm
           refine post_ret (vs := [.bool false]) Try.results33 (rvs_cons (rv_tmp rfl) rvs_nil) ?_
           exact ⟨rfl, hst.keep0⟩
          ·skip
           replace hm := bif_f hc628 hm
           refine ws_q (v := .pointer (some ⟨b474, 4, none⟩)) 15 [16, 17, 18, 19, 20, 21, 22, 23, 24, 25, 26, 27, 28, 29] (by kernel_rfl) rfl rfl (yi_run ((wanted_eq rfl rfl rfl (congrArg Value.bool hc628)).trans rfl) (fun w hst => x_field rfl Try.underlying34 rfl Try.sizeOf32 rfl)) ?_
           refine ws_q (v := r0_1) 16 [17, 18, 19, 20, 21, 22, 23, 24, 25, 26, 27, 28, 29] (by kernel_rfl) rfl rfl (yi_run ((wanted_eq rfl rfl rfl (congrArg Value.bool hc628)).trans rfl) (fun w hst => x_load rfl Try.isAgg32 (hst.bc0 rfl))) ?_
           refine ws_q (v := .int .i64 z603) 17 [18, 19, 20, 21, 22, 23, 24, 25, 26, 27, 28, 29] (by kernel_rfl) rfl rfl (yi_run ((wanted_eq rfl rfl rfl (congrArg Value.bool hc628)).trans rfl) (fun w hst => rfl)) ?_
           refine ws_q (v := .pointer (some (eAddr r0_1 (z603.toNat * 2 + 0)))) 18 [19, 20, 21, 22, 23, 24, 25, 26, 27, 28, 29] (by kernel_rfl) rfl rfl (yi_run ((wanted_eq rfl rfl rfl (congrArg Value.bool hc628)).trans rfl) (fun w hst => x_index rfl rfl Try.underlying32 Try.sizeOf111 (rd_sliceV f0_1) h615 h616)) ?_
           refine ws_q (v := .pointer (some (eAddr r0_1 (z603.toNat * 2 + 1)))) 19 [20, 21, 22, 23, 24, 25, 26, 27, 28, 29] (by kernel_rfl) rfl rfl (yi_run ((wanted_eq rfl rfl rfl (congrArg Value.bool hc628)).trans rfl) (fun w hst => x_index_arr_e (i := (1:Int)) rfl rfl Try.underlying111 Try.sizeOf41 (by decide) (by decide) rfl)) ?_
           refine ws_q (v := .float .f64 x613.2) 20 [21, 22, 23, 24, 25, 26, 27, 28, 29] (by kernel_rfl) rfl rfl (yi_run ((wanted_eq rfl rfl rfl (congrArg Value.bool hc628)).trans rfl) (fun w hst => x_load rfl Try.isAgg41 (rd_load f0_1 (HL.le.refl _) hst hi617 (by rintro _ rfl; rfl)))) ?_
           refine ws_q (v := .pointer (some ⟨b479, 4, none⟩)) 21 [22, 23, 24, 25, 26, 27, 28, 29] (by kernel_rfl) rfl rfl (yi_run ((wanted_eq rfl rfl rfl (congrArg Value.bool hc628)).trans rfl) (fun w hst => x_field rfl Try.underlying34 rfl Try.sizeOf32 rfl)) ?_
           refine ws_q (v := r1_1) 22 [23, 24, 25, 26, 27, 28, 29] (by kernel_rfl) rfl rfl (yi_run ((wanted_eq rfl rfl rfl (congrArg Value.bool hc628)).trans rfl) (fun w hst => x_load rfl Try.isAgg32 (hst.bc1 rfl))) ?_
           refine ws_q (v := .int .i64 z603) 23 [24, 25, 26, 27, 28, 29] (by kernel_rfl) rfl rfl (yi_run ((wanted_eq rfl rfl rfl (congrArg Value.bool hc628)).trans rfl) (fun w hst => rfl)) ?_
           refine ws_q (v := .pointer (some (eAddr r1_1 (z603.toNat * 2 + 0)))) 24 [25, 26, 27, 28, 29] (by kernel_rfl) rfl rfl (yi_run ((wanted_eq rfl rfl rfl (congrArg Value.bool hc628)).trans rfl) (fun w hst => x_index rfl rfl Try.underlying32 Try.sizeOf111 (rd_sliceV f1_1) h620 h621)) ?_
           refine ws_q (v := .pointer (some (eAddr r1_1 (z603.toNat * 2 + 1)))) 25 [26, 27, 28, 29] (by kernel_rfl) rfl rfl (yi_run ((wanted_eq rfl rfl rfl (congrArg Value.bool hc628)).trans rfl) (fun w hst => x_index_arr_e (i := (1:Int)) rfl rfl Try.underlying111 Try.sizeOf41 (by decide) (by decide) rfl)) ?_
           refine ws_q (v := .float .f64 x618.2) 26 [27, 28, 29] (by kernel_rfl) rfl rfl (yi_run ((wanted_eq rfl rfl rfl (congrArg Value.bool hc628)).trans rfl) (fun w hst => x_load rfl Try.isAgg41 (rd_load f1_1 (HL.le.refl _) hst hi622 (by rintro _ rfl; rfl)))) ?_
           refine ws_e1 27 (by kernel_rfl) ?_
           refine nxe [28, 29] (by kernel_rfl) rfl ((wanted_eq rfl rfl rfl (congrArg Value.bool hc628)).trans rfl) ?_
           clear hst
           intro w hst
           obtain ⟨t629, ht630, hm⟩ := bind_some hm
           refine we_call rfl (x_call Try.call62 rfl (vs := [.float .f64 x613.2, .float .f64 x618.2]) rfl) ?_
           refine (ref01_Same_ref hst.to0 ht630).mono ?_
           rintro _ w631 ⟨rfl, hst⟩
           refine ⟨_, rfl, ?_⟩
           replace hst := hst.of0
           refine ws_next (pend' := []) hst (by kernel_rfl) pk_nil ?_
           refine ws_q (v := .bool (!t629)) 28 [29] (by kernel_rfl) rfl rfl (yi_run ((wanted_eq rfl rfl rfl (congrArg Value.bool hc628)).trans rfl) (fun w hst => rfl)) ?_
           refine wsr (.bool (!t629)) 29 rfl rfl rfl (by kernel_rfl) (fun w hst => x_pick_f hc628 rfl rfl) ?_
           refine ws_nil ?_
           intro w hst
           refine then_n ?_
           refine bsplit (!t629) (fun hc634 => ?_) (fun hc634 => ?_)
           ·skip
            replace hm := bif_t hc634 hm
            refine wp_ift (congrArg Value.bool hc634) ?_
            refine wp_seq (wp_region_lit ?_)
            refine wv (.bool false) rfl rfl rfl ?_
            refine wl_nil (then_n (wp_ret (blk_r (then_r (then_r ?_)))))
            replace hm := inr_up hm hx610
            refine blk_r (then_r ?_)
            replace hm := inr_up hm hx638
            obtain rfl := some_inj hm
            refine post_ret (vs := [.bool false]) Try.results33 (rvs_cons (rv_tmp rfl) rvs_nil) ?_
            exact ⟨rfl, hst.keep0⟩
           ·skip
            replace hm := bif_f hc634 hm
            refine wp_iff (congrArg Value.bool hc634) ?_
            refine wp_skip (blk_n (then_n (wp_region_lit ?_)))
            refine wv (.int .i64 z603) rfl rfl rfl ?_
            refine wv (.int .i64 (IntKind.i64.wrap (z603 + (1:Int)))) rfl rfl rfl ?_
            refine wv (.int .i64 (IntKind.i64.wrap (z603 + (1:Int)))) rfl rfl rfl ?_
            refine wl_nil (then_n ?_)
            replace hst := hst.pull1
            replace hst := hst.pull1
            replace hst := hst.keep2
            obtain rfl := some_inj hm
            exact ⟨_, Nat.lt_succ_self _, (IntKind.i64.wrap (z603 + (1:Int))), _, hx610, ((fr_upd (t := 2) (v := .pointer (some ⟨b474, 0, none⟩)) rfl).trans ((fr_upd (t := 3) (v := .pointer (some ⟨b479, 0, none⟩)) rfl).trans ((fr_upd (t := 6) (v := .int .i64 (IntKind.i64.wrap (z603 + (1:Int)))) rfl).trans rfl))), hst⟩
         ·skip
          replace hm := bif_f hc612 hm
          refine wp_iff (congrArg Value.bool hc612) ?_
          refine wp_exit (then_x (then_x ?_))
          replace hm := inr_up hm hx610
          refine blk_x (then_n ?_)
          replace hst := hst.pull1
          replace hst := hst.pull1
          replace hst := hst.keep2
          obtain rfl := some_inj hm
          exact ⟨_, hx638, ((fr_upd (t := 2) (v := .pointer (some ⟨b474, 0, none⟩)) rfl).trans ((fr_upd (t := 3) (v := .pointer (some ⟨b479, 0, none⟩)) rfl).trans rfl)), hst⟩
        ·skip
         clear hst
         rintro _ w639 ⟨σ635, hm, rfl, hst⟩
         dsimp only [ref11_SameHold_j2] at hm
         refine wp_seq (wp_seq (wp_region_lit ?_))
         refine wv (.int .i64 (0:Int)) rfl rfl rfl ?_
         refine wl_nil (then_n (wp_block ?_))
         obtain ⟨n677, hm⟩ := loopO_some hm
         refine wp_loop_n (fun n a w => ∃ (z675 : Int) (σ676 : Nat → Value), loopN (ref11_SameHold_l4 a0 a1) n z675 = some r ∧ a = Fr 131 (upd (upd (upd σ676 2 (.pointer (some ⟨b474, 0, none⟩))) 3 (.pointer (some ⟨b479, 0, none⟩))) 7 (.int .i64 z675)) ∧ St w0 w I [cells b474 [.int .u64 a0.ID.Session, .int .u64 a0.ID.Seq, .int .u64 a0.Epoch, r0_0, r0_1, r0_2, r0_3], cells b479 [.int .u64 a1.ID.Session, .int .u64 a1.ID.Seq, .int .u64 a1.Epoch, r1_0, r1_1, r1_2, r1_3]] R) n677 ⟨(0:Int), _, hm, ((fr_upd (t := 2) (v := .pointer (some ⟨b474, 0, none⟩)) rfl).trans ((fr_upd (t := 3) (v := .pointer (some ⟨b479, 0, none⟩)) rfl).trans ((fr_upd (t := 7) (v := .int .i64 (0:Int)) rfl).trans rfl))), hst⟩ ?_
         rintro n683 _ w678 ⟨z675, σ676, hm, rfl, hst⟩
         obtain ⟨n680, y681, rfl, hm, hx682⟩ := loopN_some hm
         dsimp only [ref11_SameHold_l4] at hm
         refine wp_seq (wp_seq (wp_region_lit ?_))
         refine wv (.int .i64 z675) rfl rfl rfl ?_
         refine wv (.pointer (some ⟨b474, 5, none⟩)) rfl rfl (x_field rfl Try.underlying34 rfl Try.sizeOf31 rfl) ?_
         refine wv (r0_2) rfl rfl (x_load rfl Try.isAgg31 (hst.bc0 rfl)) ?_
         refine wv (.int .i64 ((a0.Puts).length : Int)) rfl rfl (x_len rfl Try.underlying31 (rd_sliceV f0_2)) ?_
         refine wv (.bool (decide (z675 < ((a0.Puts).length : Int)))) rfl rfl rfl ?_
         refine wl_nil (then_n ?_)
         refine bsplit (decide (z675 < ((a0.Puts).length : Int))) (fun hc684 => ?_) (fun hc684 => ?_)
         ·skip
          replace hm := bif_t hc684 hm
          refine wp_ift (congrArg Value.bool hc684) ?_
          refine wp_skip (then_n (wp_seq (wp_block (wp_seq ?_))))
          refine wp_region_St hst 12 [0, 1, 2, 3, 4, 5, 6, 7, 8, 9, 10, 11] [0, 1, 0, 7, 15, 0, 32, 0, 224, 480, 1023, 2047] [] rfl (by kernel_rfl) (by kernel_rfl) Try.mixed (by kernel_rfl) ?_
          refine wsr (.pointer (some ⟨b474, 5, none⟩)) 0 rfl rfl rfl (by kernel_rfl) (fun w hst => x_field rfl Try.underlying34 rfl Try.sizeOf31 rfl) ?_
          refine wsr (r0_2) 1 rfl rfl rfl (by kernel_rfl) (fun w hst => x_load rfl Try.isAgg31 (hst.bc0 rfl)) ?_
          refine wsr (.int .i64 z675) 2 rfl rfl rfl (by kernel_rfl) (fun w hst => rfl) ?_
          obtain ⟨x685, hx686, hm⟩ := bind_some hm
          obtain ⟨h687, h688, hi689⟩ := geto_some hx686
          refine wsr (.pointer (some (eAddr r0_2 (z675.toNat * 1 + 0)))) 3 rfl rfl rfl (by kernel_rfl) (fun w hst => x_index rfl rfl Try.underlying31 Try.sizeOf41 (rd_sliceV f0_2) h687 h688) ?_
          refine wsr (.float .f64 x685) 4 rfl rfl rfl (by kernel_rfl) (fun w hst => x_load rfl Try.isAgg41 (rd_load f0_2 (HL.le.refl _) hst hi689 (by rintro _ rfl; rfl))) ?_
          refine wsr (.pointer (some ⟨b479, 5, none⟩)) 5 rfl rfl rfl (by kernel_rfl) (fun w hst => x_field rfl Try.underlying34 rfl Try.sizeOf31 rfl) ?_
          refine wsr (r1_2) 6 rfl rfl rfl (by kernel_rfl) (fun w hst => x_load rfl Try.isAgg31 (hst.bc1 rfl)) ?_
          refine wsr (.int .i64 z675) 7 rfl rfl rfl (by kernel_rfl) (fun w hst => rfl) ?_
          obtain ⟨x690, hx691, hm⟩ := bind_some hm
          obtain ⟨h692, h693, hi694⟩ := geto_some hx691
          refine wsr (.pointer (some (eAddr r1_2 (z675.toNat * 1 + 0)))) 8 rfl rfl rfl (by kernel_rfl) (fun w hst => x_index rfl rfl Try.underlying31 Try.sizeOf41 (rd_sliceV f1_2) h692 h693) ?_
          refine wsr (.float .f64 x690) 9 rfl rfl rfl (by kernel_rfl) (fun w hst => x_load rfl Try.isAgg41 (rd_load f1_2 (HL.le.refl _) hst hi694 (by rintro _ rfl; rfl))) ?_
          refine ws_e1 10 (by kernel_rfl) ?_
          refine nxe [11] (by kernel_rfl) rfl rfl ?_
          clear hst
          intro w hst
          obtain ⟨t695, ht696, hm⟩ := bind_some hm
          refine we_call rfl (x_call Try.call62 rfl (vs := [.float .f64 x685, .float .f64 x690]) rfl) ?_
          refine (ref01_Same_ref hst.to0 ht696).mono ?_
          rintro _ w697 ⟨rfl, hst⟩
          refine ⟨_, rfl, ?_⟩
          replace hst := hst.of0
          refine ws_next (pend' := []) hst (by kernel_rfl) pk_nil ?_
          refine wsr (.bool (!t695)) 11 rfl rfl rfl (by kernel_rfl) (fun w hst => rfl) ?_
          refine ws_nil ?_
          intro w hst
          refine then_n ?_
          refine bsplit (!t695) (fun hc700 => ?_) (fun hc700 => ?_)
          ·skip
           replace hm := bif_t hc700 hm
           refine wp_ift (congrArg Value.bool hc700) ?_
           refine wp_seq (wp_region_lit ?_)
           refine wv (.bool false) rfl rfl rfl ?_
           refine wl_nil (then_n (wp_ret (blk_r (then_r (then_r ?_)))))
           replace hm := inr_up hm hx682
           refine blk_r (then_r ?_)
           obtain rfl := some_inj hm
           refine post_ret (vs := [.bool false]) Try.results33 (rvs_cons (rv_tmp rfl) rvs_nil) ?_
           exact ⟨rfl, hst.keep0⟩
          ·skip
           replace hm := bif_f hc700 hm
           refine wp_iff (congrArg Value.bool hc700) ?_
           refine wp_skip (blk_n (then_n (wp_region_lit ?_)))
           refine wv (.int .i64 z675) rfl rfl rfl ?_
           refine wv (.int .i64 (IntKind.i64.wrap (z675 + (1:Int)))) rfl rfl rfl ?_
           refine wv (.int .i64 (IntKind.i64.wrap (z675 + (1:Int)))) rfl rfl rfl ?_
           refine wl_nil (then_n ?_)
           replace hst := hst.pull1
           replace hst := hst.pull1
           replace hst := hst.keep2
           obtain rfl := some_inj hm
           exact ⟨_, Nat.lt_succ_self _, (IntKind.i64.wrap (z675 + (1:Int))), _, hx682, ((fr_upd (t := 2) (v := .pointer (some ⟨b474, 0, none⟩)) rfl).trans ((fr_upd (t := 3) (v := .pointer (some ⟨b479, 0, none⟩)) rfl).trans ((fr_upd (t := 7) (v := .int .i64 (IntKind.i64.wrap (z675 + (1:Int)))) rfl).trans rfl))), hst⟩
         ·skip
          replace hm := bif_f hc684 hm
          refine wp_iff (congrArg Value.bool hc684) ?_
          refine wp_exit (then_x (then_x ?_))
          replace hm := inr_up hm hx682
          refine blk_x (then_n (wp_seq (wp_region_lit ?_)))
          refine wv (.bool true) rfl rfl rfl ?_
          refine wl_nil (then_n (wp_ret ?_))
          obtain rfl := some_inj hm
          refine post_ret (vs := [.bool true]) Try.results33 (rvs_cons (rv_tmp rfl) rvs_nil) ?_
          exact ⟨rfl, hst.keep0⟩

theorem ref13_SameWrites_ref {w0 w : World} {I : HL} {R : SP} {a0 : (List api_Write)} {r0_0 : Value} {a1 : (List api_Write)} {r1_0 : Value} (f0_0 : Rd ty_api_Write R I r0_0 a0) (f1_0 : Rd ty_api_Write R I r1_0 a1) (hst : St w0 w I [] R) {r : (Bool)} (hm : ref13_SameWrites a0 a1 = some r) :
  Calls Try.prog 34 #[r0_0, r1_0] w fun e w' => e = .returned (.bool r) ∧ St w0 w' I [] R := by
 unfold ref13_SameWrites at hm
 refine calls_start (args := [r0_0, r1_0]) Try.func34 rfl Try.ntmps34 (Nat.le_of_ble_eq_true rfl) ?_
 refine wp_seq (wp_region_lit ?_)
 refine wv (.bool false) rfl rfl rfl ?_
 refine wl_nil (then_n (wp_seq (wp_seq (wp_region_lit ?_))))
 refine wv (r0_0) rfl rfl rfl ?_
 refine wv (.int .i64 ((a0).length : Int)) rfl rfl (x_len rfl Try.underlying35 (rd_sliceV f0_0)) ?_
 refine wv (r1_0) rfl rfl rfl ?_
 refine wv (.int .i64 ((a1).length : Int)) rfl rfl (x_len rfl Try.underlying35 (rd_sliceV f1_0)) ?_
 refine wv (.bool (((a0).length : Int) != ((a1).length : Int))) rfl rfl rfl ?_
 refine wl_nil (then_n ?_)
 refine bsplit (((a0).length : Int) != ((a1).length : Int)) (fun hc381 => ?_) (fun hc381 => ?_)
 ·skip
  replace hm := bif_t hc381 hm
  refine wp_ift (congrArg Value.bool hc381) ?_
  refine wp_seq (wp_region_lit ?_)
  refine wv (.bool false) rfl rfl rfl ?_
  refine wl_nil (then_n (wp_ret (then_r ?_)))
  obtain rfl := some_inj hm
  refine post_ret (vs := [.bool false]) Try.results34 (rvs_cons (rv_tmp rfl) rvs_nil) ?_
  exact ⟨rfl, hst.keep0⟩
 ·skip
  replace hm := bif_f hc381 hm
  refine wp_iff (congrArg Value.bool hc381) ?_
  refine wp_skip (then_n (wp_seq (wp_seq (wp_region_lit ?_))))
  refine wv (.int .i64 (0:Int)) rfl rfl rfl ?_
  refine wl_nil (then_n (wp_block ?_))
  obtain ⟨n471, hm⟩ := loopO_some hm
  refine wp_loop_n (fun n a w => ∃ (z469 : Int) (σ470 : Nat → Value), loopN (ref13_SameWrites_l0 a0 a1) n z469 = some r ∧ a = Fr 57 (upd (upd (upd σ470 0 (r0_0)) 1 (r1_0)) 5 (.int .i64 z469)) ∧ St w0 w I [] R) n471 ⟨(0:Int), _, hm, ((fr_upd (t := 0) (v := r0_0) rfl).trans ((fr_upd (t := 1) (v := r1_0) rfl).trans ((fr_upd (t := 5) (v := .int .i64 (0:Int)) rfl).trans rfl))), hst⟩ ?_
  rintro n477 _ w472 ⟨z469, σ470, hm, rfl, hst⟩
  obtain ⟨n474, y475, rfl, hm, hx476⟩ := loopN_some hm
  dsimp only [ref13_SameWrites_l0] at hm
  refine wp_seq (wp_seq (wp_region_lit ?_))
  refine wv (.int .i64 z469) rfl rfl rfl ?_
  refine wv (r0_0) rfl rfl rfl ?_
  refine wv (.int .i64 ((a0).length : Int)) rfl rfl (x_len rfl Try.underlying35 (rd_sliceV f0_0)) ?_
  refine wv (.bool (decide (z469 < ((a0).length : Int)))) rfl rfl rfl ?_
  refine wl_nil (then_n ?_)
  refine bsplit (decide (z469 < ((a0).length : Int))) (fun hc478 => ?_) (fun hc478 => ?_)
  ·skip
   replace hm := bif_t hc478 hm
   refine wp_ift (congrArg Value.bool hc478) ?_
   refine wp_skip (then_n (wp_seq (wp_block (wp_seq ?_))))
   refine wp_region_St hst 40 [0, 1, 2, 3, 4, 5, 6, 7, 8, 9, 10, 11, 12, 13, 14, 15, 16, 17, 18, 19, 20, 21, 22, 23, 24, 25, 26, 27, 28, 29, 30, 31, 32, 33, 34, 35, 36, 37, 38, 39] [0, 0, 3, 7, 15, 0, 0, 96, 224, 480, 1023, 2047, 4095, 8191, 8191, 32767, 65535, 131071, 8191, 8191, 794623, 1843199, 3940351, 8388607, 16777215, 33554431, 67108863, 67108863, 268435455, 536870911, 1073741823, 2147483647, 67108863, 67108863, 12952010751, 30131879935, 64491618303, 133211095039, 274877906943, 549755813887] [] rfl (by kernel_rfl) (by kernel_rfl) Try.mixed (by kernel_rfl) ?_
   refine wsr (r0_0) 0 rfl rfl rfl (by kernel_rfl) (fun w hst => rfl) ?_
   refine wsr (.int .i64 z469) 1 rfl rfl rfl (by kernel_rfl) (fun w hst => rfl) ?_
   obtain ⟨x479, hx480, hm⟩ := bind_some hm
   obtain ⟨h481, h482, hi483⟩ := geto_some hx480
   refine wsr (.pointer (some (eAddr r0_0 (z469.toNat * 3 + 0)))) 2 rfl rfl rfl (by kernel_rfl) (fun w hst => x_index rfl rfl Try.underlying35 Try.sizeOf73 (rd_sliceV f0_0) h481 h482) ?_
   refine wsr (.pointer (some (eAddr r0_0 (z469.toNat * 3 + 0)))) 3 rfl rfl rfl (by kernel_rfl) (fun w hst => x_field_e rfl Try.underlying73 rfl Try.sizeOf41 rfl) ?_
   obtain ⟨cs484, hr485, hc486⟩ := Rd.getF f0_0 hi483
   obtain ⟨v487, rfl, f488, -⟩ := hr485
   refine wsr (.float .f64 x479.At) 4 rfl rfl rfl (by kernel_rfl) (fun w hst => x_load rfl Try.isAgg41 ((hc486 (HL.le.refl _) hst) 0 _ rfl)) ?_
   refine wsr (r1_0) 5 rfl rfl rfl (by kernel_rfl) (fun w hst => rfl) ?_
   refine wsr (.int .i64 z469) 6 rfl rfl rfl (by kernel_rfl) (fun w hst => rfl) ?_
   obtain ⟨x490, hx491, hm⟩ := bind_some hm
   obtain ⟨h492, h493, hi494⟩ := geto_some hx491
   refine wsr (.pointer (some (eAddr r1_0 (z469.toNat * 3 + 0)))) 7 rfl rfl rfl (by kernel_rfl) (fun w hst => x_index rfl rfl Try.underlying35 Try.sizeOf73 (rd_sliceV f1_0) h492 h493) ?_
   refine wsr (.pointer (some (eAddr r1_0 (z469.toNat * 3 + 0)))) 8 rfl rfl rfl (by kernel_rfl) (fun w hst => x_field_e rfl Try.underlying73 rfl Try.sizeOf41 rfl) ?_
   obtain ⟨cs495, hr496, hc497⟩ := Rd.getF f1_0 hi494
   obtain ⟨v498, rfl, f499, -⟩ := hr496
   refine wsr (.float .f64 x490.At) 9 rfl rfl rfl (by kernel_rfl) (fun w hst => x_load rfl Try.isAgg41 ((hc497 (HL.le.refl _) hst) 0 _ rfl)) ?_
   refine ws_e1 10 (by kernel_rfl) ?_
   refine nxe [11, 12, 13, 14, 15, 16, 17, 18, 19, 20, 21, 22, 23, 24, 25, 26, 27, 28, 29, 30, 31, 32, 33, 34, 35, 36, 37, 38, 39] (by kernel_rfl) rfl rfl ?_
   clear hst
   intro w hst
   obtain ⟨t501, ht502, hm⟩ := bind_some hm
   refine we_call rfl (x_call Try.call62 rfl (vs := [.float .f64 x479.At, .float .f64 x490.At]) rfl) ?_
   refine (ref01_Same_ref hst.to0 ht502).mono ?_
   rintro _ w503 ⟨rfl, hst⟩
   refine ⟨_, rfl, ?_⟩
   replace hst := hst.of0
   refine ws_next (pend' := []) hst (by kernel_rfl) pk_nil ?_
   refine wsr (.bool (!t501)) 11 rfl rfl rfl (by kernel_rfl) (fun w hst => rfl) ?_
   refine wsr (.bool (!t501)) 12 rfl rfl rfl (by kernel_rfl) (fun w hst => rfl) ?_
   refine bsplit (!t501) (fun hc506 => ?_) (fun hc506 => ?_)
   ·skip
    replace hm := bif_t hc506 hm
    refine ws_q (v := undef) 13 [14, 15, 16, 17, 18, 19, 20, 21, 22, 23, 24, 25, 26, 27, 28, 29, 30, 31, 32, 33, 34, 35, 36, 37, 38, 39] (by kernel_rfl) rfl rfl (yi_off ((wanted_eq rfl rfl rfl (congrArg Value.bool hc506)).trans rfl)) ?_
    refine ws_q (v := undef) 14 [15, 16, 17, 18, 19, 20, 21, 22, 23, 24, 25, 26, 27, 28, 29, 30, 31, 32, 33, 34, 35, 36, 37, 38, 39] (by kernel_rfl) rfl rfl (yi_off ((wanted_eq rfl rfl rfl (congrArg Value.bool hc506)).trans rfl)) ?_
    refine ws_q (v := undef) 15 [16, 17, 18, 19, 20, 21, 22, 23, 24, 25, 26, 27, 28, 29, 30, 31, 32, 33, 34, 35, 36, 37, 38, 39] (by kernel_rfl) rfl rfl (yi_off ((wanted_eq rfl rfl rfl (congrArg Value.bool hc506)).trans rfl)) ?_
    refine ws_q (v := undef) 16 [17, 18, 19, 20, 21, 22, 23, 24, 25, 26, 27, 28, 29, 30, 31, 32, 33, 34, 35, 36, 37, 38, 39] (by kernel_rfl) rfl rfl (yi_off ((wanted_eq rfl rfl rfl (congrArg Value.bool hc506)).trans rfl)) ?_
    refine ws_q (v := undef) 17 [18, 19, 20, 21, 22, 23, 24, 25, 26, 27, 28, 29, 30, 31, 32, 33, 34, 35, 36, 37, 38, 39] (by kernel_rfl) rfl rfl (yi_off ((wanted_eq rfl rfl rfl (congrArg Value.bool hc506)).trans rfl)) ?_
    refine ws_q (v := undef) 18 [19, 20, 21, 22, 23, 24, 25, 26, 27, 28, 29, 30, 31, 32, 33, 34, 35, 36, 37, 38, 39] (by kernel_rfl) rfl rfl (yi_off ((wanted_eq rfl rfl rfl (congrArg Value.bool hc506)).trans rfl)) ?_
    refine ws_q (v := undef) 19 [20, 21, 22, 23, 24, 25, 26, 27, 28, 29, 30, 31, 32, 33, 34, 35, 36, 37, 38, 39] (by kernel_rfl) rfl rfl (yi_off ((wanted_eq rfl rfl rfl (congrArg Value.bool hc506)).trans rfl)) ?_
    refine ws_q (v := undef) 20 [21, 22, 23, 24, 25, 26, 27, 28, 29, 30, 31, 32, 33, 34, 35, 36, 37, 38, 39] (by kernel_rfl) rfl rfl (yi_off ((wanted_eq rfl rfl rfl (congrArg Value.bool hc506)).trans rfl)) ?_
    refine ws_q (v := undef) 21 [22, 23, 24, 25, 26, 27, 28, 29, 30, 31, 32, 33, 34, 35, 36, 37, 38, 39] (by kernel_rfl) rfl rfl (yi_off ((wanted_eq rfl rfl rfl (congrArg Value.bool hc506)).trans rfl)) ?_
    refine ws_q (v := undef) 22 [23, 24, 25, 26, 27, 28, 29, 30, 31, 32, 33, 34, 35, 36, 37, 38, 39] (by kernel_rfl) rfl rfl (yi_off ((wanted_eq rfl rfl rfl (congrArg Value.bool hc506)).trans rfl)) ?_
    refine ws_q (v := undef) 23 [24, 25, 26, 27, 28, 29, 30, 31, 32, 33, 34, 35, 36, 37, 38, 39] (by kernel_rfl) rfl rfl (yi_off ((wanted_eq rfl rfl rfl (congrArg Value.bool hc506)).trans rfl)) ?_
    refine wsr (.bool true) 24 rfl rfl rfl (by kernel_rfl) (fun w hst => x_pick_t hc506 rfl rfl) ?_
    refine wsr (.bool true) 25 rfl rfl rfl (by kernel_rfl) (fun w hst => rfl) ?_
    refine ws_q (v := undef) 26 [27, 28, 29, 30, 31, 32, 33, 34, 35, 36, 37, 38, 39] (by kernel_rfl) rfl rfl (yi_off ((wanted_eq rfl rfl rfl rfl).trans rfl)) ?_
    refine ws_q (v := undef) 27 [28, 29, 30, 31, 32, 33, 34, 35, 36, 37, 38, 39] (by kernel_rfl) rfl rfl (yi_off ((wanted_eq rfl rfl rfl rfl).trans rfl)) ?_
    refine ws_q (v := undef) 28 [29, 30, 31, 32, 33, 34, 35, 36, 37, 38, 39] (by kernel_rfl) rfl rfl (yi_off ((wanted_eq rfl rfl rfl rfl).trans rfl)) ?_
    refine ws_q (v := undef) 29 [30, 31, 32, 33, 34, 35, 36, 37, 38, 39] (by kernel_rfl) rfl rfl (yi_off ((wanted_eq rfl rfl rfl rfl).trans rfl)) ?_
    refine ws_q (v := undef) 30 [31, 32, 33, 34, 35, 36, 37, 38, 39] (by kernel_rfl) rfl rfl (yi_off ((wanted_eq rfl rfl rfl rfl).trans rfl)) ?_
    refine ws_q (v := undef) 31 [32, 33, 34, 35, 36, 37, 38, 39] (by kernel_rfl) rfl rfl (yi_off ((wanted_eq rfl rfl rfl rfl).trans rfl)) ?_
    refine ws_q (v := undef) 32 [33, 34, 35, 36, 37, 38, 39] (by kernel_rfl) rfl rfl (yi_off ((wanted_eq rfl rfl rfl rfl).trans rfl)) ?_
    refine ws_q (v := undef) 33 [34, 35, 36, 37, 38, 39] (by kernel_rfl) rfl rfl (yi_off ((wanted_eq rfl rfl rfl rfl).trans rfl)) ?_
    refine ws_q (v := undef) 34 [35, 36, 37, 38, 39] (by kernel_rfl) rfl rfl (yi_off ((wanted_eq rfl rfl rfl rfl).trans rfl)) ?_
    refine ws_q (v := undef) 35 [36, 37, 38, 39] (by kernel_rfl) rfl rfl (yi_off ((wanted_eq rfl rfl rfl rfl).trans rfl)) ?_
    refine ws_q (v := undef) 36 [37, 38, 39] (by kernel_rfl) rfl rfl (yi_off ((wanted_eq rfl rfl rfl rfl).trans rfl)) ?_
    refine ws_q (v := undef) 37 [38, 39] (by kernel_rfl) rfl rfl (yi_off ((wanted_eq rfl rfl rfl rfl).trans rfl)) ?_
    refine ws_q (v := undef) 38 [39] (by kernel_rfl) rfl rfl (yi_off ((wanted_eq rfl rfl rfl rfl).trans rfl)) ?_
    refine wsr (.bool true) 39 rfl rfl rfl (by kernel_rfl) (fun w hst => x_pick_t rfl rfl rfl) ?_
    refine ws_nil ?_
    intro w hst
    refine then_n ?_
    refine wp_ift rfl ?_
    refine wp_seq (wp_region_lit ?_)
    refine wv (.bool false) rfl rfl rfl ?_
    refine wl_nil (then_n (wp_ret (blk_r (then_r (then_r ?_)))))
    replace hm := inr_up hm hx476
    refine blk_r (then_r ?_)
    obtain rfl := some_inj hm
    refine post_ret (vs := [.bool false]) Try.results34 (rvs_cons (rv_tmp rfl) rvs_nil) ?_
    exact ⟨rfl, hst.keep0⟩
   ·skip
    replace hm := bif_f hc506 hm
    refine ws_q (v := r0_0) 13 [14, 15, 16, 17, 18, 19, 20, 21, 22, 23, 24, 25, 26, 27, 28, 29, 30, 31, 32, 33, 34, 35, 36, 37, 38, 39] (by kernel_rfl) rfl rfl (yi_run ((wanted_eq rfl rfl rfl (congrArg Value.bool hc506)).trans rfl) (fun w hst => rfl)) ?_
    refine ws_q (v := .int .i64 z469) 14 [15, 16, 17, 18, 19, 20, 21, 22, 23, 24, 25, 26, 27, 28, 29, 30, 31, 32, 33, 34, 35, 36, 37, 38, 39] (by kernel_rfl) rfl rfl (yi_run ((wanted_eq rfl rfl rfl (congrArg Value.bool hc506)).trans rfl) (fun w hst => rfl)) ?_
    refine ws_q (v := .pointer (some (eAddr r0_0 (z469.toNat * 3 + 0)))) 15 [16, 17, 18, 19, 20, 21, 22, 23, 24, 25, 26, 27, 28, 29, 30, 31, 32, 33, 34, 35, 36, 37, 38, 39] (by kernel_rfl) rfl rfl (yi_run ((wanted_eq rfl rfl rfl (congrArg Value.bool hc506)).trans rfl) (fun w hst => x_index rfl rfl Try.underlying35 Try.sizeOf73 (rd_sliceV f0_0) h481 h482)) ?_
    refine ws_q (v := .pointer (some (eAddr r0_0 (z469.toNat * 3 + 1)))) 16 [17, 18, 19, 20, 21, 22, 23, 24, 25, 26, 27, 28, 29, 30, 31, 32, 33, 34, 35, 36, 37, 38, 39] (by kernel_rfl) rfl rfl (yi_run ((wanted_eq rfl rfl rfl (congrArg Value.bool hc506)).trans rfl) (fun w hst => x_field_e rfl Try.underlying73 rfl Try.sizeOf4 rfl)) ?_
    obtain ⟨cs507, hr508, hc509⟩ := Rd.getF f0_0 hi483
    obtain ⟨v510, rfl, f511, -⟩ := hr508
    refine ws_q (v := .bool x479.Del) 17 [18, 19, 20, 21, 22, 23, 24, 25, 26, 27, 28, 29, 30, 31, 32, 33, 34, 35, 36, 37, 38, 39] (by kernel_rfl) rfl rfl (yi_run ((wanted_eq rfl rfl rfl (congrArg Value.bool hc506)).trans rfl) (fun w hst => x_load rfl Try.isAgg4 ((hc509 (HL.le.refl _) hst) 1 _ rfl))) ?_
    refine ws_q (v := r1_0) 18 [19, 20, 21, 22, 23, 24, 25, 26, 27, 28, 29, 30, 31, 32, 33, 34, 35, 36, 37, 38, 39] (by kernel_rfl) rfl rfl (yi_run ((wanted_eq rfl rfl rfl (congrArg Value.bool hc506)).trans rfl) (fun w hst => rfl)) ?_
    refine ws_q (v := .int .i64 z469) 19 [20, 21, 22, 23, 24, 25, 26, 27, 28, 29, 30, 31, 32, 33, 34, 35, 36, 37, 38, 39] (by kernel_rfl) rfl rfl (yi_run ((wanted_eq rfl rfl rfl (congrArg Value.bool hc506)).trans rfl) (fun w hst => rfl)) ?_
    refine ws_q (v := .pointer (some (eAddr r1_0 (z469.toNat * 3 + 0)))) 20 [21, 22, 23, 24, 25, 26, 27, 28, 29, 30, 31, 32, 33, 34, 35, 36, 37, 38, 39] (by kernel_rfl) rfl rfl (yi_run ((wanted_eq rfl rfl rfl (congrArg Value.bool hc506)).trans rfl) (fun w hst => x_index rfl rfl Try.underlying35 Try.sizeOf73 (rd_sliceV f1_0) h492 h493)) ?_
    refine ws_q (v := .pointer (some (eAddr r1_0 (z469.toNat * 3 + 1)))) 21 [22, 23, 24, 25, 26, 27, 28, 29, 30, 31, 32, 33, 34, 35, 36, 37, 38, 39] (by kernel_rfl) rfl rfl (yi_run ((wanted_eq rfl rfl rfl (congrArg Value.bool hc506)).trans rfl) (fun w hst => x_field_e rfl Try.underlying73 rfl Try.sizeOf4 rfl)) ?_
    obtain ⟨cs513, hr514, hc515⟩ := Rd.getF f1_0 hi494
    obtain ⟨v516, rfl, f517, -⟩ := hr514
    refine ws_q (v := .bool x490.Del) 22 [23, 24, 25, 26, 27, 28, 29, 30, 31, 32, 33, 34, 35, 36, 37, 38, 39] (by kernel_rfl) rfl rfl (yi_run ((wanted_eq rfl rfl rfl (congrArg Value.bool hc506)).trans rfl) (fun w hst => x_load rfl Try.isAgg4 ((hc515 (HL.le.refl _) hst) 1 _ rfl))) ?_
    refine ws_q (v := .bool (!(x479.Del == x490.Del))) 23 [24, 25, 26, 27, 28, 29, 30, 31, 32, 33, 34, 35, 36, 37, 38, 39] (by kernel_rfl) rfl rfl (yi_run ((wanted_eq rfl rfl rfl (congrArg Value.bool hc506)).trans rfl) (fun w hst => by kernel_rfl)) ?_
    refine wsr (.bool (!(x479.Del == x490.Del))) 24 rfl rfl rfl (by kernel_rfl) (fun w hst => x_pick_f hc506 rfl rfl) ?_
    refine wsr (.bool (!(x479.Del == x490.Del))) 25 rfl rfl rfl (by kernel_rfl) (fun w hst => rfl) ?_
    refine bsplit (!(x479.Del == x490.Del)) (fun hc519 => ?_) (fun hc519 => ?_)
    ·skip
     replace hm := bif_t hc519 hm
     refine ws_q (v := undef) 26 [27, 28, 29, 30, 31, 32, 33, 34, 35, 36, 37, 38, 39] (by kernel_rfl) rfl rfl (yi_off ((wanted_eq rfl rfl rfl (congrArg Value.bool hc519)).trans rfl)) ?_
     refine ws_q (v := undef) 27 [28, 29, 30, 31, 32, 33, 34, 35, 36, 37, 38, 39] (by kernel_rfl) rfl rfl (yi_off ((wanted_eq rfl rfl rfl (congrArg Value.bool hc519)).trans rfl)) ?_
     refine ws_q (v := undef) 28 [29, 30, 31, 32, 33, 34, 35, 36, 37, 38, 39] (by kernel_rfl) rfl rfl (yi_off ((wanted_eq rfl rfl rfl (congrArg Value.bool hc519)).trans rfl)) ?_
     refine ws_q (v := undef) 29 [30, 31, 32, 33, 34, 35, 36, 37, 38, 39] (by kernel_rfl) rfl rfl (yi_off ((wanted_eq rfl rfl rfl (congrArg Value.bool hc519)).trans rfl)) ?_
     refine ws_q (v := undef) 30 [31, 32, 33, 34, 35, 36, 37, 38, 39] (by kernel_rfl) rfl rfl (yi_off ((wanted_eq rfl rfl rfl (congrArg Value.bool hc519)).trans rfl)) ?_
     refine ws_q (v := undef) 31 [32, 33, 34, 35, 36, 37, 38, 39] (by kernel_rfl) rfl rfl (yi_off ((wanted_eq rfl rfl rfl (congrArg Value.bool hc519)).trans rfl)) ?_
     refine ws_q (v := undef) 32 [33, 34, 35, 36, 37, 38, 39] (by kernel_rfl) rfl rfl (yi_off ((wanted_eq rfl rfl rfl (congrArg Value.bool hc519)).trans rfl)) ?_
     refine ws_q (v := undef) 33 [34, 35, 36, 37, 38, 39] (by kernel_rfl) rfl rfl (yi_off ((wanted_eq rfl rfl rfl (congrArg Value.bool hc519)).trans rfl)) ?_
     refine ws_q (v := undef) 34 [35, 36, 37, 38, 39] (by kernel_rfl) rfl rfl (yi_off ((wanted_eq rfl rfl rfl (congrArg Value.bool hc519)).trans rfl)) ?_
     refine ws_q (v := undef) 35 [36, 37, 38, 39] (by kernel_rfl) rfl rfl (yi_off ((wanted_eq rfl rfl rfl (congrArg Value.bool hc519)).trans rfl)) ?_
     refine ws_q (v := undef) 36 [37, 38, 39] (by kernel_rfl) rfl rfl (yi_off ((wanted_eq rfl rfl rfl (congrArg Value.bool hc519)).trans rfl)) ?_
     refine ws_q (v := undef) 37 [38, 39] (by kernel_rfl) rfl rfl (yi_off ((wanted_eq rfl rfl rfl (congrArg Value.bool hc519)).trans rfl)) ?_
     refine ws_q (v := undef) 38 [39] (by kernel_rfl) rfl rfl (yi_off ((wanted_eq rfl rfl rfl (congrArg Value.bool hc519)).trans rfl)) ?_
     refine wsr (.bool true) 39 rfl rfl rfl (by kernel_rfl) (fun w hst => x_pick_t hc519 rfl rfl) ?_
     refine ws_nil ?_
     intro w hst
     refine then_n ?_
     refine wp_ift rfl ?_
     refine wp_seq (wp_region_lit ?_)
     refine wv (.bool false) rfl rfl rfl ?_
     refine wl_nil (then_n (wp_ret (blk_r (then_r (then_r ?_)))))
     replace hm := inr_up hm hx476
     refine blk_r (then_r ?_)
     obtain rfl := some_inj hm
     refine post_ret (vs := [.bool false]) Try.results34 (rvs_cons (rv_tmp rfl) rvs_nil) ?_
     exact ⟨rfl, hst.keep0⟩
    ·skip
     replace hm := bif_f hc519 hm
     refine ws_q (v := r0_0) 26 [27, 28, 29, 30, 31, 32, 33, 34, 35, 36, 37, 38, 39] (by kernel_rfl) rfl rfl (yi_run ((wanted_eq rfl rfl rfl (congrArg Value.bool hc519)).trans rfl) (fun w hst => rfl)) ?_
     refine ws_q (v := .int .i64 z469) 27 [28, 29, 30, 31, 32, 33, 34, 35, 36, 37, 38, 39] (by kernel_rfl) rfl rfl (yi_run ((wanted_eq rfl rfl rfl (congrArg Value.bool hc519)).trans rfl) (fun w hst => rfl)) ?_
     refine ws_q (v := .pointer (some (eAddr r0_0 (z469.toNat * 3 + 0)))) 28 [29, 30, 31, 32, 33, 34, 35, 36, 37, 38, 39] (by kernel_rfl) rfl rfl (yi_run ((wanted_eq rfl rfl rfl (congrArg Value.bool hc519)).trans rfl) (fun w hst => x_index rfl rfl Try.underlying35 Try.sizeOf73 (rd_sliceV f0_0) h481 h482)) ?_
     refine ws_q (v := .pointer (some (eAddr r0_0 (z469.toNat * 3 + 2)))) 29 [30, 31, 32, 33, 34, 35, 36, 37, 38, 39] (by kernel_rfl) rfl rfl (yi_run ((wanted_eq rfl rfl rfl (congrArg Value.bool hc519)).trans rfl) (fun w hst => x_field_e rfl Try.underlying73 rfl Try.sizeOf22 rfl)) ?_
     refine ws_q (v := v510) 30 [31, 32, 33, 34, 35, 36, 37, 38, 39] (by kernel_rfl) rfl rfl (yi_run ((wanted_eq rfl rfl rfl (congrArg Value.bool hc519)).trans rfl) (fun w hst => x_load rfl Try.isAgg22 ((hc509 (HL.le.refl _) hst) 2 _ rfl))) ?_
     refine ws_q (v := .string (toStr x479.Val)) 31 [32, 33, 34, 35, 36, 37, 38, 39] (by kernel_rfl) rfl rfl (yi_run ((wanted_eq rfl rfl rfl (congrArg Value.bool hc519)).trans rfl) (fun w hst => x_tostr Try.underlying22 Try.underlying9 Try.underlying5 rfl (Src.of_rd hst f511 flat_int))) ?_
     refine ws_q (v := r1_0) 32 [33, 34, 35, 36, 37, 38, 39] (by kernel_rfl) rfl rfl (yi_run ((wanted_eq rfl rfl rfl (congrArg Value.bool hc519)).trans rfl) (fun w hst => rfl)) ?_
     refine ws_q (v := .int .i64 z469) 33 [34, 35, 36, 37, 38, 39] (by kernel_rfl) rfl rfl (yi_run ((wanted_eq rfl rfl rfl (congrArg Value.bool hc519)).trans rfl) (fun w hst => rfl)) ?_
     refine ws_q (v := .pointer (some (eAddr r1_0 (z469.toNat * 3 + 0)))) 34 [35, 36, 37, 38, 39] (by kernel_rfl) rfl rfl (yi_run ((wanted_eq rfl rfl rfl (congrArg Value.bool hc519)).trans rfl) (fun w hst => x_index rfl rfl Try.underlying35 Try.sizeOf73 (rd_sliceV f1_0) h492 h493)) ?_
     refine ws_q (v := .pointer (some (eAddr r1_0 (z469.toNat * 3 + 2)))) 35 [36, 37, 38, 39] (by kernel_rfl) rfl rfl (yi_run ((wanted_eq rfl rfl rfl (congrArg Value.bool hc519)).trans rfl) (fun w hst => x_field_e rfl Try.underlying73 rfl Try.sizeOf22 rfl)) ?_
     refine ws_q (v := v516) 36 [37, 38, 39] (by kernel_rfl) rfl rfl (yi_run ((wanted_eq rfl rfl rfl (congrArg Value.bool hc519)).trans rfl) (fun w hst => x_load rfl Try.isAgg22 ((hc515 (HL.le.refl _) hst) 2 _ rfl))) ?_
     refine ws_q (v := .string (toStr x490.Val)) 37 [38, 39] (by kernel_rfl) rfl rfl (yi_run ((wanted_eq rfl rfl rfl (congrArg Value.bool hc519)).trans rfl) (fun w hst => x_tostr Try.underlying22 Try.underlying9 Try.underlying5 rfl (Src.of_rd hst f517 flat_int))) ?_
     refine ws_q (v := .bool (!(sEq (toStr x479.Val) (toStr x490.Val)))) 38 [39] (by kernel_rfl) rfl rfl (yi_run ((wanted_eq rfl rfl rfl (congrArg Value.bool hc519)).trans rfl) (fun w hst => by kernel_rfl)) ?_
     refine wsr (.bool (!(sEq (toStr x479.Val) (toStr x490.Val)))) 39 rfl rfl rfl (by kernel_rfl) (fun w hst => x_pick_f hc519 rfl rfl) ?_
     refine ws_nil ?_
     intro w hst
     refine then_n ?_
     refine bsplit (!(sEq (toStr x479.Val) (toStr x490.Val))) (fun hc520 => ?_) (fun hc520 => ?_)
     ·skip
      replace hm := bif_t hc520 hm
      refine wp_ift (congrArg Value.bool hc520) ?_
      refine wp_seq (wp_region_lit ?_)
      refine wv (.bool false) rfl rfl rfl ?_
      refine wl_nil (then_n (wp_ret (blk_r (then_r (then_r ?_)))))
      replace hm := inr_up hm hx476
      refine blk_r (then_r ?_)
      obtain rfl := some_inj hm
      refine post_ret (vs := [.bool false]) Try.results34 (rvs_cons (rv_tmp rfl) rvs_nil) ?_
      exact ⟨rfl, hst.keep0⟩
     ·skip
      replace hm := bif_f hc520 hm
      refine wp_iff (congrArg Value.bool hc520) ?_
      refine wp_skip (blk_n (then_n (wp_region_lit ?_)))
      refine wv (.int .i64 z469) rfl rfl rfl ?_
      refine wv (.int .i64 (IntKind.i64.wrap (z469 + (1:Int)))) rfl rfl rfl ?_
      refine wv (.int .i64 (IntKind.i64.wrap (z469 + (1:Int)))) rfl rfl rfl ?_
      refine wl_nil (then_n ?_)
      replace hst := hst.keep0
      obtain rfl := some_inj hm
      exact ⟨_, Nat.lt_succ_self _, (IntKind.i64.wrap (z469 + (1:Int))), _, hx476, ((fr_upd (t := 0) (v := r0_0) rfl).trans ((fr_upd (t := 1) (v := r1_0) rfl).trans ((fr_upd (t := 5) (v := .int .i64 (IntKind.i64.wrap (z469 + (1:Int)))) rfl).trans rfl))), hst⟩
  ·skip
   replace hm := bif_f hc478 hm
   refine wp_iff (congrArg Value.bool hc478) ?_
   refine wp_exit (then_x (then_x ?_))
   replace hm := inr_up hm hx476
   refine blk_x (then_n (wp_seq (wp_region_lit ?_)))
   refine wv (.bool true) rfl rfl rfl ?_
   refine wl_nil (then_n (wp_ret ?_))
   obtain rfl := some_inj hm
   refine post_ret (vs := [.bool true]) Try.results34 (rvs_cons (rv_tmp rfl) rvs_nil) ?_
   exact ⟨rfl, hst.keep0⟩

theorem ref11_SameGots_ref {w0 w : World} {I : HL} {R : SP} {a0 : (List api_Got)} {r0_0 : Value} {a1 : (List api_Got)} {r1_0 : Value} (f0_0 : Rd ty_api_Got R I r0_0 a0) (f1_0 : Rd ty_api_Got R I r1_0 a1) (hst : St w0 w I [] R) {r : (Bool)} (hm : ref11_SameGots a0 a1 = some r) :
  Calls Try.prog 50 #[r0_0, r1_0] w fun e w' => e = .returned (.bool r) ∧ St w0 w' I [] R := by
 unfold ref11_SameGots at hm
 refine calls_start (args := [r0_0, r1_0]) Try.func50 rfl Try.ntmps50 (Nat.le_of_ble_eq_true rfl) ?_
 refine wp_seq (wp_region_lit ?_)
 refine wv (.bool false) rfl rfl rfl ?_
 refine wl_nil (then_n (wp_seq (wp_seq (wp_region_lit ?_))))
 refine wv (r0_0) rfl rfl rfl ?_
 refine wv (.int .i64 ((a0).length : Int)) rfl rfl (x_len rfl Try.underlying36 (rd_sliceV f0_0)) ?_
 refine wv (r1_0) rfl rfl rfl ?_
 refine wv (.int .i64 ((a1).length : Int)) rfl rfl (x_len rfl Try.underlying36 (rd_sliceV f1_0)) ?_
 refine wv (.bool (((a0).length : Int) != ((a1).length : Int))) rfl rfl rfl ?_
 refine wl_nil (then_n ?_)
 refine bsplit (((a0).length : Int) != ((a1).length : Int)) (fun hc350 => ?_) (fun hc350 => ?_)
 ·skip
  replace hm := bif_t hc350 hm
  refine wp_ift (congrArg Value.bool hc350) ?_
  refine wp_seq (wp_region_lit ?_)
  refine wv (.bool false) rfl rfl rfl ?_
  refine wl_nil (then_n (wp_ret (then_r ?_)))
  obtain rfl := some_inj hm
  refine post_ret (vs := [.bool false]) Try.results50 (rvs_cons (rv_tmp rfl) rvs_nil) ?_
  exact ⟨rfl, hst.keep0⟩
 ·skip
  replace hm := bif_f hc350 hm
  refine wp_iff (congrArg Value.bool hc350) ?_
  refine wp_skip (then_n (wp_seq (wp_seq (wp_region_lit ?_))))
  refine wv (.int .i64 (0:Int)) rfl rfl rfl ?_
  refine wl_nil (then_n (wp_block ?_))
  obtain ⟨n404, hm⟩ := loopO_some hm
  refine wp_loop_n (fun n a w => ∃ (z402 : Int) (σ403 : Nat → Value), loopN (ref11_SameGots_l0 a0 a1) n z402 = some r ∧ a = Fr 43 (upd (upd (upd σ403 0 (r0_0)) 1 (r1_0)) 5 (.int .i64 z402)) ∧ St w0 w I [] R) n404 ⟨(0:Int), _, hm, ((fr_upd (t := 0) (v := r0_0) rfl).trans ((fr_upd (t := 1) (v := r1_0) rfl).trans ((fr_upd (t := 5) (v := .int .i64 (0:Int)) rfl).trans rfl))), hst⟩ ?_
  rintro n410 _ w405 ⟨z402, σ403, hm, rfl, hst⟩
  obtain ⟨n407, y408, rfl, hm, hx409⟩ := loopN_some hm
  dsimp only [ref11_SameGots_l0] at hm
  refine wp_seq (wp_seq (wp_region_lit ?_))
  refine wv (.int .i64 z402) rfl rfl rfl ?_
  refine wv (r0_0) rfl rfl rfl ?_
  refine wv (.int .i64 ((a0).length : Int)) rfl rfl (x_len rfl Try.underlying36 (rd_sliceV f0_0)) ?_
  refine wv (.bool (decide (z402 < ((a0).length : Int)))) rfl rfl rfl ?_
  refine wl_nil (then_n ?_)
  refine bsplit (decide (z402 < ((a0).length : Int))) (fun hc411 => ?_) (fun hc411 => ?_)
  ·skip
   replace hm := bif_t hc411 hm
   refine wp_ift (congrArg Value.bool hc411) ?_
   refine wp_skip (then_n (wp_seq (wp_block (wp_seq ?_))))
   refine wq_regionS hst Try.mixed (by kernel_rfl) ?_
   refine wq_run (v := r0_0) rfl rfl (fun w hst => rfl) ?_
   refine wq_run (v := .int .i64 z402) rfl rfl (fun w hst => rfl) ?_
   obtain ⟨x412, hx413, hm⟩ := bind_some hm
   obtain ⟨h414, h415, hi416⟩ := geto_some hx413
   refine wq_run (v := .pointer (some (eAddr r0_0 (z402.toNat * 2 + 0)))) rfl rfl (fun w hst => x_index rfl rfl Try.underlying36 Try.sizeOf51 (rd_sliceV f0_0) h414 h415) ?_
   refine wq_run (v := .pointer (some (eAddr r0_0 (z402.toNat * 2 + 0)))) rfl rfl (fun w hst => x_field_e rfl Try.underlying51 rfl Try.sizeOf4 rfl) ?_
   obtain ⟨cs417, hr418, hc419⟩ := Rd.getF f0_0 hi416
   obtain ⟨v420, rfl, f421, -⟩ := hr418
   refine wq_run (v := .bool x412.Has) rfl rfl (fun w hst => x_load rfl Try.isAgg4 ((hc419 (HL.le.refl _) hst) 0 _ rfl)) ?_
   refine wq_run (v := r1_0) rfl rfl (fun w hst => rfl) ?_
   refine wq_run (v := .int .i64 z402) rfl rfl (fun w hst => rfl) ?_
   obtain ⟨x423, hx424, hm⟩ := bind_some hm
   obtain ⟨h425, h426, hi427⟩ := geto_some hx424
   refine wq_run (v := .pointer (some (eAddr r1_0 (z402.toNat * 2 + 0)))) rfl rfl (fun w hst => x_index rfl rfl Try.underlying36 Try.sizeOf51 (rd_sliceV f1_0) h425 h426) ?_
   refine wq_run (v := .pointer (some (eAddr r1_0 (z402.toNat * 2 + 0)))) rfl rfl (fun w hst => x_field_e rfl Try.underlying51 rfl Try.sizeOf4 rfl) ?_
   obtain ⟨cs428, hr429, hc430⟩ := Rd.getF f1_0 hi427
   obtain ⟨v431, rfl, f432, -⟩ := hr429
   refine wq_run (v := .bool x423.Has) rfl rfl (fun w hst => x_load rfl Try.isAgg4 ((hc430 (HL.le.refl _) hst) 0 _ rfl)) ?_
   refine wq_run (v := .bool (!(x412.Has == x423.Has))) rfl rfl (fun w hst => by kernel_rfl) ?_
   refine wq_run (v := .bool (!(x412.Has == x423.Has))) rfl rfl (fun w hst => rfl) ?_
   refine bsplit (!(x412.Has == x423.Has)) (fun hc434 => ?_) (fun hc434 => ?_)
   ·skip
    replace hm := bif_t hc434 hm
    refine wq_off ((wanted_eq rfl rfl rfl (congrArg Value.bool hc434)).trans rfl) rfl ?_
    refine wq_off ((wanted_eq rfl rfl rfl (congrArg Value.bool hc434)).trans rfl) rfl ?_
    refine wq_off ((wanted_eq rfl rfl rfl (congrArg Value.bool hc434)).trans rfl) rfl ?_
    refine wq_off ((wanted_eq rfl rfl rfl (congrArg Value.bool hc434)).trans rfl) rfl ?_
    refine wq_off ((wanted_eq rfl rfl rfl (congrArg Value.bool hc434)).trans rfl) rfl ?_
    refine wq_off ((wanted_eq rfl rfl rfl (congrArg Value.bool hc434)).trans rfl) rfl ?_
    refine wq_off ((wanted_eq rfl rfl rfl (congrArg Value.bool hc434)).trans rfl) rfl ?_
    refine wq_off ((wanted_eq rfl rfl rfl (congrArg Value.bool hc434)).trans rfl) rfl ?_
    refine wq_off ((wanted_eq rfl rfl rfl (congrArg Value.bool hc434)).trans rfl) rfl ?_
    refine wq_off ((wanted_eq rfl rfl rfl (congrArg Value.bool hc434)).trans rfl) rfl ?_
    refine wq_off ((wanted_eq rfl rfl rfl (congrArg Value.bool hc434)).trans rfl) rfl ?_
    refine wq_off ((wanted_eq rfl rfl rfl (congrArg Value.bool hc434)).trans rfl) rfl ?_
    refine wq_off ((wanted_eq rfl rfl rfl (congrArg Value.bool hc434)).trans rfl) rfl ?_
    refine wq_run (v := .bool true) rfl rfl (fun w hst => x_pick_t hc434 rfl rfl) ?_
    refine wq_nil ?_
    intro w hst
    refine then_n ?_
    refine wp_ift rfl ?_
    refine wp_seq (wp_region_lit ?_)
    refine wv (.bool false) rfl rfl rfl ?_
    refine wl_nil (then_n (wp_ret (blk_r (then_r (then_r ?_)))))
    replace hm := inr_up hm hx409
    refine blk_r (then_r ?_)
    obtain rfl := some_inj hm
    refine post_ret (vs := [.bool false]) Try.results50 (rvs_cons (rv_tmp rfl) rvs_nil) ?_
    exact ⟨rfl, hst.keep0⟩
   ·skip
    replace hm := bif_f hc434 hm
    refine wq_run (v := r0_0) ((wanted_eq rfl rfl rfl (congrArg Value.bool hc434)).trans rfl) rfl (fun w hst => rfl) ?_
    refine wq_run (v := .int .i64 z402) ((wanted_eq rfl rfl rfl (congrArg Value.bool hc434)).trans rfl) rfl (fun w hst => rfl) ?_
    refine wq_run (v := .pointer (some (eAddr r0_0 (z402.toNat * 2 + 0)))) ((wanted_eq rfl rfl rfl (congrArg Value.bool hc434)).trans rfl) rfl (fun w hst => x_index rfl rfl Try.underlying36 Try.sizeOf51 (rd_sliceV f0_0) h414 h415) ?_
    refine wq_run (v := .pointer (some (eAddr r0_0 (z402.toNat * 2 + 1)))) ((wanted_eq rfl rfl rfl (congrArg Value.bool hc434)).trans rfl) rfl (fun w hst => x_field_e rfl Try.underlying51 rfl Try.sizeOf22 rfl) ?_
    refine wq_run (v := v420) ((wanted_eq rfl rfl rfl (congrArg Value.bool hc434)).trans rfl) rfl (fun w hst => x_load rfl Try.isAgg22 ((hc419 (HL.le.refl _) hst) 1 _ rfl)) ?_
    refine wq_run (v := .string (toStr x412.Val)) ((wanted_eq rfl rfl rfl (congrArg Value.bool hc434)).trans rfl) rfl (fun w hst => x_tostr Try.underlying22 Try.underlying9 Try.underlying5 rfl (Src.of_rd hst f421 flat_int)) ?_
    refine wq_run (v := r1_0) ((wanted_eq rfl rfl rfl (congrArg Value.bool hc434)).trans rfl) rfl (fun w hst => rfl) ?_
    refine wq_run (v := .int .i64 z402) ((wanted_eq rfl rfl rfl (congrArg Value.bool hc434)).trans rfl) rfl (fun w hst => rfl) ?_
    refine wq_run (v := .pointer (some (eAddr r1_0 (z402.toNat * 2 + 0)))) ((wanted_eq rfl rfl rfl (congrArg Value.bool hc434)).trans rfl) rfl (fun w hst => x_index rfl rfl Try.underlying36 Try.sizeOf51 (rd_sliceV f1_0) h425 h426) ?_
    refine wq_run (v := .pointer (some (eAddr r1_0 (z402.toNat * 2 + 1)))) ((wanted_eq rfl rfl rfl (congrArg Value.bool hc434)).trans rfl) rfl (fun w hst => x_field_e rfl Try.underlying51 rfl Try.sizeOf22 rfl) ?_
    refine wq_run (v := v431) ((wanted_eq rfl rfl rfl (congrArg Value.bool hc434)).trans rfl) rfl (fun w hst => x_load rfl Try.isAgg22 ((hc430 (HL.le.refl _) hst) 1 _ rfl)) ?_
    refine wq_run (v := .string (toStr x423.Val)) ((wanted_eq rfl rfl rfl (congrArg Value.bool hc434)).trans rfl) rfl (fun w hst => x_tostr Try.underlying22 Try.underlying9 Try.underlying5 rfl (Src.of_rd hst f432 flat_int)) ?_
    refine wq_run (v := .bool (!(sEq (toStr x412.Val) (toStr x423.Val)))) ((wanted_eq rfl rfl rfl (congrArg Value.bool hc434)).trans rfl) rfl (fun w hst => by kernel_rfl) ?_
    refine wq_run (v := .bool (!(sEq (toStr x412.Val) (toStr x423.Val)))) rfl rfl (fun w hst => x_pick_f hc434 rfl rfl) ?_
    refine wq_nil ?_
    intro w hst
    refine then_n ?_
    refine bsplit (!(sEq (toStr x412.Val) (toStr x423.Val))) (fun hc435 => ?_) (fun hc435 => ?_)
    ·skip
     replace hm := bif_t hc435 hm
     refine wp_ift (congrArg Value.bool hc435) ?_
     refine wp_seq (wp_region_lit ?_)
     refine wv (.bool false) rfl rfl rfl ?_
     refine wl_nil (then_n (wp_ret (blk_r (then_r (then_r ?_)))))
     replace hm := inr_up hm hx409
     refine blk_r (then_r ?_)
     obtain rfl := some_inj hm
     refine post_ret (vs := [.bool false]) Try.results50 (rvs_cons (rv_tmp rfl) rvs_nil) ?_
     exact ⟨rfl, hst.keep0⟩
    ·skip
     replace hm := bif_f hc435 hm
     refine wp_iff (congrArg Value.bool hc435) ?_
     refine wp_skip (blk_n (then_n (wp_region_lit ?_)))
     refine wv (.int .i64 z402) rfl rfl rfl ?_
     refine wv (.int .i64 (IntKind.i64.wrap (z402 + (1:Int)))) rfl rfl rfl ?_
     refine wv (.int .i64 (IntKind.i64.wrap (z402 + (1:Int)))) rfl rfl rfl ?_
     refine wl_nil (then_n ?_)
     replace hst := hst.keep0
     obtain rfl := some_inj hm
     exact ⟨_, Nat.lt_succ_self _, (IntKind.i64.wrap (z402 + (1:Int))), _, hx409, ((fr_upd (t := 0) (v := r0_0) rfl).trans ((fr_upd (t := 1) (v := r1_0) rfl).trans ((fr_upd (t := 5) (v := .int .i64 (IntKind.i64.wrap (z402 + (1:Int)))) rfl).trans rfl))), hst⟩
  ·skip
   replace hm := bif_f hc411 hm
   refine wp_iff (congrArg Value.bool hc411) ?_
   refine wp_exit (then_x (then_x ?_))
   replace hm := inr_up hm hx409
   refine blk_x (then_n (wp_seq (wp_region_lit ?_)))
   refine wv (.bool true) rfl rfl rfl ?_
   refine wl_nil (then_n (wp_ret ?_))
   obtain rfl := some_inj hm
   refine post_ret (vs := [.bool true]) Try.results50 (rvs_cons (rv_tmp rfl) rvs_nil) ?_
   exact ⟨rfl, hst.keep0⟩

theorem ref11_SamePairs_ref {w0 w : World} {I : HL} {R : SP} {a0 : (List api_Pair)} {r0_0 : Value} {a1 : (List api_Pair)} {r1_0 : Value} (f0_0 : Rd ty_api_Pair R I r0_0 a0) (f1_0 : Rd ty_api_Pair R I r1_0 a1) (hst : St w0 w I [] R) {r : (Bool)} (hm : ref11_SamePairs a0 a1 = some r) :
  Calls Try.prog 51 #[r0_0, r1_0] w fun e w' => e = .returned (.bool r) ∧ St w0 w' I [] R := by
 unfold ref11_SamePairs at hm
 refine calls_start (args := [r0_0, r1_0]) Try.func51 rfl Try.ntmps51 (Nat.le_of_ble_eq_true rfl) ?_
 refine wp_seq (wp_region_lit ?_)
 refine wv (.bool false) rfl rfl rfl ?_
 refine wl_nil (then_n (wp_seq (wp_seq (wp_region_lit ?_))))
 refine wv (r0_0) rfl rfl rfl ?_
 refine wv (.int .i64 ((a0).length : Int)) rfl rfl (x_len rfl Try.underlying52 (rd_sliceV f0_0)) ?_
 refine wv (r1_0) rfl rfl rfl ?_
 refine wv (.int .i64 ((a1).length : Int)) rfl rfl (x_len rfl Try.underlying52 (rd_sliceV f1_0)) ?_
 refine wv (.bool (((a0).length : Int) != ((a1).length : Int))) rfl rfl rfl ?_
 refine wl_nil (then_n ?_)
 refine bsplit (((a0).length : Int) != ((a1).length : Int)) (fun hc409 => ?_) (fun hc409 => ?_)
 ·skip
  replace hm := bif_t hc409 hm
  refine wp_ift (congrArg Value.bool hc409) ?_
  refine wp_seq (wp_region_lit ?_)
  refine wv (.bool false) rfl rfl rfl ?_
  refine wl_nil (then_n (wp_ret (then_r ?_)))
  obtain rfl := some_inj hm
  refine post_ret (vs := [.bool false]) Try.results51 (rvs_cons (rv_tmp rfl) rvs_nil) ?_
  exact ⟨rfl, hst.keep0⟩
 ·skip
  replace hm := bif_f hc409 hm
  refine wp_iff (congrArg Value.bool hc409) ?_
  refine wp_skip (then_n (wp_seq (wp_seq (wp_region_lit ?_))))
  refine wv (.int .i64 (0:Int)) rfl rfl rfl ?_
  refine wl_nil (then_n (wp_block ?_))
  obtain ⟨n497, hm⟩ := loopO_some hm
  refine wp_loop_n (fun n a w => ∃ (z495 : Int) (σ496 : Nat → Value), loopN (ref11_SamePairs_l0 a0 a1) n z495 = some r ∧ a = Fr 44 (upd (upd (upd σ496 0 (r0_0)) 1 (r1_0)) 5 (.int .i64 z495)) ∧ St w0 w I [] R) n497 ⟨(0:Int), _, hm, ((fr_upd (t := 0) (v := r0_0) rfl).trans ((fr_upd (t := 1) (v := r1_0) rfl).trans ((fr_upd (t := 5) (v := .int .i64 (0:Int)) rfl).trans rfl))), hst⟩ ?_
  rintro n503 _ w498 ⟨z495, σ496, hm, rfl, hst⟩
  obtain ⟨n500, y501, rfl, hm, hx502⟩ := loopN_some hm
  dsimp only [ref11_SamePairs_l0] at hm
  refine wp_seq (wp_seq (wp_region_lit ?_))
  refine wv (.int .i64 z495) rfl rfl rfl ?_
  refine wv (r0_0) rfl rfl rfl ?_
  refine wv (.int .i64 ((a0).length : Int)) rfl rfl (x_len rfl Try.underlying52 (rd_sliceV f0_0)) ?_
  refine wv (.bool (decide (z495 < ((a0).length : Int)))) rfl rfl rfl ?_
  refine wl_nil (then_n ?_)
  refine bsplit (decide (z495 < ((a0).length : Int))) (fun hc504 => ?_) (fun hc504 => ?_)
  ·skip
   replace hm := bif_t hc504 hm
   refine wp_ift (congrArg Value.bool hc504) ?_
   refine wp_skip (then_n (wp_seq (wp_block (wp_seq ?_))))
   refine wp_region_St hst 27 [0, 1, 2, 3, 4, 5, 6, 7, 8, 9, 10, 11, 12, 13, 14, 15, 16, 17, 18, 19, 20, 21, 22, 23, 24, 25, 26] [0, 0, 3, 7, 15, 0, 0, 96, 224, 480, 1023, 2047, 4095, 8191, 8191, 32767, 65535, 131071, 262143, 8191, 8191, 1581055, 3678207, 7872511, 16261119, 33554431, 67108863] [] rfl (by kernel_rfl) (by kernel_rfl) Try.mixed (by kernel_rfl) ?_
   refine wsr (r0_0) 0 rfl rfl rfl (by kernel_rfl) (fun w hst => rfl) ?_
   refine wsr (.int .i64 z495) 1 rfl rfl rfl (by kernel_rfl) (fun w hst => rfl) ?_
   obtain ⟨x505, hx506, hm⟩ := bind_some hm
   obtain ⟨h507, h508, hi509⟩ := geto_some hx506
   refine wsr (.pointer (some (eAddr r0_0 (z495.toNat * 2 + 0)))) 2 rfl rfl rfl (by kernel_rfl) (fun w hst => x_index rfl rfl Try.underlying52 Try.sizeOf54 (rd_sliceV f0_0) h507 h508) ?_
   refine wsr (.pointer (some (eAddr r0_0 (z495.toNat * 2 + 0)))) 3 rfl rfl rfl (by kernel_rfl) (fun w hst => x_field_e rfl Try.underlying54 rfl Try.sizeOf41 rfl) ?_
   obtain ⟨cs510, hr511, hc512⟩ := Rd.getF f0_0 hi509
   obtain ⟨v513, rfl, f514, -⟩ := hr511
   refine wsr (.float .f64 x505.At) 4 rfl rfl rfl (by kernel_rfl) (fun w hst => x_load rfl Try.isAgg41 ((hc512 (HL.le.refl _) hst) 0 _ rfl)) ?_
   refine wsr (r1_0) 5 rfl rfl rfl (by kernel_rfl) (fun w hst => rfl) ?_
   refine wsr (.int .i64 z495) 6 rfl rfl rfl (by kernel_rfl) (fun w hst => rfl) ?_
   obtain ⟨x516, hx517, hm⟩ := bind_some hm
   obtain ⟨h518, h519, hi520⟩ := geto_some hx517
   refine wsr (.pointer (some (eAddr r1_0 (z495.toNat * 2 + 0)))) 7 rfl rfl rfl (by kernel_rfl) (fun w hst => x_index rfl rfl Try.underlying52 Try.sizeOf54 (rd_sliceV f1_0) h518 h519) ?_
   refine wsr (.pointer (some (eAddr r1_0 (z495.toNat * 2 + 0)))) 8 rfl rfl rfl (by kernel_rfl) (fun w hst => x_field_e rfl Try.underlying54 rfl Try.sizeOf41 rfl) ?_
   obtain ⟨cs521, hr522, hc523⟩ := Rd.getF f1_0 hi520
   obtain ⟨v524, rfl, f525, -⟩ := hr522
   refine wsr (.float .f64 x516.At) 9 rfl rfl rfl (by kernel_rfl) (fun w hst => x_load rfl Try.isAgg41 ((hc523 (HL.le.refl _) hst) 0 _ rfl)) ?_
   refine ws_e1 10 (by kernel_rfl) ?_
   refine nxe [11, 12, 13, 14, 15, 16, 17, 18, 19, 20, 21, 22, 23, 24, 25, 26] (by kernel_rfl) rfl rfl ?_
   clear hst
   intro w hst
   obtain ⟨t527, ht528, hm⟩ := bind_some hm
   refine we_call rfl (x_call Try.call62 rfl (vs := [.float .f64 x505.At, .float .f64 x516.At]) rfl) ?_
   refine (ref01_Same_ref hst.to0 ht528).mono ?_
   rintro _ w529 ⟨rfl, hst⟩
   refine ⟨_, rfl, ?_⟩
   replace hst := hst.of0
   refine ws_next (pend' := []) hst (by kernel_rfl) pk_nil ?_
   refine wsr (.bool (!t527)) 11 rfl rfl rfl (by kernel_rfl) (fun w hst => rfl) ?_
   refine wsr (.bool (!t527)) 12 rfl rfl rfl (by kernel_rfl) (fun w hst => rfl) ?_
   refine bsplit (!t527) (fun hc532 => ?_) (fun hc532 => ?_)
   ·skip
    replace hm := bif_t hc532 hm
    refine ws_q (v := undef) 13 [14, 15, 16, 17, 18, 19, 20, 21, 22, 23, 24, 25, 26] (by kernel_rfl) rfl rfl (yi_off ((wanted_eq rfl rfl rfl (congrArg Value.bool hc532)).trans rfl)) ?_
    refine ws_q (v := undef) 14 [15, 16, 17, 18, 19, 20, 21, 22, 23, 24, 25, 26] (by kernel_rfl) rfl rfl (yi_off ((wanted_eq rfl rfl rfl (congrArg Value.bool hc532)).trans rfl)) ?_
    refine ws_q (v := undef) 15 [16, 17, 18, 19, 20, 21, 22, 23, 24, 25, 26] (by kernel_rfl) rfl rfl (yi_off ((wanted_eq rfl rfl rfl (congrArg Value.bool hc532)).trans rfl)) ?_
    refine ws_q (v := undef) 16 [17, 18, 19, 20, 21, 22, 23, 24, 25, 26] (by kernel_rfl) rfl rfl (yi_off ((wanted_eq rfl rfl rfl (congrArg Value.bool hc532)).trans rfl)) ?_
    refine ws_q (v := undef) 17 [18, 19, 20, 21, 22, 23, 24, 25, 26] (by kernel_rfl) rfl rfl (yi_off ((wanted_eq rfl rfl rfl (congrArg Value.bool hc532)).trans rfl)) ?_
    refine ws_q (v := undef) 18 [19, 20, 21, 22, 23, 24, 25, 26] (by kernel_rfl) rfl rfl (yi_off ((wanted_eq rfl rfl rfl (congrArg Value.bool hc532)).trans rfl)) ?_
    refine ws_q (v := undef) 19 [20, 21, 22, 23, 24, 25, 26] (by kernel_rfl) rfl rfl (yi_off ((wanted_eq rfl rfl rfl (congrArg Value.bool hc532)).trans rfl)) ?_
    refine ws_q (v := undef) 20 [21, 22, 23, 24, 25, 26] (by kernel_rfl) rfl rfl (yi_off ((wanted_eq rfl rfl rfl (congrArg Value.bool hc532)).trans rfl)) ?_
    refine ws_q (v := undef) 21 [22, 23, 24, 25, 26] (by kernel_rfl) rfl rfl (yi_off ((wanted_eq rfl rfl rfl (congrArg Value.bool hc532)).trans rfl)) ?_
    refine ws_q (v := undef) 22 [23, 24, 25, 26] (by kernel_rfl) rfl rfl (yi_off ((wanted_eq rfl rfl rfl (congrArg Value.bool hc532)).trans rfl)) ?_
    refine ws_q (v := undef) 23 [24, 25, 26] (by kernel_rfl) rfl rfl (yi_off ((wanted_eq rfl rfl rfl (congrArg Value.bool hc532)).trans rfl)) ?_
    refine ws_q (v := undef) 24 [25, 26] (by kernel_rfl) rfl rfl (yi_off ((wanted_eq rfl rfl rfl (congrArg Value.bool hc532)).trans rfl)) ?_
    refine ws_q (v := undef) 25 [26] (by kernel_rfl) rfl rfl (yi_off ((wanted_eq rfl rfl rfl (congrArg Value.bool hc532)).trans rfl)) ?_
    refine wsr (.bool true) 26 rfl rfl rfl (by kernel_rfl) (fun w hst => x_pick_t hc532 rfl rfl) ?_
    refine ws_nil ?_
    intro w hst
    refine then_n ?_
    refine wp_ift rfl ?_
    refine wp_seq (wp_region_lit ?_)
    refine wv (.bool false) rfl rfl rfl ?_
    refine wl_nil (then_n (wp_ret (blk_r (then_r (then_r ?_)))))
    replace hm := inr_up hm hx502
    refine blk_r (then_r ?_)
    obtain rfl := some_inj hm
    refine post_ret (vs := [.bool false]) Try.results51 (rvs_cons (rv_tmp rfl) rvs_nil) ?_
    exact ⟨rfl, hst.keep0⟩
   ·skip
    replace hm := bif_f hc532 hm
    refine ws_q (v := r0_0) 13 [14, 15, 16, 17, 18, 19, 20, 21, 22, 23, 24, 25, 26] (by kernel_rfl) rfl rfl (yi_run ((wanted_eq rfl rfl rfl (congrArg Value.bool hc532)).trans rfl) (fun w hst => rfl)) ?_
    refine ws_q (v := .int .i64 z495) 14 [15, 16, 17, 18, 19, 20, 21, 22, 23, 24, 25, 26] (by kernel_rfl) rfl rfl (yi_run ((wanted_eq rfl rfl rfl (congrArg Value.bool hc532)).trans rfl) (fun w hst => rfl)) ?_
    refine ws_q (v := .pointer (some (eAddr r0_0 (z495.toNat * 2 + 0)))) 15 [16, 17, 18, 19, 20, 21, 22, 23, 24, 25, 26] (by kernel_rfl) rfl rfl (yi_run ((wanted_eq rfl rfl rfl (congrArg Value.bool hc532)).trans rfl) (fun w hst => x_index rfl rfl Try.underlying52 Try.sizeOf54 (rd_sliceV f0_0) h507 h508)) ?_
    refine ws_q (v := .pointer (some (eAddr r0_0 (z495.toNat * 2 + 1)))) 16 [17, 18, 19, 20, 21, 22, 23, 24, 25, 26] (by kernel_rfl) rfl rfl (yi_run ((wanted_eq rfl rfl rfl (congrArg Value.bool hc532)).trans rfl) (fun w hst => x_field_e rfl Try.underlying54 rfl Try.sizeOf22 rfl)) ?_
    obtain ⟨cs533, hr534, hc535⟩ := Rd.getF f0_0 hi509
    obtain ⟨v536, rfl, f537, -⟩ := hr534
    refine ws_q (v := v536) 17 [18, 19, 20, 21, 22, 23, 24, 25, 26] (by kernel_rfl) rfl rfl (yi_run ((wanted_eq rfl rfl rfl (congrArg Value.bool hc532)).trans rfl) (fun w hst => x_load rfl Try.isAgg22 ((hc535 (HL.le.refl _) hst) 1 _ rfl))) ?_
    refine ws_q (v := .string (toStr x505.Val)) 18 [19, 20, 21, 22, 23, 24, 25, 26] (by kernel_rfl) rfl rfl (yi_run ((wanted_eq rfl rfl rfl (congrArg Value.bool hc532)).trans rfl) (fun w hst => x_tostr Try.underlying22 Try.underlying9 Try.underlying5 rfl (Src.of_rd hst f537 flat_int))) ?_
    refine ws_q (v := r1_0) 19 [20, 21, 22, 23, 24, 25, 26] (by kernel_rfl) rfl rfl (yi_run ((wanted_eq rfl rfl rfl (congrArg Value.bool hc532)).trans rfl) (fun w hst => rfl)) ?_
    refine ws_q (v := .int .i64 z495) 20 [21, 22, 23, 24, 25, 26] (by kernel_rfl) rfl rfl (yi_run ((wanted_eq rfl rfl rfl (congrArg Value.bool hc532)).trans rfl) (fun w hst => rfl)) ?_
    refine ws_q (v := .pointer (some (eAddr r1_0 (z495.toNat * 2 + 0)))) 21 [22, 23, 24, 25, 26] (by kernel_rfl) rfl rfl (yi_run ((wanted_eq rfl rfl rfl (congrArg Value.bool hc532)).trans rfl) (fun w hst => x_index rfl rfl Try.underlying52 Try.sizeOf54 (rd_sliceV f1_0) h518 h519)) ?_
    refine ws_q (v := .pointer (some (eAddr r1_0 (z495.toNat * 2 + 1)))) 22 [23, 24, 25, 26] (by kernel_rfl) rfl rfl (yi_run ((wanted_eq rfl rfl rfl (congrArg Value.bool hc532)).trans rfl) (fun w hst => x_field_e rfl Try.underlying54 rfl Try.sizeOf22 rfl)) ?_
    obtain ⟨cs539, hr540, hc541⟩ := Rd.getF f1_0 hi520
    obtain ⟨v542, rfl, f543, -⟩ := hr540
    refine ws_q (v := v542) 23 [24, 25, 26] (by kernel_rfl) rfl rfl (yi_run ((wanted_eq rfl rfl rfl (congrArg Value.bool hc532)).trans rfl) (fun w hst => x_load rfl Try.isAgg22 ((hc541 (HL.le.refl _) hst) 1 _ rfl))) ?_
    refine ws_q (v := .string (toStr x516.Val)) 24 [25, 26] (by kernel_rfl) rfl rfl (yi_run ((wanted_eq rfl rfl rfl (congrArg Value.bool hc532)).trans rfl) (fun w hst => x_tostr Try.underlying22 Try.underlying9 Try.underlying5 rfl (Src.of_rd hst f543 flat_int))) ?_
    refine ws_q (v := .bool (!(sEq (toStr x505.Val) (toStr x516.Val)))) 25 [26] (by kernel_rfl) rfl rfl (yi_run ((wanted_eq rfl rfl rfl (congrArg Value.bool hc532)).trans rfl) (fun w hst => by kernel_rfl)) ?_
    refine wsr (.bool (!(sEq (toStr x505.Val) (toStr x516.Val)))) 26 rfl rfl rfl (by kernel_rfl) (fun w hst => x_pick_f hc532 rfl rfl) ?_
    refine ws_nil ?_
    intro w hst
    refine then_n ?_
    refine bsplit (!(sEq (toStr x505.Val) (toStr x516.Val))) (fun hc545 => ?_) (fun hc545 => ?_)
    ·skip
     replace hm := bif_t hc545 hm
     refine wp_ift (congrArg Value.bool hc545) ?_
     refine wp_seq (wp_region_lit ?_)
     refine wv (.bool false) rfl rfl rfl ?_
     refine wl_nil (then_n (wp_ret (blk_r (then_r (then_r ?_)))))
     replace hm := inr_up hm hx502
     refine blk_r (then_r ?_)
     obtain rfl := some_inj hm
     refine post_ret (vs := [.bool false]) Try.results51 (rvs_cons (rv_tmp rfl) rvs_nil) ?_
     exact ⟨rfl, hst.keep0⟩
    ·skip
     replace hm := bif_f hc545 hm
     refine wp_iff (congrArg Value.bool hc545) ?_
     refine wp_skip (blk_n (then_n (wp_region_lit ?_)))
     refine wv (.int .i64 z495) rfl rfl rfl ?_
     refine wv (.int .i64 (IntKind.i64.wrap (z495 + (1:Int)))) rfl rfl rfl ?_
     refine wv (.int .i64 (IntKind.i64.wrap (z495 + (1:Int)))) rfl rfl rfl ?_
     refine wl_nil (then_n ?_)
     replace hst := hst.keep0
     obtain rfl := some_inj hm
     exact ⟨_, Nat.lt_succ_self _, (IntKind.i64.wrap (z495 + (1:Int))), _, hx502, ((fr_upd (t := 0) (v := r0_0) rfl).trans ((fr_upd (t := 1) (v := r1_0) rfl).trans ((fr_upd (t := 5) (v := .int .i64 (IntKind.i64.wrap (z495 + (1:Int)))) rfl).trans rfl))), hst⟩
  ·skip
   replace hm := bif_f hc504 hm
   refine wp_iff (congrArg Value.bool hc504) ?_
   refine wp_exit (then_x (then_x ?_))
   replace hm := inr_up hm hx502
   refine blk_x (then_n (wp_seq (wp_region_lit ?_)))
   refine wv (.bool true) rfl rfl rfl ?_
   refine wl_nil (then_n (wp_ret ?_))
   obtain rfl := some_inj hm
   refine post_ret (vs := [.bool true]) Try.results51 (rvs_cons (rv_tmp rfl) rvs_nil) ?_
   exact ⟨rfl, hst.keep0⟩

end Go.Proofs.Ytijcfglomdfglaa
