/- The Go functions refine their models, part 5. -/
import Derived.Test.YtgnkkopjkgdieaaGreatLaneInnerR4
set_option linter.unusedVariables false
set_option linter.unusedSimpArgs false
set_option maxRecDepth 100000
set_option maxHeartbeats 4000000
namespace Go.Proofs.YtgnkkopjkgdieaaGreat
open Go Go.V
open _root_.Go.Proofs.Tryz IntKind
attribute [local irreducible] wpList Code.wp wpQuiet Calls bodyPost Oper.wp wpS Nx PendOK YieldsIn
theorem law16_LaneInner_ref {w0 w : World} {I : HL} {R : SP} {a0 : Int} {a1 : Int}  (hst : St w0 w I [] R) {r : (Bool)} (hm : law16_LaneInner a0 a1 = some r) :
  Calls prog 6 #[U6 a0, U1 a1] w fun e w' => ∃ (I' : HL), e = .returned (.bool r) ∧ I.le I' ∧ St w0 w' I' [] R := by {
 unfold law16_LaneInner at hm
 refine calls_start (args := [U6 a0, U1 a1]) func6 z ntmps6 (Nat.le_of_ble_eq_true z) ?_
 have hI0 := HL.le.refl I
 refine wp_seq (wrl (wv (.bool false) z z z (wl_nil (tn ?_))))
 obtain ⟨y165, hm, hx166⟩ := bind_some hm
 refine wp_cut (fun a w => ∃ (z162 : Int) (σ163 : Nat → Value), (law16_LaneInner_j0 a1) z162 = some r ∧ a = Fr 68 (upd (upd σ163 0 (.int .u64 z162)) 1 (.int .u8 a1)) ∧ St w0 w I [] R) ?_ ?_
 {
 refine wp_seq (wrl (wv (.int .u64 a0) z z z (wv (.bool (a0 == (0:Int))) z z z (wl_nil (tn ?_)))))
 refine bsplit (a0 == (0:Int)) (fun hc161 => ?_) (fun hc161 => ?_)
 {
 replace hm := bif_t hc161 hm
 refine wp_ift (cvb hc161) ?_
 refine wrl (wv (.int .u64 (1:Int)) z z z (wl_nil (tn ?_)))
 replace hst := hst.keep0
 obtain rfl := some_inj hm
 exact ⟨(1:Int), _, hx166, (fu 0 (.int .u64 (1:Int)) z (fu 1 (.int .u8 a1) z z)), hst⟩
}
 {
 replace hm := bif_f hc161 hm
 refine wp_iff (cvb hc161) ?_
 refine wp_skip (tn ?_)
 replace hst := hst.keep0
 obtain rfl := some_inj hm
 exact ⟨a0, _, hx166, (fu 0 (.int .u64 a0) z (fu 1 (.int .u8 a1) z z)), hst⟩
}
}
 {
 clear hst
 rintro _ w167 ⟨z162, σ163, hm, rfl, hst⟩
 dsimp only [law16_LaneInner_j0] at hm
 refine wp_seq (wrl ?_)
 obtain ⟨t168, ht169, hm⟩ := bind_some hm
 refine wc call13 [Zi] z z z ?_
 refine (lane_New_ref hst.to0 ht169).mono ?_
 rintro _ w170 ⟨v173, rfl, hst⟩
 refine ⟨_, z, ?_⟩
 replace hst := hst.of1
 refine wv (v173) z z z (wl_nil (tn (wp_seq (wrl (wv (.int .u8 a1) z z z (wv (.int .u8 (Int.tmod a1 (16:Int))) z z (x_rem (by decide) z z) (wv (.int .u64 (u64.wrap (Int.tmod a1 (16:Int)))) z z (by kernel_rfl) (wv (.int .u64 (u64.wrap ((9223372036854775808:Int) + (u64.wrap (Int.tmod a1 (16:Int)))))) z z z (wv (.int .u64 z162) z z z (wv (.agg #[U6 (u64.wrap ((9223372036854775808:Int) + (u64.wrap (Int.tmod a1 (16:Int))))), U6 z162]) z z (by kernel_rfl) ?_))))))))))
 obtain ⟨b175, w176, ew177, eb178, hst⟩ := hst.box [Zu, Zu] 28
 refine wl_run (v := Pt b175 0) (w' := w176) z z (x_al (by kernel_rfl) ew177 eb178) ?_
 obtain ⟨w180, hr181, hst⟩ := hst.bx [U6 (u64.wrap ((9223372036854775808:Int) + (u64.wrap (Int.tmod a1 (16:Int))))), U6 z162] sizeOf28 z (oC z (oC z oN)) (by kernel_rfl)
 refine wl_unit z z (x_unit hr181) ?_
 refine wl_nil (tn (wp_seq (wrl (wv (v173) z z z (wv (.agg #[U6 (u64.wrap ((9223372036854775808:Int) + (u64.wrap (Int.tmod a1 (16:Int))))), U6 z162]) z z (x_loadN (cs := [U6 (u64.wrap ((9223372036854775808:Int) + (u64.wrap (Int.tmod a1 (16:Int))))), U6 z162]) z isAgg28 sizeOf28 (hst.bcs0 0 z)) (wv (.agg #[U1 (4:Int), U6 (u64.wrap ((9223372036854775808:Int) + (u64.wrap (Int.tmod a1 (16:Int))))), U6 z162, U6 (9:Int), Zu, Zi, Zu, Zu, Zu, Zs, Zs, Zs, Zs, Zs, Zi, Zu, Zu, Zs, Zs, Zu, Zs, Zu, Zi, Zi, Zf, Zf, Zu, Zi, .bool false]) z z (by kernel_rfl) ?_))))))
 replace hst := hst.pull1
 replace hst := objO_some hst
 have f190 : Ro tyF64 I (.slice none 0 0) [] := ro_nil
 have f191 : Ro tyF2 I (.slice none 0 0) [] := ro_nil
 have f192 : Ro tyF64 I (.slice none 0 0) [] := ro_nil
 have f193 : Ro (tyInt .u8) I (.slice none 0 0) [] := ro_nil
 have f194 : Ro ty_api_Write I (.slice none 0 0) [] := ro_nil
 have f195 : Ro ty_api_Got I (.slice none 0 0) [] := ro_nil
 have f196 : Ro (tySl ty_api_Pair) I (.slice none 0 0) [] := ro_nil
 have f197 : Ro ty_api_Part I (.slice none 0 0) [] := ro_nil
 obtain ⟨t198, ht199, hm⟩ := bind_some hm
 refine wc call14 [v173, U6 (1:Int), .agg #[U1 (4:Int), U6 (u64.wrap ((9223372036854775808:Int) + (u64.wrap (Int.tmod a1 (16:Int))))), U6 z162, U6 (9:Int), Zu, Zi, Zu, Zu, Zu, Zs, Zs, Zs, Zs, Zs, Zi, Zu, Zu, Zs, Zs, Zu, Zs, Zu, Zi, Zi, Zf, Zf, Zu, Zi, .bool false]] z z z ?_
 refine (lane_State_Apply_ref (a2 := ({ Kind := (4:Int), ID := ({ Session := (u64.wrap ((9223372036854775808:Int) + (u64.wrap (Int.tmod a1 (16:Int))))), Seq := z162 } : api_ID), Epoch := (9:Int), Index := (0:Int), E := (0:Int), Hold := zero_api_Hold, Writes := [], R := zero_api_Reply, Shards := (0:Int), Parts := [], Rule := zero_api_Rule, On := false } : api_Command)) f190 f191 f192 f193 f194 f195 f196 f197 hst.to1 ht199).mono ?_
 rintro _ w200 ⟨I201, v203, v206, rfl, hI202, f205, f208, hst⟩
 refine ⟨_, z, ?_⟩
 replace hst := hst.of1
 replace f190 := f190.mono (ro_le hI202)
 replace f191 := f191.mono (ro_le hI202)
 replace f192 := f192.mono (ro_le hI202)
 replace f193 := f193.mono (ro_le hI202)
 replace f194 := f194.mono (ro_le hI202)
 replace f195 := f195.mono (ro_le hI202)
 replace f196 := f196.mono (ro_le hI202)
 replace f197 := f197.mono (ro_le hI202)
 replace hI0 := hI0.trans hI202
 rcases he210 : t198.2 with _ | y209
 · rw [he210] at hm; cases hm
 rw [he210] at hm hst; dsimp only at hm; replace hst := objO_get hst
 obtain ⟨b213, w214, ew215, eb216, hst⟩ := hst.box [Zb, Zu, Zu, Zi, Zu, Zu, Zs, Zs] 35
 refine wl_run (v := Pt b213 0) (w' := w214) z z (x_al (by kernel_rfl) ew215 eb216) ?_
 obtain ⟨w218, hr219, hst⟩ := hst.bx [U1 t198.1.Kind, U6 t198.1.ID.Session, U6 t198.1.ID.Seq, I6 t198.1.R.E, U6 t198.1.R.Epoch, U6 t198.1.R.Index, v203, v206] sizeOf35 z (oC z (oC z (oC z (oC z (oC z (oC z (oC (one_of_sliceV (ro_sliceV f205)) (oC (one_of_sliceV (ro_sliceV f208)) oN)))))))) (by kernel_rfl)
 refine wl_unit z z (x_unit hr219) ?_
 refine wl_nil (tn (wp_seq (wrl (wv (v173) z z z (wv (.agg #[U6 (u64.wrap ((9223372036854775808:Int) + (u64.wrap (Int.tmod a1 (16:Int))))), U6 z162]) z z (x_loadN (cs := [U6 (u64.wrap ((9223372036854775808:Int) + (u64.wrap (Int.tmod a1 (16:Int))))), U6 z162]) z isAgg28 sizeOf28 (hst.bcs2 0 z)) (wv (.agg #[I6 (8:Int), Zu, Zu, Zs, Zs]) z z (by kernel_rfl) (wv (.agg #[U1 (4:Int), U6 (u64.wrap ((9223372036854775808:Int) + (u64.wrap (Int.tmod a1 (16:Int))))), U6 z162, U6 (1:Int), Zu, Zi, Zu, Zu, Zu, Zs, Zs, Zs, Zs, Zs, I6 (8:Int), Zu, Zu, Zs, Zs, Zu, Zs, Zu, Zi, Zi, Zf, Zf, Zu, Zi, .bool false]) z z (by kernel_rfl) ?_)))))))
 replace hst := hst.pull1
 replace hst := objO_some hst
 have f230 : Ro tyF64 I201 (.slice none 0 0) [] := ro_nil
 have f231 : Ro tyF2 I201 (.slice none 0 0) [] := ro_nil
 have f232 : Ro tyF64 I201 (.slice none 0 0) [] := ro_nil
 have f233 : Ro (tyInt .u8) I201 (.slice none 0 0) [] := ro_nil
 have f234 : Ro ty_api_Write I201 (.slice none 0 0) [] := ro_nil
 have f235 : Ro ty_api_Got I201 (.slice none 0 0) [] := ro_nil
 have f236 : Ro (tySl ty_api_Pair) I201 (.slice none 0 0) [] := ro_nil
 have f237 : Ro ty_api_Part I201 (.slice none 0 0) [] := ro_nil
 obtain ⟨t238, ht239, hm⟩ := bind_some hm
 refine wc call14 [v173, U6 (2:Int), .agg #[U1 (4:Int), U6 (u64.wrap ((9223372036854775808:Int) + (u64.wrap (Int.tmod a1 (16:Int))))), U6 z162, U6 (1:Int), Zu, Zi, Zu, Zu, Zu, Zs, Zs, Zs, Zs, Zs, I6 (8:Int), Zu, Zu, Zs, Zs, Zu, Zs, Zu, Zi, Zi, Zf, Zf, Zu, Zi, .bool false]] z z z ?_
 refine (lane_State_Apply_ref (a2 := ({ Kind := (4:Int), ID := ({ Session := (u64.wrap ((9223372036854775808:Int) + (u64.wrap (Int.tmod a1 (16:Int))))), Seq := z162 } : api_ID), Epoch := (1:Int), Index := (0:Int), E := (0:Int), Hold := zero_api_Hold, Writes := [], R := ({ E := (8:Int), Epoch := (0:Int), Index := (0:Int), Gots := [], Scans := [] } : api_Reply), Shards := (0:Int), Parts := [], Rule := zero_api_Rule, On := false } : api_Command)) f230 f231 f232 f233 f234 f235 f236 f237 hst.to1 ht239).mono ?_
 rintro _ w240 ⟨I241, v243, v246, rfl, hI242, f245, f248, hst⟩
 refine ⟨_, z, ?_⟩
 replace hst := hst.of1
 replace f190 := f190.mono (ro_le hI242)
 replace f191 := f191.mono (ro_le hI242)
 replace f192 := f192.mono (ro_le hI242)
 replace f193 := f193.mono (ro_le hI242)
 replace f194 := f194.mono (ro_le hI242)
 replace f195 := f195.mono (ro_le hI242)
 replace f196 := f196.mono (ro_le hI242)
 replace f197 := f197.mono (ro_le hI242)
 replace f205 := f205.mono (ro_le hI242)
 replace f208 := f208.mono (ro_le hI242)
 replace f230 := f230.mono (ro_le hI242)
 replace f231 := f231.mono (ro_le hI242)
 replace f232 := f232.mono (ro_le hI242)
 replace f233 := f233.mono (ro_le hI242)
 replace f234 := f234.mono (ro_le hI242)
 replace f235 := f235.mono (ro_le hI242)
 replace f236 := f236.mono (ro_le hI242)
 replace f237 := f237.mono (ro_le hI242)
 replace hI0 := hI0.trans hI242
 rcases he250 : t238.2 with _ | y249
 · rw [he250] at hm; cases hm
 rw [he250] at hm hst; dsimp only at hm; replace hst := objO_get hst
 obtain ⟨b253, w254, ew255, eb256, hst⟩ := hst.box [Zb, Zu, Zu, Zi, Zu, Zu, Zs, Zs] 35
 refine wl_run (v := Pt b253 0) (w' := w254) z z (x_al (by kernel_rfl) ew255 eb256) ?_
 obtain ⟨w258, hr259, hst⟩ := hst.bx [U1 t238.1.Kind, U6 t238.1.ID.Session, U6 t238.1.ID.Seq, I6 t238.1.R.E, U6 t238.1.R.Epoch, U6 t238.1.R.Index, v243, v246] sizeOf35 z (oC z (oC z (oC z (oC z (oC z (oC z (oC (one_of_sliceV (ro_sliceV f245)) (oC (one_of_sliceV (ro_sliceV f248)) oN)))))))) (by kernel_rfl)
 refine wl_unit z z (x_unit hr259) ?_
 refine wl_nil (tn (wp_seq (wrl (wv (v173) z z z (wv (.agg #[U6 (u64.wrap ((9223372036854775808:Int) + (u64.wrap (Int.tmod a1 (16:Int))))), U6 z162]) z z (x_loadN (cs := [U6 (u64.wrap ((9223372036854775808:Int) + (u64.wrap (Int.tmod a1 (16:Int))))), U6 z162]) z isAgg28 sizeOf28 (hst.bcs3 0 z)) (wv (.agg #[U1 (4:Int), U6 (u64.wrap ((9223372036854775808:Int) + (u64.wrap (Int.tmod a1 (16:Int))))), U6 z162, U6 (1:Int), Zu, Zi, Zu, Zu, Zu, Zs, Zs, Zs, Zs, Zs, Zi, Zu, Zu, Zs, Zs, U6 (1:Int), Zs, Zu, Zi, Zi, Zf, Zf, Zu, Zi, .bool false]) z z (by kernel_rfl) ?_))))))
 replace hst := hst.pull1
 replace hst := objO_some hst
 have f268 : Ro tyF64 I241 (.slice none 0 0) [] := ro_nil
 have f269 : Ro tyF2 I241 (.slice none 0 0) [] := ro_nil
 have f270 : Ro tyF64 I241 (.slice none 0 0) [] := ro_nil
 have f271 : Ro (tyInt .u8) I241 (.slice none 0 0) [] := ro_nil
 have f272 : Ro ty_api_Write I241 (.slice none 0 0) [] := ro_nil
 have f273 : Ro ty_api_Got I241 (.slice none 0 0) [] := ro_nil
 have f274 : Ro (tySl ty_api_Pair) I241 (.slice none 0 0) [] := ro_nil
 have f275 : Ro ty_api_Part I241 (.slice none 0 0) [] := ro_nil
 obtain ⟨t276, ht277, hm⟩ := bind_some hm
 refine wc call14 [v173, U6 (3:Int), .agg #[U1 (4:Int), U6 (u64.wrap ((9223372036854775808:Int) + (u64.wrap (Int.tmod a1 (16:Int))))), U6 z162, U6 (1:Int), Zu, Zi, Zu, Zu, Zu, Zs, Zs, Zs, Zs, Zs, Zi, Zu, Zu, Zs, Zs, U6 (1:Int), Zs, Zu, Zi, Zi, Zf, Zf, Zu, Zi, .bool false]] z z z ?_
 refine (lane_State_Apply_ref (a2 := ({ Kind := (4:Int), ID := ({ Session := (u64.wrap ((9223372036854775808:Int) + (u64.wrap (Int.tmod a1 (16:Int))))), Seq := z162 } : api_ID), Epoch := (1:Int), Index := (0:Int), E := (0:Int), Hold := zero_api_Hold, Writes := [], R := zero_api_Reply, Shards := (1:Int), Parts := [], Rule := zero_api_Rule, On := false } : api_Command)) f268 f269 f270 f271 f272 f273 f274 f275 hst.to1 ht277).mono ?_
 rintro _ w278 ⟨I279, v281, v284, rfl, hI280, f283, f286, hst⟩
 refine ⟨_, z, ?_⟩
 replace hst := hst.of1
 replace f190 := f190.mono (ro_le hI280)
 replace f191 := f191.mono (ro_le hI280)
 replace f192 := f192.mono (ro_le hI280)
 replace f193 := f193.mono (ro_le hI280)
 replace f194 := f194.mono (ro_le hI280)
 replace f195 := f195.mono (ro_le hI280)
 replace f196 := f196.mono (ro_le hI280)
 replace f197 := f197.mono (ro_le hI280)
 replace f205 := f205.mono (ro_le hI280)
 replace f208 := f208.mono (ro_le hI280)
 replace f230 := f230.mono (ro_le hI280)
 replace f231 := f231.mono (ro_le hI280)
 replace f232 := f232.mono (ro_le hI280)
 replace f233 := f233.mono (ro_le hI280)
 replace f234 := f234.mono (ro_le hI280)
 replace f235 := f235.mono (ro_le hI280)
 replace f236 := f236.mono (ro_le hI280)
 replace f237 := f237.mono (ro_le hI280)
 replace f245 := f245.mono (ro_le hI280)
 replace f248 := f248.mono (ro_le hI280)
 replace f268 := f268.mono (ro_le hI280)
 replace f269 := f269.mono (ro_le hI280)
 replace f270 := f270.mono (ro_le hI280)
 replace f271 := f271.mono (ro_le hI280)
 replace f272 := f272.mono (ro_le hI280)
 replace f273 := f273.mono (ro_le hI280)
 replace f274 := f274.mono (ro_le hI280)
 replace f275 := f275.mono (ro_le hI280)
 replace hI0 := hI0.trans hI280
 rcases he288 : t276.2 with _ | y287
 · rw [he288] at hm; cases hm
 rw [he288] at hm hst; dsimp only at hm; replace hst := objO_get hst
 obtain ⟨b291, w292, ew293, eb294, hst⟩ := hst.box [Zb, Zu, Zu, Zi, Zu, Zu, Zs, Zs] 35
 refine wl_run (v := Pt b291 0) (w' := w292) z z (x_al (by kernel_rfl) ew293 eb294) ?_
 obtain ⟨w296, hr297, hst⟩ := hst.bx [U1 t276.1.Kind, U6 t276.1.ID.Session, U6 t276.1.ID.Seq, I6 t276.1.R.E, U6 t276.1.R.Epoch, U6 t276.1.R.Index, v281, v284] sizeOf35 z (oC z (oC z (oC z (oC z (oC z (oC z (oC (one_of_sliceV (ro_sliceV f283)) (oC (one_of_sliceV (ro_sliceV f286)) oN)))))))) (by kernel_rfl)
 refine wl_unit z z (x_unit hr297) ?_
 refine wl_nil (tn (wp_seq (wrl ?_)))
 obtain ⟨t298, ht299, hm⟩ := bind_some hm
 refine wc call12 [] z z z ?_
 refine (law16_awake_ref hst.to0 ht299).mono ?_
 rintro _ w300 ⟨I301, rfl, hI302, hst⟩
 refine ⟨_, z, ?_⟩
 replace hst := hst.of0
 replace f190 := f190.mono (ro_le hI302)
 replace f191 := f191.mono (ro_le hI302)
 replace f192 := f192.mono (ro_le hI302)
 replace f193 := f193.mono (ro_le hI302)
 replace f194 := f194.mono (ro_le hI302)
 replace f195 := f195.mono (ro_le hI302)
 replace f196 := f196.mono (ro_le hI302)
 replace f197 := f197.mono (ro_le hI302)
 replace f205 := f205.mono (ro_le hI302)
 replace f208 := f208.mono (ro_le hI302)
 replace f230 := f230.mono (ro_le hI302)
 replace f231 := f231.mono (ro_le hI302)
 replace f232 := f232.mono (ro_le hI302)
 replace f233 := f233.mono (ro_le hI302)
 replace f234 := f234.mono (ro_le hI302)
 replace f235 := f235.mono (ro_le hI302)
 replace f236 := f236.mono (ro_le hI302)
 replace f237 := f237.mono (ro_le hI302)
 replace f245 := f245.mono (ro_le hI302)
 replace f248 := f248.mono (ro_le hI302)
 replace f268 := f268.mono (ro_le hI302)
 replace f269 := f269.mono (ro_le hI302)
 replace f270 := f270.mono (ro_le hI302)
 replace f271 := f271.mono (ro_le hI302)
 replace f272 := f272.mono (ro_le hI302)
 replace f273 := f273.mono (ro_le hI302)
 replace f274 := f274.mono (ro_le hI302)
 replace f275 := f275.mono (ro_le hI302)
 replace f283 := f283.mono (ro_le hI302)
 replace f286 := f286.mono (ro_le hI302)
 replace hI0 := hI0.trans hI302
 refine wv (.bool t298) z z z ?_
 refine bsplit t298 (fun hc303 => ?_) (fun hc303 => ?_)
 {
 replace hm := bif_t hc303 hm
 refine wv (Pt b213 0) ((wanted_eq z z z (cvb hc303)).trans z) z (x_field z underlying35 z sizeOf5 z) (wv (.int .u8 t198.1.Kind) ((wanted_eq z z z (cvb hc303)).trans z) z (x_load z isAgg5 (hst.bc3 z)) (wv (.bool (t198.1.Kind == (0:Int))) ((wanted_eq z z z (cvb hc303)).trans z) z z (wv (.bool (t198.1.Kind == (0:Int))) z z (x_pick_t hc303 z z) (wv (.bool (t198.1.Kind == (0:Int))) z z z ?_))))
 refine bsplit (t198.1.Kind == (0:Int)) (fun hc304 => ?_) (fun hc304 => ?_)
 {
 replace hm := bif_t hc304 hm
 refine wv (Pt b253 0) ((wanted_eq z z z (cvb hc304)).trans z) z (x_field z underlying35 z sizeOf5 z) (wv (.int .u8 t238.1.Kind) ((wanted_eq z z z (cvb hc304)).trans z) z (x_load z isAgg5 (hst.bc2 z)) (wv (.bool (t238.1.Kind == (0:Int))) ((wanted_eq z z z (cvb hc304)).trans z) z z (wv (.bool (t238.1.Kind == (0:Int))) z z (x_pick_t hc304 z z) (wv (.bool (t238.1.Kind == (0:Int))) z z z ?_))))
 refine bsplit (t238.1.Kind == (0:Int)) (fun hc305 => ?_) (fun hc305 => ?_)
 {
 replace hm := bif_t hc305 hm
 refine wv (Pt b291 0) ((wanted_eq z z z (cvb hc305)).trans z) z (x_field z underlying35 z sizeOf5 z) (wv (.int .u8 t276.1.Kind) ((wanted_eq z z z (cvb hc305)).trans z) z (x_load z isAgg5 (hst.bc0 z)) (wv (.bool (t276.1.Kind == (4:Int))) ((wanted_eq z z z (cvb hc305)).trans z) z z (wv (.bool (t276.1.Kind == (4:Int))) z z (x_pick_t hc305 z z) (wv (.bool (t276.1.Kind == (4:Int))) z z z ?_))))
 refine bsplit (t276.1.Kind == (4:Int)) (fun hc306 => ?_) (fun hc306 => ?_)
 {
 replace hm := bif_t hc306 hm
 refine wv (Pt b291 3) ((wanted_eq z z z (cvb hc306)).trans z) z (x_field z underlying35 z sizeOf33 z) (wv (Pt b291 3) ((wanted_eq z z z (cvb hc306)).trans z) z (x_field z underlying33 z sizeOf29 z) (wv (.int .i64 t276.1.R.E) ((wanted_eq z z z (cvb hc306)).trans z) z (x_load z isAgg29 (hst.bc0 z)) (wv (.bool (t276.1.R.E == (0:Int))) ((wanted_eq z z z (cvb hc306)).trans z) z z (wv (.bool (t276.1.R.E == (0:Int))) z z (x_pick_t hc306 z z) (wv (.bool (t276.1.R.E == (0:Int))) z z z ?_)))))
 refine bsplit (t276.1.R.E == (0:Int)) (fun hc307 => ?_) (fun hc307 => ?_)
 {
 replace hm := bif_t hc307 hm
 refine wv (v173) ((wanted_eq z z z (cvb hc307)).trans z) z z (wv (Pt b175 0) ((wanted_eq z z z (cvb hc307)).trans z) z (x_field z underlying28 z sizeOf26 z) (wv (.int .u64 (u64.wrap ((9223372036854775808:Int) + (u64.wrap (Int.tmod a1 (16:Int)))))) ((wanted_eq z z z (cvb hc307)).trans z) z (x_load z isAgg26 (hst.bc4 z)) ?_))
 replace hst := hst.pull1
 replace hst := objO_some hst
 obtain ⟨t308, ht309, hm⟩ := bind_some hm
 refine wl_call ((wanted_eq z z z (cvb hc307)).trans z) z (x_call call22 z (vs := [v173, U6 (u64.wrap ((9223372036854775808:Int) + (u64.wrap (Int.tmod a1 (16:Int)))))]) z) ?_
 refine (lane_State_Last_ref hst.to1 ht309).mono ?_
 rintro _ w310 ⟨rfl, hst⟩
 refine ⟨_, z, ?_⟩
 replace hst := hst.of1
 replace hst := objO_get hst
 refine wv (.int .u64 z162) ((wanted_eq z z z (cvb hc307)).trans z) z z (wv (.bool (t308 == z162)) ((wanted_eq z z z (cvb hc307)).trans z) z z (wv (.bool (t308 == z162)) z z (x_pick_t hc307 z z) (wv (.bool (t308 == z162)) z z z ?_)))
 refine bsplit (t308 == z162) (fun hc313 => ?_) (fun hc313 => ?_)
 {
 replace hm := bif_t hc313 hm
 refine wv (v173) ((wanted_eq z z z (cvb hc313)).trans z) z z ?_
 replace hst := objO_some hst
 obtain ⟨t314, ht315, hm⟩ := bind_some hm
 refine wl_call ((wanted_eq z z z (cvb hc313)).trans z) z (x_call call23 z (vs := [v173]) z) ?_
 refine (lane_State_Open_ref hst.to1 ht315).mono ?_
 rintro _ w316 ⟨v319, rfl, hst⟩
 refine ⟨_, z, ?_⟩
 replace hst := hst.of2.pull1
 replace hst := objO_get hst
 refine wv (.int .i64 ((t314).length : Int)) ((wanted_eq z z z (cvb hc313)).trans z) z (x_len z underlying65 hst.sv1) (wv (.bool (((t314).length : Int) == (1:Int))) ((wanted_eq z z z (cvb hc313)).trans z) z z (wv (.bool (((t314).length : Int) == (1:Int))) z z (x_pick_t hc313 z z) (wv (.bool (((t314).length : Int) == (1:Int))) z z z (wl_nil (tn (wp_ret ?_))))))
 obtain rfl := some_inj hm
 refine post_ret (vs := [.bool (((t314).length : Int) == (1:Int))]) results6 (rvs_cons (rv_tmp z) rvs_nil) ?_
 exact ⟨_, z, hI0, hst.keep0⟩
}
 {
 replace hm := bif_f hc313 hm
 refine wo hc313 z z z z z z (wo hc313 z z z z z z (wo hc313 z z z z z z (wo hc313 z z z z z z (wv (.bool false) z z (x_pick_f hc313 z z) (wv (.bool false) z z z (wl_nil (tn (wp_ret ?_))))))))
 obtain rfl := some_inj hm
 refine post_ret (vs := [.bool false]) results6 (rvs_cons (rv_tmp z) rvs_nil) ?_
 exact ⟨_, z, hI0, hst.keep0⟩
}
}
 {
 replace hm := bif_f hc307 hm
 refine wo hc307 z z z z z z (wo hc307 z z z z z z (wo hc307 z z z z z z (wo hc307 z z z z z z (wo hc307 z z z z z z (wo hc307 z z z z z z (wv (.bool false) z z (x_pick_f hc307 z z) (wv (.bool false) z z z (wz z z z z z z (wz z z z z z z (wz z z z z z z (wz z z z z z z (wv (.bool false) z z (x_pick_f z z z) ?_))))))))))))
 refine wv (.bool false) z z z (wl_nil (tn (wp_ret ?_)))
 obtain rfl := some_inj hm
 refine post_ret (vs := [.bool false]) results6 (rvs_cons (rv_tmp z) rvs_nil) ?_
 exact ⟨_, z, hI0, hst.keep0⟩
}
}
 {
 replace hm := bif_f hc306 hm
 refine wo hc306 z z z z z z (wo hc306 z z z z z z (wo hc306 z z z z z z (wo hc306 z z z z z z (wv (.bool false) z z (x_pick_f hc306 z z) (wv (.bool false) z z z (wz z z z z z z (wz z z z z z z (wz z z z z z z (wz z z z z z z (wz z z z z z z (wz z z z z z z (wv (.bool false) z z (x_pick_f z z z) ?_))))))))))))
 refine wv (.bool false) z z z (wz z z z z z z (wz z z z z z z (wz z z z z z z (wz z z z z z z (wv (.bool false) z z (x_pick_f z z z) (wv (.bool false) z z z (wl_nil (tn (wp_ret ?_)))))))))
 obtain rfl := some_inj hm
 refine post_ret (vs := [.bool false]) results6 (rvs_cons (rv_tmp z) rvs_nil) ?_
 exact ⟨_, z, hI0, hst.keep0⟩
}
}
 {
 replace hm := bif_f hc305 hm
 refine wo hc305 z z z z z z (wo hc305 z z z z z z (wo hc305 z z z z z z (wv (.bool false) z z (x_pick_f hc305 z z) (wv (.bool false) z z z (wz z z z z z z (wz z z z z z z (wz z z z z z z (wz z z z z z z (wv (.bool false) z z (x_pick_f z z z) (wv (.bool false) z z z (wz z z z z z z (wz z z z z z z ?_))))))))))))
 refine wz z z z z z z (wz z z z z z z (wz z z z z z z (wz z z z z z z (wv (.bool false) z z (x_pick_f z z z) (wv (.bool false) z z z (wz z z z z z z (wz z z z z z z (wz z z z z z z (wz z z z z z z (wv (.bool false) z z (x_pick_f z z z) (wv (.bool false) z z z (wl_nil (tn (wp_ret ?_))))))))))))))
 obtain rfl := some_inj hm
 refine post_ret (vs := [.bool false]) results6 (rvs_cons (rv_tmp z) rvs_nil) ?_
 exact ⟨_, z, hI0, hst.keep0⟩
}
}
 {
 replace hm := bif_f hc304 hm
 refine wo hc304 z z z z z z (wo hc304 z z z z z z (wo hc304 z z z z z z (wv (.bool false) z z (x_pick_f hc304 z z) (wv (.bool false) z z z (wz z z z z z z (wz z z z z z z (wz z z z z z z (wv (.bool false) z z (x_pick_f z z z) (wv (.bool false) z z z (wz z z z z z z (wz z z z z z z (wz z z z z z z ?_))))))))))))
 refine wz z z z z z z (wv (.bool false) z z (x_pick_f z z z) (wv (.bool false) z z z (wz z z z z z z (wz z z z z z z (wz z z z z z z (wz z z z z z z (wz z z z z z z (wz z z z z z z (wv (.bool false) z z (x_pick_f z z z) (wv (.bool false) z z z (wz z z z z z z (wz z z z z z z ?_))))))))))))
 refine wz z z z z z z (wz z z z z z z (wv (.bool false) z z (x_pick_f z z z) (wv (.bool false) z z z (wl_nil (tn (wp_ret ?_))))))
 obtain rfl := some_inj hm
 refine post_ret (vs := [.bool false]) results6 (rvs_cons (rv_tmp z) rvs_nil) ?_
 exact ⟨_, z, hI0, hst.keep0⟩
}
}
 {
 replace hm := bif_f hc303 hm
 refine wo hc303 z z z z z z (wo hc303 z z z z z z (wo hc303 z z z z z z (wv (.bool false) z z (x_pick_f hc303 z z) (wv (.bool false) z z z (wz z z z z z z (wz z z z z z z (wz z z z z z z (wv (.bool false) z z (x_pick_f z z z) (wv (.bool false) z z z (wz z z z z z z (wz z z z z z z (wz z z z z z z ?_))))))))))))
 refine wv (.bool false) z z (x_pick_f z z z) (wv (.bool false) z z z (wz z z z z z z (wz z z z z z z (wz z z z z z z (wz z z z z z z (wv (.bool false) z z (x_pick_f z z z) (wv (.bool false) z z z (wz z z z z z z (wz z z z z z z (wz z z z z z z (wz z z z z z z (wz z z z z z z ?_))))))))))))
 refine wz z z z z z z (wv (.bool false) z z (x_pick_f z z z) (wv (.bool false) z z z (wz z z z z z z (wz z z z z z z (wz z z z z z z (wz z z z z z z (wv (.bool false) z z (x_pick_f z z z) (wv (.bool false) z z z (wl_nil (tn (wp_ret ?_)))))))))))
 obtain rfl := some_inj hm
 refine post_ret (vs := [.bool false]) results6 (rvs_cons (rv_tmp z) rvs_nil) ?_
 exact ⟨_, z, hI0, hst.keep0⟩
}
}
}

end Go.Proofs.YtgnkkopjkgdieaaGreat
