/- The Go functions refine their models, part 5. -/
import Derived.Test.YtgnkkopjkgdieaaGreatLaneEpochsR4
set_option linter.unusedVariables false
set_option linter.unusedSimpArgs false
set_option maxRecDepth 100000
set_option maxHeartbeats 4000000
namespace Go.Proofs.YtgnkkopjkgdieaaGreat
open Go Go.V
open _root_.Go.Proofs.Tryz IntKind
attribute [local irreducible] wpList Code.wp wpQuiet Calls bodyPost Oper.wp wpS Nx PendOK YieldsIn
theorem law16_LaneEpochs_ref {w0 w : World} {I : HL} {R : SP} {a0 : Int} {a1 : (List Int)} {r1_0 : Value} {a2 : Int} (f1_0 : Ro (tyInt .u8) I r1_0 a1) (hst : St w0 w I [] R) {r : (Bool)} (hm : law16_LaneEpochs a0 a1 a2 = some r) :
  Calls prog 7 #[U1 a0, r1_0, U1 a2] w fun e w' => ∃ (I' : HL), e = .returned (.bool r) ∧ I.le I' ∧ St w0 w' I' [] R := by {
 unfold law16_LaneEpochs at hm
 refine calls_start (args := [U1 a0, r1_0, U1 a2]) func7 z ntmps7 (Nat.le_of_ble_eq_true z) ?_
 have hI0 := HL.le.refl I
 refine wp_seq (wrl (wv (.bool false) z z z (wl_nil (tn (wp_seq (wp_seq (wrl ?_)))))))
 obtain ⟨t461, ht462, hm⟩ := bind_some hm
 refine wc call12 [] z z z ?_
 refine (law16_awake_ref hst.to0 ht462).mono ?_
 rintro _ w463 ⟨I464, rfl, hI465, hst⟩
 refine ⟨_, z, ?_⟩
 replace hst := hst.of0
 replace f1_0 := f1_0.mono (ro_le hI465)
 replace hI0 := hI0.trans hI465
 refine wv (.bool (!t461)) z z z (wv (.bool (!t461)) z z z ?_)
 refine bsplit (!t461) (fun hc466 => ?_) (fun hc466 => ?_)
 {
 replace hm := bif_t hc466 hm
 refine wo hc466 z z z z z z (wo hc466 z z z z z z (wo hc466 z z z z z z (wv (.bool true) z z (x_pick_t hc466 z z) (wl_nil (tn ?_)))))
 refine wp_ift z ?_
 refine wp_seq (wrl ?_)
 obtain ⟨t467, ht468, hm⟩ := bind_some hm
 refine wc call12 [] z z z ?_
 refine (law16_awake_ref hst.to0 ht468).mono ?_
 rintro _ w469 ⟨I470, rfl, hI471, hst⟩
 refine ⟨_, z, ?_⟩
 replace hst := hst.of0
 replace f1_0 := f1_0.mono (ro_le hI471)
 replace hI0 := hI0.trans hI471
 refine wv (.bool t467) z z z (wl_nil (tn (wp_ret (then_r ?_))))
 obtain rfl := some_inj hm
 refine post_ret (vs := [.bool t467]) results7 (rvs_cons (rv_tmp z) rvs_nil) ?_
 exact ⟨_, z, hI0, hst.keep0⟩
}
 {
 replace hm := bif_f hc466 hm
 refine wv (r1_0) ((wanted_eq z z z (cvb hc466)).trans z) z z (wv (.int .i64 ((a1).length : Int)) ((wanted_eq z z z (cvb hc466)).trans z) z (x_len z underlying22 (ro_sliceV f1_0)) (wv (.bool (decide (((a1).length : Int) > (100:Int)))) ((wanted_eq z z z (cvb hc466)).trans z) z z (wv (.bool (decide (((a1).length : Int) > (100:Int)))) z z (x_pick_f hc466 z z) (wl_nil (tn ?_)))))
 refine bsplit (decide (((a1).length : Int) > (100:Int))) (fun hc472 => ?_) (fun hc472 => ?_)
 {
 replace hm := bif_t hc472 hm
 refine wp_ift (cvb hc472) ?_
 refine wp_seq (wrl ?_)
 obtain ⟨t473, ht474, hm⟩ := bind_some hm
 refine wc call12 [] z z z ?_
 refine (law16_awake_ref hst.to0 ht474).mono ?_
 rintro _ w475 ⟨I476, rfl, hI477, hst⟩
 refine ⟨_, z, ?_⟩
 replace hst := hst.of0
 replace f1_0 := f1_0.mono (ro_le hI477)
 replace hI0 := hI0.trans hI477
 refine wv (.bool t473) z z z (wl_nil (tn (wp_ret (then_r ?_))))
 obtain rfl := some_inj hm
 refine post_ret (vs := [.bool t473]) results7 (rvs_cons (rv_tmp z) rvs_nil) ?_
 exact ⟨_, z, hI0, hst.keep0⟩
}
 {
 replace hm := bif_f hc472 hm
 refine wp_iff (cvb hc472) ?_
 refine wp_skip (tn (wp_seq (wrl ?_)))
 obtain ⟨t478, ht479, hm⟩ := bind_some hm
 refine wc call13 [Zi] z z z ?_
 refine (lane_New_ref hst.to0 ht479).mono ?_
 rintro _ w480 ⟨v483, rfl, hst⟩
 refine ⟨_, z, ?_⟩
 replace hst := hst.of1
 refine wv (v483) z z z (wl_nil (tn (wp_seq (wrl (wv (.agg #[U6 (1:Int), U6 (1:Int)]) z z (by kernel_rfl) ?_)))))
 obtain ⟨b485, w486, ew487, eb488, hst⟩ := hst.box [Zu, Zu] 28
 refine wl_run (v := Pt b485 0) (w' := w486) z z (x_al (by kernel_rfl) ew487 eb488) ?_
 obtain ⟨w490, hr491, hst⟩ := hst.bx [U6 (1:Int), U6 (1:Int)] sizeOf28 z (oC z (oC z oN)) (by kernel_rfl)
 refine wl_unit z z (x_unit hr491) ?_
 refine wl_nil (tn (wp_seq (wrl (wv (v483) z z z (wv (.agg #[U6 (1:Int), U6 (1:Int)]) z z (x_loadN (cs := [U6 (1:Int), U6 (1:Int)]) z isAgg28 sizeOf28 (hst.bcs0 0 z)) ?_)))))
 obtain ⟨b492, w493, ew494, eb495, hst⟩ := hst.lits (E := tyF64) (xs := [(0:Nat)]) [[Zf]] 37 1 z (Reps.cons z Reps.nil)
 refine wl_run (v := (.slice (some ⟨b492, 0, none⟩) 1 1)) (w' := w493) z z (x_als (by kernel_rfl) ew494 eb495) ?_
 refine wv (.agg #[U6 (1:Int), U6 (1:Int), U6 (1:Int), Zs, Zs, (.slice (some ⟨b492, 0, none⟩) 1 1), Zs]) z z (by kernel_rfl) (wv (.agg #[U1 (2:Int), Zu, Zu, Zu, Zu, Zi, U6 (1:Int), U6 (1:Int), U6 (1:Int), Zs, Zs, (.slice (some ⟨b492, 0, none⟩) 1 1), Zs, Zs, Zi, Zu, Zu, Zs, Zs, Zu, Zs, Zu, Zi, Zi, Zf, Zf, Zu, Zi, .bool false]) z z (by kernel_rfl) ?_)
 replace hst := hst.pull2
 replace hst := objO_some hst
 have f509 : Ro tyF64 I464 (.slice none 0 0) [] := ro_nil
 have f510 : Ro tyF2 I464 (.slice none 0 0) [] := ro_nil
 replace hst := hst.pull1
 obtain ⟨I511, hI512, f513, hst⟩ := hst.own_fix
 replace f1_0 := f1_0.mono (ro_le hI512)
 replace f509 := f509.mono (ro_le hI512)
 replace f510 := f510.mono (ro_le hI512)
 replace hI0 := hI0.trans hI512
 have f514 : Ro (tyInt .u8) I511 (.slice none 0 0) [] := ro_nil
 have f515 : Ro ty_api_Write I511 (.slice none 0 0) [] := ro_nil
 have f516 : Ro ty_api_Got I511 (.slice none 0 0) [] := ro_nil
 have f517 : Ro (tySl ty_api_Pair) I511 (.slice none 0 0) [] := ro_nil
 have f518 : Ro ty_api_Part I511 (.slice none 0 0) [] := ro_nil
 obtain ⟨t519, ht520, hm⟩ := bind_some hm
 refine wc call14 [v483, U6 (1:Int), .agg #[U1 (2:Int), Zu, Zu, Zu, Zu, Zi, U6 (1:Int), U6 (1:Int), U6 (1:Int), Zs, Zs, (.slice (some ⟨b492, 0, none⟩) 1 1), Zs, Zs, Zi, Zu, Zu, Zs, Zs, Zu, Zs, Zu, Zi, Zi, Zf, Zf, Zu, Zi, .bool false]] z z z ?_
 refine (lane_State_Apply_ref (a2 := ({ Kind := (2:Int), ID := ({ Session := (0:Int), Seq := (0:Int) } : api_ID), Epoch := (0:Int), Index := (0:Int), E := (0:Int), Hold := ({ ID := ({ Session := (1:Int), Seq := (1:Int) } : api_ID), Epoch := (1:Int), Gets := [], Scans := [], Puts := [(0:Nat)], Data := [] } : api_Hold), Writes := [], R := zero_api_Reply, Shards := (0:Int), Parts := [], Rule := zero_api_Rule, On := false } : api_Command)) f509 f510 f513 f514 f515 f516 f517 f518 hst.to1 ht520).mono ?_
 rintro _ w521 ⟨I522, v524, v527, rfl, hI523, f526, f529, hst⟩
 refine ⟨_, z, ?_⟩
 replace hst := hst.of1
 replace f1_0 := f1_0.mono (ro_le hI523)
 replace f509 := f509.mono (ro_le hI523)
 replace f510 := f510.mono (ro_le hI523)
 replace f513 := f513.mono (ro_le hI523)
 replace f514 := f514.mono (ro_le hI523)
 replace f515 := f515.mono (ro_le hI523)
 replace f516 := f516.mono (ro_le hI523)
 replace f517 := f517.mono (ro_le hI523)
 replace f518 := f518.mono (ro_le hI523)
 replace hI0 := hI0.trans hI523
 rcases he531 : t519.2 with _ | y530
 · rw [he531] at hm; cases hm
 rw [he531] at hm hst; dsimp only at hm; replace hst := objO_get hst
 refine wl_nil (tn (wp_seq (wrl (wv (v483) z z z (wv (.agg #[U1 (1:Int), Zu, Zu, U6 (1:Int), Zu, Zi, Zu, Zu, Zu, Zs, Zs, Zs, Zs, Zs, Zi, Zu, Zu, Zs, Zs, Zu, Zs, Zu, Zi, Zi, Zf, Zf, Zu, Zi, .bool false]) z z (by kernel_rfl) ?_)))))
 replace hst := objO_some hst
 have f540 : Ro tyF64 I522 (.slice none 0 0) [] := ro_nil
 have f541 : Ro tyF2 I522 (.slice none 0 0) [] := ro_nil
 have f542 : Ro tyF64 I522 (.slice none 0 0) [] := ro_nil
 have f543 : Ro (tyInt .u8) I522 (.slice none 0 0) [] := ro_nil
 have f544 : Ro ty_api_Write I522 (.slice none 0 0) [] := ro_nil
 have f545 : Ro ty_api_Got I522 (.slice none 0 0) [] := ro_nil
 have f546 : Ro (tySl ty_api_Pair) I522 (.slice none 0 0) [] := ro_nil
 have f547 : Ro ty_api_Part I522 (.slice none 0 0) [] := ro_nil
 obtain ⟨t548, ht549, hm⟩ := bind_some hm
 refine wc call14 [v483, U6 (2:Int), .agg #[U1 (1:Int), Zu, Zu, U6 (1:Int), Zu, Zi, Zu, Zu, Zu, Zs, Zs, Zs, Zs, Zs, Zi, Zu, Zu, Zs, Zs, Zu, Zs, Zu, Zi, Zi, Zf, Zf, Zu, Zi, .bool false]] z z z ?_
 refine (lane_State_Apply_ref (a2 := ({ Kind := (1:Int), ID := ({ Session := (0:Int), Seq := (0:Int) } : api_ID), Epoch := (1:Int), Index := (0:Int), E := (0:Int), Hold := zero_api_Hold, Writes := [], R := zero_api_Reply, Shards := (0:Int), Parts := [], Rule := zero_api_Rule, On := false } : api_Command)) f540 f541 f542 f543 f544 f545 f546 f547 hst.to1 ht549).mono ?_
 rintro _ w550 ⟨I551, v553, v556, rfl, hI552, f555, f558, hst⟩
 refine ⟨_, z, ?_⟩
 replace hst := hst.of1
 replace f1_0 := f1_0.mono (ro_le hI552)
 replace f509 := f509.mono (ro_le hI552)
 replace f510 := f510.mono (ro_le hI552)
 replace f513 := f513.mono (ro_le hI552)
 replace f514 := f514.mono (ro_le hI552)
 replace f515 := f515.mono (ro_le hI552)
 replace f516 := f516.mono (ro_le hI552)
 replace f517 := f517.mono (ro_le hI552)
 replace f518 := f518.mono (ro_le hI552)
 replace f526 := f526.mono (ro_le hI552)
 replace f529 := f529.mono (ro_le hI552)
 replace f540 := f540.mono (ro_le hI552)
 replace f541 := f541.mono (ro_le hI552)
 replace f542 := f542.mono (ro_le hI552)
 replace f543 := f543.mono (ro_le hI552)
 replace f544 := f544.mono (ro_le hI552)
 replace f545 := f545.mono (ro_le hI552)
 replace f546 := f546.mono (ro_le hI552)
 replace f547 := f547.mono (ro_le hI552)
 replace hI0 := hI0.trans hI552
 rcases he560 : t548.2 with _ | y559
 · rw [he560] at hm; cases hm
 rw [he560] at hm hst; dsimp only at hm; replace hst := objO_get hst
 obtain ⟨b563, w564, ew565, eb566, hst⟩ := hst.box [Zb, Zu, Zu, Zi, Zu, Zu, Zs, Zs] 35
 refine wl_run (v := Pt b563 0) (w' := w564) z z (x_al (by kernel_rfl) ew565 eb566) ?_
 obtain ⟨w568, hr569, hst⟩ := hst.bx [U1 t548.1.Kind, U6 t548.1.ID.Session, U6 t548.1.ID.Seq, I6 t548.1.R.E, U6 t548.1.R.Epoch, U6 t548.1.R.Index, v553, v556] sizeOf35 z (oC z (oC z (oC z (oC z (oC z (oC z (oC (one_of_sliceV (ro_sliceV f555)) (oC (one_of_sliceV (ro_sliceV f558)) oN)))))))) (by kernel_rfl)
 refine wl_unit z z (x_unit hr569) ?_
 refine wl_nil (tn (wp_seq (wrl (wv (v483) z z z (wv (.agg #[U6 (1:Int), U6 (1:Int)]) z z (x_loadN (cs := [U6 (1:Int), U6 (1:Int)]) z isAgg28 sizeOf28 (hst.bcs2 0 z)) (wv (r1_0) z z z (wv (.agg #[Zf, .bool false, r1_0]) z z (by obtain ⟨_, _, hv_, _⟩ := (ro_sliceV f1_0); rw [hv_]; kernel_rfl) ?_)))))))
 obtain ⟨b572, w573, ew574, eb575, hst⟩ := hst.lits (E := ty_api_Write) (xs := [({ At := (0:Nat), Del := false, Val := a1 } : api_Write)]) [[Zf, .bool false, r1_0]] 41 1 z (Reps.cons ⟨_, z, f1_0, one_of_sliceV (ro_sliceV f1_0)⟩ Reps.nil)
 refine wl_run (v := (.slice (some ⟨b572, 0, none⟩) 1 1)) (w' := w573) z z (x_als (by kernel_rfl) ew574 eb575) ?_
 refine wv (.agg #[U1 (3:Int), U6 (1:Int), U6 (1:Int), U6 (1:Int), U6 (3:Int), Zi, Zu, Zu, Zu, Zs, Zs, Zs, Zs, (.slice (some ⟨b572, 0, none⟩) 1 1), Zi, Zu, Zu, Zs, Zs, Zu, Zs, Zu, Zi, Zi, Zf, Zf, Zu, Zi, .bool false]) z z (by kernel_rfl) ?_
 replace hst := hst.pull2
 replace hst := objO_some hst
 have f585 : Ro tyF64 I551 (.slice none 0 0) [] := ro_nil
 have f586 : Ro tyF2 I551 (.slice none 0 0) [] := ro_nil
 have f587 : Ro tyF64 I551 (.slice none 0 0) [] := ro_nil
 have f588 : Ro (tyInt .u8) I551 (.slice none 0 0) [] := ro_nil
 replace hst := hst.pull1
 obtain ⟨I589, hI590, f591, hst⟩ := hst.own_fix
 replace f1_0 := f1_0.mono (ro_le hI590)
 replace f509 := f509.mono (ro_le hI590)
 replace f510 := f510.mono (ro_le hI590)
 replace f513 := f513.mono (ro_le hI590)
 replace f514 := f514.mono (ro_le hI590)
 replace f515 := f515.mono (ro_le hI590)
 replace f516 := f516.mono (ro_le hI590)
 replace f517 := f517.mono (ro_le hI590)
 replace f518 := f518.mono (ro_le hI590)
 replace f526 := f526.mono (ro_le hI590)
 replace f529 := f529.mono (ro_le hI590)
 replace f540 := f540.mono (ro_le hI590)
 replace f541 := f541.mono (ro_le hI590)
 replace f542 := f542.mono (ro_le hI590)
 replace f543 := f543.mono (ro_le hI590)
 replace f544 := f544.mono (ro_le hI590)
 replace f545 := f545.mono (ro_le hI590)
 replace f546 := f546.mono (ro_le hI590)
 replace f547 := f547.mono (ro_le hI590)
 replace f555 := f555.mono (ro_le hI590)
 replace f558 := f558.mono (ro_le hI590)
 replace f585 := f585.mono (ro_le hI590)
 replace f586 := f586.mono (ro_le hI590)
 replace f587 := f587.mono (ro_le hI590)
 replace f588 := f588.mono (ro_le hI590)
 replace hI0 := hI0.trans hI590
 have f592 : Ro ty_api_Got I589 (.slice none 0 0) [] := ro_nil
 have f593 : Ro (tySl ty_api_Pair) I589 (.slice none 0 0) [] := ro_nil
 have f594 : Ro ty_api_Part I589 (.slice none 0 0) [] := ro_nil
 obtain ⟨t595, ht596, hm⟩ := bind_some hm
 refine wc call14 [v483, U6 (3:Int), .agg #[U1 (3:Int), U6 (1:Int), U6 (1:Int), U6 (1:Int), U6 (3:Int), Zi, Zu, Zu, Zu, Zs, Zs, Zs, Zs, (.slice (some ⟨b572, 0, none⟩) 1 1), Zi, Zu, Zu, Zs, Zs, Zu, Zs, Zu, Zi, Zi, Zf, Zf, Zu, Zi, .bool false]] z z z ?_
 refine (lane_State_Apply_ref (a2 := ({ Kind := (3:Int), ID := ({ Session := (1:Int), Seq := (1:Int) } : api_ID), Epoch := (1:Int), Index := (3:Int), E := (0:Int), Hold := zero_api_Hold, Writes := [({ At := (0:Nat), Del := false, Val := a1 } : api_Write)], R := zero_api_Reply, Shards := (0:Int), Parts := [], Rule := zero_api_Rule, On := false } : api_Command)) f585 f586 f587 f588 f591 f592 f593 f594 hst.to1 ht596).mono ?_
 rintro _ w597 ⟨I598, v600, v603, rfl, hI599, f602, f605, hst⟩
 refine ⟨_, z, ?_⟩
 replace hst := hst.of1
 replace f1_0 := f1_0.mono (ro_le hI599)
 replace f509 := f509.mono (ro_le hI599)
 replace f510 := f510.mono (ro_le hI599)
 replace f513 := f513.mono (ro_le hI599)
 replace f514 := f514.mono (ro_le hI599)
 replace f515 := f515.mono (ro_le hI599)
 replace f516 := f516.mono (ro_le hI599)
 replace f517 := f517.mono (ro_le hI599)
 replace f518 := f518.mono (ro_le hI599)
 replace f526 := f526.mono (ro_le hI599)
 replace f529 := f529.mono (ro_le hI599)
 replace f540 := f540.mono (ro_le hI599)
 replace f541 := f541.mono (ro_le hI599)
 replace f542 := f542.mono (ro_le hI599)
 replace f543 := f543.mono (ro_le hI599)
 replace f544 := f544.mono (ro_le hI599)
 replace f545 := f545.mono (ro_le hI599)
 replace f546 := f546.mono (ro_le hI599)
 replace f547 := f547.mono (ro_le hI599)
 replace f555 := f555.mono (ro_le hI599)
 replace f558 := f558.mono (ro_le hI599)
 replace f585 := f585.mono (ro_le hI599)
 replace f586 := f586.mono (ro_le hI599)
 replace f587 := f587.mono (ro_le hI599)
 replace f588 := f588.mono (ro_le hI599)
 replace f591 := f591.mono (ro_le hI599)
 replace f592 := f592.mono (ro_le hI599)
 replace f593 := f593.mono (ro_le hI599)
 replace f594 := f594.mono (ro_le hI599)
 replace hI0 := hI0.trans hI599
 rcases he607 : t595.2 with _ | y606
 · rw [he607] at hm; cases hm
 rw [he607] at hm hst; dsimp only at hm; replace hst := objO_get hst
 refine wl_nil (tn (wp_seq (wp_seq (wrl (wv (Pt b563 0) z z (x_field z underlying35 z sizeOf5 z) (wv (.int .u8 t548.1.Kind) z z (x_load z isAgg5 (hst.bc1 z)) (wv (.bool (t548.1.Kind != (0:Int))) z z z (wv (.bool (t548.1.Kind != (0:Int))) z z z ?_))))))))
 refine bsplit (t548.1.Kind != (0:Int)) (fun hc608 => ?_) (fun hc608 => ?_)
 {
 replace hm := bif_t hc608 hm
 refine wo hc608 z z z z z z (wo hc608 z z z z z z (wo hc608 z z z z z z (wv (.bool true) z z (x_pick_t hc608 z z) (wl_nil (tn ?_)))))
 refine wp_ift z ?_
 refine wp_seq (wrl (wv (.bool false) z z z (wl_nil (tn (wp_ret (then_r ?_))))))
 obtain rfl := some_inj hm
 refine post_ret (vs := [.bool false]) results7 (rvs_cons (rv_tmp z) rvs_nil) ?_
 exact ⟨_, z, hI0, hst.keep0⟩
}
 {
 replace hm := bif_f hc608 hm
 refine wv (v483) ((wanted_eq z z z (cvb hc608)).trans z) z z ?_
 replace hst := objO_some hst
 obtain ⟨t609, ht610, hm⟩ := bind_some hm
 refine wl_call ((wanted_eq z z z (cvb hc608)).trans z) z (x_call call24 z (vs := [v483]) z) ?_
 refine (lane_State_Epoch_ref hst.to1 ht610).mono ?_
 rintro _ w611 ⟨rfl, hst⟩
 refine ⟨_, z, ?_⟩
 replace hst := hst.of1
 replace hst := objO_get hst
 refine wv (.bool (t609 != (1:Int))) ((wanted_eq z z z (cvb hc608)).trans z) z z (wv (.bool (t609 != (1:Int))) z z (x_pick_f hc608 z z) (wl_nil (tn ?_)))
 refine bsplit (t609 != (1:Int)) (fun hc614 => ?_) (fun hc614 => ?_)
 {
 replace hm := bif_t hc614 hm
 refine wp_ift (cvb hc614) ?_
 refine wp_seq (wrl (wv (.bool false) z z z (wl_nil (tn (wp_ret (then_r ?_))))))
 obtain rfl := some_inj hm
 refine post_ret (vs := [.bool false]) results7 (rvs_cons (rv_tmp z) rvs_nil) ?_
 exact ⟨_, z, hI0, hst.keep0⟩
}
 {
 replace hm := bif_f hc614 hm
 refine wp_iff (cvb hc614) ?_
 refine wp_skip (tn (wp_seq (wrl ?_)))
 refine wv (.int .u8 a0) z z z (wv (.int .i64 (i64.wrap a0)) z z (by kernel_rfl) (wv (.int .i64 (Int.tmod (i64.wrap a0) (15:Int))) z z (x_rem (by decide) z z) (wv (.int .i64 (Int.tmod (i64.wrap a0) (15:Int))) z z z (wl_nil (tn ?_)))))
 obtain ⟨y833, hm, hx834⟩ := joinO_some hm
 refine wp_cut (fun a w => ∃ (I830 : HL) (z829 : lane_State) (σ831 : Nat → Value), (law16_LaneEpochs_j0 a0 a1) z829 = some r ∧ a = Fr 132 (upd (upd (upd σ831 1 (r1_0)) 7 (v483)) 10 (.int .i64 (Int.tmod (i64.wrap a0) (15:Int)))) ∧ I598.le I830 ∧ St w0 w I830 [at_lane_State v483 z829] R) ?_ ?_
 {
 have hL835 := HL.le.refl I598
 refine wp_seq (wrl (wv (.int .i64 (0:Int)) z z z (wl_nil (tn (wp_block ?_)))))
 replace hst := hst.pull1.sub.pull1.sub
 obtain ⟨n755, hm⟩ := loopO_some hm
 refine wp_loop_n (fun n a w => ∃ (I753 : HL) (z751 : lane_State) (z752 : Int) (σ754 : Nat → Value), loopN (law16_LaneEpochs_l1 a0) n (z751, z752) = some y833 ∧ a = Fr 132 (upd (upd (upd (upd σ754 1 (r1_0)) 7 (v483)) 10 (.int .i64 (Int.tmod (i64.wrap a0) (15:Int)))) 11 (.int .i64 z752)) ∧ I598.le I753 ∧ St w0 w I753 [at_lane_State v483 z751] R) n755 ⟨_, y606, (0:Int), _, hm, (fu 1 r1_0 z (fu 7 v483 z (fu 10 (.int .i64 (Int.tmod (i64.wrap a0) (15:Int))) z (fu 11 (.int .i64 (0:Int)) z z)))), (HL.le.refl _), hst⟩ ?_
 rintro n761 _ w756 ⟨I753, z751, z752, σ754, hm, rfl, hL757, hst⟩
 obtain ⟨n758, y759, rfl, hm, hx760⟩ := loopN_some hm
 dsimp only [law16_LaneEpochs_l1] at hm
 replace f1_0 := f1_0.mono (ro_le hL757)
 replace f509 := f509.mono (ro_le hL757)
 replace f510 := f510.mono (ro_le hL757)
 replace f513 := f513.mono (ro_le hL757)
 replace f514 := f514.mono (ro_le hL757)
 replace f515 := f515.mono (ro_le hL757)
 replace f516 := f516.mono (ro_le hL757)
 replace f517 := f517.mono (ro_le hL757)
 replace f518 := f518.mono (ro_le hL757)
 replace f526 := f526.mono (ro_le hL757)
 replace f529 := f529.mono (ro_le hL757)
 replace f540 := f540.mono (ro_le hL757)
 replace f541 := f541.mono (ro_le hL757)
 replace f542 := f542.mono (ro_le hL757)
 replace f543 := f543.mono (ro_le hL757)
 replace f544 := f544.mono (ro_le hL757)
 replace f545 := f545.mono (ro_le hL757)
 replace f546 := f546.mono (ro_le hL757)
 replace f547 := f547.mono (ro_le hL757)
 replace f555 := f555.mono (ro_le hL757)
 replace f558 := f558.mono (ro_le hL757)
 replace f585 := f585.mono (ro_le hL757)
 replace f586 := f586.mono (ro_le hL757)
 replace f587 := f587.mono (ro_le hL757)
 replace f588 := f588.mono (ro_le hL757)
 replace f591 := f591.mono (ro_le hL757)
 replace f592 := f592.mono (ro_le hL757)
 replace f593 := f593.mono (ro_le hL757)
 replace f594 := f594.mono (ro_le hL757)
 replace f602 := f602.mono (ro_le hL757)
 replace f605 := f605.mono (ro_le hL757)
 replace hI0 := hI0.trans hL757
 replace hL835 := hL835.trans hL757
 refine wp_seq (wp_seq (wrl (wv (.int .i64 z752) z z z (wv (.int .i64 (Int.tmod (i64.wrap a0) (15:Int))) z z z (wv (.bool (decide (z752 < (Int.tmod (i64.wrap a0) (15:Int))))) z z z (wl_nil (tn ?_)))))))
 refine bsplit (decide (z752 < (Int.tmod (i64.wrap a0) (15:Int)))) (fun hc762 => ?_) (fun hc762 => ?_)
 {
 replace hm := bif_t hc762 hm
 refine wp_ift (cvb hc762) ?_
 refine wp_skip (tn (wp_seq (wp_block (wp_seq (wrl ?_)))))
 refine wv (.int .i64 z752) z z z (wv (.int .i64 (i64.wrap (z752 + (1:Int)))) z z z (wv (.int .u64 (u64.wrap (i64.wrap (z752 + (1:Int))))) z z (by kernel_rfl) (wv (.int .u64 (u64.wrap (i64.wrap (z752 + (1:Int))))) z z z (wl_nil (tn (wp_seq (wrl (wv (v483) z z z (wv (.int .u64 (u64.wrap (i64.wrap (z752 + (1:Int))))) z z z (wv (.int .u64 (u64.wrap ((u64.wrap (i64.wrap (z752 + (1:Int)))) + (1:Int)))) z z z (wv (.agg #[U1 (1:Int), Zu, Zu, U6 (u64.wrap ((u64.wrap (i64.wrap (z752 + (1:Int)))) + (1:Int))), Zu, Zi, Zu, Zu, Zu, Zs, Zs, Zs, Zs, Zs, Zi, Zu, Zu, Zs, Zs, Zu, Zs, Zu, Zi, Zi, Zf, Zf, Zu, Zi, .bool false]) z z (by kernel_rfl) ?_)))))))))))
 replace hst := objO_some hst
 have f771 : Ro tyF64 I753 (.slice none 0 0) [] := ro_nil
 have f772 : Ro tyF2 I753 (.slice none 0 0) [] := ro_nil
 have f773 : Ro tyF64 I753 (.slice none 0 0) [] := ro_nil
 have f774 : Ro (tyInt .u8) I753 (.slice none 0 0) [] := ro_nil
 have f775 : Ro ty_api_Write I753 (.slice none 0 0) [] := ro_nil
 have f776 : Ro ty_api_Got I753 (.slice none 0 0) [] := ro_nil
 have f777 : Ro (tySl ty_api_Pair) I753 (.slice none 0 0) [] := ro_nil
 have f778 : Ro ty_api_Part I753 (.slice none 0 0) [] := ro_nil
 obtain ⟨t779, ht780, hm⟩ := bind_some hm
 refine wc call14 [v483, U6 (9:Int), .agg #[U1 (1:Int), Zu, Zu, U6 (u64.wrap ((u64.wrap (i64.wrap (z752 + (1:Int)))) + (1:Int))), Zu, Zi, Zu, Zu, Zu, Zs, Zs, Zs, Zs, Zs, Zi, Zu, Zu, Zs, Zs, Zu, Zs, Zu, Zi, Zi, Zf, Zf, Zu, Zi, .bool false]] z z z ?_
 refine (lane_State_Apply_ref (a2 := ({ Kind := (1:Int), ID := ({ Session := (0:Int), Seq := (0:Int) } : api_ID), Epoch := (u64.wrap ((u64.wrap (i64.wrap (z752 + (1:Int)))) + (1:Int))), Index := (0:Int), E := (0:Int), Hold := zero_api_Hold, Writes := [], R := zero_api_Reply, Shards := (0:Int), Parts := [], Rule := zero_api_Rule, On := false } : api_Command)) f771 f772 f773 f774 f775 f776 f777 f778 hst.to1 ht780).mono ?_
 rintro _ w781 ⟨I782, v784, v787, rfl, hI783, f786, f789, hst⟩
 refine ⟨_, z, ?_⟩
 replace hst := hst.of1
 replace f1_0 := f1_0.mono (ro_le hI783)
 replace f509 := f509.mono (ro_le hI783)
 replace f510 := f510.mono (ro_le hI783)
 replace f513 := f513.mono (ro_le hI783)
 replace f514 := f514.mono (ro_le hI783)
 replace f515 := f515.mono (ro_le hI783)
 replace f516 := f516.mono (ro_le hI783)
 replace f517 := f517.mono (ro_le hI783)
 replace f518 := f518.mono (ro_le hI783)
 replace f526 := f526.mono (ro_le hI783)
 replace f529 := f529.mono (ro_le hI783)
 replace f540 := f540.mono (ro_le hI783)
 replace f541 := f541.mono (ro_le hI783)
 replace f542 := f542.mono (ro_le hI783)
 replace f543 := f543.mono (ro_le hI783)
 replace f544 := f544.mono (ro_le hI783)
 replace f545 := f545.mono (ro_le hI783)
 replace f546 := f546.mono (ro_le hI783)
 replace f547 := f547.mono (ro_le hI783)
 replace f555 := f555.mono (ro_le hI783)
 replace f558 := f558.mono (ro_le hI783)
 replace f585 := f585.mono (ro_le hI783)
 replace f586 := f586.mono (ro_le hI783)
 replace f587 := f587.mono (ro_le hI783)
 replace f588 := f588.mono (ro_le hI783)
 replace f591 := f591.mono (ro_le hI783)
 replace f592 := f592.mono (ro_le hI783)
 replace f593 := f593.mono (ro_le hI783)
 replace f594 := f594.mono (ro_le hI783)
 replace f602 := f602.mono (ro_le hI783)
 replace f605 := f605.mono (ro_le hI783)
 replace f771 := f771.mono (ro_le hI783)
 replace f772 := f772.mono (ro_le hI783)
 replace f773 := f773.mono (ro_le hI783)
 replace f774 := f774.mono (ro_le hI783)
 replace f775 := f775.mono (ro_le hI783)
 replace f776 := f776.mono (ro_le hI783)
 replace f777 := f777.mono (ro_le hI783)
 replace f778 := f778.mono (ro_le hI783)
 replace hI0 := hI0.trans hI783
 replace hL835 := hL835.trans hI783
 replace hL757 := hL757.trans hI783
 rcases he791 : t779.2 with _ | y790
 · rw [he791] at hm; cases hm
 rw [he791] at hm hst; dsimp only at hm; replace hst := objO_get hst
 refine wv (.int .u8 t779.1.Kind) z z (by obtain ⟨_, _, hv_, _⟩ := (ro_sliceV f789); rw [hv_]; obtain ⟨_, _, hv_, _⟩ := (ro_sliceV f786); rw [hv_]; kernel_rfl) (wv (.bool (t779.1.Kind != (0:Int))) z z z (wv (.bool (t779.1.Kind != (0:Int))) z z z ?_))
 refine bsplit (t779.1.Kind != (0:Int)) (fun hc792 => ?_) (fun hc792 => ?_)
 {
 replace hm := bif_t hc792 hm
 refine wo hc792 z z z z z z (wo hc792 z z z z z z (wo hc792 z z z z z z (wo hc792 z z z z z z (wo hc792 z z z z z z (wo hc792 z z z z z z (wv (.bool true) z z (x_pick_t hc792 z z) (wv (.bool true) z z z (wz z z z z z z (wz z z z z z z (wz z z z z z z (wz z z z z z z (wz z z z z z z ?_))))))))))))
 refine wv (.bool true) z z (x_pick_t z z z) (wl_nil (tn ?_))
 refine wp_ift z ?_
 refine wp_seq (wrl (wv (.bool false) z z z (wl_nil (tn (wp_ret (blk_r (then_r (then_r ?_))))))))
 replace hm := inr_up hm hx760
 refine blk_r (then_r ?_)
 replace hm := inr_up hm hx834
 obtain rfl := some_inj hm
 refine post_ret (vs := [.bool false]) results7 (rvs_cons (rv_tmp z) rvs_nil) ?_
 exact ⟨_, z, hI0, hst.keep0⟩
}
 {
 replace hm := bif_f hc792 hm
 refine wv (v483) ((wanted_eq z z z (cvb hc792)).trans z) z z (wv (.int .u64 (u64.wrap (i64.wrap (z752 + (1:Int))))) ((wanted_eq z z z (cvb hc792)).trans z) z z (wv (.agg #[U1 (1:Int), Zu, Zu, U6 (u64.wrap (i64.wrap (z752 + (1:Int)))), Zu, Zi, Zu, Zu, Zu, Zs, Zs, Zs, Zs, Zs, Zi, Zu, Zu, Zs, Zs, Zu, Zs, Zu, Zi, Zi, Zf, Zf, Zu, Zi, .bool false]) ((wanted_eq z z z (cvb hc792)).trans z) z (by kernel_rfl) ?_))
 replace hst := objO_some hst
 have f801 : Ro tyF64 I782 (.slice none 0 0) [] := ro_nil
 have f802 : Ro tyF2 I782 (.slice none 0 0) [] := ro_nil
 have f803 : Ro tyF64 I782 (.slice none 0 0) [] := ro_nil
 have f804 : Ro (tyInt .u8) I782 (.slice none 0 0) [] := ro_nil
 have f805 : Ro ty_api_Write I782 (.slice none 0 0) [] := ro_nil
 have f806 : Ro ty_api_Got I782 (.slice none 0 0) [] := ro_nil
 have f807 : Ro (tySl ty_api_Pair) I782 (.slice none 0 0) [] := ro_nil
 have f808 : Ro ty_api_Part I782 (.slice none 0 0) [] := ro_nil
 obtain ⟨t809, ht810, hm⟩ := bind_some hm
 refine wl_call ((wanted_eq z z z (cvb hc792)).trans z) z (x_call call14 z (vs := [v483, U6 (9:Int), .agg #[U1 (1:Int), Zu, Zu, U6 (u64.wrap (i64.wrap (z752 + (1:Int)))), Zu, Zi, Zu, Zu, Zu, Zs, Zs, Zs, Zs, Zs, Zi, Zu, Zu, Zs, Zs, Zu, Zs, Zu, Zi, Zi, Zf, Zf, Zu, Zi, .bool false]]) z) ?_
 refine (lane_State_Apply_ref (a2 := ({ Kind := (1:Int), ID := ({ Session := (0:Int), Seq := (0:Int) } : api_ID), Epoch := (u64.wrap (i64.wrap (z752 + (1:Int)))), Index := (0:Int), E := (0:Int), Hold := zero_api_Hold, Writes := [], R := zero_api_Reply, Shards := (0:Int), Parts := [], Rule := zero_api_Rule, On := false } : api_Command)) f801 f802 f803 f804 f805 f806 f807 f808 hst.to1 ht810).mono ?_
 rintro _ w811 ⟨I812, v814, v817, rfl, hI813, f816, f819, hst⟩
 refine ⟨_, z, ?_⟩
 replace hst := hst.of1
 replace f1_0 := f1_0.mono (ro_le hI813)
 replace f509 := f509.mono (ro_le hI813)
 replace f510 := f510.mono (ro_le hI813)
 replace f513 := f513.mono (ro_le hI813)
 replace f514 := f514.mono (ro_le hI813)
 replace f515 := f515.mono (ro_le hI813)
 replace f516 := f516.mono (ro_le hI813)
 replace f517 := f517.mono (ro_le hI813)
 replace f518 := f518.mono (ro_le hI813)
 replace f526 := f526.mono (ro_le hI813)
 replace f529 := f529.mono (ro_le hI813)
 replace f540 := f540.mono (ro_le hI813)
 replace f541 := f541.mono (ro_le hI813)
 replace f542 := f542.mono (ro_le hI813)
 replace f543 := f543.mono (ro_le hI813)
 replace f544 := f544.mono (ro_le hI813)
 replace f545 := f545.mono (ro_le hI813)
 replace f546 := f546.mono (ro_le hI813)
 replace f547 := f547.mono (ro_le hI813)
 replace f555 := f555.mono (ro_le hI813)
 replace f558 := f558.mono (ro_le hI813)
 replace f585 := f585.mono (ro_le hI813)
 replace f586 := f586.mono (ro_le hI813)
 replace f587 := f587.mono (ro_le hI813)
 replace f588 := f588.mono (ro_le hI813)
 replace f591 := f591.mono (ro_le hI813)
 replace f592 := f592.mono (ro_le hI813)
 replace f593 := f593.mono (ro_le hI813)
 replace f594 := f594.mono (ro_le hI813)
 replace f602 := f602.mono (ro_le hI813)
 replace f605 := f605.mono (ro_le hI813)
 replace f771 := f771.mono (ro_le hI813)
 replace f772 := f772.mono (ro_le hI813)
 replace f773 := f773.mono (ro_le hI813)
 replace f774 := f774.mono (ro_le hI813)
 replace f775 := f775.mono (ro_le hI813)
 replace f776 := f776.mono (ro_le hI813)
 replace f777 := f777.mono (ro_le hI813)
 replace f778 := f778.mono (ro_le hI813)
 replace f786 := f786.mono (ro_le hI813)
 replace f789 := f789.mono (ro_le hI813)
 replace f801 := f801.mono (ro_le hI813)
 replace f802 := f802.mono (ro_le hI813)
 replace f803 := f803.mono (ro_le hI813)
 replace f804 := f804.mono (ro_le hI813)
 replace f805 := f805.mono (ro_le hI813)
 replace f806 := f806.mono (ro_le hI813)
 replace f807 := f807.mono (ro_le hI813)
 replace f808 := f808.mono (ro_le hI813)
 replace hI0 := hI0.trans hI813
 replace hL835 := hL835.trans hI813
 replace hL757 := hL757.trans hI813
 rcases he821 : t809.2 with _ | y820
 · rw [he821] at hm; cases hm
 rw [he821] at hm hst; dsimp only at hm; replace hst := objO_get hst
 refine wv (.int .u8 t809.1.Kind) ((wanted_eq z z z (cvb hc792)).trans z) z (by obtain ⟨_, _, hv_, _⟩ := (ro_sliceV f819); rw [hv_]; obtain ⟨_, _, hv_, _⟩ := (ro_sliceV f816); rw [hv_]; kernel_rfl) (wv (.bool (t809.1.Kind != (1:Int))) ((wanted_eq z z z (cvb hc792)).trans z) z z (wv (.bool (t809.1.Kind != (1:Int))) z z (x_pick_f hc792 z z) (wv (.bool (t809.1.Kind != (1:Int))) z z z ?_)))
 refine bsplit (t809.1.Kind != (1:Int)) (fun hc822 => ?_) (fun hc822 => ?_)
 {
 replace hm := bif_t hc822 hm
 refine wo hc822 z z z z z z (wo hc822 z z z z z z (wo hc822 z z z z z z (wo hc822 z z z z z z (wo hc822 z z z z z z (wv (.bool true) z z (x_pick_t hc822 z z) (wl_nil (tn ?_)))))))
 refine wp_ift z ?_
 refine wp_seq (wrl (wv (.bool false) z z z (wl_nil (tn (wp_ret (blk_r (then_r (then_r ?_))))))))
 replace hm := inr_up hm hx760
 refine blk_r (then_r ?_)
 replace hm := inr_up hm hx834
 obtain rfl := some_inj hm
 refine post_ret (vs := [.bool false]) results7 (rvs_cons (rv_tmp z) rvs_nil) ?_
 exact ⟨_, z, hI0, hst.keep0⟩
}
 {
 replace hm := bif_f hc822 hm
 refine wv (v483) ((wanted_eq z z z (cvb hc822)).trans z) z z ?_
 replace hst := objO_some hst
 obtain ⟨t823, ht824, hm⟩ := bind_some hm
 refine wl_call ((wanted_eq z z z (cvb hc822)).trans z) z (x_call call24 z (vs := [v483]) z) ?_
 refine (lane_State_Epoch_ref hst.to1 ht824).mono ?_
 rintro _ w825 ⟨rfl, hst⟩
 refine ⟨_, z, ?_⟩
 replace hst := hst.of1
 replace hst := objO_get hst
 refine wv (.int .u64 (u64.wrap (i64.wrap (z752 + (1:Int))))) ((wanted_eq z z z (cvb hc822)).trans z) z z (wv (.int .u64 (u64.wrap ((u64.wrap (i64.wrap (z752 + (1:Int)))) + (1:Int)))) ((wanted_eq z z z (cvb hc822)).trans z) z z (wv (.bool (t823 != (u64.wrap ((u64.wrap (i64.wrap (z752 + (1:Int)))) + (1:Int))))) ((wanted_eq z z z (cvb hc822)).trans z) z z (wv (.bool (t823 != (u64.wrap ((u64.wrap (i64.wrap (z752 + (1:Int)))) + (1:Int))))) z z (x_pick_f hc822 z z) (wl_nil (tn ?_)))))
 refine bsplit (t823 != (u64.wrap ((u64.wrap (i64.wrap (z752 + (1:Int)))) + (1:Int)))) (fun hc828 => ?_) (fun hc828 => ?_)
 {
 replace hm := bif_t hc828 hm
 refine wp_ift (cvb hc828) ?_
 refine wp_seq (wrl (wv (.bool false) z z z (wl_nil (tn (wp_ret (blk_r (then_r (then_r ?_))))))))
 replace hm := inr_up hm hx760
 refine blk_r (then_r ?_)
 replace hm := inr_up hm hx834
 obtain rfl := some_inj hm
 refine post_ret (vs := [.bool false]) results7 (rvs_cons (rv_tmp z) rvs_nil) ?_
 exact ⟨_, z, hI0, hst.keep0⟩
}
 {
 replace hm := bif_f hc828 hm
 refine wp_iff (cvb hc828) ?_
 refine wp_skip (blk_n (tn (wrl ?_)))
 refine wv (.int .i64 z752) z z z (wv (.int .i64 (i64.wrap (z752 + (1:Int)))) z z z (wv (.int .i64 (i64.wrap (z752 + (1:Int)))) z z z (wl_nil (tn ?_))))
 replace hst := hst.keep1
 obtain rfl := some_inj hm
 exact ⟨_, Nat.lt_succ_self _, _, y820, (i64.wrap (z752 + (1:Int))), _, hx760, (fu 1 r1_0 z (fu 7 v483 z (fu 10 (.int .i64 (Int.tmod (i64.wrap a0) (15:Int))) z (fu 11 (.int .i64 (i64.wrap (z752 + (1:Int)))) z z)))), hL757, hst⟩
}
}
}
}
 {
 replace hm := bif_f hc762 hm
 refine wp_iff (cvb hc762) ?_
 refine wp_exit (then_x (then_x ?_))
 replace hm := inr_up hm hx760
 refine blk_x (tn ?_)
 replace hst := hst.keep1
 obtain rfl := some_inj hm
 exact ⟨_, z751, _, hx834, (fu 1 r1_0 z (fu 7 v483 z (fu 10 (.int .i64 (Int.tmod (i64.wrap a0) (15:Int))) z z))), hL835, hst⟩
}
}
 {
 clear hst
 rintro _ w836 ⟨I830, z829, σ831, hm, rfl, hL832, hst⟩
 dsimp only [law16_LaneEpochs_j0] at hm
 replace f1_0 := f1_0.mono (ro_le hL832)
 replace f509 := f509.mono (ro_le hL832)
 replace f510 := f510.mono (ro_le hL832)
 replace f513 := f513.mono (ro_le hL832)
 replace f514 := f514.mono (ro_le hL832)
 replace f515 := f515.mono (ro_le hL832)
 replace f516 := f516.mono (ro_le hL832)
 replace f517 := f517.mono (ro_le hL832)
 replace f518 := f518.mono (ro_le hL832)
 replace f526 := f526.mono (ro_le hL832)
 replace f529 := f529.mono (ro_le hL832)
 replace f540 := f540.mono (ro_le hL832)
 replace f541 := f541.mono (ro_le hL832)
 replace f542 := f542.mono (ro_le hL832)
 replace f543 := f543.mono (ro_le hL832)
 replace f544 := f544.mono (ro_le hL832)
 replace f545 := f545.mono (ro_le hL832)
 replace f546 := f546.mono (ro_le hL832)
 replace f547 := f547.mono (ro_le hL832)
 replace f555 := f555.mono (ro_le hL832)
 replace f558 := f558.mono (ro_le hL832)
 replace f585 := f585.mono (ro_le hL832)
 replace f586 := f586.mono (ro_le hL832)
 replace f587 := f587.mono (ro_le hL832)
 replace f588 := f588.mono (ro_le hL832)
 replace f591 := f591.mono (ro_le hL832)
 replace f592 := f592.mono (ro_le hL832)
 replace f593 := f593.mono (ro_le hL832)
 replace f594 := f594.mono (ro_le hL832)
 replace f602 := f602.mono (ro_le hL832)
 replace f605 := f605.mono (ro_le hL832)
 replace hI0 := hI0.trans hL832
 refine wp_seq (wp_seq (wrl (wv (.int .u64 (0:Int)) z z z (wl_nil (tn (wp_block ?_))))))
 obtain ⟨n888, hm⟩ := loopO_some hm
 refine wp_loop_n (fun n a w => ∃ (z886 : Int) (σ887 : Nat → Value), loopN (law16_LaneEpochs_l2 a0 z829 a1) n z886 = some r ∧ a = Fr 132 (upd (upd (upd (upd σ887 1 (r1_0)) 7 (v483)) 10 (.int .i64 (Int.tmod (i64.wrap a0) (15:Int)))) 13 (.int .u64 z886)) ∧ St w0 w I830 [at_lane_State v483 z829] R) n888 ⟨(0:Int), _, hm, (fu 1 r1_0 z (fu 7 v483 z (fu 10 (.int .i64 (Int.tmod (i64.wrap a0) (15:Int))) z (fu 13 (.int .u64 (0:Int)) z z)))), hst⟩ ?_
 rintro n894 _ w889 ⟨z886, σ887, hm, rfl, hst⟩
 obtain ⟨n891, y892, rfl, hm, hx893⟩ := loopN_some hm
 dsimp only [law16_LaneEpochs_l2] at hm
 refine wp_seq (wp_seq (wrl (wv (.int .u64 z886) z z z (wv (.int .i64 (Int.tmod (i64.wrap a0) (15:Int))) z z z (wv (.int .u64 (u64.wrap (Int.tmod (i64.wrap a0) (15:Int)))) z z (by kernel_rfl) (wv (.int .u64 (u64.wrap ((u64.wrap (Int.tmod (i64.wrap a0) (15:Int))) + (1:Int)))) z z z (wv (.bool (decide (z886 ≤ (u64.wrap ((u64.wrap (Int.tmod (i64.wrap a0) (15:Int))) + (1:Int)))))) z z z (wl_nil (tn ?_)))))))))
 refine bsplit (decide (z886 ≤ (u64.wrap ((u64.wrap (Int.tmod (i64.wrap a0) (15:Int))) + (1:Int))))) (fun hc895 => ?_) (fun hc895 => ?_)
 {
 replace hm := bif_t hc895 hm
 refine wp_ift (cvb hc895) ?_
 refine wp_skip (tn (wp_seq (wp_block (wp_seq (wrl ?_)))))
 refine wv (v483) z z z (wv (.int .u64 z886) z z z ?_)
 replace hst := objO_some hst
 obtain ⟨t896, ht897, hm⟩ := bind_some hm
 refine wc call25 [v483, Zf, U6 z886] z z z ?_
 refine (lane_State_Get_ref hst.to1 ht897).mono ?_
 rintro _ w898 ⟨v901, rfl, hst⟩
 refine ⟨_, z, ?_⟩
 replace hst := hst.of2.pull1
 replace hst := objO_get hst
 refine wv (.tuple #[.agg #[.bool t896.1.Has, v901], I6 t896.2]) z z z (wv (.agg #[.bool t896.1.Has, v901]) z z z (wv (.int .i64 t896.2) z z z ?_))
 obtain ⟨b904, w905, ew906, eb907, hst⟩ := hst.box [.bool false, Zs] 61
 refine wl_run (v := Pt b904 0) (w' := w905) z z (x_al (by kernel_rfl) ew906 eb907) ?_
 obtain ⟨w909, hr910, hst⟩ := hst.bx [.bool t896.1.Has, v901] sizeOf61 z (oC z (oC (one_of_sliceV hst.sv2) oN)) (by kernel_rfl)
 refine wl_unit z z (x_unit hr910) ?_
 refine wv (.int .i64 t896.2) z z z (wl_nil (tn (wp_block (wp_seq (wrl (wv (.int .u64 z886) z z z (wv (.int .i64 (Int.tmod (i64.wrap a0) (15:Int))) z z z (wv (.int .u64 (u64.wrap (Int.tmod (i64.wrap a0) (15:Int)))) z z (by kernel_rfl) (wv (.bool (decide (z886 > (u64.wrap (Int.tmod (i64.wrap a0) (15:Int)))))) z z z (wv (.bool (decide (z886 > (u64.wrap (Int.tmod (i64.wrap a0) (15:Int)))))) z z z (wl_nil (tn ?_))))))))))))
 refine bsplit (decide (z886 > (u64.wrap (Int.tmod (i64.wrap a0) (15:Int))))) (fun hc911 => ?_) (fun hc911 => ?_)
 {
 replace hm := bif_t hc911 hm
 refine wp_ift (cvb hc911) ?_
 refine wp_seq (wrl (wv (.int .i64 t896.2) z z z (wv (.bool (t896.2 != (2:Int))) z z z (wl_nil (tn ?_)))))
 refine bsplit (t896.2 != (2:Int)) (fun hc912 => ?_) (fun hc912 => ?_)
 {
 replace hm := bif_t hc912 hm
 refine wp_ift (cvb hc912) ?_
 refine wp_seq (wrl (wv (.bool false) z z z (wl_nil (tn (wp_ret (blk_r (blk_r (then_r (then_r ?_)))))))))
 replace hm := inr_up hm hx893
 refine blk_r (then_r ?_)
 obtain rfl := some_inj hm
 refine post_ret (vs := [.bool false]) results7 (rvs_cons (rv_tmp z) rvs_nil) ?_
 exact ⟨_, z, hI0, hst.keep0⟩
}
 {
 replace hm := bif_f hc912 hm
 refine wp_iff (cvb hc912) ?_
 refine wp_skip (blk_n (blk_n (tn (wrl ?_))))
 refine wv (.int .u64 z886) z z z (wv (.int .u64 (u64.wrap (z886 + (1:Int)))) z z z (wv (.int .u64 (u64.wrap (z886 + (1:Int)))) z z z (wl_nil (tn ?_))))
 replace hst := hst.pull1.keep1
 obtain rfl := some_inj hm
 exact ⟨_, Nat.lt_succ_self _, (u64.wrap (z886 + (1:Int))), _, hx893, (fu 1 r1_0 z (fu 7 v483 z (fu 10 (.int .i64 (Int.tmod (i64.wrap a0) (15:Int))) z (fu 13 (.int .u64 (u64.wrap (z886 + (1:Int)))) z z)))), hst⟩
}
}
 {
 replace hm := bif_f hc911 hm
 refine wp_iff (cvb hc911) ?_
 refine wp_seq (wrl (wv (.int .u64 z886) z z z (wv (.int .u64 (u64.wrap (z886 + (8:Int)))) z z z (wv (.int .i64 (Int.tmod (i64.wrap a0) (15:Int))) z z z (wv (.int .u64 (u64.wrap (Int.tmod (i64.wrap a0) (15:Int)))) z z (by kernel_rfl) (wv (.bool (decide ((u64.wrap (z886 + (8:Int))) < (u64.wrap (Int.tmod (i64.wrap a0) (15:Int)))))) z z z (wv (.bool (decide ((u64.wrap (z886 + (8:Int))) < (u64.wrap (Int.tmod (i64.wrap a0) (15:Int)))))) z z z (wl_nil (tn ?_)))))))))
 refine bsplit (decide ((u64.wrap (z886 + (8:Int))) < (u64.wrap (Int.tmod (i64.wrap a0) (15:Int))))) (fun hc913 => ?_) (fun hc913 => ?_)
 {
 replace hm := bif_t hc913 hm
 refine wp_ift (cvb hc913) ?_
 refine wp_seq (wrl (wv (.int .i64 t896.2) z z z (wv (.bool (t896.2 != (9:Int))) z z z (wl_nil (tn ?_)))))
 refine bsplit (t896.2 != (9:Int)) (fun hc914 => ?_) (fun hc914 => ?_)
 {
 replace hm := bif_t hc914 hm
 refine wp_ift (cvb hc914) ?_
 refine wp_seq (wrl (wv (.bool false) z z z (wl_nil (tn (wp_ret (blk_r (blk_r (then_r (then_r ?_)))))))))
 replace hm := inr_up hm hx893
 refine blk_r (then_r ?_)
 obtain rfl := some_inj hm
 refine post_ret (vs := [.bool false]) results7 (rvs_cons (rv_tmp z) rvs_nil) ?_
 exact ⟨_, z, hI0, hst.keep0⟩
}
 {
 replace hm := bif_f hc914 hm
 refine wp_iff (cvb hc914) ?_
 refine wp_skip (blk_n (blk_n (tn (wrl ?_))))
 refine wv (.int .u64 z886) z z z (wv (.int .u64 (u64.wrap (z886 + (1:Int)))) z z z (wv (.int .u64 (u64.wrap (z886 + (1:Int)))) z z z (wl_nil (tn ?_))))
 replace hst := hst.pull1.keep1
 obtain rfl := some_inj hm
 exact ⟨_, Nat.lt_succ_self _, (u64.wrap (z886 + (1:Int))), _, hx893, (fu 1 r1_0 z (fu 7 v483 z (fu 10 (.int .i64 (Int.tmod (i64.wrap a0) (15:Int))) z (fu 13 (.int .u64 (u64.wrap (z886 + (1:Int)))) z z)))), hst⟩
}
}
 {
 replace hm := bif_f hc913 hm
 refine wp_iff (cvb hc913) ?_
 refine wp_seq (wrl (wv (.int .i64 t896.2) z z z (wv (.bool (t896.2 != (0:Int))) z z z (wv (.bool (t896.2 != (0:Int))) z z z ?_))))
 refine bsplit (t896.2 != (0:Int)) (fun hc915 => ?_) (fun hc915 => ?_)
 {
 replace hm := bif_t hc915 hm
 refine wo hc915 z z z z z z (wo hc915 z z z z z z (wo hc915 z z z z z z (wo hc915 z z z z z z (wo hc915 z z z z z z (wv (.bool true) z z (x_pick_t hc915 z z) (wv (.bool true) z z z (wz z z z z z z (wz z z z z z z (wz z z z z z z (wl_off (wanted_undef z z z z) z (wl_off (wanted_undef z z z z) z (wl_off (wanted_undef z z z z) z ?_))))))))))))
 refine wl_off (wanted_undef z z z z) z (wl_off (wanted_undef z z z z) z (wl_off (wanted_undef z z z z) z (wz z z z z z z (wv (.bool true) z z (x_pick_t z z z) (wl_nil (tn ?_))))))
 refine wp_ift z ?_
 refine wp_seq (wrl (wv (.bool false) z z z (wl_nil (tn (wp_ret (blk_r (blk_r (then_r (then_r ?_)))))))))
 replace hm := inr_up hm hx893
 refine blk_r (then_r ?_)
 obtain rfl := some_inj hm
 refine post_ret (vs := [.bool false]) results7 (rvs_cons (rv_tmp z) rvs_nil) ?_
 exact ⟨_, z, hI0, hst.keep0⟩
}
 {
 replace hm := bif_f hc915 hm
 refine wv (Pt b904 0) ((wanted_eq z z z (cvb hc915)).trans z) z (x_field z underlying61 z sizeOf4 z) (wv (.bool t896.1.Has) ((wanted_eq z z z (cvb hc915)).trans z) z (x_load z isAgg4 (hst.bc0 z)) (wv (.int .u64 z886) ((wanted_eq z z z (cvb hc915)).trans z) z z (wv (.bool (decide (z886 ≥ (1:Int)))) ((wanted_eq z z z (cvb hc915)).trans z) z z (wv (.bool (!(t896.1.Has == (decide (z886 ≥ (1:Int)))))) ((wanted_eq z z z (cvb hc915)).trans z) z (by kernel_rfl) (wv (.bool (!(t896.1.Has == (decide (z886 ≥ (1:Int)))))) z z (x_pick_f hc915 z z) (wv (.bool (!(t896.1.Has == (decide (z886 ≥ (1:Int)))))) z z z ?_))))))
 refine bsplit (!(t896.1.Has == (decide (z886 ≥ (1:Int))))) (fun hc916 => ?_) (fun hc916 => ?_)
 {
 replace hm := bif_t hc916 hm
 refine wo hc916 z z z z z z (wo hc916 z z z z z z (wo hc916 z z z z z z (wl_off (wanted_undef z z z z) z (wl_off (wanted_undef z z z z) z (wl_off (wanted_undef z z z z) z (wl_off (wanted_undef z z z z) z (wl_off (wanted_undef z z z z) z (wl_off (wanted_undef z z z z) z (wo hc916 z z z z z z (wv (.bool true) z z (x_pick_t hc916 z z) (wl_nil (tn ?_))))))))))))
 refine wp_ift z ?_
 refine wp_seq (wrl (wv (.bool false) z z z (wl_nil (tn (wp_ret (blk_r (blk_r (then_r (then_r ?_)))))))))
 replace hm := inr_up hm hx893
 refine blk_r (then_r ?_)
 obtain rfl := some_inj hm
 refine post_ret (vs := [.bool false]) results7 (rvs_cons (rv_tmp z) rvs_nil) ?_
 exact ⟨_, z, hI0, hst.keep0⟩
}
 {
 replace hm := bif_f hc916 hm
 refine wv (.int .u64 z886) ((wanted_eq z z z (cvb hc916)).trans z) z z (wv (.bool (decide (z886 ≥ (1:Int)))) ((wanted_eq z z z (cvb hc916)).trans z) z z (wv (.bool (decide (z886 ≥ (1:Int)))) ((wanted_eq z z z (cvb hc916)).trans z) z z ?_))
 refine bsplit (decide (z886 ≥ (1:Int))) (fun hc917 => ?_) (fun hc917 => ?_)
 {
 replace hm := bif_t hc917 hm
 refine wv (Pt b904 1) ((wanted_eq z z z (cvb hc917)).trans z) z (x_field z underlying61 z sizeOf22 z) (wv (v901) ((wanted_eq z z z (cvb hc917)).trans z) z (x_load z isAgg22 (hst.bc0 z)) (wv (.string (toStr t896.1.Val)) ((wanted_eq z z z (cvb hc917)).trans z) z (x_tostr underlying22 underlying9 underlying5 z hst.src2) (wv (r1_0) ((wanted_eq z z z (cvb hc917)).trans z) z z (wv (.string (toStr a1)) ((wanted_eq z z z (cvb hc917)).trans z) z (x_tostr underlying22 underlying9 underlying5 z (Src.of_ro hst f1_0)) (wv (.bool (!(sEq (toStr t896.1.Val) (toStr a1)))) ((wanted_eq z z z (cvb hc917)).trans z) z (by kernel_rfl) (wv (.bool (!(sEq (toStr t896.1.Val) (toStr a1)))) ((wanted_eq z z z (cvb hc916)).trans z) z (x_pick_t hc917 z z) (wv (.bool (!(sEq (toStr t896.1.Val) (toStr a1)))) z z (x_pick_f hc916 z z) (wl_nil (tn ?_)))))))))
 refine bsplit (!(sEq (toStr t896.1.Val) (toStr a1))) (fun hc918 => ?_) (fun hc918 => ?_)
 {
 replace hm := bif_t hc918 hm
 refine wp_ift (cvb hc918) ?_
 refine wp_seq (wrl (wv (.bool false) z z z (wl_nil (tn (wp_ret (blk_r (blk_r (then_r (then_r ?_)))))))))
 replace hm := inr_up hm hx893
 refine blk_r (then_r ?_)
 obtain rfl := some_inj hm
 refine post_ret (vs := [.bool false]) results7 (rvs_cons (rv_tmp z) rvs_nil) ?_
 exact ⟨_, z, hI0, hst.keep0⟩
}
 {
 replace hm := bif_f hc918 hm
 refine wp_iff (cvb hc918) ?_
 refine wp_skip (blk_n (blk_n (tn (wrl ?_))))
 refine wv (.int .u64 z886) z z z (wv (.int .u64 (u64.wrap (z886 + (1:Int)))) z z z (wv (.int .u64 (u64.wrap (z886 + (1:Int)))) z z z (wl_nil (tn ?_))))
 replace hst := hst.pull1.keep1
 obtain rfl := some_inj hm
 exact ⟨_, Nat.lt_succ_self _, (u64.wrap (z886 + (1:Int))), _, hx893, (fu 1 r1_0 z (fu 7 v483 z (fu 10 (.int .i64 (Int.tmod (i64.wrap a0) (15:Int))) z (fu 13 (.int .u64 (u64.wrap (z886 + (1:Int)))) z z)))), hst⟩
}
}
 {
 replace hm := bif_f hc917 hm
 refine wo hc917 z z z z z z (wo hc917 z z z z z z (wo hc917 z z z z z z (wo hc917 z z z z z z (wo hc917 z z z z z z (wo hc917 z z z z z z (wv (.bool false) ((wanted_eq z z z (cvb hc916)).trans z) z (x_pick_f hc917 z z) (wv (.bool false) z z (x_pick_f hc916 z z) (wl_nil (tn ?_)))))))))
 refine wp_iff z ?_
 refine wp_skip (blk_n (blk_n (tn (wrl ?_))))
 refine wv (.int .u64 z886) z z z (wv (.int .u64 (u64.wrap (z886 + (1:Int)))) z z z (wv (.int .u64 (u64.wrap (z886 + (1:Int)))) z z z (wl_nil (tn ?_))))
 replace hst := hst.pull1.keep1
 obtain rfl := some_inj hm
 exact ⟨_, Nat.lt_succ_self _, (u64.wrap (z886 + (1:Int))), _, hx893, (fu 1 r1_0 z (fu 7 v483 z (fu 10 (.int .i64 (Int.tmod (i64.wrap a0) (15:Int))) z (fu 13 (.int .u64 (u64.wrap (z886 + (1:Int)))) z z)))), hst⟩
}
}
}
}
}
}
 {
 replace hm := bif_f hc895 hm
 refine wp_iff (cvb hc895) ?_
 refine wp_exit (then_x (then_x ?_))
 replace hm := inr_up hm hx893
 refine blk_x (tn (wp_seq (wrl ?_)))
 refine wv (.bool true) z z z (wl_nil (tn (wp_ret ?_)))
 obtain rfl := some_inj hm
 refine post_ret (vs := [.bool true]) results7 (rvs_cons (rv_tmp z) rvs_nil) ?_
 exact ⟨_, z, hI0, hst.keep0⟩
}
}
}
}
}
}
}

end Go.Proofs.YtgnkkopjkgdieaaGreat
