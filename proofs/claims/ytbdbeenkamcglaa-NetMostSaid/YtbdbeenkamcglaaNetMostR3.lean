/- The Go functions refine their models, part 3. -/
import Derived.Test.YtbdbeenkamcglaaNetMostR2
set_option linter.unusedVariables false
set_option linter.unusedSimpArgs false
set_option maxRecDepth 100000
set_option maxHeartbeats 4000000
namespace Go.Proofs.Ytbdbeenkamcglaa
open Go Go.V
open _root_.Go.Proofs.Try IntKind
attribute [local irreducible] wpList Code.wp wpQuiet Calls bodyPost Oper.wp wpS Nx PendOK YieldsIn
theorem net_Net_Double_ref {w0 w : World} {I : HL} {R : SP} {a0 : (Option net_Net)} {p0 : Value} {a1 : net_Link} {a2 : Int}  (hst : St w0 w I [objO at_net_Net p0 a0] R) {r : (Bool × (Option net_Net))} (hm : net_Net_Double a0 a1 a2 = some r) :
  Calls prog 10 #[p0, .agg #[I6 a1.From, I6 a1.To, I6 a1.Lane], I6 a2] w fun e w' => ∃ (I' : HL), e = .returned (.bool r.1) ∧ I.le I' ∧ St w0 w' I' [objO at_net_Net p0 r.2] R := by {
 rcases a0 with _ | o0
 {
 obtain ⟨rfl, hst'⟩ := objO_none hst
 clear hst
 have hst := hst'
 clear hst'
 dsimp only [net_Net_Double] at hm
 refine calls_start (args := [.pointer none, .agg #[I6 a1.From, I6 a1.To, I6 a1.Lane], I6 a2]) func10 z ntmps10 (Nat.le_of_ble_eq_true z) ?_
 have hI0 := HL.le.refl I
 refine wp_seq (wrl ?_)
 obtain ⟨b172, w173, ew174, eb175, hst⟩ := hst.box [I6 a1.From, I6 a1.To, I6 a1.Lane] 23
 refine wl_run (v := Pt b172 0) (w' := w173) z z (x_al (by kernel_rfl) ew174 eb175) ?_
 refine wv (.bool false) z z z (wl_nil (tn (wp_seq (wrl (wv (.pointer none) z z z (wv (.agg #[I6 a1.From, I6 a1.To, I6 a1.Lane]) z z (x_loadN (cs := [I6 a1.From, I6 a1.To, I6 a1.Lane]) z isAgg23 sizeOf23 (hst.bcs0 0 z)) (wv (.int .i64 a2) z z z ?_)))))))
 replace hst := hst.objO_nil at_net_Net
 obtain ⟨t178, ht179, hm⟩ := bind_some hm
 refine wc call16 [.pointer none, .agg #[I6 a1.From, I6 a1.To, I6 a1.Lane], I6 a2] z z z ?_
 refine (net_Net_place_ref hst.to1 ht179).mono ?_
 rintro _ w180 ⟨rfl, hst⟩
 refine ⟨_, z, ?_⟩
 replace hst := hst.of1
 refine wv (.int .i64 t178) z z z (wl_nil (tn (wp_seq (wp_seq ?_))))
 refine wq_regionS hst Try.mixed (by kernel_rfl) ?_
 refine wq_run (v := .int .i64 t178) z z (fun w hst => z) ?_
 refine wq_run (v := .bool (decide (t178 < (0:Int)))) z z (fun w hst => z) ?_
 refine wq_run (v := .bool (decide (t178 < (0:Int)))) z z (fun w hst => z) ?_
 refine bsplit (decide (t178 < (0:Int))) (fun hc183 => ?_) (fun hc183 => ?_)
 {
 replace hm := bif_t hc183 hm
 refine wq_off ((wanted_eq z z z (cvb hc183)).trans z) z ?_
 refine wq_off ((wanted_eq z z z (cvb hc183)).trans z) z ?_
 refine wq_off ((wanted_eq z z z (cvb hc183)).trans z) z ?_
 refine wq_off ((wanted_eq z z z (cvb hc183)).trans z) z ?_
 refine wq_off ((wanted_eq z z z (cvb hc183)).trans z) z ?_
 refine wq_off ((wanted_eq z z z (cvb hc183)).trans z) z ?_
 refine wq_off ((wanted_eq z z z (cvb hc183)).trans z) z ?_
 refine wq_off ((wanted_eq z z z (cvb hc183)).trans z) z ?_
 refine wq_run (v := .bool true) z z (fun w hst => x_pick_t hc183 z z) ?_
 refine wq_nil ?_
 intro w hst
 refine tn ?_
 refine wp_ift z ?_
 refine wp_seq (wrl (wv (.bool false) z z z (wl_nil (tn (wp_ret (then_r ?_))))))
 replace hst := hst.objO_nil at_net_Net
 obtain rfl := some_inj hm
 refine post_ret (vs := [.bool false]) results10 (rvs_cons (rv_tmp z) rvs_nil) ?_
 exact ⟨_, z, hI0, hst.keep1⟩
}
 {
 replace hm := bif_f hc183 hm
 refine wq_run (v := .pointer none) ((wanted_eq z z z (cvb hc183)).trans z) z (fun w hst => z) ?_
 cases hm
}
}
 {
 replace hst := objO_get hst
 dsimp only [net_Net_Double] at hm
 refine calls_start (args := [p0, .agg #[I6 a1.From, I6 a1.To, I6 a1.Lane], I6 a2]) func10 z ntmps10 (Nat.le_of_ble_eq_true z) ?_
 have hI0 := HL.le.refl I
 refine wp_seq (wrl ?_)
 obtain ⟨b184, w185, ew186, eb187, hst⟩ := hst.box [I6 a1.From, I6 a1.To, I6 a1.Lane] 23
 refine wl_run (v := Pt b184 0) (w' := w185) z z (x_al (by kernel_rfl) ew186 eb187) ?_
 refine wv (.bool false) z z z (wl_nil (tn (wp_seq (wrl (wv (p0) z z z (wv (.agg #[I6 a1.From, I6 a1.To, I6 a1.Lane]) z z (x_loadN (cs := [I6 a1.From, I6 a1.To, I6 a1.Lane]) z isAgg23 sizeOf23 (hst.bcs0 0 z)) (wv (.int .i64 a2) z z z ?_)))))))
 replace hst := hst.pull1
 replace hst := objO_some hst
 obtain ⟨t189, ht190, hm⟩ := bind_some hm
 refine wc call16 [p0, .agg #[I6 a1.From, I6 a1.To, I6 a1.Lane], I6 a2] z z z ?_
 refine (net_Net_place_ref hst.to1 ht190).mono ?_
 rintro _ w191 ⟨rfl, hst⟩
 refine ⟨_, z, ?_⟩
 replace hst := hst.of1
 replace hst := objO_get hst
 refine wv (.int .i64 t189) z z z (wl_nil (tn (wp_seq (wp_seq ?_))))
 obtain ⟨b194, v195, v197, rfl, hst'⟩ := at_net_Net_open hst
 clear hst
 have hst := hst'
 clear hst'
 rcases he200 : o0.m with _ | y199
 {
 rw [he200] at hm hst
 dsimp only at hm
 replace hst := hst.pull2.mapO_E
 refine wq_regionS hst Try.mixed (by kernel_rfl) ?_
 refine wq_run (v := .int .i64 t189) z z (fun w hst => z) ?_
 refine wq_run (v := .bool (decide (t189 < (0:Int)))) z z (fun w hst => z) ?_
 refine wq_run (v := .bool (decide (t189 < (0:Int)))) z z (fun w hst => z) ?_
 refine bsplit (decide (t189 < (0:Int))) (fun hc201 => ?_) (fun hc201 => ?_)
 {
 replace hm := bif_t hc201 hm
 refine wq_off ((wanted_eq z z z (cvb hc201)).trans z) z ?_
 refine wq_off ((wanted_eq z z z (cvb hc201)).trans z) z ?_
 refine wq_off ((wanted_eq z z z (cvb hc201)).trans z) z ?_
 refine wq_off ((wanted_eq z z z (cvb hc201)).trans z) z ?_
 refine wq_off ((wanted_eq z z z (cvb hc201)).trans z) z ?_
 refine wq_off ((wanted_eq z z z (cvb hc201)).trans z) z ?_
 refine wq_off ((wanted_eq z z z (cvb hc201)).trans z) z ?_
 refine wq_off ((wanted_eq z z z (cvb hc201)).trans z) z ?_
 refine wq_run (v := .bool true) z z (fun w hst => x_pick_t hc201 z z) ?_
 refine wq_nil ?_
 intro w hst
 refine tn ?_
 refine wp_ift z ?_
 refine wp_seq (wrl (wv (.bool false) z z z (wl_nil (tn (wp_ret (then_r ?_))))))
 replace hst := hst.E_mapO (E := (tySl (tyInt .u8))) (kf := kv_net_Link)
 rw [← he200] at hst
 replace hst := hst.pull2.pull2
 replace hst := at_net_Net_close (pv := Pt b194 0) (x := o0) hst z
 replace hst := objO_some hst
 obtain rfl := some_inj hm
 refine post_ret (vs := [.bool false]) results10 (rvs_cons (rv_tmp z) rvs_nil) ?_
 exact ⟨_, z, hI0, hst.keep1⟩
}
 {
 replace hm := bif_f hc201 hm
 refine wq_run (v := Pt b194 0) ((wanted_eq z z z (cvb hc201)).trans z) z (fun w hst => z) ?_
 refine wq_run (v := Pt b194 0) ((wanted_eq z z z (cvb hc201)).trans z) z (fun w hst => z) ?_
 refine wq_run (v := Pt b194 1) ((wanted_eq z z z (cvb hc201)).trans z) z (fun w hst => x_field z underlying52 z sizeOf50 z) ?_
 refine wq_run (v := v197) ((wanted_eq z z z (cvb hc201)).trans z) z (fun w hst => x_load z isAgg50 (hst.bc1 z)) ?_
 refine wq_run (v := .agg #[I6 a1.From, I6 a1.To, I6 a1.Lane]) ((wanted_eq z z z (cvb hc201)).trans z) z (fun w hst => x_loadN (cs := [I6 a1.From, I6 a1.To, I6 a1.Lane]) z isAgg23 sizeOf23 (hst.bcs3 0 z)) ?_
 refine wq_run (v := (.slice none 0 0)) ((wanted_eq z z z (cvb hc201)).trans z) z (fun w hst => x_look (kv := (lk a1.From a1.To a1.Lane)) z z (run_lookE hst (j := 0) z key3_23 underlying50 (fun _ => by kernel_rfl))) ?_
 refine wq_run (v := .int .i64 ((([] : List (List Int))).length : Int)) ((wanted_eq z z z (cvb hc201)).trans z) z (fun w hst => x_len z underlying49 SliceV.nil) ?_
 refine wq_run (v := .bool (decide (((([] : List (List Int))).length : Int) ≥ (256:Int)))) ((wanted_eq z z z (cvb hc201)).trans z) z (fun w hst => z) ?_
 refine wq_run (v := .bool (decide (((([] : List (List Int))).length : Int) ≥ (256:Int)))) z z (fun w hst => x_pick_f hc201 z z) ?_
 refine wq_nil ?_
 intro w hst
 refine tn ?_
 refine bsplit (decide (((([] : List (List Int))).length : Int) ≥ (256:Int))) (fun hc203 => ?_) (fun hc203 => ?_)
 {
 replace hm := bif_t hc203 hm
 refine wp_ift (cvb hc203) ?_
 refine wp_seq (wrl (wv (.bool false) z z z (wl_nil (tn (wp_ret (then_r ?_))))))
 replace hst := hst.E_mapO (E := (tySl (tyInt .u8))) (kf := kv_net_Link)
 rw [← he200] at hst
 replace hst := hst.pull2.pull2
 replace hst := at_net_Net_close (pv := Pt b194 0) (x := o0) hst z
 replace hst := objO_some hst
 obtain rfl := some_inj hm
 refine post_ret (vs := [.bool false]) results10 (rvs_cons (rv_tmp z) rvs_nil) ?_
 exact ⟨_, z, hI0, hst.keep1⟩
}
 {
 replace hm := bif_f hc203 hm
 refine wp_iff (cvb hc203) ?_
 refine wp_skip (tn (wp_seq ?_))
 refine wp_region_St hst 21 [0, 1, 2, 3, 4, 5, 6, 7, 8, 9, 10, 11, 12, 13, 14, 15, 16, 17, 18, 19, 20] [0, 1, 3, 7, 0, 0, 32, 96, 224, 0, 992, 0, 4064, 8160, 16352, 32736, 65535, 131071, 262143, 131071, 1048575] [] z (by kernel_rfl) (by kernel_rfl) Try.mixed (by kernel_rfl) ?_
 refine wsr (Pt b194 0) 0 z z z (by kernel_rfl) (fun w hst => z) (wsr (Pt b194 0) 1 z z z (by kernel_rfl) (fun w hst => z) (wsr (Pt b194 1) 2 z z z (by kernel_rfl) (fun w hst => x_field z underlying52 z sizeOf50 z) (wsr (v197) 3 z z z (by kernel_rfl) (fun w hst => x_load z isAgg50 (hst.bc1 z)) (wsr (.agg #[I6 a1.From, I6 a1.To, I6 a1.Lane]) 4 z z z (by kernel_rfl) (fun w hst => x_loadN (cs := [I6 a1.From, I6 a1.To, I6 a1.Lane]) z isAgg23 sizeOf23 (hst.bcs3 0 z)) (wsr (Pt b194 0) 5 z z z (by kernel_rfl) (fun w hst => z) (wsr (Pt b194 0) 6 z z z (by kernel_rfl) (fun w hst => z) (wsr (Pt b194 1) 7 z z z (by kernel_rfl) (fun w hst => x_field z underlying52 z sizeOf50 z) (wsr (v197) 8 z z z (by kernel_rfl) (fun w hst => x_load z isAgg50 (hst.bc1 z)) (wsr (.agg #[I6 a1.From, I6 a1.To, I6 a1.Lane]) 9 z z z (by kernel_rfl) (fun w hst => x_loadN (cs := [I6 a1.From, I6 a1.To, I6 a1.Lane]) z isAgg23 sizeOf23 (hst.bcs3 0 z)) (wsr ((.slice none 0 0)) 10 z z z (by kernel_rfl) (fun w hst => x_look (kv := (lk a1.From a1.To a1.Lane)) z z (run_lookE hst (j := 0) z key3_23 underlying50 (fun _ => by kernel_rfl))) (wsr (.int .i64 t189) 11 z z z (by kernel_rfl) (fun w hst => z) ?_)))))))))))
 cases hm
}
}
}
 {
 rw [he200] at hm hst
 dsimp only at hm
 replace hst := hst.pull2
 obtain ⟨v205, hst⟩ := hst.mapO_C
 refine bsplit ((a1.From == y199.1.From) && (a1.To == y199.1.To) && (a1.Lane == y199.1.Lane)) (fun hc207 => ?_) (fun hc207 => ?_)
 {
 replace hm := bif_t hc207 hm
 refine wq_regionS hst Try.mixed (by kernel_rfl) ?_
 refine wq_run (v := .int .i64 t189) z z (fun w hst => z) ?_
 refine wq_run (v := .bool (decide (t189 < (0:Int)))) z z (fun w hst => z) ?_
 refine wq_run (v := .bool (decide (t189 < (0:Int)))) z z (fun w hst => z) ?_
 refine bsplit (decide (t189 < (0:Int))) (fun hc208 => ?_) (fun hc208 => ?_)
 {
 replace hm := bif_t hc208 hm
 refine wq_off ((wanted_eq z z z (cvb hc208)).trans z) z ?_
 refine wq_off ((wanted_eq z z z (cvb hc208)).trans z) z ?_
 refine wq_off ((wanted_eq z z z (cvb hc208)).trans z) z ?_
 refine wq_off ((wanted_eq z z z (cvb hc208)).trans z) z ?_
 refine wq_off ((wanted_eq z z z (cvb hc208)).trans z) z ?_
 refine wq_off ((wanted_eq z z z (cvb hc208)).trans z) z ?_
 refine wq_off ((wanted_eq z z z (cvb hc208)).trans z) z ?_
 refine wq_off ((wanted_eq z z z (cvb hc208)).trans z) z ?_
 refine wq_run (v := .bool true) z z (fun w hst => x_pick_t hc208 z z) ?_
 refine wq_nil ?_
 intro w hst
 refine tn ?_
 refine wp_ift z ?_
 refine wp_seq (wrl (wv (.bool false) z z z (wl_nil (tn (wp_ret (then_r ?_))))))
 replace hst := hst.pull1.pull1.C_mapO (kf := kv_net_Link) (kk := y199.1)
 replace hst := St.eqO he200 hst
 replace hst := hst.pull2.pull2
 replace hst := at_net_Net_close (pv := Pt b194 0) (x := o0) hst z
 replace hst := objO_some hst
 obtain rfl := some_inj hm
 refine post_ret (vs := [.bool false]) results10 (rvs_cons (rv_tmp z) rvs_nil) ?_
 exact ⟨_, z, hI0, hst.keep1⟩
}
 {
 replace hm := bif_f hc208 hm
 refine wq_run (v := Pt b194 0) ((wanted_eq z z z (cvb hc208)).trans z) z (fun w hst => z) ?_
 refine wq_run (v := Pt b194 0) ((wanted_eq z z z (cvb hc208)).trans z) z (fun w hst => z) ?_
 refine wq_run (v := Pt b194 1) ((wanted_eq z z z (cvb hc208)).trans z) z (fun w hst => x_field z underlying52 z sizeOf50 z) ?_
 refine wq_run (v := v197) ((wanted_eq z z z (cvb hc208)).trans z) z (fun w hst => x_load z isAgg50 (hst.bc2 z)) ?_
 refine wq_run (v := .agg #[I6 a1.From, I6 a1.To, I6 a1.Lane]) ((wanted_eq z z z (cvb hc208)).trans z) z (fun w hst => x_loadN (cs := [I6 a1.From, I6 a1.To, I6 a1.Lane]) z isAgg23 sizeOf23 (hst.bcs4 0 z)) ?_
 refine wq_run (v := v205) ((wanted_eq z z z (cvb hc208)).trans z) z (fun w hst => x_look (kv := (lk a1.From a1.To a1.Lane)) z z (run_lookC hst (j := 1) z key3_23 underlying50 hc207)) ?_
 refine wq_run (v := .int .i64 ((y199.2).length : Int)) ((wanted_eq z z z (cvb hc208)).trans z) z (fun w hst => x_len z underlying49 hst.sv0) ?_
 refine wq_run (v := .bool (decide (((y199.2).length : Int) ≥ (256:Int)))) ((wanted_eq z z z (cvb hc208)).trans z) z (fun w hst => z) ?_
 refine wq_run (v := .bool (decide (((y199.2).length : Int) ≥ (256:Int)))) z z (fun w hst => x_pick_f hc208 z z) ?_
 refine wq_nil ?_
 intro w hst
 refine tn ?_
 refine bsplit (decide (((y199.2).length : Int) ≥ (256:Int))) (fun hc209 => ?_) (fun hc209 => ?_)
 {
 replace hm := bif_t hc209 hm
 refine wp_ift (cvb hc209) ?_
 refine wp_seq (wrl (wv (.bool false) z z z (wl_nil (tn (wp_ret (then_r ?_))))))
 replace hst := hst.pull1.pull1.C_mapO (kf := kv_net_Link) (kk := y199.1)
 replace hst := St.eqO he200 hst
 replace hst := hst.pull2.pull2
 replace hst := at_net_Net_close (pv := Pt b194 0) (x := o0) hst z
 replace hst := objO_some hst
 obtain rfl := some_inj hm
 refine post_ret (vs := [.bool false]) results10 (rvs_cons (rv_tmp z) rvs_nil) ?_
 exact ⟨_, z, hI0, hst.keep1⟩
}
 {
 replace hm := bif_f hc209 hm
 refine wp_iff (cvb hc209) ?_
 refine wp_skip (tn (wp_seq ?_))
 obtain ⟨css210, hq211, hst⟩ := hst.own_open
 refine wp_region_St hst 21 [0, 1, 2, 3, 4, 5, 6, 7, 8, 9, 10, 11, 12, 13, 14, 15, 16, 17, 18, 19, 20] [0, 1, 3, 7, 0, 0, 32, 96, 224, 0, 992, 0, 4064, 8160, 16352, 32736, 65535, 131071, 262143, 131071, 1048575] [] z (by kernel_rfl) (by kernel_rfl) Try.mixed (by kernel_rfl) ?_
 refine wsr (Pt b194 0) 0 z z z (by kernel_rfl) (fun w hst => z) (wsr (Pt b194 0) 1 z z z (by kernel_rfl) (fun w hst => z) (wsr (Pt b194 1) 2 z z z (by kernel_rfl) (fun w hst => x_field z underlying52 z sizeOf50 z) (wsr (v197) 3 z z z (by kernel_rfl) (fun w hst => x_load z isAgg50 (hst.bc2 z)) (wsr (.agg #[I6 a1.From, I6 a1.To, I6 a1.Lane]) 4 z z z (by kernel_rfl) (fun w hst => x_loadN (cs := [I6 a1.From, I6 a1.To, I6 a1.Lane]) z isAgg23 sizeOf23 (hst.bcs4 0 z)) (wsr (Pt b194 0) 5 z z z (by kernel_rfl) (fun w hst => z) (wsr (Pt b194 0) 6 z z z (by kernel_rfl) (fun w hst => z) (wsr (Pt b194 1) 7 z z z (by kernel_rfl) (fun w hst => x_field z underlying52 z sizeOf50 z) (wsr (v197) 8 z z z (by kernel_rfl) (fun w hst => x_load z isAgg50 (hst.bc2 z)) (wsr (.agg #[I6 a1.From, I6 a1.To, I6 a1.Lane]) 9 z z z (by kernel_rfl) (fun w hst => x_loadN (cs := [I6 a1.From, I6 a1.To, I6 a1.Lane]) z isAgg23 sizeOf23 (hst.bcs4 0 z)) (wsr (v205) 10 z z z (by kernel_rfl) (fun w hst => x_look (kv := (lk a1.From a1.To a1.Lane)) z z (run_lookC hst (j := 1) z key3_23 underlying50 hc207)) (wsr (.int .i64 t189) 11 z z z (by kernel_rfl) (fun w hst => z) ?_)))))))))))
 obtain ⟨x212, hx213, hm⟩ := bind_some hm
 obtain ⟨h214, h215, hi216⟩ := geto_some hx213
 refine wsr (.pointer (some (eAddr v205 (t189.toNat * 1 + 0)))) 12 z z z (by kernel_rfl) (fun w hst => x_index z z underlying49 sizeOf24 (hst.rsv 0 z hq211) h214 h215) ?_
 obtain ⟨cs217, hc219, hr218⟩ := Reps.get hq211 hi216
 obtain ⟨v220, rfl, f221, -⟩ := hr218
 refine wsr (v220) 13 z z z (by kernel_rfl) (fun w hst => x_load z isAgg24 ((hst.rcell 0 z hc219) 0 _ z)) ?_
 refine ws_e1 14 (by kernel_rfl) ?_
 refine nxe [15, 16, 17, 18, 19, 20] (by kernel_rfl) z z ?_
 clear hst
 intro w hst
 obtain ⟨t223, ht224, hm⟩ := bind_some hm
 refine wec call15 [v220] z z ?_
 refine (slices_Clone_byte_byte_ref (f221.mono ro_rd) hst.to0 ht224).mono ?_
 rintro _ w225 ⟨v228, rfl, hst⟩
 refine ⟨_, z, ?_⟩
 replace hst := hst.of1
 refine ws_next (pend' := [(4, .agg #[I6 a1.From, I6 a1.To, I6 a1.Lane]), (3, v197), (2, Pt b194 1), (1, Pt b194 0), (0, Pt b194 0)]) hst (by kernel_rfl) (pkr z z (fun w hst => x_loadN (cs := [I6 a1.From, I6 a1.To, I6 a1.Lane]) z isAgg23 sizeOf23 (hst.bcs5 0 z)) (pkr z z (fun w hst => x_load z isAgg50 (hst.bc3 z)) (pkr z z (fun w hst => x_field z underlying52 z sizeOf50 z) (pkr z z (fun w hst => z) (pkr z z (fun w hst => z) pk_nil))))) ?_
 refine ws_e1 15 (by kernel_rfl) ?_
 refine nxe [16, 17, 18, 19, 20] (by kernel_rfl) z z ?_
 clear hst
 intro w hst
 obtain ⟨I231, hI232, f233, hst⟩ := hst.own_fix
 replace f221 := f221.mono (ro_le hI232)
 replace hq211 := hq211.imp fun _ _ => Ty.mono _ (ro_le hI232)
 replace hI0 := hI0.trans hI232
 obtain ⟨b234, w235, ew236, eb237, hst⟩ := hst.lits (E := (tySl (tyInt .u8))) (xs := [t223]) [[v228]] 24 1 z (Reps.cons ⟨_, z, f233, one_of_sliceV (ro_sliceV f233)⟩ Reps.nil)
 refine we_run (v := (.slice (some ⟨b234, 0, none⟩) 1 1)) (w' := w235) z (x_als (by obtain ⟨_, _, hv_, _⟩ := (ro_sliceV f233); rw [hv_]; kernel_rfl) ew236 eb237) ?_
 refine ws_next (pend' := [(4, .agg #[I6 a1.From, I6 a1.To, I6 a1.Lane]), (3, v197), (2, Pt b194 1), (1, Pt b194 0), (0, Pt b194 0)]) hst (by kernel_rfl) (pkr z z (fun w hst => x_loadN (cs := [I6 a1.From, I6 a1.To, I6 a1.Lane]) z isAgg23 sizeOf23 (hst.bcs5 0 z)) (pkr z z (fun w hst => x_load z isAgg50 (hst.bc3 z)) (pkr z z (fun w hst => x_field z underlying52 z sizeOf50 z) (pkr z z (fun w hst => z) (pkr z z (fun w hst => z) pk_nil))))) ?_
 refine ws_e1 16 (by kernel_rfl) ?_
 refine nxe [17, 18, 19, 20] (by kernel_rfl) z z ?_
 clear hst
 intro w hst
 replace hst := hst.pull2
 obtain ⟨n239, w240, hr241, hst⟩ := run_entC (P := prog) hst key3_23 underlying50 hc207
 refine we_run (v := .tuple #[v205, I6 (n239 : Int)]) (w' := w240) z (x_ent (kv := (lk a1.From a1.To a1.Lane)) z z hr241) ?_
 refine ws_next (pend' := []) hst (by kernel_rfl) pk_nil ?_
 refine wsr (v205) 17 z z z (by kernel_rfl) (fun w hst => z) (wsr (.int .i64 (n239 : Int)) 19 z z z (by kernel_rfl) (fun w hst => z) ?_)
 refine ws_e1 18 (by kernel_rfl) ?_
 refine nxe [20] (by kernel_rfl) z z ?_
 clear hst
 intro w hst
 replace hst := hst.pull2.own_close hq211
 obtain ⟨hg242, hm⟩ := gd_some hm
 obtain ⟨v243, w244, hr245, hst⟩ := run_append elem_49 underlying49 hst hst.src2 (room_of hg242 z) 49
 refine we_run (v := v243) (w' := w244) z (x_append z z hr245) ?_
 refine ws_next (pend' := [(19, I6 (n239 : Int))]) hst (by kernel_rfl) (pkr z z (fun w hst => z) pk_nil) ?_
 refine ws_e1 20 (by kernel_rfl) ?_
 refine nxe [] (by kernel_rfl) z z ?_
 clear hst
 intro w hst
 replace hst := hst.pull1
 obtain ⟨w247, hr248, hst⟩ := run_entS (P := prog) hst 50 v243
 refine we_unit z (x_entS z z z hr248) ?_
 refine ws_next (pend' := []) hst (by kernel_rfl) pk_nil ?_
 refine ws_nil ?_
 intro w hst
 refine tn (wp_seq (wrl (wv (.bool true) z z z (wl_nil (tn (wp_ret ?_))))))
 replace hst := hst.pull1.C_mapO (kf := kv_net_Link) (kk := a1)
 replace hst := hst.pull3.pull3
 replace hst := at_net_Net_close (pv := Pt b194 0) (x := ({ p := o0.p, m := (some (a1, (y199.2 ++ ([t223])))) } : net_Net)) hst z
 replace hst := objO_some hst
 obtain rfl := some_inj hm
 refine post_ret (vs := [.bool true]) results10 (rvs_cons (rv_tmp z) rvs_nil) ?_
 exact ⟨_, z, hI0, hst.keep1⟩
}
}
}
 {
 replace hm := bif_f hc207 hm
 refine wq_regionS hst Try.mixed (by kernel_rfl) ?_
 refine wq_run (v := .int .i64 t189) z z (fun w hst => z) ?_
 refine wq_run (v := .bool (decide (t189 < (0:Int)))) z z (fun w hst => z) ?_
 refine wq_run (v := .bool (decide (t189 < (0:Int)))) z z (fun w hst => z) ?_
 refine bsplit (decide (t189 < (0:Int))) (fun hc249 => ?_) (fun hc249 => ?_)
 {
 replace hm := bif_t hc249 hm
 refine wq_off ((wanted_eq z z z (cvb hc249)).trans z) z ?_
 refine wq_off ((wanted_eq z z z (cvb hc249)).trans z) z ?_
 refine wq_off ((wanted_eq z z z (cvb hc249)).trans z) z ?_
 refine wq_off ((wanted_eq z z z (cvb hc249)).trans z) z ?_
 refine wq_off ((wanted_eq z z z (cvb hc249)).trans z) z ?_
 refine wq_off ((wanted_eq z z z (cvb hc249)).trans z) z ?_
 refine wq_off ((wanted_eq z z z (cvb hc249)).trans z) z ?_
 refine wq_off ((wanted_eq z z z (cvb hc249)).trans z) z ?_
 refine wq_run (v := .bool true) z z (fun w hst => x_pick_t hc249 z z) ?_
 refine wq_nil ?_
 intro w hst
 refine tn ?_
 refine wp_ift z ?_
 refine wp_seq (wrl (wv (.bool false) z z z (wl_nil (tn (wp_ret (then_r ?_))))))
 replace hst := hst.pull1.pull1.C_mapO (kf := kv_net_Link) (kk := y199.1)
 replace hst := St.eqO he200 hst
 replace hst := hst.pull2.pull2
 replace hst := at_net_Net_close (pv := Pt b194 0) (x := o0) hst z
 replace hst := objO_some hst
 obtain rfl := some_inj hm
 refine post_ret (vs := [.bool false]) results10 (rvs_cons (rv_tmp z) rvs_nil) ?_
 exact ⟨_, z, hI0, hst.keep1⟩
}
 {
 replace hm := bif_f hc249 hm
 refine wq_run (v := Pt b194 0) ((wanted_eq z z z (cvb hc249)).trans z) z (fun w hst => z) ?_
 refine wq_run (v := Pt b194 0) ((wanted_eq z z z (cvb hc249)).trans z) z (fun w hst => z) ?_
 refine wq_run (v := Pt b194 1) ((wanted_eq z z z (cvb hc249)).trans z) z (fun w hst => x_field z underlying52 z sizeOf50 z) ?_
 refine wq_run (v := v197) ((wanted_eq z z z (cvb hc249)).trans z) z (fun w hst => x_load z isAgg50 (hst.bc2 z)) ?_
 refine wq_run (v := .agg #[I6 a1.From, I6 a1.To, I6 a1.Lane]) ((wanted_eq z z z (cvb hc249)).trans z) z (fun w hst => x_loadN (cs := [I6 a1.From, I6 a1.To, I6 a1.Lane]) z isAgg23 sizeOf23 (hst.bcs4 0 z)) ?_
 refine wq_run (v := (.slice none 0 0)) ((wanted_eq z z z (cvb hc249)).trans z) z (fun w hst => x_look (kv := (lk a1.From a1.To a1.Lane)) z z (run_lookN hst (j := 1) z key3_23 underlying50 (fun _ => by kernel_rfl) hc207)) ?_
 refine wq_run (v := .int .i64 ((([] : List (List Int))).length : Int)) ((wanted_eq z z z (cvb hc249)).trans z) z (fun w hst => x_len z underlying49 SliceV.nil) ?_
 refine wq_run (v := .bool (decide (((([] : List (List Int))).length : Int) ≥ (256:Int)))) ((wanted_eq z z z (cvb hc249)).trans z) z (fun w hst => z) ?_
 refine wq_run (v := .bool (decide (((([] : List (List Int))).length : Int) ≥ (256:Int)))) z z (fun w hst => x_pick_f hc249 z z) ?_
 refine wq_nil ?_
 intro w hst
 refine tn ?_
 refine bsplit (decide (((([] : List (List Int))).length : Int) ≥ (256:Int))) (fun hc251 => ?_) (fun hc251 => ?_)
 {
 replace hm := bif_t hc251 hm
 refine wp_ift (cvb hc251) ?_
 refine wp_seq (wrl (wv (.bool false) z z z (wl_nil (tn (wp_ret (then_r ?_))))))
 replace hst := hst.pull1.pull1.C_mapO (kf := kv_net_Link) (kk := y199.1)
 replace hst := St.eqO he200 hst
 replace hst := hst.pull2.pull2
 replace hst := at_net_Net_close (pv := Pt b194 0) (x := o0) hst z
 replace hst := objO_some hst
 obtain rfl := some_inj hm
 refine post_ret (vs := [.bool false]) results10 (rvs_cons (rv_tmp z) rvs_nil) ?_
 exact ⟨_, z, hI0, hst.keep1⟩
}
 {
 replace hm := bif_f hc251 hm
 refine wp_iff (cvb hc251) ?_
 refine wp_skip (tn (wp_seq ?_))
 refine wp_region_St hst 21 [0, 1, 2, 3, 4, 5, 6, 7, 8, 9, 10, 11, 12, 13, 14, 15, 16, 17, 18, 19, 20] [0, 1, 3, 7, 0, 0, 32, 96, 224, 0, 992, 0, 4064, 8160, 16352, 32736, 65535, 131071, 262143, 131071, 1048575] [] z (by kernel_rfl) (by kernel_rfl) Try.mixed (by kernel_rfl) ?_
 refine wsr (Pt b194 0) 0 z z z (by kernel_rfl) (fun w hst => z) (wsr (Pt b194 0) 1 z z z (by kernel_rfl) (fun w hst => z) (wsr (Pt b194 1) 2 z z z (by kernel_rfl) (fun w hst => x_field z underlying52 z sizeOf50 z) (wsr (v197) 3 z z z (by kernel_rfl) (fun w hst => x_load z isAgg50 (hst.bc2 z)) (wsr (.agg #[I6 a1.From, I6 a1.To, I6 a1.Lane]) 4 z z z (by kernel_rfl) (fun w hst => x_loadN (cs := [I6 a1.From, I6 a1.To, I6 a1.Lane]) z isAgg23 sizeOf23 (hst.bcs4 0 z)) (wsr (Pt b194 0) 5 z z z (by kernel_rfl) (fun w hst => z) (wsr (Pt b194 0) 6 z z z (by kernel_rfl) (fun w hst => z) (wsr (Pt b194 1) 7 z z z (by kernel_rfl) (fun w hst => x_field z underlying52 z sizeOf50 z) (wsr (v197) 8 z z z (by kernel_rfl) (fun w hst => x_load z isAgg50 (hst.bc2 z)) (wsr (.agg #[I6 a1.From, I6 a1.To, I6 a1.Lane]) 9 z z z (by kernel_rfl) (fun w hst => x_loadN (cs := [I6 a1.From, I6 a1.To, I6 a1.Lane]) z isAgg23 sizeOf23 (hst.bcs4 0 z)) (wsr ((.slice none 0 0)) 10 z z z (by kernel_rfl) (fun w hst => x_look (kv := (lk a1.From a1.To a1.Lane)) z z (run_lookN hst (j := 1) z key3_23 underlying50 (fun _ => by kernel_rfl) hc207)) (wsr (.int .i64 t189) 11 z z z (by kernel_rfl) (fun w hst => z) ?_)))))))))))
 cases hm
}
}
}
}
}
}

theorem law21_NetMost_ref {w0 w : World} {I : HL} {R : SP} {a0 : Int}  (hst : St w0 w I [] R) {r : (Bool)} (hm : law21_NetMost a0 = some r) :
  Calls prog 4 #[.int .u16 a0] w fun e w' => ∃ (I' : HL), e = .returned (.bool r) ∧ I.le I' ∧ St w0 w' I' [] R := by {
 unfold law21_NetMost at hm
 refine calls_start (args := [.int .u16 a0]) func4 z ntmps4 (Nat.le_of_ble_eq_true z) ?_
 have hI0 := HL.le.refl I
 refine wp_seq (wrl (wv (.bool false) z z z (wl_nil (tn (wp_seq (wp_seq (wrl ?_)))))))
 obtain ⟨t115, ht116, hm⟩ := bind_some hm
 refine wc call5 [] z z z ?_
 refine (law21_awake_ref hst.to0 ht116).mono ?_
 rintro _ w117 ⟨I118, rfl, hI119, hst⟩
 refine ⟨_, z, ?_⟩
 replace hst := hst.of0
 replace hI0 := hI0.trans hI119
 refine wv (.bool (!t115)) z z z (wl_nil (tn ?_))
 refine bsplit (!t115) (fun hc120 => ?_) (fun hc120 => ?_)
 {
 replace hm := bif_t hc120 hm
 refine wp_ift (cvb hc120) ?_
 refine wp_seq (wrl (wv (.bool false) z z z (wl_nil (tn (wp_ret (then_r ?_))))))
 obtain rfl := some_inj hm
 refine post_ret (vs := [.bool false]) results4 (rvs_cons (rv_tmp z) rvs_nil) ?_
 exact ⟨_, z, hI0, hst.keep0⟩
}
 {
 replace hm := bif_f hc120 hm
 refine wp_iff (cvb hc120) ?_
 refine wp_skip (tn (wp_seq (wrl ?_)))
 obtain ⟨t121, ht122, hm⟩ := bind_some hm
 refine wc call6 [] z z z ?_
 refine (law21_open_ref hst.to0 ht122).mono ?_
 rintro _ w123 ⟨I124, v126, v128, rfl, hI125, hst⟩
 refine ⟨_, z, ?_⟩
 replace hst := hst.of1
 replace hI0 := hI0.trans hI125
 refine wv (.tuple #[v126, v128]) z z z (wv (v126) z z z (wv (v128) z z z (wv (v126) z z z (wv (v128) z z z (wl_nil (tn (wp_seq (wrl (wv (.agg #[I6 (2:Int), Zi, I6 (1:Int)]) z z (by kernel_rfl) ?_)))))))))
 obtain ⟨b129, w130, ew131, eb132, hst⟩ := hst.box [Zi, Zi, Zi] 23
 refine wl_run (v := Pt b129 0) (w' := w130) z z (x_al (by kernel_rfl) ew131 eb132) ?_
 obtain ⟨w134, hr135, hst⟩ := hst.bx [I6 (2:Int), Zi, I6 (1:Int)] sizeOf23 z (oC z (oC z (oC z oN))) (by kernel_rfl)
 refine wl_unit z z (x_unit hr135) ?_
 refine wl_nil (tn (wp_seq (wrl (wv (.int .u16 a0) z z z (wv (.int .i64 (i64.wrap a0)) z z (by kernel_rfl) (wv (.int .i64 (Int.tmod (i64.wrap a0) (120:Int))) z z (x_rem (by decide) z z) (wv (.int .i64 (i64.wrap ((200:Int) + (Int.tmod (i64.wrap a0) (120:Int))))) z z z (wv (.int .i64 (i64.wrap ((200:Int) + (Int.tmod (i64.wrap a0) (120:Int))))) z z z (wl_nil (tn ?_))))))))))
 obtain ⟨y192, hm, hx193⟩ := bind_some hm
 refine wp_cut (fun a w => ∃ (I189 : HL) (z188 : (Option net_Net)) (σ190 : Nat → Value), (law21_NetMost_j0 a0) z188 = some r ∧ a = Fr 74 (upd (upd (upd σ190 3 (v126)) 5 (Pt b129 0)) 6 (.int .i64 (i64.wrap ((200:Int) + (Int.tmod (i64.wrap a0) (120:Int)))))) ∧ I124.le I189 ∧ St w0 w I189 [objO at_net_Net v126 z188, cells b129 [I6 (2:Int), Zi, I6 (1:Int)]] R) ?_ ?_
 {
 have hL194 := HL.le.refl I124
 refine wp_seq (wrl (wv (.int .i64 (0:Int)) z z z (wl_nil (tn (wp_block ?_)))))
 obtain ⟨n168, hm⟩ := loopO_some hm
 refine wp_loop_n (fun n a w => ∃ (I166 : HL) (z164 : (Option net_Net)) (z165 : Int) (σ167 : Nat → Value), loopN (law21_NetMost_l1 a0) n (z164, z165) = some y192 ∧ a = Fr 74 (upd (upd (upd (upd σ167 3 (v126)) 5 (Pt b129 0)) 6 (.int .i64 (i64.wrap ((200:Int) + (Int.tmod (i64.wrap a0) (120:Int)))))) 7 (.int .i64 z165)) ∧ I124.le I166 ∧ St w0 w I166 [cells b129 [I6 (2:Int), Zi, I6 (1:Int)], objO at_net_Net v126 z164] R) n168 ⟨_, t121, (0:Int), _, hm, (fu 3 v126 z (fu 5 (Pt b129 0) z (fu 6 (.int .i64 (i64.wrap ((200:Int) + (Int.tmod (i64.wrap a0) (120:Int))))) z (fu 7 (.int .i64 (0:Int)) z z)))), (HL.le.refl _), hst⟩ ?_
 rintro n174 _ w169 ⟨I166, z164, z165, σ167, hm, rfl, hL170, hst⟩
 obtain ⟨n171, y172, rfl, hm, hx173⟩ := loopN_some hm
 dsimp only [law21_NetMost_l1] at hm
 replace hI0 := hI0.trans hL170
 replace hL194 := hL194.trans hL170
 refine wp_seq (wp_seq (wrl (wv (.int .i64 z165) z z z (wv (.int .i64 (i64.wrap ((200:Int) + (Int.tmod (i64.wrap a0) (120:Int))))) z z z (wv (.bool (decide (z165 < (i64.wrap ((200:Int) + (Int.tmod (i64.wrap a0) (120:Int))))))) z z z (wl_nil (tn ?_)))))))
 refine bsplit (decide (z165 < (i64.wrap ((200:Int) + (Int.tmod (i64.wrap a0) (120:Int)))))) (fun hc175 => ?_) (fun hc175 => ?_)
 {
 replace hm := bif_t hc175 hm
 refine wp_ift (cvb hc175) ?_
 refine wp_skip (tn (wp_seq (wp_block (wrl ?_))))
 refine wv (v126) z z z (wv (.agg #[I6 (2:Int), Zi, I6 (1:Int)]) z z (x_loadN (cs := [I6 (2:Int), Zi, I6 (1:Int)]) z isAgg23 sizeOf23 (hst.bcs0 0 z)) (wv (.int .i64 z165) z z z (wv (.int .u8 (u8.wrap z165)) z z (by kernel_rfl) (wv (.int .i64 z165) z z z (wv (.int .i64 (i64.wrap (Int.tdiv z165 (256:Int)))) z z (x_quo (by decide) z z) (wv (.int .u8 (u8.wrap (i64.wrap (Int.tdiv z165 (256:Int))))) z z (by kernel_rfl) ?_))))))
 obtain ⟨b176, w177, ew178, eb179, hst⟩ := hst.lits (E := (tyInt .u8)) (xs := [(u8.wrap z165), (u8.wrap (i64.wrap (Int.tdiv z165 (256:Int))))]) [[U1 (u8.wrap z165)], [U1 (u8.wrap (i64.wrap (Int.tdiv z165 (256:Int))))]] 5 2 z (Reps.cons z (Reps.cons z Reps.nil))
 refine wl_run (v := (.slice (some ⟨b176, 0, none⟩) 2 2)) (w' := w177) z z (x_als (by kernel_rfl) ew178 eb179) ?_
 obtain ⟨css181, hq182, hst⟩ := hst.own_open
 replace hst := hst.pull2
 obtain ⟨t183, ht184, hm⟩ := bind_some hm
 refine wc call7 [v126, .agg #[I6 (2:Int), Zi, I6 (1:Int)], (.slice (some ⟨b176, 0, none⟩) 2 2)] z z z ?_
 refine (net_Net_Put_ref (hst.sub.rdrow0 hq182) hst.to1 ht184).mono ?_
 rintro _ w185 ⟨I186, rfl, hI187, hst⟩
 refine ⟨_, z, ?_⟩
 replace hst := hst.of1
 replace hI0 := hI0.trans hI187
 replace hL194 := hL194.trans hI187
 replace hL170 := hL170.trans hI187
 replace hst := hst.pull1.own_close (hq182.imp fun _ _ => Ty.mono _ (ro_le hI187))
 refine wl_nil (blk_n (tn (wrl (wv (.int .i64 z165) z z z (wv (.int .i64 (i64.wrap (z165 + (1:Int)))) z z z (wv (.int .i64 (i64.wrap (z165 + (1:Int)))) z z z (wl_nil (tn ?_))))))))
 replace hst := hst.pull1.pull2.keep2
 obtain rfl := some_inj hm
 exact ⟨_, Nat.lt_succ_self _, _, t183.2, (i64.wrap (z165 + (1:Int))), _, hx173, (fu 3 v126 z (fu 5 (Pt b129 0) z (fu 6 (.int .i64 (i64.wrap ((200:Int) + (Int.tmod (i64.wrap a0) (120:Int))))) z (fu 7 (.int .i64 (i64.wrap (z165 + (1:Int)))) z z)))), hL170, hst⟩
}
 {
 replace hm := bif_f hc175 hm
 refine wp_iff (cvb hc175) ?_
 refine wp_exit (then_x (then_x ?_))
 replace hm := inr_up hm hx173
 refine blk_x (tn ?_)
 replace hst := hst.pull1.keep2
 obtain rfl := some_inj hm
 exact ⟨_, z164, _, hx193, (fu 3 v126 z (fu 5 (Pt b129 0) z (fu 6 (.int .i64 (i64.wrap ((200:Int) + (Int.tmod (i64.wrap a0) (120:Int))))) z z))), hL194, hst⟩
}
}
 {
 clear hst
 rintro _ w195 ⟨I189, z188, σ190, hm, rfl, hL191, hst⟩
 dsimp only [law21_NetMost_j0] at hm
 replace hI0 := hI0.trans hL191
 refine wp_seq (wrl (wv (.int .i64 (0:Int)) z z z (wl_nil (tn ?_))))
 obtain ⟨y200, hm, hx201⟩ := bind_some hm
 refine wp_cut (fun a w => ∃ (z197 : Int) (σ198 : Nat → Value), (law21_NetMost_j2 z188 a0) z197 = some r ∧ a = Fr 74 (upd (upd (upd (upd σ198 3 (v126)) 5 (Pt b129 0)) 6 (.int .i64 (i64.wrap ((200:Int) + (Int.tmod (i64.wrap a0) (120:Int)))))) 8 (.int .i64 z197)) ∧ St w0 w I189 [objO at_net_Net v126 z188, cells b129 [I6 (2:Int), Zi, I6 (1:Int)]] R) ?_ ?_
 {
 refine wp_seq (wrl (wv (.int .i64 (i64.wrap ((200:Int) + (Int.tmod (i64.wrap a0) (120:Int))))) z z z (wv (.bool (decide ((i64.wrap ((200:Int) + (Int.tmod (i64.wrap a0) (120:Int)))) > (256:Int)))) z z z (wl_nil (tn ?_)))))
 refine bsplit (decide ((i64.wrap ((200:Int) + (Int.tmod (i64.wrap a0) (120:Int)))) > (256:Int))) (fun hc196 => ?_) (fun hc196 => ?_)
 {
 replace hm := bif_t hc196 hm
 refine wp_ift (cvb hc196) ?_
 refine wrl (wv (.int .i64 (i64.wrap ((200:Int) + (Int.tmod (i64.wrap a0) (120:Int))))) z z z (wv (.int .i64 (i64.wrap ((i64.wrap ((200:Int) + (Int.tmod (i64.wrap a0) (120:Int)))) - (256:Int)))) z z z (wv (.int .i64 (i64.wrap ((i64.wrap ((200:Int) + (Int.tmod (i64.wrap a0) (120:Int)))) - (256:Int)))) z z z (wl_nil (tn ?_)))))
 replace hst := hst.pull1.pull1.keep2
 obtain rfl := some_inj hm
 exact ⟨(i64.wrap ((i64.wrap ((200:Int) + (Int.tmod (i64.wrap a0) (120:Int)))) - (256:Int))), _, hx201, (fu 3 v126 z (fu 5 (Pt b129 0) z (fu 6 (.int .i64 (i64.wrap ((200:Int) + (Int.tmod (i64.wrap a0) (120:Int))))) z (fu 8 (.int .i64 (i64.wrap ((i64.wrap ((200:Int) + (Int.tmod (i64.wrap a0) (120:Int)))) - (256:Int)))) z z)))), hst⟩
}
 {
 replace hm := bif_f hc196 hm
 refine wp_iff (cvb hc196) ?_
 refine wp_skip (tn ?_)
 replace hst := hst.pull1.pull1.keep2
 obtain rfl := some_inj hm
 exact ⟨(0:Int), _, hx201, (fu 3 v126 z (fu 5 (Pt b129 0) z (fu 6 (.int .i64 (i64.wrap ((200:Int) + (Int.tmod (i64.wrap a0) (120:Int))))) z (fu 8 (.int .i64 (0:Int)) z z)))), hst⟩
}
}
 {
 clear hst
 rintro _ w202 ⟨z197, σ198, hm, rfl, hst⟩
 dsimp only [law21_NetMost_j2] at hm
 refine wp_seq (wrl (wv (v126) z z z (wv (.agg #[I6 (2:Int), Zi, I6 (1:Int)]) z z (x_loadN (cs := [I6 (2:Int), Zi, I6 (1:Int)]) z isAgg23 sizeOf23 (hst.bcs1 0 z)) ?_)))
 obtain ⟨t203, ht204, hm⟩ := bind_some hm
 refine wc call10 [v126, .agg #[I6 (2:Int), Zi, I6 (1:Int)], Zi] z z z ?_
 refine (net_Net_Double_ref hst.to1 ht204).mono ?_
 rintro _ w205 ⟨I206, rfl, hI207, hst⟩
 refine ⟨_, z, ?_⟩
 replace hst := hst.of1
 replace hI0 := hI0.trans hI207
 refine wv (.bool t203.1) z z z (wl_nil (tn (wp_seq (wrl (wv (v126) z z z (wv (.agg #[I6 (2:Int), Zi, I6 (1:Int)]) z z (x_loadN (cs := [I6 (2:Int), Zi, I6 (1:Int)]) z isAgg23 sizeOf23 (hst.bcs1 0 z)) ?_))))))
 obtain ⟨t208, ht209, hm⟩ := bind_some hm
 refine wc call9 [v126, .agg #[I6 (2:Int), Zi, I6 (1:Int)], Zi] z z z ?_
 refine (net_Net_Take_ref hst.to1 ht209).mono ?_
 rintro _ w210 ⟨I211, v213, rfl, hI212, f215, hst⟩
 refine ⟨_, z, ?_⟩
 replace hst := hst.of1
 replace hI0 := hI0.trans hI212
 refine wv (.tuple #[v213, .bool t208.2.1]) z z z (wv (v213) z z z (wv (.bool t208.2.1) z z z (wv (v213) z z z (wv (.bool t208.2.1) z z z (wl_nil (tn (wp_seq (wrl (wv (.bool t203.1) z z z (wv (.int .i64 (i64.wrap ((200:Int) + (Int.tmod (i64.wrap a0) (120:Int))))) z z z (wv (.bool (decide ((i64.wrap ((200:Int) + (Int.tmod (i64.wrap a0) (120:Int)))) < (256:Int)))) z z z (wv (.bool (t203.1 == (decide ((i64.wrap ((200:Int) + (Int.tmod (i64.wrap a0) (120:Int)))) < (256:Int))))) z z (by kernel_rfl) (wv (.bool (t203.1 == (decide ((i64.wrap ((200:Int) + (Int.tmod (i64.wrap a0) (120:Int)))) < (256:Int))))) z z z ?_)))))))))))))
 refine bsplit (t203.1 == (decide ((i64.wrap ((200:Int) + (Int.tmod (i64.wrap a0) (120:Int)))) < (256:Int)))) (fun hc216 => ?_) (fun hc216 => ?_)
 {
 replace hm := bif_t hc216 hm
 refine wv (.bool t208.2.1) ((wanted_eq z z z (cvb hc216)).trans z) z z (wv (.bool t208.2.1) z z (x_pick_t hc216 z z) (wv (.bool t208.2.1) z z z ?_))
 refine bsplit t208.2.1 (fun hc217 => ?_) (fun hc217 => ?_)
 {
 replace hm := bif_t hc217 hm
 refine wv (v213) ((wanted_eq z z z (cvb hc217)).trans z) z z ?_
 obtain ⟨x218, hx219, hm⟩ := bind_some hm
 obtain ⟨h220, h221, hi222⟩ := geto_some hx219
 refine wv (.pointer (some (eAddr v213 ((0:Int).toNat * 1 + 0)))) ((wanted_eq z z z (cvb hc217)).trans z) z (x_index z z underlying24 sizeOf5 (ro_sliceV f215) h220 h221) (wv (.int .u8 x218) ((wanted_eq z z z (cvb hc217)).trans z) z (x_load z isAgg5 (ro_load f215 hst hi222 (by rintro _ rfl; rfl))) (wv (.int .i64 z197) ((wanted_eq z z z (cvb hc217)).trans z) z z (wv (.int .u8 (u8.wrap z197)) ((wanted_eq z z z (cvb hc217)).trans z) z (by kernel_rfl) (wv (.bool (x218 == (u8.wrap z197))) ((wanted_eq z z z (cvb hc217)).trans z) z z (wv (.bool (x218 == (u8.wrap z197))) z z (x_pick_t hc217 z z) (wv (.bool (x218 == (u8.wrap z197))) z z z ?_))))))
 refine bsplit (x218 == (u8.wrap z197)) (fun hc223 => ?_) (fun hc223 => ?_)
 {
 replace hm := bif_t hc223 hm
 refine wv (v213) ((wanted_eq z z z (cvb hc223)).trans z) z z ?_
 obtain ⟨x224, hx225, hm⟩ := bind_some hm
 obtain ⟨h226, h227, hi228⟩ := geto_some hx225
 refine wv (.pointer (some (eAddr v213 ((1:Int).toNat * 1 + 0)))) ((wanted_eq z z z (cvb hc223)).trans z) z (x_index z z underlying24 sizeOf5 (ro_sliceV f215) h226 h227) (wv (.int .u8 x224) ((wanted_eq z z z (cvb hc223)).trans z) z (x_load z isAgg5 (ro_load f215 hst hi228 (by rintro _ rfl; rfl))) (wv (.int .i64 z197) ((wanted_eq z z z (cvb hc223)).trans z) z z (wv (.int .i64 (i64.wrap (Int.tdiv z197 (256:Int)))) ((wanted_eq z z z (cvb hc223)).trans z) z (x_quo (by decide) z z) (wv (.int .u8 (u8.wrap (i64.wrap (Int.tdiv z197 (256:Int))))) ((wanted_eq z z z (cvb hc223)).trans z) z (by kernel_rfl) (wv (.bool (x224 == (u8.wrap (i64.wrap (Int.tdiv z197 (256:Int)))))) ((wanted_eq z z z (cvb hc223)).trans z) z z (wv (.bool (x224 == (u8.wrap (i64.wrap (Int.tdiv z197 (256:Int)))))) z z (x_pick_t hc223 z z) (wv (.bool (x224 == (u8.wrap (i64.wrap (Int.tdiv z197 (256:Int)))))) z z z (wl_nil (tn (wp_ret ?_))))))))))
 obtain rfl := some_inj hm
 refine post_ret (vs := [.bool (x224 == (u8.wrap (i64.wrap (Int.tdiv z197 (256:Int)))))]) results4 (rvs_cons (rv_tmp z) rvs_nil) ?_
 exact ⟨_, z, hI0, hst.keep0⟩
}
 {
 replace hm := bif_f hc223 hm
 refine wo hc223 z z z z z z (wo hc223 z z z z z z (wo hc223 z z z z z z (wo hc223 z z z z z z (wo hc223 z z z z z z (wo hc223 z z z z z z (wo hc223 z z z z z z (wv (.bool false) z z (x_pick_f hc223 z z) (wv (.bool false) z z z (wl_nil (tn (wp_ret ?_)))))))))))
 obtain rfl := some_inj hm
 refine post_ret (vs := [.bool false]) results4 (rvs_cons (rv_tmp z) rvs_nil) ?_
 exact ⟨_, z, hI0, hst.keep0⟩
}
}
 {
 replace hm := bif_f hc217 hm
 refine wo hc217 z z z z z z (wo hc217 z z z z z z (wo hc217 z z z z z z (wo hc217 z z z z z z (wo hc217 z z z z z z (wo hc217 z z z z z z (wv (.bool false) z z (x_pick_f hc217 z z) (wv (.bool false) z z z (wz z z z z z z (wz z z z z z z (wz z z z z z z (wz z z z z z z (wz z z z z z z ?_))))))))))))
 refine wz z z z z z z (wz z z z z z z (wv (.bool false) z z (x_pick_f z z z) (wv (.bool false) z z z (wl_nil (tn (wp_ret ?_))))))
 obtain rfl := some_inj hm
 refine post_ret (vs := [.bool false]) results4 (rvs_cons (rv_tmp z) rvs_nil) ?_
 exact ⟨_, z, hI0, hst.keep0⟩
}
}
 {
 replace hm := bif_f hc216 hm
 refine wo hc216 z z z z z z (wv (.bool false) z z (x_pick_f hc216 z z) (wv (.bool false) z z z (wz z z z z z z (wz z z z z z z (wz z z z z z z (wz z z z z z z (wz z z z z z z (wz z z z z z z (wv (.bool false) z z (x_pick_f z z z) (wv (.bool false) z z z (wz z z z z z z (wz z z z z z z ?_))))))))))))
 refine wz z z z z z z (wz z z z z z z (wz z z z z z z (wz z z z z z z (wz z z z z z z (wv (.bool false) z z (x_pick_f z z z) (wv (.bool false) z z z (wl_nil (tn (wp_ret ?_)))))))))
 obtain rfl := some_inj hm
 refine post_ret (vs := [.bool false]) results4 (rvs_cons (rv_tmp z) rvs_nil) ?_
 exact ⟨_, z, hI0, hst.keep0⟩
}
}
}
}
}

end Go.Proofs.Ytbdbeenkamcglaa
